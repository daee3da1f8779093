/- Nc, Nd, Ne, Gd, Ge, Gu, Gv, Gw, Gx, Nf, Ng, Nh, Ni, Nk, Nl, Gf, Gj, Gk, Gh, Gl, Gm, Gr, Gq, Gp, Gs, Gy, Gz, Ha, Hb, Hd, Hf, Hg, Hh, Hi, Hj, Hl, Hm, Hn, Hr, Hv, Hx, Ia, Ic, Ie, If, T: texts of this claim, joined; what the claim does not come to is left out. -/
import Derived.Test.YtjnbnlniafmblaaGreatQB1
import Derived.Test.YtjnbnlniafmblaaGreatProg
set_option linter.unusedVariables false
set_option linter.unusedSimpArgs false
namespace Go.Proofs.YtjnbnlniafmblaaGreat
open Go Go.RowKit
section
structure FQ (p:List Fn):Prop where
 par:∀k,k<p.length→0≤(p.getD k Fn.zero).params∧(p.getD k Fn.zero).params≤12
 outs:∀k,k<p.length→1≤(p.getD k Fn.zero).outs.length∧(p.getD k Fn.zero).outs.length≤12
 deep:∀k,k<p.length→∀j,j<(p.getD k Fn.zero).outs.length→((p.getD k Fn.zero).outs.getD j Ex.zero).deep≤60
 wf:∀k,k<p.length→∀j,j<(p.getD k Fn.zero).outs.length→wf p ((k:Nat):Int) ((p.getD k Fn.zero).outs.getD j Ex.zero) (p.getD k Fn.zero).params=true
theorem BH {x a b:Int}:Ff x a b=true↔a≤x∧x≤b:=by unfold Ff;simp
theorem CZ {p:List Fn}{F vars:Int}{e:Ex}(h:HA p F vars e=true) :
  (e.kind=1∨e.kind=2∨e.kind=3∨e.kind=4∨e.kind=5∨e.kind=6∨e.kind=7∨e.kind=8∨e.kind=9∨e.kind=10∨e.kind=11) ∧
  (e.kind=2→0≤e.num∧e.num≤vars-1)∧(e.kind=3∨e.kind=4∨e.kind=5∨e.kind=6∨e.kind=9→e.kids.length=2)∧(e.kind=7→e.kids.length=1)∧(e.kind=8→e.kids.length=3) ∧
  (e.kind=10∨e.kind=11→0≤e.num∧e.num≤F-1∧(e.kids.length:Int)=(p.getD e.num.toNat Fn.zero).params∧0≤e.pick∧e.pick≤((p.getD e.num.toNat Fn.zero).outs.length:Int)-1) ∧
  (e.kind=11→((p.getD e.num.toNat Fn.zero).outs.length:Int)=(p.getD e.num.toNat Fn.zero).params∧0≤e.count∧e.count≤8)∧(e.kind=1→0≤e.num∧e.num<1000003):=by
 unfold HA at h
 split at h
 ·simp only[z7,decide_eq_true_eq,CI]at h;omega
 ·split at h
  ·simp only[z7,decide_eq_true_eq,BH]at h;omega
  ·split at h
   ·simp only[z7,decide_eq_true_eq]at h;omega
   ·split at h
    ·simp only[z7,decide_eq_true_eq]at h;omega
    ·split at h
     ·simp only[z7,decide_eq_true_eq]at h;omega
     ·split at h
      ·simp only[z7,decide_eq_true_eq,BH]at h
       obtain⟨h1,h2,h3,h4⟩:=h
       split at h4
       ·simp only[decide_eq_true_eq]at h4;omega
       ·simp only[z7,decide_eq_true_eq,BH]at h4;omega
      ·cases h
theorem CU {p:List Fn}{F vars:Int}{e:Ex}(h:wf p F e vars=true):HA p F vars e=true:=by
 rw[NB,z7]at h;exact h.1
theorem XJ {p:List Fn}{F vars:Int}{e:Ex}(h:wf p F e vars=true){j:Nat}(hj:j<e.kids.length):wf p F (e.kids.getD j Ex.zero) (if e.kind=9∧j=1 then vars+1 else vars)=true:=by
 rw[NB,z7]at h
 have:=(LM p F _ vars e.kids 0).1 h.2 j hj
 rw[Nat.zero_add]at this
 simpa only[decide_eq_true_eq]using this
theorem C1 {p:List Fn}{F vars:Int}{e:Ex}(h:wf p F e vars=true){j:Nat}(hj:j<e.kids.length)(hn:¬(e.kind=9∧j=1)):wf p F (e.kids.getD j Ex.zero) vars=true:=by
 have:=XJ h hj
 rwa [if_neg hn]at this
theorem HC {p:List Fn}{F vars:Int}{e:Ex}(h:wf p F e vars=true)(hj:1<e.kids.length)(hk:e.kind=9):wf p F (e.kids.getD 1 Ex.zero) (vars+1)=true:=by
 have:=XJ h hj
 rwa [if_pos ⟨hk,rfl⟩]at this
section
variable {p:List Fn} {F:Nat} {vars:Int} {e:Ex}
theorem Mh (h:wf p ((F:Nat):Int) e vars=true)(hk:e.kind=1):0≤e.num∧e.num<1000003:=(CZ (CU h)).2.2.2.2.2.2.2 hk
theorem Mi (h:wf p ((F:Nat):Int) e vars=true)(hk:e.kind=2):0≤e.num∧e.num≤vars-1:=(CZ (CU h)).2.1 hk
theorem Pe (h:wf p ((F:Nat):Int) e vars=true)(hk:e.kind=8):e.kids.length=3:=(CZ (CU h)).2.2.2.2.1 hk
theorem Mj (h:wf p ((F:Nat):Int) e vars=true)(hk:e.kind=9):e.kids.length=2:=(CZ (CU h)).2.2.1 zO
theorem Oh (h:wf p ((F:Nat):Int) e vars=true)(hk:e.kind=7):e.kids.length=1:=(CZ (CU h)).2.2.2.1 hk
theorem Jm (h:wf p ((F:Nat):Int) e vars=true)(hk:e.kind=3∨e.kind=4∨e.kind=5∨e.kind=6):e.kids.length=2:=(CZ (CU h)).2.2.1 zO
theorem FY (h:wf p ((F:Nat):Int) e vars=true)(hk:e.kind=10∨e.kind=11):(0≤e.num∧e.num≤((F:Nat):Int)-1)∧(e.kids.length:Int)=(p.getD e.num.toNat Fn.zero).params∧(0≤e.pick∧e.pick≤((p.getD e.num.toNat Fn.zero).outs.length:Int)-1):=by
 have:=(CZ (CU h)).2.2.2.2.2.1 hk
 exact⟨⟨this.1,this.2.1⟩,this.2.2.1,this.2.2.2⟩
theorem Kg (h:wf p ((F:Nat):Int) e vars=true)(hk:e.kind=11):((p.getD e.num.toNat Fn.zero).outs.length:Int)=(p.getD e.num.toNat Fn.zero).params∧(0≤e.count∧e.count≤8):=(CZ (CU h)).2.2.2.2.2.2.1 hk
theorem Z6 (h:wf p ((F:Nat):Int) e vars=true)(hk:(e.kind≠1∧e.kind≠2∧e.kind≠8∧e.kind≠9)∧(e.kind≠10∧e.kind≠11∧e.kind≠3∧e.kind≠4∧e.kind≠5∧e.kind≠7)):e.kind=6:=by
 have:=(CZ (CU h)).1
 omega
theorem Z7 (h:wf p ((F:Nat):Int) e vars=true)(hk:(e.kind≠1∧e.kind≠2∧e.kind≠7∧e.kind≠8)∧(e.kind≠9∧e.kind≠10∧e.kind≠11)):e.kind=3∨e.kind=4∨e.kind=5∨e.kind=6:=by
 have:=(CZ (CU h)).1
 omega
theorem Oi (h:wf p ((F:Nat):Int) e vars=true)(hv:FQ p)(hF:F≤p.length):e.kids.length≤12:=by
 have hq:=CZ<|CU h
 by_cases h10:e.kind=10∨e.kind=11
 ·have h1:=FY h h10
  have:=hv.par e.num.toNat zO
  omega
 ·have h1:=hq.1;have h2:=hq.2.2.1;have h3:=hq.2.2.2.1;have h4:=hq.2.2.2.2.1
  by_cases hl:e.kind=1∨e.kind=2
  ·have h5:=CU h
   unfold HA at h5
   rcases hl with hl|hl
   ·rw[if_pos hl]at h5;simp only[z7,decide_eq_true_eq]at h5;omega
   ·rw[if_neg zO,if_pos hl]at h5;simp only[z7,decide_eq_true_eq]at h5;omega
  ·omega
end
section
variable {n:Nat} {C:Ca} {e:Ex} {env:List Sr} {s s1 s2:Nat} {c c1 c2:Int} {x y:Sr} {xs ys:List Sr}
theorem DX (hc:c≠0){r:Rs Sr}:AL (go c r) x s c:=AL.mk_err (DG hc r) hc
theorem CW (hc:c=0)(hs:s=3000):AL (go c (CJ n C e env s)) x s1 7:=by
 subst hc;rw[CT,FH,if_pos (by omega)];exact AL.mk_err rfl (by decide)
theorem Fh (hc:c=0)(hs:s+1≤3000)(hk:e.kind=1):AL (go c (CJ n C e env s)) (cst n e.num) (s+1) c:=by
 subst hc;rw[CT,FH,if_neg zO,if_pos hk];exact AL.mk_ok rfl
theorem Fi (hc:c=0)(hs:s+1≤3000)(hk:e.kind=2):AL (go c (CJ n C e env s)) (env.getD e.num.toNat []) (s+1) c:=by
 subst hc;rw[CT,FH,if_neg zO,if_neg zO,if_pos hk];exact AL.mk_ok rfl
theorem Fj (hc:c=0)(hs:s+1≤3000)(hk:e.kind=8)(hl:e.kids.length=3)(h1:AL (go c (CJ n C (e.kids.getD 0 Ex.zero) env (s+1))) x s1 c1)(hx:x.getD 0 0=0)
  (h2:AL (go c1 (CJ n C (e.kids.getD 1 Ex.zero) env s1)) y s2 c2):AL (go c (CJ n C e env s)) y s2 c2:=by
 subst hc
 rw[CT,FH,if_neg zO,if_neg zO,if_neg zO,if_pos hk,DS _ _ _ _ _ _ (by omega)]
 rw[CT]at h1
 by_cases h0:c1=0
 ·subst h0;rw[h1.bindO,if_pos hx,DS _ _ _ _ _ _ (by omega)];exact h2
 ·rw[h1.bindE h0];rw[DG h0]at h2;exact h2
theorem Fk (hc:c=0)(hs:s+1≤3000)(hk:e.kind=8)(hl:e.kids.length=3)(h1:AL (go c (CJ n C (e.kids.getD 0 Ex.zero) env (s+1))) x s1 c1)(hx:¬x.getD 0 0=0)
  (h2:AL (go c1 (CJ n C (e.kids.getD 2 Ex.zero) env s1)) y s2 c2):AL (go c (CJ n C e env s)) y s2 c2:=by
 subst hc
 rw[CT,FH,if_neg zO,if_neg zO,if_neg zO,if_pos hk,DS _ _ _ _ _ _ (by omega)]
 rw[CT]at h1
 by_cases h0:c1=0
 ·subst h0;rw[h1.bindO,if_neg hx,DS _ _ _ _ _ _ (by omega)];exact h2
 ·rw[h1.bindE h0];rw[DG h0]at h2;exact h2
theorem Fl (hc:c=0)(hs:s+1≤3000)(hk:e.kind=9)(hl:e.kids.length=2)(h1:AL (go c (CJ n C (e.kids.getD 0 Ex.zero) env (s+1))) x s1 c1)
  (h2:AL (go c1 (CJ n C (e.kids.getD 1 Ex.zero) (env++[x]) s1)) y s2 c2):AL (go c (CJ n C e env s)) y s2 c2:=by
 subst hc
 rw[CT,FH,if_neg zO,if_neg zO,if_neg zO,if_neg zO,if_pos hk,DS _ _ _ _ _ _ (by omega)]
 rw[CT]at h1
 by_cases h0:c1=0
 ·subst h0;rw[h1.bindO,DS _ _ _ _ _ _ (by omega)];exact h2
 ·rw[h1.bindE h0];rw[DG h0]at h2;exact h2
theorem Ik (hs : s + 1 ≤ 3000) (h1 : e.kind ≠ 1) (h2 : e.kind ≠ 2) (h8 : e.kind ≠ 8) (h9 : e.kind ≠ 9) : CJ n C e env s = (DC n C e.kids env (s + 1)).bind fun xs t =>
      if e.kind = 10 then C.one e.num.toNat e.pick.toNat xs t
      else if e.kind = 11 then (IM (C.all e.num.toNat) e.count.toNat xs t).bind fun ys u=>.ok (ys.getD e.pick.toNat []) u
      else LQ e.kind xs t:=by
  rw [FH,if_neg zO,if_neg h1,if_neg h2,if_neg h8,if_neg h9]
theorem Dr (hc:c=0)(hs:s+1≤3000)(h1:e.kind≠1)(h2:e.kind≠2)(h8:e.kind≠8)(h9:e.kind≠9)(hr:AL (go c (DC n C e.kids env (s+1))) xs s1 c1)(hc1:c1≠0):AL (go c (CJ n C e env s)) x s2 c1:=by
 subst hc
 rw[CT]at hr ⊢
 rw[Ik hs h1 h2 h8 h9,hr.bindE hc1];exact AL.mk_err rfl hc1
theorem Eu {p:List Fn}{F:Nat}(hc:c=0)(hs:s+1≤3000)(hk:e.kind=10)(hF:e.num.toNat<F)(hr:AL (go c (DC n (EO p n F) e.kids env (s+1))) xs s1 c1)(hc1:c1=0)
  (h2:AL (go c1 (CJ n (EO p n e.num.toNat) ((p.getD e.num.toNat Fn.zero).outs.getD e.pick.toNat Ex.zero) xs s1)) y s2 c2):AL (go c (CJ n (EO p n F) e env s)) y s2 c2:=by
 subst hc;subst hc1
 rw[CT]at hr h2 ⊢
 rw[Ik hs zO zO zO zO,hr.bindO,if_pos hk,Og hF];exact h2
theorem Ev {p:List Fn}{F:Nat}(hc:c=0)(hs:s+1≤3000)(hk:e.kind=11)(hF:e.num.toNat<F)(hr:AL (go c (DC n (EO p n F) e.kids env (s+1))) xs s1 c1)(hc1:c1=0)
  (h2:AL (IM (fun a t=>DC n (EO p n e.num.toNat) (p.getD e.num.toNat Fn.zero).outs a t) e.count.toNat xs s1) ys s2 c2):AL (go c (CJ n (EO p n F) e env s)) (ys.getD e.pick.toNat []) s2 c2:=by
 subst hc;subst hc1
 rw[CT]at hr ⊢
 rw[Ik hs zO zO zO zO,hr.bindO,if_neg zO,if_pos hk]
 have hl:(EO p n F).all e.num.toNat=fun a t=>DC n (EO p n e.num.toNat) (p.getD e.num.toNat Fn.zero).outs a t:=funext fun a=>funext fun t=>HB hF
 rw[hl]
 by_cases h0:c2=0
 ·subst h0;rw[h2.bindO];exact AL.mk_ok rfl
 ·rw[h2.bindE h0];exact AL.mk_err rfl h0
theorem Bl (hc:c=0)(hs:s+1≤3000)(h1:e.kind≠1)(h2:e.kind≠2)(h8:e.kind≠8)(h9:e.kind≠9)(h10:e.kind≠10)(h11:e.kind≠11)(hr:AL (go c (DC n C e.kids env (s+1))) xs s1 c1)(hc1:c1=0)
  (h:AL (LQ e.kind xs s1) y s2 c2):AL (go c (CJ n C e env s)) y s2 c2:=by
 subst hc;subst hc1
 rw[CT]at hr ⊢
 rw[Ik hs h1 h2 h8 h9,hr.bindO,if_neg h10,if_neg h11];exact h
theorem GS {k:Int}(hk:k=3):AL (LQ k xs s) (Cq (xs.getD 0 []) (xs.getD 1 [])) s 0:=by subst hk;exact AL.mk_ok rfl
theorem GT {k:Int}(hk:k=4):AL (LQ k xs s) (EK (xs.getD 0 []) (xs.getD 1 [])) s 0:=by subst hk;exact AL.mk_ok rfl
theorem GU {k:Int}(hk:k=5):AL (LQ k xs s) (Ce (xs.getD 0 []) (xs.getD 1 [])) s 0:=by subst hk;exact AL.mk_ok rfl
theorem GV {k:Int}(hk:k=7):AL (LQ k xs s) (CL (xs.getD 0 []) 1000002) s 0:=by subst hk;exact AL.mk_ok rfl
theorem Fm {k:Int}(hk:k=6)(hz:(xs.getD 1 []).getD 0 0=0):AL (LQ k xs s) x s1 6:=by
 subst hk
 have:LQ 6 xs s=.err 6:=by
  show(if (xs.getD 1 []).getD 0 0=0 then _ else _)=_
  rw[if_pos hz]
 exact AL.mk_err this (by decide)
theorem GW {k:Int}(hk:k=6)(hz:¬(xs.getD 1 []).getD 0 0=0):AL (LQ k xs s) (BT (xs.getD 0 []) (xs.getD 1 [])) s 0:=by
 subst hk
 have:LQ 6 xs s=.ok (BT (xs.getD 0 []) (xs.getD 1 [])) s:=by
  show(if (xs.getD 1 []).getD 0 0=0 then _ else _)=_
  rw[if_neg hz]
 exact AL.mk_ok this
theorem Hd {l:List Ex}{k:Nat}(hk:k<l.length)(h:AL (go c (DC n C (l.take k) env s)) xs s1 c1)(h2:AL (go c1 (CJ n C (l.getD k Ex.zero) env s1)) x s2 c2) :
  AL (go c (DC n C (l.take (k+1)) env s)) (xs++[x]) s2 c2:=by
 by_cases hc:c=0
 ·subst hc
  rw[CT]at h ⊢
  rw[Tr hk]
  by_cases h0:c1=0
  ·subst h0
   rw[CT]at h2
   rw[h.bindO]
   by_cases h3:c2=0
   ·subst h3;rw[h2.bindO];exact AL.mk_ok rfl
   ·rw[h2.bindE h3];exact AL.mk_err rfl h3
  ·rw[h.bindE h0];rw[DG h0]at h2;exact AL.mk_err (by rw[h2.1]) (by rw[h2.1];exact h2.2)
 ·rw[DG hc]at h ⊢
  have hc1:c1≠0:=by rw[h.1];exact hc
  rw[DG hc1]at h2
  exact AL.mk_err (by rw[h2.1,h.1]) (by rw[h2.1];exact hc1)
theorem VH {f:List Sr→Nat→Rs (List Sr)}{k:Nat}(h:AL (IM f k xs s) ys s1 c1)(hc:c1=0){zs:List Sr}(h2:AL (go c1 (f ys s1)) zs s2 c2):AL (IM f (k+1) xs s) zs s2 c2:=by
 subst hc
 show AL ((IM f k xs s).bind f) _ _ _
 rw[h.bindO];rw[CT]at h2;exact h2
theorem R3 {f:List Sr→Nat→Rs (List Sr)} {d:Int}:∀ {m k:Nat},IM f k xs s = .err d→k≤m→IM f m xs s = .err d
  | 0, k, h, hk => by have : k = 0 := by omega
                      subst this; exact h
  | m + 1,k,h,hk=>by
    by_cases e:k = m + 1
    · subst e; exact h
    · show (IM f m xs s).bind f = _
      rw [R3 h (by omega)]; rfl
theorem Ew {f:List Sr→Nat→Rs (List Sr)}{k m:Nat}(h:AL (IM f k xs s) ys s1 c1)(hk:k≤m)(hs:k=m∨c1≠0):AL (IM f m xs s) ys s1 c1:=by
 by_cases hc:c1=0
 ·rcases hs with rfl|hh
  ·exact h
  ·exact absurd hc hh
 ·exact AL.mk_err (R3 (h.err hc) hk) hc
end
theorem He (n:Nat)(C:Ca)(l:List Ex)(env:List Sr)(s:Nat)(c:Int):AL (go c (DC n C (l.take 0) env s)) [] s c:=by
 rw[List.take_zero,DC]
 by_cases h:c=0
 ·subst h;exact AL.mk_ok rfl
 ·exact AL.mk_err (DG h _) h
theorem Hf {n:Nat}{a b:Sr}(ha:Cv n a):Cv n (Cq a b):=⟨by unfold Cq;rw[Fe];exact ha.1,Ih _ _⟩
theorem Mk {n:Nat}{a b:Sr}(ha:Cv n a):Cv n (EK a b):=⟨by rw[Gg];exact ha.1,Ii _ _⟩
theorem Hg {n:Nat}{a b:Sr}(ha:Cv n a):Cv n (Ce a b):=⟨by unfold Ce;rw[Fe];exact ha.1,Ge _ _⟩
theorem Gi {n:Nat}{a b:Sr}(ha:Cv n a):Cv n (BT a b):=⟨by rw[Dl];exact ha.1,Fw _ _⟩
theorem Ml {n:Nat}{a:Sr}{y:Int}(ha:Cv n a):Cv n (CL a y):=⟨by unfold CL;rw[Fe];exact ha.1,Fy _ _⟩
end
section
def Ib (p:List Fn)(n f:Nat)(a:List Sr):List Sr:=match ev p n f a with
 |.ok xs _=>xs
 |.err _=>[]
def NG (p:List Fn)(n f:Nat)(a:List Sr):Nat:=match ev p n f a with
 |.ok _ s=>s
 |.err _=>0
def HD (p:List Fn)(n f:Nat)(a:List Sr):Int:=match ev p n f a with
 |.ok _ _=>0
 |.err c=>c
section
variable {p:List Fn} {n f s:Nat} {a x:List Sr} {c:Int}
theorem Mm (h:AL (go 0 (DC n (EO p n f) (p.getD f Fn.zero).outs a 0)) x s c)(hc:c=0):ev p n f a=.ok x s:=by subst hc;exact h.ok
theorem Jn (h:AL (go 0 (DC n (EO p n f) (p.getD f Fn.zero).outs a 0)) x s c)(hc:c≠0):ev p n f a=.err c:=h.err hc
theorem Kh (h:ev p n f a=.ok x s):Ib p n f a=x:=by unfold Ib;rw[h]
theorem R4 (h:ev p n f a=.ok x s):NG p n f a=s:=by unfold NG;rw[h]
theorem Mn (h:ev p n f a=.ok x s):HD p n f a=0:=by unfold HD;rw[h]
theorem Pf (h:ev p n f a=.err c):Ib p n f a=[]:=by unfold Ib;rw[h]
theorem R5 (h:ev p n f a=.err c):NG p n f a=0:=by unfold NG;rw[h]
theorem Il (h:ev p n f a=.err c):HD p n f a=c:=by unfold HD;rw[h]
end
structure SD (p:List Fn)(n f:Nat)(a:List Sr):Prop where
 code:0≤HD p n f a∧HD p n f a≤9
 steps:NG p n f a≤3000
 len:HD p n f a=0→(Ib p n f a).length=(p.getD f Fn.zero).outs.length
 ser:BZ n (Ib p n f a)
 non:HD p n f a≠0→Ib p n f a=[]
theorem SD.mk' {p:List Fn}{n f s:Nat}{a x:List Sr}{c:Int}(h:AL (go 0 (DC n (EO p n f) (p.getD f Fn.zero).outs a 0)) x s c)(hc:0≤c∧c≤9)(hs:s≤3000)(hl:x.length=(p.getD f Fn.zero).outs.length)(hx:BZ n x):SD p n f a:=by
 by_cases h0:c=0
 ·have e:=Mm h h0
  exact⟨by rw[Mn e];omega,by rw[R4 e];exact hs,fun _=>by rw[Kh e];exact hl,by rw[Kh e];exact hx,fun hh=>absurd (Mn e) hh⟩
 ·have e:=Jn h h0
  exact⟨by rw[Il e];exact hc,by rw[R5 e];omega,fun hh=>absurd (by rw[← hh,Il e]) h0,by rw[Pf e];intro k hk;simp at hk,fun _=>Pf e⟩
end
def XK (s:ByteArray)(i:Nat):Bool:=(decide (97≤KL s i) && decide (KL s i≤122)) || (decide (i≠0) && (decide (48≤KL s i) && decide (KL s i≤57)))
def LR (s:ByteArray):Bool:=(decide (1≤s.size) && decide (s.size≤12)) && (List.range s.size).all (XK s)
def Ng (p:List Fn)(e:Ex)(vars funcs:Int):Bool :=
 Ff vars 0 412 && (Ff funcs 0 ((p.length:Nat):Int) && (decide (e.size≤400) && (decide (e.deep≤60) && wf p funcs e vars)))
def Sk (p:List Fn)(k:Nat):Bool:=!((p.take k).any fun g=>IV g.name (p.getD k Fn.zero).name)
def Ln (p:List Fn)(k:Nat):Bool :=
 (LR (p.getD k Fn.zero).name && Sk p k) && ((Ff (p.getD k Fn.zero).params 0 12 && Ff (((p.getD k Fn.zero).outs.length:Nat):Int) 1 12) &&
  ((List.range (p.getD k Fn.zero).outs.length).all (fun j=>Ng p ((p.getD k Fn.zero).outs.getD j Ex.zero) (p.getD k Fn.zero).params ((k:Nat):Int)) && decide (Ex.sizes (p.getD k Fn.zero).outs≤400)))
def GJ (p:List Fn):Bool:=decide (p.length≤16) && (List.range p.length).all (Ln p)
def PO (p:List Fn):Prop:=∀k,k<p.length→Ex.sizes (p.getD k Fn.zero).outs≤2000000∧(p.getD k Fn.zero).outs.length≤2000000∧(p.getD k Fn.zero).name.size≤2000000
theorem Eh {f:Nat→Bool}{k:Nat}(h:(List.range k).all f=true)(hk:f k=true):(List.range (k+1)).all f=true:=by
 rw[List.range_succ,List.all_append,h];simp[hk]
theorem KR {f:Nat→Bool}{k n:Nat}(hk:k<n)(h:f k=false):(List.range n).all f=false:=by
 rw[List.all_eq_false]
 exact⟨k,List.mem_range.2 hk,by simp[h]⟩
theorem R6 {f:Nat→Bool}{k n:Nat}(h:(List.range n).all f=true)(hk:k<n):f k=true:=zm.1 h k (List.mem_range.2 hk)
theorem Z8 {p:List Fn}(h:GJ p=true){k:Nat}(hk:k<p.length):Ln p k=true:=by
 unfold GJ at h
 rw[z7]at h
 exact R6 h.2 hk
theorem FZ {p:List Fn}(h:GJ p=true):FQ p:=by
 have h1:∀k,k<p.length→(0≤(p.getD k Fn.zero).params∧(p.getD k Fn.zero).params≤12)∧(1≤(p.getD k Fn.zero).outs.length∧(p.getD k Fn.zero).outs.length≤12) ∧
   ∀j,j<(p.getD k Fn.zero).outs.length→Ng p ((p.getD k Fn.zero).outs.getD j Ex.zero) (p.getD k Fn.zero).params ((k:Nat):Int)=true:=by
  intro k hk
  have:=Z8 h hk
  unfold Ln at this
  simp only[z7,BH]at this
  exact⟨this.2.1.1,zO,fun j hj=>R6 this.2.2.1 hj⟩
 have h2:∀k,k<p.length→∀j,j<(p.getD k Fn.zero).outs.length→((p.getD k Fn.zero).outs.getD j Ex.zero).deep≤60∧wf p ((k:Nat):Int) ((p.getD k Fn.zero).outs.getD j Ex.zero) (p.getD k Fn.zero).params=true:=by
  intro k hk j hj
  have:=(h1 k hk).2.2 j hj
  unfold Ng at this
  simp only[z7,decide_eq_true_eq]at this
  exact⟨this.2.2.2.1,this.2.2.2.2⟩
 exact⟨fun k hk=>(h1 k hk).1,fun k hk=>(h1 k hk).2.1,fun k hk j hj=>(h2 k hk j hj).1,fun k hk j hj=>(h2 k hk j hj).2⟩
section
mutual
def ZR:Ex→Bool
 |.mk k _ _ _ l=>(decide (k≠6) && decide (k≠8)) && PP l
def PP:List Ex→Bool
 |[]=>true
 |e::l=>ZR e && PP l
end
theorem Q6 (k n q c:Int)(l:List Ex):ZR (.mk k n q c l)=((decide (k≠6) && decide (k≠8)) && PP l):=by rw[ZR]
theorem Pg (l:List Ex)(e:Ex):PP (l++[e])=(PP l && ZR e):=by
 induction l with
 |nil=>rw[zl,PP,PP];simp[PP]
 |cons a l ih=>rw[List.cons_append,PP,PP,ih,Bool.and_assoc]
def Nh:Nat→Int
 |0=>1
 |d+1=>1+4*Nh d
def Im:Nat→Nat
 |0=>30
 |d+1=>50+4*Im d
def Z9:Nat→Int→Int
 |0,_=>0
 |n+1,k=>Z9 n k+k
def Sl:Nat→Nat→Nat
 |0,_=>0
 |n+1,k=>Sl n k+k
theorem IN:∀d,1≤Nh d
 |0=>by decide
 |d+1=>by have:=IN d;show 1≤1+4*Nh d;omega
theorem XL {d:Nat}(h:1≤d):Nh d=1+4*Nh (d-1):=by
 obtain⟨d,rfl⟩:∃k,d=k+1:=⟨d-1,zO⟩
 rfl
theorem aE {d:Nat}(h:1≤d):Im d=50+4*Im (d-1):=by
 obtain⟨d,rfl⟩:∃k,d=k+1:=⟨d-1,zO⟩
 rfl
theorem Q7:∀d,30≤Im d
 |0=>by decide
 |d+1=>by show 30≤50+4*Im d;omega
theorem Ph {i:Nat}{k:Int}(hk:0≤k)(hi:i≤4):0≤Z9 i k∧Z9 i k≤4*k:=by
 rcases i with _|_|_|_|_|i
 all_goals first|(exfalso;omega)|(simp only[Z9];omega)
theorem NH {i k:Nat}(hi:i≤4):Sl i k≤4*k:=by
 rcases i with _|_|_|_|_|i
 all_goals first|(exfalso;omega)|(simp only[Sl];omega)
structure OU (p:List Fn)(funcs vars:Int)(pl:Bool)(d:Nat)(l0 l1:Int)(ex:Ex):Prop where
 wf:wf p funcs ex vars=true
 sz:(ex.size:Int)+4*max l1 1≤1+4*max l0 1
 dp:ex.deep≤d+1
 pl:pl=true→ZR ex=true
 lo:l0-Nh d≤l1∧l1≤l0-1
structure Q8 (p:List Fn)(vars:Int)(ex:Ex):Prop where
 wf:∀funcs,wf p funcs ex vars=true
 sz:ex.size=1
 dp:ex.deep=1
 pl:ZR ex=true
structure aF (p:List Fn):Prop where
 len:p.length≤1000
 par:∀k,k<p.length→0≤(p.getD k Fn.zero).params∧(p.getD k Fn.zero).params≤4
 outs:∀k,k<p.length→1≤(p.getD k Fn.zero).outs.length∧(p.getD k Fn.zero).outs.length≤12
theorem Q8.num {p:List Fn}{vars n:Int}(h:0≤n∧n<1000003):Q8 p vars (.mk 1 n 0 0 []) :=
 ⟨fun funcs=>by
  rw[Ob rfl];unfold HA Ea
  simp[Ex.kind,Ex.pick,Ex.count,Ex.kids,Ex.num,CI];omega,by rw[Ex.size,Ex.sizes],by rw[Ex.deep,Ex.deeps],by rw[Q6];rfl⟩
theorem Q8.var {p:List Fn}{vars n:Int}(h:0≤n∧n<vars):Q8 p vars (.mk 2 n 0 0 []) :=
 ⟨fun funcs=>by
  rw[Ob rfl];unfold HA Ea
  simp[Ex.kind,Ex.pick,Ex.count,Ex.kids,Ex.num,BH];omega,by rw[Ex.size,Ex.sizes],by rw[Ex.deep,Ex.deeps],by rw[Q6];rfl⟩
theorem Q8.ok {p:List Fn}{vars funcs l0:Int}{ex:Ex}{pl:Bool}(h:Q8 p vars ex)(d:Nat):OU p funcs vars pl d l0 (l0-1) ex:=by
 have:=IN d
 exact⟨h.wf funcs,by rw[h.sz];omega,by rw[h.dp];omega,fun _=>h.pl,zO⟩
def kn (k:Int):Int:=if k=1∨k=2 then 0 else if k=3∨k=4∨k=5∨k=6∨k=9 then 2 else if k=7 then 1 else if k=8 then 3 else -1
structure R7 (p:List Fn)(funcs vars:Int)(pl:Bool)(k:Int)(d:Nat)(l0 l1:Int)(xs:List Ex)(i:Nat):Prop where
 len:xs.length=i
 wf:∀j,j<i→wf p funcs (xs.getD j Ex.zero) (if k=9∧j=1 then vars+1 else vars)=true
 sz:(Ex.sizes xs:Int)+4*max l1 1≤i+4*max l0 1
 dp:Ex.deeps xs≤d
 pl:pl=true→PP xs=true
 lo:l0-Z9 i (Nh (d-1))≤l1∧l1≤l0
theorem R7.nil (p:List Fn)(funcs vars:Int)(pl:Bool)(k:Int)(d:Nat)(l0:Int):R7 p funcs vars pl k d l0 l0 [] 0 :=
 ⟨rfl,fun j hj=>by omega,by rw[Ex.sizes];omega,by rw[Ex.deeps];omega,fun _=>by rw[PP],by show l0-0≤l0∧l0≤l0;omega⟩
theorem R7.snoc {p:List Fn}{funcs vars own:Int}{pl:Bool}{k:Int}{d:Nat}{l0 l1 l2:Int}{xs:List Ex}{i:Nat}{x:Ex}(h:R7 p funcs vars pl k d l0 l1 xs i)(hd:1≤d)
  (ho:own=if k=9∧i=1 then vars+1 else vars) (hx:OU p funcs own pl (d-1) l1 l2 x):R7 p funcs vars pl k d l0 l2 (xs++[x]) (i+1):=by
 have hlen:=h.len
 refine⟨by simp[hlen],fun j hj=>?_,?_,?_,fun hp=>?_,?_⟩
 ·by_cases e:j=i
  ·subst e
   rw[← hlen,I3 rfl,hlen,← ho];exact hx.wf
  ·rw[I2 (by omega)];exact h.wf j zO
 ·have h1:=h.sz;have h2:=hx.sz
  rw[Jg];omega
 ·have h1:=h.dp;have h2:=hx.dp
  rw[Jh];omega
 ·rw[Pg,h.pl hp,hx.pl hp];rfl
 ·have h1:=h.lo;have h2:=hx.lo
  have h3:Z9 (i+1) (Nh (d-1))=Z9 i (Nh (d-1))+Nh (d-1):=rfl
  omega
theorem R7.node {p:List Fn}{funcs vars:Int}{pl:Bool}{k num pick cnt:Int}{d i:Nat}{l0 l1:Int}{xs:List Ex}(h:R7 p funcs vars pl k d (l0-1) l1 xs i)(hd:1≤d)(hi:i≤4)(hl:2≤l0)
  (hp:pl=true→k≠6∧k≠8) (hw:HA p funcs vars (.mk k num pick cnt xs)=true):OU p funcs vars pl d l0 l1 (.mk k num pick cnt xs):=by
 have hn:=XL hd
 have ht:=Ph (k:=Nh (d-1)) (by have:=IN (d-1);omega) hi
 have h1:=h.lo;have h2:=h.sz
 refine⟨(Oc hw fun j hj=>?_).symm,?_,?_,fun hq=>?_,zO⟩
 ·exact h.wf j (by rw[← h.len];exact hj)
 ·rw[Ex.size];omega
 ·rw[Ex.deep];have:=h.dp;omega
 ·rw[Q6,h.pl hq,A5 (hp hq).1,A5 (hp hq).2];rfl
theorem Za {p:List Fn}{funcs vars k:Int}{xs:List Ex}(hk:k=3∨k=4∨k=5∨k=6∨k=7∨k=8∨k=9)(hl:((xs.length:Nat):Int)=kn k):HA p funcs vars (.mk k 0 0 0 xs)=true:=by
 have h2:k=3∨k=4∨k=5∨k=6∨k=9→xs.length=2:=fun h=>by
  have:kn k=2:=by unfold kn;rw[if_neg zO,if_pos (by omega)]
  omega
 have h1:k=7→xs.length=1:=fun h=>by
  have:kn k=1:=by unfold kn;rw[if_neg zO,if_neg zO,if_pos h]
  omega
 have h3:k=8→xs.length=3:=fun h=>by
  have:kn k=3:=by unfold kn;rw[if_neg zO,if_neg zO,if_neg zO,if_pos h]
  omega
 unfold HA Ea
 rcases hk with rfl|rfl|rfl|rfl|rfl|rfl|rfl
 ·simp[Ex.kind,Ex.pick,Ex.count,Ex.kids,Ex.num,h2]
 ·simp[Ex.kind,Ex.pick,Ex.count,Ex.kids,Ex.num,h2]
 ·simp[Ex.kind,Ex.pick,Ex.count,Ex.kids,Ex.num,h2]
 ·simp[Ex.kind,Ex.pick,Ex.count,Ex.kids,Ex.num,h2]
 ·simp[Ex.kind,Ex.pick,Ex.count,Ex.kids,Ex.num,h1]
 ·simp[Ex.kind,Ex.pick,Ex.count,Ex.kids,Ex.num,h3]
 ·simp[Ex.kind,Ex.pick,Ex.count,Ex.kids,Ex.num,h2]
theorem Zb {p:List Fn}{funcs vars k num pick cnt:Int}{xs:List Ex}(hk:(k=10∧cnt=0)∨(k=11∧((p.getD num.toNat Fn.zero).outs.length:Int)=(p.getD num.toNat Fn.zero).params∧0≤cnt∧cnt≤8))
  (hn:0≤num∧num<funcs) (hl:((xs.length:Nat):Int)=(p.getD num.toNat Fn.zero).params) (hq:0≤pick∧pick<((p.getD num.toNat Fn.zero).outs.length:Int)):HA p funcs vars (.mk k num pick cnt xs)=true:=by
 have h1:Ff num 0 (funcs-1)=true:=BH.2 zO
 have h2:Ff pick 0 (((p.getD num.toNat Fn.zero).outs.length:Int)-1)=true:=BH.2 zO
 have h6:decide ((xs.length:Int)=(p.getD num.toNat Fn.zero).params)=true:=A5 hl
 unfold HA
 rcases hk with⟨rfl,rfl⟩|⟨rfl,h3,h4⟩
 ·show(Ff num 0 (funcs-1) && (decide ((xs.length:Int)=(p.getD num.toNat Fn.zero).params) && (Ff pick 0 (((p.getD num.toNat Fn.zero).outs.length:Int)-1) && decide ((0:Int)=0))))=true
  rw[h1,h2,h6];rfl
 ·have h5:Ff cnt 0 8=true:=BH.2 h4
  show(Ff num 0 (funcs-1) && (decide ((xs.length:Int)=(p.getD num.toNat Fn.zero).params) && (Ff pick 0 (((p.getD num.toNat Fn.zero).outs.length:Int)-1) && (decide (((p.getD num.toNat Fn.zero).outs.length:Int)=(p.getD num.toNat Fn.zero).params) && Ff cnt 0 8))))=true
  rw[h1,h2,h5,h6,A5 h3];rfl
theorem Mo {a b c k:Int}{l:List Ex}(h1:-9223372036854775808≤a∧a≤9223372036854775807)(h2:-9223372036854775808≤b∧b≤9223372036854775807)(h3:-9223372036854775808≤c∧c≤9223372036854775807)(h4:-9223372036854775808≤k∧k≤9223372036854775807):Vm (.mk a b c k l):=⟨h1,h2,h3,h4⟩
theorem CX {a b c:Nat}(h:c∈[a,b]):c=a∨c=b:=by simpa using h
theorem GY {a b:Nat}:∀x∈[a],x∈[a,b]:=fun x hx=>by rw[A9 hx];exact z0 ..
theorem Zc {a b:Nat}:∀x∈[b],x∈[a,b]:=fun x hx=>by rw[A9 hx];exact z3 _ (z0 ..)
theorem At.new2 {F:List Nat}{g g':Nat}{a b c:World}(h:At F a b)(k:At [g,g'] b c)(hg:g∈F)(hg':a.heap.size≤g'):At F a c :=
 ⟨k.os.trans h.os,k.tape.trans h.tape,k.output.trans h.output,A8 h.size k.size,fun i hi hm=>(k.block i (Nat.lt_of_lt_of_le hi h.size) fun hq=>by
  rcases CX hq with rfl|rfl
  ·exact hm hg
  ·omega).trans (h.block i hi hm)⟩
theorem RN.of_frF2 {e e':TypeId}{d B U:Nat}{H:Array Obj}{v:Value}{S:List Nat}{xs:List Fn}(h:Fr (EM 3 (SB e d) e') B U H v xs)(hS:∀b∈S,b<B∨U≤b):RP S d H v xs:=by
 obtain⟨F,h,_,hF⟩:=h
 exact⟨F,(h.rd (AW e d)).imp fun h=>SZ e h,fun b hb hm=>by have:=hF b hb;have:=hS b hm;omega⟩
theorem O6.mk1 {e:TypeId}{d B U:Nat}{H:Array Obj}{v:Value}{x:Ex}(hd:1≤d)(hr:Vm x)(h:Fr (EM 5 (Nd e (d-1)) e) B U H v x.kids):O6 (Nd e d) B U H (DR x v) x:=by
 obtain⟨d,rfl⟩:∃k,d=k+1:=⟨d-1,zO⟩
 obtain⟨G,h1,h2,h3⟩:=h
 exact⟨G,⟨v,rfl,hr,h1⟩,h2,h3⟩
theorem O6.mkF {e:TypeId}{d B U:Nat}{H:Array Obj}{v:Value}{x:Fn}(hr:Bn x.params)(h:Fr (EM 5 (Nd e d) e) B U H v x.outs):O6 (SB e d) B U H (DV x v) x:=by
 obtain⟨G,h1,h2,h3⟩:=h
 exact⟨G,⟨v,rfl,hr,h1⟩,h2,h3⟩
theorem eW {k:Int}(h:k=1∨k=2):kn k=0:=by unfold kn;rw[if_pos h]
theorem eX {k:Int}(h:k=3∨k=4∨k=5∨k=6∨k=9):kn k=2:=by unfold kn;rw[if_neg zO,if_pos h]
theorem eY {k:Int}(h:k=7):kn k=1:=by unfold kn;rw[if_neg zO,if_neg zO,if_pos h]
theorem eZ {k:Int}(h:k=8):kn k=3:=by unfold kn;rw[if_neg zO,if_neg zO,if_neg zO,if_pos h]
theorem f0 {k:Int}(h1:¬k=1)(h2:¬k=2)(h3:¬k=3)(h4:¬k=4)(h5:¬k=5)(h6:¬k=6)(h7:¬k=7)(h8:¬k=8)(h9:¬k=9):kn k = -1:=by unfold kn;rw[if_neg zO,if_neg zO,if_neg zO,if_neg (by omega)]
theorem f5 {k:Int}(h:k=3∨k=4∨k=5∨k=6∨k=7∨k=8∨k=9):1≤kn k∧kn k≤3:=by
 rcases h with rfl|rfl|rfl|rfl|rfl|rfl|rfl <;> decide
theorem Ts {d:Nat}(h:d≤8):Nh d≤100000:=by
 have:∀k:Fin 9,Nh k.val≤100000:=by decide
 exact this ⟨d,zO⟩
theorem Q8.okc {p:List Fn}{vars funcs l0:Int}{ex:Ex}{pl:Bool}(h:Q8 p vars ex)(d:Nat):OU p funcs vars pl d (l0+1) l0 ex:=by
 have h:=h.ok (funcs:=funcs) (pl:=pl) (l0:=l0+1) d
 rwa [show l0+1-1=l0 from by omega]at h
theorem OU.up1 {p:List Fn}{vars funcs l0 l1:Int}{ex:Ex}{pl:Bool}{d:Nat}(h:OU p funcs vars pl d (l0-1+1) l1 ex):OU p funcs vars pl d l0 l1 ex:=by rwa [show l0-1+1=l0 from by omega]at h
theorem R7.node1 {p:List Fn}{funcs vars:Int}{pl:Bool}{k num pick cnt:Int}{d i:Nat}{l0 l1:Int}{xs:List Ex}(h:R7 p funcs vars pl k d l0 l1 xs i)(hd:1≤d)(hi:i≤4)(hl:1≤l0)
  (hp:pl=true→k≠6∧k≠8) (hw:HA p funcs vars (.mk k num pick cnt xs)=true):OU p funcs vars pl d (l0+1) l1 (.mk k num pick cnt xs) :=
 R7.node (by rwa [show l0+1-1=l0 from by omega]) hd hi zO hp hw
namespace Jx
variable [J:JR] {P:Program} {ops:Array Oper} {w0:World} {Q:Act→World→Prop}
theorem j1 {o:Oper}{os:List Oper}{ks:List Nat}{a:Act}{w:World}(h:_root_.Go.Proofs.YtjnbnlniafmblaaGreat.LW P ops w0 (fun a w=>LW P ops w0 Q os ks a w) [o] [0] a w):LW P ops w0 Q (o::os) (0::ks) a w:=by
 simp only[_root_.Go.Proofs.YtjnbnlniafmblaaGreat.LW]at h
 simp only[LW]
 split
 ·rename_i hw
  rw[if_pos hw]at h
  unfold _root_.Go.Proofs.YtjnbnlniafmblaaGreat.BI at h
  unfold BI
  rw[if_pos (by decide)]at h
  rw[if_pos (by decide)]
  obtain⟨v,h1,h2⟩:=h
  exact⟨v,fun w' _=>h1 w' trivial,h2⟩
 ·rename_i hw
  rw[if_neg hw]at h
  exact h
theorem VI:∀ {os:List Oper}{ks:List Nat}{a:Act}{w:World}(_:ks.all (fun k=>k == 0 || k == 3 || k == 4)=true)(_:_root_.Go.Proofs.YtjnbnlniafmblaaGreat.LW P ops w0 Q os ks a w),LW P ops w0 Q os ks a w
 |[],_,_,_,_,h=>h
 |_::_,[],_,_,_,h=>h.elim
 |o::os,k::ks,a,w,hk,h=>by
  simp only[List.all_cons,z7]at hk
  simp only[_root_.Go.Proofs.YtjnbnlniafmblaaGreat.LW]at h
  simp only[LW]
  split
  ·rename_i hw
   rw[if_pos hw]at h
   unfold _root_.Go.Proofs.YtjnbnlniafmblaaGreat.BI at h
   unfold BI
   split at h
   ·rename_i h2
    rw[if_pos h2]
    have:k=0:=by
     have:=hk.1
     simp only[Bool.or_eq_true,beq_iff_eq]at this
     omega
    subst this
    obtain⟨v,h1,h3⟩:=h
    exact⟨v,fun w' _=>h1 w' trivial,VI hk.2 h3⟩
   ·rename_i h2
    rw[if_neg h2]
    split at h
    ·rename_i h3
     rw[if_pos h3]
     exact Oper.wp_mono (fun a w hh=>⟨J.ext hh.1,VI hk.2 hh.2⟩) h
    ·rename_i h3
     rw[if_neg h3]
     exact Oper.wp_mono (fun a w hh=>VI hk.2 hh) h
  ·rename_i hw
   rw[if_neg hw]at h
   exact VI hk.2 h
end Jx
end
section
theorem Tt {α:Type}{l:List α}{k:Nat}{d:α}(h:k<l.length):l.getD k d∈l:=by
 rw[List.getD_eq_getElem?_getD,List.getElem?_eq_getElem h,Option.getD_some];exact List.getElem_mem h
theorem Tu {a:Int}(h:-9223372036854775808≤a∧a≤9223372036854775807):Bn a:=h
def JX (n:Nat):ByteArray:=⟨#[UInt8.ofNat (48+n)]⟩
def Ni:List ByteArray:=[⟨#[102]⟩,⟨#[103]⟩,⟨#[115,116,101,112]⟩,⟨#[104,50]⟩,⟨#[99]⟩]
theorem Zd {n:Int}(h0:0≤n)(h1:n<10):(⟨#[UInt8.ofNat (IntKind.u8.wrap (((48:Nat):Int)+n)).toNat]⟩:ByteArray)=JX n.toNat:=by
 obtain⟨k,rfl⟩:∃k:Nat,n=k:=⟨n.toNat,zO⟩
 have:∀k:Fin 10,(⟨#[UInt8.ofNat (IntKind.u8.wrap (((48:Nat):Int)+((k.val:Nat):Int))).toNat]⟩:ByteArray)=JX k.val:=by decide +kernel
 exact this ⟨k,zO⟩
theorem Tv (n:Nat):(JX n).size=1:=rfl
theorem Sm:∀s∈Ni,s.size≤4:=by decide +kernel
theorem VJ:∀s∈Ni,∀i:Fin 10,LR (s++JX i.val)=true:=by decide +kernel
theorem VK:∀s∈Ni,∀t∈Ni,∀i j:Fin 10,i.val≠j.val→IV (s++JX i.val) (t++JX j.val)=false:=by decide +kernel
section str
variable {P:Program} {ops:Array Oper} {w0:World} {Q:Act→World→Prop} {os:List Oper} {ks:List Nat} {N:Nat} {ρ:Nat→Value} {w:World}
 {d:Nat} {ty:TypeId} {pos:String} {aft:Array Edge} {g:Option (Nat×Bool)} {t e:TypeId}
theorem VL {st dt:TypeId}{x:Operand}{v:Value}{n:Int}{B U:Nat}(hs:P.underlying st=some (.slice e))(he:P.underlying e=some (.int .u8))(hd:P.underlying dt=some .string)(hx:Bz N ρ x=v)(hv:Fr (Bp rV e) B U w.heap v [.int .u8 n])
  (hu:Up ops N ρ ⟨some d,.convert st dt x,ty,pos,aft,g⟩) (h:LW P ops w0 Q os ks (mk N (CY ρ d (.string ⟨#[UInt8.ofNat n.toNat]⟩))) w) :
  LW P ops w0 Q (⟨some d,.convert st dt x,ty,pos,aft,g⟩::os) (2::ks) (mk N ρ) w:=by
 obtain⟨F,hv,_,_⟩:=hv
 rcases hv with⟨_,hc,_⟩|⟨us,b,cap,cur,F',hels,rfl,hg,q1,q2,q3,q4,rfl⟩
 ·cases hc
 ·obtain⟨rfl,rfl⟩:=FV hels
  refine CN (by decide) rfl hu _ (fun w' hcl=>?_) h
  have hcl:AH w w':=hcl
  have hcb:w'.heap[b]? = w.heap[b]?:=hcl.heap (getElem?_lt hg)
  have hlc:=run_loadCells_list (P:=P) w' ⟨b,0,none⟩ [.int .u8 n] (fun j u hj=>by
   rw[Gc,BL]
   simp only[C7,hcb,hg]
   have hj0:j=0:=by have:=(List.getElem?_eq_some_iff.1 hj).1;simpa using this
   subst hj0
   have e1:cur.toList[0]? = some (.int .u8 n):=by
    have:(cur.toList.take 1)[0]? = some (.int .u8 n):=by rw[show cur.toList.take 1=[.int .u8 n]from q4];rfl
    rwa [List.getElem?_take,if_pos (by decide)]at this
   have e2:u=.int .u8 n:=by simpa using hj.symm
   rw[e2]
   simpa using e1)
  have hb:=run_bytesToString (P:=P) w' ⟨b,0,none⟩ 1 cap [n] (by simpa using hlc)
  have hr:=run_convert_bytes_string (P:=P) w' st dt e (some ⟨b,0,none⟩) 1 cap hs he hd
  simp only[execOp,hx,zd,Sem.run_bind,hr,hb,Result.andThen_ok,Sem.run_pure]
  rfl
theorem VM {b:Nat}{z u0 u1 u2 u3:Value}(ht:P.underlying t=some (.slice e))(hi:TI P e 1 z b)(h0:u0.cells=#[u0])(h1:u1.cells=#[u1])(h2:u2.cells=#[u2])(h3:u3.cells=#[u3])(hz:z.cells=#[z]) :
  (Instr.buildSlice t 4 #[(0,u0),(1,u1),(2,u2),(3,u3)]).run P w=.ok (.slice (some ⟨w.heap.size,0,none⟩) 4 4) (w.alloc (.cells #[u0,u1,u2,u3] e)):=by
 obtain⟨i,q1,q2,q3,q4⟩:=hi.get
 simp[Instr.buildSlice,run_underlying ht,sizeOf,typeInfo,zeroValue,q1,q2,q3,Instr.fill,newRow,h0,h1,h2,h3,hz,K7,List.range_succ]
theorem Tw {α:Type}{E:Bw α}(hE:Cd E){ys:List α}{b:Nat}{z u0 u1 u2 u3:Value}{x0 x1 x2 x3:Operand}(ht:P.underlying t=some (.slice e))(hi:TI P e 1 z b)(hz:z.cells=#[z])
  (hx0:Bz N ρ x0=u0) (hx1:Bz N ρ x1=u1) (hx2:Bz N ρ x2=u2) (hx3:Bz N ρ x3=u3) (hl:ys.length=4) (hels:els E w.heap [u0,u1,u2,u3] ys [])
  (hu:Up ops N ρ ⟨some d,.buildSlice t 4 #[(0,x0),(1,x1),(2,x2),(3,x3)],ty,pos,aft,g⟩)
  (h:∀v w1,AH w w1→w1.heap.size=w.heap.size+1→Fr (Bp E e) w.heap.size w1.heap.size w1.heap v ys→LW P ops w0 Q os ks (mk N (CY ρ d v)) w1) :
  LW P ops w0 Q (⟨some d,.buildSlice t 4 #[(0,x0),(1,x1),(2,x2),(3,x3)],ty,pos,aft,g⟩::os) (3::ks) (mk N ρ) w:=by
 have hc:=hels.cells1 hE
 have hr:=VM (P:=P) (w:=w) ht hi (hc u0 (by simp)).1 (hc u1 (by simp)).1 (hc u2 (by simp)).1 (hc u3 (by simp)).1 hz
 have hrun:(execOp (Bz N ρ) ⟨some d,.buildSlice t 4 #[(0,x0),(1,x1),(2,x2),(3,x3)],ty,pos,aft,g⟩).run P w=.ok (.value (.slice (some ⟨w.heap.size,0,none⟩) 4 4)) (w.alloc (.cells #[u0,u1,u2,u3] e)):=by
  simp only[execOp,zc,zf,zh,Sem.run_bind,hx0,hx1,hx2,hx3,hr,Result.andThen_ok,Sem.run_pure]
 refine K5 rfl hu _ _ hrun (BJ _ _)<|h _ _ (BJ _ _) (by simp) ?_
 have hn:=Hv (e:=e) (w:=w) hE (us:=[u0,u1,u2,u3]) (xs:=ys) (F:=[]) (cur:=#[u0,u1,u2,u3]) hels (by simp[maxLen]) (by rw[hl];rfl) (by rw[hl];simp)
 rw[hl]at hn
 refine⟨_,hn,?_,fun c hc=>?_⟩
 ·rw[List.nodup_cons]
  exact⟨fun hm=>(by cases hm),zk⟩
 ·rcases ze.1 hc with rfl|hc
  ·exact⟨A7 _,by simp⟩
  ·cases hc
end str
theorem XM {H:Array Obj}{u0 u1 u2 u3:Value}(h0:u0.cells=#[u0]∧u0.oneCell'=true)(h1:u1.cells=#[u1]∧u1.oneCell'=true)(h2:u2.cells=#[u2]∧u2.oneCell'=true)(h3:u3.cells=#[u3]∧u3.oneCell'=true):els rV H [u0,u1,u2,u3] [u0,u1,u2,u3] [] :=
 Mc fun u hu=>by
  simp only[ze,z2,or_false]at hu
  rcases hu with rfl|rfl|rfl|rfl <;> assumption
theorem VN {p q:List Fn}{F v:Int}{e:Ex}(hF:F≤((p.length:Nat):Int)):HA (p++q) F v e=HA p F v e:=by
 by_cases h:Ff e.num 0 (F-1)=true
 ·have h1:=BH.1 h
  have h2:(p++q).getD e.num.toNat Fn.zero=p.getD e.num.toNat Fn.zero:=I2 zO
  unfold HA
  rw[h2]
 ·unfold HA
  simp only[Bool.not_eq_true]at h
  simp[h]
mutual
theorem Q9 {p q:List Fn}{F:Int}(hF:F≤((p.length:Nat):Int)):∀(e:Ex)(v:Int),wf (p++q) F e v=wf p F e v
 |.mk k n c d l,v=>by rw[wf,wf,VN hF,R8 hF l]
theorem R8 {p q:List Fn}{F:Int}(hF:F≤((p.length:Nat):Int)):∀(l:List Ex)(b:Bool)(i:Nat)(v:Int),QU (p++q) F b i l v=QU p F b i l v
 |[],_,_,_=>by rw[QU,QU]
 |e::l,b,i,v=>by rw[QU,QU,Q9 hF e,R8 hF l]
end
structure Mp (p:List Fn)(pl:Bool):Prop where
 len:p.length≤12
 par:∀k,k<p.length→1≤(p.getD k Fn.zero).params∧(p.getD k Fn.zero).params≤3
 outs:∀k,k<p.length→1≤(p.getD k Fn.zero).outs.length∧(p.getD k Fn.zero).outs.length≤3
 wf:∀k,k<p.length→∀j,j<(p.getD k Fn.zero).outs.length→wf p ((k:Nat):Int) ((p.getD k Fn.zero).outs.getD j Ex.zero) (p.getD k Fn.zero).params=true
 dp:∀k,k<p.length→Ex.deeps (p.getD k Fn.zero).outs≤6
 sz:∀k,k<p.length→Ex.sizes (p.getD k Fn.zero).outs≤400
 pl:pl=true→∀k,k<p.length→PP (p.getD k Fn.zero).outs=true
 nm:∀k,k<p.length→LR (p.getD k Fn.zero).name=true
 nw:∀k,k<p.length→Sk p k=true
theorem Mp.nil (pl:Bool):Mp [] pl:=by
 constructor
 ·simp
 all_goals first|(intro _ k hk;simp at hk)|(intro k hk;simp at hk)
theorem Mp.gpr {p:List Fn}{pl:Bool}(h:Mp p pl):aF p :=
 ⟨by have:=h.len;omega,fun k hk=>by have:=h.par k hk;omega,fun k hk=>by have:=h.outs k hk;omega⟩
theorem Mp.snoc {p:List Fn}{pl:Bool}{f:Fn}(h:Mp p pl)(hl:p.length≤11)(hp:1≤f.params∧f.params≤3)(ho:1≤f.outs.length∧f.outs.length≤3)
  (hw:∀j,j<f.outs.length→Go.Proofs.YtjnbnlniafmblaaGreat.wf p ((p.length:Nat):Int) (f.outs.getD j Ex.zero) f.params=true) (hd:Ex.deeps f.outs≤6) (hs:Ex.sizes f.outs≤400) (hpl:pl=true→PP f.outs=true)
  (hn:LR f.name=true) (hnw:∀k,k<p.length→IV (p.getD k Fn.zero).name f.name=false):Mp (p++[f]) pl:=by
 have e:∀k,k<(p++[f]).length→(k<p.length∧(p++[f]).getD k Fn.zero=p.getD k Fn.zero)∨(k=p.length∧(p++[f]).getD k Fn.zero=f):=fun k hk=>by
  rw[z4,zd]at hk
  by_cases h:k<p.length
  ·exact .inl ⟨h,I2 h⟩
  ·exact .inr ⟨zO,I3 zO⟩
 refine⟨by rw[z4,zd];omega,?_,?_,?_,?_,?_,?_,?_,?_⟩
 ·intro k hk;rcases e k hk with⟨h1,h2⟩|⟨h1,h2⟩ <;> rw[h2]
  ·exact h.par k h1
  ·exact hp
 ·intro k hk;rcases e k hk with⟨h1,h2⟩|⟨h1,h2⟩ <;> rw[h2]
  ·exact h.outs k h1
  ·exact ho
 ·intro k hk;rcases e k hk with⟨h1,h2⟩|⟨h1,h2⟩ <;> rw[h2]
  ·intro j hj;rw[Q9 (by omega)];exact h.wf k h1 j hj
  ·intro j hj;subst h1;rw[Q9 (by omega)];exact hw j hj
 ·intro k hk;rcases e k hk with⟨h1,h2⟩|⟨h1,h2⟩ <;> rw[h2]
  ·exact h.dp k h1
  ·exact hd
 ·intro k hk;rcases e k hk with⟨h1,h2⟩|⟨h1,h2⟩ <;> rw[h2]
  ·exact h.sz k h1
  ·exact hs
 ·intro hq k hk;rcases e k hk with⟨h1,h2⟩|⟨h1,h2⟩ <;> rw[h2]
  ·exact h.pl hq k h1
  ·exact hpl hq
 ·intro k hk;rcases e k hk with⟨h1,h2⟩|⟨h1,h2⟩ <;> rw[h2]
  ·exact h.nm k h1
  ·exact hn
 ·intro k hk
  rcases e k hk with⟨h1,h2⟩|⟨h1,h2⟩
  ·have:=h.nw k h1
   unfold Sk at this ⊢
   rwa [h2,List.take_append_of_le_length (by omega)]
  ·unfold Sk
   rw[h2,h1,List.take_left]
   simp only[Bool.not_eq_true',List.any_eq_false]
   intro g hg
   obtain⟨i,hi,rfl⟩:=List.mem_iff_getElem.1 hg
   have:=hnw i hi
   rw[List.getD_eq_getElem?_getD,List.getElem?_eq_getElem hi,Option.getD_some]at this
   simp[this]
theorem Mp.ok {p:List Fn}{pl:Bool}(h:Mp p pl):GJ p=true:=by
 unfold GJ
 rw[z7]
 refine⟨A5 (by have:=h.len;omega),zm.2 fun k hk=>?_⟩
 rw[List.mem_range]at hk
 have h1:=h.par k hk;have h2:=h.outs k hk;have h3:=h.sz k hk;have h4:=h.dp k hk
 unfold Ln
 rw[h.nm k hk,h.nw k hk,BH.2 zO,BH.2 zO,A5 h3]
 simp only[Bool.true_and,Bool.and_true]
 refine zm.2 fun j hj=>?_
 rw[List.mem_range]at hj
 have h5:=K9 hj;have h6:=CS hj
 unfold Ng
 rw[BH.2 zO,BH.2 zO,A5 zO,A5 zO,h.wf k hk j hj]
 rfl
structure PQ (p:List Fn)(vars:Int)(pl:Bool)(xs:List Ex)(i:Nat):Prop where
 len:xs.length=i
 wf:∀j,j<i→wf p ((p.length:Nat):Int) (xs.getD j Ex.zero) vars=true
 dp:Ex.deeps xs≤6
 sz:Ex.sizes xs≤i*117
 pl:pl=true→PP xs=true
theorem PQ.nil (p:List Fn)(vars:Int)(pl:Bool):PQ p vars pl [] 0:=⟨rfl,fun j hj=>by omega,by rw[Ex.deeps];omega,by rw[Ex.sizes];omega,fun _=>by rw[PP]⟩
theorem PQ.snoc {p:List Fn}{funcs vars:Int}{pl:Bool}{xs:List Ex}{i d:Nat}{l0 l1:Int}{x:Ex}(h:PQ p vars pl xs i)(hf:funcs=((p.length:Nat):Int))(hd:d≤5)(hl:l0≤30)(hx:OU p funcs vars pl d l0 l1 x):PQ p vars pl (xs++[x]) (i+1):=by
 have hlen:=h.len
 subst hf
 refine⟨by simp[hlen],fun j hj=>?_,?_,?_,fun hp=>?_⟩
 ·by_cases e:j=i
  ·subst e
   rw[I3 hlen.symm];exact hx.wf
  ·rw[I2 (by omega)];exact h.wf j zO
 ·have h1:=h.dp;have h2:=hx.dp
  rw[Jh];omega
 ·have h1:=h.sz;have h2:=hx.sz
  rw[Jg];omega
 ·rw[Pg,h.pl hp,hx.pl hp];rfl
def Dn (p:List Fn):Prop:=∀k,k<p.length→∃s∈Ni,(p.getD k Fn.zero).name=s++JX k
theorem Dn.nil:Dn []:=fun k hk=>by simp at hk
theorem Dn.snoc {p:List Fn}{f:Fn}{s:ByteArray}(h:Dn p)(hs:s∈Ni)(hf:f.name=s++JX p.length):Dn (p++[f]):=fun k hk=>by
 rw[z4,zd]at hk
 by_cases e:k<p.length
 ·rw[I2 e];exact h k e
 ·rw[I3 zO,show k=p.length from by omega];exact⟨s,hs,hf⟩
theorem PQ.fn {p:List Fn}{pl:Bool}{f:Fn}{s:ByteArray}{i:Nat}(h:Mp p pl)(hd:Dn p)(hl:p.length≤9)(hp:1≤f.params∧f.params≤3)(hi:1≤i∧i≤3)(ho:PQ p f.params pl f.outs i)
  (hs:s∈Ni) (hf:f.name=s++JX p.length):Mp (p++[f]) pl∧Dn (p++[f]) :=
 ⟨h.snoc zO hp (by rw[ho.len];exact hi) (fun j hj=>ho.wf j (by rw[← ho.len];exact hj)) ho.dp (by have:=ho.sz;omega) ho.pl (by rw[hf];exact VJ s hs ⟨p.length,zO⟩) (fun k hk=>by
  obtain⟨t,ht,e⟩:=hd k hk
  rw[e,hf]
  exact VK t ht s hs ⟨k,zO⟩ ⟨p.length,zO⟩ (by show k≠p.length;omega)),hd.snoc hs hf⟩
theorem Tx {x:ByteArray}(h:Value.string x∈[Value.string ⟨#[102]⟩,.string ⟨#[103]⟩,.string ⟨#[115,116,101,112]⟩,.string ⟨#[104,50]⟩]):x∈Ni:=by
 simp only[ze,z2,or_false,Value.string.injEq]at h
 rcases h with h|h|h|h <;> subst h <;> simp[Ni]
theorem f6:Im 5=47770:=by decide
theorem f7:Nh 5=1365:=by decide
theorem f8:Im 4=11930:=by decide
theorem f9:Nh 4=341:=by decide
theorem Ty (e:TypeId):∀ {d:Nat}{H:Array Obj}{cs:List Value}{x:Ex}{F:List Nat},Nd e d H cs x F→Nd e (d+1) H cs x F
 |0,_,_,_,_,h=>h.elim
 |d+1,_,_,_,_,⟨v,h1,h2,h3⟩=>⟨v,h1,h2,h3.imp fun h=>Ty e h⟩
theorem Ze (e:TypeId){d:Nat}{H:Array Obj}{cs:List Value}{x:Ex}{F:List Nat}(h:Nd e d H cs x F):∀ {d':Nat},d≤d'→Nd e d' H cs x F:=by
 intro d' hd
 induction hd with
 |refl=>exact h
 |step _ ih=>exact Ty e ih
theorem O6.le {e:TypeId}{d d' B U:Nat}{H:Array Obj}{cs:List Value}{x:Ex}(h:O6 (Nd e d) B U H cs x)(hd:d≤d'):O6 (Nd e d') B U H cs x:=by
 obtain⟨G,h1,h2,h3⟩:=h
 exact⟨G,Ze e h1 hd,h2,h3⟩
theorem OU.npl {p:List Fn}{funcs vars l0 l1:Int}{ex:Ex}{pl:Bool}{d:Nat}(h:OU p funcs vars pl d l0 l1 ex):OU p funcs vars false d l0 l1 ex:=⟨h.wf,h.sz,h.dp,fun h=>absurd h (by decide),h.lo⟩
theorem Mp.npl {p:List Fn}{pl:Bool}(h:Mp p pl):Mp p false:=⟨h.len,h.par,h.outs,h.wf,h.dp,h.sz,fun h=>absurd h (by decide),h.nm,h.nw⟩
section res
variable {P:Program} {N:Nat} {ρ:Nat→Value} {w:World}
theorem Tz:∀(l:List Nat),(((l.map ResultVar.tmp).mapM (m:=Sem) fun
  |.tmp t=>pure ((mk N ρ).tmps.getD t undef)
  |.cell a t=>do loadVar t (← asAddr ((mk N ρ).tmps.getD a undef)))).run P w=.ok (l.map fun t=>Bz N ρ (.tmp t)) w:=by
 intro l
 induction l with
 |nil=>rfl
 |cons t l ih =>
  simp only[zf,List.mapM_cons,Sem.run_bind,Sem.run_pure,Result.andThen_ok,LG]at ih ⊢
  rw[ih]
  rfl
theorem KS {fn:Func}{R:Ending→World→Prop}{k s b t0:Nat}{ts:List Nat}{ty:TypeId}{cs:List Value}(vs:List Value)(hr:fn.results=(ResultVar.cell k ty::((t0::ts).map ResultVar.tmp)).toArray)(ha:Ft P ty s=true)(hv:Bz N ρ (.tmp k)=.pointer (some ⟨b,0,none⟩))(hb:BX w.heap b cs)(hl:cs.length=s)
  (hvs:((t0::ts).map fun t=>Bz N ρ (.tmp t))=vs) (h:R (.returned (.tuple (.agg cs.toArray::vs).toArray)) w):bodyPost P fn R .ret (mk N ρ) w:=by
 subst hvs
 refine⟨rfl,_,?_,h⟩
 have hld:=Ka (P:=P) ha (LD.of_box hb) hl
 have hg:(mk N ρ).tmps.getD k undef=.pointer (some ⟨b,0,none⟩):=by rw[LG,hv]
 have hi:(asAddr (.pointer (some ⟨b,0,none⟩))).run P w=.ok ⟨b,0,none⟩ w:=rfl
 have key:=Tz (P:=P) (N:=N) (ρ:=ρ) (w:=w) (t0::ts)
 unfold results
 rw[hr]
 simp only[List.mapM_toArray,Sem.run_bind,Sem.run_map]
 have hfull:(((ResultVar.cell k ty::((t0::ts).map ResultVar.tmp)).mapM (m:=Sem) fun
  |.tmp t=>pure ((mk N ρ).tmps.getD t undef)
  |.cell a t=>do loadVar t (← asAddr ((mk N ρ).tmps.getD a undef)))).run P w=.ok (.agg cs.toArray::((t0::ts).map fun t=>Bz N ρ (.tmp t))) w:=by
  rw[List.mapM_cons]
  simp only[Sem.run_bind,Sem.run_pure,hg,hi,hld,Result.andThen_ok]
  rw[key]
  rfl
 refine (congrArg (fun r=>(Result.andThen (Result.andThen r fun a w'=>Result.ok a.toArray w') fun a w'=>Result.ok (if h:a.size=1 then a[0]else Value.tuple a) w')) hfull).trans ?_
 simp only[Result.andThen_ok]
 rfl
end res
end
section
set_option linter.unusedSectionVars false
namespace Jx
section
variable [J:JR] {P:Program} {ops:Array Oper} {md:Region.Mode} {kd bs:Nat→Nat} {w0:World} {Q:Act→World→Prop}
theorem LS {Q':Act→World→Prop}(h:∀a w,Q a w→Q' a w):∀(l:List Nat)(a:Act)(w:World),LI P ops kd w0 Q l a w→LI P ops kd w0 Q' l a w
 |[],a,w,hh=>h a w hh
 |i::l,a,w,hh=>by
  simp only[LI]at hh ⊢
  cases hoi:ops[i]? with
  |none=>rw[hoi]at hh;exact hh.elim
  |some o =>
   rw[hoi]at hh
   simp only at hh ⊢
   split
   ·rename_i hw
    rw[if_pos hw]at hh
    exact hh.mono fun a w=>LS h l a w
   ·rename_i hw
    rw[if_neg hw]at hh
    exact LS h l _ _ hh
theorem Mq (s:List Nat):∀(l:List Nat)(a:Act)(w:World),LI P ops kd w0 (LI P ops kd w0 Q s) l a w→LI P ops kd w0 Q (l++s) a w
 |[],a,w,hh=>hh
 |i::l,a,w,hh=>by
  simp only[LI,List.cons_append]at hh ⊢
  cases hoi:ops[i]? with
  |none=>rw[hoi]at hh;exact hh.elim
  |some o =>
   rw[hoi]at hh
   simp only at hh ⊢
   split
   ·rename_i hw
    rw[if_pos hw]at hh
    exact hh.mono fun a w=>Mq s l a w
   ·rename_i hw
    rw[if_neg hw]at hh
    exact Mq s l _ _ hh
theorem Ef {Q':Act→World→Prop}(hQ:∀a w,Q a w→Q' a w):∀(l:List Nat)(os:List Oper)(ks:List Nat)(a:Act)(w:World),Mt ops kd l os ks→LW P ops w0 Q os ks a w→LI P ops kd w0 Q' l a w
 |[],[],_,a,w,_,h=>by simpa [LI]using hQ a w (by simpa [LW]using h)
 |x::l,o::os,k::ks,a,w,⟨h0,hk,hM⟩,h=>by
  have hr:∀a w,LW P ops w0 Q os ks a w→LI P ops kd w0 Q' l a w:=fun a w hh=>Ef hQ l os ks a w hM hh
  simp only[LI,h0,LW]at h ⊢
  split
  ·rename_i hw
   rw[if_pos hw]at h
   rw[hk]
   exact h.mono hr
  ·rename_i hw
   rw[if_neg hw]at h
   exact hr _ _ h
 |[],_::_,_,_,_,h,_=>h.elim
 |_::_,[],_,_,_,h,_=>h.elim
 |_::_,_::_,[],_,_,h,_=>h.elim
structure Qa (ops:Array Oper)(kd bs:Nat→Nat)(w0:World)(L0 S:List Nat)(n:Nat)(l:List Nat)(listed:Array Bool)(w:World):Prop where
 sub:l.Sublist L0
 len:l.length+S.length=n
 mem:∀i,i∈l++S↔listed.getD i true=false
 sz:listed.size=ops.size
 clo:KM bs listed
 inv:OX kd w0 w (l++S)
 nd:(l++S).Nodup
variable {L0:List Nat}
theorem VO {l:List Nat}(hp:l.Pairwise (fun x y=>4≤kd x→kd y≠1)):OY kd l:=by
 intro l1 i l2 hl hk j hj
 subst hl
 exact List.rel_of_pairwise_cons (List.pairwise_append.1 hp).2.1 hj hk
theorem Mr (hsel:∀(j:Nat)(o:Oper) cs b,ops[j]? = some o→o.op≠.select cs b)(hS:Nr md ops bs)
  (hlex:∀j oj,ops[j]? = some oj→∀e∈oj.after,Region.binds md e=true→e.on<j) {s:List Nat} (hp:(L0++s).Pairwise (EQ md ops kd bs)) (h14:(L0++s).Pairwise (fun x y=>4≤kd x→kd y≠1))
  (n:Nat) (l:List Nat) (listed:Array Bool) (a:Act) (w:World) (hC:Qa ops kd bs w0 L0 s n l listed w) (h:LI P ops kd w0 (LI P ops kd w0 Q s) l a w):wpAny P md ops (NQ Q) n listed a w :=
 G6 hsel hS hlex n (l++s) listed a w (by rw[z4];exact hC.len) (hp.sublist (List.Sublist.append_right hC.sub s)) hC.nd hC.sz hC.mem hC.clo
  (VO (h14.sublist (List.Sublist.append_right hC.sub s))) hC.inv (Mq s l a w h)
theorem KT (hsel:∀ (j:Nat) (o:Oper) cs b,ops[j]? = some o→o.op≠.select cs b) (hS:Nr md ops bs)
  (hlex:∀ j oj,ops[j]? = some oj→∀ e∈oj.after,Region.binds md e = true→e.on < j)
  {h1 h2:Nat} {S1 S2:List Nat} {Q1 Q2:Act→World→Prop} (hperm:(h1 :: S1).Perm (h2 :: S2)) (hk1:kd h1 = 3) (hk2:kd h2 = 3)
  (hl:∀ x∈L0,kd x≤2) (hL:L0.Pairwise (EQ md ops kd bs)) (hf1:∀ x∈L0,EQ md ops kd bs x h1) (hf2:∀ x∈L0,EQ md ops kd bs x h2)
  (hz:∀ z∈S1,z = h2∨(bs z).testBit h1 = true∨(bs z).testBit h2 = true)
  (hord:(L0++h1 :: S1).Pairwise (fun x y=>∀ ox,ops[x]? = some ox→∀ e∈ox.after,Region.binds md e = true→e.on≠y))
  (rec1:∀ n l listed a w,Qa ops kd bs w0 L0 S1 n l listed w→LI P ops kd w0 Q1 l a w→wpAny P md ops (NQ Q) n listed a w)
  (rec2:∀ n l listed a w,Qa ops kd bs w0 L0 S2 n l listed w→LI P ops kd w0 Q2 l a w→wpAny P md ops (NQ Q) n listed a w) :
  ∀ (n:Nat) (l:List Nat) (listed:Array Bool) (a:Act) (w:World),Qa ops kd bs w0 L0 (h1 :: S1) n l listed w→LI P ops kd w0 (fun a w=>LI P ops kd w0 Q1 [h1] a w∧LI P ops kd w0 Q2 [h2] a w) l a w→wpAny P md ops (NQ Q) n listed a w
 | 0,l,listed,a,w,hC,h=>by have:=hC.len; simp at this
 | n + 1,l,listed,a,w,hC,h=>by
  have hm2:∀ i,i∈l++h1 :: S1↔i∈l++h2 :: S2:=fun i=>by
   simp only [zi]; rw [hperm.mem_iff]
  have hun_of:∀ i∈l++h1 :: S1,listed.getD i true = false:=fun i hi=>(hC.mem i).1 hi
  -- a place that makes memory is taken
  have heavy:∀ (x:Nat) (T:List Nat) (Qx:Act→World→Prop),kd x = 3→(h1 :: S1).Perm (x :: T)→(∀ y∈L0,EQ md ops kd bs y x)→LI P ops kd w0 Qx (l++[x]) a w →
    (∀ l' a' w' listed',Qa ops kd bs w0 L0 T n l' listed' w'→LI P ops kd w0 Qx l' a' w'→wpAny P md ops (NQ Q) n listed' a' w') →
    ∀ (ox:Oper),ops[x]? = some ox→(∀ e∈ox.after,Region.binds md e = true→listed.getD e.on false = true)→wpOp P ops (NQ Q) x (wpAny P md ops (NQ Q) n (listed.setIfInBounds x true)) a w:=by
   intro x T Qx hkx hpx hfx hLx hrec ox hox hall
   have hbits:=Fd hS hC.clo hox hall
   have hxm:x∈l++h1 :: S1:=z1 _ (hpx.mem_iff.2 (z0 ..))
   have hxu:=hun_of x hxm
   have hfree:=GD (kd:=kd) (l1:=l) hox (fun y hy=>(hfx y<|hC.sub.subset hy).1) (fun y hy=>hun_of y<|z8 _ hy) hbits
   have hsz:=D4 hxu
   have hnd2:(l++x :: T).Nodup:=(List.Perm.append_left l hpx).nodup_iff.1 hC.nd
   have hxl:x∉l++T:=by
    have h1:=List.nodup_append.1 hnd2
    intro hmem
    rcases zi.1 hmem with hh | hh
    ·exact h1.2.2 x hh x (z0 ..) rfl
    ·exact (List.nodup_cons.1 h1.2.1).1 hh
   have hmT:∀ i,i∈l++x :: T↔listed.getD i true = false:=fun i=>by
    rw [← hC.mem i]; simp only [zi]; rw [hpx.mem_iff]
   have hcond:∀ w',(AH w w')→Qa ops kd bs w0 L0 T n l (listed.setIfInBounds x true) w':=fun w' hE =>
    ⟨hC.sub,by have:=hC.len; have:=hpx.length_eq; simp at *; omega,IK hmT hxl hsz,by simpa using hC.sz,Hs hC.clo hbits,
     fun ⟨j,hj,hkj⟩=>(hC.inv ⟨j,by
      rcases zi.1 hj with hh | hh
      ·exact z8 _ hh
      ·exact z1 _ (hpx.mem_iff.2 (z3 _ hh)),hkj⟩).trans hE,
     hnd2.sublist (List.Sublist.append_left (List.sublist_cons_self _ _) _)⟩
   obtain ⟨g1,g2⟩:=Lj (Q:=Qx) hsel hox zO l [] a w hfree (by simpa using hLx)
   unfold wpOp
   rw [hox]
   by_cases hw:Region.wanted ox (yielded ops a.tmps) = true
   ·simp only [hw,if_true]
    exact .inl<|Oper.wp_mono (fun a' w' hK=>hrec l a' w' _ (hcond w'<|hK.1 hkx) (by simpa using hK.2))<|K1<|g1 hw
   ·simp only [hw,Bool.false_eq_true,if_false]
    exact hrec l _ w _ (hcond w<|AH.refl w) (by simpa using g2 (by simpa using hw))
  refine ⟨fun h0=>?_,fun i hi=>?_⟩
  ·exfalso
   have hready:∀ (x:Nat) (t:List Nat),l++h1 :: S1 = x :: t→False:=fun x t ht=>by
    have hs:(x :: t).Pairwise (fun x y=>∀ ox,ops[x]? = some ox→∀ e∈ox.after,Region.binds md e = true→e.on≠y):=ht ▸ hord.sublist (List.Sublist.append_right hC.sub _)
    have:=Jc (md:=md) (i:=x) (l:=t) hC.sz (fun y=>ht ▸ hC.mem y) hlex (fun y hy ox hox=>(List.pairwise_cons.1 hs).1 y hy ox hox)
    rw [h0] at this
    cases this
   cases l with
   | nil=>exact hready _ _ rfl
   | cons x l=>exact hready x (l++h1 :: S1) rfl
  ·obtain ⟨hun,oi,hoi,hall⟩:=mem_ready.1 hi
   have hmem:=(hC.mem i).2 hun
   have hbits:=Fd hS hC.clo hoi hall
   by_cases hil:i∈l
   ·obtain ⟨l1,l2,rfl⟩:=List.append_of_mem hil
    have hpi:∀ x∈l1,EQ md ops kd bs x i:=fun x hx=>(List.pairwise_append.1 (hL.sublist hC.sub)).2.2 x hx i (z0 ..)
    have hfree:=GD (kd:=kd) (l1:=l1) hoi (fun x hx=>(hpi x hx).1) (fun x hx=>hun_of x (by simp [hx])) hbits
    have hk:kd i≤2:=hl i (hC.sub.subset (by simp))
    have hsub0:(l1++l2).Sublist (l1++i :: l2):=List.Sublist.append_left (List.sublist_cons_self _ _) _
    have hnd1:(l1++i :: (l2++h1 :: S1)).Nodup:=by have:=hC.nd; rwa [List.append_assoc,List.cons_append] at this
    have hnot:i∉l1++(l2++h1 :: S1):=by
     have h1:=List.nodup_append.1 hnd1
     intro hmem
     rcases zi.1 hmem with hh | hh
     ·exact h1.2.2 i hh i (z0 ..) rfl
     ·exact (List.nodup_cons.1 h1.2.1).1 hh
    have hm1:∀ x,x∈l1++i :: (l2++h1 :: S1)↔listed.getD x true = false:=fun x=>by
     have:=hC.mem x; rwa [List.append_assoc,List.cons_append] at this
    have hcond:Qa ops kd bs w0 L0 (h1 :: S1) n (l1++l2) (listed.setIfInBounds i true) w :=
     ⟨hsub0.trans hC.sub,by have:=hC.len; simp at *; omega,fun x=>by rw [List.append_assoc]; exact IK hm1 hnot (D4 hun) x,by simpa using hC.sz,Hs hC.clo hbits,
      fun ⟨j,hj,hkj⟩=>hC.inv ⟨j,by
       rcases zi.1 hj with hh | hh
       ·exact z8 _<|hsub0.subset hh
       ·exact z1 _ hh,hkj⟩,
      hC.nd.sublist (List.Sublist.append_right hsub0 _)⟩
    obtain ⟨v,hv,hL'⟩:=J6 hsel hoi hk l1 l2 a w hfree (fun h1=>hC.inv ⟨i,by simp,h1⟩) h
    unfold wpOp
    rw [hoi]
    have rec_:=fun a' hh=>KT hsel hS hlex hperm hk1 hk2 hl hL hf1 hf2 hz hord rec1 rec2 n (l1++l2) (listed.setIfInBounds i true) a' w hcond hh
    rcases hv with ⟨hw,hy⟩ | ⟨hw,rfl⟩
    ·simp only [hw,if_true]
     exact .inl<|K2 (hy w (Cl.self fun h1=>hC.inv ⟨i,by simp,h1⟩))<|rec_ _ hL'
    ·simp only [hw,Bool.false_eq_true,if_false]
     exact rec_ _ hL'
   ·have hiS:i∈h1 :: S1:=(zi.1 hmem).resolve_left hil
    have h12:i = h1∨i = h2:=by
     rcases ze.1 hiS with hh | hh
     ·exact .inl hh
     ·rcases hz i hh with hh | hh | hh
      ·exact .inr hh
      ·have q1:=hbits h1 hh
       have q2:=E8<|hun_of h1 (by simp)
       rw [q1] at q2; cases q2
      ·have q1:=hbits h2 hh
       have q2:=E8<|hun_of h2 ((hm2 h2).2 (by simp))
       rw [q1] at q2; cases q2
    rcases h12 with rfl | rfl
    ·exact heavy i S1 Q1 hk1 (List.Perm.refl _) hf1 (Mq [i] l a w<|LS (fun _ _ hh=>hh.1) l a w h) (fun l' a' w' li hc hh=>rec1 n l' li a' w' hc hh) oi hoi hall
    ·exact heavy i S2 Q2 hk2 hperm hf2 (Mq [i] l a w<|LS (fun _ _ hh=>hh.2) l a w h) (fun l' a' w' li hc hh=>rec2 n l' li a' w' hc hh) oi hoi hall
theorem Oj (x:Nat)(l:List Nat)(a:Act)(w:World)(hh:LI P ops kd w0 Q (x::l) a w):LI P ops kd w0 (LI P ops kd w0 Q l) [x] a w:=by
 simp only[LI]at hh ⊢
 cases hoi:ops[x]? with
 |none=>rw[hoi]at hh;exact hh.elim
 |some o =>
  rw[hoi]at hh
  simp only at hh ⊢
  split
  ·rename_i hw
   rw[if_pos hw]at hh
   exact hh.mono fun a w h=>h
  ·rename_i hw
   rw[if_neg hw]at hh
   exact hh
end
def R9 (ops:Array Oper)(x y:Nat):Bool:=match ops[x]? with|some ox=>ox.after.all fun e=>!Region.binds .any e || e.on != y|none=>true
def aG (os:List Oper)(ks:List Nat)(L0:List Nat)(h1 g1:Nat)(r1:List Nat)(g2:Nat)(r2:List Nat)(h2:Nat)(r3:List Nat):Bool :=
  let ops:=os.toArray
  let b:=(Region.before ops).toList
  Region.noSelect ops &&
  (os.zipIdx.all fun(o,j) =>
    (o.after.all fun e=>!Region.binds .any e || decide (e.on<j)) &&
    (let m:=o.after.foldl (fun s e=>if Region.binds .any e then s ||| 2 ^ e.on ||| b.getD e.on 0 else s) 0
     (b.getD j 0 == m))) &&
  (decide (ks.getD h1 0=3) && (decide (ks.getD h2 0=3) && (decide (ks.getD g1 0=3) && decide (ks.getD g2 0=3)))) &&
  (L0.all fun x=>decide (ks.getD x 0≤2)) &&
  Se (Ie ops ks b) L0 &&
  (L0.all fun x=>Ie ops ks b x h1 && (Ie ops ks b x h2 && (Ie ops ks b x g1 && Ie ops ks b x g2))) &&
  ((h1::g1::r1).isPerm (h2::r3) && (g1::r1).isPerm (g2::r2)) &&
  ((g1::r1).all fun z=>decide (z=h2) || ((b.getD z 0).testBit h1 || (b.getD z 0).testBit h2)) &&
  (r1.all fun z=>decide (z=g2) || ((b.getD z 0).testBit g1 || (b.getD z 0).testBit g2)) &&
  (Se (R9 ops) (L0++h1::g1::r1)) &&
  (Se (Ie ops ks b) (L0++r1) && (Se (Ie ops ks b) (L0++r2) && Se (Ie ops ks b) (L0++r3))) &&
  (Se (fun x y=>!(decide (4≤ks.getD x 0)) || ks.getD y 0 != 1) (L0++r1) && (Se (fun x y=>!(decide (4≤ks.getD x 0)) || ks.getD y 0 != 1) (L0++r2) && Se (fun x y=>!(decide (4≤ks.getD x 0)) || ks.getD y 0 != 1) (L0++r3))) &&
  (decide ((L0++h1::g1::r1).length=os.length) && (decide (L0++h1::g1::r1).Nodup && ((L0++h1::g1::r1).all (fun x=>decide (x<os.length)) && (List.range os.length).all fun x=>(L0++h1::g1::r1).contains x)))
section
variable [J:JR] {P:Program}
theorem aH {id:Nat}{Q:Exit→Act→World→Prop}{a:Act}{w:World}(os:List Oper)(ks:List Nat)(L0:List Nat)(h1 g1:Nat)(r1:List Nat)(g2:Nat)(r2:List Nat)(h2:Nat)(r3:List Nat)
  (oL:List Oper) (kL:List Nat) (oh1 og1:Oper) (o1:List Oper) (k1:List Nat) (og2:Oper) (o2:List Oper) (k2:List Nat) (oh2:Oper) (o3:List Oper) (k3:List Nat) (hm:P.follows .mixedOrders=true) (hB:aG os ks L0 h1 g1 r1 g2 r2 h2 r3=true)
  (hML:Mt os.toArray (fun i=>ks.getD i 0) L0 oL kL) (hMh:Mt os.toArray (fun i=>ks.getD i 0) [h1] [oh1] [3]) (hM1:Mt os.toArray (fun i=>ks.getD i 0) (g1::r1) (og1::o1) (3::k1)) (hM2:Mt os.toArray (fun i=>ks.getD i 0) (g2::r2) (og2::o2) (3::k2)) (hM3:Mt os.toArray (fun i=>ks.getD i 0) (h2::r3) (oh2::o3) (3::k3))
  (h:LW P os.toArray w.drew (fun a' w'=>LW P os.toArray w.drew (fun a'' w''=>LW P os.toArray w.drew (fun a w=>Q .normal a w) (og1::o1) (3::k1) a'' w''∧LW P os.toArray w.drew (fun a w=>Q .normal a w) (og2::o2) (3::k2) a'' w'') [oh1] [3] a' w' ∧
   LW P os.toArray w.drew (fun a w=>Q .normal a w) (oh2::o3) (3::k3) a' w') oL kL a w.drew):(Code.region id os.toArray true).wp P Q a w:=by
 refine wp_region_any hm ?_
 simp only[aG,z7,decide_eq_true_eq]at hB
 obtain⟨⟨⟨⟨⟨⟨⟨⟨⟨⟨⟨⟨hsel,hpl⟩,hk1,hk2,hk3,hk4⟩,hl⟩,hpL⟩,hpx⟩,hpe1,hpe2⟩,hz1⟩,hz2⟩,hord⟩,hb1,hb2,hb3⟩,hn1,hn2,hn3⟩,hln,hnd,hlt,hct⟩:=hB
 have hz:∀ {j:Nat} {o:Oper},os.toArray[j]? = some o→(o,j)∈os.zipIdx:=by
  intro j o ho
  rw[List.mem_zipIdx_iff_getElem?]
  simpa using ho
 have hall:∀j oj,os.toArray[j]? = some oj→_:=fun j oj hj=>zm.1 hpl _ (hz hj)
 have hlex:∀j oj,os.toArray[j]? = some oj→∀e∈oj.after,Region.binds .any e=true→e.on<j:=by
  intro j oj hj e he hb
  have h1:=(z7 _ _ ▸ hall j oj hj:_∧_).1
  have h2:=(Array.all_eq_true_iff_forall_mem.1 h1) e he
  simpa [hb]using h2
 have hS:Nr .any os.toArray (fun j=>(Region.before os.toArray).toList.getD j 0):=by
  intro j oj hj i hb
  have h3:=(z7 _ _ ▸ hall j oj hj:_∧_).2
  have h5:(Region.before os.toArray).toList.getD j 0=oj.after.foldl (fun s e=>if Region.binds .any e then s ||| 2 ^ e.on ||| (Region.before os.toArray).toList.getD e.on 0 else s) 0:=by simpa using h3
  dsimp only at hb
  rw[h5,← Array.foldl_toList]at hb
  rcases Ht _ _ _ _ hb with hb|⟨e,he,hbb,hh⟩
  ·simp at hb
  ·exact⟨e,Array.mem_toList_iff.1 he,hbb,hh⟩
 have hmem:∀x,x∈L0++h1::g1::r1↔x<os.length:=fun x=>by
  constructor
  ·intro hx;exact of_decide_eq_true (zm.1 hlt x hx)
  ·intro hx
   have:=zm.1 hct x (List.mem_range.2 hx)
   simpa using this
 have hse:=Region.noSelect_spec hsel
 have P2:∀ {l:List Nat},Se (Ie os.toArray ks (Region.before os.toArray).toList) l=true→l.Pairwise (EQ .any os.toArray (fun i=>ks.getD i 0) (fun j=>(Region.before os.toArray).toList.getD j 0)):=fun h=>K4 (fun x y hh=>G7 hh) h
 have N2:∀ {l:List Nat},Se (fun x y=>!(decide (4≤ks.getD x 0)) || ks.getD y 0 != 1) l=true→l.Pairwise (fun x y=>4≤ks.getD x 0→ks.getD y 0≠1):=fun h=>K4 (fun x y hxy h4=>by
  rcases Bool.or_eq_true_iff.1 hxy with hh|hh
  ·simp only[Bool.not_eq_true',decide_eq_false_iff_not]at hh;exact absurd h4 hh
  ·simpa using hh) h
 have hL2:∀x∈L0,ks.getD x 0≤2:=fun x hx=>of_decide_eq_true (zm.1 hl x hx)
 have hx4:∀x∈L0,_:=fun x hx=>zm.1 hpx x hx
 simp only[z7]at hx4
 have hordP:(L0++h1::g1::r1).Pairwise (fun x y=>∀ox,os.toArray[x]? = some ox→∀e∈ox.after,Region.binds .any e=true→e.on≠y):=K4 (fun x y hh ox hox e he hb=>by
  unfold R9 at hh
  rw[hox]at hh
  have:=(Array.all_eq_true_iff_forall_mem.1 hh) e he
  simpa [hb]using this) hord
 have hord2:(L0++g1::r1).Pairwise (fun x y=>∀ox,os.toArray[x]? = some ox→∀e∈ox.after,Region.binds .any e=true→e.on≠y):=hordP.sublist (List.Sublist.append_left (List.sublist_cons_self _ _) _)
 have zz1:∀z∈g1::r1,z=h2∨((Region.before os.toArray).toList.getD z 0).testBit h1=true∨((Region.before os.toArray).toList.getD z 0).testBit h2=true:=fun z hz=>by
  have:=zm.1 hz1 z hz
  simpa only[Bool.or_eq_true,decide_eq_true_eq]using this
 have zz2:∀z∈r1,z=g2∨((Region.before os.toArray).toList.getD z 0).testBit g1=true∨((Region.before os.toArray).toList.getD z 0).testBit g2=true:=fun z hz=>by
  have:=zm.1 hz2 z hz
  simpa only[Bool.or_eq_true,decide_eq_true_eq]using this
 have base1:=Mr (P:=P) (w0:=w.drew) (Q:=fun a w=>Q .normal a w) hse hS hlex (P2 hb1)<|N2 hn1
 have base2:=Mr (P:=P) (w0:=w.drew) (Q:=fun a w=>Q .normal a w) hse hS hlex (P2 hb2)<|N2 hn2
 have base3:=Mr (P:=P) (w0:=w.drew) (Q:=fun a w=>Q .normal a w) hse hS hlex (P2 hb3)<|N2 hn3
 have inner:=KT (P:=P) (w0:=w.drew) (Q:=fun a w=>Q .normal a w) hse hS hlex (h1:=g1) (h2:=g2) (S1:=r1) (S2:=r2) (List.isPerm_iff.1 hpe2) hk3 hk4 hL2 (P2 hpL) (fun x hx=>G7 (hx4 x hx).2.2.1) (fun x hx=>G7 (hx4 x hx).2.2.2) zz2 hord2 base1 base2
 have outer:=KT (P:=P) (w0:=w.drew) (Q:=fun a w=>Q .normal a w) hse hS hlex (h1:=h1) (h2:=h2) (S1:=g1::r1) (S2:=r3) (List.isPerm_iff.1 hpe1) hk1 hk2 hL2 (P2 hpL) (fun x hx=>G7 (hx4 x hx).1) (fun x hx=>G7 (hx4 x hx).2.1) zz1 hordP inner base3
 have key:=outer os.length L0 (Array.replicate os.length false) a w.drew ⟨List.Sublist.refl _,by rw[← hln,z4],fun x=>?_,by simp,?_,fun _=>AH.refl _,hnd⟩ ?_
 ·have:=Jd _ _ _ _ key
  simpa using this
 ·rw[hmem]
  constructor
  ·intro hx;simp[hx]
  ·intro hh
   rcases Nat.lt_or_ge x os.length with h'|h'
   ·exact h'
   ·simp[Array.getElem?_eq_none (show(Array.replicate os.length false).size≤x by simpa using h')]at hh
 ·intro i hi
  rcases Nat.lt_or_ge i os.length with h'|h'
  ·simp[h']at hi
  ·simp[Array.getElem?_eq_none (show(Array.replicate os.length false).size≤i by simpa using h')]at hi
 ·refine Ef (fun a w hh=>⟨?_,?_⟩) _ _ _ _ _ hML h
  ·exact Ef (fun a w hh=>⟨Oj _ _ _ _<|Ef (fun _ _ h=>h) _ _ _ _ _ hM1 hh.1,Oj _ _ _ _<|Ef (fun _ _ h=>h) _ _ _ _ _ hM2 hh.2⟩) _ _ _ _ _ hMh hh.1
  ·exact Oj _ _ _ _<|Ef (fun _ _ h=>h) _ _ _ _ _ hM3 hh.2
theorem gP {ops:Array Oper}{w0:World}{Q:Act→World→Prop}{o:Oper}{os:List Oper}{ks:List Nat}{a:Act}{w:World}(h:_root_.Go.Proofs.YtjnbnlniafmblaaGreat.LW P ops w0 (fun a' w'=>AH w w'∧LW P ops w0 Q os ks a' w') [o] [4] a w):LW P ops w0 Q (o::os) (3::ks) a w:=by
 simp only[_root_.Go.Proofs.YtjnbnlniafmblaaGreat.LW]at h
 simp only[LW]
 split
 ·rename_i hw
  rw[if_pos hw]at h
  unfold _root_.Go.Proofs.YtjnbnlniafmblaaGreat.BI at h
  unfold BI
  rw[if_neg (by decide),if_neg (by decide)]at h
  rw[if_neg (by decide),if_pos rfl]
  exact h
 ·rename_i hw
  rw[if_neg hw]at h
  exact h.2
theorem fa {ops:Array Oper}{w0:World}{Q:Act→World→Prop}{o:Oper}{os:List Oper}{ks:List Nat}{a:Act}{w:World}(h:_root_.Go.Proofs.YtjnbnlniafmblaaGreat.LW P ops w0 (fun a' w'=>LW P ops w0 Q os ks a' w') [o] [3] a w):LW P ops w0 Q (o::os) (3::ks) a w:=by
 simp only[_root_.Go.Proofs.YtjnbnlniafmblaaGreat.LW]at h
 simp only[LW]
 split
 ·rename_i hw
  rw[if_pos hw]at h
  unfold _root_.Go.Proofs.YtjnbnlniafmblaaGreat.BI at h
  unfold BI
  rw[if_neg (by decide),if_pos rfl]at h
  rw[if_neg (by decide),if_pos rfl]
  exact Oper.wp_mono (fun a w hh=>⟨J.ext hh.1,hh.2⟩) h
 ·rename_i hw
  rw[if_neg hw]at h
  exact h
end
end Jx
end
section
structure As where
 op:Int
 a:Int
 b:Int
 num:Int
def As.zero:As:=⟨0,0,0,0⟩
structure Hh where
 reg:Int
 z:Bool
def Hh.zero:Hh:=⟨0,false⟩
structure Tp where
 code:List As
 grd:List Hh
 vals:List Int
def aI (x:As):List Value:=[.int .i64 x.op,.int .i64 x.a,.int .i64 x.b,.int .i64 x.num]
def aJ (x:Hh):List Value:=[.int .i64 x.reg,.bool x.z]
def Qb (x:As):Prop:=Bn x.op∧Bn x.a∧Bn x.b∧Bn x.num
def KU:C0 As:=fun _ cs x F=>cs=aI x∧Qb x∧F=[]
def KV:C0 Hh:=fun _ cs x F=>cs=aJ x∧Bn x.reg∧F=[]
theorem AY:CE 4 KU where
 len:=fun h=>by rw[h.1];rfl
 one:=fun h u hu=>by
  rw[h.1]at hu
  simp only[aI,ze,z2,or_false]at hu
  rcases hu with rfl|rfl|rfl|rfl <;> exact⟨rfl,rfl⟩
 lt:=fun h b hb=>by rw[h.2.2]at hb;cases hb
 stable:=fun h _=>h
theorem Bb:CE 2 KV where
 len:=fun h=>by rw[h.1];rfl
 one:=fun h u hu=>by
  rw[h.1]at hu
  simp only[aJ,ze,z2,or_false]at hu
  rcases hu with rfl|rfl <;> exact⟨rfl,rfl⟩
 lt:=fun h b hb=>by rw[h.2.2]at hb;cases hb
 stable:=fun h _=>h
theorem Qc {B U:Nat}{H:Array Obj}{x:As}(h:Qb x):O6 KU B U H (aI x) x:=⟨[],⟨rfl,h,rfl⟩,zk,fun b hb=>by cases hb⟩
theorem TA {B U:Nat}{H:Array Obj}{x:Hh}(h:Bn x.reg):O6 KV B U H (aJ x) x:=⟨[],⟨rfl,h,rfl⟩,zk,fun b hb=>by cases hb⟩
section ops
variable {P:Program} {ops:Array Oper} {w0:World} {Q:Act→World→Prop} {os:List Oper} {ks:List Nat} {N:Nat} {ρ:Nat→Value} {w:World}
 {d:Nat} {ty:TypeId} {pos:String} {aft:Array Edge} {g:Option (Nat×Bool)} {t e:TypeId} {z:Value} {b s:Nat}
theorem KW {α:Type}{E:C0 α}(hE:CE s E){x y:Operand}{v a:Value}{xs:List α}{y0:α}{B T B' U':Nat}{F:List Nat}(ht:P.underlying t=some (.slice e))(hi:TI P e s z b)(hz:z.cells.size=s)(hs:0<s)(hx:Bz N ρ x=v)(hy:Bz N ρ y=a)(hv:Ow (EM s E e) B T w.heap v xs F)
  (ha:Fr (EM s E e) B' U' w.heap a [y0]) (hT:T≤B') (hB:B≤B') (hBw:B≤w.heap.size) (hbytes:(xs.length+1)*b≤140737488355328) (hmx:xs.length+1≤maxLen) (hu:Up ops N ρ ⟨some d,.call ⟨.builtin .append,#[x,y],#[t,t]⟩,ty,pos,aft,g⟩)
  (h:∀v1 w1 F1,At F w w1→Ow (EM s E e) B w1.heap.size w1.heap v1 (xs++[y0]) F1→(∀c∈F1,c∈F∨(B'≤c∧c<U')∨w.heap.size≤c)→LW P ops w0 Q os ks (mk N (CY ρ d v1)) w1) :
  LW P ops w0 Q (⟨some d,.call ⟨.builtin .append,#[x,y],#[t,t]⟩,ty,pos,aft,g⟩::os) (4::ks) (mk N ρ) w:=by
 obtain⟨v1,w1,F0,r1,⟨F1,r2,r3,r4⟩,r5,r6⟩:=Me (P:=P) (ty:=ty) hE ht hi hz hs (S:=fun b=>b∈F) (T:=fun b=>B'≤b∧b<U') ⟨F,hv.own,hv.nodup,fun _ h=>h⟩ ha (fun b h1 h2=>by have:=hv.high b h1;omega) hbytes hmx
 have hh:∀c∈F1,c∈F∨(B'≤c∧c<U')∨w.heap.size≤c:=fun c hc=>by
  rcases r4 c hc with h|h|h
  ·exact .inl h
  ·exact .inr<|.inl h
  ·exact .inr<|.inr<|Nat.le_of_eq h.symm
 exact K6 rfl hu v1 w1 (by simp only[execOp,resolve,invoke,builtin,zc,zf,zh,Sem.run_bind,Sem.run_pure,Result.andThen_ok,hx,hy,r1])
  (h v1 w1 F1 (r5.sub r6) ⟨r2,r3,fun c hc=>by
   rcases hh c hc with h|h|h
   ·exact hv.low c h
   ·omega
   ·omega,fun c hc=>(Au hE).lt r2 c hc⟩ hh)
theorem FI {x y:Operand}{v a:Value}{xs ys:List Int}{B T:Nat}{F:List Nat}(ht:P.underlying t=some (.slice e))(hi:TI P e 1 z b)(hz:z.cells=#[z])(hx:Bz N ρ x=v)(hy:Bz N ρ y=a)(hv:Ow (Bp rI e) B T w.heap v xs F)
  (ha:Rd (B4 rI) w.heap a ys) (hB:B≤w.heap.size) (hbytes:(xs.length+ys.length)*b≤140737488355328) (hmx:xs.length+ys.length≤maxLen) (hu:Up ops N ρ ⟨some d,.call ⟨.builtin .append,#[x,y],#[t,t]⟩,ty,pos,aft,g⟩)
  (h:∀v1 w1 F1,At F w w1→Ow (Bp rI e) B w1.heap.size w1.heap v1 (xs++ys) F1→(∀c∈F1,c∈F∨w.heap.size≤c)→LW P ops w0 Q os ks (mk N (CY ρ d v1)) w1) :
  LW P ops w0 Q (⟨some d,.call ⟨.builtin .append,#[x,y],#[t,t]⟩,ty,pos,aft,g⟩::os) (4::ks) (mk N ρ) w:=by
 obtain⟨G,g1⟩:=ha
 have hG:G.drop 1=[]:=by
  rcases g1 with⟨_,_,_,_,rfl⟩|⟨us,g,off,cap,cur,e',fr,G',hels,_,_,_,_,rfl⟩
  ·rfl
  ·exact Je hels
 obtain⟨v',w',F',r1,r2,r3,r4,r5⟩:=K8 (P:=P) (ty:=ty) AJ ht hi hz hv.own hv.nodup g1 rfl hbytes hmx (fun c hc=>by rw[hG]at hc;cases hc) (by rw[hG];exact zk)
 have hh:∀c∈F',c∈F∨w.heap.size≤c:=fun c hc=>by
  rcases r4 c hc with h|h|h
  ·exact .inl h
  ·rw[hG]at h;cases h
  ·exact .inr<|Nat.le_of_eq h.symm
 exact K6 rfl hu v' w' (by simp only[execOp,resolve,invoke,builtin,zc,zf,zh,Sem.run_bind,Sem.run_pure,Result.andThen_ok,hx,hy,r1])
  (h v' w' F' (r5.sub fun c hc=>zj hc) ⟨r2,r3,fun c hc=>by
   rcases hh c hc with h|h
   ·exact hv.low c h
   ·omega,fun c hc=>(AZ AJ).lt r2 c hc⟩ hh)
theorem VP {x y:Operand} {v a u:Value} {xs:List Int} {r:Int} {S:List Nat} {B' U':Nat} (ht:P.underlying t = some (.slice e)) (hi:TI P e 1 z b) (hz:z.cells = #[z]) (hx:Bz N ρ x = Eg v) (hy:Bz N ρ y = a)
  (hv:RN S (B4 rI) w.heap v xs) (ha:Fr (Bp rV e) B' U' w.heap a [u]) (hr:RN S rI w.heap u r) (hS:∀ c∈S,c < w.heap.size) (hbytes:(xs.length + 1) * b≤140737488355328) (hmx:xs.length + 1≤maxLen)
  (hu:Up ops N ρ ⟨some d,.call ⟨.builtin .append,#[x,y],#[t,t]⟩,ty,pos,aft,g⟩)
  (h:∀ v1 w1,AH w w1→RN S (B4 rI) w1.heap v1 (xs++[r])→C3 v1→LW P ops w0 Q os ks (mk N (CY ρ d v1)) w1) :
  LW P ops w0 Q (⟨some d,.call ⟨.builtin .append,#[x,y],#[t,t]⟩,ty,pos,aft,g⟩ :: os) (4 :: ks) (mk N ρ) w:=by
 obtain ⟨G,g1',g2',g3'⟩:=ha
 obtain ⟨K,k1,k2⟩:=hv
 obtain ⟨R,r1,r2⟩:=hr
 obtain ⟨i,h1,h2,h3,h4⟩:=hi.get
 subst h4
 have hone:=AJ.one r1
 rcases g1' with ⟨_,hc,_⟩ | ⟨asq,ga,capa,cura,Fa,helsa,hav,hga,qa1,qa2,qa3,qa4,rfl⟩
 ·cases hc
 ·obtain ⟨hq,hFa⟩:=FV helsa
  subst hq
  subst hav
  have hnews:∀ j q,[u][j]? = some q→w.cell? ((⟨ga,0,none⟩:Addr).add j) = some q:=by
   intro j q hj
   rw [Gc,BL]
   simp only [C7,hga]
   rw [← qa4,List.getElem?_take] at hj
   split at hj
   ·simpa using hj
   ·cases hj
  have made:∀ (w1:World) (ous:List Value) (K0:List Nat) (rest:Nat),w1.heap = w.heap→w1.os = w.os→w1.tape = w.tape→w1.output = w.output→els rI w.heap ous xs K0→(∀ c∈K0,c∈K)→xs.length + 1 + rest≤maxLen →
    AH w (w1.alloc (.cells (ous.toArray++[u].toArray++Builtin.zeroCells z.cells rest) e))∧RN S (B4 rI) (w1.alloc (.cells (ous.toArray++[u].toArray++Builtin.zeroCells z.cells rest) e)).heap (.slice (some ⟨w.heap.size,0,none⟩) (xs.length + 1) (xs.length + 1 + rest)) (xs++[r]):=by
   intro w1 ous K0 rest hh ho htp hop hou hsub hmax
   have hE:AH w (w1.alloc (.cells (ous.toArray++[u].toArray++Builtin.zeroCells z.cells rest) e)):=by
    refine ⟨ho,htp,hop,?_,fun k hk=>?_⟩
    ·show w.heap.size≤(w1.heap.push _).size
     rw [hh]; simp
    ·have:=Below.heap_alloc w1 (.cells (ous.toArray++[u].toArray++Builtin.zeroCells z.cells rest) e) k (by rw [hh]; exact hk)
     rw [this,hh]
   refine ⟨hE,w.heap.size :: (K0++R),.inr ⟨ous++[u],w.heap.size,0,xs.length + 1 + rest,(ous.toArray++[u].toArray++Builtin.zeroCells z.cells rest),e,(0,0),K0++R,?_,by simp,?_,?_,by simp; omega,rfl⟩,?_⟩
   ·refine els.stable AJ (hou.append (show els rI w.heap [u] [r] R from ⟨R,[],by simp,r1,rfl⟩)) fun c hc=>hE.heap ?_
    exact (hou.append (show els rI w.heap [u] [r] R from ⟨R,[],by simp,r1,rfl⟩)).lt AJ c hc
   ·have:=heap_alloc_new w1 (.cells (ous.toArray++[u].toArray++Builtin.zeroCells z.cells rest) e)
    rw [hh] at this; exact this
   ·have hl:=hou.length
    simp only [Array.toList_append,List.drop_zero]
    rw [show (xs++[r]).length = (ous++[u]).length from by simp [hl]]
    exact List.take_left
   ·intro c hc hm
    rcases ze.1 hc with rfl | hc
    ·have:=hS _ hm; omega
    ·rcases zi.1 hc with hc | hc
     ·exact k2 c (hsub c hc) hm
     ·exact r2 c hc hm
  have hone1:[u].length = [u].length * i.size:=by rw [h3,Nat.mul_one]
  rcases k1 with ⟨a0,cap0,rfl,rfl,rfl⟩ | ⟨ous,gv,off,cap,cur,e',fr,K',hels,rfl,hg,hw,_,rfl⟩
  ·-- nothing so far
   cases a0 with
   | none =>
    have hrr:=run_append_nil (P:=P) w t ty e i z ht h1 h2 ⟨ga,0,none⟩ 1 capa [u] hone1 hnews (by decide) (by decide) (by simp at hbytes; omega)
    have hge:=grownCap_ge w 1 0 e
    have hgm:=grownCap_le_maxLen w 1 0 e (by simpa using hmx)
    obtain ⟨q1,q2⟩:=made w.drew [] [] (grownCap w 1 0 e - 1) rfl rfl rfl rfl rfl (fun c hc=>by cases hc) (by simp; omega)
    refine K6 rfl hu _ _ (by simp only [execOp,resolve,invoke,builtin,zc,zf,zh,Sem.run_bind,Sem.run_pure,Result.andThen_ok,hx,hy,Eg]; rw [show [u].length = 1 from rfl,hrr]; rfl)<|h _ _ ?_ ?_ ?_
    ·simpa using q1
    ·have ea:(([]:List Int).length + 1 + (grownCap w 1 0 e - 1)) = grownCap w 1 0 e:=by simp; omega
     rw [ea] at q2
     simpa using q2
    ·exact hge
   | some a1 =>
    have hrr:=run_append_grow (P:=P) w t ty e i z ht h1 h2 a1 0 0 [] (by rw [h3]; rfl) (by intro j q hj; cases hj) ⟨ga,0,none⟩ 1 capa [u] hone1 hnews zO (by decide)<|growslice_fits zO (by simpa using hbytes)
    have hge:=grownCap_ge w (0 + 1) 0 e
    have hgm:=grownCap_le_maxLen w (0 + 1) 0 e (by simpa using hmx)
    obtain ⟨q1,q2⟩:=made w.drew [] [] (grownCap w (0 + 1) 0 e - (0 + 1)) rfl rfl rfl rfl rfl (fun c hc=>by cases hc) (by show 0 + 1 + (grownCap w (0 + 1) 0 e - (0 + 1))≤maxLen; omega)
    refine K6 rfl hu _ _ (by simp only [execOp,resolve,invoke,builtin,zc,zf,zh,Sem.run_bind,Sem.run_pure,Result.andThen_ok,hx,hy,Eg]; rw [show [u].length = 1 from rfl,hrr]; rfl)<|h _ _ q1 ?_ ?_
    rotate_left
    ·exact hge
    have ea:(([]:List Int).length + 1 + (grownCap w (0 + 1) 0 e - (0 + 1))) = grownCap w (0 + 1) 0 e:=by show 0 + 1 + (grownCap w (0 + 1) 0 e - (0 + 1)) = _; omega
    rw [ea] at q2
    simpa using q2
  ·have holds:∀ j q,ous[j]? = some q→w.cell? ((⟨gv,off,none⟩:Addr).add j) = some q:=by
    intro j q hj
    rw [Gc,BL]
    simp only [C7,hg]
    rw [← hw,List.getElem?_take] at hj
    split at hj
    ·rw [List.getElem?_drop] at hj; simpa using hj
    ·cases hj
   have hrr:=run_append_grow (P:=P) w t ty e i z ht h1 h2 ⟨gv,off,none⟩ xs.length xs.length ous (by rw [h3,hels.length]; omega) holds ⟨ga,0,none⟩ 1 capa [u] hone1 hnews zO (by simp only [maxLen] at hmx; omega)<|growslice_fits zO hbytes
   have hge:=grownCap_ge w (xs.length + 1) xs.length e
   have hgm:=grownCap_le_maxLen w (xs.length + 1) xs.length e hmx
   obtain ⟨q1,q2⟩:=made w.drew ous K' (grownCap w (xs.length + 1) xs.length e - (xs.length + 1)) rfl rfl rfl rfl hels (fun c hc=>z3 _ hc) zO
   refine K6 rfl hu _ _ (by simp only [execOp,resolve,invoke,builtin,zc,zf,zh,Sem.run_bind,Sem.run_pure,Result.andThen_ok,hx,hy,Eg]; rw [show [u].length = 1 from rfl,hrr]; rfl)<|h _ _ q1 ?_ ?_
   rotate_left
   ·exact hge
   have ea:(xs.length + 1 + (grownCap w (xs.length + 1) xs.length e - (xs.length + 1))) = grownCap w (xs.length + 1) xs.length e:=by omega
   rw [ea] at q2
   exact q2
end ops
def BK (t1 t2 t3:TypeId)(S:List Nat)(g:Nat)(H:Array Obj)(vc vg vv:Value)(T:Tp):Prop :=
 ∃Fc Fg Fv,Ow (EM 4 KU t1) 0 H.size H vc T.code Fc∧Ow (EM 2 KV t2) 0 H.size H vg T.grd Fg∧Ow (Bp rI t3) 0 H.size H vv T.vals Fv ∧
  ((∀b∈Fc,b∉Fg)∧(∀b∈Fc,b∉Fv)∧(∀b∈Fg,b∉Fv))∧(g∉Fc∧g∉Fg∧g∉Fv)∧(∀b∈Fc,b∈S)∧(∀b∈Fg,b∈S)∧(∀b∈Fv,b∈S)
section rcm
variable {t1 t2 t3:TypeId} {S S':List Nat} {g:Nat} {w w':World} {vc vg vv:Value} {T:Tp}
theorem Ow.chgS {α:Type}{E:Bw α}(hE:Cd E){B:Nat}{v:Value}{x:α}{F G:List Nat}(h:Ow E B w.heap.size w.heap v x F)(c:At G w w')(hG:∀b∈G,b∉F):Ow E B w'.heap.size w'.heap v x F:=(h.keep hE c hG).up c.size
theorem BK.ext (h:BK t1 t2 t3 S g w.heap vc vg vv T)(k:AH w w'):BK t1 t2 t3 S g w'.heap vc vg vv T:=by
 obtain⟨Fc,Fg,Fv,h1,h2,h3,h4⟩:=h
 exact⟨Fc,Fg,Fv,(h1.ext (Au AY) k).up k.size,(h2.ext (Au Bb) k).up k.size,(h3.ext (AZ AJ) k).up k.size,h4⟩
theorem BK.chg (h:BK t1 t2 t3 S g w.heap vc vg vv T)(k:At [g] w w'):BK t1 t2 t3 S g w'.heap vc vg vv T:=by
 obtain⟨Fc,Fg,Fv,h1,h2,h3,h4,h5,h6⟩:=h
 exact⟨Fc,Fg,Fv,h1.chgS (Au AY) k fun b hb hm=>by rw[A9 hb]at hm;exact h5.1 hm,h2.chgS (Au Bb) k fun b hb hm=>by rw[A9 hb]at hm;exact h5.2.1 hm,
  h3.chgS (AZ AJ) k fun b hb hm=>by rw[A9 hb]at hm;exact h5.2.2 hm,h4,h5,h6⟩
theorem BK.chgO {F:List Nat}(h:BK t1 t2 t3 S g w.heap vc vg vv T)(k:At F w w')(hF:∀b∈F,b∉S):BK t1 t2 t3 S g w'.heap vc vg vv T:=by
 obtain⟨Fc,Fg,Fv,h1,h2,h3,h4,h5,h6⟩:=h
 exact⟨Fc,Fg,Fv,h1.chgS (Au AY) k fun b hb hm=>hF b hb (h6.1 b hm),h2.chgS (Au Bb) k fun b hb hm=>hF b hb (h6.2.1 b hm),
  h3.chgS (AZ AJ) k fun b hb hm=>hF b hb (h6.2.2 b hm),h4,h5,h6⟩
theorem BK.rdv (h:BK t1 t2 t3 S g w.heap vc vg vv T):Rd (B4 rI) w.heap vv T.vals:=by
 obtain⟨Fc,Fg,Fv,h1,h2,h3,_⟩:=h
 exact h3.fr.rd1
theorem BK.slv (h:BK t1 t2 t3 S g w.heap vc vg vv T):FU vv T.vals.length:=by
 obtain⟨Fc,Fg,Fv,h1,h2,h3,_⟩:=h
 exact h3.fr.isSl
theorem BK.slc (h:BK t1 t2 t3 S g w.heap vc vg vv T):FU vc T.code.length:=by
 obtain⟨Fc,Fg,Fv,h1,h2,h3,_⟩:=h
 exact h1.own.isSl
theorem BK.slg (h:BK t1 t2 t3 S g w.heap vc vg vv T):FU vg T.grd.length:=by
 obtain⟨Fc,Fg,Fv,h1,h2,h3,_⟩:=h
 exact h2.own.isSl
end rcm
def SE (t1 t2 t3:TypeId)(S:List Nat)(g:Nat)(H:Array Obj)(vp:Value)(ip:Int)(T:Tp)(s:Nat)(c:Int):Prop :=
 ∃vc vg vv,BX H g [vp,.int .i64 ip,vc,vg,.slice none 0 0,vv,.int .i64 ((s:Nat):Int),.int .i64 c]∧BK t1 t2 t3 S g H vc vg vv T
theorem RN.stp {α:Type}{E:Bw α}(hE:Cd E){S S':List Nat}{w w':World}{v:Value}{x:α}(h:RN S E w.heap v x)(c:At S w w')(hs:∀b∈S',b∈S∨w.heap.size≤b):RN S' E w'.heap v x:=by
 obtain⟨F,h1,h2⟩:=h
 refine⟨F,hE.stable h1 fun b hb=>c.block b (hE.lt h1 b hb) (h2 b hb),fun b hb hm=>?_⟩
 rcases hs b hm with hh|hh
 ·exact h2 b hb hh
 ·have:=hE.lt h1 b hb;omega
theorem At.stp {S S':List Nat}{a b c:World}(h:At S a b)(k:At S' b c)(hs:∀x∈S',x∈S∨a.heap.size≤x):At S a c :=
 ⟨k.os.trans h.os,k.tape.trans h.tape,k.output.trans h.output,A8 h.size k.size,fun i hi hm=>(k.block i (Nat.lt_of_lt_of_le hi h.size) fun hh=>by
  rcases hs i hh with h9|h9
  ·exact hm h9
  ·omega).trans (h.block i hi hm)⟩
theorem Qd {S S' S'':List Nat}{n m:Nat}(h:∀b∈S',b∈S∨n≤b)(k:∀b∈S'',b∈S'∨m≤b)(hn:n≤m):∀b∈S'',b∈S∨n≤b:=fun b hb=>by
 rcases k b hb with hh|hh
 ·exact h b hh
 ·exact .inr zO
end
section
def Tp.put (T:Tp)(c:As)(v:Int):Tp:=⟨T.code++[c],T.grd,T.vals++[v]⟩
def Tp.guard (T:Tp)(r:Int)(z:Bool):Tp:=⟨T.code,T.grd++[⟨r,z⟩],T.vals⟩
def Tp.at (T:Tp)(r:Int):Int:=T.vals.getD r.toNat 0
abbrev RI:=Int×Tp
abbrev RL:=List Int×Tp
structure Cg where
 one:Nat→Nat→List Int→Nat→Tp→Rs RI
 all:Nat→List Int→Nat→Tp→Rs RL
def Eb (f:List Int→Nat→Tp→Rs RL):Nat→List Int→Nat→Tp→Rs RL
 |0,a,s,T=>.ok (a,T) s
 |k+1,a,s,T=>(Eb f k a s T).bind fun x t=>f x.1 t x.2
def Gz (k x y:Int):Int:=if k=3 then md (x+y)else if k=4 then md (x-y)else if k=5 then md (x*y)else if k=7 then md (0-x)else md (x*inv y)
def I4 (k:Int)(xs:List Int):As:=⟨k,xs.getD 0 0,if k=7 then 0 else xs.getD 1 0,0⟩
def Qe (k:Int)(xs:List Int)(t:Nat)(T:Tp):Rs RI :=
 if k≠3∧k≠4∧k≠5∧k≠7∧T.at (I4 k xs).b=0 then .err 6
 else .ok (((T.vals.length:Nat):Int),T.put (I4 k xs) (Gz k (T.at (I4 k xs).a) (T.at (I4 k xs).b))) t
mutual
def Ej (C:Cg):Ex→List Int→Nat→Tp→Rs RI
 |.mk k num pick cnt l,env,s,T =>
  if 3000≤s then .err 7
  else if k=1 then .ok (((T.vals.length:Nat):Int),T.put ⟨2,0,0,num⟩ num) (s+1)
  else if k=2 then .ok (env.getD num.toNat 0,T) (s+1)
  else if k=8 then(NI C l 0 env (s+1) T).bind fun x t=>if x.2.at x.1=0 then NI C l 1 env t (x.2.guard x.1 true)else NI C l 2 env t (x.2.guard x.1 false)
  else if k=9 then(NI C l 0 env (s+1) T).bind fun x t=>NI C l 1 (env++[x.1]) t x.2
  else(Ey C l env (s+1) T).bind fun xs t =>
   if k=10 then C.one num.toNat pick.toNat xs.1 t xs.2
   else if k=11 then(Eb (C.all num.toNat) cnt.toNat xs.1 t xs.2).bind fun ys u=>.ok (ys.1.getD pick.toNat 0,ys.2) u
   else Qe k xs.1 t xs.2
def NI (C:Cg):List Ex→Nat→List Int→Nat→Tp→Rs RI
 |[],_,_,_,_=>.err 0
 |e::_,0,env,s,T=>Ej C e env s T
 |_::l,j+1,env,s,T=>NI C l j env s T
def Ey (C:Cg):List Ex→List Int→Nat→Tp→Rs RL
 |[],_,s,T=>.ok ([],T) s
 |e::l,env,s,T=>(Ej C e env s T).bind fun x t=>(Ey C l env t x.2).bind fun xs u=>.ok (x.1::xs.1,xs.2) u
end
theorem DT (C:Cg)(env:List Int)(s:Nat)(T:Tp):∀(l:List Ex)(j:Nat),j<l.length→NI C l j env s T=Ej C (l.getD j Ex.zero) env s T
 |[],j,h=>by simp at h
 |e::l,0,_=>by rw[NI];rfl
 |e::l,j+1,h=>by rw[NI,DT C env s T l j (by simpa using h)];simp
theorem Ms (C:Cg)(env:List Int)(e:Ex):∀(l:List Ex)(s:Nat)(T:Tp),Ey C (l++[e]) env s T=(Ey C l env s T).bind fun xs t=>(Ej C e env t xs.2).bind fun x u=>.ok (xs.1++[x.1],x.2) u
 |[],s,T=>by
  rw[zl,Ey,Ey]
  simp only[Rs.bind_ok]
  cases Ej C e env s T <;> simp only[Rs.bind_ok,Rs.bind_err,Ey] <;> rfl
 |a::l,s,T=>by
  rw[List.cons_append,Ey,Ey]
  cases Ej C a env s T with
  |err c=>rfl
  |ok x t =>
   simp only[Rs.bind_ok]
   rw[Ms C env e l t]
   simp only[Rs.bind_assoc]
   cases Ey C l env t x.2 with
   |err c=>rfl
   |ok xs u =>
    simp only[Rs.bind_ok]
    cases Ej C e env u xs.2 <;> rfl
theorem Pi {C:Cg}{env:List Int}{s:Nat}{T:Tp}{l:List Ex}{k:Nat}(hk:k<l.length):Ey C (l.take (k+1)) env s T=(Ey C (l.take k) env s T).bind fun xs t=>(Ej C (l.getD k Ex.zero) env t xs.2).bind fun x u=>.ok (xs.1++[x.1],x.2) u:=by
 rw[List.take_succ_eq_append_getElem hk,Ms]
 simp[hk]
theorem Ec (C:Cg)(e:Ex)(env:List Int)(s:Nat)(T:Tp):Ej C e env s T =
  if 3000≤s then .err 7
  else if e.kind=1 then .ok (((T.vals.length:Nat):Int),T.put ⟨2,0,0,e.num⟩ e.num) (s+1)
  else if e.kind=2 then .ok (env.getD e.num.toNat 0,T) (s+1)
  else if e.kind=8 then(NI C e.kids 0 env (s+1) T).bind fun x t=>if x.2.at x.1=0 then NI C e.kids 1 env t (x.2.guard x.1 true)else NI C e.kids 2 env t (x.2.guard x.1 false)
  else if e.kind=9 then(NI C e.kids 0 env (s+1) T).bind fun x t=>NI C e.kids 1 (env++[x.1]) t x.2
  else(Ey C e.kids env (s+1) T).bind fun xs t =>
   if e.kind=10 then C.one e.num.toNat e.pick.toNat xs.1 t xs.2
   else if e.kind=11 then(Eb (C.all e.num.toNat) e.count.toNat xs.1 t xs.2).bind fun ys u=>.ok (ys.1.getD e.pick.toNat 0,ys.2) u
   else Qe e.kind xs.1 t xs.2:=by cases e;rw[Ej];rfl
def Hi (p:List Fn):Nat→Cg
 |0=>⟨fun _ _ _ _ _=>.err 0,fun _ _ _ _=>.err 0⟩
 |k+1=>⟨fun f j a s T=>if f=k then Ej (Hi p k) ((p.getD k Fn.zero).outs.getD j Ex.zero) a s T else(Hi p k).one f j a s T,
   fun f a s T=>if f=k then Ey (Hi p k) (p.getD k Fn.zero).outs a s T else(Hi p k).all f a s T⟩
theorem LT {p:List Fn}{f j:Nat}{a:List Int}{s:Nat}{T:Tp}:∀ {F:Nat},f<F→(Hi p F).one f j a s T=Ej (Hi p f) ((p.getD f Fn.zero).outs.getD j Ex.zero) a s T
 |0,h=>by omega
 |F+1,h=>by
  show(if f=F then _ else _)=_
  split
  ·rename_i e;rw[e]
  ·exact LT zO
theorem Ki {p:List Fn}{f:Nat}{a:List Int}{s:Nat}{T:Tp}:∀ {F:Nat},f<F→(Hi p F).all f a s T=Ey (Hi p f) (p.getD f Fn.zero).outs a s T
 |0,h=>by omega
 |F+1,h=>by
  show(if f=F then _ else _)=_
  split
  ·rename_i e;rw[e]
  ·exact Ki zO
section
variable {C:Cg} {e:Ex} {env:List Int} {s s1 s2:Nat} {c c1 c2:Int} {T T1 T2:Tp} {x y:Int} {xs ys:List Int}
theorem VQ {α:Type}{r:Rs α}{x:α}(hc:c≠0):AL (go c r) x s c:=AL.mk_err (DG hc r) hc
theorem Sn {x:RI}(hc:c=0)(hs:s=3000):AL (go c (Ej C e env s T)) x s1 7:=by
 subst hc;rw[CT,Ec,if_pos (by omega)];exact AL.mk_err rfl (by decide)
theorem Zf (hc:c=0)(hs:s+1≤3000)(hk:e.kind=1):AL (go c (Ej C e env s T)) (((T.vals.length:Nat):Int),T.put ⟨2,0,0,e.num⟩ e.num) (s+1) c:=by
 subst hc;rw[CT,Ec,if_neg zO,if_pos hk];exact AL.mk_ok rfl
theorem Zg (hc:c=0)(hs:s+1≤3000)(hk:e.kind=2):AL (go c (Ej C e env s T)) (env.getD e.num.toNat 0,T) (s+1) c:=by
 subst hc;rw[CT,Ec,if_neg zO,if_neg zO,if_pos hk];exact AL.mk_ok rfl
theorem Zh {z:RI}(hc:c=0)(hs:s+1≤3000)(hk:e.kind=8)(hl:e.kids.length=3)(h1:AL (go c (Ej C (e.kids.getD 0 Ex.zero) env (s+1) T)) (x,T1) s1 c1)(hc1:c1≠0):AL (go c (Ej C e env s T)) z s2 c1:=by
 subst hc
 rw[CT]at h1
 rw[CT,Ec,if_neg zO,if_neg zO,if_neg zO,if_pos hk,DT _ _ _ _ _ _ zO,h1.bindE hc1]
 exact AL.mk_err rfl hc1
theorem Zi (hc:c=0)(hs:s+1≤3000)(hk:e.kind=8)(hl:e.kids.length=3)(h1:AL (go c (Ej C (e.kids.getD 0 Ex.zero) env (s+1) T)) (x,T1) s1 c1)(hc1:c1=0)(hx:T1.at x=0)
  (h2:AL (go c1 (Ej C (e.kids.getD 1 Ex.zero) env s1 (T1.guard x (decide (T1.at x=0))))) (y,T2) s2 c2):AL (go c (Ej C e env s T)) (y,T2) s2 c2:=by
 subst hc;subst hc1
 rw[CT]at h1 h2
 rw[CT,Ec,if_neg zO,if_neg zO,if_neg zO,if_pos hk,DT _ _ _ _ _ _ zO,h1.bindO]
 dsimp only
 rw[A5 hx]at h2
 rw[if_pos hx,DT _ _ _ _ _ _ (by omega)];exact h2
theorem Zj (hc:c=0)(hs:s+1≤3000)(hk:e.kind=8)(hl:e.kids.length=3)(h1:AL (go c (Ej C (e.kids.getD 0 Ex.zero) env (s+1) T)) (x,T1) s1 c1)(hc1:c1=0)(hx:¬T1.at x=0)
  (h2:AL (go c1 (Ej C (e.kids.getD 2 Ex.zero) env s1 (T1.guard x (decide (T1.at x=0))))) (y,T2) s2 c2):AL (go c (Ej C e env s T)) (y,T2) s2 c2:=by
 subst hc;subst hc1
 rw[CT]at h1 h2
 rw[CT,Ec,if_neg zO,if_neg zO,if_neg zO,if_pos hk,DT _ _ _ _ _ _ zO,h1.bindO]
 dsimp only
 rw[A6 hx]at h2
 rw[if_neg hx,DT _ _ _ _ _ _ (by omega)];exact h2
theorem Zk (hc:c=0)(hs:s+1≤3000)(hk:e.kind=9)(hl:e.kids.length=2)(h1:AL (go c (Ej C (e.kids.getD 0 Ex.zero) env (s+1) T)) (x,T1) s1 c1)
  (h2:AL (go c1 (Ej C (e.kids.getD 1 Ex.zero) (env++[x]) s1 T1)) (y,T2) s2 c2):AL (go c (Ej C e env s T)) (y,T2) s2 c2:=by
 subst hc
 rw[CT,Ec,if_neg zO,if_neg zO,if_neg zO,if_neg zO,if_pos hk,DT _ _ _ _ _ _ (by omega)]
 rw[CT]at h1
 by_cases h0:c1=0
 ·subst h0;rw[h1.bindO,DT _ _ _ _ _ _ (by omega)];exact h2
 ·rw[h1.bindE h0];rw[DG h0]at h2;exact h2
theorem Kj (hs:s+1≤3000)(h1:e.kind≠1)(h2:e.kind≠2)(h8:e.kind≠8)(h9:e.kind≠9):Ej C e env s T=(Ey C e.kids env (s+1) T).bind fun xs t =>
  if e.kind=10 then C.one e.num.toNat e.pick.toNat xs.1 t xs.2
   else if e.kind=11 then(Eb (C.all e.num.toNat) e.count.toNat xs.1 t xs.2).bind fun ys u=>.ok (ys.1.getD e.pick.toNat 0,ys.2) u
   else Qe e.kind xs.1 t xs.2:=by
 rw[Ec,if_neg zO,if_neg h1,if_neg h2,if_neg h8,if_neg h9]
theorem TB {z:RI}(hc:c=0)(hs:s+1≤3000)(h1:e.kind≠1)(h2:e.kind≠2)(h8:e.kind≠8)(h9:e.kind≠9)(hr:AL (go c (Ey C e.kids env (s+1) T)) (xs,T1) s1 c1)(hc1:c1≠0):AL (go c (Ej C e env s T)) z s2 c1:=by
 subst hc
 rw[CT]at hr ⊢
 rw[Kj hs h1 h2 h8 h9,hr.bindE hc1];exact AL.mk_err rfl hc1
theorem VR {p:List Fn}{F:Nat}(hc:c=0)(hs:s+1≤3000)(hk:e.kind=10)(hF:e.num.toNat<F)(hr:AL (go c (Ey (Hi p F) e.kids env (s+1) T)) (xs,T1) s1 c1)(hc1:c1=0)
  (h2:AL (go c1 (Ej (Hi p e.num.toNat) ((p.getD e.num.toNat Fn.zero).outs.getD e.pick.toNat Ex.zero) xs s1 T1)) (y,T2) s2 c2):AL (go c (Ej (Hi p F) e env s T)) (y,T2) s2 c2:=by
 subst hc;subst hc1
 rw[CT]at hr h2 ⊢
 rw[Kj hs zO zO zO zO,hr.bindO,if_pos hk,LT hF];exact h2
theorem VS {p:List Fn}{F:Nat}(hc:c=0)(hs:s+1≤3000)(hk:e.kind=11)(hF:e.num.toNat<F)(hr:AL (go c (Ey (Hi p F) e.kids env (s+1) T)) (xs,T1) s1 c1)(hc1:c1=0)
  (h2:AL (Eb (fun a t U=>Ey (Hi p e.num.toNat) (p.getD e.num.toNat Fn.zero).outs a t U) e.count.toNat xs s1 T1) (ys,T2) s2 c2):AL (go c (Ej (Hi p F) e env s T)) (ys.getD e.pick.toNat 0,T2) s2 c2:=by
 subst hc;subst hc1
 rw[CT]at hr ⊢
 rw[Kj hs zO zO zO zO,hr.bindO,if_neg zO,if_pos hk]
 have hl:(Hi p F).all e.num.toNat=fun a t U=>Ey (Hi p e.num.toNat) (p.getD e.num.toNat Fn.zero).outs a t U:=funext fun a=>funext fun t=>funext fun U=>Ki hF
 rw[hl]
 by_cases h0:c2=0
 ·subst h0;rw[h2.bindO];exact AL.mk_ok rfl
 ·rw[h2.bindE h0];exact AL.mk_err rfl h0
theorem aK {z:RI}(hc:c=0)(hs:s+1≤3000)(h1:e.kind≠1)(h2:e.kind≠2)(h8:e.kind≠8)(h9:e.kind≠9)(h10:e.kind≠10)(h11:e.kind≠11)(hr:AL (go c (Ey C e.kids env (s+1) T)) (xs,T1) s1 c1)(hc1:c1=0)
  (h:AL (go c1 (Qe e.kind xs s1 T1)) z s2 c2):AL (go c (Ej C e env s T)) z s2 c2:=by
 subst hc;subst hc1
 rw[CT]at hr h ⊢
 rw[Kj hs h1 h2 h8 h9,hr.bindO,if_neg h10,if_neg h11];exact h
theorem Mu (C:Cg)(l:List Ex)(env:List Int)(s:Nat)(T:Tp)(c:Int):AL (go c (Ey C (l.take 0) env s T)) ([],T) s c:=by
 rw[List.take_zero,Ey]
 by_cases h:c=0
 ·subst h;exact AL.mk_ok rfl
 ·exact AL.mk_err (DG h _) h
theorem VT {l:List Ex}{k:Nat}(hk:k<l.length)(h:AL (go c (Ey C (l.take k) env s T)) (xs,T1) s1 c1)(h2:AL (go c1 (Ej C (l.getD k Ex.zero) env s1 T1)) (x,T2) s2 c2) :
  AL (go c (Ey C (l.take (k+1)) env s T)) (xs++[x],T2) s2 c2:=by
 by_cases hc:c=0
 ·subst hc
  rw[CT]at h ⊢
  rw[Pi hk]
  by_cases h0:c1=0
  ·subst h0
   rw[CT]at h2
   rw[h.bindO]
   by_cases h9:c2=0
   ·subst h9;rw[h2.bindO];exact AL.mk_ok rfl
   ·rw[h2.bindE h9];exact AL.mk_err rfl h9
  ·rw[h.bindE h0]
   rw[DG h0]at h2
   have:=h2.1
   exact AL.mk_err (by rw[this]) (this ▸ h0)
 ·rw[DG hc]at h ⊢
  have h3:=h.1
  subst h3
  rw[DG hc]at h2
  exact AL.mk_err (by rw[h2.1]) (h2.1 ▸ hc)
theorem Zl {f:List Int→Nat→Tp→Rs RL}{k:Nat}(h:AL (Eb f k xs s T) (ys,T1) s1 c1)(hc:c1=0){zs:RL}(h2:AL (go c1 (f ys s1 T1)) zs s2 c2):AL (Eb f (k+1) xs s T) zs s2 c2:=by
 subst hc
 show AL ((Eb f k xs s T).bind _) _ _ _
 rw[h.bindO];rw[CT]at h2;exact h2
theorem Pj {f:List Int→Nat→Tp→Rs RL}{d:Int}:∀ {m k:Nat},Eb f k xs s T=.err d→k≤m→Eb f m xs s T=.err d
 |0,k,h,hk=>by
  have:k=0:=by omega
  subst this;exact h
 |m+1,k,h,hk=>by
  by_cases e:k=m+1
  ·subst e;exact h
  ·show(Eb f m xs s T).bind _=_
   rw[Pj h (by omega)];rfl
theorem VU {f:List Int→Nat→Tp→Rs RL}{k m:Nat}{zs:RL}(h:AL (Eb f k xs s T) zs s1 c1)(hk:k≤m)(hs:k=m∨c1≠0):AL (Eb f m xs s T) zs s1 c1:=by
 by_cases hc:c1=0
 ·rcases hs with rfl|hh
  ·exact h
  ·exact absurd hc hh
 ·exact AL.mk_err (Pj (h.err hc) hk) hc
end
def GK (T:Tp)(s:Nat):Prop:=T.code.length=T.vals.length∧T.vals.length≤12+s∧T.grd.length≤s∧AX T.vals=true
theorem GK.put {T:Tp}{s:Nat}(h:GK T s)(c:As){v:Int}(hv:0≤v∧v<1000003):GK (T.put c v) (s+1):=by
 obtain⟨h1,h2,h3,h4⟩:=h
 unfold Tp.put
 refine⟨by simp[h1],by simp;omega,by simp;omega,?_⟩
 unfold AX at h4 ⊢
 rw[List.all_append,h4]
 simp[CI.2 hv]
theorem GK.guard {T:Tp}{s:Nat}(h:GK T s)(r:Int)(z:Bool)(hg:T.grd.length+1≤s):GK (T.guard r z) s:=by
 obtain⟨h1,h2,h3,h4⟩:=h
 exact⟨h1,h2,by show(T.grd++[_]).length≤s;simp;omega,h4⟩
theorem GK.up {T:Tp}{s s':Nat}(h:GK T s)(hs:s≤s'):GK T s':=⟨h.1,by have:=h.2.1;omega,by have:=h.2.2.1;omega,h.2.2.2⟩
theorem GK.dn {T:Tp}{s s':Nat}(h:GK T s)(hv:T.vals.length≤12+s')(hg:T.grd.length≤s'):GK T s':=⟨h.1,hv,hg,h.2.2.2⟩
theorem GK.ln {T:Tp}{s:Nat}(h:GK T s)(hs:s≤3000):T.code.length≤4000∧T.vals.length≤4000:=by have:=h.1;have:=h.2.1;omega
abbrev Ez (k b:Int):Prop:=k≠3∧k≠4∧k≠5∧k≠7∧b=0
section
variable {k a b:Int}
theorem TC (h:k=3):(if Ez k b then 0 else Gz k a b)=md (a+b)∧(!decide (Ez k b))=true:=by subst h;exact⟨rfl,rfl⟩
theorem TD (h:k=4):(if Ez k b then 0 else Gz k a b)=md (a-b)∧(!decide (Ez k b))=true:=by subst h;exact⟨rfl,rfl⟩
theorem TF (h:k=5):(if Ez k b then 0 else Gz k a b)=md (a*b)∧(!decide (Ez k b))=true:=by subst h;exact⟨rfl,rfl⟩
theorem TG (h:k=7):(if Ez k b then 0 else Gz k a b)=md (0-a)∧(!decide (Ez k b))=true:=by subst h;exact⟨rfl,rfl⟩
theorem Ra (h:k≠3∧k≠4∧k≠5∧k≠7)(hb:b=0):(if Ez k b then 0 else Gz k a b)=0∧(!decide (Ez k b))=false:=by
 have hz:Ez k b:=⟨h.1,h.2.1,h.2.2.1,h.2.2.2,hb⟩
 rw[if_pos hz,A5 hz];exact⟨rfl,rfl⟩
theorem TH (h:k≠3∧k≠4∧k≠5∧k≠7)(hb:b≠0):(if Ez k b then 0 else Gz k a b)=md (a*inv b)∧(!decide (Ez k b))=true:=by
 have hz:¬Ez k b:=fun h9=>hb h9.2.2.2.2
 rw[if_neg hz,A6 hz]
 refine⟨?_,rfl⟩
 unfold Gz
 rw[if_neg h.1,if_neg h.2.1,if_neg h.2.2.1,if_neg h.2.2.2]
theorem Kk (k a b:Int):0≤Gz k a b∧Gz k a b<1000003:=by unfold Gz;split <;> (try split) <;> (try split) <;> (try split) <;> exact Ck _
end
theorem In {k:Int}{xs:List Int}{T:Tp}{t:Nat}(h:¬Ez k (T.at (I4 k xs).b)):Qe k xs t T=.ok (((T.vals.length:Nat):Int),T.put (I4 k xs) (Gz k (T.at (I4 k xs).a) (T.at (I4 k xs).b))) t:=if_neg h
theorem Ok {k:Int}{xs:List Int}{T:Tp}{t:Nat}(h:Ez k (T.at (I4 k xs).b)):Qe k xs t T=.err 6:=if_pos h
theorem aL {α:Type}{r:Rs α}{x:α}{s:Nat}{c c1:Int}(h:AL (go c r) x s c1)(h1:c1=0):c=0:=by
 by_cases hc:c=0
 ·exact hc
 ·rw[DG hc]at h
  have:=h.1
  omega
theorem Rb (k a b:Int):0≤(if Ez k b then 0 else Gz k a b)∧(if Ez k b then 0 else Gz k a b)<1000003:=by
 have:=Kk k a b
 split <;> omega
theorem aM {Q:Prop} [Decidable Q] (h:(!(!decide Q))=true):Q:=by simpa using h
theorem fb {Q:Prop} [Decidable Q] (h:(!(!decide Q))=false):¬Q:=by simpa using h
theorem GZ {k:Int}{xs:List Int}(h:k≠7):I4 k xs=⟨k,xs.getD 0 0,xs.getD 1 0,0⟩:=by unfold I4;rw[if_neg h]
theorem Qf {k:Int}{xs:List Int}(h:k=7):I4 k xs=⟨k,xs.getD 0 0,0,0⟩:=by unfold I4;rw[if_pos h]
theorem VV {k c:Int}{xs:List Int}{T:Tp}{s s2:Nat}{z:RI}(hc:c=0)(h7:k≠7)(hz:Ez k (T.vals.getD (xs.getD 1 0).toNat 0)):AL (go c (Qe k xs s T)) z s2 6:=by
 subst hc
 rw[CT,Ok (by rw[GZ h7];exact hz)];exact AL.mk_err rfl (by decide)
theorem VW {k c:Int}{xs:List Int}{T:Tp}{s:Nat}(hc:c=0)(h7:k≠7)(hz:¬Ez k (T.vals.getD (xs.getD 1 0).toNat 0)) :
  AL (go c (Qe k xs s T)) (((T.vals.length:Nat):Int),T.put ⟨k,xs.getD 0 0,xs.getD 1 0,0⟩ (if Ez k (T.vals.getD (xs.getD 1 0).toNat 0)then 0 else Gz k (T.vals.getD (xs.getD 0 0).toNat 0) (T.vals.getD (xs.getD 1 0).toNat 0))) s c:=by
 subst hc
 rw[CT,In (by rw[GZ h7];exact hz),GZ h7,if_neg hz];exact AL.mk_ok rfl
theorem VX {k c:Int}{xs:List Int}{T:Tp}{s:Nat}{b:Int}(hc:c=0)(h7:k=7) :
  AL (go c (Qe k xs s T)) (((T.vals.length:Nat):Int),T.put ⟨k,xs.getD 0 0,0,0⟩ (if Ez k b then 0 else Gz k (T.vals.getD (xs.getD 0 0).toNat 0) b)) s c:=by
 subst hc
 subst h7
 rw[CT,In (fun h=>h.2.2.2.1 rfl),Qf rfl,if_neg (fun h:Ez 7 b=>h.2.2.2.1 rfl)];exact AL.mk_ok rfl
theorem XN {k b:Int}(h:k=7):¬Ez k b:=fun h9=>h9.2.2.2.1 h
def Gj (T:Tp)(env:List Int):Prop:=∀k,k<env.length→0≤env.getD k 0∧env.getD k 0<((T.vals.length:Nat):Int)
theorem Gj.mono {T T':Tp}{env:List Int}(h:Gj T env)(hl:T.vals.length≤T'.vals.length):Gj T' env:=fun k hk=>by have:=h k hk;omega
theorem Gj.snoc {T:Tp}{env:List Int}{r:Int}(h:Gj T env)(hr:0≤r∧r<((T.vals.length:Nat):Int)):Gj T (env++[r]):=fun k hk=>by
 rw[z4,zd]at hk
 rw[ZW]
 split
 ·exact hr
 ·exact h k zO
theorem Gj.nil (T:Tp):Gj T []:=fun k hk=>absurd hk (Nat.not_lt_zero k)
theorem Dy {Q:Nat→Prop}:∀b∈([]:List Nat),Q b:=fun b hb=>(by cases hb)
theorem At.drewL {F:List Nat}{a b:World}(h:At F a b):At F a.drew b:=⟨h.os,h.tape,h.output,h.size,h.block⟩
def PR {α:Type}(S:List Nat)(B:Nat)(E:Bw α)(H:Array Obj)(v:Value)(x:α):Prop:=∃F,E H v x F∧∀b∈F,b∉S∧B≤b
theorem PR.rn {α:Type}{S:List Nat}{B:Nat}{E:Bw α}{H:Array Obj}{v:Value}{x:α}(h:PR S B E H v x):RN S E H v x:=by
 obtain⟨F,h1,h2⟩:=h
 exact⟨F,h1,fun b hb=>(h2 b hb).1⟩
theorem PR.upd {α:Type}{S F:List Nat}{B:Nat}{E:Bw α}(hE:Cd E){w w':World}{v:Value}{x:α}(h:PR S B E w.heap v x)(c:At F w w')(hF:∀b∈F,b∈S∨b<B):PR S B E w'.heap v x:=by
 obtain⟨G,h1,h2⟩:=h
 refine⟨G,hE.stable h1 fun b hb=>c.block b (hE.lt h1 b hb) fun hm=>?_,h2⟩
 rcases hF b hm with hh|hh
 ·exact (h2 b hb).1 hh
 ·have:=(h2 b hb).2;omega
theorem PR.of_ow {e:TypeId}{B T:Nat}{H:Array Obj}{v:Value}{xs:List Int}{F S:List Nat}(h:Ow (Bp rI e) B T H v xs F)(hS:∀b∈F,b∉S):PR S B (B4 rI) H v xs:=⟨F,h.own.rd id,fun b hb=>⟨hS b hb,h.low b hb⟩⟩
structure DU (S S':List Nat)(w w':World):Prop where
 sub:∀b∈S,b∈S'
 new:∀b∈S',b∈S∨w.heap.size≤b
 lt:∀b∈S',b<w'.heap.size
 chg:At S w w'
section
variable {S S' S'':List Nat} {w w' w'':World} {g:Nat}
theorem DU.refl (h:∀b∈S,b<w.heap.size):DU S S w w:=⟨fun _ h=>h,fun _ h=>.inl h,h,At.refl S w⟩
theorem DU.trans (h:DU S S' w w')(k:DU S' S'' w' w''):DU S S'' w w'' :=
 ⟨fun b hb=>k.sub b (h.sub b hb),Qd h.new k.new h.chg.size,k.lt,h.chg.stp k.chg h.new⟩
theorem DU.ext (h:DU S S' w w')(k:AH w' w''):DU S S' w w'':=⟨h.sub,h.new,fun b hb=>Nat.lt_of_lt_of_le (h.lt b hb) k.size,h.chg.ext k⟩
theorem DU.drew (h:DU S S' w w'):DU S S' w w'.drew:=⟨h.sub,h.new,h.lt,h.chg.drew⟩
theorem DU.of_drew (h:DU S S' w.drew w'):DU S S' w w':=⟨h.sub,h.new,h.lt,h.chg.of_drew⟩
theorem DU.set (h:DU S S' w w')(hg:g∈S)(k:At [g] w' w''):DU S S' w w'':=⟨h.sub,h.new,fun b hb=>Nat.lt_of_lt_of_le (h.lt b hb) k.size,h.chg.trans (k.sub (B7 hg))⟩
theorem DU.more {F:List Nat}(h:DU S S' w w')(k:At F w' w'')(hF:∀b∈F,b∈S):DU S S' w w'':=⟨h.sub,h.new,fun b hb=>Nat.lt_of_lt_of_le (h.lt b hb) k.size,h.chg.trans (k.sub hF)⟩
theorem DU.fresh {F:List Nat}(h:DU S S' w w')(k:At F w' w'')(hF:∀b∈F,w.heap.size≤b):DU S S' w w'':=⟨h.sub,h.new,fun b hb=>Nat.lt_of_lt_of_le (h.lt b hb) k.size,h.chg.fresh k hF⟩
end
structure XO (T T':Tp)(s0 s1:Nat)(c1:Int):Prop where
 bnd:GK T' s1
 num:s1≤3000∧(0≤c1∧c1≤9)∧T.vals.length≤T'.vals.length∧T'.vals.length+s0≤T.vals.length+s1∧T'.grd.length+s0≤T.grd.length+s1
@[simp] theorem EA (T:Tp)(c:As)(v:Int):(T.put c v).vals.length=T.vals.length+1:=by simp[Tp.put]
@[simp] theorem Qg (T:Tp)(c:As)(v:Int):(T.put c v).code.length=T.code.length+1:=by simp[Tp.put]
@[simp] theorem TJ (T:Tp)(c:As)(v:Int):(T.put c v).grd=T.grd:=rfl
@[simp] theorem Hj (T:Tp)(r:Int)(z:Bool):(T.guard r z).vals=T.vals:=rfl
@[simp] theorem Mv (T:Tp)(r:Int)(z:Bool):(T.guard r z).grd.length=T.grd.length+1:=by simp[Tp.guard]
theorem RN.of_ow {e:TypeId}{B T:Nat}{H:Array Obj}{v:Value}{xs:List Int}{F S:List Nat}(h:Ow (Bp rI e) B T H v xs F)(hS:∀b∈F,b∉S):RN S (B4 rI) H v xs:=⟨F,h.own.rd id,hS⟩
theorem BK.len {t1 t2 t3:TypeId}{S:List Nat}{g:Nat}{H:Array Obj}{vc vg vv:Value}{T:Tp}(h:BK t1 t2 t3 S g H vc vg vv T):T.code.length≤maxLen∧T.grd.length≤maxLen∧T.vals.length≤maxLen:=by
 obtain⟨Fc,Fg,Fv,h1,h2,h3,_⟩:=h
 exact⟨h1.own.lenle,h2.own.lenle,h3.own.lenle⟩
end
section
def Hk (a:List Int):Nat→Tp
 |0=>⟨[],[],[]⟩
 |k+1=>(Hk a k).put ⟨1,0,0,((k:Nat):Int)⟩ (a.getD k 0)
def FR (k:Nat):List Int:=(List.range k).map fun i=>((i:Nat):Int)
@[simp] theorem DP (k:Nat):(FR k).length=k:=by simp[FR]
theorem Mw (k:Nat):FR (k+1)=FR k++[((k:Nat):Int)]:=by simp[FR,List.range_succ]
theorem Pk {k j:Nat}(h:j<k):(FR k).getD j 0=((j:Nat):Int):=by
 unfold FR
 rw[Ci (d:=0) (by simpa using h)]
 simp[h]
@[simp] theorem H0 (a:List Int):∀k,(Hk a k).vals.length=k
 |0=>rfl
 |k+1=>by show((Hk a k).put _ _).vals.length=_;rw[EA,H0 a k]
@[simp] theorem KX (a:List Int):∀k,(Hk a k).code.length=k
 |0=>rfl
 |k+1=>by show((Hk a k).put _ _).code.length=_;rw[Qg,KX a k]
theorem TK (a:List Int):∀k,(Hk a k).grd=[]
 |0=>rfl
 |k+1=>by show((Hk a k).put _ _).grd=_;rw[TJ,TK a k]
theorem Pl (a:List Int):∀k,k≤a.length→(Hk a k).vals=a.take k
 |0,_=>rfl
 |k+1,h=>by
  show(Hk a k).vals++[a.getD k 0]=_
  rw[Pl a k zO,D6 0 (by omega)]
theorem TL {a:List Int}(hn:AX a=true)(h:a.length≤12):GK (Hk a a.length) 0:=by
 refine⟨by simp,by simp;omega,by rw[TK];simp,?_⟩
 rw[Pl a _ (A7 _),List.take_length];exact hn
theorem TM (a:List Int)(k:Nat):Gj (Hk a k) (FR k):=fun j hj=>by
 rw[DP]at hj
 rw[Pk hj,H0];omega
def Lv (p:List Fn)(f:Nat)(a:List Int):Rs RL:=Ey (Hi p f) (p.getD f Fn.zero).outs (FR a.length) 0 (Hk a a.length)
section rcm
variable {t1 t2 t3:TypeId} {S:List Nat} {g:Nat} {w w':World} {vc vg vv:Value} {T:Tp}
theorem BK.nil:BK t1 t2 t3 S g w.heap (.slice none 0 0) (.slice none 0 0) (.slice none 0 0) ⟨[],[],[]⟩ :=
 ⟨[],[],[],⟨.inl ⟨rfl,rfl,rfl⟩,zk,Dy,Dy⟩,⟨.inl ⟨rfl,rfl,rfl⟩,zk,Dy,Dy⟩,⟨.inl ⟨rfl,rfl,rfl⟩,zk,Dy,Dy⟩,
  ⟨Dy,Dy,Dy⟩,⟨z2,z2,z2⟩,Dy,Dy,Dy⟩
theorem At.toExt {F:List Nat}(h:At F w w')(hF:∀b∈F,w.heap.size≤b):AH w w':=⟨h.os,h.tape,h.output,h.size,fun k hk=>h.block k hk fun hm=>by have:=hF k hm;omega⟩
end rcm
def RG {α:Type}(T:Nat)(E:Bw α)(H:Array Obj)(v:Value)(x:α):Prop:=∃F,E H v x F∧∀b∈F,T≤b
theorem PR.rg {α:Type}{S:List Nat}{B T:Nat}{E:Bw α}{H:Array Obj}{v:Value}{x:α}(h:PR S B E H v x)(hT:T≤B):RG T E H v x:=by
 obtain⟨F,h1,h2⟩:=h
 exact⟨F,h1,fun b hb=>A8 hT (h2 b hb).2⟩
theorem RG.rnG {α:Type}{T g:Nat}{E:Bw α}{w:World}{v:Value}{x:α}(hE:Cd E)(h:RG T E w.heap v x)(hg:g<T∨w.heap.size≤g):RN [g] E w.heap v x:=by
 obtain⟨F,h1,h2⟩:=h
 refine⟨F,h1,fun b hb hm=>?_⟩
 rw[A9 hm]at hb
 have:=h2 g hb
 have:=hE.lt h1 g hb
 omega
theorem BK.readsG {t1 t2 t3:TypeId}{S:List Nat}{g n:Nat}{w:World}{vc vg vv:Value}{T:Tp}(h:BK t1 t2 t3 S g w.heap vc vg vv T)(hS:∀b∈S,n≤b):RG n (D5 4 KU) w.heap vc T.code∧RG n (D5 2 KV) w.heap vg T.grd:=by
 obtain⟨Fc,Fg,Fv,h1,h2,h3,h4,h5,h6,h7,h8⟩:=h
 exact⟨⟨Fc,h1.own.rd AY,fun b hb=>hS b (h6 b hb)⟩,⟨Fg,h2.own.rd Bb,fun b hb=>hS b (h7 b hb)⟩⟩
theorem AL.go0 {α:Type}{r:Rs α}{x:α}{s:Nat}{c:Int}(h:AL (go ((0:Nat):Int) r) x s c):AL r x s c:=h
theorem LD.part {H:Array Obj}{g k:Nat}{cs ds:List Value}(h:BX H g cs)(hl:k+ds.length≤cs.length)(hd:∀i,i<ds.length→ds.getD i undef=cs.getD (k+i) undef):LD H (.pointer (some ⟨g,k,none⟩)) ds:=by
 obtain⟨e,h⟩:=h
 refine⟨g,k,rfl,fun i hi=>?_⟩
 simp only[C7,h]
 rw[hd i hi]
 simp[show k+i<cs.length by omega]
end
def Kl (p:List Fn)(f:Int):Int:=if GJ p=true then(if 0≤f∧f≤((p.length:Nat):Int)-1 then 0 else 2)else 1
theorem Rc {p:List Fn}{f:Int}(h:Kl p f=0):GJ p=true∧0≤f∧f<((p.length:Nat):Int):=by
 unfold Kl at h
 split at h
 ·split at h
  ·rename_i h1 h2;exact⟨h1,h2.1,zO⟩
  ·omega
 ·omega
theorem RN.ofOne {S:List Nat}{e:TypeId}{B U:Nat}{H:Array Obj}{v u:Value}{r:List Int}(h:Fr (Bp rV e) B U H v [u])(hr:RN S (B4 rI) H u r)(hS:∀b∈S,b<B):RN S (B4 (B4 rI)) H v [r]:=by
 obtain⟨F,h1,h2,h3⟩:=h
 obtain⟨G,g1',g2'⟩:=hr
 rcases h1 with⟨_,hc,_⟩|⟨us,g,cap,cur,F',hels,rfl,hg,q1,q2,q3,q4,rfl⟩
 ·cases hc
 ·obtain⟨rfl,rfl⟩:=FV hels
  refine⟨g::(G++[]),.inr ⟨[u],g,0,cap,cur,e,(0,0),G++[],⟨G,[],rfl,g1',rfl⟩,rfl,hg,by simpa using q4,by simp[maxLen],rfl⟩,fun b hb hm=>?_⟩
  rcases ze.1 hb with rfl|hb
  ·have:=(h3 b (z0 ..)).1;have:=hS b hm;omega
  ·rw[List.append_nil]at hb;exact g2' b hb hm
theorem VY {e:TypeId}{B U:Nat}{H:Array Obj}{v u:Value}(h:Fr (Bp rV e) B U H v [u]):C3 v:=h.cap
theorem TN {n k:Nat}{s:Sr}(h:Cv n s)(hk:k<n):IL (s.getD k 0)=true:=by
 have hk':k<s.length:=by rw[h.1];exact hk
 have:=h.2
 unfold AX at this
 have h2:=zm.1 this s[k]<|List.getElem_mem hk'
 rwa [show s.getD k 0=s[k]from by simp[hk']]
section
mutual
def IW:Ex→Int→Int
 |.mk _ _ _ _ l,x=>Du l (x-1)
def Du:List Ex→Int→Int
 |[],x=>x
 |e::l,x=>if 0≤x then Du l (IW e x)else x
end
theorem VZ (e:Ex)(x:Int):IW e x=Du e.kids (x-1):=by cases e;rw[IW];rfl
theorem Mx {l:List Ex}{x:Int}(h:x<0):Du l x=x:=by
 cases l with
 |nil=>rw[Du]
 |cons e l=>rw[Du,if_neg (by omega)]
mutual
theorem My:∀(e:Ex)(x:Int),0≤x→(IW e x=x-(e.size:Int)∧(e.size:Int)≤x)∨(IW e x = -1∧x<(e.size:Int))
 |.mk k n q c l,x,h=>by
  rw[IW,Ex.size]
  by_cases h0:x=0
  ·subst h0
   right
   rw[Mx (by omega)]
   refine⟨zO,zO⟩
  ·rcases IO l (x-1) (by omega)with h1|h1
   ·left;omega
   ·right;omega
theorem IO:∀(l:List Ex)(x:Int),0≤x→(Du l x=x-(Ex.sizes l:Int)∧(Ex.sizes l:Int)≤x)∨(Du l x = -1∧x<(Ex.sizes l:Int))
 |[],x,h=>by rw[Du,Ex.sizes];left;omega
 |e::l,x,h=>by
  rw[Du,if_pos h,Ex.sizes]
  rcases My e x h with h1|h1
  ·rw[h1.1]
   rcases IO l (x-(e.size:Int)) (by omega)with h2|h2
   ·left;omega
   ·right;omega
  ·rw[h1.1,Mx (by omega)]
   right;omega
end
theorem NJ (e:Ex):∀(l:List Ex)(x:Int),Du (l++[e]) x=if 0≤Du l x then IW e (Du l x)else Du l x
 |[],x=>by
  rw[zl,Du,Du]
  split
  ·rw[Du]
  ·rfl
 |a::l,x=>by
  rw[List.cons_append,Du,Du]
  by_cases h:0≤x
  ·rw[if_pos h,if_pos h,NJ e l]
  ·rw[if_neg h,if_neg h,if_neg h]
theorem NK {l:List Ex}{k:Nat}(hk:k<l.length){x:Int}(h:0≤Du (l.take k) x):Du (l.take (k+1)) x=IW (l.getD k Ex.zero) (Du (l.take k) x):=by
 rw[List.take_succ_eq_append_getElem hk,NJ,if_pos h]
 simp[hk]
theorem Pm:∀(l r:List Ex)(x:Int),Du l x<0→Du (l++r) x=Du l x
 |[],r,x,h=>by rw[Du]at h ⊢;rw[zl,Mx h]
 |a::l,r,x,h=>by
  rw[Du]at h ⊢
  rw[List.cons_append,Du]
  split
  ·rename_i h0;rw[if_pos h0]at h;exact Pm l r _ h
  ·rfl
theorem NL {l:List Ex}{k:Nat}{x:Int}(h:Du (l.take k) x<0):Du l x=Du (l.take k) x:=by
 have:=Pm (l.take k) (l.drop k) x h
 rwa [List.take_append_drop]at this
theorem Pn {e:Ex}{x:Int}(h:0≤x):-1≤IW e x∧IW e x≤x:=by
 rcases My e x h with h1|h1 <;> omega
theorem TO {e:Ex}{x:Int}(h:0≤x):0≤IW e x↔(e.size:Int)≤x:=by
 rcases My e x h with h1|h1 <;> omega
def So (k:Int):Int:=if k=1∨k=2 then 0 else if k=3∨k=4∨k=5∨k=6∨k=9 then 2 else if k=7 then 1 else if k=8 then 3 else -1
theorem Ol {p q:Prop} [Decidable p] [Decidable q] (h:p↔q):decide p=decide q:=decide_eq_decide.2 h
section
variable {p:List Fn} {F vars:Int} {e:Ex}
theorem Sp (h:HA p F vars e=true)(h10:e.kind≠10)(h11:e.kind≠11):e.pick=0∧e.count=0∧So e.kind=((e.kids.length:Nat):Int)∧(e.kind≠1→e.kind≠2→e.num=0):=by
 unfold HA Ea at h
 unfold So
 split at h
 ·rename_i h1
  simp only[z7,decide_eq_true_eq]at h
  rw[if_pos (by omega)]
  exact⟨h.1.1,h.1.2,zO,fun hh=>absurd h1 hh⟩
 ·split at h
  ·rename_i h1
   simp only[z7,decide_eq_true_eq]at h
   rw[if_pos (by omega)]
   exact⟨h.1.1,h.1.2,zO,fun _ hh=>absurd h1 hh⟩
  ·split at h
   ·simp only[z7,decide_eq_true_eq]at h
    rw[if_neg zO,if_pos (by omega)]
    exact⟨h.1.1,h.1.2,zO,fun _ _=>h.2.1⟩
   ·split at h
    ·simp only[z7,decide_eq_true_eq]at h
     rw[if_neg zO,if_neg zO,if_pos (by omega)]
     exact⟨h.1.1,h.1.2,zO,fun _ _=>h.2.1⟩
    ·split at h
     ·simp only[z7,decide_eq_true_eq]at h
      rw[if_neg zO,if_neg zO,if_neg zO,if_pos (by omega)]
      exact⟨h.1.1,h.1.2,zO,fun _ _=>h.2.1⟩
     ·split at h
      ·omega
      ·cases h
theorem Zm (h10:e.kind≠10)(h11:e.kind≠11)(h:So e.kind≠((e.kids.length:Nat):Int)∨e.pick≠0∨e.count≠0):false=HA p F vars e:=by
 cases hw:HA p F vars e with
 |false=>rfl
 |true =>
  have:=Sp hw h10 h11
  omega
theorem fc (hk:So e.kind=((e.kids.length:Nat):Int))(h1:e.kind=1)(hp:e.pick=0)(hc:e.count=0):IL e.num=HA p F vars e:=by
 have hl:e.kids.length=0:=by unfold So at hk;rw[if_pos (by omega)]at hk;omega
 unfold HA Ea
 rw[if_pos h1,A5 hp,A5 hc,A5 hl];rfl
theorem fd (hk:So e.kind=((e.kids.length:Nat):Int))(h1:e.kind=2)(hp:e.pick=0)(hc:e.count=0):(decide (((0:Nat):Int)≤e.num) && decide (e.num≤vars-1))=HA p F vars e:=by
 have hl:e.kids.length=0:=by unfold So at hk;rw[if_pos (by omega)]at hk;omega
 unfold HA Ea Ff
 rw[if_neg zO,if_pos h1,A5 hp,A5 hc,A5 hl];rfl
theorem ff (hk:So e.kind=((e.kids.length:Nat):Int))(h1:e.kind≠1)(h2:e.kind≠2)(h10:e.kind≠10)(h11:e.kind≠11)(hp:e.pick=0)(hc:e.count=0):decide (e.num=0)=HA p F vars e:=by
 unfold So at hk
 unfold HA Ea
 rw[if_neg h1,if_neg h2,A5 hp,A5 hc]
 rw[if_neg (by omega)]at hk
 split at hk
 ·rename_i h3
  rw[if_pos h3,A5 (show e.kids.length=2 by omega)];simp
 ·rename_i h3
  rw[if_neg h3]
  split at hk
  ·rename_i h4
   rw[if_pos h4,A5 (show e.kids.length=1 by omega)];simp
  ·rename_i h4
   rw[if_neg h4]
   split at hk
   ·rename_i h5
    rw[if_pos h5,A5 (show e.kids.length=3 by omega)];simp
   ·omega
end
end
section
def Lp (n:Nat)(C:Ca)(e:Ex)(env:List Sr)(s:Nat):Rs Sr:=(DC n C e.kids env s).bind fun xs t =>
 if e.kind=10 then C.one e.num.toNat e.pick.toNat xs t else(IM (C.all e.num.toNat) e.count.toNat xs t).bind fun ys u=>.ok (ys.getD e.pick.toNat []) u
section
variable {n:Nat} {C:Ca} {e:Ex} {env:List Sr} {s s1 s2:Nat} {c c1 c2:Int} {x y:Sr} {xs ys:List Sr}
theorem NM (hc:c=0)(hs:s+1≤3000)(hk:e.kind=10∨e.kind=11)(h:AL (go c (Lp n C e env (s+1))) y s2 c2):AL (go c (CJ n C e env s)) y s2 c2:=by
 subst hc
 rw[CT]at h ⊢
 rw[Ik hs zO zO zO (by omega)]
 unfold Lp at h
 cases hv:DC n C e.kids env (s+1)with
 |err d=>rw[hv]at h;exact h
 |ok zs t =>
  rw[hv]at h
  rw[Rs.bind_ok]at h ⊢
  by_cases h10:e.kind=10
  ·rw[if_pos h10]at h ⊢;exact h
  ·rw[if_neg h10]at h;rw[if_neg h10,if_pos (by omega)];exact h
theorem TP {α:Type}{r:Rs α}{v:α}(h:AL (go c r) v s1 c1)(hc:c≠0):c1=c:=by
 rw[DG hc]at h;exact h.1
theorem Zn (hl:e.kids.length=1)(h:AL (go c (CJ n C (e.kids.getD 0 Ex.zero) env s)) x s1 c1):AL (go c (DC n C e.kids env s)) [x] s1 c1:=by
 have h1:=Hd (l:=e.kids) (k:=0) zO (He n C e.kids env s c) h
 rwa [za (by omega)]at h1
theorem KY (hl:e.kids.length=2)(h:AL (go c (CJ n C (e.kids.getD 0 Ex.zero) env s)) x s1 c1)(h2:AL (go c1 (CJ n C (e.kids.getD 1 Ex.zero) env s1)) y s2 c2):AL (go c (DC n C e.kids env s)) [x,y] s2 c2:=by
 have h1:=Hd (l:=e.kids) (k:=0) zO (He n C e.kids env s c) h
 have h3:=Hd (l:=e.kids) (k:=1) zO h1 h2
 rwa [za (by omega)]at h3
theorem HE (hc:c=0)(hs:s+1≤3000)(hk:e.kind=3∨e.kind=4∨e.kind=5∨e.kind=6∨e.kind=7)(hr:AL (go c (DC n C e.kids env (s+1))) xs s1 c1)
  (h:c1=0→AL (LQ e.kind xs s1) y s1 c2) (h0:c1≠0→c2=c1):AL (go c (CJ n C e env s)) y s1 c2:=by
 by_cases hc1:c1=0
 ·exact Bl hc hs zO zO zO zO zO zO hr hc1<|h hc1
 ·rw[h0 hc1];exact Dr hc hs zO zO zO zO hr hc1
theorem TQ {p:List Fn}{F:Nat}(hk:e.kind=10)(hF:e.num.toNat<F)(hr:AL (go c (DC n (EO p n F) e.kids env s)) xs s1 c1)
  (h2:AL (go c1 (CJ n (EO p n e.num.toNat) ((p.getD e.num.toNat Fn.zero).outs.getD e.pick.toNat Ex.zero) xs s1)) y s2 c2):AL (go c (Lp n (EO p n F) e env s)) y s2 c2:=by
 by_cases hc:c=0
 ·subst hc
  rw[CT]at hr ⊢
  unfold Lp
  by_cases hc1:c1=0
  ·subst hc1;rw[hr.bindO,if_pos hk,Og hF];rw[CT]at h2;exact h2
  ·rw[hr.bindE hc1];rw[DG hc1]at h2;exact h2
 ·have e1:=TP hr hc
  subst e1
  rw[DG hc]at h2 ⊢;exact h2
theorem TR {f:List Sr→Nat→Rs (List Sr)}{k:Nat}(h:AL (go c (IM f k xs s)) ys s1 c1){zs:List Sr}(h2:AL (go c1 (f ys s1)) zs s2 c2):AL (go c (IM f (k+1) xs s)) zs s2 c2:=by
 by_cases hc:c=0
 ·subst hc
  rw[CT]at h ⊢
  show AL ((IM f k xs s).bind f) _ _ _
  by_cases hc1:c1=0
  ·subst hc1;rw[h.bindO];rw[CT]at h2;exact h2
  ·rw[h.bindE hc1];rw[DG hc1]at h2;exact h2
 ·have e1:=TP h hc
  subst e1
  rw[DG hc]at h2 ⊢;exact h2
theorem TS {f:List Sr→Nat→Rs (List Sr)}(hc:0=0):AL (go c (IM f 0 xs s)) xs s c:=by
 by_cases h:c=0
 ·subst h;exact⟨rfl,rfl,rfl⟩
 ·exact AL.mk_err (DG h _) h
theorem TT {p:List Fn}{F:Nat}(hk:e.kind≠10)(hF:e.num.toNat<F)(hr:AL (go c (DC n (EO p n F) e.kids env s)) xs s1 c1)
  (h2:AL (go c1 (IM (fun a t=>DC n (EO p n e.num.toNat) (p.getD e.num.toNat Fn.zero).outs a t) e.count.toNat xs s1)) ys s2 c2):AL (go c (Lp n (EO p n F) e env s)) (ys.getD e.pick.toNat []) s2 c2:=by
 have hl:(EO p n F).all e.num.toNat=fun a t=>DC n (EO p n e.num.toNat) (p.getD e.num.toNat Fn.zero).outs a t:=funext fun a=>funext fun t=>HB hF
 by_cases hc:c=0
 ·subst hc
  rw[CT]at hr ⊢
  unfold Lp
  by_cases hc1:c1=0
  ·subst hc1
   rw[hr.bindO,if_neg hk,hl]
   rw[CT]at h2
   by_cases h0:c2=0
   ·subst h0;rw[h2.bindO];exact AL.mk_ok rfl
   ·rw[h2.bindE h0];exact AL.mk_err rfl h0
  ·rw[hr.bindE hc1]
   rw[DG hc1]at h2
   exact AL.mk_err (by rw[h2.1]) (by rw[h2.1];exact hc1)
 ·have e1:=TP hr hc
  subst e1
  rw[DG hc]at h2 ⊢
  exact AL.mk_err (by rw[h2.1]) (by rw[h2.1];exact hc)
end
end
section
def NN (p:List Fn)(f:Int):Bool:=Ff f 0 (((p.length:Nat):Int)-1) && (decide (1≤(p.getD f.toNat Fn.zero).params) && decide ((((p.getD f.toNat Fn.zero).outs.length:Nat):Int)=(p.getD f.toNat Fn.zero).params))
def Re (p:List Fn)(f:Int):Bool:=GJ p && NN p f
def G0 (p:List Fn)(f:Int)(l:List Sr):Int :=
 if GJ p=true then(if NN p f=true then(if l.all (fun s=>decide (((s.length:Nat):Int)=(p.getD f.toNat Fn.zero).params) && AX s)=true then 0 else 2)else 2)else 1
def Mz (p:List Fn)(f:Int)(a:Sr)(n:Int):Int:=if G0 p f [a]=0 then(if Ff n 0 40=true then 0 else 2)else G0 p f [a]
theorem LU (p:List Fn)(f:Int)(l:List Sr):0≤G0 p f l∧G0 p f l≤2:=by
 unfold G0;split <;> (try split) <;> (try split) <;> omega
theorem LV (p:List Fn)(f:Int)(a:Sr)(n:Int):0≤Mz p f a n∧Mz p f a n≤2:=by
 have:=LU p f [a]
 unfold Mz;split <;> (try split) <;> omega
theorem IP {p:List Fn}{f:Int}:NN p f=true↔(0≤f∧f≤((p.length:Nat):Int)-1)∧1≤(p.getD f.toNat Fn.zero).params∧(((p.getD f.toNat Fn.zero).outs.length:Nat):Int)=(p.getD f.toNat Fn.zero).params:=by
 unfold NN;rw[z7,z7,BH,decide_eq_true_eq,decide_eq_true_eq]
theorem XP {p:List Fn}{f:Int}{a:Sr}{n:Int}(h:Mz p f a n=0):GJ p=true∧(0≤f∧f<((p.length:Nat):Int))∧(1≤(p.getD f.toNat Fn.zero).params∧(((p.getD f.toNat Fn.zero).outs.length:Nat):Int)=(p.getD f.toNat Fn.zero).params)∧((a.length:Nat):Int)=(p.getD f.toNat Fn.zero).params∧AX a=true∧(0≤n∧n≤40):=by
 unfold Mz at h
 split at h
 ·rename_i h1
  split at h
  ·rename_i h2
   unfold G0 at h1
   split at h1
   ·rename_i h3
    split at h1
    ·rename_i h4
     split at h1
     ·rename_i h5
      rw[BH]at h2
      rw[IP]at h4
      simp only[List.all_cons,List.all_nil,Bool.and_true,z7,decide_eq_true_eq]at h5
      exact⟨h3,⟨h4.1.1,zO⟩,⟨h4.2.1,h4.2.2⟩,h5.1,h5.2,h2⟩
     ·omega
    ·omega
   ·omega
  ·omega
 ·rename_i h1;exact absurd h h1
def GL (p:List Fn)(f:Nat)(s:Sr):Int:=HD p 1 f (Cw s)
def PS (p:List Fn)(f:Nat)(s:Sr):Sr:=(Ib p 1 f (Cw s)).map fun s=>s.getD 0 0
def Cr (p:List Fn)(f:Nat)(a:Sr):Nat→Sr
 |0=>a
 |k+1=>PS p f (Cr p f a k)
def EP (p:List Fn)(f:Nat)(a:Sr):Nat→Int
 |0=>0
 |k+1=>if EP p f a k=0 then GL p f (Cr p f a k)else EP p f a k
def XQ (p:List Fn)(f:Nat)(a:Sr)(n:Nat):List Sr:=if EP p f a n=0 then CD (n+1) (Cr p f a)else []
theorem CF {a:Sr}(h:AX a=true):BZ 1 (Cw a):=by
 intro k hk
 unfold Cw at hk ⊢
 rw[zg]at hk
 rw[List.getD_eq_getElem?_getD,List.getElem?_map,List.getElem?_eq_getElem hk]
 refine⟨rfl,?_⟩
 unfold AX at h ⊢
 have:=zm.1 h _ (List.getElem_mem hk)
 simpa using this
theorem MA {x:List Sr}{n:Nat}(h:BZ (n+1) x):AX (x.map fun s=>s.getD 0 0)=true:=by
 unfold AX
 rw[zm]
 intro y hy
 obtain⟨s,hs,rfl⟩:=List.mem_map.1 hy
 obtain⟨k,hk,rfl⟩:=List.mem_iff_getElem.1 hs
 have h2:=h k hk
 rw[Gh hk]at h2
 exact TN h2 zO
section
variable {p:List Fn} {f:Nat} {a s:Sr} {k n:Nat}
theorem FA (h:EP p f a k=0):EP p f a (k+1)=GL p f (Cr p f a k):=if_pos h
theorem Km (h:EP p f a k≠0):∀ {n:Nat},k≤n→EP p f a n = EP p f a k
  | 0, hk => by have : k = 0 := by omega
                subst this; rfl
  | n + 1,hk=>by
    by_cases e:k = n + 1
    · subst e; rfl
    · have ih:=Km h (n:=n) zO
      show (if EP p f a n = 0 then _ else _) = _
      rw [if_neg (by rw [ih]; exact h)]; exact ih
theorem Rf (h:EP p f a n≠0):XQ p f a n=[]:=if_neg h
theorem Lq (h:EP p f a n=0):XQ p f a n=CD (n+1) (Cr p f a):=if_pos h
structure SF (p:List Fn)(f:Nat)(s:Sr):Prop where
 code:0≤GL p f s∧GL p f s≤9
 len:GL p f s=0→(PS p f s).length=(p.getD f Fn.zero).outs.length
 num:AX (PS p f s)=true
 non:GL p f s≠0→PS p f s=[]
theorem SF.mk' (h:SD p 1 f (Cw s)):SF p f s :=
 ⟨h.code,fun h0=>by unfold PS;rw[zg];exact h.len h0,MA h.ser,fun h0=>by unfold PS;rw[h.non h0];rfl⟩
structure Qh (p:List Fn)(f:Nat)(a:Sr)(n:Nat):Prop where
 code:0≤EP p f a n∧EP p f a n≤9
 len:(XQ p f a n).length≤n+1
 rows:∀k,((XQ p f a n).getD k []).length≤a.length
theorem Qh.err {c:Int}(h:EP p f a n=c)(h0:c≠0)(hc:0≤c∧c≤9):Qh p f a n:=⟨zO,by rw[Rf (by omega)];simp,fun k=>by rw[Rf (by omega)];simp⟩
theorem Qh.ok (h:EP p f a n=0)(hr:∀k,k≤n→(Cr p f a k).length=a.length):Qh p f a n:=⟨zO,by rw[Lq h];simp[CD],fun k=>by
 rw[Lq h]
 by_cases hk:k<n+1
 ·rw[C8 _ hk,hr k (by omega)];exact A7 _
 ·rw[List.getD_eq_getElem?_getD,List.getElem?_eq_none (by simp[CD];omega)];simp⟩
end
def Zo (p:List Fn)(f:Int)(a:Sr)(n:Int):List Sr:=if Mz p f a n=0 then XQ p f.toNat a n.toNat else []
def TU (p:List Fn)(f:Int)(a:Sr)(n:Int):Int:=if Mz p f a n=0 then EP p f.toNat a n.toNat else Mz p f a n
section
variable {p:List Fn} {f n:Int} {a:Sr}
theorem MB (h:Mz p f a n≠0):Zo p f a n=[]:=if_neg h
theorem TV (h:Mz p f a n≠0):TU p f a n=Mz p f a n:=if_neg h
theorem Po (h:Mz p f a n=0):Zo p f a n=XQ p f.toNat a n.toNat:=if_pos h
theorem TW (h:Mz p f a n=0):TU p f a n=EP p f.toNat a n.toNat:=if_pos h
end
end
section
def Rs.map {α β:Type}(f:α→β)(r:Rs α):Rs β:=match r with
 |.ok x s=>.ok (f x) s
 |.err c=>.err c
abbrev DD (m:Nat)(x:Sr):Sr:=x.take m
theorem E5 {m k:Nat}(x:Sr)(h:k<m):(DD m x).getD k 0=x.getD k 0:=by
 simp only[DD,List.getD_eq_getElem?_getD,List.getElem?_take,if_pos h]
theorem LX {m:Nat}(l:Nat)(f g:Nat→Int)(h:∀k,k<m→f k=g k):CD (min m l) f=DD m (CD l g):=by
 unfold CD DD
 rw[← List.map_take,List.take_range]
 exact List.map_congr_left fun k hk=>h k (by have:=List.mem_range.1 hk;omega)
section
variable {m:Nat} (a b:Sr)
theorem Kn:(DD m a).length=min m a.length:=List.length_take ..
theorem TX:Cq (DD m a) (DD m b)=DD m (Cq a b):=by
 unfold Cq;rw[Kn]
 exact LX _ _ _ fun k hk=>by rw[E5 a hk,E5 b hk]
theorem TY:EK (DD m a) (DD m b)=DD m (EK a b):=by
 unfold EK;rw[Kn]
 exact LX _ _ _ fun k hk=>by rw[E5 a hk,E5 b hk]
theorem TZ (y:Int):CL (DD m a) y=DD m (CL a y):=by
 unfold CL;rw[Kn]
 exact LX _ _ _ fun k hk=>by rw[E5 a hk]
theorem Rg {k:Nat}(hk:k<m):∀i,i≤k+1→ND (DD m a) (DD m b) k i=ND a b k i
 |0,_=>rfl
 |i+1,h=>by
  show md (ND (DD m a) (DD m b) k i+(DD m a).getD i 0*(DD m b).getD (k-i) 0)=md (ND a b k i+a.getD i 0*b.getD (k-i) 0)
  rw[Rg hk i zO,E5 a zO,E5 b (by omega)]
theorem U0:Ce (DD m a) (DD m b)=DD m (Ce a b):=by
 unfold Ce;rw[Kn]
 exact LX _ _ _ fun k hk=>Rg a b hk (k+1)<|A7 _
theorem Rh (o:Sr){k:Nat}(hk:k<m):∀i,i≤k→OT (DD m a) (DD m b) o k i=OT a b o k i
 |0,_=>E5 a hk
 |i+1,h=>by
  show md (OT (DD m a) (DD m b) o k i-o.getD i 0*(DD m b).getD (k-i) 0)=md (OT a b o k i-o.getD i 0*b.getD (k-i) 0)
  rw[Rh o hk i zO,E5 b (by omega)]
theorem Ri (hm:1≤m):∀k,k≤m→Jl (DD m a) (DD m b) k=Jl a b k
 |0,_=>rfl
 |k+1,h=>by
  rw[Jl,Jl,Ri hm k zO,Rh a b _ zO k (A7 _),E5 b (by omega)]
theorem Pp:∀ (k j:Nat),j≤k→(Jl a b k).take j = Jl a b j
  | 0, j, h => by have : j = 0 := by omega
                  subst this; rfl
  | k + 1,j,h=>by
    by_cases e:j = k + 1
    · subst e; rw [za (by rw [E3]; exact A7 _)]
    · rw [Jl,List.take_append_of_le_length (by rw [E3]; omega)]; exact Pp k j zO
theorem U1 (hm:1≤m):BT (DD m a) (DD m b)=DD m (BT a b):=by
 unfold BT;rw[Kn,Ri a b hm _ (by omega)]
 show _=(Jl a b a.length).take m
 by_cases h:m≤a.length
 ·rw[Pp a b _ _ h,Nat.min_eq_left h]
 ·rw[za (by rw[E3];omega),Nat.min_eq_right (by omega)]
end
theorem X0 {m n:Nat}(x:Int)(h:m≤n):cst m x=DD m (cst n x):=by
 unfold cst DD
 rw[List.take_set,List.take_replicate,Nat.min_eq_left h]
theorem LY {m:Nat}(env:List Sr)(k:Nat):(env.map (DD m)).getD k []=DD m (env.getD k []):=by
 simp only[List.getD_eq_getElem?_getD,List.getElem?_map]
 cases env[k]? <;> simp[DD]
structure fg (m:Nat)(C C':Ca):Prop where
 one:∀f j xs t,C'.one f j (xs.map (DD m)) t=(C.one f j xs t).map (DD m)
 all:∀f xs t,C'.all f (xs.map (DD m)) t=(C.all f xs t).map (List.map (DD m))
theorem X1 {m:Nat}(hm:1≤m)(k:Int)(xs:List Sr)(t:Nat):LQ k (xs.map (DD m)) t=(LQ k xs t).map (DD m):=by
 unfold LQ
 rw[LY,LY]
 split
 ·rw[TX];rfl
 ·split
  ·rw[TY];rfl
  ·split
   ·rw[U0];rfl
   ·split
    ·rw[TZ];rfl
    ·rw[E5 _ (by omega)]
     split
     ·rfl
     ·rw[U1 _ _ hm];rfl
section
variable {m n:Nat} {C C':Ca}
theorem Rj (hC:fg m C C')(f:Nat):∀(k:Nat)(xs:List Sr)(t:Nat),IM (C'.all f) k (xs.map (DD m)) t=(IM (C.all f) k xs t).map (List.map (DD m))
 |0,xs,t=>rfl
 |k+1,xs,t=>by
  rw[IM,IM,Rj hC f k xs t]
  cases IM (C.all f) k xs t with
  |err c=>rfl
  |ok ys u=>exact hC.all f ys u
theorem LZ:∀(l:List Ex),(∀e∈l,∀env s,CJ m C' e (env.map (DD m)) s=(CJ n C e env s).map (DD m))→∀env s,DC m C' l (env.map (DD m)) s=(DC n C l env s).map (List.map (DD m))
 |[],_,env,s=>by rw[DC,DC];rfl
 |e::l,h,env,s=>by
  rw[DC,DC,h e (z0 ..)]
  cases CJ n C e env s with
  |err c=>rfl
  |ok x t =>
   show(DC m C' l (env.map (DD m)) t).bind _=_
   rw[LZ l (fun e he=>h e (z3 _ he)) env t]
   simp only[Rs.bind_ok]
   cases DC n C l env t <;> rfl
theorem IQ:∀(l:List Ex)(j:Nat),(∀e∈l,∀env s,CJ m C' e (env.map (DD m)) s=(CJ n C e env s).map (DD m))→∀env s,J7 m C' l j (env.map (DD m)) s=(J7 n C l j env s).map (DD m)
 |[],j,_,env,s=>by rw[J7,J7];rfl
 |e::l,0,h,env,s=>by rw[J7,J7];exact h e (z0 ..) env s
 |e::l,j+1,h,env,s=>by rw[J7,J7];exact IQ l j (fun e he=>h e (z3 _ he)) env s
theorem KZ:∀ {l:List Ex}{e:Ex},e∈l→e.size≤Ex.sizes l
 |[],_,h=>by cases h
 |a::l,e,h=>by
  rw[Ex.sizes]
  rcases ze.1 h with rfl|h
  ·omega
  ·have:=KZ h;omega
theorem M0 (hm:1≤m)(hmn:m≤n)(hC:fg m C C'):∀(z:Nat)(e:Ex),e.size≤z→∀env s,CJ m C' e (env.map (DD m)) s=(CJ n C e env s).map (DD m)
 |0,e,h,_,_=>by have:=Cs e;omega
 |z+1,e,h,env,s=>by
  have hk:∀x∈e.kids,∀env s,CJ m C' x (env.map (DD m)) s=(CJ n C x env s).map (DD m):=fun x hx=>M0 hm hmn hC z x (by have:=Cs e;have:=KZ hx;omega)
  rw[FH,FH]
  split
  ·rfl
  ·split
   ·rw[X0 _ hmn];rfl
   ·split
    ·rw[LY];rfl
    ·split
     ·rw[IQ _ 0 hk]
      cases J7 n C e.kids 0 env (s+1)with
      |err c=>rfl
      |ok x t =>
       show(if (DD m x).getD 0 0=0 then _ else _)=((if x.getD 0 0=0 then _ else _:Rs Sr)).map (DD m)
       rw[E5 _ (by omega)]
       split
       ·exact IQ _ 1 hk env t
       ·exact IQ _ 2 hk env t
     ·split
      ·rw[IQ _ 0 hk]
       cases J7 n C e.kids 0 env (s+1)with
       |err c=>rfl
       |ok x t =>
        show J7 m C' e.kids 1 (env.map (DD m)++[DD m x]) t=(J7 n C e.kids 1 (env++[x]) t).map (DD m)
        rw[← IQ _ 1 hk,List.map_append];rfl
      ·rw[LZ _ hk]
       cases DC n C e.kids env (s+1)with
       |err c=>rfl
       |ok xs t =>
        show(if e.kind=10 then _ else _)=((if e.kind=10 then _ else _:Rs Sr)).map (DD m)
        split
        ·exact hC.one _ _ _ _
        ·split
         ·rw[Rj hC]
          cases IM (C.all e.num.toNat) e.count.toNat xs t with
          |err c=>rfl
          |ok ys u=>show Rs.ok _ _=Rs.ok _ _;rw[LY]
         ·exact X1 hm _ _ _
theorem Rk (p:List Fn)(hm:1≤m)(hmn:m≤n):∀F,fg m (EO p n F) (EO p m F)
 |0=>⟨fun _ _ _ _=>rfl,fun _ _ _=>rfl⟩
 |F+1=>by
  have ih:=Rk p hm hmn F
  refine⟨fun f j xs t=>?_,fun f xs t=>?_⟩
  ·show(if f=F then _ else _)=((if f=F then _ else _:Rs Sr)).map (DD m)
   split
   ·exact M0 hm hmn ih _ _ (A7 _) _ _
   ·exact ih.one f j xs t
  ·show(if f=F then _ else _)=((if f=F then _ else _:Rs (List Sr))).map (List.map (DD m))
   split
   ·exact LZ _ (fun e _=>M0 hm hmn ih _ e<|A7 _) _ _
   ·exact ih.all f xs t
end
theorem U2 (p:List Fn){m n:Nat}(hm:1≤m)(hmn:m≤n)(f:Nat)(a:List Sr):ev p m f (a.map (DD m))=(ev p n f a).map (List.map (DD m)) :=
 LZ _ (fun e _=>M0 hm hmn (Rk p hm hmn f) _ e (A7 _)) _ _
theorem X2 (p:List Fn){m n:Nat}(hm:1≤m)(hmn:m≤n)(f:Nat)(a:List Sr):Ib p m f (a.map (DD m))=(Ib p n f a).map (DD m):=by
 unfold Ib;rw[U2 p hm hmn]
 cases ev p n f a <;> rfl
theorem X3 (p:List Fn){m n:Nat}(hm:1≤m)(hmn:m≤n)(f:Nat)(a:List Sr):HD p m f (a.map (DD m))=HD p n f a:=by
 unfold HD;rw[U2 p hm hmn]
 cases ev p n f a <;> rfl
end
def Zp (n:Nat)(r:Rs Sr):Prop:=match r with
 |.ok x s=>Cv n x∧s≤3000
 |.err c=>c=6∨c=7
def eQ (n m:Nat)(r:Rs (List Sr)):Prop:=match r with
 |.ok xs s=>xs.length=m∧BZ n xs∧s≤3000
 |.err c=>c=6∨c=7
structure fh (p:List Fn)(n F:Nat)(C:Ca):Prop where
 one:∀f j xs t,f<F→j<(p.getD f Fn.zero).outs.length→BZ n xs→((xs.length:Nat):Int)=(p.getD f Fn.zero).params→t≤3000→Zp n (C.one f j xs t)
 all:∀f xs t,f<F→BZ n xs→((xs.length:Nat):Int)=(p.getD f Fn.zero).params→t≤3000→eQ n (p.getD f Fn.zero).outs.length (C.all f xs t)
theorem BZ.nil (n:Nat):BZ n []:=fun k hk=>by simp at hk
theorem BZ.cons {n:Nat}{x:Sr}{xs:List Sr}(hx:Cv n x)(h:BZ n xs):BZ n (x::xs):=by
 intro k hk
 cases k with
 |zero=>exact hx
 |succ k=>exact h k (by simpa using hk)
theorem U3 {n:Nat}{C:Ca}{env:List Sr}:∀(l:List Ex),(∀e∈l,∀s,s≤3000→Zp n (CJ n C e env s))→∀s,s≤3000→eQ n l.length (DC n C l env s)
 |[],_,s,hs=>by rw[DC];exact⟨rfl,BZ.nil n,hs⟩
 |e::l,h,s,hs=>by
  rw[DC]
  have h1:=h e (z0 ..) s hs
  cases h2:CJ n C e env s with
  |err c=>rw[h2]at h1;exact h1
  |ok x t =>
   rw[h2]at h1
   have h3:=U3 l (fun e he=>h e<|z3 _ he) t h1.2
   rw[Rs.bind_ok]
   cases h4:DC n C l env t with
   |err c=>rw[h4]at h3;exact h3
   |ok xs u=>rw[h4]at h3;exact⟨by simp[h3.1],BZ.cons h1.1 h3.2.1,h3.2.2⟩
theorem XR {p:List Fn}{n F f:Nat}{C:Ca}(hC:fh p n F C)(hf:f<F)(ho:(((p.getD f Fn.zero).outs.length:Nat):Int)=(p.getD f Fn.zero).params):∀(k:Nat)(xs:List Sr)(t:Nat),BZ n xs→xs.length=(p.getD f Fn.zero).outs.length→t≤3000→eQ n (p.getD f Fn.zero).outs.length (IM (C.all f) k xs t)
 |0,xs,t,h1,h2,h3=>⟨h2,h1,h3⟩
 |k+1,xs,t,h1,h2,h3=>by
  have h:=XR hC hf ho k xs t h1 h2 h3
  rw[IM]
  cases h4:IM (C.all f) k xs t with
  |err c=>rw[h4]at h;exact h
  |ok ys u=>rw[h4]at h;rw[Rs.bind_ok];exact hC.all f ys u hf h.2.1 (by rw[h.1];exact ho) h.2.2
theorem aN {n:Nat}{k:Int}{xs:List Sr}{t:Nat}(hx:BZ n xs)(h0:0<xs.length)(ht:t≤3000):Zp n (LQ k xs t):=by
 have h1:=(hx 0 h0).1
 unfold LQ
 split
 ·exact⟨⟨by rw[Fx];exact h1,Ih _ _⟩,ht⟩
 ·split
  ·exact⟨⟨by rw[Gg];exact h1,Ii _ _⟩,ht⟩
  ·split
   ·exact⟨⟨by rw[Er];exact h1,Ge _ _⟩,ht⟩
   ·split
    ·exact⟨⟨by rw[Gf];exact h1,Fy _ _⟩,ht⟩
    ·split
     ·exact .inl rfl
     ·exact⟨⟨by rw[Dl];exact h1,Fw _ _⟩,ht⟩
theorem U4 {p:List Fn}{n F:Nat}{C:Ca}(hC:fh p n F C):∀(z:Nat)(e:Ex),e.size≤z→∀(env:List Sr)(s:Nat),wf p ((F:Nat):Int) e ((env.length:Nat):Int)=true→BZ n env→s≤3000→Zp n (CJ n C e env s)
 |0,e,h,_,_,_,_,_=>by have:=Cs e;omega
 |z+1,e,h,env,s,hw,he,hs=>by
  obtain⟨w1,w2,w3,w4,w5,w6,w7,w8⟩:=CZ (CU hw)
  have hz:∀j,j<e.kids.length→(e.kids.getD j Ex.zero).size≤z:=fun j hj=>by
   have h2:e.kids.getD j Ex.zero∈e.kids:=by rw[Gh hj];exact List.getElem_mem hj
   have:=Cs e;have:=KZ h2;omega
  have hk:∀j,j<e.kids.length→¬(e.kind=9∧j=1)→∀t,t≤3000→Zp n (J7 n C e.kids j env t):=fun j hj hn t ht=>by
   rw[DS _ _ _ _ _ _ hj]
   exact U4 hC z _ (hz j hj) env t (C1 hw hj hn) he ht
  rw[FH]
  split
  ·exact .inr rfl
  ·rename_i hs3
   split
   ·rename_i h1;exact⟨Et (CI.2 (w8 h1)),zO⟩
   ·split
    ·rename_i h1 h2;exact⟨he _ (by have:=w2 h2;omega),zO⟩
    ·split
     ·rename_i h1 h2 h8
      have h3:=w5 h8
      have hc:=hk 0 zO zO (s+1) zO
      cases h4:J7 n C e.kids 0 env (s+1)with
      |err c=>rw[h4]at hc;exact hc
      |ok x t =>
       rw[h4]at hc;rw[Rs.bind_ok]
       split
       ·exact hk 1 zO zO t hc.2
       ·exact hk 2 zO zO t hc.2
     ·split
      ·rename_i h1 h2 h8 h9
       have h3:=w3 zO
       have hc:=hk 0 zO zO (s+1) zO
       cases h4:J7 n C e.kids 0 env (s+1)with
       |err c=>rw[h4]at hc;exact hc
       |ok x t =>
        rw[h4]at hc;rw[Rs.bind_ok,DS _ _ _ _ _ _ (show 1<e.kids.length by omega)]
        refine U4 hC z _ (hz 1 zO) (env++[x]) t ?_ (he.snoc hc.1) hc.2
        have:=HC hw zO h9
        rw[z4,zd];exact this
      ·rename_i h1 h2 h8 h9
       have hc:=U3 (n:=n) (C:=C) (env:=env) e.kids (fun x hx t ht=>by
        obtain⟨j,hj,rfl⟩:=List.mem_iff_getElem.1 hx
        have:=hk j hj zO t ht
        rwa [DS _ _ _ _ _ _ hj,Gh hj]at this) (s+1) zO
       cases h4:DC n C e.kids env (s+1)with
       |err c=>rw[h4]at hc;exact hc
       |ok xs t =>
        rw[h4]at hc;rw[Rs.bind_ok]
        obtain⟨c1,c2,c3⟩:=hc
        split
        ·rename_i h10
         have h6:=w6<|.inl h10
         exact hC.one _ _ xs t zO zO c2 (by rw[c1];exact h6.2.2.1) c3
        ·split
         ·rename_i h11
          have h6:=w6 (.inr h11);have h7:=w7 h11
          have hl:=XR hC (f:=e.num.toNat) zO h7.1 e.count.toNat xs t c2 zO c3
          cases h5:IM (C.all e.num.toNat) e.count.toNat xs t with
          |err c=>rw[h5]at hl;exact hl
          |ok ys u=>rw[h5]at hl;exact⟨hl.2.1 _ (by rw[hl.1];omega),hl.2.2⟩
         ·refine aN c2 ?_ c3
          rw[c1]
          by_cases h7:e.kind=7
          ·rw[w4 h7];decide
          ·rw[w3 (by omega)];decide
theorem U5 {p:List Fn}(hv:FQ p)(n:Nat):∀F,F≤p.length→fh p n F (EO p n F)
 |0,_=>⟨fun f j xs t h=>by omega,fun f xs t h=>by omega⟩
 |F+1,hF=>by
  have ih:=U5 hv n F zO
  have hO:∀j xs t,j<(p.getD F Fn.zero).outs.length→BZ n xs→((xs.length:Nat):Int)=(p.getD F Fn.zero).params→t≤3000→Zp n (CJ n (EO p n F) ((p.getD F Fn.zero).outs.getD j Ex.zero) xs t):=fun j xs t h2 h3 h4 h5 =>
   U4 ih _ _ (A7 _) xs t (by rw[h4];exact hv.wf F zO j h2) h3 h5
  refine⟨fun f j xs t h1 h2 h3 h4 h5=>?_,fun f xs t h1 h3 h4 h5=>?_⟩
  ·show Zp n (if f=F then _ else _)
   split
   ·rename_i e;subst e;exact hO j xs t h2 h3 h4 h5
   ·exact ih.one f j xs t zO h2 h3 h4 h5
  ·show eQ n _ (if f=F then _ else _)
   split
   ·rename_i e;subst e
    refine U3 _ (fun e he s hs=>?_) t h5
    obtain⟨j,hj,rfl⟩:=List.mem_iff_getElem.1 he
    have:=hO j xs s hj h3 h4 hs
    rwa [Gh hj]at this
   ·exact ih.all f xs t zO h3 h4 h5
theorem fi {p:List Fn}(hv:FQ p){n f:Nat}{a:List Sr}(hf:f<p.length)(ha:BZ n a)(hl:((a.length:Nat):Int)=(p.getD f Fn.zero).params):SD p n f a:=by
 have h:=(U5 hv n (f+1) zO).all f a 0 zO ha hl zO
 rw[HB (by omega)]at h
 have e:ev p n f a=DC n (EO p n f) (p.getD f Fn.zero).outs a 0:=rfl
 rw[← e]at h
 cases h2:ev p n f a with
 |err c =>
  rw[h2]at h;have h:c=6∨c=7:=h
  exact⟨by rw[Il h2];omega,by rw[R5 h2];omega,fun hh=>by rw[Il h2]at hh;omega,by rw[Pf h2];exact BZ.nil n,fun _=>Pf h2⟩
 |ok xs s =>
  rw[h2]at h;have h:xs.length=_∧BZ n xs∧s≤3000:=h
  exact⟨by rw[Mn h2];omega,by rw[R4 h2];exact h.2.2,fun _=>by rw[Kh h2];exact h.1,by rw[Kh h2];exact h.2.1,fun hh=>absurd (Mn h2) hh⟩
theorem fj {a b:Sr}(hl:a.length=b.length)(h:∀j,j<a.length→a.getD j 0=b.getD j 0):a=b :=
 List.ext_getElem hl fun j h1 h2=>by have:=h j h1;rwa [Gh h1,Gh h2]at this
theorem aO {y z:List Sr}(hl:y.length=z.length)(h:∀j,j<y.length→y.getD j []=z.getD j []):y=z :=
 List.ext_getElem hl fun j h1 h2=>by have:=h j h1;rwa [Gh h1,Gh h2]at this
theorem U6 {s:ByteArray}(h:LR s=true):s.size≤12:=by
 unfold LR at h
 simp only[z7,decide_eq_true_eq]at h
 exact h.1.2
theorem Mp.szp {p:List Fn}{pl:Bool}(h:Mp p pl):PO p:=fun k hk=>⟨by have:=h.sz k hk;omega,by have:=h.outs k hk;omega,by have:=U6 (h.nm k hk);omega⟩
section
def IR {α:Type}(K:Nat)(R:(Nat→α)→α→Prop)(r:Nat→Rs α)(rz:Rs α):Prop:=match rz with
 |.ok z t=>∃x,(∀k,k<K→r k=.ok (x k) t)∧R x z
 |.err c=>∀k,k<K→r k=.err c
theorem IR.congr {α:Type}{K:Nat}{R:(Nat→α)→α→Prop}{r r':Nat→Rs α}{rz:Rs α}(h:IR K R r rz)(e:∀k,k<K→r' k=r k):IR K R r' rz:=by
 cases rz with
 |ok z t=>obtain⟨x,h1,h2⟩:=h;exact⟨x,fun k hk=>(e k hk).trans (h1 k hk),h2⟩
 |err c=>exact fun k hk=>(e k hk).trans (h k hk)
theorem IR.bind {α β:Type}{K:Nat}{R:(Nat→α)→α→Prop}{R':(Nat→β)→β→Prop}{r:Nat→Rs α}{rz:Rs α}{g:Nat→α→Nat→Rs β}{gz:α→Nat→Rs β}(h:IR K R r rz)
  (hg:∀x z t,R x z→IR K R' (fun k=>g k (x k) t) (gz z t)):IR K R' (fun k=>(r k).bind (g k)) (rz.bind gz):=by
 cases rz with
 |ok z t =>
  obtain⟨x,h1,h2⟩:=h
  exact(hg x z t h2).congr fun k hk=>by rw[h1 k hk];rfl
 |err c=>exact fun k hk=>by show(r k).bind _=_;rw[h k hk];rfl
theorem IR.ret {α:Type}{K:Nat}{R:(Nat→α)→α→Prop}{x:Nat→α}{z:α}{t:Nat}(h:R x z):IR K R (fun k=>.ok (x k) t) (.ok z t):=⟨x,fun _ _=>rfl,h⟩
theorem IR.fail {α:Type}{K:Nat}{R:(Nat→α)→α→Prop}{c:Int}:IR K R (fun _=>.err c) (.err c):=fun _ _=>rfl
structure aP (K:Nat)(n:Nat→Nat)(nz:Nat)(R:(Nat→Sr)→Sr→Prop):Prop where
 zero:∀x z,R x z→∀k,k<K→((x k).getD 0 0=0↔z.getD 0 0=0)
 cst:∀c,IL c=true→R (fun k=>cst (n k) c) (Go.Proofs.YtjnbnlniafmblaaGreat.cst nz c)
 add:∀x z y w,R x z→R y w→R (fun k=>Cq (x k) (y k)) (Cq z w)
 red:∀x z y w,R x z→R y w→R (fun k=>EK (x k) (y k)) (EK z w)
 pro:∀x z y w,R x z→R y w→R (fun k=>Ce (x k) (y k)) (Ce z w)
 scl:∀x z,R x z→R (fun k=>CL (x k) 1000002) (CL z 1000002)
 quo:∀x z y w,R x z→R y w→w.getD 0 0≠0→R (fun k=>BT (x k) (y k)) (BT z w)
def M1 (K:Nat)(R:(Nat→Sr)→Sr→Prop)(m:Nat)(xs:Nat→List Sr)(zs:List Sr):Prop:=zs.length=m∧(∀k,k<K→(xs k).length=m)∧∀i,i<m→∃x,(∀k,k<K→(xs k).getD i []=x k)∧R x (zs.getD i [])
section
variable {K:Nat} {n:Nat→Nat} {nz:Nat} {R:(Nat→Sr)→Sr→Prop} {p:List Fn}
theorem M1.nil:M1 K R 0 (fun _=>[]) []:=⟨rfl,fun _ _=>rfl,fun i hi=>by omega⟩
theorem M1.cons {m:Nat}{x:Nat→Sr}{z:Sr}{xs:Nat→List Sr}{zs:List Sr}(h1:R x z)(h:M1 K R m xs zs):M1 K R (m+1) (fun k=>x k::xs k) (z::zs):=by
 refine⟨by rw[z9,h.1],fun k hk=>by rw[z9,h.2.1 k hk],fun i hi=>?_⟩
 cases i with
 |zero=>exact⟨x,fun _ _=>rfl,h1⟩
 |succ i =>
  obtain⟨y,h3,h4⟩:=h.2.2 i zO
  exact⟨y,fun k hk=>by simpa using h3 k hk,by simpa using h4⟩
theorem M1.snoc {m:Nat}{x:Nat→Sr}{z:Sr}{xs:Nat→List Sr}{zs:List Sr}(h:M1 K R m xs zs)(h1:R x z):M1 K R (m+1) (fun k=>xs k++[x k]) (zs++[z]):=by
 refine⟨by simp[h.1],fun k hk=>by simp[h.2.1 k hk],fun i hi=>?_⟩
 by_cases e:i=m
 ·exact⟨x,fun k hk=>I3 (by rw[h.2.1 k hk];exact e),by rw[I3 (by rw[h.1];exact e)];exact h1⟩
 ·obtain⟨y,h3,h4⟩:=h.2.2 i zO
  exact⟨y,fun k hk=>by rw[I2 (by rw[h.2.1 k hk];omega)];exact h3 k hk,by rw[I2 (by rw[h.1];omega)];exact h4⟩
structure fk (K:Nat)(R:(Nat→Sr)→Sr→Prop)(p:List Fn)(F:Nat)(C:Nat→Ca)(Cz:Ca):Prop where
 one:∀f j m xs zs t,f<F→j<(p.getD f Fn.zero).outs.length→M1 K R m xs zs→((m:Nat):Int)=(p.getD f Fn.zero).params→IR K R (fun k=>(C k).one f j (xs k) t) (Cz.one f j zs t)
 all:∀f m xs zs t,f<F→M1 K R m xs zs→((m:Nat):Int)=(p.getD f Fn.zero).params→IR K (M1 K R (p.getD f Fn.zero).outs.length) (fun k=>(C k).all f (xs k) t) (Cz.all f zs t)
theorem U7 {C:Nat→Ca}{Cz:Ca}{env:Nat→List Sr}{ez:List Sr}:∀(l:List Ex),(∀e∈l,∀s,IR K R (fun k=>CJ (n k) (C k) e (env k) s) (CJ nz Cz e ez s))→∀s,IR K (M1 K R l.length) (fun k=>DC (n k) (C k) l (env k) s) (DC nz Cz l ez s)
 |[],_,s=>by
  simp only[DC]
  exact IR.ret M1.nil
 |e::l,h,s=>by
  simp only[DC]
  exact (h e (z0 ..) s).bind fun x z t hx=>(U7 l (fun e he=>h e<|z3 _ he) t).bind fun xs zs u hxs=>IR.ret<|hxs.cons hx
theorem XS {F f:Nat}{C:Nat→Ca}{Cz:Ca}(hC:fk K R p F C Cz)(hf:f<F)(ho:(((p.getD f Fn.zero).outs.length:Nat):Int)=(p.getD f Fn.zero).params):∀(c:Nat)(xs:Nat→List Sr)(zs:List Sr)(t:Nat),M1 K R (p.getD f Fn.zero).outs.length xs zs →
  IR K (M1 K R (p.getD f Fn.zero).outs.length) (fun k=>IM ((C k).all f) c (xs k) t) (IM (Cz.all f) c zs t)
 |0,xs,zs,t,h=>IR.ret h
 |c+1,xs,zs,t,h=>(XS hC hf ho c xs zs t h).bind fun ys ws u hy=>hC.all f _ ys ws u hf hy ho
theorem M1.at {m i:Nat}{xs:Nat→List Sr}{zs:List Sr}{t:Nat}(h:M1 K R m xs zs)(hi:i<m):IR K R (fun k=>.ok ((xs k).getD i []) t) (.ok (zs.getD i []) t):=by
 obtain⟨x,h1,h2⟩:=h.2.2 i hi
 exact(IR.ret h2).congr fun k hk=>by rw[h1 k hk]
theorem M1.two {m t t':Nat}{xs:Nat→List Sr}{zs:List Sr}{o:Sr→Sr→Sr}(h:M1 K R m xs zs)(hm:2≤m)(ho:∀x z y w,R x z→R y w→R (fun k=>o (x k) (y k)) (o z w)) :
  IR K R (fun k=>.ok (o ((xs k).getD 0 []) ((xs k).getD 1 [])) t) (.ok (o (zs.getD 0 []) (zs.getD 1 [])) t):=by
 obtain⟨x,h1,h2⟩:=h.2.2 0 zO
 obtain⟨y,h3,h4⟩:=h.2.2 1 zO
 exact(IR.ret (ho x _ y _ h2 h4)).congr fun k hk=>by rw[h1 k hk,h3 k hk]
theorem aQ (hR:aP K n nz R){kd:Int}{m t:Nat}{xs:Nat→List Sr}{zs:List Sr}(h:M1 K R m xs zs)(h1:kd=7→1≤m)(h2:kd≠7→2≤m):IR K R (fun k=>LQ kd (xs k) t) (LQ kd zs t):=by
 unfold LQ
 by_cases k3:kd=3
 ·simp only[if_pos k3];exact h.two (t':=0) (h2 zO) hR.add
 simp only[if_neg k3]
 by_cases k4:kd=4
 ·simp only[if_pos k4];exact h.two (t':=0) (h2 zO) hR.red
 simp only[if_neg k4]
 by_cases k5:kd=5
 ·simp only[if_pos k5];exact h.two (t':=0) (h2 zO) hR.pro
 simp only[if_neg k5]
 by_cases k7:kd=7
 ·simp only[if_pos k7]
  obtain⟨x,q1,q2⟩:=h.2.2 0 (h1 k7)
  exact(IR.ret (hR.scl x _ q2)).congr fun k hk=>by rw[q1 k hk]
 simp only[if_neg k7]
 obtain⟨x,q1,q2⟩:=h.2.2 0 (by have:=h2 k7;omega)
 obtain⟨y,q3,q4⟩:=h.2.2 1 (by have:=h2 k7;omega)
 have hz:=hR.zero y _ q4
 by_cases h0:(zs.getD 1 []).getD 0 0=0
 ·simp only[if_pos h0]
  exact fun k hk=>by
   show(if List.getD ((xs k).getD 1 []) 0 0=0 then _ else _)=_
   rw[q3 k hk,if_pos ((hz k hk).2 h0)]
 ·simp only[if_neg h0]
  exact(IR.ret (hR.quo x _ y _ q2 q4 h0)).congr fun k hk=>by rw[q3 k hk,q1 k hk,if_neg fun h=>h0 ((hz k hk).1 h)]
theorem U8 (hR:aP K n nz R){F:Nat}{C:Nat→Ca}{Cz:Ca}(hC:fk K R p F C Cz):∀(z:Nat)(e:Ex),e.size≤z→∀(m:Nat)(env:Nat→List Sr)(ez:List Sr)(s:Nat),wf p ((F:Nat):Int) e ((m:Nat):Int)=true→M1 K R m env ez→IR K R (fun k=>CJ (n k) (C k) e (env k) s) (CJ nz Cz e ez s)
 |0,e,h,_,_,_,_,_,_=>by have:=Cs e;omega
 |z+1,e,h,m,env,ez,s,hw,he=>by
  obtain⟨w1,w2,w3,w4,w5,w6,w7,w8⟩:=CZ (CU hw)
  have hz:∀j,j<e.kids.length→(e.kids.getD j Ex.zero).size≤z:=fun j hj=>by
   have:=Cs e;have:=K9 hj;omega
  have hk:∀j,j<e.kids.length→¬(e.kind=9∧j=1)→∀t,IR K R (fun k=>J7 (n k) (C k) e.kids j (env k) t) (J7 nz Cz e.kids j ez t):=fun j hj hn t=>by
   simp only[DS _ _ _ _ _ _ hj]
   exact U8 hR hC z _ (hz j hj) m env ez t (C1 hw hj hn) he
  simp only[FH]
  by_cases hs3:3000≤s
  ·simp only[if_pos hs3];exact IR.fail
  simp only[if_neg hs3]
  by_cases k1:e.kind=1
  ·simp only[if_pos k1];exact IR.ret (hR.cst _ (CI.2 (w8 k1)))
  simp only[if_neg k1]
  by_cases k2:e.kind=2
  ·simp only[if_pos k2];exact he.at (by have:=w2 k2;omega)
  simp only[if_neg k2]
  by_cases k8:e.kind=8
  ·simp only[if_pos k8]
   have h3:=w5 k8
   refine (hk 0 zO zO (s+1)).bind fun x y t hx=>?_
   have hq:=hR.zero x y hx
   by_cases h0:y.getD 0 0=0
   ·simp only[if_pos h0]
    exact(hk 1 zO zO t).congr fun k hk=>by rw[if_pos ((hq k hk).2 h0)]
   ·simp only[if_neg h0]
    exact(hk 2 zO zO t).congr fun k hk=>by rw[if_neg fun h=>h0 ((hq k hk).1 h)]
  simp only[if_neg k8]
  by_cases k9:e.kind=9
  ·simp only[if_pos k9]
   have h3:=w3 zO
   refine (hk 0 zO zO (s+1)).bind fun x y t hx=>?_
   simp only[DS _ _ _ _ _ _ (show 1<e.kids.length by omega)]
   refine U8 hR hC z _ (hz 1 zO) (m+1) (fun k=>env k++[x k]) (ez++[y]) t ?_<|he.snoc hx
   have:=HC hw zO k9
   rw[Int.natCast_add];exact this
  simp only[if_neg k9]
  have hc:=U7 (n:=n) (C:=C) (nz:=nz) (Cz:=Cz) (env:=env) (ez:=ez) e.kids (fun x hx t=>by
   obtain⟨j,hj,rfl⟩:=List.mem_iff_getElem.1 hx
   have:=hk j hj zO t
   simp only[DS _ _ _ _ _ _ hj,Gh hj]at this
   exact this) (s+1)
  refine hc.bind fun xs zs t hx=>?_
  by_cases k10:e.kind=10
  ·simp only[if_pos k10]
   have h6:=w6<|.inl k10
   exact hC.one _ _ _ xs zs t zO zO hx (by exact h6.2.2.1)
  simp only[if_neg k10]
  by_cases k11:e.kind=11
  ·simp only[if_pos k11]
   have h6:=w6 (.inr k11);have h7:=w7 k11
   have hl:e.kids.length=(p.getD e.num.toNat Fn.zero).outs.length:=by omega
   rw[hl]at hx
   exact (XS hC (f:=e.num.toNat) zO h7.1 e.count.toNat xs zs t hx).bind fun ys ws u hy=>hy.at zO
  simp only[if_neg k11]
  exact aQ hR hx (fun h7=>by rw[w4 h7];decide) fun h7=>by rw[w3 (by omega)];decide
theorem XT (hR:aP K n nz R)(hv:FQ p):∀F,F≤p.length→fk K R p F (fun k=>EO p (n k) F) (EO p nz F)
 |0,_=>⟨fun f j m xs zs t h=>by omega,fun f m xs zs t h=>by omega⟩
 |F+1,hF=>by
  have ih:=XT hR hv F zO
  have hO:∀j m xs zs t,j<(p.getD F Fn.zero).outs.length→M1 K R m xs zs→((m:Nat):Int)=(p.getD F Fn.zero).params→IR K R (fun k=>CJ (n k) (EO p (n k) F) ((p.getD F Fn.zero).outs.getD j Ex.zero) (xs k) t) (CJ nz (EO p nz F) ((p.getD F Fn.zero).outs.getD j Ex.zero) zs t):=fun j m xs zs t h2 h3 h4 =>
   U8 hR ih _ _ (A7 _) m xs zs t (by rw[h4];exact hv.wf F zO j h2) h3
  refine⟨fun f j m xs zs t h1 h2 h3 h4=>?_,fun f m xs zs t h1 h3 h4=>?_⟩
  ·show IR K R (fun k=>if f=F then _ else _) (if f=F then _ else _)
   by_cases e:f=F
   ·subst e;simp only[if_true];exact hO j m xs zs t h2 h3 h4
   ·simp only[if_neg e];exact ih.one f j m xs zs t zO h2 h3 h4
  ·show IR K _ (fun k=>if f=F then _ else _) (if f=F then _ else _)
   by_cases e:f=F
   ·subst e;simp only[if_true]
    refine U7 _ (fun e he s=>?_) t
    obtain⟨j,hj,rfl⟩:=List.mem_iff_getElem.1 he
    have:=hO j m xs zs s hj h3 h4
    rwa [Gh hj]at this
   ·simp only[if_neg e];exact ih.all f m xs zs t zO h3 h4
theorem fl (hR:aP K n nz R)(hv:FQ p){f m:Nat}{a:Nat→List Sr}{az:List Sr}(hf:f<p.length)(ha:M1 K R m a az)(hl:((m:Nat):Int)=(p.getD f Fn.zero).params) :
  IR K (M1 K R (p.getD f Fn.zero).outs.length) (fun k=>ev p (n k) f (a k)) (ev p nz f az):=by
 have h:=(XT hR hv (f+1) zO).all f m a az 0 zO ha hl
 simp only[HB (show f<f+1 by omega)]at h
 exact h
end
end
def PT (f:Nat→Int):Nat→Int
 |0=>0
 |k+1=>PT f k+f k
theorem M2 {f g:Nat→Int}:∀K,(∀k,k<K→md (f k)=md (g k))→md (PT f K)=md (PT g K)
 |0,_=>rfl
 |K+1,h=>by
  show md (PT f K+f K)=md (PT g K+g K)
  rw[← Ep,M2 K (fun k hk=>h k zO),h K zO,Ep]
theorem Rm (A B:Int)(f g:Nat→Int):∀K,PT (fun k=>A*f k+B*g k) K=A*PT f K+B*PT g K
 |0=>by show(0:Int)=A*0+B*0;simp
 |K+1=>by
  show PT _ K+(A*f K+B*g K)=A*(PT f K+f K)+B*(PT g K+g K)
  rw[Rm A B f g K,Int.mul_add,Int.mul_add];omega
structure Rl (K:Nat)(c:Nat→Int)(x:Nat→Sr)(z:Sr):Prop where
 sz:Cv 2 z
 sx:∀k,k<K→Cv 2 (x k)
 v:∀k,k<K→(x k).getD 0 0=z.getD 0 0
 d:z.getD 1 0=md (PT (fun k=>c k*(x k).getD 1 0) K)
theorem Rl.op {K:Nat}{c:Nat→Int}{xa xb out:Nat→Sr}{za zb oz:Sr}{A B:Int}(ha:Rl K c xa za)(hb:Rl K c xb zb)(hz:Cv 2 oz)(hx:∀k,k<K→Cv 2 (out k))(hv:∀k,k<K→(out k).getD 0 0=oz.getD 0 0)
  (h1:oz.getD 1 0=md (A*za.getD 1 0+B*zb.getD 1 0)) (h2:∀k,k<K→(out k).getD 1 0=md (A*(xa k).getD 1 0+B*(xb k).getD 1 0)):Rl K c out oz:=by
 refine⟨hz,hx,hv,?_⟩
 rw[h1,ha.d,hb.d,← Ep,FX,FX,Ep,← Rm]
 refine M2 K fun k hk=>?_
 rw[h2 k hk,FX]
 congr 1
 rw[Int.mul_add,Int.mul_left_comm,Int.mul_left_comm B]
theorem NO {a b:Sr}{k:Nat}(h:k<a.length):(Cq a b).getD k 0=md (a.getD k 0+b.getD k 0):=C8 0 h
theorem Pq {a b:Sr}{k:Nat}(h:k<a.length):(EK a b).getD k 0=md (a.getD k 0-b.getD k 0):=C8 0 h
theorem NP {a:Sr}{y:Int}{k:Nat}(h:k<a.length):(CL a y).getD k 0=md (a.getD k 0*y):=C8 0 h
theorem MC {a b:Sr}(h:0<a.length):(Ce a b).getD 0 0=md (0+a.getD 0 0*b.getD 0 0):=C8 0 h
theorem XU {a b:Sr}(h:1<a.length):(Ce a b).getD 1 0=md (md (0+a.getD 0 0*b.getD 1 0)+a.getD 1 0*b.getD 0 0):=C8 0 h
theorem Pr {a b:Sr}(h:0<a.length):(BT a b).getD 0 0=md (a.getD 0 0*inv (b.getD 0 0)):=LN h
theorem XV {a b:Sr}(h:1<a.length):(BT a b).getD 1 0=md (md (a.getD 1 0-(BT a b).getD 0 0*b.getD 1 0)*inv (b.getD 0 0)):=LN h
theorem X4 {n:Nat}{c:Int}(h:0<n):(cst n c).getD 0 0=c:=by
 obtain⟨n,rfl⟩:∃k,n=k+1:=⟨n-1,zO⟩
 unfold cst;rw[List.replicate_succ];rfl
theorem XW (c:Int):(cst 2 c).getD 1 0=0:=rfl
theorem Rl.all (K:Nat)(c:Nat→Int):aP K (fun _=>2) 2 (Rl K c) where
 zero:=fun x z h k hk=>by rw[h.v k hk]
 cst:=fun a ha=>⟨Et ha,fun _ _=>Et ha,fun _ _=>rfl,by
  have:∀K,PT (fun k=>c k*(Go.Proofs.YtjnbnlniafmblaaGreat.cst 2 a).getD 1 0) K=0:=fun K=>by
   induction K with
   |zero=>rfl
   |succ K ih=>show PT _ K+c K*(Go.Proofs.YtjnbnlniafmblaaGreat.cst 2 a).getD 1 0=0;rw[ih,XW];simp
  rw[this,XW];rfl⟩
 add:=fun x z y w hx hy=>Rl.op (A:=1) (B:=1) hx hy ⟨by rw[Fx];exact hx.sz.1,Ih _ _⟩ (fun k hk=>⟨by rw[Fx];exact(hx.sx k hk).1,Ih _ _⟩)
  (fun k hk=>by rw[NO (by rw[(hx.sx k hk).1];decide),NO (by rw[hx.sz.1];decide),hx.v k hk,hy.v k hk]) (by rw[NO (by rw[hx.sz.1];decide),Int.one_mul,Int.one_mul]) (fun k hk=>by rw[NO (by rw[(hx.sx k hk).1];decide),Int.one_mul,Int.one_mul])
 red:=fun x z y w hx hy=>Rl.op (A:=1) (B:=-1) hx hy ⟨by rw[Gg];exact hx.sz.1,Ii _ _⟩ (fun k hk=>⟨by rw[Gg];exact(hx.sx k hk).1,Ii _ _⟩)
  (fun k hk=>by rw[Pq (by rw[(hx.sx k hk).1];decide),Pq (by rw[hx.sz.1];decide),hx.v k hk,hy.v k hk]) (by rw[Pq (by rw[hx.sz.1];decide)];congr 1;omega) (fun k hk=>by rw[Pq (by rw[(hx.sx k hk).1];decide)];congr 1;omega)
 pro:=fun x z y w hx hy=>Rl.op (A:=w.getD 0 0) (B:=z.getD 0 0) hx hy ⟨by rw[Er];exact hx.sz.1,Ge _ _⟩ (fun k hk=>⟨by rw[Er];exact(hx.sx k hk).1,Ge _ _⟩)
  (fun k hk=>by rw[MC (by rw[(hx.sx k hk).1];decide),MC (by rw[hx.sz.1];decide),hx.v k hk,hy.v k hk])
  (by rw[XU (by rw[hx.sz.1];decide),O7,Int.zero_add,Int.add_comm,Int.mul_comm (z.getD 1 0)])
  (fun k hk=>by rw[XU (by rw[(hx.sx k hk).1];decide),O7,Int.zero_add,Int.add_comm,Int.mul_comm ((x k).getD 1 0),hx.v k hk,hy.v k hk])
 scl:=fun x z hx=>Rl.op (A:=1000002) (B:=0) hx hx ⟨by rw[Gf];exact hx.sz.1,Fy _ _⟩ (fun k hk=>⟨by rw[Gf];exact(hx.sx k hk).1,Fy _ _⟩)
  (fun k hk=>by rw[NP (by rw[(hx.sx k hk).1];decide),NP (by rw[hx.sz.1];decide),hx.v k hk]) (by rw[NP (by rw[hx.sz.1];decide)];congr 1;omega) (fun k hk=>by rw[NP (by rw[(hx.sx k hk).1];decide)];congr 1;omega)
 quo:=fun x z y w hx hy h0=>by
  have hq:∀k,k<K→(BT (x k) (y k)).getD 0 0=(BT z w).getD 0 0:=fun k hk=>by rw[Pr (by rw[(hx.sx k hk).1];decide),Pr (by rw[hx.sz.1];decide),hx.v k hk,hy.v k hk]
  have hf:∀a q b i:Int,md (md (a-q*b)*i)=md (i*a+(-(q*i))*b):=fun a q b i=>by
   rw[FW];congr 1
   rw[Int.sub_mul,Int.neg_mul,Int.mul_comm a i,Int.mul_assoc,Int.mul_assoc,Int.mul_comm b i];omega
  exact Rl.op (A:=inv (w.getD 0 0)) (B:=-((BT z w).getD 0 0*inv (w.getD 0 0))) hx hy ⟨by rw[Dl];exact hx.sz.1,Fw _ _⟩ (fun k hk=>⟨by rw[Dl];exact(hx.sx k hk).1,Fw _ _⟩) hq
   (by rw[XV (by rw[hx.sz.1];decide),hf]) (fun k hk=>by rw[XV (by rw[(hx.sx k hk).1];decide),hf,hq k hk,hy.v k hk])
theorem Ps {p:List Fn}(hv:FQ p){n f:Nat}{a:List Sr}(hf:f<p.length)(ha:BZ n a)(hl:((a.length:Nat):Int)=(p.getD f Fn.zero).params) :
  (∃x s,ev p n f a=.ok x s∧x.length=(p.getD f Fn.zero).outs.length∧BZ n x)∨ev p n f a=.err 6∨ev p n f a=.err 7:=by
 have h:=(U5 hv n (f+1) zO).all f a 0 zO ha hl zO
 rw[HB (by omega)]at h
 have e:ev p n f a=DC n (EO p n f) (p.getD f Fn.zero).outs a 0:=rfl
 rw[← e]at h
 cases h2:ev p n f a with
 |err c =>
  rw[h2]at h;have h:c=6∨c=7:=h
  rcases h with rfl|rfl
  ·exact .inr<|.inl rfl
  ·exact .inr<|.inr rfl
 |ok xs s =>
  rw[h2]at h;have h:xs.length=_∧BZ n xs∧s≤3000:=h
  exact .inl ⟨xs,s,rfl,h.1,h.2.1⟩
def D7 (a d:List Int)(n:Nat):List Sr:=CD a.length fun i=>(cst n (a.getD i 0)).set 1 (d.getD i 0)
@[simp] theorem CB (a d:List Int)(n:Nat):(D7 a d n).length=a.length:=by simp[D7]
theorem Jo {a d:List Int}{n k:Nat}(h:k<a.length):(D7 a d n).getD k []=(cst n (a.getD k 0)).set 1 (d.getD k 0):=C8 [] h
theorem EB {a d:List Int}{n:Nat}(ha:AX a=true)(hd:AX d=true):BZ n (D7 a d n):=fun k hk=>by
 rw[CB]at hk
 rw[Jo hk]
 refine⟨by rw[z6,E4],?_⟩
 have h1:=Et (n:=n)<|CI.2<|BW ha k
 unfold AX
 rw[zm]
 intro y hy
 rcases List.mem_or_eq_of_mem_set hy with hy|rfl
 ·have:=h1.2;unfold AX at this;exact zm.1 this y hy
 ·exact CI.2<|BW hd k
def HX (p:List Fn)(f:Int)(a d:Sr):Int:=if Kl p f=0 then(if ((decide (((a.length:Nat):Int)=(p.getD f.toNat Fn.zero).params) && AX a) && (decide (((d.length:Nat):Int)=(p.getD f.toNat Fn.zero).params) && AX d))=true then 0 else 2)else Kl p f
theorem aR {p:List Fn}{f:Int}{a d:Sr}(h:HX p f a d=0):GJ p=true∧(0≤f∧f<((p.length:Nat):Int))∧(((a.length:Nat):Int)=(p.getD f.toNat Fn.zero).params∧AX a=true)∧((d.length:Nat):Int)=(p.getD f.toNat Fn.zero).params∧AX d=true:=by
 unfold HX at h
 split at h
 ·rename_i h1
  split at h
  ·rename_i h2
   simp only[z7,decide_eq_true_eq]at h2
   obtain⟨q1,q2,q3⟩:=Rc h1
   exact⟨q1,⟨q2,q3⟩,h2.1,h2.2⟩
  ·omega
 ·rename_i h1;exact absurd h h1
def Lw (p:List Fn)(f:Nat)(a d:List Int):List Sr:=Ib p 2 f (D7 a d 2)
def PU (p:List Fn)(f:Nat)(a d:List Int):Int:=HD p 2 f (D7 a d 2)
theorem U9 (a d:List Int):(D7 a d 2).map (DD 1)=Cw a:=by
 refine aO (by rw[zg,CB];unfold Cw;rw[zg]) fun k hk=>?_
 rw[zg,CB]at hk
 rw[Ci (d:=[]) (by rw[CB];exact hk),Jo hk]
 unfold Cw
 rw[Ci (d:=0) hk]
 rfl
theorem aS (p:List Fn)(f:Nat)(a d:List Int):PU p f a d=GL p f a:=by
 unfold PU GL
 rw[← X3 p (A7 1) (show 1≤2 by decide),U9]
theorem fm (p:List Fn)(f:Nat)(a d:List Int):(Lw p f a d).map (fun s=>s.getD 0 0)=PS p f a:=by
 unfold Lw PS
 rw[← U9 a d,X2 p (A7 1) (show 1≤2 by decide),List.map_map]
 refine List.map_congr_left fun s hs=>?_
 show _=(s.take 1).getD 0 0
 cases s <;> rfl
theorem NR (n j:Nat):(List.replicate n (0:Int)).getD j 0=0:=by
 rw[List.getD_eq_getElem?_getD,List.getElem?_replicate];split <;> rfl
def Jp (a b:List Int)(k:Nat):Int:=md (sm k fun j=>a.getD j 0*b.getD j 0)
theorem Sq (a b:List Int)(k:Nat):md (Jp a b k+md (a.getD k 0*b.getD k 0))=Jp a b (k+1):=by
 unfold Jp
 rw[Ep];rfl
theorem Ua {a d:List Int}{i:Nat}(h:i<a.length):((D7 a d 2).getD i []).getD 0 0=a.getD i 0:=by rw[Jo h];rfl
theorem Rn {a d:List Int}{i:Nat}(h:i<a.length):((D7 a d 2).getD i []).getD 1 0=d.getD i 0:=by rw[Jo h];rfl
theorem Zq {p:List Fn}(hv:FQ p){n f:Nat}{a:List Sr}(hf:f<p.length)(ha:BZ n a)(hl:((a.length:Nat):Int)=(p.getD f Fn.zero).params)(h0:HD p n f a=0):∃x t,ev p n f a=.ok x t∧x.length=(p.getD f Fn.zero).outs.length∧BZ n x:=by
 rcases Ps hv hf ha hl with⟨x,s,h1,h2,h3⟩|h1|h1
 ·exact⟨x,s,h1,h2,h3⟩
 ·rw[Il h1]at h0;omega
 ·rw[Il h1]at h0;omega
theorem Ub {p:List Fn}{f:Nat}{a d:List Int}{K:Nat}{D:Nat→List Int}{c:Nat→Int}(hv:FQ p)(hf:f<p.length)(hl:((a.length:Nat):Int)=(p.getD f Fn.zero).params)(hna:AX a=true)(hnd:AX d=true)
  (hD:∀k,k<K→AX (D k)=true) (hc:∀i,i<a.length→d.getD i 0=md (PT (fun k=>c k*(D k).getD i 0) K)) (h0:GL p f a=0) {r:Nat} (hr:r<(p.getD f Fn.zero).outs.length) :
  ((Lw p f a d).getD r []).getD 1 0=md (PT (fun k=>c k*((Lw p f a (D k)).getD r []).getD 1 0) K):=by
 have h:=fl (Rl.all K c) hv (m:=a.length) (a:=fun k=>D7 a (D k) 2) (az:=D7 a d 2) hf
  ⟨CB _ _ _,fun k _=>CB _ _ _,fun i hi=>⟨fun k=>(D7 a (D k) 2).getD i [],fun _ _=>rfl,
   ⟨EB hna hnd i (by rw[CB];exact hi),fun k hk=>EB hna (hD k hk) i (by rw[CB];exact hi),fun k _=>by rw[Ua hi,Ua hi],by
    rw[Rn hi,hc i hi]
    refine M2 K fun k _=>?_
    rw[Rn hi]⟩⟩⟩ hl
 have hdc:HD p 2 f (D7 a d 2)=0:=(aS p f a d).trans h0
 obtain⟨z,t,he,_,_⟩:=Zq hv hf (EB (n:=2) hna hnd) (by rw[CB];exact hl) hdc
 rw[he]at h
 obtain⟨x,h1,h2⟩:=h
 obtain⟨y,h3,h4⟩:=h2.2.2 r hr
 unfold Lw
 rw[Kh he,h4.d]
 refine M2 K fun k hk=>?_
 rw[← h3 k hk,Kh (h1 k hk)]
structure gZ (p:List Fn)(f:Nat)(a:List Int):Prop where
 v:FQ p
 lt:f<p.length
 l:((a.length:Nat):Int)=(p.getD f Fn.zero).params
 n:AX a=true
 z:GL p f a=0
theorem Zr {N:Nat}{a b:Sr}(ha:Cv N a):EN N (DF (Cq a b)) (fun k=>DF a k+DF b k):=fun k hk=>by
 show md ((Cq a b).getD k 0)=_
 rw[NO (by rw[ha.1];exact hk),Fu];rfl
theorem fo {N:Nat}{a:Sr}{y:Int}(ha:Cv N a):EN N (DF (CL a y)) (fun k=>y*DF a k):=fun k hk=>by
 show md ((CL a y).getD k 0)=_
 rw[NP (by rw[ha.1];exact hk),Fu,Int.mul_comm];rfl
theorem EN.add {N:Nat}{f f' g g':Nat→Int}(hf:EN N f f')(hg:EN N g g'):EN N (fun k=>f k+g k) (fun k=>f' k+g' k):=fun k hk=>by rw[← Ep,hf k hk,hg k hk,Ep]
section
section str
variable {P:Program} {ops:Array Oper} {w0:World} {Q:Act→World→Prop} {os:List Oper} {ks:List Nat} {N:Nat} {ρ:Nat→Value} {w:World}
 {d:Nat} {ty:TypeId} {pos:String} {aft:Array Edge} {g:Option (Nat×Bool)} {t e:TypeId}
theorem XX {α:Type}{E:Bw α}(hE:Cd E){ys:List α}{b:Nat}{z u0 u1:Value}{x0 x1:Operand}(ht:P.underlying t=some (.slice e))(hi:TI P e 1 z b)(hz:z.cells=#[z])
  (hx0:Bz N ρ x0=u0) (hx1:Bz N ρ x1=u1) (hl:ys.length=2) (hels:els E w.heap [u0,u1] ys [])
  (hu:Up ops N ρ ⟨some d,.buildSlice t 2 #[(0,x0),(1,x1)],ty,pos,aft,g⟩)
  (h:∀v w1,AH w w1→w1.heap.size=w.heap.size+1→Fr (Bp E e) w.heap.size w1.heap.size w1.heap v ys→LW P ops w0 Q os ks (mk N (CY ρ d v)) w1) :
  LW P ops w0 Q (⟨some d,.buildSlice t 2 #[(0,x0),(1,x1)],ty,pos,aft,g⟩::os) (3::ks) (mk N ρ) w:=by
 have hc:=hels.cells1 hE
 have hr:=Vs (P:=P) (w:=w) ht hi (hc u0 (by simp)).1 (hc u1 (by simp)).1 hz
 have hrun:(execOp (Bz N ρ) ⟨some d,.buildSlice t 2 #[(0,x0),(1,x1)],ty,pos,aft,g⟩).run P w=.ok (.value (.slice (some ⟨w.heap.size,0,none⟩) 2 2)) (w.alloc (.cells #[u0,u1] e)):=by
  simp only[execOp,zc,zf,zh,Sem.run_bind,hx0,hx1,hr,Result.andThen_ok,Sem.run_pure]
 refine K5 rfl hu _ _ hrun (BJ _ _)<|h _ _ (BJ _ _) (by simp) ?_
 have hn:=Hv (e:=e) (w:=w) hE (us:=[u0,u1]) (xs:=ys) (F:=[]) (cur:=#[u0,u1]) hels (by simp[maxLen]) (by rw[hl];rfl) (by rw[hl];simp)
 rw[hl]at hn
 refine⟨_,hn,?_,fun c hc=>?_⟩
 ·rw[List.nodup_cons]
  exact⟨fun hm=>(by cases hm),zk⟩
 ·rcases ze.1 hc with rfl|hc
  ·exact⟨A7 _,by simp⟩
  ·cases hc
theorem Zs {x:Operand}{u:Value}(hx:Bz N ρ x=u)(hc:u.cells=#[u])(hu:Up ops N ρ ⟨some d,.box t x,ty,pos,aft,g⟩)
  (h:∀w1,AH w w1→w1.heap.size=w.heap.size+1→BX w1.heap w.heap.size [u]→LW P ops w0 Q os ks (mk N (CY ρ d (.pointer (some ⟨w.heap.size,0,none⟩)))) w1) :
  LW P ops w0 Q (⟨some d,.box t x,ty,pos,aft,g⟩::os) (3::ks) (mk N ρ) w:=by
 have hrun:(execOp (Bz N ρ) ⟨some d,.box t x,ty,pos,aft,g⟩).run P w=.ok (.value (.pointer (some ⟨w.heap.size,0,none⟩))) (w.alloc (.cells #[u] t)):=by
  simp[execOp,Instr.box,newVar,newRow,hx,hc]
 refine K5 rfl hu _ _ hrun (BJ _ _)<|h _ (BJ _ _) (by simp) ⟨t,?_⟩
 have:=heap_alloc_new w (.cells #[u] t)
 simpa using this
end str
theorem aT {H:Array Obj}{a b:Int}(h0:-9223372036854775808≤a∧a≤9223372036854775807)(h1:-9223372036854775808≤b∧b≤9223372036854775807):els rI H [.int .i64 a,.int .i64 b] [a,b] [] :=
 ⟨[],[],rfl,⟨rfl,rfl,h0⟩,[],[],rfl,⟨rfl,rfl,h1⟩,rfl⟩
end
def dl (i:Nat)(j:Nat):Int:=if i=j then 1 else 0
structure Qi (m:Nat)(a:List Int)(X:List Sr):Prop where
 len:X.length=a.length
 ser:∀i,i<a.length→Cv m (X.getD i [])
 at0:∀i,i<a.length→(X.getD i []).getD 0 0=a.getD i 0
section
theorem Pt {α:Type}{P:List α→Prop}(h0:P [])(h1:∀l c,P l→P (l++[c]))(l:List α):P l:=by
 have h:∀l:List α,P l.reverse:=fun l=>by
  induction l with
  |nil=>exact h0
  |cons c l ih=>rw[List.reverse_cons];exact h1 _ _ ih
 have:=h l.reverse
 rwa [List.reverse_reverse]at this
def Gk (m:Nat)(A R:List Sr)(c:As):Sr :=
 if c.op=1 then A.getD c.num.toNat []else if c.op=3 then Cq (R.getD c.a.toNat []) (R.getD c.b.toNat [])else if c.op=4 then EK (R.getD c.a.toNat []) (R.getD c.b.toNat [])
 else if c.op=5 then Ce (R.getD c.a.toNat []) (R.getD c.b.toNat [])else if c.op=7 then CL (R.getD c.a.toNat []) 1000002
 else if c.op=6 then BT (R.getD c.a.toNat []) (R.getD c.b.toNat [])else cst m c.num
def Be (m:Nat)(A:List Sr)(cs:List As):List Sr:=cs.foldl (fun R c=>R++[Gk m A R c]) []
section
variable {m:Nat} {A:List Sr}
theorem Hl (cs:List As)(c:As):Be m A (cs++[c])=Be m A cs++[Gk m A (Be m A cs) c]:=by unfold Be;rw[List.foldl_append];rfl
@[simp] theorem BS (cs:List As):(Be m A cs).length=cs.length:=by
 induction cs using Pt with
 |h0=>rfl
 |h1 l c ih=>rw[Hl,z4,ih,z4];rfl
theorem MD (cs l:List As){k:Nat}(hk:k<cs.length):(Be m A (cs++l)).getD k []=(Be m A cs).getD k []:=by
 induction l using Pt with
 |h0=>rw[List.append_nil]
 |h1 l c ih=>rw[← List.append_assoc,Hl,I2 (by rw[BS,z4];omega),ih]
theorem NS (cs:List As)(c:As):(Be m A (cs++[c])).getD cs.length []=Gk m A (Be m A cs) c:=by rw[Hl,I3 (by rw[BS])]
end
def DN (ni k:Nat)(c:As):Prop :=
 (c.op=1∧c.a=0∧c.b=0∧0≤c.num∧c.num<((ni:Nat):Int))∨(c.op=2∧c.a=0∧c.b=0∧0≤c.num∧c.num<1000003) ∨
 ((c.op=3∨c.op=4∨c.op=5∨c.op=6)∧(0≤c.a∧c.a<((k:Nat):Int))∧(0≤c.b∧c.b<((k:Nat):Int))∧c.num=0)∨(c.op=7∧(0≤c.a∧c.a<((k:Nat):Int))∧c.b=0∧c.num=0)
theorem DN.bin {ni k:Nat}{op a b:Int}(h:op=3∨op=4∨op=5∨op=6)(ha:0≤a∧a<((k:Nat):Int))(hb:0≤b∧b<((k:Nat):Int)):DN ni k ⟨op,a,b,0⟩:=.inr (.inr (.inl ⟨h,ha,hb,rfl⟩))
theorem DN.neg {ni k:Nat}{a:Int}(ha:0≤a∧a<((k:Nat):Int)):DN ni k ⟨7,a,0,0⟩:=.inr (.inr (.inr ⟨rfl,ha,rfl,rfl⟩))
structure DH (m:Nat)(A:List Sr)(T:Tp):Prop where
 cl:T.code.length=T.vals.length
 ser:∀k,k<T.code.length→Cv m ((Be m A T.code).getD k [])∧((Be m A T.code).getD k []).getD 0 0=T.vals.getD k 0
 form:∀k,k<T.code.length→DN A.length k (T.code.getD k As.zero)
 dv:∀k,k<T.code.length→(T.code.getD k As.zero).op=6→T.at (T.code.getD k As.zero).b≠0
 gd:∀k,k<T.grd.length→(0≤(T.grd.getD k Hh.zero).reg∧(T.grd.getD k Hh.zero).reg<((T.vals.length:Nat):Int))∧(T.grd.getD k Hh.zero).z=decide (T.at (T.grd.getD k Hh.zero).reg=0)
def TE (T T':Tp):Prop:=(∃l,T'.code=T.code++l)∧∃l,T'.vals=T.vals++l
theorem TE.refl (T:Tp):TE T T:=⟨⟨[],by simp⟩,[],by simp⟩
theorem TE.trans {T T' T'':Tp}(h:TE T T')(k:TE T' T''):TE T T'':=by
 obtain⟨⟨l,h1⟩,l2,h2⟩:=h
 obtain⟨⟨l3,h3⟩,l4,h4⟩:=k
 exact⟨⟨l++l3,by rw[h3,h1,List.append_assoc]⟩,l2++l4,by rw[h4,h2,List.append_assoc]⟩
theorem TE.put (T:Tp)(c:As)(v:Int):TE T (T.put c v):=⟨⟨[c],rfl⟩,[v],rfl⟩
theorem TE.guard (T:Tp)(r:Int)(z:Bool):TE T (T.guard r z):=⟨⟨[],by simp[Tp.guard]⟩,[],by simp[Tp.guard]⟩
section
variable {m:Nat} {A:List Sr} {T T':Tp}
theorem TE.reg (h:TE T T'){k:Nat}(hk:k<T.code.length):(Be m A T'.code).getD k []=(Be m A T.code).getD k []:=by
 obtain⟨⟨l,h1⟩,_⟩:=h
 rw[h1,MD _ _ hk]
theorem TE.at (h:TE T T'){r:Int}(hr:0≤r∧r<((T.vals.length:Nat):Int)):T'.at r=T.at r:=by
 obtain⟨_,l,h1⟩:=h
 unfold Tp.at
 rw[h1,I2 (by omega)]
theorem TE.len (h:TE T T'):T.code.length≤T'.code.length∧T.vals.length≤T'.vals.length:=by
 obtain⟨⟨l,h1⟩,l2,h2⟩:=h
 rw[h1,h2,z4,z4];omega
def OV (m:Nat)(A:List Sr)(T:Tp)(r:Int)(z:Sr):Prop:=(0≤r∧r<((T.vals.length:Nat):Int))∧z=(Be m A T.code).getD r.toNat []
def NT (m:Nat)(A:List Sr)(n:Nat)(T:Tp)(rs:List Int)(zs:List Sr):Prop:=rs.length=n∧zs.length=n∧∀i,i<n→OV m A T (rs.getD i 0) (zs.getD i [])
theorem OV.mono {r:Int}{z:Sr}(hc:T.code.length=T.vals.length)(h:OV m A T r z)(k:TE T T'):OV m A T' r z:=by
 have:=k.len
 exact⟨by have:=h.1;omega,by rw[k.reg (by have:=h.1;omega)];exact h.2⟩
theorem NT.mono {n:Nat}{rs:List Int}{zs:List Sr}(hc:T.code.length=T.vals.length)(h:NT m A n T rs zs)(k:TE T T'):NT m A n T' rs zs:=⟨h.1,h.2.1,fun i hi=>(h.2.2 i hi).mono hc k⟩
theorem NT.snoc {n:Nat}{rs:List Int}{zs:List Sr}{r:Int}{z:Sr}(h:NT m A n T rs zs)(h1:OV m A T r z):NT m A (n+1) T (rs++[r]) (zs++[z]):=by
 refine⟨by simp[h.1],by simp[h.2.1],fun i hi=>?_⟩
 by_cases e:i=n
 ·rw[I3 (by rw[h.1];exact e),I3 (by rw[h.2.1];exact e)];exact h1
 ·rw[I2 (by rw[h.1];omega),I2 (by rw[h.2.1];omega)];exact h.2.2 i zO
theorem OV.at (hI:DH m A T){r:Int}{z:Sr}(h:OV m A T r z):Cv m z∧z.getD 0 0=T.at r:=by
 have:=hI.ser r.toNat (by rw[hI.cl];have:=h.1;omega)
 rw[h.2];exact this
def IS {α β:Type}(m:Nat)(A:List Sr)(T:Tp)(R:Tp→α→β→Prop)(r:Rs (α×Tp))(rz:Rs β):Prop:=match r with
 |.ok x t=>∃z,rz=.ok z t∧DH m A x.2∧TE T x.2∧R x.2 x.1 z
 |.err c=>rz=.err c
theorem IS.bind {α β α' β':Type}{R:Tp→α→β→Prop}{R':Tp→α'→β'→Prop}{r:Rs (α×Tp)}{rz:Rs β}{g:α×Tp→Nat→Rs (α'×Tp)}{gz:β→Nat→Rs β'}(h:IS m A T R r rz)
  (hg:∀x T' z t,DH m A T'→TE T T'→R T' x z→IS m A T' R' (g (x,T') t) (gz z t)):IS m A T R' (r.bind g) (rz.bind gz):=by
 cases r with
 |err c=>have h9:rz=.err c:=h;subst h9;exact rfl
 |ok x t =>
  obtain⟨z,h1,h2,h3,h4⟩:=h
  subst h1
  have h5:=hg x.1 x.2 z t h2 h3 h4
  rw[Rs.bind_ok,Rs.bind_ok]
  cases hr:g x t with
  |err c=>rw[hr]at h5;exact h5
  |ok y u =>
   rw[hr]at h5
   obtain⟨v,q1,q2,q3,q4⟩:=h5
   exact⟨v,q1,q2,h3.trans q3,q4⟩
theorem IS.ret {α β:Type}{R:Tp→α→β→Prop}{x:α}{z:β}{t:Nat}(hI:DH m A T')(hE:TE T T')(h:R T' x z):IS m A T R (.ok (x,T') t) (.ok z t):=⟨z,rfl,hI,hE,h⟩
theorem DH.put (h:DH m A T){c:As}{v:Int}(hs:Cv m (Gk m A (Be m A T.code) c))(hv:(Gk m A (Be m A T.code) c).getD 0 0=v)(hf:DN A.length T.code.length c)(hd:c.op=6→T.at c.b≠0):DH m A (T.put c v):=by
 have hE:=TE.put T c v
 have hcl:=h.cl
 have key:∀k,k<(T.put c v).code.length→k<T.code.length∨k=T.code.length:=fun k hk=>by rw[Qg]at hk;omega
 have cg:∀k,k<T.code.length→(T.put c v).code.getD k As.zero=T.code.getD k As.zero:=fun k hk=>I2 hk
 have cn:(T.put c v).code.getD T.code.length As.zero=c:=I3 rfl
 refine⟨by rw[Qg,EA,hcl],fun k hk=>?_,fun k hk=>?_,fun k hk h6=>?_,fun k hk=>?_⟩
 ·rcases key k hk with hk|rfl
  ·rw[hE.reg hk,show(T.put c v).vals.getD k 0=T.vals.getD k 0 from I2 (by omega)];exact h.ser k hk
  ·rw[show(Be m A (T.put c v).code).getD T.code.length []=_ from NS _ _,show(T.put c v).vals.getD T.code.length 0=v from I3 hcl];exact⟨hs,hv⟩
 ·rcases key k hk with hk|rfl
  ·rw[cg k hk];exact h.form k hk
  ·rw[cn];exact hf
 ·rcases key k hk with hk|rfl
  ·rw[cg k hk]at h6 ⊢
   have:=h.form k hk
   unfold DN at this
   rw[hE.at (by omega)];exact h.dv k hk h6
  ·rw[cn]at h6 ⊢
   unfold DN at hf
   rw[hE.at (by omega)];exact hd h6
 ·have:=h.gd k hk
  rw[TJ]at hk ⊢
  refine⟨by rw[EA];omega,?_⟩
  rw[hE.at this.1];exact this.2
theorem DH.guard (h:DH m A T){r:Int}(hr:0≤r∧r<((T.vals.length:Nat):Int)):DH m A (T.guard r (decide (T.at r=0))):=by
 refine⟨h.cl,h.ser,h.form,h.dv,fun k hk=>?_⟩
 rw[Mv]at hk
 by_cases e:k<T.grd.length
 ·rw[show(T.guard r (decide (T.at r=0))).grd.getD k Hh.zero=T.grd.getD k Hh.zero from I2 e];exact h.gd k e
 ·rw[show(T.guard r (decide (T.at r=0))).grd.getD k Hh.zero=⟨r,decide (T.at r=0)⟩from I3 (by omega)];exact⟨hr,rfl⟩
theorem IS.put {R:Tp→Int→Sr→Prop}{c:As}{v:Int}{z:Sr}{t:Nat}(h:DH m A T)(hz:Gk m A (Be m A T.code) c=z)(hs:Cv m z)(hv:z.getD 0 0=v)(hf:DN A.length T.code.length c)(hd:c.op=6→T.at c.b≠0)
  (hR:∀T' r z,OV m A T' r z→R T' r z):IS m A T R (.ok (((T.vals.length:Nat):Int),T.put c v) t) (.ok z t):=by
 subst hz
 refine IS.ret (h.put hs hv hf hd) (TE.put T c v)<|hR _ _ _ ⟨by rw[EA];omega,?_⟩
 rw[Int.toNat_natCast,← h.cl];exact(NS _ _).symm
theorem aU (hm:1≤m)(h:DH m A T){k:Int}{n t:Nat}{rs:List Int}{zs:List Sr}(hr:NT m A n T rs zs)(hk:3≤k∧k≤7)(h1:k=7→1≤n)(h2:k≠7→2≤n):IS m A T (OV m A) (Qe k rs t T) (LQ k zs t):=by
 have hn1:1≤n:=by by_cases e:k=7;exact h1 e;have:=h2 e;omega
 have ha:=hr.2.2 0 zO
 have hA:=ha.at h
 have hal:=hA.1.1
 have hac:=ha.1
 have hcl:=h.cl
 have fin:∀T' r z,OV m A T' r z→OV m A T' r z:=fun _ _ _ h=>h
 by_cases k7:k=7
 ·subst k7
  rw[In (XN rfl),Qf rfl]
  refine IS.put h ?_ ⟨(Gf _ _).trans hal,Fy _ _⟩ ?_ (DN.neg zO) (fun h6=>absurd (show(7:Int)=6 from h6) (by decide)) fin
  ·rw[ha.2];rfl
  ·rw[NP zO,hA.2]
   show md (T.at (rs.getD 0 0)*1000002)=md (0-T.at (rs.getD 0 0))
   unfold md;omega
 have hb:=hr.2.2 1<|h2 k7
 have hB:=hb.at h
 have hbl:=hB.1.1
 have hbc:=hb.1
 by_cases k3:k=3
 ·subst k3
  rw[In (fun h=>h.1 rfl),GZ (by decide)]
  refine IS.put h ?_ ⟨(Fx _ _).trans hal,Ih _ _⟩ ?_ (DN.bin (.inl rfl) zO zO) (fun h6=>absurd (show(3:Int)=6 from h6) (by decide)) fin
  ·rw[ha.2,hb.2];rfl
  ·rw[NO zO,hA.2,hB.2];rfl
 by_cases k4:k=4
 ·subst k4
  rw[In (fun h=>h.2.1 rfl),GZ (by decide)]
  refine IS.put h ?_ ⟨(Gg _ _).trans hal,Ii _ _⟩ ?_ (DN.bin (.inr<|.inl rfl) zO zO) (fun h6=>absurd (show(4:Int)=6 from h6) (by decide)) fin
  ·rw[ha.2,hb.2];rfl
  ·rw[Pq zO,hA.2,hB.2];rfl
 by_cases k5:k=5
 ·subst k5
  rw[In (fun h=>h.2.2.1 rfl),GZ (by decide)]
  refine IS.put h ?_ ⟨(Er _ _).trans hal,Ge _ _⟩ ?_ (DN.bin (.inr<|.inr<|.inl rfl) zO zO) (fun h6=>absurd (show(5:Int)=6 from h6) (by decide)) fin
  ·rw[ha.2,hb.2];rfl
  ·rw[MC zO,hA.2,hB.2,Int.zero_add];rfl
 have k6:k=6:=by omega
 subst k6
 by_cases hz:T.at (rs.getD 1 0)=0
 ·rw[Ok (by rw[GZ (by decide)];exact⟨by decide,by decide,by decide,by decide,hz⟩)]
  show LQ 6 zs t=.err 6
  show(if (zs.getD 1 []).getD 0 0=0 then _ else _)=_
  rw[if_pos (by rw[hB.2];exact hz)]
 ·rw[In (by rw[GZ (by decide)];exact fun h9=>hz h9.2.2.2.2),GZ (by decide)]
  have e:LQ 6 zs t=.ok (BT (zs.getD 0 []) (zs.getD 1 [])) t:=by
   show(if (zs.getD 1 []).getD 0 0=0 then _ else _)=_
   rw[if_neg (by rw[hB.2];exact hz)]
  rw[e]
  refine IS.put h ?_ ⟨(Dl _ _).trans hal,Fw _ _⟩ ?_ (DN.bin (.inr<|.inr<|.inr rfl) zO zO) (fun _=>hz) fin
  ·rw[ha.2,hb.2];rfl
  ·rw[Pr zO,hA.2,hB.2];rfl
end
structure fp (m:Nat)(A:List Sr)(p:List Fn)(F:Nat)(G:Cg)(C:Ca):Prop where
 one:∀f j n T rs zs t,f<F→j<(p.getD f Fn.zero).outs.length→DH m A T→NT m A n T rs zs→((n:Nat):Int)=(p.getD f Fn.zero).params→IS m A T (OV m A) (G.one f j rs t T) (C.one f j zs t)
 all:∀f n T rs zs t,f<F→DH m A T→NT m A n T rs zs→((n:Nat):Int)=(p.getD f Fn.zero).params→IS m A T (NT m A (p.getD f Fn.zero).outs.length) (G.all f rs t T) (C.all f zs t)
section
variable {m:Nat} {A:List Sr} {p:List Fn}
theorem Uc {G:Cg}{C:Ca}{env:List Int}{ez:List Sr}{n:Nat}:∀(l:List Ex),(∀e∈l,∀s T,DH m A T→NT m A n T env ez→IS m A T (OV m A) (Ej G e env s T) (CJ m C e ez s))→∀s T,DH m A T→NT m A n T env ez→IS m A T (NT m A l.length) (Ey G l env s T) (DC m C l ez s)
 |[],_,s,T,hI,he=>by
  rw[Ey,DC]
  exact IS.ret hI (TE.refl T) ⟨rfl,rfl,fun i hi=>absurd hi<|Nat.not_lt_zero i⟩
 |e::l,h,s,T,hI,he=>by
  rw[Ey,DC]
  refine (h e (by simp) s T hI he).bind fun x T1 z t h1 h2 h3=>?_
  refine (Uc l (fun e' he'=>h e' (by simp[he'])) t T1 h1<|he.mono hI.cl h2).bind fun xs T2 zs u q1 q2 q3=>?_
  refine IS.ret q1 (TE.refl T2) ⟨by simp[q3.1],by simp[q3.2.1],fun i hi=>?_⟩
  cases i with
  |zero=>exact h3.mono h1.cl q2
  |succ i=>exact q3.2.2 i (by simpa using hi)
theorem Ud {F f:Nat}{G:Cg}{C:Ca}(hC:fp m A p F G C)(hf:f<F)(ho:(((p.getD f Fn.zero).outs.length:Nat):Int)=(p.getD f Fn.zero).params):∀(c:Nat)(rs:List Int)(zs:List Sr)(t:Nat)(T:Tp),DH m A T→NT m A (p.getD f Fn.zero).outs.length T rs zs →
  IS m A T (NT m A (p.getD f Fn.zero).outs.length) (Eb (G.all f) c rs t T) (IM (C.all f) c zs t)
 |0,rs,zs,t,T,hI,h=>IS.ret hI (TE.refl T) h
 |c+1,rs,zs,t,T,hI,h=>(Ud hC hf ho c rs zs t T hI h).bind fun x T1 z u h1 h2 h3=>hC.all f _ T1 x z u hf h1 h3 ho
theorem Ue (hm:1≤m){F:Nat}{G:Cg}{C:Ca}(hC:fp m A p F G C):∀(z:Nat)(e:Ex),e.size≤z→∀(n:Nat)(env:List Int)(ez:List Sr)(s:Nat)(T:Tp),wf p ((F:Nat):Int) e ((n:Nat):Int)=true→DH m A T→NT m A n T env ez →
  IS m A T (OV m A) (Ej G e env s T) (CJ m C e ez s)
 |0,e,h,_,_,_,_,_,_,_,_=>by have:=Cs e;omega
 |z+1,e,h,n,env,ez,s,T,hw,hI,he=>by
  obtain⟨w1,w2,w3,w4,w5,w6,w7,w8⟩:=CZ (CU hw)
  have hz:∀j,j<e.kids.length→(e.kids.getD j Ex.zero).size≤z:=fun j hj=>by
   have:=Cs e;have:=K9 hj;omega
  have hk:∀j,j<e.kids.length→¬(e.kind=9∧j=1)→∀t T',DH m A T'→NT m A n T' env ez→IS m A T' (OV m A) (NI G e.kids j env t T') (J7 m C e.kids j ez t):=fun j hj hn t T' h1 h2=>by
   rw[DT _ _ _ _ _ _ hj,DS _ _ _ _ _ _ hj]
   exact Ue hm hC z _ (hz j hj) n env ez t T' (C1 hw hj hn) h1 h2
  rw[Ec,FH]
  by_cases hs3:3000≤s
  ·rw[if_pos hs3,if_pos hs3];exact rfl
  rw[if_neg hs3,if_neg hs3]
  by_cases k1:e.kind=1
  ·rw[if_pos k1,if_pos k1]
   have:=w8 k1
   exact IS.put hI rfl (Et<|CI.2 this) (X4 hm) (.inr<|.inl ⟨rfl,rfl,rfl,this⟩) (fun h6=>absurd (show(2:Int)=6 from h6) (by decide)) fun _ _ _ h=>h
  rw[if_neg k1,if_neg k1]
  by_cases k2:e.kind=2
  ·rw[if_pos k2,if_pos k2]
   exact IS.ret hI (TE.refl T)<|he.2.2 _ (by have:=w2 k2;omega)
  rw[if_neg k2,if_neg k2]
  by_cases k8:e.kind=8
  ·rw[if_pos k8,if_pos k8]
   have h3:=w5 k8
   refine (hk 0 zO zO (s+1) T hI he).bind fun x T1 y t h1 h2 hx=>?_
   have hq:=(hx.at h1).2
   have he1:=he.mono hI.cl h2
   dsimp only
   have fin:∀ {r:Rs RI} {rz:Rs Sr} {b:Bool},IS m A (T1.guard x b) (OV m A) r rz→IS m A T1 (OV m A) r rz:=fun {r rz b} hh=>by
    cases r with
    |err c=>exact hh
    |ok v u=>obtain⟨q,a1,a2,a3,a4⟩:=hh;exact⟨q,a1,a2,(TE.guard T1 x b).trans a3,a4⟩
   have hg:=h1.guard hx.1
   by_cases h0:T1.at x=0
   ·rw[if_pos h0,if_pos (by rw[hq];exact h0)]
    rw[A5 h0]at hg
    exact fin<|hk 1 zO zO t _ hg<|he1.mono h1.cl<|TE.guard T1 x true
   ·rw[if_neg h0,if_neg (by rw[hq];exact h0)]
    rw[A6 h0]at hg
    exact fin<|hk 2 zO zO t _ hg<|he1.mono h1.cl<|TE.guard T1 x false
  rw[if_neg k8,if_neg k8]
  by_cases k9:e.kind=9
  ·rw[if_pos k9,if_pos k9]
   have h3:=w3 zO
   refine (hk 0 zO zO (s+1) T hI he).bind fun x T1 y t h1 h2 hx=>?_
   dsimp only
   rw[DT _ _ _ _ _ _ (show 1<e.kids.length by omega),DS _ _ _ _ _ _ (show 1<e.kids.length by omega)]
   refine Ue hm hC z _ (hz 1 zO) (n+1) (env++[x]) (ez++[y]) t T1 ?_ h1<|(he.mono hI.cl h2).snoc hx
   have:=HC hw zO k9
   rw[Int.natCast_add];exact this
  rw[if_neg k9,if_neg k9]
  have hc:=Uc (G:=G) (C:=C) (env:=env) (ez:=ez) (n:=n) e.kids (fun x hx t T' h1 h2=>by
   obtain⟨j,hj,rfl⟩:=List.mem_iff_getElem.1 hx
   have:=hk j hj zO t T' h1 h2
   rw[DT _ _ _ _ _ _ hj,DS _ _ _ _ _ _ hj,Gh hj]at this
   exact this) (s+1) T hI he
  refine hc.bind fun xs T1 zs t h1 h2 hx=>?_
  dsimp only
  by_cases k10:e.kind=10
  ·rw[if_pos k10,if_pos k10]
   have h6:=w6<|.inl k10
   exact hC.one _ _ _ T1 xs zs t zO zO h1 hx (by exact h6.2.2.1)
  rw[if_neg k10,if_neg k10]
  by_cases k11:e.kind=11
  ·rw[if_pos k11,if_pos k11]
   have h6:=w6 (.inr k11);have h7:=w7 k11
   have hl:e.kids.length=(p.getD e.num.toNat Fn.zero).outs.length:=by omega
   rw[hl]at hx
   refine (Ud hC (f:=e.num.toNat) zO h7.1 e.count.toNat xs zs t T1 h1 hx).bind fun ys T2 ws u q1 q2 q3=>?_
   exact IS.ret q1 (TE.refl T2)<|q3.2.2 _ zO
  rw[if_neg k11,if_neg k11]
  exact aU hm h1 hx zO (fun h7=>by rw[w4 h7];decide) fun h7=>by rw[w3 (by omega)];decide
theorem XY (hm:1≤m)(hv:FQ p):∀F,F≤p.length→fp m A p F (Hi p F) (EO p m F)
 |0,_=>⟨fun f j n T rs zs t h=>by omega,fun f n T rs zs t h=>by omega⟩
 |F+1,hF=>by
  have ih:=XY hm hv F zO
  have hO:∀j n T rs zs t,j<(p.getD F Fn.zero).outs.length→DH m A T→NT m A n T rs zs→((n:Nat):Int)=(p.getD F Fn.zero).params→IS m A T (OV m A) (Ej (Hi p F) ((p.getD F Fn.zero).outs.getD j Ex.zero) rs t T) (CJ m (EO p m F) ((p.getD F Fn.zero).outs.getD j Ex.zero) zs t):=fun j n T rs zs t h2 h1 h3 h4 =>
   Ue hm ih _ _ (A7 _) n rs zs t T (by rw[h4];exact hv.wf F zO j h2) h1 h3
  refine⟨fun f j n T rs zs t h1 h2 h0 h3 h4=>?_,fun f n T rs zs t h1 h0 h3 h4=>?_⟩
  ·show IS m A T _ (if f=F then _ else _) (if f=F then _ else _)
   by_cases e:f=F
   ·subst e;rw[if_pos rfl,if_pos rfl];exact hO j n T rs zs t h2 h0 h3 h4
   ·rw[if_neg e,if_neg e];exact ih.one f j n T rs zs t zO h2 h0 h3 h4
  ·show IS m A T _ (if f=F then _ else _) (if f=F then _ else _)
   by_cases e:f=F
   ·subst e;rw[if_pos rfl,if_pos rfl]
    refine Uc (n:=n) _ (fun e he s T' h5 h6=>?_) t T h0 h3
    obtain⟨j,hj,rfl⟩:=List.mem_iff_getElem.1 he
    have:=hO j n T' rs zs s hj h5 h6 h4
    rwa [Gh hj]at this
   ·rw[if_neg e,if_neg e];exact ih.all f n T rs zs t zO h0 h3 h4
theorem XZ {a:List Int}(hn:AX a=true)(hA:Qi m a A):∀k,k≤a.length→DH m A (Hk a k)
 |0,_=>⟨rfl,fun k hk=>absurd hk (Nat.not_lt_zero k),fun k hk=>absurd hk (Nat.not_lt_zero k),fun k hk=>absurd hk (Nat.not_lt_zero k),fun k hk=>absurd hk (Nat.not_lt_zero k)⟩
 |k+1,h=>by
  have e:Gk m A (Be m A (Hk a k).code) ⟨1,0,0,((k:Nat):Int)⟩=A.getD k []:=by
   show A.getD (((k:Nat):Int)).toNat []=_
   rw[Int.toNat_natCast]
  refine (XZ hn hA k zO).put ?_ ?_ (.inl ⟨rfl,rfl,rfl,Int.natCast_nonneg k,by rw[hA.len];exact Int.ofNat_lt.2 h⟩) fun h6=>absurd (show(1:Int)=6 from h6) (by decide)
  ·rw[e];exact hA.ser k h
  ·rw[e];exact hA.at0 k h
theorem aV {a:List Int}(hA:Qi m a A):NT m A a.length (Hk a a.length) (FR a.length) A:=by
 have hr:∀k,k≤a.length→∀j,j<k→(Be m A (Hk a k).code).getD j []=A.getD j []:=fun k=>by
  induction k with
  |zero=>exact fun _ j hj=>absurd hj (Nat.not_lt_zero j)
  |succ k ih =>
   intro hk j hj
   show(Be m A ((Hk a k).code++[_])).getD j []=_
   rw[Hl]
   by_cases e:j=k
   ·rw[I3 (by rw[BS,KX];exact e),e]
    show A.getD (((k:Nat):Int)).toNat []=_
    rw[Int.toNat_natCast]
   ·rw[I2 (by rw[BS,KX];omega)];exact ih zO j zO
 refine⟨DP _,hA.len,fun i hi=>?_⟩
 rw[Pk hi]
 exact⟨by rw[H0];omega,by rw[Int.toNat_natCast,hr _ (A7 _) i hi]⟩
theorem Ro {a:List Int}{f:Nat}(hm:1≤m)(hv:FQ p)(hf:f<p.length)(hn:AX a=true)(hA:Qi m a A)(hl:((a.length:Nat):Int)=(p.getD f Fn.zero).params) :
  IS m A (Hk a a.length) (NT m A (p.getD f Fn.zero).outs.length) (Lv p f a) (ev p m f A):=by
 have h:=(XY (A:=A) hm hv (f+1) zO).all f a.length (Hk a a.length) (FR a.length) A 0 zO (XZ hn hA _<|A7 _) (aV hA) hl
 rw[Ki (show f<f+1 by omega),HB (show f<f+1 by omega)]at h
 exact h
theorem Pu {a:List Int}{f:Nat}(hm:1≤m)(hv:FQ p)(hf:f<p.length)(hn:AX a=true)(hA:Qi m a A)(hl:((a.length:Nat):Int)=(p.getD f Fn.zero).params){xs:List Int}{T:Tp}{s:Nat}{c:Int}(h:AL (Lv p f a) (xs,T) s c):HD p m f A=c:=by
 have hT:=Ro hm hv hf hn hA hl
 cases hr:Lv p f a with
 |err d =>
  rw[hr]at h hT
  have h9:ev p m f A=.err d:=hT
  rw[Il h9];exact h.1.symm
 |ok x t =>
  rw[hr]at h hT
  obtain⟨z,h1,_⟩:=hT
  rw[Mn h1];exact h.2.2.symm
theorem Uf {a:List Int}{f:Nat}(hm:1≤m)(hv:FQ p)(hf:f<p.length)(hn:AX a=true)(hA:Qi m a A)(hl:((a.length:Nat):Int)=(p.getD f Fn.zero).params){xs:List Int}{T:Tp}{s:Nat}{c:Int}(h:AL (Lv p f a) (xs,T) s c)(hc:c=0) :
  DH m A T∧Ib p m f A=xs.map fun r=>(Be m A T.code).getD r.toNat []:=by
 have hT:=Ro hm hv hf hn hA hl
 subst hc
 have hr:=h.ok
 rw[hr]at hT
 obtain⟨z,h1,h2,h3,h4⟩:=hT
 refine⟨h2,?_⟩
 rw[Kh h1]
 refine aO (by rw[h4.2.1,zg,h4.1]) fun i hi=>?_
 rw[h4.2.1]at hi
 rw[Ci (d:=0) (by rw[h4.1];exact hi)]
 exact (h4.2.2 i hi).2
end
end
section
def Lx (m:Nat)(A:List Sr)(cs:List As)(k:Nat):Prop:=∀j,j<k→(cs.getD j As.zero).op=6→((Be m A (cs.take j)).getD (cs.getD j As.zero).b.toNat []).getD 0 0≠0
section
variable {m k:Nat} {A R:List Sr} {cs:List As} {c:As}
theorem Cc (hk:k<cs.length):Be m A (cs.take (k+1))=Be m A (cs.take k)++[Gk m A (Be m A (cs.take k)) (cs.getD k As.zero)]:=by
 rw[D6 As.zero hk,Hl]
theorem M3 (h:c.op=1):Gk m A R c=A.getD c.num.toNat []:=if_pos h
theorem Ko (h:c.op=3):Gk m A R c=Cq (R.getD c.a.toNat []) (R.getD c.b.toNat []):=by unfold Gk;rw[if_neg zO,if_pos h]
theorem Kp (h:c.op=4):Gk m A R c=EK (R.getD c.a.toNat []) (R.getD c.b.toNat []):=by unfold Gk;rw[if_neg zO,if_neg zO,if_pos h]
theorem Kq (h:c.op=5):Gk m A R c=Ce (R.getD c.a.toNat []) (R.getD c.b.toNat []):=by unfold Gk;rw[if_neg zO,if_neg zO,if_neg zO,if_pos h]
theorem Kr (h:c.op=7):Gk m A R c=CL (R.getD c.a.toNat []) 1000002:=by unfold Gk;rw[if_neg zO,if_neg zO,if_neg zO,if_neg zO,if_pos h]
theorem Ks (h:c.op=6):Gk m A R c=BT (R.getD c.a.toNat []) (R.getD c.b.toNat []):=by unfold Gk;rw[if_neg zO,if_neg zO,if_neg zO,if_neg zO,if_neg zO,if_pos h]
theorem Kt (h:c.op≠1∧c.op≠3∧c.op≠4∧c.op≠5∧c.op≠7∧c.op≠6):Gk m A R c=cst m c.num:=by
 unfold Gk;rw[if_neg h.1,if_neg h.2.1,if_neg h.2.2.1,if_neg h.2.2.2.1,if_neg h.2.2.2.2.1,if_neg h.2.2.2.2.2]
theorem Ug (hA:BZ m A)(hR:BZ m R)(hl:R.length=k)(h:DN A.length k c):Cv m (Gk m A R c):=by
 have hg:∀x:Int,0≤x→x<((k:Nat):Int)→Cv m (R.getD x.toNat []):=fun x h0 h1=>hR _ zO
 rcases h with⟨h1,_,_,h2,h3⟩|⟨h1,_,_,h2,h3⟩|⟨h1,h2,h3,_⟩|⟨h1,h2,_⟩
 ·rw[M3 h1];exact hA _ zO
 ·rw[Kt (by omega)];exact Et (CI.2 ⟨h2,h3⟩)
 ·have ha:=hg c.a h2.1 h2.2
  rcases h1 with h1|h1|h1|h1
  ·rw[Ko h1];exact Hf ha
  ·rw[Kp h1];exact Mk ha
  ·rw[Kq h1];exact Hg ha
  ·rw[Ks h1];exact Gi ha
 ·rw[Kr h1];exact Ml (hg c.a h2.1 h2.2)
theorem Rp (h:BZ m (Be m A (cs.take k)))(hA:BZ m A)(hf:DN A.length k (cs.getD k As.zero))(hk:k<cs.length):BZ m (Be m A (cs.take (k+1))):=by
 rw[Cc hk]
 exact BZ.snoc h<|Ug hA h (by rw[BS,List.length_take];omega) hf
theorem Zt:Lx m A cs 0:=fun j hj=>absurd hj (Nat.not_lt_zero j)
theorem X5 (h:Lx m A cs k)(hk:(cs.getD k As.zero).op≠6):Lx m A cs (k+1):=fun j hj h6=>by
 by_cases e:j=k
 ·subst e;exact absurd h6 hk
 ·exact h j zO h6
theorem X6 (h:Lx m A cs k)(hk:((Be m A (cs.take k)).getD (cs.getD k As.zero).b.toNat []).getD 0 0≠0):Lx m A cs (k+1):=fun j hj h6=>by
 by_cases e:j=k
 ·subst e;exact hk
 ·exact h j zO h6
theorem Uh {n:Nat}(hk:k<n)(h6:(cs.getD k As.zero).op=6)(hz:((Be m A (cs.take k)).getD (cs.getD k As.zero).b.toNat []).getD 0 0=0):¬Lx m A cs n:=fun h=>h k hk h6 hz
end
theorem DH.nz {m:Nat}{A:List Sr}{T:Tp}(h:DH m A T):Lx m A T.code T.code.length:=fun j hj h6=>by
 have hf:=h.form j hj
 have hd:=h.dv j hj h6
 unfold DN at hf
 have hb:(T.code.getD j As.zero).b.toNat<j:=by omega
 have hs:=(h.ser (T.code.getD j As.zero).b.toNat zO).2
 have e:(Be m A (T.code.take j)).getD (T.code.getD j As.zero).b.toNat []=(Be m A T.code).getD (T.code.getD j As.zero).b.toNat []:=by
  have h9:=MD (m:=m) (A:=A) (T.code.take j) (T.code.drop j) (k:=(T.code.getD j As.zero).b.toNat) (by rw[List.length_take];omega)
  rw[List.take_append_drop]at h9
  exact h9.symm
 rw[e,hs]
 exact hd
section io
variable {ni k:Nat} {c:As}
theorem DN.i1 (h:DN ni k c)(h1:c.op=1):(0≤c.num∧c.num<((ni:Nat):Int)):=by unfold DN at h;omega
theorem DN.i2 (h:DN ni k c)(h1:3≤c.op∧c.op≤6):(0≤c.a∧c.a<((k:Nat):Int))∧(0≤c.b∧c.b<((k:Nat):Int)):=by unfold DN at h;omega
theorem DN.i7 (h:DN ni k c)(h1:c.op=7):(0≤c.a∧c.a<((k:Nat):Int)):=by unfold DN at h;omega
theorem DN.i0 (h:DN ni k c):1≤c.op∧c.op≤7:=by unfold DN at h;omega
end io
theorem Io {S:List Nat}{H:Array Obj}{cs:List Value}{x:As}(h:RN S KU H cs x):cs=aI x∧Qb x:=by
 obtain⟨F,h,_⟩:=h
 exact⟨h.1,h.2.1⟩
theorem Ui {S:List Nat}{H:Array Obj}{cs:List Value}{x:Hh}(h:RN S KV H cs x):cs=aJ x∧Bn x.reg:=by
 obtain⟨F,h,_⟩:=h
 exact⟨h.1,h.2.1⟩
def aW (m:Nat)(A:List Sr)(cs:List As)(c:Int):Prop:=(c=0∧Lx m A cs cs.length)∨(c=6∧¬Lx m A cs cs.length)
end
section
def ET (B:List Sr)(r:Int)(s:Sr):List Sr:=B.set r.toNat (Cq (B.getD r.toNat []) s)
def ME (cs:List As)(R:List Sr)(k:Nat)(B:List Sr):List Sr :=
 if (cs.getD k As.zero).op=3 then ET (ET B (cs.getD k As.zero).a (B.getD k [])) (cs.getD k As.zero).b (B.getD k [])
 else if (cs.getD k As.zero).op=4 then ET (ET B (cs.getD k As.zero).a (B.getD k [])) (cs.getD k As.zero).b (CL (B.getD k []) 1000002)
 else if (cs.getD k As.zero).op=5 then ET (ET B (cs.getD k As.zero).a (Ce (B.getD k []) (R.getD (cs.getD k As.zero).b.toNat []))) (cs.getD k As.zero).b (Ce (B.getD k []) (R.getD (cs.getD k As.zero).a.toNat []))
 else if (cs.getD k As.zero).op=6 then ET (ET B (cs.getD k As.zero).a (BT (B.getD k []) (R.getD (cs.getD k As.zero).b.toNat []))) (cs.getD k As.zero).b (CL (Ce (BT (B.getD k []) (R.getD (cs.getD k As.zero).b.toNat [])) (R.getD k [])) 1000002)
 else if (cs.getD k As.zero).op=7 then ET B (cs.getD k As.zero).a (CL (B.getD k []) 1000002)else B
def Rq (cs:List As)(R:List Sr):Nat→List Sr→List Sr
 |0,B=>B
 |k+1,B=>Rq cs R k (ME cs R k B)
def Ku (os:List Int)(ws:List Int):Nat→List Sr→List Sr
 |0,B=>B
 |k+1,B=>(Ku os ws k B).set (os.getD k 0).toNat (((Ku os ws k B).getD (os.getD k 0).toNat []).set 0 (md (((Ku os ws k B).getD (os.getD k 0).toNat []).getD 0 0+ws.getD k 0)))
def IX (R:List Sr):List Sr:=R.map fun s=>List.replicate s.length 0
def HF (cs:List As)(R:List Sr)(os ws:List Int):List Sr:=Rq cs R cs.length (Ku os ws os.length (IX R))
section
variable {m:Nat} {cs:List As} {R B:List Sr} {os ws:List Int}
theorem GM (h:BZ m R):BZ m (IX R):=fun k hk=>by
 have hk':k<R.length:=by unfold IX at hk;simpa using hk
 have e:(IX R).getD k []=List.replicate (R.getD k []).length 0:=by unfold IX;simp[List.getD_eq_getElem?_getD,List.getElem?_map,hk']
 rw[e]
 exact⟨by rw[z5];exact(h k hk').1,Kf _⟩
@[simp] theorem D0:(IX R).length=R.length:=by simp[IX]
@[simp] theorem Di (k:Nat):(Ku os ws k B).length=B.length:=by
 induction k with
 |zero=>rfl
 |succ k ih=>show((Ku os ws k B).set _ _).length=_;rw[z6,ih]
theorem BZ.set {k:Nat}{s:Sr}(h:BZ m B)(hs:Cv m s):BZ m (B.set k s):=fun j hj=>by
 rw[z6]at hj
 by_cases e:j=k
 ·rw[e,DW _ _ _ _ _ zO,if_pos rfl];exact hs
 ·rw[show(B.set k s).getD j []=B.getD j []from by rw[List.getD_eq_getElem?_getD,List.getElem?_set_ne (fun h=>e h.symm),← List.getD_eq_getElem?_getD]];exact h j hj
theorem L1 {s:Sr}{y:Int}(h:AX s=true)(hy:0≤y∧y<1000003):AX (s.set 0 y)=true:=by
 cases s with
 |nil=>rfl
 |cons x s =>
  rw[List.set_cons_zero]
  unfold AX at h ⊢
  rw[List.all_cons]at h ⊢
  have:=Bool.and_eq_true_iff.1 h
  rw[this.2,Bool.and_true]
  exact CI.2 hy
theorem G3 (h:BZ m B)(ho:∀k,k<os.length→(os.getD k 0).toNat<B.length):∀k,k≤os.length→BZ m (Ku os ws k B)
 |0,_=>h
 |k+1,hk=>by
  have ih:=G3 h ho k zO
  have h9:=ih (os.getD k 0).toNat (by rw[Di];exact ho k zO)
  exact ih.set ⟨by rw[z6];exact h9.1,L1 h9.2<|Ck _⟩
@[simp] theorem C5 {r:Int}{s:Sr}:(ET B r s).length=B.length:=by unfold ET;rw[z6]
theorem CC {r:Int}{s:Sr}(h:BZ m B)(hr:r.toNat<B.length):BZ m (ET B r s):=h.set (Hf (h _ hr))
theorem M4 (k:Nat):(ME cs R k B).length=B.length:=by
 unfold ME
 split
 ·rw[C5,C5]
 ·split
  ·rw[C5,C5]
  ·split
   ·rw[C5,C5]
   ·split
    ·rw[C5,C5]
    ·split
     ·rw[C5]
     ·rfl
theorem E6 {ni k:Nat}(h:BZ m B)(hk:k≤B.length)(hf:DN ni k (cs.getD k As.zero)):BZ m (ME cs R k B):=by
 have h2:=fun h9=>hf.i2 h9
 have h7:=fun h9=>hf.i7 h9
 unfold ME
 split
 ·have:=h2 (by omega);exact CC (CC h zO) (by rw[C5];omega)
 ·split
  ·have:=h2 (by omega);exact CC (CC h zO) (by rw[C5];omega)
  ·split
   ·have:=h2 (by omega);exact CC (CC h zO) (by rw[C5];omega)
   ·split
    ·have:=h2 (by omega);exact CC (CC h zO) (by rw[C5];omega)
    ·split
     ·have:=h7 (by omega);exact CC h zO
     ·exact h
theorem Rr:∀(n:Nat)(B:List Sr),(Rq cs R n B).length=B.length
 |0,_=>rfl
 |n+1,B=>by show(Rq cs R n _).length=_;rw[Rr n,M4]
theorem Rt {ni:Nat}(hf:∀k,k<cs.length→DN ni k (cs.getD k As.zero)):∀(n:Nat)(B:List Sr),n≤cs.length→n≤B.length→BZ m B→BZ m (Rq cs R n B)
 |0,_,_,_,h=>h
 |n+1,B,hn,hb,h=>Rt hf n _ zO (by rw[M4];omega) (E6 h zO (hf n zO))
theorem MF {k:Nat}(h:(cs.getD k As.zero).op=3):ME cs R k B=ET (ET B (cs.getD k As.zero).a (B.getD k [])) (cs.getD k As.zero).b (B.getD k []):=if_pos h
theorem NU {k:Nat}(h:(cs.getD k As.zero).op=4):ME cs R k B=ET (ET B (cs.getD k As.zero).a (B.getD k [])) (cs.getD k As.zero).b (CL (B.getD k []) 1000002):=by unfold ME;rw[if_neg zO,if_pos h]
theorem MG {k:Nat}(h:(cs.getD k As.zero).op=5):ME cs R k B=ET (ET B (cs.getD k As.zero).a (Ce (B.getD k []) (R.getD (cs.getD k As.zero).b.toNat []))) (cs.getD k As.zero).b (Ce (B.getD k []) (R.getD (cs.getD k As.zero).a.toNat [])):=by unfold ME;rw[if_neg zO,if_neg zO,if_pos h]
theorem NV {k:Nat}(h:(cs.getD k As.zero).op=6):ME cs R k B=ET (ET B (cs.getD k As.zero).a (BT (B.getD k []) (R.getD (cs.getD k As.zero).b.toNat []))) (cs.getD k As.zero).b (CL (Ce (BT (B.getD k []) (R.getD (cs.getD k As.zero).b.toNat [])) (R.getD k [])) 1000002):=by
 unfold ME;rw[if_neg zO,if_neg zO,if_neg zO,if_pos h]
theorem NW {k:Nat}(h:(cs.getD k As.zero).op=7):ME cs R k B=ET B (cs.getD k As.zero).a (CL (B.getD k []) 1000002):=by unfold ME;rw[if_neg zO,if_neg zO,if_neg zO,if_neg zO,if_pos h]
theorem NX {k:Nat}(h:(cs.getD k As.zero).op<3∨7<(cs.getD k As.zero).op):ME cs R k B=B:=by unfold ME;rw[if_neg zO,if_neg zO,if_neg zO,if_neg zO,if_neg (by omega)]
theorem Dm {n k:Nat}{D B':List Sr}(h:Rq cs R n B=D)(hn:n=k+1)(hi:ME cs R k B=B'):Rq cs R k B'=D:=by
 subst hn
 rw[← hi];exact h
end
theorem Om {e:TypeId}{H:Array Obj}{v:Value}{us:List Value}{F:List Nat}(h:Bp rV e H v us F)(hl:0<us.length):∃g cap,F=[g]∧v=.slice (some ⟨g,0,none⟩) us.length cap∧∀k,k<us.length→If H (Ay v k 1)=some (us.getD k undef):=by
 rcases h with⟨_,rfl,_⟩|⟨vs,g,cap,cur,F',hels,rfl,hg,r1,r2,r3,r4,rfl⟩
 ·simp at hl
 ·obtain⟨rfl,rfl⟩:=FV hels
  refine⟨g,cap,rfl,rfl,fun k hk=>?_⟩
  have hu:vs[k]? = some (vs.getD k undef):=by simp[List.getD_eq_getElem?_getD,hk]
  rw[Hu]
  simp only[If,C7,hg,Nat.zero_add]
  rw[← r4,List.getElem?_take,if_pos hk]at hu
  rw[r4]at hu
  simpa using hu
section
variable {e:TypeId} {B:Nat} {w w':World} {v:Value} {xs:List (List Int)} {us:List Value} {F:List Nat}
theorem Hy.getF {S:List Nat}{H:Array Obj}(h:Hy e S B H v xs us F){k:Nat}(hk:k<xs.length):∃u,If H (Ay v k 1)=some u∧RN (S++F) (B4 rI) H u (xs.getD k []):=by
 obtain⟨g,cap,_,_,h3⟩:=Om h.own (by rw[h.len];omega)
 exact⟨_,h3 k (by rw[h.len];exact hk),h.els k hk⟩
theorem Hy.ofFr {S:List Nat}{e1:TypeId}{U:Nat}{H:Array Obj}(h:Fr (Bp (Bp rI e1) e) B U H v xs)(hS:∀b∈S,b<B):∃us F,Hy e S B H v xs us F∧∀b∈F,b<U:=by
 obtain⟨F,h1,h2,h3⟩:=h
 rcases h1 with⟨rfl,rfl,rfl⟩|⟨us,g,cap,cur,F',hels,rfl,hg,r1,r2,r3,r4,rfl⟩
 ·exact⟨[],[],⟨.inl ⟨rfl,rfl,rfl⟩,zk,(fun b hb=>absurd hb z2),rfl,(fun k hk=>absurd hk (Nat.not_lt_zero k))⟩,(fun b hb=>absurd hb z2)⟩
 ·have hl:=hels.length
  have hn:=List.nodup_cons.1 h2
  refine⟨us,[g],⟨.inr ⟨us,g,cap,cur,[],Mc (hels.cells1 o1),by rw[hl],hg,zO,r2,r3,by rw[hl];exact r4,rfl⟩,by simp,fun b hb=>?_,hl,fun k hk=>?_⟩,fun b hb=>?_⟩
  ·have:=h3 b (by rw[A9 hb];exact z0 ..);omega
  ·obtain⟨u,G,hu,q1,q2,q3,_⟩:=hels.at_ (k:=k) [] hk hn.2
   have e1:us.getD k undef=u:=by simp[List.getD_eq_getElem?_getD,hu]
   rw[e1]
   exact⟨G,q1.rd id,fun b hb hm=>by
    have hb':=q3 b hb
    rcases zi.1 hm with hm|hm
    ·have h8:=hS b hm
     have h9:=(h3 b<|z3 _ hb').1
     omega
    ·rw[A9 hm]at hb'
     exact hn.1 hb'⟩
  ·exact (h3 b (by rw[A9 hb];exact z0 ..)).2
end
section ops
variable {P:Program} {ops:Array Oper} {w0:World} {Q:Act→World→Prop} {os:List Oper} {ks:List Nat} {N:Nat} {ρ:Nat→Value} {w:World}
 {d:Nat} {ty:TypeId} {pos:String} {aft:Array Edge} {g:Option (Nat×Bool)} {t e:TypeId} {z:Value} {b:Nat}
theorem FJ {S:List Nat}{st:TypeId}{x y:Operand}{v u:Value}{xs:List (List Int)}{r:List Int}{us:List Value}{F:List Nat}{B j:Nat}(hst:(P.info? st).map (·.size)=some 1)(hx:Bz N ρ x=Ay v j 1)(hy:Bz N ρ y=u)
  (hv:Hy e S B w.heap v xs us F) (hr:RN (S++F) (B4 rI) w.heap u r) (hj:j<xs.length) (hu:Up ops N ρ ⟨none,.store st x y,ty,pos,aft,g⟩)
  (h:∀w1,At F w w1→w1.heap.size=w.heap.size→Hy e S B w1.heap v (xs.set j r) (us.set j u) F→LW P ops w0 Q os ks (mk N ρ) w1) :
  LW P ops w0 Q (⟨none,.store st x y,ty,pos,aft,g⟩::os) (4::ks) (mk N ρ) w:=by
 obtain⟨g0,cap,hF,hvv,_⟩:=Om hv.own (by rw[hv.len];omega)
 have hone:=hr.one1 g1
 obtain⟨w1,F',q1,q2,q3,q4,q5,q6⟩:=QL (P:=P) Bv hst hv.own hv.nd (by rw[hv.len];exact hj) (u:=u) (y:=u) (G:=[]) ⟨rfl,rfl,hone.1,hone.2⟩ zk (fun b hb=>by cases hb)
 obtain⟨g2,cap2,hF2,hvv2,_⟩:=Om q2 (by rw[z6,hv.len];omega)
 have hg:g2=g0:=by
  rw[hvv]at hvv2
  injection hvv2 with h1 _ _
  injection h1 with h1
  injection h1 with h1 _ _
  exact h1.symm
 have hFF:F'=F:=by rw[hF2,hF,hg]
 subst hFF
 have hc:At F' w w1:=q5.sub fun x hx=>zj hx
 refine SL rfl hu w1 (Hw hx hy q1)<|h w1 hc q6 ⟨q2,hv.nd,hv.low,by rw[z6,z6];exact hv.len,fun k hk=>?_⟩
 rw[z6]at hk
 have hku:k<us.length:=by rw[hv.len];exact hk
 rw[DW _ _ _ _ _ (by rw[hv.len];exact hj),DW _ _ _ _ _ hj]
 have hcS:At (S++F') w w1:=hc.sub fun b hb=>z1 _ hb
 by_cases ek:k=j
 ·rw[if_pos ek,if_pos ek];exact hr.chg g1 hcS
 ·rw[if_neg ek,if_neg ek]
  exact (hv.els k hk).chg g1 hcS
theorem X7 {st e':TypeId}{x y:Operand}{v u:Value}{n:Int}{xs:List (List Int)}{B T r j:Nat}{F:List Nat}(hst:(P.info? st).map (·.size)=some 1)(hx:Bz N ρ x=Ay u j 1)(hy:Bz N ρ y=.int .i64 n)(hn:-9223372036854775808≤n∧n≤9223372036854775807)
  (hv:Ow (Bp (Bp rI e) e') B T w.heap v xs F) (hr:r<xs.length) (hl:If w.heap (Ay v r 1)=some u) (hj:j<(xs.getD r []).length) (hu:Up ops N ρ ⟨none,.store st x y,ty,pos,aft,g⟩)
  (h:∀w1 G,At G w w1→w1.heap.size=w.heap.size→(∀c∈G,c∈F)→Ow (Bp (Bp rI e) e') B T w1.heap v (xs.set r ((xs.getD r []).set j n)) F→LW P ops w0 Q os ks (mk N ρ) w1) :
  LW P ops w0 Q (⟨none,.store st x y,ty,pos,aft,g⟩::os) (4::ks) (mk N ρ) w:=by
 obtain⟨hown,hnd,hlow,hhigh⟩:=hv
 rcases hown with⟨_,rfl,_⟩|⟨us,g0,cap,cur,F',hels,rfl,hg,r1,r2,r3,r4,rfl⟩
 ·simp at hr
 ·have hc:=List.nodup_cons.1 hnd
  obtain⟨u',G,q0,q1,q2,q3,q4⟩:=hels.at_ (k:=r) [] hr hc.2
  have hlen:=hels.length
  have hu':u'=u:=by
   rw[Hu]at hl
   simp only[If,C7,hg,Nat.zero_add]at hl
   rw[← r4,List.getElem?_take,if_pos hr]at q0
   have:some u'=some u:=by rw[← q0,← hl];simp
   exact Option.some.inj this
  subst hu'
  obtain⟨w1,p1,p2,p3,p4⟩:=SS (P:=P) hst q1 q2 hj hn
  have hgG:g0∉G:=fun hm=>hc.1 (q3 g0 hm)
  refine SL rfl hu w1 (Hw hx hy p1)<|h w1 G p3 p4 (fun c hm=>z3 _<|q3 c hm) ⟨.inr ⟨us,g0,cap,cur,F',?_,by rw[z6],?_,by rw[z6];exact r1,r2,r3,by rw[z6];exact r4,rfl⟩,hnd,hlow,hhigh⟩
  ·exact q4 (fun hE hC=>o1.stable hE fun b hb=>p3.block b (o1.lt hE b hb) (hC b hb).2) p2
  ·have hlt:g0<w.heap.size:=(Array.getElem?_eq_some_iff.1 hg).1
   rw[p3.block g0 hlt hgG];exact hg
end ops
section
variable {e1 e:TypeId} {B T:Nat} {w:World} {v:Value} {xs:List (List Int)} {F:List Nat}
theorem Ow.rowO (h:Ow (Bp (Bp rI e1) e) B T w.heap v xs F){k:Nat}(hk:k<xs.length):∃u,If w.heap (Ay v k 1)=some u∧Rd (B4 rI) w.heap u (xs.getD k []):=by
 obtain⟨u,G,q0,q1,_⟩:=h.fr.row o1 [] hk
 exact⟨u,q0,G,q1.rd id⟩
theorem Ow.slO {H:Array Obj}(h:Ow (Bp (Bp rI e1) e) B T H v xs F):FU v xs.length:=(Bp.rd id h.own:B4 (Bp rI e1) H v xs F).isSl
theorem Hy.ofOw {S:List Nat}(h:Ow (Bp (Bp rI e1) e) B T w.heap v xs F)(hS:∀b∈S,b<B):∃us F',Hy e S B w.heap v xs us F'∧∀b∈F',b∈F:=by
 obtain⟨h1,h2,h3,h4⟩:=h
 rcases h1 with⟨rfl,rfl,rfl⟩|⟨us,g,cap,cur,F',hels,rfl,hg,r1,r2,r3,r4,rfl⟩
 ·exact⟨[],[],⟨.inl ⟨rfl,rfl,rfl⟩,zk,(fun b hb=>absurd hb z2),rfl,(fun k hk=>absurd hk (Nat.not_lt_zero k))⟩,(fun b hb=>absurd hb z2)⟩
 ·have hl:=hels.length
  have hn:=List.nodup_cons.1 h2
  refine⟨us,[g],⟨.inr ⟨us,g,cap,cur,[],Mc (hels.cells1 o1),by rw[hl],hg,zO,r2,r3,by rw[hl];exact r4,rfl⟩,by simp,fun b hb=>?_,hl,fun k hk=>?_⟩,fun b hb=>?_⟩
  ·exact h3 b (by rw[A9 hb];exact z0 ..)
  ·obtain⟨u,G,hu,q1,q2,q3,_⟩:=hels.at_ (k:=k) [] hk hn.2
   have e1:us.getD k undef=u:=by simp[List.getD_eq_getElem?_getD,hu]
   rw[e1]
   exact⟨G,q1.rd id,fun b hb hm=>by
    have hb':=q3 b hb
    rcases zi.1 hm with hm|hm
    ·have h8:=hS b hm
     have h9:=h3 b<|z3 _ hb'
     omega
    ·rw[A9 hm]at hb'
     exact hn.1 hb'⟩
  ·rw[A9 hb];exact z0 ..
end
theorem Uj {R:List Sr}{k:Nat}(hk:k<R.length):IX (R.take k)++[List.replicate (R.getD k []).length 0]=IX (R.take (k+1)):=by
 unfold IX
 rw[D6 [] hk,List.map_append];rfl
end
section
def Ru (cs:List As)(L:List Sr):Nat→List Sr→List Sr
 |0,B=>B
 |k+1,B=>if (cs.getD k As.zero).op=1 then ET (Ru cs L k B) (cs.getD k As.zero).num (L.getD k [])else Ru cs L k B
def Ul (ni m:Nat)(cs:List As)(L:List Sr):List Sr:=Ru cs L cs.length (List.replicate ni (List.replicate m 0))
section
variable {m ni:Nat} {cs:List As} {L B:List Sr}
theorem Lr {k:Nat}(h:(cs.getD k As.zero).op=1):Ru cs L (k+1) B=ET (Ru cs L k B) (cs.getD k As.zero).num (L.getD k []):=if_pos h
theorem Ls {k:Nat}(h:(cs.getD k As.zero).op≠1):Ru cs L (k+1) B=Ru cs L k B:=if_neg h
@[simp] theorem HG (k:Nat):(Ru cs L k B).length=B.length:=by
 induction k with
 |zero=>rfl
 |succ k ih =>
  by_cases h:(cs.getD k As.zero).op=1
  ·rw[Lr h,C5,ih]
  ·rw[Ls h,ih]
theorem IT (m ni:Nat):BZ m (List.replicate ni (List.replicate m 0)):=fun k hk=>by
 rw[z5]at hk
 have e:(List.replicate ni (List.replicate m (0:Int))).getD k []=List.replicate m 0:=by simp[List.getD_eq_getElem?_getD,hk]
 rw[e]
 exact⟨z5,Kf _⟩
theorem Kv (hf:∀k,k<cs.length→DN B.length k (cs.getD k As.zero))(h:BZ m B):∀k,k≤cs.length→BZ m (Ru cs L k B)
 |0,_=>h
 |k+1,hk=>by
  have ih:=Kv hf h k zO
  by_cases h1:(cs.getD k As.zero).op=1
  ·rw[Lr h1]
   have:=(hf k zO).i1 h1
   exact CC ih (by rw[HG];omega)
  ·rw[Ls h1];exact ih
theorem Rv (hf:∀k,k<cs.length→DN ni k (cs.getD k As.zero)):BZ m (Ul ni m cs L):=Kv (fun k hk=>by rw[z5];exact hf k hk) (IT m ni) _ (A7 _)
@[simp] theorem Rw:(Ul ni m cs L).length=ni:=by unfold Ul;rw[HG,z5]
end
end
section
def DI (A:List Sr):List Int:=A.map fun s=>s.getD 0 0
section
variable {m:Nat} {A:List Sr} {T:Tp} {xs:List Int}
@[simp] theorem DJ:(DI A).length=A.length:=by simp[DI]
theorem Ss (h:BZ m A):Qi m (DI A) A:=⟨DJ.symm,fun i hi=>h i (by rw[DJ]at hi;exact hi),fun i hi=>by
 rw[DJ]at hi
 unfold DI
 rw[Ci (d:=[]) hi]⟩
theorem DH.regs (h:DH m A T):BZ m (Be m A T.code):=fun k hk=>(h.ser k (by rw[BS]at hk;exact hk)).1
theorem DH.outs (h:DH m A T)(hE:Gj T xs):∀k,k<xs.length→0≤xs.getD k 0∧xs.getD k 0<((T.code.length:Nat):Int):=fun k hk=>by have:=hE k hk;have:=h.cl;omega
theorem DH.adj (h:DH m A T)(hE:Gj T xs){ws:List Int}:BZ m (HF T.code (Go.Proofs.YtjnbnlniafmblaaGreat.Be m A T.code) xs ws):=by
 have ho:=h.outs hE
 refine Rt (ni:=A.length) h.form _ _ (A7 _) (by rw[Di,D0,BS];exact A7 _)<|G3 (GM h.regs) (fun q hq=>?_) _<|A7 _
 have:=ho q hq
 rw[D0,BS];omega
theorem Pv {cs:List As}{R:List Sr}{os ws:List Int}:(HF cs R os ws).length=R.length:=by unfold HF;rw[Rr,Di,D0]
end
end
section
section
variable {m:Nat} {a b c:Sr}
theorem Rx (ha:Cv m a){k:Nat}(hk:k<m):(Cq a b).getD k 0=md (a.getD k 0+b.getD k 0):=by unfold Cq;exact C8 _ (by rw[ha.1];exact hk)
theorem Ry (ha:Cv m a){y:Int}{k:Nat}(hk:k<m):(CL a y).getD k 0=md (a.getD k 0*y):=by unfold CL;exact C8 _ (by rw[ha.1];exact hk)
end
end
section
theorem fq {f:Nat→Int}:∀ {n:Nat},(∀i,i<n→f i=0)→sm n f=0
 |0,_=>rfl
 |n+1,h=>by unfold sm;rw[fq (n:=n) fun i hi=>h i zO,h n (by omega)];rfl
section
variable {N N':Nat} {f f' g g':Nat→Int} {a b:Sr}
theorem EN.mono (h:EN N f g)(hN:N'≤N):EN N' f g:=fun k hk=>h k zO
theorem EN.neg (hf:EN N f f'):EN N (fun k=>- f k) (fun k=>- f' k):=fun k hk=>by rw[← KQ,hf k hk,KQ]
theorem EN.eq (h:∀k,k<N→f k=g k):EN N f g:=fun k hk=>by rw[h k hk]
theorem Um (ha:Cv N a):EN N (DF (CL a 1000002)) (fun k=>- DF a k):=EN.trans (fo (y:=1000002) ha) fun k _=>by
 show md (1000002*DF a k)=md (- DF a k)
 unfold md;omega
def Lo (r:Nat)(f:Nat→Int):Prop:=EN r f Lu
theorem Lo.mono {r r':Nat}(h:Lo r f)(hr:r'≤r):Lo r' f:=EN.mono h hr
theorem Lo.of {r:Nat}(h:EN r f g)(hg:Lo r g):Lo r f:=EN.trans h hg
theorem Lo.add {r:Nat}(h:Lo r f)(hg:Lo r g):Lo r fun k=>f k+g k:=(EN.add h hg).trans fun k _=>rfl
theorem Lo.sub {r:Nat}(h:Lo r f)(hg:Lo r g):Lo r fun k=>f k-g k:=(EN.sub h hg).trans fun k _=>rfl
theorem Lo.neg {r:Nat}(h:Lo r f):Lo r fun k=>- f k:=fun k hk=>by
 have:=h k hk
 show md (- f k)=md 0
 rw[← KQ,this];rfl
theorem Lo.cvl {r:Nat}(h:Lo r f)(g:Nat→Int):Lo r (cv f g):=(EN.cv h (EN.rfl' g)).trans fun k _=>by rw[GI];rfl
theorem Lo.cvr {r:Nat}(g:Nat→Int)(h:Lo r f):Lo r (cv g f):=fun k hk=>by rw[DO];exact h.cvl g k hk
theorem Lo.cv2 {r s:Nat}(h:Lo r f)(hg:Lo s g):Lo (r+s) (cv f g):=fun k hk=>by
 rw[Lm]
 have e:md (sm (k+1) fun i=>f i*g (k-i))=md (sm (k+1) fun _=>0):=NF fun i hi=>by
  by_cases h1:i<r
  ·rw[← Dt,h i h1]
   show md (md 0*_)=_
   rw[FW,Int.zero_mul]
  ·rw[← Dt,hg (k-i) (by omega)]
   show md (_*md 0)=_
   rw[FX,Int.mul_zero]
 rw[e,fq fun _ _=>rfl];rfl
theorem Kw (f g g':Nat→Int)(k:Nat):cv f (fun i=>g i-g' i) k=cv f g k-cv f g' k:=by rw[DO,R2,DO g,DO g']
theorem Rz (f g:Nat→Int)(k:Nat):cv f (fun i=>- g i) k = - cv f g k:=by
 have e:(fun i=>- g i)=fun i=>(-1)*g i:=funext fun i=>by omega
 rw[e,Pc];omega
theorem On (f g:Nat→Int)(k:Nat):cv (fun i=>- f i) g k = - cv f g k:=by rw[DO,Rz,DO]
theorem Lo.div {r:Nat}(hd:∃e:Int,md (g 0*e)=1)(h:Lo r (cv f g)):Lo r f:=Q5 hd (h.trans fun k _=>by rw[GI];rfl)
end
section
variable {N m n:Nat} {B:List Sr} {v v':Nat→Nat→Int}
theorem Qj {f g:Nat→Int}{i:Nat}:∀ {n:Nat},i<n→(∀j,j<n→j≠i→f j=g j)→sm n f=sm n g+(f i-g i)
 |0,h,_=>absurd h (Nat.not_lt_zero i)
 |n+1,hi,h=>by
  show sm n f+f n=sm n g+g n+_
  by_cases e:i=n
  ·subst e
   rw[Fz fun j hj=>h j zO (by omega)];omega
  ·rw[Qj (n:=n) zO fun j hj he=>h j zO he,h n zO (fun h=>e h.symm)];omega
theorem aX {i:Nat}(hi:i<n)(h:∀j,j<n→j≠i→v j=v' j)(t:Nat):Hr n v B t=Hr n v' B t+(cv (DF (B.getD i [])) (v i) t-cv (DF (B.getD i [])) (v' i) t):=by
 unfold Hr
 exact Qj (f:=fun j=>cv (DF (B.getD j [])) (v j) t) (g:=fun j=>cv (DF (B.getD j [])) (v' j) t) hi fun j hj he=>by rw[h j hj he]
theorem RA {i:Nat}{s:Sr}{d:Nat→Int}(hi:i<n)(hb:i<B.length)(h:EN N (DF s) fun t=>DF (B.getD i []) t+d t):EN N (Hr n v (B.set i s)) fun t=>Hr n v B t+cv d (v i) t:=fun t ht=>by
 have e:Hr n v (B.set i s) t=Hr n v B t+(cv (DF s) (v i) t-cv (DF (B.getD i [])) (v i) t):=by
  unfold Hr
  have:=Qj (f:=fun j=>cv (DF ((B.set i s).getD j [])) (v j) t) (g:=fun j=>cv (DF (B.getD j [])) (v j) t) hi fun j hj he=>by rw[DW _ _ _ _ _ hb,if_neg he]
  rw[this,DW _ _ _ _ _ hb,if_pos rfl]
 have h2:md (cv (DF s) (v i) t)=md (cv (DF (B.getD i [])) (v i) t+cv d (v i) t):=by
  rw[EN.cv h (EN.rfl' (v i)) t ht,LO]
 show md _=md (Hr n v B t+cv d (v i) t)
 rw[e,← GG,← GR,h2,GR,GG]
 congr 1;omega
theorem M5 {r:Int}{s:Sr}(hB:BZ m B)(hN:N≤m)(hr:r.toNat<n)(hb:r.toNat<B.length):EN N (Hr n v (ET B r s)) fun t=>Hr n v B t+cv (DF s) (v r.toNat) t :=
 RA hr hb (EN.mono (Zr (hB _ hb)) hN)
theorem Pw (h:∀j,j<n→∀t,DF (B.getD j []) t=0)(t:Nat):Hr n v B t=0:=by
 unfold Hr
 refine fq fun j hj=>?_
 rw[show DF (B.getD j [])=Lu from funext fun t=>h j hj t,GI]
end
structure aY (N:Nat)(cs:List As)(R:List Sr)(z D:Nat→Nat→Int):Prop where
 t1:∀k,k<cs.length→(cs.getD k As.zero).op=1→EN N (D k) (z (cs.getD k As.zero).num.toNat)
 t2:∀k,k<cs.length→(cs.getD k As.zero).op=2→EN N (D k) Lu
 t3:∀k,k<cs.length→(cs.getD k As.zero).op=3→EN N (D k) fun t=>D (cs.getD k As.zero).a.toNat t+D (cs.getD k As.zero).b.toNat t
 t4:∀k,k<cs.length→(cs.getD k As.zero).op=4→EN N (D k) fun t=>D (cs.getD k As.zero).a.toNat t-D (cs.getD k As.zero).b.toNat t
 t5:∀k,k<cs.length→(cs.getD k As.zero).op=5→EN N (D k) fun t=>cv (DF (R.getD (cs.getD k As.zero).b.toNat [])) (D (cs.getD k As.zero).a.toNat) t+cv (DF (R.getD (cs.getD k As.zero).a.toNat [])) (D (cs.getD k As.zero).b.toNat) t
 t6:∀k,k<cs.length→(cs.getD k As.zero).op=6→EN N (cv (DF (R.getD (cs.getD k As.zero).b.toNat [])) (D k)) fun t=>D (cs.getD k As.zero).a.toNat t-cv (DF (R.getD k [])) (D (cs.getD k As.zero).b.toNat) t
 t7:∀k,k<cs.length→(cs.getD k As.zero).op=7→EN N (D k) fun t=>- D (cs.getD k As.zero).a.toNat t
def FB (cs:List As)(D:Nat→Nat→Int)(n k:Nat):Nat→Int:=if k<n∨(cs.getD k As.zero).op=1 then D k else Lu
section
variable {N m ni:Nat} {cs:List As} {R B:List Sr} {z D:Nat→Nat→Int} {os ws:List Int}
theorem HI {n k:Nat}(h:k<n):FB cs D n k=D k:=if_pos (.inl h)
theorem Un {n k:Nat}(h:(cs.getD k As.zero).op=1):FB cs D n k=D k:=if_pos (.inr h)
theorem Y0 {n k:Nat}(h:n≤k)(h1:(cs.getD k As.zero).op≠1):FB cs D n k=Lu:=if_neg zO
theorem aZ (hT:aY N cs R z D)(hN:N≤m)(hR:BZ m R)(hRl:R.length=cs.length)(hB:BZ m B)(hl:B.length=cs.length){k:Nat}(hk:k<cs.length)(hf:DN ni k (cs.getD k As.zero))
  (hd:(cs.getD k As.zero).op=6→(R.getD (cs.getD k As.zero).b.toNat []).getD 0 0≠0) :
  EN N (Hr cs.length (FB cs D k) (ME cs R k B)) (Hr cs.length (FB cs D (k+1)) B):=by
 have hBk:=hB k zO
 by_cases h1:(cs.getD k As.zero).op=1
 ·rw[NX (by omega)]
  have e:Hr cs.length (FB cs D k) B=Hr cs.length (FB cs D (k+1)) B:=funext fun t=>by
   unfold Hr
   refine Fz fun j hj=>?_
   by_cases e:j=k
   ·subst e;rw[Un h1,Un h1]
   ·by_cases e2:j<k
    ·rw[HI e2,HI (by omega)]
    ·unfold FB
     by_cases e3:(cs.getD j As.zero).op=1
     ·rw[if_pos (.inr e3),if_pos (.inr e3)]
     ·rw[if_neg zO,if_neg (by omega)]
  rw[e];exact EN.rfl' _
 have hup:Hr cs.length (FB cs D (k+1)) B=fun t=>Hr cs.length (FB cs D k) B t+cv (DF (B.getD k [])) (D k) t:=funext fun t=>by
  rw[aX (v:=FB cs D (k+1)) (v':=FB cs D k) hk (fun j hj he=>?_) t,HI (Nat.lt_succ_self k),Y0 (A7 k) h1,DO _ Lu,GI]
  ·omega
  ·by_cases e2:j<k
   ·rw[HI e2,HI (by omega)]
   ·unfold FB
    by_cases e3:(cs.getD j As.zero).op=1
    ·rw[if_pos (.inr e3),if_pos (.inr e3)]
    ·rw[if_neg zO,if_neg (by omega)]
 rw[hup]
 have two:∀ {ra rb:Int} {sa sb:Sr},ra.toNat<k→rb.toNat<k→EN N (fun t=>cv (DF sa) (D ra.toNat) t+cv (DF sb) (D rb.toNat) t) (cv (DF (B.getD k [])) (D k)) →
   EN N (Hr cs.length (FB cs D k) (ET (ET B ra sa) rb sb)) fun t=>Hr cs.length (FB cs D k) B t+cv (DF (B.getD k [])) (D k) t:=fun {ra rb sa sb} ha hb h=>by
  have q1:=M5 (v:=FB cs D k) (s:=sa) (n:=cs.length) hB hN (r:=ra) zO zO
  have q2:=M5 (v:=FB cs D k) (s:=sb) (n:=cs.length) (CC (s:=sa) hB (r:=ra) zO) hN (r:=rb) zO (by rw[C5];omega)
  rw[HI ha]at q1
  rw[HI hb]at q2
  refine q2.trans<|EN.trans (EN.add q1<|EN.rfl' _) ?_
  refine EN.trans (EN.eq fun t _=>?_)<|EN.add (EN.rfl'<|Hr cs.length (FB cs D k) B) h
  exact Int.add_assoc _ _ _
 have b2:=fun h=>hf.i2 h
 have b7:=fun h=>hf.i7 h
 by_cases h3:(cs.getD k As.zero).op=3
 ·rw[MF h3]
  have:=b2 zO
  refine two zO zO ?_
  refine EN.trans (EN.eq fun t _=>?_)<|EN.cv (EN.rfl' _) (hT.t3 k hk h3).symm
  rw[LP]
 by_cases h4:(cs.getD k As.zero).op=4
 ·rw[NU h4]
  have:=b2 zO
  refine two zO zO ?_
  refine EN.trans (EN.add (EN.rfl' _)<|EN.cv (EN.mono (Um hBk) hN)<|EN.rfl' _) ?_
  refine EN.trans (EN.eq fun t _=>?_)<|EN.cv (EN.rfl' _) (hT.t4 k hk h4).symm
  rw[Kw,On];omega
 by_cases h5:(cs.getD k As.zero).op=5
 ·rw[MG h5]
  have:=b2 zO
  refine two zO zO ?_
  refine EN.trans (EN.add (EN.cv (EN.mono (To hBk) hN)<|EN.rfl' _)<|EN.cv (EN.mono (To hBk) hN)<|EN.rfl' _) ?_
  refine EN.trans (EN.eq fun t _=>?_)<|EN.cv (EN.rfl' _) (hT.t5 k hk h5).symm
  rw[LP,Ij,Ij]
 by_cases h6:(cs.getD k As.zero).op=6
 ·rw[NV h6]
  have:=b2 zO
  have hRb:=hR (cs.getD k As.zero).b.toNat zO
  refine two zO zO ?_
  have hq:=Z5 hBk hRb<|hd h6
  refine EN.trans (EN.add (EN.rfl' _)<|EN.cv (EN.mono (EN.trans (Um<|Hg<|Gi hBk)<|EN.neg<|To<|Gi hBk) hN)<|EN.rfl' _) ?_
  refine EN.trans ?_<|EN.cv (EN.mono hq hN)<|EN.rfl' _
  refine EN.trans ?_<|EN.trans (EN.cv (EN.rfl'<|DF<|BT (B.getD k [])<|R.getD (cs.getD k As.zero).b.toNat []) (hT.t6 k hk h6).symm) (EN.eq fun t _=>(Ij _ _ _ t).symm)
  refine EN.eq fun t _=>?_
  rw[On,Kw,Ij];omega
 by_cases h7:(cs.getD k As.zero).op=7
 ·rw[NW h7]
  have:=b7 h7
  have q1:=M5 (v:=FB cs D k) (s:=CL (B.getD k []) 1000002) (n:=cs.length) hB hN (r:=(cs.getD k As.zero).a) zO zO
  rw[HI (by omega)]at q1
  refine q1.trans<|EN.add (EN.rfl' _) ?_
  refine EN.trans (EN.cv (EN.mono (Um hBk) hN)<|EN.rfl' _)<|EN.trans (EN.eq fun t _=>?_)<|EN.cv (EN.rfl' _) (hT.t7 k hk h7).symm
  rw[Rz,On]
 have h2:(cs.getD k As.zero).op=2:=by unfold DN at hf;omega
 rw[NX (by omega)]
 refine EN.trans (EN.eq fun t _=>?_)<|EN.add (EN.rfl' _)<|EN.cv (EN.rfl' _) (hT.t2 k hk h2).symm
 rw[DO,GI,Int.add_zero]
theorem Y1 (hT:aY N cs R z D)(hN:N≤m)(hR:BZ m R)(hRl:R.length=cs.length)(hf:∀k,k<cs.length→DN ni k (cs.getD k As.zero))
  (hd:∀k,k<cs.length→(cs.getD k As.zero).op=6→(R.getD (cs.getD k As.zero).b.toNat []).getD 0 0≠0) :
  ∀(n:Nat) (B:List Sr),n≤cs.length→BZ m B→B.length=cs.length→EN N (Hr cs.length (FB cs D 0) (Rq cs R n B)) (Hr cs.length (FB cs D n) B)
 |0,B,_,_,_=>EN.rfl' _
 |n+1,B,hn,hB,hl=>by
  show EN N (Hr cs.length (FB cs D 0) (Rq cs R n (ME cs R n B))) _
  exact (Y1 hT hN hR hRl hf hd n _ zO (E6 hB zO<|hf n zO) (by rw[M4,hl])).trans<|aZ hT hN hR hRl hB hl zO (hf n zO)<|hd n zO
theorem RB {L B0:List Sr}(hT:aY N cs R z D)(hN:N≤m)(hB:BZ m B0)(hl:B0.length=ni)(hf:∀k,k<cs.length→DN ni k (cs.getD k As.zero)) :
  ∀n,n≤cs.length→EN N (Hr ni z (Ru cs L n B0)) fun t=>Hr ni z B0 t+sm n fun k=>cv (DF (L.getD k [])) (FB cs D 0 k) t
 |0,_=>fun t _=>by show _=md (_+0);rw[Int.add_zero];rfl
 |n+1,hn=>by
  have ih:=RB (L:=L) hT hN hB hl hf n zO
  by_cases h1:(cs.getD n As.zero).op=1
  ·rw[Lr h1]
   have hi:=(hf n zO).i1 h1
   refine (M5 (Kv (fun k hk=>by rw[hl];exact hf k hk) hB n zO) hN zO (by rw[HG];omega)).trans ?_
   refine (EN.add ih<|EN.cv (EN.rfl' _) (hT.t1 n zO h1).symm).trans (EN.eq fun t _=>?_)
   show _=Hr ni z B0 t+(sm n _+cv (DF (L.getD n [])) (FB cs D 0 n) t)
   rw[Un h1,Int.add_assoc]
  ·rw[Ls h1]
   refine ih.trans (EN.eq fun t _=>?_)
   show _=Hr ni z B0 t+(sm n _+cv (DF (L.getD n [])) (FB cs D 0 n) t)
   rw[Y0 (Nat.zero_le n) h1,DO _ Lu,GI,Int.add_zero]
theorem Uo {m:Nat}(t:Nat):DF (List.replicate m 0) t=0:=NR m t
theorem Y2 (hB:BZ m B)(hm:1≤m){n:Nat}(hn:n≤B.length):∀k,k≤os.length→(∀i,i<os.length→(os.getD i 0).toNat<n) →
  EN N (Hr n D (Ku os ws k B)) fun t=>Hr n D B t+sm k fun i=>ws.getD i 0*D (os.getD i 0).toNat t
 |0,_,_=>fun t _=>by show _=md (_+0);rw[Int.add_zero];rfl
 |k+1,hk,ho=>by
  have ih:=Y2 hB hm hn k zO ho
  have h9:=ho k zO
  have hs:=G3 (ws:=ws) hB (fun i hi=>by have:=ho i hi;omega) k zO (os.getD k 0).toNat (by rw[Di];omega)
  refine (RA (B:=Ku os ws k B) (s:=((Ku os ws k B).getD (os.getD k 0).toNat []).set 0<|md (((Ku os ws k B).getD (os.getD k 0).toNat []).getD 0 0+ws.getD k 0)) (d:=fun t=>ws.getD k 0*Sj t) h9 (by rw[Di];omega) fun t _=>?_).trans ?_
  ·unfold DF
   rw[DW _ _ _ _ _ (by rw[hs.1];omega)]
   unfold Sj
   by_cases e:t=0
   ·subst e
    show _=md (_+ws.getD k 0*(if (0:Nat)=0 then 1 else 0))
    rw[if_pos rfl,if_pos rfl,Fu,Int.mul_one]
   ·show _=md (_+ws.getD k 0*(if t=0 then 1 else 0))
    rw[if_neg e,if_neg e,Int.mul_zero,Int.add_zero]
  ·refine (EN.add ih<|EN.rfl' _).trans (EN.eq fun t _=>?_)
   show _=_+(sm k _+_)
   rw[Ke,Z4,Int.add_assoc]
theorem X8 (hT:aY N cs R z D)(hN:N≤m)(hm:1≤m)(hR:BZ m R)(hRl:R.length=cs.length)(hf:∀k,k<cs.length→DN ni k (cs.getD k As.zero))
  (hd:∀k,k<cs.length→(cs.getD k As.zero).op=6→(R.getD (cs.getD k As.zero).b.toNat []).getD 0 0≠0) (ho:∀i,i<os.length→(os.getD i 0).toNat<cs.length) :
  EN N (Hr ni z (Ul ni m cs (HF cs R os ws))) fun t=>sm os.length fun i=>ws.getD i 0*D (os.getD i 0).toNat t:=by
 have h1:=RB (L:=HF cs R os ws) (B0:=List.replicate ni<|List.replicate m 0) hT hN (IT m ni) z5 hf cs.length<|A7 _
 have hw:BZ m (Ku os ws os.length (IX R)):=G3 (GM hR) (fun q hq=>by rw[D0,hRl];exact ho q hq) _ (A7 _)
 have h2:=Y1 hT hN hR hRl hf hd cs.length (Ku os ws os.length<|IX R) (A7 _) hw (by rw[Di,D0,hRl])
 have h3:=Y2 (N:=N) (D:=D) (os:=os) (ws:=ws) (GM hR) hm (n:=cs.length) (by rw[D0,hRl];exact A7 _) os.length (A7 _) ho
 have e1:∀t,Hr ni z (List.replicate ni (List.replicate m 0)) t=0:=Pw fun j hj t=>by
  rw[show(List.replicate ni (List.replicate m (0:Int))).getD j []=List.replicate m 0 from by simp[List.getD_eq_getElem?_getD,hj]];exact Uo t
 have e2:∀t,Hr cs.length D (IX R) t=0:=Pw fun j hj t=>by
  rw[show(IX R).getD j []=List.replicate (R.getD j []).length 0 from by unfold IX;rw[Ci (d:=[]) (by omega)]];exact Uo t
 have e3:Hr cs.length (FB cs D cs.length) (Ku os ws os.length (IX R))=Hr cs.length D (Ku os ws os.length (IX R)):=funext fun t=>by
  unfold Hr
  exact Fz fun j hj=>by rw[HI hj]
 rw[e3]at h2
 refine h1.trans<|EN.trans (EN.eq fun t _=>?_)<|EN.trans h2<|h3.trans (EN.eq fun t _=>?_)
 ·rw[e1,Int.zero_add];rfl
 ·rw[e2,Int.zero_add]
end
end
section
def Dd (A A':List Sr)(j:Nat):Nat→Int:=fun t=>DF (A'.getD j []) t-DF (A.getD j []) t
section
variable {m r N k j:Nat} {A A':List Sr} {T:Tp} {cs:List As}
theorem H1 (hk:k≤cs.length)(hj:j<k):(Be m A (cs.take k)).getD j []=(Be m A cs).getD j []:=by
 have:=MD (m:=m) (A:=A) (cs.take k) (cs.drop k) (k:=j) (by rw[List.length_take];omega)
 rw[List.take_append_drop]at this
 exact this.symm
theorem Jq (hk:k<cs.length):(Be m A cs).getD k []=Gk m A (Be m A (cs.take k)) (cs.getD k As.zero):=by
 rw[← H1 (show k+1≤cs.length from hk) (Nat.lt_succ_self k),Cc hk,I3 (by rw[BS,List.length_take];omega)]
theorem DH.r1 (h:DH m A T)(hk:k<T.code.length)(h1:(T.code.getD k As.zero).op=1):(Go.Proofs.YtjnbnlniafmblaaGreat.Be m A T.code).getD k []=A.getD (T.code.getD k As.zero).num.toNat []:=by rw[Jq hk,M3 h1]
theorem DH.r2 (h:DH m A T)(hk:k<T.code.length)(h1:(T.code.getD k As.zero).op=2):(Go.Proofs.YtjnbnlniafmblaaGreat.Be m A T.code).getD k []=cst m (T.code.getD k As.zero).num:=by rw[Jq hk,Kt (by omega)]
theorem DH.r3 (h:DH m A T)(hk:k<T.code.length)(h1:(T.code.getD k As.zero).op=3):(Go.Proofs.YtjnbnlniafmblaaGreat.Be m A T.code).getD k []=Cq ((Go.Proofs.YtjnbnlniafmblaaGreat.Be m A T.code).getD (T.code.getD k As.zero).a.toNat []) ((Go.Proofs.YtjnbnlniafmblaaGreat.Be m A T.code).getD (T.code.getD k As.zero).b.toNat []):=by
 have:=(h.form k hk).i2 zO
 rw[Jq hk,Ko h1,H1 zO zO,H1 zO (by omega)]
theorem DH.r4 (h:DH m A T)(hk:k<T.code.length)(h1:(T.code.getD k As.zero).op=4):(Go.Proofs.YtjnbnlniafmblaaGreat.Be m A T.code).getD k []=EK ((Go.Proofs.YtjnbnlniafmblaaGreat.Be m A T.code).getD (T.code.getD k As.zero).a.toNat []) ((Go.Proofs.YtjnbnlniafmblaaGreat.Be m A T.code).getD (T.code.getD k As.zero).b.toNat []):=by
 have:=(h.form k hk).i2 zO
 rw[Jq hk,Kp h1,H1 zO zO,H1 zO (by omega)]
theorem DH.r5 (h:DH m A T)(hk:k<T.code.length)(h1:(T.code.getD k As.zero).op=5):(Go.Proofs.YtjnbnlniafmblaaGreat.Be m A T.code).getD k []=Ce ((Go.Proofs.YtjnbnlniafmblaaGreat.Be m A T.code).getD (T.code.getD k As.zero).a.toNat []) ((Go.Proofs.YtjnbnlniafmblaaGreat.Be m A T.code).getD (T.code.getD k As.zero).b.toNat []):=by
 have:=(h.form k hk).i2 zO
 rw[Jq hk,Kq h1,H1 zO zO,H1 zO (by omega)]
theorem DH.r6 (h:DH m A T)(hk:k<T.code.length)(h1:(T.code.getD k As.zero).op=6):(Go.Proofs.YtjnbnlniafmblaaGreat.Be m A T.code).getD k []=BT ((Go.Proofs.YtjnbnlniafmblaaGreat.Be m A T.code).getD (T.code.getD k As.zero).a.toNat []) ((Go.Proofs.YtjnbnlniafmblaaGreat.Be m A T.code).getD (T.code.getD k As.zero).b.toNat []):=by
 have:=(h.form k hk).i2 zO
 rw[Jq hk,Ks h1,H1 zO zO,H1 zO (by omega)]
theorem DH.r7 (h:DH m A T)(hk:k<T.code.length)(h1:(T.code.getD k As.zero).op=7):(Go.Proofs.YtjnbnlniafmblaaGreat.Be m A T.code).getD k []=CL ((Go.Proofs.YtjnbnlniafmblaaGreat.Be m A T.code).getD (T.code.getD k As.zero).a.toNat []) 1000002:=by
 have:=(h.form k hk).i7 h1
 rw[Jq hk,Kr h1,H1 zO (by omega)]
theorem DH.rz (h:DH m A T)(hk:k<T.code.length)(h1:(T.code.getD k As.zero).op=6):((Go.Proofs.YtjnbnlniafmblaaGreat.Be m A T.code).getD (T.code.getD k As.zero).b.toNat []).getD 0 0≠0:=by
 have:=(h.form k hk).i2 zO
 rw[(h.ser (T.code.getD k As.zero).b.toNat zO).2]
 exact h.dv k hk h1
theorem Uq (f g:Nat→Int):f=fun t=>g t+(f t-g t):=funext fun t=>by omega
theorem Ur (v w v' w':Nat→Int)(t:Nat):cv v' w' t-cv v w t=cv w (fun t=>v' t-v t) t+cv v (fun t=>w' t-w t) t+cv (fun t=>v' t-v t) (fun t=>w' t-w t) t:=by
 rw[R2,Kw,Kw,Kw,DO w,DO w];omega
theorem Y3 (h:DH m A T)(h':DH m A' T)(hk:k<T.code.length)(h1:(T.code.getD k As.zero).op=1):Dd (Be m A T.code) (Be m A' T.code) k=Dd A A' (T.code.getD k As.zero).num.toNat:=by
 unfold Dd;rw[h.r1 hk h1,h'.r1 hk h1]
theorem Y4 (h:DH m A T)(h':DH m A' T)(hk:k<T.code.length)(h1:(T.code.getD k As.zero).op=2):EN N (Dd (Be m A T.code) (Be m A' T.code) k) Lu:=EN.eq fun t _=>by
 unfold Dd;rw[h.r2 hk h1,h'.r2 hk h1,Int.sub_self];rfl
theorem Y5 (h:DH m A T)(h':DH m A' T)(hk:k<T.code.length)(h1:(T.code.getD k As.zero).op=3) :
  EN m (Dd (Be m A T.code) (Be m A' T.code) k) fun t=>Dd (Be m A T.code) (Be m A' T.code) (T.code.getD k As.zero).a.toNat t+Dd (Be m A T.code) (Be m A' T.code) (T.code.getD k As.zero).b.toNat t:=by
 have hb:=(h.form k hk).i2 zO
 unfold Dd;rw[h.r3 hk h1,h'.r3 hk h1]
 exact (EN.sub (Zr (h'.ser _ zO).1) (Zr (h.ser _ zO).1)).trans (EN.eq fun t _=>by omega)
theorem Y6 (h:DH m A T)(h':DH m A' T)(hk:k<T.code.length)(h1:(T.code.getD k As.zero).op=4) :
  EN m (Dd (Be m A T.code) (Be m A' T.code) k) fun t=>Dd (Be m A T.code) (Be m A' T.code) (T.code.getD k As.zero).a.toNat t-Dd (Be m A T.code) (Be m A' T.code) (T.code.getD k As.zero).b.toNat t:=by
 have hb:=(h.form k hk).i2 zO
 unfold Dd;rw[h.r4 hk h1,h'.r4 hk h1]
 exact (EN.sub (aC (h'.ser _ zO).1) (aC (h.ser _ zO).1)).trans (EN.eq fun t _=>by omega)
theorem Y7 (h:DH m A T)(h':DH m A' T)(hk:k<T.code.length)(h1:(T.code.getD k As.zero).op=7) :
  EN m (Dd (Be m A T.code) (Be m A' T.code) k) fun t=>- Dd (Be m A T.code) (Be m A' T.code) (T.code.getD k As.zero).a.toNat t:=by
 have hb:=(h.form k hk).i7 h1
 unfold Dd;rw[h.r7 hk h1,h'.r7 hk h1]
 exact (EN.sub (Um (h'.ser _ zO).1) (Um (h.ser _ zO).1)).trans (EN.eq fun t _=>by omega)
theorem Y8 (h:DH m A T)(h':DH m A' T)(hk:k<T.code.length)(h1:(T.code.getD k As.zero).op=5) :
  EN m (Dd (Be m A T.code) (Be m A' T.code) k) fun t=>cv (DF ((Be m A T.code).getD (T.code.getD k As.zero).b.toNat [])) (Dd (Be m A T.code) (Be m A' T.code) (T.code.getD k As.zero).a.toNat) t
   + cv (DF ((Be m A T.code).getD (T.code.getD k As.zero).a.toNat [])) (Dd (Be m A T.code) (Be m A' T.code) (T.code.getD k As.zero).b.toNat) t
   + cv (Dd (Be m A T.code) (Be m A' T.code) (T.code.getD k As.zero).a.toNat) (Dd (Be m A T.code) (Be m A' T.code) (T.code.getD k As.zero).b.toNat) t:=by
 have hb:=(h.form k hk).i2 zO
 unfold Dd;rw[h.r5 hk h1,h'.r5 hk h1]
 exact (EN.sub (To (h'.ser _ zO).1) (To (h.ser _ zO).1)).trans (EN.eq fun t _=>Ur _ _ _ _ t)
theorem Y9 (h:DH m A T)(h':DH m A' T)(hk:k<T.code.length)(h1:(T.code.getD k As.zero).op=6) :
  EN m (Dd (Be m A T.code) (Be m A' T.code) (T.code.getD k As.zero).a.toNat) fun t=>cv (DF ((Be m A T.code).getD (T.code.getD k As.zero).b.toNat [])) (Dd (Be m A T.code) (Be m A' T.code) k) t
   + cv (DF ((Be m A T.code).getD k [])) (Dd (Be m A T.code) (Be m A' T.code) (T.code.getD k As.zero).b.toNat) t
   + cv (Dd (Be m A T.code) (Be m A' T.code) k) (Dd (Be m A T.code) (Be m A' T.code) (T.code.getD k As.zero).b.toNat) t:=by
 have hb:=(h.form k hk).i2 zO
 have q:=Z5 (h.ser (T.code.getD k As.zero).a.toNat zO).1 (h.ser (T.code.getD k As.zero).b.toNat zO).1 (h.rz hk h1)
 have q':=Z5 (h'.ser (T.code.getD k As.zero).a.toNat zO).1 (h'.ser (T.code.getD k As.zero).b.toNat zO).1 (h'.rz hk h1)
 rw[← h.r6 hk h1]at q
 rw[← h'.r6 hk h1]at q'
 exact (EN.sub q'.symm q.symm).trans (EN.eq fun t _=>Ur _ _ _ _ t)
theorem Us (h:DH m A T)(h':DH m A' T)(hr:r≤m)(hz:∀j,j<A.length→Lo r (Dd A A' j)):∀n k,k<n→k<T.code.length→Lo r (Dd (Be m A T.code) (Be m A' T.code) k)
 |0,k,hk,_=>absurd hk (Nat.not_lt_zero k)
 |n+1,k,hn,hk=>by
  have ih:=Us h h' hr hz n
  have hf:=h.form k hk
  have b2:=fun h=>hf.i2 h
  have b7:=fun h=>hf.i7 h
  by_cases h1:(T.code.getD k As.zero).op=1
  ·rw[Y3 h h' hk h1];have:=hf.i1 h1;exact hz _ zO
  by_cases h2:(T.code.getD k As.zero).op=2
  ·exact Y4 h h' hk h2
  by_cases h3:(T.code.getD k As.zero).op=3
  ·have:=b2 zO
   exact Lo.of (EN.mono (Y5 h h' hk h3) hr)<|(ih _ zO zO).add<|ih _ zO zO
  by_cases h4:(T.code.getD k As.zero).op=4
  ·have:=b2 zO
   exact Lo.of (EN.mono (Y6 h h' hk h4) hr)<|(ih _ zO zO).sub<|ih _ zO zO
  by_cases h5:(T.code.getD k As.zero).op=5
  ·have:=b2 zO
   exact Lo.of (EN.mono (Y8 h h' hk h5) hr)<|((Lo.cvr _<|ih _ zO zO).add<|Lo.cvr _<|ih _ zO zO).add<|(ih _ zO zO).cvl _
  by_cases h6:(T.code.getD k As.zero).op=6
  ·have:=b2 zO
   have ha:=ih (T.code.getD k As.zero).a.toNat zO zO
   have hb:=ih (T.code.getD k As.zero).b.toNat zO zO
   have e:=EN.mono (Y9 h h' hk h6) hr
   refine Lo.div (g:=DF<|(Be m A' T.code).getD (T.code.getD k As.zero).b.toNat []) (VG (h'.ser (T.code.getD k As.zero).b.toNat zO).1 (h'.rz hk h6)) ?_
   refine Lo.of (g:=fun t=>Dd (Be m A T.code) (Be m A' T.code) (T.code.getD k As.zero).a.toNat t-cv (DF<|(Be m A T.code).getD k []) (Dd (Be m A T.code) (Be m A' T.code) (T.code.getD k As.zero).b.toNat) t) ?_<|ha.sub<|hb.cvr _
   refine EN.trans (EN.eq fun t _=>?_)<|EN.sub e.symm<|EN.rfl' _
   rw[Uq (DF ((Be m A' T.code).getD (T.code.getD k As.zero).b.toNat [])) (DF ((Be m A T.code).getD (T.code.getD k As.zero).b.toNat [])),LP,DO _ (DF ((Be m A T.code).getD (T.code.getD k As.zero).b.toNat []))]
   show _+cv _ (Dd _ _ _) t=_
   omega
  have h7:(T.code.getD k As.zero).op=7:=by unfold DN at hf;omega
  have:=b7 h7
  exact Lo.of (EN.mono (Y7 h h' hk h7) hr) (ih _ zO zO).neg
theorem X9 (h:DH m A T)(h':DH m A' T)(hr:r≤m)(hz:∀j,j<A.length→Lo r (Dd A A' j))(hN:N≤m)(h2:N≤r+r):aY N T.code (Be m A T.code) (Dd A A') (Dd (Be m A T.code) (Be m A' T.code)):=by
 have lo:=fun k (hk:k<T.code.length)=>Us h h' hr hz (k+1) k (Nat.lt_succ_self k) hk
 refine⟨fun k hk h1=>by rw[Y3 h h' hk h1];exact EN.rfl' _,fun k hk h1=>Y4 h h' hk h1,fun k hk h1=>EN.mono (Y5 h h' hk h1) hN,fun k hk h1=>EN.mono (Y6 h h' hk h1) hN,fun k hk h1=>?_,fun k hk h1=>?_,fun k hk h1=>EN.mono (Y7 h h' hk h1) hN⟩
 ·have:=(h.form k hk).i2 zO
  refine (EN.mono (Y8 h h' hk h1) hN).trans ?_
  refine (EN.add (EN.rfl' _)<|Lo.mono (Lo.cv2 (lo _ zO)<|lo _ zO) h2).trans (EN.eq fun t _=>?_)
  exact Int.add_zero _
 ·have:=(h.form k hk).i2 zO
  refine (EN.sub (EN.mono (Y9 h h' hk h1) hN) (EN.rfl' _) |>.trans ?_).symm
  refine (EN.sub (EN.add (EN.rfl' _)<|Lo.mono (Lo.cv2 (lo k hk)<|lo _ zO) h2)<|EN.rfl' _).trans (EN.eq fun t _=>?_)
  show _+_+(0:Int)-_=_
  omega
end
end
section
section
variable {m n r N k:Nat}
theorem Zu {u:Nat→Nat→Int}{row:List Sr}(h:∀j,j<n→Lo k (u j)):md (Hr n u row k)=md (sm n fun j=>DF (row.getD j []) 0*u j k):=by
 unfold Hr
 refine NF fun j hj=>?_
 cases k with
 |zero=>rfl
 |succ k =>
  show md (DF (row.getD j []) 0*u j (k+1)+cv (fun i=>DF (row.getD j []) (i+1)) (u j) k)=_
  have:=Lo.cvr (fun i=>DF (row.getD j []) (i+1)) (h j hj) k (Nat.lt_succ_self k)
  rw[← GG,this]
  show md (_+md 0)=_
  rw[GG,Int.add_zero]
variable {a:List Int} {J0:List (List Int)} {G:List Sr→List Sr} {J:List Sr→List (List Sr)} {y y' yS g:List Sr}
theorem ft (hy:BZ m y)(hy':BZ m y')(hm:1≤m)(h:DI y=DI y'){j:Nat}(hj:j<y.length):Lo 1 (Dd y y' j):=fun k hk=>by
 have e:k=0:=by omega
 subst e
 have hl:y'.length=y.length:=by rw[← DJ (A:=y'),← h,DJ]
 have h1:(DI y).getD j 0=(DI y').getD j 0:=by rw[h]
 unfold DI at h1
 rw[Ci (d:=[]) hj,Ci (d:=[]) (by omega)]at h1
 show md ((y'.getD j []).getD 0 0-(y.getD j []).getD 0 0)=_
 rw[h1,Int.sub_self];rfl
end
end
section
structure HH (m m':Nat)(B B':List Sr):Prop where
 s:BZ m B
 s':BZ m' B'
 l:B.length=B'.length
 h:∀k,(B.getD k []).getD 0 0=(B'.getD k []).getD 0 0
section
variable {m m' ni k i:Nat} {B B' R R':List Sr} {s s':Sr} {cs:List As} {r:Int} {os ws:List Int}
theorem RC (l:List Sr)(i:Nat)(x:Sr)(j:Nat):(l.set i x).getD j []=if j=i∧i<l.length then x else l.getD j []:=by
 by_cases h:i<l.length
 ·rw[DW _ _ _ _ _ h]
  by_cases e:j=i
  ·rw[if_pos e,if_pos ⟨e,h⟩]
  ·rw[if_neg e,if_neg fun h=>e h.1]
 ·rw[List.set_eq_of_length_le zO,if_neg fun h9=>h h9.2]
theorem HH.set (h:HH m m' B B')(hs:Cv m s)(hs':Cv m' s')(e:s.getD 0 0=s'.getD 0 0):HH m m' (B.set i s) (B'.set i s'):=by
 refine⟨h.s.set hs,h.s'.set hs',by rw[z6,z6,h.l],fun k=>?_⟩
 rw[RC,RC,h.l]
 split
 ·exact e
 ·exact h.h k
theorem HH.adP (hm:1≤m)(hm':1≤m')(h:HH m m' B B')(hr:r.toNat<B.length)(e:s.getD 0 0=s'.getD 0 0):HH m m' (ET B r s) (Go.Proofs.YtjnbnlniafmblaaGreat.ET B' r s'):=by
 have h1:=h.s r.toNat hr
 have h2:=h.s' r.toNat (by rw[← h.l];exact hr)
 refine h.set (Hf h1) (Hf h2) ?_
 rw[Rx h1 zO,Rx h2 zO,h.h,e]
theorem HH.adI (hm:1≤m)(hm':1≤m')(h:HH m m' B B')(hR:HH m m' R R')(hk:k<B.length)(hf:DN ni k (cs.getD k As.zero)):HH m m' (ME cs R k B) (Go.Proofs.YtjnbnlniafmblaaGreat.ME cs R' k B'):=by
 have b2:=fun h=>hf.i2 h
 have b7:=fun h=>hf.i7 h
 have h1:=h.s k hk
 have h2:=h.s' k (by rw[← h.l];exact hk)
 have hp:∀q,(Ce (B.getD k []) (R.getD q [])).getD 0 0=(Ce (B'.getD k []) (R'.getD q [])).getD 0 0:=fun q=>by
  rw[MC (by rw[h1.1];omega),MC (by rw[h2.1];omega),h.h,hR.h]
 have hq:∀q,(BT (B.getD k []) (R.getD q [])).getD 0 0=(BT (B'.getD k []) (R'.getD q [])).getD 0 0:=fun q=>by
  rw[Pr (by rw[h1.1];omega),Pr (by rw[h2.1];omega),h.h,hR.h]
 have hn:∀ {s s':Sr},Cv m s→Cv m' s'→s.getD 0 0=s'.getD 0 0→(CL s 1000002).getD 0 0=(CL s' 1000002).getD 0 0:=fun hs hs' e=>by
  rw[Ry hs zO,Ry hs' zO,e]
 by_cases h3:(cs.getD k As.zero).op=3
 ·rw[MF h3,MF h3]
  have:=b2 zO
  exact (h.adP hm hm' zO<|h.h k).adP hm hm' (by rw[C5];omega)<|h.h k
 by_cases h4:(cs.getD k As.zero).op=4
 ·rw[NU h4,NU h4]
  have:=b2 zO
  exact (h.adP hm hm' zO<|h.h k).adP hm hm' (by rw[C5];omega)<|hn h1 h2<|h.h k
 by_cases h5:(cs.getD k As.zero).op=5
 ·rw[MG h5,MG h5]
  have:=b2 zO
  exact (h.adP hm hm' zO<|hp _).adP hm hm' (by rw[C5];omega)<|hp _
 by_cases h6:(cs.getD k As.zero).op=6
 ·rw[NV h6,NV h6]
  have:=b2 zO
  refine (h.adP hm hm' zO<|hq _).adP hm hm' (by rw[C5];omega)<|hn (Hg<|Gi h1) (Hg<|Gi h2) ?_
  rw[MC (by rw[Dl,h1.1];omega),MC (by rw[Dl,h2.1];omega),hq,hR.h]
 by_cases h7:(cs.getD k As.zero).op=7
 ·rw[NW h7,NW h7]
  have:=b7 h7
  exact h.adP hm hm' zO<|hn h1 h2<|h.h k
 have:(cs.getD k As.zero).op<3∨7<(cs.getD k As.zero).op:=by omega
 rw[NX this,NX this];exact h
theorem HH.adA (hm:1≤m)(hm':1≤m')(hR:HH m m' R R')(hf:∀k,k<cs.length→DN ni k (cs.getD k As.zero)):∀(n:Nat)(B B':List Sr),n≤cs.length→n≤B.length→HH m m' B B'→HH m m' (Rq cs R n B) (Go.Proofs.YtjnbnlniafmblaaGreat.Rq cs R' n B')
 |0,_,_,_,_,h=>h
 |n+1,B,B',hn,hb,h=>HH.adA hm hm' hR hf n _ _ zO (by rw[M4];omega) (h.adI hm hm' hR zO (hf n zO))
theorem HH.wgt (hm:1≤m)(hm':1≤m')(h:HH m m' B B')(ho:∀k,k<os.length→(os.getD k 0).toNat<B.length):∀k,k≤os.length→HH m m' (Ku os ws k B) (Go.Proofs.YtjnbnlniafmblaaGreat.Ku os ws k B')
 |0,_=>h
 |k+1,hk=>by
  have ih:=HH.wgt hm hm' h ho k zO
  have h1:=ih.s (os.getD k 0).toNat (by rw[Di];exact ho k zO)
  have h2:=ih.s' (os.getD k 0).toNat (by rw[Di,← h.l];exact ho k zO)
  refine ih.set ⟨by rw[z6];exact h1.1,L1 h1.2<|Ck _⟩ ⟨by rw[z6];exact h2.1,L1 h2.2<|Ck _⟩ ?_
  rw[DW _ _ _ _ _ (by rw[h1.1];omega),DW _ _ _ _ _ (by rw[h2.1];omega),if_pos rfl,if_pos rfl,ih.h]
theorem Ya (k:Nat):((IX R).getD k []).getD 0 0=0:=by
 by_cases h:k<R.length
 ·rw[show(IX R).getD k []=List.replicate (R.getD k []).length 0 from by unfold IX;rw[Ci (d:=[]) h]];exact NR _ 0
 ·rw[show(IX R).getD k []=[]from by rw[List.getD_eq_getElem?_getD,List.getElem?_eq_none (by rw[D0];omega)];rfl];rfl
theorem HH.zrs (h:HH m m' R R'):HH m m' (IX R) (Go.Proofs.YtjnbnlniafmblaaGreat.IX R'):=⟨GM h.s,GM h.s',by rw[D0,D0,h.l],fun k=>by rw[Ya,Ya]⟩
theorem HH.byN {L L':List Sr}(hm:1≤m)(hm':1≤m')(hL:HH m m' L L')(h:HH m m' B B')(hf:∀k,k<cs.length→DN B.length k (cs.getD k As.zero)):∀k,k≤cs.length→HH m m' (Ru cs L k B) (Go.Proofs.YtjnbnlniafmblaaGreat.Ru cs L' k B')
 |0,_=>h
 |k+1,hk=>by
  have ih:=HH.byN hm hm' hL h hf k zO
  by_cases h1:(cs.getD k As.zero).op=1
  ·rw[Lr h1,Lr h1]
   have:=(hf k zO).i1 h1
   exact ih.adP hm hm' (by rw[HG];omega)<|hL.h k
  ·rw[Ls h1,Ls h1];exact ih
theorem HH.rep (m m' ni:Nat):HH m m' (List.replicate ni (List.replicate m 0)) (List.replicate ni (List.replicate m' 0)):=by
 refine⟨IT _ _,IT _ _,by simp,fun k=>?_⟩
 by_cases h:k<ni
 ·rw[show(List.replicate ni (List.replicate m (0:Int))).getD k []=List.replicate m 0 from by simp[List.getD_eq_getElem?_getD,h],show(List.replicate ni (List.replicate m' (0:Int))).getD k []=List.replicate m' 0 from by simp[List.getD_eq_getElem?_getD,h],NR,NR]
 ·rw[show(List.replicate ni (List.replicate m (0:Int))).getD k []=[]from by simp[List.getD_eq_getElem?_getD,h],show(List.replicate ni (List.replicate m' (0:Int))).getD k []=[]from by simp[List.getD_eq_getElem?_getD,h]]
end
section
variable {p:List Fn} {f m r N i j s:Nat} {a:List Int} {A A':List Sr} {xs:List Int} {T:Tp}
structure Lt (p:List Fn)(f:Nat)(a:List Int)(xs:List Int)(T:Tp):Prop where
 v:FQ p
 lt:f<p.length
 l:((a.length:Nat):Int)=(p.getD f Fn.zero).params
 n:AX a=true
 r:∃s,AL (Lv p f a) (xs,T) s 0
theorem Kx (hA:BZ m A)(h:DI A=a):Qi m a A:=by rw[← h];exact Ss hA
theorem Lt.tp (h:Lt p f a xs T)(hm:1≤m)(hA:BZ m A)(hf:DI A=a):DH m A T∧(Ib p m f A=xs.map fun r=>(Be m A T.code).getD r.toNat [])∧HD p m f A=0:=by
 obtain⟨s,hs⟩:=h.r
 have h1:=Uf hm h.v h.lt h.n (Kx hA hf) h.l hs rfl
 exact⟨h1.1,h1.2,Pu hm h.v h.lt h.n (Kx hA hf) h.l hs⟩
theorem DY (a:List Int):DI (Cw a)=a:=by
 unfold DI Cw
 rw[List.map_map]
 exact List.map_id'' (fun _=>rfl) a
theorem Lt.en (h:Lt p f a xs T):xs.length=(p.getD f Fn.zero).outs.length∧Gj T xs:=by
 obtain⟨s,hs⟩:=h.r
 have hT:=Ro (A7 1) h.v h.lt h.n (Kx (CF h.n)<|DY a) h.l
 rw[hs.ok]at hT
 obtain⟨z,h1,h2,h3,h4⟩:=hT
 exact⟨h4.1,fun k hk=>(h4.2.2 k (by rw[h4.1]at hk;exact hk)).1⟩
theorem Lt.at (h:Lt p f a xs T):gZ p f a:=⟨h.v,h.lt,h.l,h.n,(h.tp (A7 1) (CF h.n) (DY a)).2.2⟩
theorem Lt.vals (h:Lt p f a xs T)(hm:1≤m)(hA:BZ m A)(hf:DI A=a)(hi:i<xs.length):(Ib p m f A).getD i []=(Be m A T.code).getD (xs.getD i 0).toNat []:=by
 rw[(h.tp hm hA hf).2.1,Ci (d:=0) hi]
theorem Lt.ser (h:Lt p f a xs T)(hm:1≤m)(hA:BZ m A)(hf:DI A=a):(Ib p m f A).length=xs.length∧BZ m (Ib p m f A):=by
 have hl:(Ib p m f A).length=xs.length:=by rw[(h.tp hm hA hf).2.1,zg]
 refine⟨hl,fun k hk=>?_⟩
 rw[h.vals hm hA hf (by omega)]
 have:=(h.tp hm hA hf).1.outs h.en.2 k zO
 exact ((h.tp hm hA hf).1.ser _ zO).1
theorem Fp (a d:List Int):DI (D7 a d 2)=a:=by
 refine List.ext_getElem (by simp) fun k h1 h2=>?_
 rw[← Gh (d:=(0:Int)) h1,← Gh (d:=(0:Int)) h2]
 unfold DI
 rw[Ci (d:=[]) (by rw[CB];exact h2),Ua h2]
end
end
def Qk (p:List Fn)(f:Nat)(a:List Int):RL:=match Lv p f a with
 |.ok x _=>x
 |.err _=>([],⟨[],[],[]⟩)
theorem Xa {p:List Fn}{f:Nat}{a:List Int}{x:RL}{s:Nat}(h:AL (Lv p f a) x s 0):Qk p f a=x:=by unfold Qk;rw[h.ok]
section
section
variable {p:List Fn} {f k o i m q:Nat} {a d:List Int} {y Y:List Sr} {xs:List Int} {T:Tp} {nx:Nat→List Sr→List Int}
theorem Ut (hv:FQ p)(hf:f<p.length)(hl:((a.length:Nat):Int)=(p.getD f Fn.zero).params)(hn:AX a=true)(h0:GL p f a=0):∃xs T,Lt p f a xs T:=by
 cases hr:Lv p f a with
 |ok x s=>exact⟨x.1,x.2,hv,hf,hl,hn,s,by rw[hr];exact AL.mk_ok rfl⟩
 |err c =>
  have hT:=Ro (A7 1) hv hf hn (Kx (CF hn)<|DY a) hl
  rw[hr]at hT
  have h9:ev p 1 f (Cw a)=.err c:=hT
  have h8:GL p f a=c:=Il h9
  rcases Ps hv hf (CF hn) (by unfold Cw;rw[zg];exact hl)with⟨z,t,h1,_⟩|h1|h1
  ·rw[h1]at h9;cases h9
  ·rw[h1]at h9;cases h9;omega
  ·rw[h1]at h9;cases h9;omega
end
end
section
def PW (m:Nat)(T:Tp)(xs ws:List Int)(A:List Sr):List Sr:=Ul A.length m T.code (HF T.code (Be m A T.code) xs ws)
section
variable {p:List Fn} {f m m' i:Nat} {a d:List Int} {A A':List Sr} {xs ws:List Int} {T:Tp}
@[simp] theorem HJ:(PW m T xs ws A).length=A.length:=Rw
theorem Px (hm:1≤m)(hm':1≤m')(h:DH m A T)(h':DH m' A' T)(hl:A.length=A'.length)(hE:Gj T xs)(ws:List Int):HH m m' (PW m T xs ws A) (PW m' T xs ws A'):=by
 have hR:HH m m' (Be m A T.code) (Be m' A' T.code):=⟨h.regs,h'.regs,by rw[BS,BS],fun k=>by
  by_cases hk:k<T.code.length
  ·rw[(h.ser k hk).2,(h'.ser k hk).2]
  ·rw[show(Be m A T.code).getD k []=[]from by rw[List.getD_eq_getElem?_getD,List.getElem?_eq_none (by rw[BS];omega)];rfl,show(Be m' A' T.code).getD k []=[]from by rw[List.getD_eq_getElem?_getD,List.getElem?_eq_none (by rw[BS];omega)];rfl]⟩
 have hx:=h.outs hE
 unfold PW Ul
 rw[← hl]
 refine HH.byN hm hm' ?_ (HH.rep m m' _) (fun k hk=>by rw[z5];exact h.form k hk) _<|A7 _
 unfold HF
 refine HH.adA hm hm' hR h.form _ _ _ (A7 _) (by rw[Di,D0,BS];exact A7 _)<|hR.zrs.wgt hm hm' (fun q hq=>?_) _<|A7 _
 rw[D0,BS]
 have:=hx q hq
 omega
theorem Lt.bk_ser (h:Lt p f a xs T)(hm:1≤m)(hA:BZ m A)(hf:DI A=a)(ws:List Int):BZ m (PW m T xs ws A):=by
 unfold PW
 exact Rv (h.tp hm hA hf).1.form
theorem Lt.rev (h:Lt p f a xs T)(hm:1≤m)(hA:BZ m A)(hf:DI A=a)(hnd:AX d=true) :
  md (sm a.length fun k=>((PW m T xs ws A).getD k []).getD 0 0*d.getD k 0)=md (sm xs.length fun i=>ws.getD i 0*((Lw p f a d).getD i []).getD 1 0):=by
 have hn0:AX (List.replicate a.length 0)=true:=Kf _
 have s0:BZ 2 (D7 a (List.replicate a.length 0) 2):=EB h.n hn0
 have s1:BZ 2 (D7 a d 2):=EB h.n hnd
 have hl:A.length=a.length:=by rw[← hf,DJ]
 have t0:=h.tp (m:=2) (by decide) s0<|Fp _ _
 have t1:=h.tp (m:=2) (by decide) s1<|Fp _ _
 have hh:=Px hm (by decide:1≤2) (h.tp hm hA hf).1 t0.1 (by rw[CB,hl]) h.en.2 ws
 have ho:∀q,q<a.length→Lo 1 (Dd (D7 a (List.replicate a.length 0) 2) (D7 a d 2) q):=fun q hq=>ft s0 s1 (by decide) (by rw[Fp,Fp]) (by rw[CB];exact hq)
 have hx:=t0.1.outs h.en.2
 have ht:=X8 (m:=2) (ni:=a.length) (os:=xs) (ws:=ws) (X9 (r:=1) (N:=2) t0.1 t1.1 (by decide) (fun q hq=>ho q (by rw[CB]at hq;exact hq)) (by decide) (by decide)) (by decide) (by decide) t0.1.regs (BS _) (fun k hk=>by have:=t0.1.form k hk;rw[CB]at this;exact this) (fun k hk h6=>t0.1.rz hk h6) (fun q hq=>by have:=hx q hq;omega) 1 (by decide)
 rw[Zu (k:=1) ho]at ht
 have e0:(PW 2 T xs ws (D7 a (List.replicate a.length 0) 2))=Ul a.length 2 T.code (HF T.code (Be 2 (D7 a (List.replicate a.length 0) 2) T.code) xs ws):=by unfold PW;rw[CB]
 rw[← e0]at ht
 have e1:(sm a.length fun q=>DF ((PW 2 T xs ws (D7 a (List.replicate a.length 0) 2)).getD q []) 0*Dd (D7 a (List.replicate a.length 0) 2) (D7 a d 2) q 1)=sm a.length fun k=>((PW m T xs ws A).getD k []).getD 0 0*d.getD k 0:=Fz fun q hq=>by
  unfold Dd
  rw[show DF ((D7 a d 2).getD q []) 1=_ from Rn hq,show DF ((D7 a (List.replicate a.length 0) 2).getD q []) 1=_ from Rn hq,NR,Int.sub_zero,hh.h q];rfl
 rw[e1]at ht
 rw[ht]
 have hat:=h.at
 refine NF fun i hi=>?_
 have hz:=Ub (K:=0) (d:=List.replicate a.length 0) (D:=fun _=>[]) (c:=fun _=>0) h.v h.lt h.l h.n hn0 (fun k hk=>absurd hk<|Nat.not_lt_zero k) (fun i hi=>by rw[NR];rfl) hat.z (r:=i) (by rw[← h.en.1];exact hi)
 have hz':((Ib p 2 f (D7 a (List.replicate a.length 0) 2)).getD i []).getD 1 0=0:=hz
 unfold Dd
 rw[← h.vals (by decide) s0 (Fp _ _) hi,← h.vals (by decide) s1 (Fp _ _) hi]
 rw[show DF ((Ib p 2 f (D7 a (List.replicate a.length 0) 2)).getD i []) 1=0 from hz',Int.sub_zero];rfl
end
end
section
def St:List ByteArray:=[⟨#[114]⟩,⟨#[108,111,111,112]⟩]
theorem Zv:∀t∈St,LR t=true:=by decide +kernel
theorem Zw:∀s∈Ni,∀t∈St,∀i:Fin 10,IV (s++JX i.val) t=false:=by decide +kernel
theorem PQ.rnd {p:List Fn}{pl:Bool}{f:Fn}{i:Nat}(h:Mp p pl)(hd:Dn p)(hl:p.length≤9)(hp:1≤f.params∧f.params≤3)(hi:1≤i∧i≤3)(ho:PQ p f.params pl f.outs i)
  (hf:f.name∈St):Mp (p++[f]) pl :=
 h.snoc zO hp (by rw[ho.len];exact hi) (fun j hj=>ho.wf j (by rw[← ho.len];exact hj)) ho.dp (by have:=ho.sz;omega) ho.pl (Zv _ hf) (fun k hk=>by
  obtain⟨t,ht,e⟩:=hd k hk
  rw[e]
  exact Zw t ht _ hf ⟨k,zO⟩)
theorem Xb {x:ByteArray}(h:Value.string x∈[Value.string ⟨#[114]⟩,.string ⟨#[114]⟩,.string ⟨#[114]⟩,.string ⟨#[108,111,111,112]⟩]):x∈St:=by
 simp only[ze,z2,or_false,Value.string.injEq]at h
 unfold St
 rcases h with rfl|rfl|rfl|rfl <;> simp
structure Xc (p:List Fn)(f:Int)(a b:List Int):Prop where
 dr:Mp p false
 len:1≤p.length∧p.length≤12
 fe:f=((p.length:Nat):Int)-1
 sq:(((p.getD f.toNat Fn.zero).outs.length:Nat):Int)=(p.getD f.toNat Fn.zero).params
 par:1≤(p.getD f.toNat Fn.zero).params∧(p.getD f.toNat Fn.zero).params≤3
 la:((a.length:Nat):Int)=(p.getD f.toNat Fn.zero).params∧AX a=true
 lb:((b.length:Nat):Int)=(p.getD f.toNat Fn.zero).params∧AX b=true
theorem Xc.mk' {p:List Fn}{g:Fn}{f:Int}{i:Nat}{a b:List Int}(h:Mp p false)(hd:Dn p)(hl:p.length≤9)(hp:1≤g.params∧g.params≤3)(ho:PQ p g.params false g.outs i)(hi:((i:Nat):Int)=g.params)(hn:g.name∈St)
  (hf:f=((p.length:Nat):Int)) (hla:((a.length:Nat):Int)=g.params∧AX a=true) (hlb:((b.length:Nat):Int)=g.params∧AX b=true):Xc (p++[g]) f a b:=by
 have h1:=ho.rnd h hd hl hp zO hn
 have e:(p++[g]).getD f.toNat Fn.zero=g:=I3 zO
 refine⟨h1,by rw[z4,zd];omega,by rw[z4,zd];omega,?_,?_,?_,?_⟩
 ·rw[e,ho.len];exact hi
 ·rw[e];exact hp
 ·rw[e];exact hla
 ·rw[e];exact hlb
def SG (p:List Fn)(f:Nat)(s ws:List Int):List Int:=DI (PW 1 (Qk p f s).2 (Qk p f s).1 ws (Cw s))
def NY (p:List Fn)(f:Nat)(a:List Int):Nat→List Int→List Int
 |0,ws=>ws
 |n+1,ws=>NY p f a n (SG p f (Cr p f a n) ws)
def Ic (p:List Fn)(f:Nat)(a d:List Int):Nat→List Int
 |0=>d
 |n+1=>(Lw p f (Cr p f a n) (Ic p f a d n)).map fun s=>s.getD 1 0
structure Py (p:List Fn)(f:Nat)(a:List Int)(n:Nat):Prop where
 v:FQ p
 lt:f<p.length
 sq:(((p.getD f Fn.zero).outs.length:Nat):Int)=(p.getD f Fn.zero).params
 l:((a.length:Nat):Int)=(p.getD f Fn.zero).params
 na:AX a=true
 k:EP p f a n=0
section
variable {p:List Fn} {f n k m:Nat} {a s ws us d xs:List Int} {T:Tp} {A:List Sr}
theorem Oo (h:EP p f a n=0)(hk:k≤n):EP p f a k=0:=by
 by_cases h0:EP p f a k=0
 ·exact h0
 ·rw[Km h0 hk]at h;exact h
theorem Py.low (h:Py p f a n)(hk:k≤n):Py p f a k:=⟨h.v,h.lt,h.sq,h.l,h.na,Oo h.k hk⟩
theorem bA (hv:FQ p)(hf:f<p.length)(hl:((s.length:Nat):Int)=(p.getD f Fn.zero).params)(hn:AX s=true):SF p f s:=SF.mk' (fi hv hf (CF hn) (by unfold Cw;rw[zg];exact hl))
theorem Py.st:∀ {n:Nat},Py p f a n→(Cr p f a n).length=a.length∧AX (Cr p f a n)=true
 |0,h=>⟨rfl,h.na⟩
 |n+1,h=>by
  have h0:=h.low<|Nat.le_succ n
  have ih:=h0.st
  have hN:=bA h.v h.lt (s:=Cr p f a n) (by rw[ih.1];exact h.l) ih.2
  have hz:GL p f (Cr p f a n)=0:=by rw[← FA h0.k];exact h.k
  have:=hN.len hz
  have:=h.sq;have:=h.l
  exact⟨by show(PS p f (Cr p f a n)).length=_;omega,hN.num⟩
theorem Py.nx (h:Py p f a n)(hk:k<n):GL p f (Cr p f a k)=0:=by rw[← FA (Oo h.k (Nat.le_of_lt hk))];exact Oo h.k hk
theorem Py.rc (h:Py p f a n)(hk:k<n):∃xs T,Lt p f (Cr p f a k) xs T:=by
 have h1:=(h.low<|Nat.le_of_lt hk).st
 exact Ut h.v h.lt (by rw[h1.1];exact h.l) h1.2<|h.nx hk
theorem Lt.bkR (h:Lt p f s xs T)(hm:1≤m)(hA:BZ m A)(hf:DI A=s):DI (PW m T xs ws A)=Go.Proofs.YtjnbnlniafmblaaGreat.SG p f s ws:=by
 obtain⟨q,hq⟩:=h.r
 have hl:A.length=s.length:=by rw[← hf,DJ]
 have hh:=Px hm (A7 1) (h.tp hm hA hf).1 (h.tp (A7 1) (CF h.n)<|DY s).1 (by rw[Es,hl]) h.en.2 ws
 unfold Go.Proofs.YtjnbnlniafmblaaGreat.SG
 rw[Xa hq]
 refine fj (by rw[DJ,DJ,HJ,HJ,Es,hl]) fun j hj=>?_
 rw[DJ,HJ]at hj
 unfold DI
 rw[Ci (d:=[]) (by rw[HJ];exact hj),Ci (d:=[]) (by rw[HJ,Es];omega)]
 exact hh.h j
theorem Ky:(SG p f s ws).length=s.length:=by unfold SG;rw[DJ,HJ,Es]
theorem Lt.bkR_num (h:Lt p f s xs T):AX (Go.Proofs.YtjnbnlniafmblaaGreat.SG p f s ws)=true:=by
 rw[← h.bkR (A7 1) (CF h.n) (DY s)]
 exact MA (n:=0)<|h.bk_ser (A7 1) (CF h.n) (DY s) ws
theorem Lt.bkR_dot (h:Lt p f s xs T)(hd:AX d=true) :
  md (sm s.length fun k=>(Go.Proofs.YtjnbnlniafmblaaGreat.SG p f s ws).getD k 0*d.getD k 0)=md (sm xs.length fun i=>ws.getD i 0*((Lw p f s d).getD i []).getD 1 0):=by
 rw[← h.rev (ws:=ws) (A7 1) (CF h.n) (DY s) hd]
 refine congrArg md (Fz fun k hk=>?_)
 rw[← h.bkR (A7 1) (CF h.n) (DY s)]
 unfold DI
 rw[Ci (d:=[]) (by rw[HJ,Es];exact hk)]
theorem RD:∀ {n:Nat}{ws:List Int},Py p f a n→ws.length=a.length→(NY p f a n ws).length=a.length
 |0,_,_,h=>h
 |n+1,ws,hc,h=>RD (n:=n) (ws:=SG p f (Cr p f a n) ws) (hc.low (Nat.le_succ n)) (by rw[Ky];exact(hc.low (Nat.le_succ n)).st.1)
theorem Py.nwd:∀ {n:Nat},Py p f a n→d.length=a.length→AX d=true→(Ic p f a d n).length=a.length∧AX (Ic p f a d n)=true
 |0,_,h1,h2=>⟨h1,h2⟩
 |n+1,hc,h1,h2=>by
  have h0:=hc.low<|Nat.le_succ n
  have hs:=h0.st
  have ih:=h0.nwd h1 h2
  obtain⟨xs,T,hr⟩:=hc.rc (Nat.lt_succ_self n)
  have hse:=hr.ser (m:=2) (by decide) (EB hr.n ih.2)<|Fp _ _
  have hx:xs.length=(p.getD f Fn.zero).outs.length:=hr.en.1
  refine⟨?_,?_⟩
  ·show((Lw p f (Cr p f a n) (Ic p f a d n)).map _).length=_
   rw[zg]
   have:=hse.1;have:=hc.sq;have:=hc.l
   show(Ib p 2 f (D7 (Cr p f a n) (Ic p f a d n) 2)).length=_
   omega
  ·show AX ((Lw p f (Cr p f a n) (Ic p f a d n)).map _)=true
   unfold AX
   rw[zm]
   intro y hy
   obtain⟨z,hz,rfl⟩:=List.mem_map.1 hy
   obtain⟨i,hi,rfl⟩:=List.mem_iff_getElem.1 hz
   have h9:Cv 2 ((Lw p f (Cr p f a n) (Ic p f a d n)).getD i []):=hse.2 i hi
   rw[Gh hi]at h9
   exact TN h9 zO
theorem Pz:∀ {n:Nat}{ws:List Int},Py p f a n→ws.length=a.length→d.length=a.length→AX d=true→Jp ws (Ic p f a d n) a.length=Jp (NY p f a n ws) d a.length
 |0,_,_,_,_,_=>rfl
 |n+1,ws,hc,hw,h1,h2=>by
  have h0:=hc.low<|Nat.le_succ n
  have hs:=h0.st
  obtain⟨xs,T,hr⟩:=hc.rc (Nat.lt_succ_self n)
  have hx:xs.length=(p.getD f Fn.zero).outs.length:=hr.en.1
  have hxa:xs.length=a.length:=by have:=hc.sq;have:=hc.l;omega
  have hnd:=h0.nwd h1 h2
  show _=Jp (NY p f a n (SG p f (Cr p f a n) ws)) d a.length
  rw[← Pz (n:=n) h0 (by rw[Ky];exact hs.1) h1 h2]
  unfold Jp
  have h9:=hr.bkR_dot (ws:=ws) hnd.2
  rw[hs.1]at h9
  rw[h9,hxa]
  refine congrArg md (Fz fun i hi=>?_)
  have hl:(Lw p f (Cr p f a n) (Ic p f a d n)).length=a.length:=by
   have:=(hr.ser (m:=2) (by decide) (EB hr.n hnd.2) (Fp (Cr p f a n) (Ic p f a d n))).1
   show(Ib p 2 f (D7 (Cr p f a n) (Ic p f a d n) 2)).length=_
   omega
  show ws.getD i 0*((Lw p f (Cr p f a n) (Ic p f a d n)).map fun s=>s.getD 1 0).getD i 0=_
  rw[Ci (d:=[]) (by omega)]
end
end
section
structure bB (ni:Nat)(T:Tp)(o:List Int):Prop where
 nb:ni≤12
 cl:T.code.length≤3200
 gl:T.grd.length≤3200
 form:∀k,k<T.code.length→DN ni k (T.code.getD k As.zero)
 gd:∀k,k<T.grd.length→0≤(T.grd.getD k Hh.zero).reg∧(T.grd.getD k Hh.zero).reg<((T.code.length:Nat):Int)
 ol:1≤o.length∧o.length≤12
 out:∀k,k<o.length→0≤o.getD k 0∧o.getD k 0<((T.code.length:Nat):Int)
theorem bB.pos {ni:Nat}{T:Tp}{o:List Int}(h:bB ni T o):0<T.code.length:=by
 have:=h.out 0 (by have:=h.ol;omega)
 omega
theorem bB.any {ni:Nat}{T:Tp}{o:List Int}(h:bB ni T o):(o.any fun x=>!(decide (0≤x) && decide (x≤((T.code.length:Nat):Int)-1)))=false:=by
 rw[List.any_eq_false]
 intro x hx
 obtain⟨j,hj,rfl⟩:=List.mem_iff_getElem.1 hx
 have h9:=h.out j hj
 rw[List.getD_eq_getElem?_getD,List.getElem?_eq_getElem hj,Option.getD_some]at h9
 rw[A5 h9.1,A5 (show o[j]≤((T.code.length:Nat):Int)-1 by omega)]
 decide
structure PB (a:List Int)(T:Tp)(o:List Int):Prop where
 k:bB a.length T o
 n:AX a=true
 e:Gj T o
 i:∀d,AX d=true→DH 2 (D7 a d 2) T
section
variable {p:List Fn} {f:Nat} {a d xs ws:List Int} {T:Tp} {s:Nat}
theorem Lt.tpr (h:Lt p f a xs T)(hB:GK T s)(hs:s≤3000):PB a T xs:=by
 have hi:∀d,AX d=true→DH 2 (D7 a d 2) T:=fun d hd=>(h.tp (m:=2) (by decide) (EB h.n hd) (Fp _ _)).1
 have h0:=hi _<|Kf a.length
 obtain⟨b1,b2,b3,b4⟩:=hB
 have hp:=h.v.par f h.lt
 have ho:=h.v.outs f h.lt
 have hl:=h.l
 have he:=h.en
 refine⟨⟨zO,zO,zO,fun k hk=>?_,fun k hk=>?_,by rw[he.1];exact ho,h0.outs he.2⟩,h.n,he.2,hi⟩
 ·have:=h0.form k hk
  rwa [CB]at this
 ·have:=(h0.gd k hk).1
  omega
theorem Xd {k:Nat}(hk:k<a.length):(D7 a d 2).getD k []=[a.getD k 0,d.getD k 0]:=by rw[Jo hk];rfl
theorem PB.reg (h:PB a T xs)(hd:AX d=true):BZ 2 (Be 2 (D7 a d 2) T.code):=(h.i d hd).regs
theorem PB.adj (h:PB a T xs)(hd:AX d=true):BZ 2 (HF T.code (Be 2 (D7 a d 2) T.code) xs ws):=(h.i d hd).adj h.e
theorem PB.nz (h:PB a T xs)(hd:AX d=true):Lx 2 (D7 a d 2) T.code T.code.length:=(h.i d hd).nz
end
section ops
variable {P:Program} {ops:Array Oper} {w0:World} {Q:Act→World→Prop} {os:List Oper} {ks:List Nat} {N:Nat} {ρ:Nat→Value} {w:World}
 {d:Nat} {ty:TypeId} {pos:String} {aft:Array Edge} {g:Option (Nat×Bool)} {t e:TypeId} {z:Value} {b:Nat}
theorem RE {y0 y1:Operand}{u0 u1:Value}{x0 x1:List Int}(ht:P.underlying t=some (.slice e))(hi:TI P e 1 z b)(hz:z.cells=#[z])
  (h0:Bz N ρ y0=u0) (h1:Bz N ρ y1=u1) (r0:RN [] (B4 rI) w.heap u0 x0) (r1:RN [] (B4 rI) w.heap u1 x1)
  (hu:Up ops N ρ ⟨some d,.buildSlice t 2 #[(0,y0),(1,y1)],ty,pos,aft,g⟩)
  (h:∀v w1,AH w w1→w1.heap.size=w.heap.size+1→RN [] (B4 (B4 rI)) w1.heap v [x0,x1]→C3 v→LW P ops w0 Q os ks (mk N (CY ρ d v)) w1) :
  LW P ops w0 Q (⟨some d,.buildSlice t 2 #[(0,y0),(1,y1)],ty,pos,aft,g⟩::os) (3::ks) (mk N ρ) w:=by
 have c0:=r0.one1 g1
 have c1:=r1.one1 g1
 refine XX (ys:=[u0,u1]) Bv ht hi hz h0 h1 rfl (Mc fun u hu=>?_) hu fun v w1 hE hs hF=>?_
 ·simp only[ze,z2,or_false]at hu
  rcases hu with rfl|rfl
  ·exact c0
  ·exact c1
 ·have hcap:=hF.cap
  obtain⟨F,f1,f2,f3⟩:=hF
  have hB:Hy e [] w.heap.size w1.heap v [x0,x1] [u0,u1] F:=by
   refine⟨f1,f2,fun b hb=>(f3 b hb).1,rfl,fun k hk=>?_⟩
   have key:∀ {v0:Value} {x:List Int},RN [] (B4 rI) w.heap v0 x→RN ([]++F) (B4 rI) w1.heap v0 x:=by
    rintro v0 x ⟨K,k1,k2⟩
    have hlt:=g1.lt k1
    exact⟨K,g1.stable k1 fun c hc=>hE.heap (hlt c hc),fun c hc hm=>by have:=hlt c hc;have:=f3 c (by simpa using hm);omega⟩
   match k with
   |0=>exact key r0
   |1=>exact key r1
   |k+2=>simp at hk;omega
  exact h v w1 hE hs (hB.done fun b hb=>absurd hb z2) hcap
end ops
end
section
def G4 (p:List Fn)(f:Int)(a ws:List Int)(n:Int):Int:=if G0 p f [a,ws]=0 then(if Ff n 0 40=true then 0 else 2)else G0 p f [a,ws]
def GA (p:List Fn)(f:Int)(a ws:List Int)(n:Int):Int:=if G4 p f a ws n=0 then EP p f.toNat a n.toNat else G4 p f a ws n
def Su (p:List Fn)(f:Int)(a ws:List Int)(n:Int):List Int:=if GA p f a ws n=0 then NY p f.toNat a n.toNat ws else []
section
variable {p:List Fn} {f n:Int} {a ws:List Int}
theorem Kz:0≤G4 p f a ws n∧G4 p f a ws n≤2:=by
 have:=LU p f [a,ws]
 unfold G4;split <;> (try split) <;> omega
theorem EU (h:G0 p f [a,ws]≠0):G4 p f a ws n=G0 p f [a,ws]:=if_neg h
theorem Gl (h:G0 p f [a,ws]=0)(h2:Ff n 0 40=false):G4 p f a ws n=2:=by unfold G4;rw[if_pos h,h2];rfl
theorem Oq (h:G0 p f [a,ws]=0)(h2:Ff n 0 40=true):G4 p f a ws n=0:=by unfold G4;rw[if_pos h,h2];rfl
theorem Ed (h:G4 p f a ws n≠0):GA p f a ws n=G4 p f a ws n:=if_neg h
theorem EC (h:G4 p f a ws n=0):GA p f a ws n=EP p f.toNat a n.toNat:=if_pos h
theorem Ee (h:GA p f a ws n≠0):Su p f a ws n=[]:=if_neg h
theorem Jr (h:GA p f a ws n=0):Su p f a ws n=NY p f.toNat a n.toNat ws:=if_pos h
theorem Uu (h:G0 p f [a,ws]=0):GJ p=true∧(0≤f∧f<((p.length:Nat):Int))∧(1≤(p.getD f.toNat Fn.zero).params∧(((p.getD f.toNat Fn.zero).outs.length:Nat):Int)=(p.getD f.toNat Fn.zero).params) ∧
  (((a.length:Nat):Int)=(p.getD f.toNat Fn.zero).params∧AX a=true)∧(((ws.length:Nat):Int)=(p.getD f.toNat Fn.zero).params∧AX ws=true):=by
 unfold G0 at h
 split at h
 ·rename_i h3
  split at h
  ·rename_i h4
   split at h
   ·rename_i h5
    rw[IP]at h4
    simp only[List.all_cons,List.all_nil,Bool.and_true,z7,decide_eq_true_eq]at h5
    exact⟨h3,⟨h4.1.1,zO⟩,⟨h4.2.1,h4.2.2⟩,⟨h5.1.1,h5.1.2⟩,⟨h5.2.1,h5.2.2⟩⟩
   ·omega
  ·omega
 ·omega
theorem bC (h1:GJ p=true)(h2:0≤f∧f<((p.length:Nat):Int))(h3:1≤(p.getD f.toNat Fn.zero).params∧(((p.getD f.toNat Fn.zero).outs.length:Nat):Int)=(p.getD f.toNat Fn.zero).params)
  (h4:((a.length:Nat):Int)=(p.getD f.toNat Fn.zero).params∧AX a=true) (h5:((ws.length:Nat):Int)=(p.getD f.toNat Fn.zero).params∧AX ws=true):G0 p f [a,ws]=0∧G0 p f [a]=0:=by
 have hr:NN p f=true:=IP.2 ⟨⟨h2.1,zO⟩,h3.1,h3.2⟩
 unfold G0
 rw[if_pos h1,if_pos h1,if_pos hr,if_pos hr]
 exact⟨if_pos (by rw[List.all_cons,List.all_cons,List.all_nil,A5 h4.1,A5 h5.1,h4.2,h5.2];rfl),if_pos (by rw[List.all_cons,List.all_nil,A5 h4.1,h4.2];rfl)⟩
theorem Ql (h:G4 p f a ws n=0):G0 p f [a,ws]=0∧(0≤n∧n≤40):=by
 by_cases h1:G0 p f [a,ws]=0
 ·cases h2:Ff n 0 40 with
  |true=>exact⟨h1,BH.1 h2⟩
  |false=>rw[Gl h1 h2]at h;omega
 ·rw[EU h1]at h;exact absurd h h1
theorem bE (h1:G0 p f [a]=0)(hn:0≤n∧n≤40):Mz p f a n=0:=by unfold Mz;rw[if_pos h1,BH.2 hn];rfl
end
end
section
theorem Rs.bind_inv {α β:Type}{r:Rs α}{f:α→Nat→Rs β}{y:β}{t:Nat}(h:r.bind f=.ok y t):∃x s,r=.ok x s∧f x s=.ok y t:=by
 cases r with
 |ok x s=>exact⟨x,s,rfl,h⟩
 |err c=>cases h
section
variable {C:Cg} {e:Ex} {env xs ys:List Int} {s s':Nat} {T T':Tp} {r:Int} {l:List Ex}
theorem Ip (h:Ej C e env s T=.ok (r,T') s'):s+1≤3000:=by
 rw[Ec]at h
 by_cases h0:3000≤s
 ·rw[if_pos h0]at h;cases h
 ·omega
theorem Yb (h:Ej C e env s T=.ok (r,T') s')(hk:e.kind=1):r=((T.vals.length:Nat):Int)∧T'=T.put ⟨2,0,0,e.num⟩ e.num∧s'=s+1:=by
 have h0:=Ip h
 rw[Ec,if_neg zO,if_pos hk]at h
 simp only[Rs.ok.injEq,Prod.mk.injEq]at h
 exact⟨h.1.1.symm,h.1.2.symm,h.2.symm⟩
theorem Yc (h:Ej C e env s T=.ok (r,T') s')(hk:e.kind=2):r=env.getD e.num.toNat 0∧T'=T∧s'=s+1:=by
 have h0:=Ip h
 rw[Ec,if_neg zO,if_neg zO,if_pos hk]at h
 simp only[Rs.ok.injEq,Prod.mk.injEq]at h
 exact⟨h.1.1.symm,h.1.2.symm,h.2.symm⟩
theorem Yd (h:Ej C e env s T=.ok (r,T') s')(hk:e.kind=8)(hl:e.kids.length=3):∃x T1 s1,Ej C (e.kids.getD 0 Ex.zero) env (s+1) T=.ok (x,T1) s1 ∧
  (T1.at x=0→Ej C (e.kids.getD 1 Ex.zero) env s1 (T1.guard x true)=.ok (r,T') s')∧(T1.at x≠0→Ej C (e.kids.getD 2 Ex.zero) env s1 (T1.guard x false)=.ok (r,T') s'):=by
 have h0:=Ip h
 rw[Ec,if_neg zO,if_neg zO,if_neg zO,if_pos hk]at h
 obtain⟨⟨x,T1⟩,s1,h1,h2⟩:=Rs.bind_inv h
 rw[DT _ _ _ _ _ _ (by omega)]at h1
 refine⟨x,T1,s1,h1,fun hx=>?_,fun hx=>?_⟩
 ·have h2:(if T1.at x=0 then NI C e.kids 1 env s1 (T1.guard x true)else NI C e.kids 2 env s1 (T1.guard x false))=.ok (r,T') s':=h2
  rw[if_pos hx,DT _ _ _ _ _ _ (by omega)]at h2;exact h2
 ·have h2:(if T1.at x=0 then NI C e.kids 1 env s1 (T1.guard x true)else NI C e.kids 2 env s1 (T1.guard x false))=.ok (r,T') s':=h2
  rw[if_neg hx,DT _ _ _ _ _ _ (by omega)]at h2;exact h2
theorem Ye (h:Ej C e env s T=.ok (r,T') s')(hk:e.kind=9)(hl:e.kids.length=2):∃x T1 s1,Ej C (e.kids.getD 0 Ex.zero) env (s+1) T=.ok (x,T1) s1∧Ej C (e.kids.getD 1 Ex.zero) (env++[x]) s1 T1=.ok (r,T') s':=by
 have h0:=Ip h
 rw[Ec,if_neg zO,if_neg zO,if_neg zO,if_neg zO,if_pos hk]at h
 obtain⟨⟨x,T1⟩,s1,h1,h2⟩:=Rs.bind_inv h
 rw[DT _ _ _ _ _ _ (by omega)]at h1
 have h2:NI C e.kids 1 (env++[x]) s1 T1=.ok (r,T') s':=h2
 rw[DT _ _ _ _ _ _ (by omega)]at h2
 exact⟨x,T1,s1,h1,h2⟩
theorem RH (h:Ej C e env s T=.ok (r,T') s')(h1:e.kind≠1)(h2:e.kind≠2)(h8:e.kind≠8)(h9:e.kind≠9):∃xs T1 s1,Ey C e.kids env (s+1) T=.ok (xs,T1) s1 ∧
  (e.kind=10→C.one e.num.toNat e.pick.toNat xs s1 T1=.ok (r,T') s')∧(e.kind=11→∃ys,Eb (C.all e.num.toNat) e.count.toNat xs s1 T1=.ok (ys,T') s'∧r=ys.getD e.pick.toNat 0)∧(e.kind≠10→e.kind≠11→Qe e.kind xs s1 T1=.ok (r,T') s'):=by
 have h0:=Ip h
 rw[Ec,if_neg zO,if_neg h1,if_neg h2,if_neg h8,if_neg h9]at h
 obtain⟨⟨xs,T1⟩,s1,h3,h4⟩:=Rs.bind_inv h
 refine⟨xs,T1,s1,h3,fun hk=>?_,fun hk=>?_,fun ha hb=>?_⟩
 ·simp only[hk]at h4;exact h4
 ·have hk10:e.kind≠10:=by omega
  have h4:(if e.kind=10 then C.one e.num.toNat e.pick.toNat xs s1 T1 else if e.kind=11 then(Eb (C.all e.num.toNat) e.count.toNat xs s1 T1).bind fun ys u=>.ok (ys.1.getD e.pick.toNat 0,ys.2) u else Qe e.kind xs s1 T1)=.ok (r,T') s':=h4
  rw[if_neg hk10,if_pos hk]at h4
  obtain⟨⟨ys,T2⟩,s2,h5,h6⟩:=Rs.bind_inv h4
  simp only[Rs.ok.injEq,Prod.mk.injEq]at h6
  obtain⟨⟨q1,rfl⟩,rfl⟩:=h6
  exact⟨ys,h5,q1.symm⟩
 ·have h4:(if e.kind=10 then C.one e.num.toNat e.pick.toNat xs s1 T1 else if e.kind=11 then(Eb (C.all e.num.toNat) e.count.toNat xs s1 T1).bind fun ys u=>.ok (ys.1.getD e.pick.toNat 0,ys.2) u else Qe e.kind xs s1 T1)=.ok (r,T') s':=h4
  rw[if_neg ha,if_neg hb]at h4;exact h4
theorem Yf (h:Ey C [] env s T=.ok (xs,T') s'):xs=[]∧T'=T∧s'=s:=by
 rw[Ey]at h
 simp only[Rs.ok.injEq,Prod.mk.injEq]at h
 exact⟨h.1.1.symm,h.1.2.symm,h.2.symm⟩
theorem Yg {a:Ex}(h:Ey C (a::l) env s T=.ok (xs,T') s'):∃x T1 s1 ys,Ej C a env s T=.ok (x,T1) s1∧Ey C l env s1 T1=.ok (ys,T') s'∧xs=x::ys:=by
 rw[Ey]at h
 obtain⟨⟨x,T1⟩,s1,h1,h2⟩:=Rs.bind_inv h
 obtain⟨⟨ys,T2⟩,s2,h3,h4⟩:=Rs.bind_inv h2
 simp only[Rs.ok.injEq,Prod.mk.injEq]at h4
 obtain⟨⟨q1,rfl⟩,rfl⟩:=h4
 exact⟨x,T1,s1,ys,h1,h3,q1.symm⟩
theorem KA:∀ {l:List Ex}{xs:List Int}{s:Nat}{T:Tp},Ey C l env s T=.ok (xs,T') s'→xs.length=l.length
 |[],_,_,_,h=>by rw[(Yf h).1];rfl
 |a::l,_,_,_,h=>by
  obtain⟨x,T1,s1,ys,_,h2,rfl⟩:=Yg h
  rw[z9,z9,KA h2]
theorem Xe (h:Ey C l env s T=.ok (xs,T') s'):∀ {k:Nat},k<l.length→∃xk Tk sk x T1 s1,Ey C (l.take k) env s T=.ok (xk,Tk) sk∧Ej C (l.getD k Ex.zero) env sk Tk=.ok (x,T1) s1∧Ey C (l.take (k+1)) env s T=.ok (xk++[x],T1) s1:=by
 intro k hk
 have key:∀(j:Nat),j≤l.length→∃xk Tk sk,Ey C (l.take j) env s T=.ok (xk,Tk) sk:=by
  intro j hj
  have e:l.take j++l.drop j=l:=List.take_append_drop j l
  have gen:∀(b a:List Ex) {zs:List Int} {U:Tp} {u:Nat},Ey C (a++b) env s T=.ok (zs,U) u→∃xk Tk sk,Ey C a env s T=.ok (xk,Tk) sk:=by
   intro b
   induction b with
   |nil=>intro a zs U u h;rw[List.append_nil]at h;exact⟨_,_,_,h⟩
   |cons c b ih =>
    intro a zs U u h
    obtain⟨zk,Uk,uk,h1⟩:=ih (a++[c]) (by rw[List.append_assoc];exact h)
    rw[Ms]at h1
    obtain⟨⟨x,T1⟩,s1,h2,_⟩:=Rs.bind_inv h1
    exact⟨_,_,_,h2⟩
  exact gen (l.drop j) (l.take j) (by rw[e];exact h)
 obtain⟨xk,Tk,sk,h1⟩:=key k zO
 obtain⟨yk,Uk,uk,h2⟩:=key (k+1) zO
 have h3:=h2
 rw[Pi hk,h1,Rs.bind_ok]at h3
 obtain⟨⟨x,T1⟩,s1,h4,h5⟩:=Rs.bind_inv h3
 simp only[Rs.ok.injEq,Prod.mk.injEq]at h5
 obtain⟨⟨rfl,rfl⟩,rfl⟩:=h5
 exact⟨xk,Tk,sk,x,T1,s1,h1,h4,h2⟩
theorem PC {f:List Int→Nat→Tp→Rs RL}:∀ {n:Nat}{ys:List Int}{T':Tp}{s':Nat},Eb f n xs s T=.ok (ys,T') s'→∀ {k:Nat},k<n→∃zk Tk sk z T1 s1,Eb f k xs s T=.ok (zk,Tk) sk∧f zk sk Tk=.ok (z,T1) s1∧Eb f (k+1) xs s T=.ok (z,T1) s1
 |0,_,_,_,_,k,hk=>by omega
 |n+1,ys,T',s',h,k,hk=>by
  have h:(Eb f n xs s T).bind (fun x t=>f x.1 t x.2)=.ok (ys,T') s':=h
  obtain⟨⟨zk,Tk⟩,sk,h1,h2⟩:=Rs.bind_inv h
  by_cases e:k=n
  ·subst e
   refine⟨zk,Tk,sk,ys,T',s',h1,h2,?_⟩
   show(Eb f k xs s T).bind (fun x t=>f x.1 t x.2)=_
   rw[h1];exact h2
  ·exact PC h1 zO
theorem Or {k:Int}(h:Qe k xs s T=.ok (r,T') s'):¬Ez k (T.at (I4 k xs).b)∧r=((T.vals.length:Nat):Int)∧T'=T.put (I4 k xs) (Gz k (T.at (I4 k xs).a) (T.at (I4 k xs).b))∧s'=s:=by
 by_cases hz:Ez k (T.at (I4 k xs).b)
 ·rw[Ok hz]at h;cases h
 ·rw[In hz]at h
  simp only[Rs.ok.injEq,Prod.mk.injEq]at h
  exact⟨hz,h.1.1.symm,h.1.2.symm,h.2.symm⟩
end
structure Uv (T T':Tp)(s s':Nat):Prop where
 le:s≤s'∧s'≤3000
 bnd:GK T' s'
 vl:T.vals.length≤T'.vals.length∧T'.vals.length+s≤T.vals.length+s'∧T'.grd.length+s≤T.grd.length+s'
theorem Uv.trans {T T1 T2:Tp}{s s1 s2:Nat}(h:Uv T T1 s s1)(k:Uv T1 T2 s1 s2):Uv T T2 s s2:=⟨by have:=h.le;have:=k.le;omega,k.bnd,by have:=h.vl;have:=k.vl;omega⟩
theorem Uv.refl {T:Tp}{s:Nat}(h:GK T s)(hs:s≤3000):Uv T T s s:=⟨zO,h,zO⟩
def ZS (p:List Fn)(F:Nat)(e:Ex):Prop:=∀ {env:List Int} {s s':Nat} {T T':Tp} {r:Int},wf p ((F:Nat):Int) e ((env.length:Nat):Int)=true→Gj T env→GK T s→s≤3000→Ej (Hi p F) e env s T=.ok (r,T') s'→Uv T T' s s'∧(0≤r∧r<((T'.vals.length:Nat):Int))
theorem HK {p:List Fn}{F:Nat}{env:List Int}:∀(l:List Ex),(∀e∈l,ZS p F e)→(∀e∈l,wf p ((F:Nat):Int) e ((env.length:Nat):Int)=true)→∀ {s s':Nat}{T T':Tp}{xs:List Int},Gj T env→GK T s→s≤3000→Ey (Hi p F) l env s T=.ok (xs,T') s'→Uv T T' s s'∧Gj T' xs
 |[],_,_,s,s',T,T',xs,hE,hB,hs,h=>by
  obtain⟨rfl,rfl,rfl⟩:=Yf h
  exact⟨.refl hB hs,Gj.nil _⟩
 |a::l,ha,hw,s,s',T,T',xs,hE,hB,hs,h=>by
  obtain⟨x,T1,s1,ys,h1,h2,rfl⟩:=Yg h
  obtain⟨q1,q2⟩:=ha a (z0 ..) (hw a (z0 ..)) hE hB hs h1
  obtain⟨q3,q4⟩:=HK l (fun e he=>ha e (z3 _ he)) (fun e he=>hw e (z3 _ he)) (hE.mono q1.vl.1) q1.bnd q1.le.2 h2
  refine⟨q1.trans q3,fun k hk=>?_⟩
  cases k with
  |zero=>have:=q3.vl;show 0≤x∧x<_;omega
  |succ k=>exact q4 k (by simpa using hk)
theorem Js {l:List Ex}{Q:Ex→Prop}(h:∀j,j<l.length→Q (l.getD j Ex.zero)):∀e∈l,Q e:=fun e he=>by
 obtain⟨k,hk,rfl⟩:=List.mem_iff_getElem.1 he
 have:=h k hk
 rwa [List.getD_eq_getElem?_getD,List.getElem?_eq_getElem hk,Option.getD_some]at this
section
variable {p:List Fn} {F:Nat}
theorem Ot (hv:FQ p){f:Nat}(hf:f<F)(hF:F≤p.length)(IH:∀e,ZS p f e)(hsq:(((p.getD f Fn.zero).outs.length:Nat):Int)=(p.getD f Fn.zero).params):∀(n:Nat){xs ys:List Int}{s s':Nat}{T T':Tp},
  ((xs.length:Nat):Int)=(p.getD f Fn.zero).params→Gj T xs→GK T s→s≤3000→Eb ((Hi p F).all f) n xs s T=.ok (ys,T') s'→Uv T T' s s'∧Gj T' ys∧((ys.length:Nat):Int)=(p.getD f Fn.zero).params
 |0,xs,ys,s,s',T,T',hl,hE,hB,hs,h=>by
  have h:Rs.ok (xs,T) s=.ok (ys,T') s':=h
  simp only[Rs.ok.injEq,Prod.mk.injEq]at h
  obtain⟨⟨rfl,rfl⟩,rfl⟩:=h
  exact⟨.refl hB hs,hE,hl⟩
 |n+1,xs,ys,s,s',T,T',hl,hE,hB,hs,h=>by
  have h:(Eb ((Hi p F).all f) n xs s T).bind (fun x t=>(Hi p F).all f x.1 t x.2)=.ok (ys,T') s':=h
  obtain⟨⟨zs,T1⟩,s1,h1,h2⟩:=Rs.bind_inv h
  obtain⟨q1,q2,q3⟩:=Ot hv hf hF IH hsq n hl hE hB hs h1
  have h2:(Hi p F).all f zs s1 T1=.ok (ys,T') s':=h2
  rw[Ki hf]at h2
  have hw:∀e∈(p.getD f Fn.zero).outs,wf p ((f:Nat):Int) e ((zs.length:Nat):Int)=true:=Js fun j hj=>by rw[q3];exact hv.wf f zO j hj
  obtain⟨q4,q5⟩:=HK _ (fun e _=>IH e) hw q2 q1.bnd q1.le.2 h2
  exact⟨q1.trans q4,q5,by rw[KA h2];exact hsq⟩
theorem Xf (hv:FQ p)(hF:F≤p.length)(IH:∀F',F'<F→∀e,ZS p F' e):∀(z:Nat)(e:Ex),e.size≤z→ZS p F e:=by
 intro z
 induction z with
 |zero=>intro e he;have:=Cs e;omega
 |succ z ih =>
  intro e he env s s' T T' r hw hE hB hs h
  have h0:=Ip h
  have hB1:=hB.up (s':=s+1) zO
  have hk:∀j,j<e.kids.length→ZS p F (e.kids.getD j Ex.zero):=fun j hj=>ih _ (by
   have h3:=K9 (l:=e.kids) (k:=j) hj
   have h4:=Cs e
   omega)
  have hb1:=hB.1;have hb2:=hB.2.1;have hb3:=hB.2.2.1
  by_cases k1:e.kind=1
  ·obtain⟨rfl,rfl,rfl⟩:=Yb h k1
   refine⟨⟨zO,hB.put _ (Mh hw k1),?_⟩,by rw[EA];omega⟩
   rw[EA];show _∧_∧T.grd.length+s≤_;omega
  by_cases k2:e.kind=2
  ·obtain⟨rfl,rfl,rfl⟩:=Yc h k2
   have:=Mi hw k2
   exact⟨⟨zO,hB1,zO⟩,hE _ zO⟩
  by_cases k8:e.kind=8
  ·have hl:=Pe hw k8
   obtain⟨x,T1,s1,h1,h2,h3⟩:=Yd h k8 hl
   obtain⟨q1,q2⟩:=hk 0 zO (C1 hw zO zO) hE hB1 h0 h1
   have hq:=q1.vl;have hq2:=q1.le
   have hg:∀b,Uv T (T1.guard x b) s s1:=fun b=>⟨zO,q1.bnd.guard x b zO,by
    show T.vals.length≤T1.vals.length∧T1.vals.length+s≤_∧(T1.grd++[_]).length+s≤_
    rw[z4,zd];omega⟩
   by_cases hx:T1.at x=0
   ·obtain⟨q3,q4⟩:=hk 1 zO (C1 hw zO zO) (hE.mono (T':=T1.guard x true) hq.1) (hg true).bnd q1.le.2 (h2 hx)
    exact⟨(hg true).trans q3,q4⟩
   ·obtain⟨q3,q4⟩:=hk 2 zO (C1 hw zO zO) (hE.mono (T':=T1.guard x false) hq.1) (hg false).bnd q1.le.2 (h3 hx)
    exact⟨(hg false).trans q3,q4⟩
  by_cases k9:e.kind=9
  ·have hl:=Mj hw k9
   obtain⟨x,T1,s1,h1,h2⟩:=Ye h k9 hl
   obtain⟨q1,q2⟩:=hk 0 zO (C1 hw zO zO) hE hB1 h0 h1
   have hq:=q1.vl;have hq2:=q1.le
   obtain⟨q3,q4⟩:=hk 1 zO (by rw[z4,zd];exact HC hw zO k9) ((hE.mono hq.1).snoc q2) q1.bnd q1.le.2 h2
   have hq3:=q3.vl;have hq4:=q3.le
   exact⟨⟨zO,q3.bnd,zO⟩,q4⟩
  obtain⟨xs,T1,s1,h1,h10,h11,hop⟩:=RH h k1 k2 k8 k9
  obtain⟨q1,q2⟩:=HK e.kids (Js hk) (Js fun j hj=>C1 hw hj zO) hE hB1 h0 h1
  have hq:=q1.vl;have hq2:=q1.le
  have hxl:=KA h1
  by_cases k10:e.kind=10
  ·have hc:=FY hw<|.inl k10
   have h2:=h10 k10
   rw[LT (by omega)]at h2
   obtain⟨q3,q4⟩:=IH e.num.toNat zO _ (by rw[hxl,hc.2.1];exact hv.wf e.num.toNat zO e.pick.toNat zO) q2 q1.bnd q1.le.2 h2
   have hq3:=q3.vl;have hq4:=q3.le
   exact⟨⟨zO,q3.bnd,zO⟩,q4⟩
  by_cases k11:e.kind=11
  ·have hc:=FY hw<|.inr k11
   have hl:=Kg hw k11
   obtain⟨ys,h2,rfl⟩:=h11 k11
   obtain⟨q3,q4,q5⟩:=Ot hv (f:=e.num.toNat) zO hF (IH _ zO) hl.1 _ (by rw[hxl];exact hc.2.1) q2 q1.bnd q1.le.2 h2
   have hq3:=q3.vl;have hq4:=q3.le
   exact⟨⟨zO,q3.bnd,zO⟩,q4 _ zO⟩
  ·obtain⟨_,rfl,rfl,rfl⟩:=Or (hop k10 k11)
   have hb:=q1.bnd
   refine⟨⟨zO,GK.dn (hb.put _ (Kk ..)) (by rw[EA];omega) (by show T1.grd.length≤_;omega),?_⟩,by rw[EA];omega⟩
   rw[EA];show _∧_∧T1.grd.length+s≤_;omega
theorem D8 (hv:FQ p):∀F,F≤p.length→∀e,ZS p F e:=by
 intro F
 induction F using Nat.strongRecOn with
 |_ F ih=>intro hF e;exact Xf hv hF (fun F' h' e'=>ih F' h' zO e') _ e (A7 _)
end
def Vn (t1 t2 t3:TypeId)(S:List Nat)(g:Nat)(H:Array Obj)(pp:Value)(ip:Int)(T:Tp):Prop :=
 ∃vc vg vv,BX H g [pp,.int .i64 ip,vc,vg,.slice none 0 0,vv]∧BK t1 t2 t3 S g H vc vg vv T
def Tp.pc (T:Tp)(c:As):Tp:=⟨T.code++[c],T.grd,T.vals⟩
def Tp.pv (T:Tp)(v:Int):Tp:=⟨T.code,T.grd,T.vals++[v]⟩
section
variable {p:List Fn} {F:Nat} {C:Cg} {env xs ys:List Int} {s s' u:Nat} {T T' U:Tp} {l:List Ex}
theorem Ou {α:Type}{x y:α}{s t:Nat}(h:Rs.ok x s=Rs.ok y t):x=y∧s=t:=by
 simp only[Rs.ok.injEq]at h;exact h
theorem KB (h:Ey C l env s T=.ok (xs,T') s'){k:Nat}(hk:k<l.length)(hc:Ey C (l.take k) env s T=.ok (ys,U) u):∃x T1 s1,Ej C (l.getD k Ex.zero) env u U=.ok (x,T1) s1∧Ey C (l.take (k+1)) env s T=.ok (ys++[x],T1) s1:=by
 obtain⟨xk,Tk,sk,x,T1,s1,h1,h2,h3⟩:=Xe h hk
 obtain⟨e1,rfl⟩:=Ou (h1.symm.trans hc)
 simp only[Prod.mk.injEq]at e1
 obtain⟨rfl,rfl⟩:=e1
 exact⟨x,T1,s1,h2,h3⟩
theorem M6 (h:Ey C l env s T=.ok (xs,T') s'){k:Nat}(hk:l.length≤k)(hc:Ey C (l.take k) env s T=.ok (ys,U) u):ys=xs∧U=T'∧u=s':=by
 rw[za hk]at hc
 obtain⟨e1,rfl⟩:=Ou (hc.symm.trans h)
 simp only[Prod.mk.injEq]at e1
 exact⟨e1.1,e1.2,rfl⟩
theorem Uw (hv:FQ p)(hF:F≤p.length)(hw:∀k,k<l.length→wf p ((F:Nat):Int) (l.getD k Ex.zero) ((env.length:Nat):Int)=true)(hE:Gj T env)(hB:GK T s)(hs:s≤3000){k:Nat}(hc:Ey (Hi p F) (l.take k) env s T=.ok (ys,U) u):Uv T U s u∧Gj U ys :=
 HK (l.take k) (fun e _=>D8 hv F hF e) (fun e he=>Js (Q:=fun e=>wf p ((F:Nat):Int) e ((env.length:Nat):Int)=true) hw e (zj he)) hE hB hs hc
end
section
variable {f:List Int→Nat→Tp→Rs RL} {xs ys zs:List Int} {s s' u n k:Nat} {T T' U:Tp}
theorem Xg (h:Eb f n xs s T=.ok (ys,T') s')(hk:k<n)(hc:Eb f k xs s T=.ok (zs,U) u):∃z T1 s1,f zs u U=.ok (z,T1) s1∧Eb f (k+1) xs s T=.ok (z,T1) s1:=by
 obtain⟨zk,Tk,sk,z,T1,s1,h1,h2,h3⟩:=PC h hk
 obtain⟨e1,rfl⟩:=Ou (h1.symm.trans hc)
 simp only[Prod.mk.injEq]at e1
 obtain⟨rfl,rfl⟩:=e1
 exact⟨z,T1,s1,h2,h3⟩
theorem Xh (h:Eb f n xs s T=.ok (ys,T') s')(hk:k=n)(hc:Eb f k xs s T=.ok (zs,U) u):zs=ys∧U=T'∧u=s':=by
 subst hk
 obtain⟨e1,rfl⟩:=Ou (hc.symm.trans h)
 simp only[Prod.mk.injEq]at e1
 exact⟨e1.1,e1.2,rfl⟩
end
section
variable {C:Cg} {e:Ex} {env:List Int} {s s':Nat} {T T':Tp} {r:Int}
theorem bF (h:Ej C e env s T=.ok (r,T') s')(hk:e.kind=7)(hl:e.kids.length=1):∃a T1 s1,Ej C (e.kids.getD 0 Ex.zero) env (s+1) T=.ok (a,T1) s1∧r=((T1.vals.length:Nat):Int)∧T'=T1.put ⟨7,a,0,0⟩ (md (-(T1.vals.getD a.toNat 0)))∧s'=s1:=by
 obtain⟨xs,T1,s1,h1,_,_,hop⟩:=RH h zO zO zO zO
 obtain⟨a,Ta,sa,h2,h3⟩:=KB h1 (k:=0) zO (Mu C e.kids env (s+1) T 0).ok
 obtain⟨e1,rfl,rfl⟩:=M6 h1 zO h3
 obtain⟨_,q1,q2,q3⟩:=Or (hop zO zO)
 refine⟨a,Ta,sa,h2,q1,?_,q3⟩
 rw[q2,← e1,hk,Qf rfl]
 show Ta.put ⟨7,a,0,0⟩ (Gz 7 (Ta.at a) (Ta.at 0))=_
 have:Gz 7 (Ta.at a) (Ta.at 0)=md (0-Ta.at a):=rfl
 rw[this,Int.zero_sub];rfl
theorem bG (h:Ej C e env s T=.ok (r,T') s')(hk:3≤e.kind∧e.kind≤6)(hl:e.kids.length=2):∃a T1 s1 b T2 s2,Ej C (e.kids.getD 0 Ex.zero) env (s+1) T=.ok (a,T1) s1∧Ej C (e.kids.getD 1 Ex.zero) env s1 T1=.ok (b,T2) s2 ∧
  r=((T2.vals.length:Nat):Int)∧T'=T2.put ⟨e.kind,a,b,0⟩ (Gz e.kind (T2.vals.getD a.toNat 0) (T2.vals.getD b.toNat 0))∧s'=s2:=by
 obtain⟨xs,T1,s1,h1,_,_,hop⟩:=RH h zO zO zO zO
 obtain⟨a,Ta,sa,h2,h3⟩:=KB h1 (k:=0) zO (Mu C e.kids env (s+1) T 0).ok
 obtain⟨b,Tb,sb,h4,h5⟩:=KB h1 (k:=1) zO h3
 obtain⟨e1,rfl,rfl⟩:=M6 h1 zO h5
 obtain⟨_,q1,q2,q3⟩:=Or (hop zO zO)
 refine⟨a,Ta,sa,b,Tb,sb,h2,h4,q1,?_,q3⟩
 rw[q2,← e1,GZ (by omega)];rfl
end
@[reducible] def hJ (N:Nat):JR:=⟨fun a b=>∃F,(∀c∈F,N≤c)∧At F a b,fun w=>⟨[],Dy,At.refl [] w⟩,
 fun⟨F,h1,h2⟩ ⟨G,k1,k2⟩=>⟨F++G,fun c hc=>(zi.1 hc).elim (h1 c) (k1 c),(h2.sub (fun b hb=>z8 _ hb)).trans (k2.sub fun b hb=>z1 _ hb)⟩,fun h=>⟨[],Dy,At.of_ext [] h⟩⟩
end
section
@[simp] theorem eR (x:Hh):(aJ x).length=2:=rfl
@[simp] theorem eS (x:As):(aI x).length=4:=rfl
structure gQ where
 ip:Int
 T:Tp
 o:List Int
def Vo:C0 gQ:=fun H cs t F=>∃vc vg vx A B C,cs=[.int .i64 t.ip,vc,vg,vx]∧Bn t.ip∧D5 4 KU H vc t.T.code A∧D5 2 KV H vg t.T.grd B∧B4 rI H vx t.o C∧F=A++(B++C)
theorem DK:CE 4 Vo where
 len:=by rintro H cs x F ⟨vc,vg,vx,A,B,C,rfl,_⟩;rfl
 one:=by
  rintro H cs x F ⟨vc,vg,vx,A,B,C,rfl,h0,h1,h2,h3,rfl⟩ u hu
  simp only[ze,z2,or_false]at hu
  rcases hu with rfl|rfl|rfl|rfl
  ·exact⟨rfl,rfl⟩
  ·exact⟨(Am AY).cells h1,(Am AY).one h1⟩
  ·exact⟨(Am Bb).cells h2,(Am Bb).one h2⟩
  ·exact⟨g1.cells h3,g1.one h3⟩
 lt:=by
  rintro H cs x F ⟨vc,vg,vx,A,B,C,rfl,h0,h1,h2,h3,rfl⟩ b hb
  rcases zi.1 hb with hb|hb
  ·exact (Am AY).lt h1 b hb
  ·rcases zi.1 hb with hb|hb
   ·exact (Am Bb).lt h2 b hb
   ·exact g1.lt h3 b hb
 stable:=by
  rintro H H' cs x F ⟨vc,vg,vx,A,B,C,rfl,h0,h1,h2,h3,rfl⟩ hb
  exact⟨vc,vg,vx,A,B,C,rfl,h0,(Am AY).stable h1 fun b h=>hb b (z8 _ h),(Am Bb).stable h2 fun b h=>hb b (z1 _ (z8 _ h)),g1.stable h3 fun b h=>hb b (z1 _ (z1 _ h)),rfl⟩
section rtp
variable {S:List Nat} {H:Array Obj} {cs:List Value} {t:gQ} {ip:Int} {T:Tp} {o:List Int} {vc vg vx:Value}
theorem RTp.of (h:RN S Vo H cs t):∃vc vg vx,cs=[.int .i64 t.ip,vc,vg,vx]∧Bn t.ip∧RN S (D5 4 KU) H vc t.T.code∧RN S (D5 2 KV) H vg t.T.grd∧RN S (B4 rI) H vx t.o:=by
 obtain⟨F,⟨vc,vg,vx,A,B,C,rfl,h0,h1,h2,h3,rfl⟩,hb⟩:=h
 exact⟨vc,vg,vx,rfl,h0,⟨A,h1,fun b h=>hb b (z8 _ h)⟩,⟨B,h2,fun b h=>hb b (z1 _ (z8 _ h))⟩,⟨C,h3,fun b h=>hb b (z1 _ (z1 _ h))⟩⟩
theorem RTp.mk' (h0:Bn ip)(h1:RN S (D5 4 KU) H vc T.code)(h2:RN S (D5 2 KV) H vg T.grd)(h3:RN S (B4 rI) H vx o):RN S Vo H [.int .i64 ip,vc,vg,vx] ⟨ip,T,o⟩:=by
 obtain⟨A,a1,a2⟩:=h1
 obtain⟨B,b1,b2⟩:=h2
 obtain⟨C,c1,c2⟩:=h3
 refine⟨A++(B++C),⟨vc,vg,vx,A,B,C,rfl,h0,a1,b1,c1,rfl⟩,fun b hb=>?_⟩
 rcases zi.1 hb with hb|hb
 ·exact a2 b hb
 ·rcases zi.1 hb with hb|hb
  ·exact b2 b hb
  ·exact c2 b hb
end rtp
section
variable {m ni k:Nat} {cs:List As} {R B L:List Sr} {os ws:List Int} {r:Int} {s:Sr} {w x:Int}
theorem bH (K:Nat):cst K 0=List.replicate K 0:=by
 unfold cst
 cases K with
 |zero=>rfl
 |succ K=>rw[List.replicate_succ,List.set_cons_zero]
theorem Zx {K:Nat}{s:Sr}(h:Cv K s)(x:Int):Cq s (cst K x)=s.set 0 (md (s.getD 0 0+x)):=by
 unfold Cq
 refine Mg (d:=0) (k:=s.length) (fun r hr=>?_) (by simp) (by simp)
 rw[C8 _ hr]
 have hl:=h.1
 have hc:(cst K x).getD r 0=if r=0 then x else 0:=by
  unfold cst
  simp only[List.getD_eq_getElem?_getD,List.getElem?_set,List.getElem?_replicate,z5]
  by_cases e:r=0
  ·subst e;have hK:0<K:=by omega
   simp[hK]
  ·rw[if_neg (fun h9=>e h9.symm),if_neg e,if_pos (by omega)];rfl
 rw[hc]
 by_cases e:r=0
 ·subst e
  rw[if_pos rfl]
  simp[List.getD_eq_getElem?_getD,List.getElem?_set,hr]
 ·rw[if_neg e,Int.add_zero]
  have h9:=BW h.2 r
  rw[show md (s.getD r 0)=s.getD r 0 from QP h9.1 h9.2]
  simp[List.getD_eq_getElem?_getD,List.getElem?_set,fun h9=>e (Eq.symm h9)]
  rw[if_neg (fun h9=>e h9.symm)]
theorem bI {K:Nat}{oT:List Int}(h:BZ K (Ku oT ws k B))(hr:(oT.getD k 0).toNat<B.length):Ku oT ws (k+1) B=(Ku oT ws k B).set (oT.getD k 0).toNat (Cq ((Ku oT ws k B).getD (oT.getD k 0).toNat []) (cst K (ws.getD k 0))):=by
 rw[Zx (h _ (by rw[Di];exact hr))];rfl
theorem bJ {K n:Nat}(h:BZ K R)(hn:R.length=n):List.replicate n (cst K 0)=IX R:=by
 refine List.ext_getElem (by simp[hn]) fun k h1 h2=>?_
 have hk:k<R.length:=by simpa using h2
 have e:=(h k hk).1
 have e2:R.getD k []=R[k]:=by simp[List.getD_eq_getElem?_getD,hk]
 rw[e2]at e
 have e3:(IX R)[k]=List.replicate (R[k]).length 0:=by simp[IX]
 rw[e3,e,List.getElem_replicate,bH]
def bK (B:List Sr)(r:Int)(s:Sr):List Sr:=B.set r.toNat (EK (B.getD r.toNat []) s)
theorem Qm (h:(B.getD r.toNat []).length≤s.length):bK B r s=ET B r (CL s 1000002):=by
 unfold bK ET
 rw[Q3 h]
theorem Ux (h:(cs.getD k As.zero).op=4)(hl:((ET B (cs.getD k As.zero).a (B.getD k [])).getD (cs.getD k As.zero).b.toNat []).length≤(B.getD k []).length):ME cs R k B=bK (ET B (cs.getD k As.zero).a (B.getD k [])) (cs.getD k As.zero).b (B.getD k []):=by
 rw[NU h,Qm hl]
theorem Uy {q z:Sr}{B1:List Sr}(h:(cs.getD k As.zero).op=6)(hq:BT (B.getD k []) (R.getD (cs.getD k As.zero).b.toNat [])=q)(hz:Ce q (R.getD k [])=z)(hB:ET B (cs.getD k As.zero).a q=B1)(hl:(B1.getD (cs.getD k As.zero).b.toNat []).length≤z.length):ME cs R k B=bK B1 (cs.getD k As.zero).b z:=by
 subst hq hz hB
 rw[NV h,Qm hl]
theorem Uz (h:(cs.getD k As.zero).op=7)(hl:(B.getD (cs.getD k As.zero).a.toNat []).length≤(B.getD k []).length):ME cs R k B=bK B (cs.getD k As.zero).a (B.getD k []):=by
 rw[NW h,Qm hl]
def OW (cs:List As)(L:List Sr)(B:List Int):Nat→List Int
 |0=>B
 |k+1=>if (cs.getD k As.zero).op=1 then(OW cs L B k).set (cs.getD k As.zero).num.toNat (md ((OW cs L B k).getD (cs.getD k As.zero).num.toNat 0+(L.getD k []).getD 0 0))else OW cs L B k
variable {D:List Int}
theorem RJ (h:(cs.getD k As.zero).op=1):OW cs L D (k+1)=(OW cs L D k).set (cs.getD k As.zero).num.toNat (md ((OW cs L D k).getD (cs.getD k As.zero).num.toNat 0+(L.getD k []).getD 0 0)):=if_pos h
theorem RK (h:(cs.getD k As.zero).op≠1):OW cs L D (k+1)=OW cs L D k:=if_neg h
@[simp] theorem Xi (k:Nat):(OW cs L D k).length=D.length:=by
 induction k with
 |zero=>rfl
 |succ k ih =>
  by_cases h:(cs.getD k As.zero).op=1
  ·rw[RJ h,z6,ih]
  ·rw[RK h,ih]
theorem UA {A:List Sr}{j:Nat}{s:Sr}:DI (A.set j s)=(DI A).set j (s.getD 0 0):=by unfold DI;rw[List.map_set]
theorem Sv {A:List Sr}{j:Nat}:(DI A).getD j 0=(A.getD j []).getD 0 0:=by
 unfold DI
 by_cases h:j<A.length
 ·rw[Ci (d:=[]) h]
 ·simp[List.getD_eq_getElem?_getD,List.getElem?_eq_none (Nat.le_of_not_lt h)]
theorem Zy {a b:Sr}(h:0<a.length):(Cq a b).getD 0 0=md (a.getD 0 0+b.getD 0 0):=C8 _ h
theorem PD (hm:1≤m)(hB:BZ m B)(hf:∀k,k<cs.length→DN B.length k (cs.getD k As.zero)):∀k,k≤cs.length→DI (Ru cs L k B)=OW cs L (DI B) k
 |0,_=>rfl
 |k+1,hk=>by
  have ih:=PD hm hB hf k zO
  by_cases h:(cs.getD k As.zero).op=1
  ·have hi:=(hf k zO).i1 h
   have hs:=(Kv (L:=L) hf hB k zO (cs.getD k As.zero).num.toNat (by rw[HG];omega)).1
   rw[Lr h,RJ h]
   unfold ET
   rw[UA,ih,Zy zO,← Sv,ih]
  ·rw[Ls h,RK h,ih]
theorem UB (hf:∀k,k<cs.length→DN ni k (cs.getD k As.zero)):DI (Ul ni 1 cs L)=OW cs L (List.replicate ni 0) cs.length:=by
 unfold Ul
 rw[PD (m:=1) (A7 _) (IT 1 ni) (by rw[z5];exact hf) _ (A7 _)]
 congr 1
 unfold DI
 simp
theorem Zz {p:List Fn}{f:Nat}{a ws xs:List Int}{T:Tp}(hq:Qk p f a=(xs,T))(hf:∀k,k<T.code.length→DN a.length k (T.code.getD k As.zero)) :
  SG p f a ws=OW T.code (HF T.code (Be 1 (Cw a) T.code) xs ws) (List.replicate a.length 0) T.code.length:=by
 unfold SG PW
 rw[hq,Es]
 exact UB hf
end
end
section
section
variable {p:List Fn} {f:Nat} {a:List Int}
theorem Xj (hv:FQ p)(hf:f<p.length)(hl:((a.length:Nat):Int)=(p.getD f Fn.zero).params)(hn:AX a=true)(h0:GL p f a=0) :
  ∃xs T s,Lv p f a=.ok (xs,T) s∧Lt p f a xs T∧PB a T xs∧DH 1 (Cw a) T:=by
 obtain⟨xs,T,hR⟩:=Ut hv hf hl hn h0
 obtain⟨s,hs⟩:=hR.r
 have hrec:=hs.ok
 have hpr:=hv.par f hf
 have hou:=hv.outs f hf
 have hbd:GK (Hk a a.length) 0:=TL hn zO
 have hen:Gj (Hk a a.length) (FR a.length):=TM a a.length
 have hw:∀j,j<(p.getD f Fn.zero).outs.length→wf p ((f:Nat):Int) ((p.getD f Fn.zero).outs.getD j Ex.zero) (((FR a.length).length:Nat):Int)=true:=by
  intro j hj
  have h9:=hv.wf f hf j hj
  rw[DP,hl];exact h9
 have hq:=HK _ (fun e _=>D8 hv _ zO e) (Js hw) hen hbd zO (show Ey (Hi p f) (p.getD f Fn.zero).outs (FR a.length) 0 (Hk a a.length)=.ok (xs,T) s from hrec)
 have hle:=hq.1.le
 exact⟨xs,T,s,hrec,hR,hR.tpr hq.1.bnd zO,(hR.tp (A7 1) (CF hn) (DY a)).1⟩
theorem Xk {x:RL}{s:Nat}(h:Lv p f a=.ok x s):Qk p f a=x:=by unfold Qk;rw[h]
theorem fu {f n:Int}{ws:List Int}(h:GJ p=false):1=G4 p f a ws n:=by
 have:G0 p f [a,ws]=1:=by unfold G0;rw[h];rfl
 rw[EU zO,this]
theorem fv {f n:Int}{ws:List Int}(h:GJ p=true)(h2:NN p f=false):2=G4 p f a ws n:=by
 have:G0 p f [a,ws]=2:=by unfold G0;rw[if_pos h,h2];rfl
 rw[EU zO,this]
theorem bL {f:Int}{ws:List Int}{x y:Bool}(h:GJ p=true)(h2:NN p f=true)(hx:(decide (((a.length:Nat):Int)=(p.getD f.toNat Fn.zero).params) && AX a)=x)(hy:(decide (((ws.length:Nat):Int)=(p.getD f.toNat Fn.zero).params) && AX ws)=y):G0 p f [a,ws]=if (x && y)=true then 0 else 2:=by
 unfold G0
 rw[if_pos h,if_pos h2,List.all_cons,List.all_cons,List.all_nil,Bool.and_true,hx,hy]
theorem UC {f n:Int}{ws:List Int}{x y:Bool}(hx:(decide (((a.length:Nat):Int)=(p.getD f.toNat Fn.zero).params) && AX a)=x)(hy:(decide (((ws.length:Nat):Int)=(p.getD f.toNat Fn.zero).params) && AX ws)=y)(h:GJ p=true)(h2:NN p f=true)(h3:Ff n 0 40=false∨(x && y)=false):2=G4 p f a ws n:=by
 have hc:=bL h h2 hx hy
 cases hxy:(x && y)with
 |false=>rw[hxy]at hc;rw[EU (by rw[hc];decide),hc];rfl
 |true =>
  rw[hxy]at hc
  rw[Gl (by rw[hc];rfl) (h3.resolve_right (by rw[hxy];simp))]
theorem fw {f n:Int}{ws:List Int}(h:GJ p=true)(h2:NN p f=true)(h3:Ff n 0 40=true)(h4:((a.length:Nat):Int)=(p.getD f.toNat Fn.zero).params)(h5:AX a=true)(h6:((ws.length:Nat):Int)=(p.getD f.toNat Fn.zero).params)(h7:AX ws=true):0=G4 p f a ws n:=by
 rw[Oq (by rw[bL h h2 (by rw[A5 h4,h5]) (by rw[A5 h6,h7])];rfl) h3]
end
end
theorem ZA {p:List Fn}{f:Int}{a d:Sr}(h:GJ p=true)(hf:0≤f∧f<((p.length:Nat):Int))(hl:((a.length:Nat):Int)=(p.getD f.toNat Fn.zero).params)(hn:AX a=true)(hl2:((d.length:Nat):Int)=(p.getD f.toNat Fn.zero).params)(hn2:AX d=true):HX p f a d=0:=by
 unfold HX Kl
 rw[if_pos h,if_pos zO,hn,hn2,A5 hl,A5 hl2];rfl
theorem mixed:Tryz.prog.follows .mixedOrders=true:=by kernel_rfl
abbrev BN (k:Nat):Prop:=((Tryz.prog.funcs[k]?).map fun fn=>(fn.name != "runtime.NumGoroutine") && fn.body.isSome) = some true
theorem BP {k:Nat} (h:((Tryz.prog.funcs[k]?).map fun fn=>(fn.name != "runtime.NumGoroutine") && fn.body.isSome) = some true):BN k:=h
theorem fy:BN 12:=BP (by kernel_rfl)
theorem fz:BN 14:=BP (by kernel_rfl)
theorem bM:BN 21:=BP (by kernel_rfl)
theorem fA:BN 22:=BP (by kernel_rfl)
theorem fB:BN 23:=BP (by kernel_rfl)
theorem fC:BN 24:=BP (by kernel_rfl)
theorem fE:BN 25:=BP (by kernel_rfl)
theorem bN:BN 26:=BP (by kernel_rfl)
theorem fF:BN 27:=BP (by kernel_rfl)
theorem fG:BN 28:=BP (by kernel_rfl)
theorem fH:BN 29:=BP (by kernel_rfl)
theorem bO:BN 30:=BP (by kernel_rfl)
theorem ZB:BN 50:=BP (by kernel_rfl)
theorem ZC:BN 53:=BP (by kernel_rfl)
theorem fI:BN 55:=BP (by kernel_rfl)
theorem ZD:BN 56:=BP (by kernel_rfl)
theorem Sw:BN 57:=BP (by kernel_rfl)
theorem Xl:BN 58:=BP (by kernel_rfl)
theorem ZE:BN 59:=BP (by kernel_rfl)
theorem fJ:BN 60:=BP (by kernel_rfl)
theorem ZF:BN 61:=BP (by kernel_rfl)
theorem fK:BN 62:=BP (by kernel_rfl)
theorem Nj:BN 63:=BP (by kernel_rfl)
theorem UD:BN 64:=BP (by kernel_rfl)
theorem fL:BN 65:=BP (by kernel_rfl)
theorem FC:BN 66:=BP (by kernel_rfl)
theorem fM:BN 71:=BP (by kernel_rfl)
theorem I5:BN 72:=BP (by kernel_rfl)
theorem Sx:BN 73:=BP (by kernel_rfl)
theorem bP:BN 74:=BP (by kernel_rfl)
theorem Sy:BN 75:=BP (by kernel_rfl)
theorem bQ:BN 76:=BP (by kernel_rfl)
theorem bR:BN 77:=BP (by kernel_rfl)
theorem Xm:BN 78:=BP (by kernel_rfl)
theorem Xn:BN 79:=BP (by kernel_rfl)
theorem bS:BN 80:=BP (by kernel_rfl)
theorem fN:BN 81:=BP (by kernel_rfl)
theorem fO:BN 82:=BP (by kernel_rfl)
theorem MH:BN 83:=BP (by kernel_rfl)
theorem fP:BN 84:=BP (by kernel_rfl)
theorem fQ:BN 85:=BP (by kernel_rfl)
theorem fR:BN 86:=BP (by kernel_rfl)
theorem fS:BN 91:=BP (by kernel_rfl)
theorem ED:BN 94:=BP (by kernel_rfl)
theorem Yh:BN 100:=BP (by kernel_rfl)
theorem bT:BN 105:=BP (by kernel_rfl)
theorem UE:BN 111:=BP (by kernel_rfl)
theorem PE:BN 113:=BP (by kernel_rfl)
theorem Yi:BN 114:=BP (by kernel_rfl)
theorem Yj:BN 115:=BP (by kernel_rfl)
theorem bU:BN 116:=BP (by kernel_rfl)
theorem UF:BN 117:=BP (by kernel_rfl)
theorem MI:BN 118:=BP (by kernel_rfl)
theorem bV:BN 119:=BP (by kernel_rfl)
theorem bW:BN 120:=BP (by kernel_rfl)
theorem bX:BN 121:=BP (by kernel_rfl)
theorem bY:BN 122:=BP (by kernel_rfl)
theorem PF:BN 123:=BP (by kernel_rfl)
theorem MJ:BN 124:=BP (by kernel_rfl)
theorem bZ:BN 125:=BP (by kernel_rfl)
theorem cA:BN 126:=BP (by kernel_rfl)
theorem cB:BN 129:=BP (by kernel_rfl)
theorem cC:BN 130:=BP (by kernel_rfl)
theorem cD:BN 131:=BP (by kernel_rfl)
theorem Yk:BN 132:=BP (by kernel_rfl)
theorem RM:BN 133:=BP (by kernel_rfl)
theorem cE:BN 134:=BP (by kernel_rfl)
theorem Yl:BN 135:=BP (by kernel_rfl)
theorem cF:BN 136:=BP (by kernel_rfl)
theorem cG:BN 137:=BP (by kernel_rfl)
theorem cH:BN 138:=BP (by kernel_rfl)
theorem cI:BN 139:=BP (by kernel_rfl)
theorem cJ:BN 140:=BP (by kernel_rfl)
theorem cK:BN 141:=BP (by kernel_rfl)
theorem cL:BN 147:=BP (by kernel_rfl)
theorem cM:BN 153:=BP (by kernel_rfl)
theorem cN:BN 154:=BP (by kernel_rfl)
theorem cO:BN 155:=BP (by kernel_rfl)
theorem cP:BN 156:=BP (by kernel_rfl)
theorem UG:BN 157:=BP (by kernel_rfl)
theorem Ym:BN 163:=BP (by kernel_rfl)
theorem UH:BN 166:=BP (by kernel_rfl)
theorem Iq:BN 167:=BP (by kernel_rfl)
theorem cQ:BN 168:=BP (by kernel_rfl)
theorem cR:BN 169:=BP (by kernel_rfl)
theorem cS:BN 170:=BP (by kernel_rfl)
theorem cT:BN 171:=BP (by kernel_rfl)
theorem Yn:BN 172:=BP (by kernel_rfl)
theorem PG:BN 173:=BP (by kernel_rfl)
theorem NZ:BN 174:=BP (by kernel_rfl)
theorem UI:BN 175:=BP (by kernel_rfl)
theorem UJ:BN 176:=BP (by kernel_rfl)
theorem KC:BN 177:=BP (by kernel_rfl)
theorem RO:BN 180:=BP (by kernel_rfl)
theorem Yo:BN 181:=BP (by kernel_rfl)
theorem cU:BN 182:=BP (by kernel_rfl)
theorem cV:BN 183:=BP (by kernel_rfl)
theorem cW:BN 184:=BP (by kernel_rfl)
theorem cX:BN 185:=BP (by kernel_rfl)
theorem cY:BN 189:=BP (by kernel_rfl)
theorem UK:BN 190:=BP (by kernel_rfl)
theorem cZ:BN 191:=BP (by kernel_rfl)
theorem dA:BN 192:=BP (by kernel_rfl)
theorem dB:BN 193:=BP (by kernel_rfl)
theorem Yp:BN 194:=BP (by kernel_rfl)
theorem RQ:BN 195:=BP (by kernel_rfl)
theorem UL:BN 201:=BP (by kernel_rfl)
theorem RR:BN 202:=BP (by kernel_rfl)
theorem MK:BN 203:=BP (by kernel_rfl)
theorem UM:BN 204:=BP (by kernel_rfl)
theorem dC:BN 205:=BP (by kernel_rfl)
theorem Yq:BN 206:=BP (by kernel_rfl)
theorem J8:BN 207:=BP (by kernel_rfl)
theorem PH:BN 208:=BP (by kernel_rfl)
theorem PI:BN 209:=BP (by kernel_rfl)
theorem UN:BN 210:=BP (by kernel_rfl)
theorem Yr:BN 211:=BP (by kernel_rfl)
theorem Ys:BN 212:=BP (by kernel_rfl)
theorem UO:BN 213:=BP (by kernel_rfl)
theorem O0:BN 214:=BP (by kernel_rfl)
theorem Hm:BN 226:=BP (by kernel_rfl)
theorem dE:BN 227:=BP (by kernel_rfl)
theorem dF:BN 231:=BP (by kernel_rfl)
theorem Yt:BN 232:=BP (by kernel_rfl)
theorem RS:BN 233:=BP (by kernel_rfl)
theorem ML:BN 234:=BP (by kernel_rfl)
theorem Yu:BN 235:=BP (by kernel_rfl)
theorem Yw:BN 236:=BP (by kernel_rfl)
theorem Yx:BN 237:=BP (by kernel_rfl)
theorem dG:BN 238:=BP (by kernel_rfl)
theorem dH:BN 245:=BP (by kernel_rfl)
theorem Yy:BN 246:=BP (by kernel_rfl)
theorem dI:BN 247:=BP (by kernel_rfl)
theorem dJ:BN 248:=BP (by kernel_rfl)
theorem dK:BN 249:=BP (by kernel_rfl)
theorem dL:BN 250:=BP (by kernel_rfl)
theorem dM:BN 251:=BP (by kernel_rfl)
theorem PJ:BN 252:=BP (by kernel_rfl)
theorem dN:BN 253:=BP (by kernel_rfl)
theorem dO:BN 254:=BP (by kernel_rfl)
theorem dP:BN 256:=BP (by kernel_rfl)
theorem AC:Cy Tryz.prog 2:=by unfold Cy;kernel_rfl
theorem MM:Cy Tryz.prog 3:=by unfold Cy;kernel_rfl
theorem fT:Cy Tryz.prog 4:=by unfold Cy;kernel_rfl
theorem fU:Cy Tryz.prog 5:=by unfold Cy;kernel_rfl
theorem Qn:Cy Tryz.prog 9:=by unfold Cy;kernel_rfl
theorem RU:Cy Tryz.prog 22:=by unfold Cy;kernel_rfl
theorem C4:Cy Tryz.prog 24:=by unfold Cy;kernel_rfl
theorem B6:Cy Tryz.prog 27:=by unfold Cy;kernel_rfl
theorem Bf:Cy Tryz.prog 31:=by unfold Cy;kernel_rfl
theorem DQ:Cy Tryz.prog 36:=by unfold Cy;kernel_rfl
theorem MN:Cy Tryz.prog 37:=by unfold Cy;kernel_rfl
theorem MO:Cy Tryz.prog 57:=by unfold Cy;kernel_rfl
theorem J9:Cy Tryz.prog 91:=by unfold Cy;kernel_rfl
theorem UP:Cy Tryz.prog 96:=by unfold Cy;kernel_rfl
theorem Ov:Cy Tryz.prog 159:=by unfold Cy;kernel_rfl
theorem HL:(Tryz.prog.info? 2).map (·.size)=some 1:=by kernel_rfl
theorem gR:(Tryz.prog.info? 3).map (·.size)=some 1:=by kernel_rfl
theorem dQ:(Tryz.prog.info? 24).map (·.size)=some 1:=by kernel_rfl
theorem I6:(Tryz.prog.info? 27).map (·.size)=some 1:=by kernel_rfl
theorem Sz:(Tryz.prog.info? 31).map (·.size)=some 1:=by kernel_rfl
theorem Xo:(Tryz.prog.info? 36).map (·.size)=some 1:=by kernel_rfl
theorem dR:(Tryz.prog.info? 37).map (·.size)=some 1:=by kernel_rfl
theorem dS:(Tryz.prog.info? 57).map (·.size)=some 1:=by kernel_rfl
theorem Yz:(Tryz.prog.info? 159).map (·.size)=some 1:=by kernel_rfl
theorem BG:TI Tryz.prog 2 1 (.int .i64 0) 8:=by unfold TI;kernel_rfl
theorem gS:TI Tryz.prog 5 1 (.int .u8 0) 1:=by unfold TI;kernel_rfl
theorem fV:TI Tryz.prog 9 1 (.string ByteArray.empty) 16:=by unfold TI;kernel_rfl
theorem AT:TI Tryz.prog 27 1 (.slice none 0 0) 24:=by unfold TI;kernel_rfl
theorem u2:Tryz.prog.underlying 2=some (.int .i64):=by kernel_rfl
theorem u3:Tryz.prog.underlying 3=some (.int .i64):=by kernel_rfl
theorem u4:Tryz.prog.underlying 4=some (.bool):=by kernel_rfl
theorem u5:Tryz.prog.underlying 5=some (.int .u8):=by kernel_rfl
theorem u9:Tryz.prog.underlying 9=some (.string):=by kernel_rfl
theorem UQ:Tryz.prog.underlying 22=some (.slice 5):=by kernel_rfl
theorem Gx:Tryz.prog.underlying 24=some (.slice 33):=by kernel_rfl
theorem Bt:Tryz.prog.underlying 27=some (.slice 2):=by kernel_rfl
theorem CR:Tryz.prog.underlying 31=some (.slice 127):=by kernel_rfl
theorem JY:Tryz.prog.underlying 36=some (.slice 46):=by kernel_rfl
theorem Vp:Tryz.prog.underlying 37=some (.slice 177):=by kernel_rfl
theorem Bx:Tryz.prog.underlying 57=some (.slice 27):=by kernel_rfl
theorem Xp:Tryz.prog.underlying 122=some (.slice 9):=by kernel_rfl
theorem Xq:Tryz.prog.underlying 159=some (.int .u64):=by kernel_rfl
theorem Cf:Ft Tryz.prog 26 1=true:=by kernel_rfl
theorem UR:(Tryz.prog.info? 26).map (·.zero)=some (some (.agg #[.slice none 0 0])):=by kernel_rfl
theorem BB:Gy Tryz.prog 26 0 0=true:=by kernel_rfl
theorem KD:Ft Tryz.prog 33 3=true:=by kernel_rfl
theorem Xr:(Tryz.prog.info? 33).map (·.zero)=some (some (.agg #[.string ByteArray.empty,.int .i64 0,.slice none 0 0])):=by kernel_rfl
theorem Co:TI Tryz.prog 33 3 (.agg #[.string ByteArray.empty,.int .i64 0,.slice none 0 0]) 48:=by unfold TI;kernel_rfl
theorem L2:Gy Tryz.prog 33 0 0=true:=by kernel_rfl
theorem C9:Gy Tryz.prog 33 1 1=true:=by kernel_rfl
theorem BU:Gy Tryz.prog 33 2 2=true:=by kernel_rfl
theorem EE:Ft Tryz.prog 39 4=true:=by kernel_rfl
theorem Xs:(Tryz.prog.info? 39).map (·.zero)=some (some (.agg #[.int .i64 0,.slice none 0 0,.slice none 0 0,.slice none 0 0])):=by kernel_rfl
theorem H2:Gy Tryz.prog 39 0 0=true:=by kernel_rfl
theorem Cp:Gy Tryz.prog 39 1 1=true:=by kernel_rfl
theorem HM:Gy Tryz.prog 39 2 2=true:=by kernel_rfl
theorem EV:Gy Tryz.prog 39 3 3=true:=by kernel_rfl
theorem DZ:Ft Tryz.prog 46 4=true:=by kernel_rfl
theorem Qo:(Tryz.prog.info? 46).map (·.zero)=some (some (.agg #[.int .i64 0,.int .i64 0,.int .i64 0,.int .i64 0])):=by kernel_rfl
theorem FD:TI Tryz.prog 46 4 (.agg #[.int .i64 0,.int .i64 0,.int .i64 0,.int .i64 0]) 32:=by unfold TI;kernel_rfl
theorem HN:Gy Tryz.prog 46 0 0=true:=by kernel_rfl
theorem BC:Gy Tryz.prog 46 1 1=true:=by kernel_rfl
theorem BD:Gy Tryz.prog 46 2 2=true:=by kernel_rfl
theorem CO:Gy Tryz.prog 46 3 3=true:=by kernel_rfl
theorem RV:Gy Tryz.prog 104 0 0=true:=by kernel_rfl
theorem GN:Gy Tryz.prog 104 1 1=true:=by kernel_rfl
theorem E7:Gy Tryz.prog 104 2 5=true:=by kernel_rfl
theorem Ox:Gy Tryz.prog 104 3 6=true:=by kernel_rfl
theorem G5:Gy Tryz.prog 104 4 7=true:=by kernel_rfl
theorem Fq:Gy Tryz.prog 125 0 0=true:=by kernel_rfl
theorem Xt:Gy Tryz.prog 125 1 1=true:=by kernel_rfl
theorem Oy:Gy Tryz.prog 125 2 2=true:=by kernel_rfl
theorem Xu:Gy Tryz.prog 125 3 3=true:=by kernel_rfl
theorem Bh:Ft Tryz.prog 127 5=true:=by kernel_rfl
theorem Ir:(Tryz.prog.info? 127).map (·.zero)=some (some (.agg #[.int .i64 0,.int .i64 0,.int .i64 0,.int .i64 0,.slice none 0 0])):=by kernel_rfl
theorem Bj:TI Tryz.prog 127 5 (.agg #[.int .i64 0,.int .i64 0,.int .i64 0,.int .i64 0,.slice none 0 0]) 56:=by unfold TI;kernel_rfl
theorem Br:Gy Tryz.prog 127 0 0=true:=by kernel_rfl
theorem BF:Gy Tryz.prog 127 1 1=true:=by kernel_rfl
theorem D1:Gy Tryz.prog 127 2 2=true:=by kernel_rfl
theorem Dz:Gy Tryz.prog 127 3 3=true:=by kernel_rfl
theorem Bc:Gy Tryz.prog 127 4 4=true:=by kernel_rfl
theorem Xv:Gy Tryz.prog 166 0 0=true:=by kernel_rfl
theorem Oz:Gy Tryz.prog 166 1 1=true:=by kernel_rfl
theorem M7:Gy Tryz.prog 166 2 2=true:=by kernel_rfl
theorem HO:Gy Tryz.prog 166 3 3=true:=by kernel_rfl
theorem US:Ft Tryz.prog 177 2=true:=by kernel_rfl
theorem dT:(Tryz.prog.info? 177).map (·.zero)=some (some (.agg #[.int .i64 0,.bool false])):=by kernel_rfl
theorem L3:TI Tryz.prog 177 2 (.agg #[.int .i64 0,.bool false]) 16:=by unfold TI;kernel_rfl
theorem RW:Gy Tryz.prog 177 0 0=true:=by kernel_rfl
theorem Xw:Gy Tryz.prog 234 0 0=true:=by kernel_rfl
theorem GO:Gy Tryz.prog 234 1 1=true:=by kernel_rfl
theorem IU:Gy Tryz.prog 234 2 5=true:=by kernel_rfl
theorem Qp:Ft Tryz.prog 248 2=true:=by kernel_rfl
theorem Xx:Gy Tryz.prog 248 0 0=true:=by kernel_rfl
theorem Xy:Gy Tryz.prog 248 1 1=true:=by kernel_rfl
theorem RY:Gy Tryz.prog 259 0 0=true:=by kernel_rfl
theorem Xz:Gy Tryz.prog 259 1 1=true:=by kernel_rfl
theorem M8:Gy Tryz.prog 259 2 2=true:=by kernel_rfl
theorem HP:Gy Tryz.prog 259 3 3=true:=by kernel_rfl
end Go.Proofs.YtjnbnlniafmblaaGreat
