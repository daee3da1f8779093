/- Nc, Nd, Ne, Gd, Ge, Gu, Gv, Gw, Gx, Nf, Ng, Nh, Ni, Nk, Nl, No, Gf, Gj, Gk, Gh, Gl, Gm, Gr, Gq, Gp, Gs, Gy, Gz, Ha, Hb, Hd, Hf, Hg, Hh, Hi, Hj, Hl, Hm, Hn, Hr, Hv, Hx, Hy, T, Sa, Sb: texts of this claim, joined; what the claim does not come to is left out. -/
import Derived.Test.YtbajepcpgncekaaGreatQJ1
import Derived.Test.YtbajepcpgncekaaGreatProg
set_option linter.unusedVariables false
set_option linter.unusedSimpArgs false
namespace Go.Proofs.YtbajepcpgncekaaGreat
open Go Go.RowKit
section
structure H6 (p:List Fn):Prop where
 par:∀k,k<p.length→0≤(p.getD k Fn.zero).params∧(p.getD k Fn.zero).params≤12
 outs:∀k,k<p.length→1≤(p.getD k Fn.zero).outs.length∧(p.getD k Fn.zero).outs.length≤12
 deep:∀k,k<p.length→∀j,j<(p.getD k Fn.zero).outs.length→((p.getD k Fn.zero).outs.getD j Ex.zero).deep≤60
 wf:∀k,k<p.length→∀j,j<(p.getD k Fn.zero).outs.length→wf p ((k:Nat):Int) ((p.getD k Fn.zero).outs.getD j Ex.zero) (p.getD k Fn.zero).params=true
theorem Br {x a b:Int}:E7 x a b=true↔a≤x∧x≤b:=by unfold E7;simp
theorem CT {p:List Fn}{F vars:Int}{e:Ex}(h:GF p F vars e=true) :
  (e.kind=1∨e.kind=2∨e.kind=3∨e.kind=4∨e.kind=5∨e.kind=6∨e.kind=7∨e.kind=8∨e.kind=9∨e.kind=10∨e.kind=11) ∧
  (e.kind=2→0≤e.num∧e.num≤vars-1)∧(e.kind=3∨e.kind=4∨e.kind=5∨e.kind=6∨e.kind=9→e.kids.length=2)∧(e.kind=7→e.kids.length=1)∧(e.kind=8→e.kids.length=3) ∧
  (e.kind=10∨e.kind=11→0≤e.num∧e.num≤F-1∧(e.kids.length:Int)=(p.getD e.num.toNat Fn.zero).params∧0≤e.pick∧e.pick≤((p.getD e.num.toNat Fn.zero).outs.length:Int)-1) ∧
  (e.kind=11→((p.getD e.num.toNat Fn.zero).outs.length:Int)=(p.getD e.num.toNat Fn.zero).params∧0≤e.count∧e.count≤8)∧(e.kind=1→0≤e.num∧e.num<1000003):=by
 unfold GF at h
 split at h
 ·simp only[z7,decide_eq_true_eq,Cm]at h;omega
 ·split at h
  ·simp only[z7,decide_eq_true_eq,Br]at h;omega
  ·split at h
   ·simp only[z7,decide_eq_true_eq]at h;omega
   ·split at h
    ·simp only[z7,decide_eq_true_eq]at h;omega
    ·split at h
     ·simp only[z7,decide_eq_true_eq]at h;omega
     ·split at h
      ·simp only[z7,decide_eq_true_eq,Br]at h
       obtain⟨h1,h2,h3,h4⟩:=h
       split at h4
       ·simp only[decide_eq_true_eq]at h4;omega
       ·simp only[z7,decide_eq_true_eq,Br]at h4;omega
      ·cases h
theorem CE {p:List Fn}{F vars:Int}{e:Ex}(h:wf p F e vars=true):GF p F vars e=true:=by
 rw[Md,z7]at h;exact h.1
theorem US {p:List Fn}{F vars:Int}{e:Ex}(h:wf p F e vars=true){j:Nat}(hj:j<e.kids.length):wf p F (e.kids.getD j Ex.zero) (if e.kind=9∧j=1 then vars+1 else vars)=true:=by
 rw[Md,z7]at h
 have:=(Km p F _ vars e.kids 0).1 h.2 j hj
 rw[Nat.zero_add]at this
 simpa only[decide_eq_true_eq]using this
theorem DG {p:List Fn}{F vars:Int}{e:Ex}(h:wf p F e vars=true){j:Nat}(hj:j<e.kids.length)(hn:¬(e.kind=9∧j=1)):wf p F (e.kids.getD j Ex.zero) vars=true:=by
 have:=US h hj
 rwa [if_neg hn]at this
theorem JA {p:List Fn}{F vars:Int}{e:Ex}(h:wf p F e vars=true)(hj:1<e.kids.length)(hk:e.kind=9):wf p F (e.kids.getD 1 Ex.zero) (vars+1)=true:=by
 have:=US h hj
 rwa [if_pos ⟨hk,rfl⟩]at this
section
variable {p:List Fn} {F:Nat} {vars:Int} {e:Ex}
theorem OD (h:wf p ((F:Nat):Int) e vars=true)(hk:e.kind=1):0≤e.num∧e.num<1000003:=(CT (CE h)).2.2.2.2.2.2.2 hk
theorem OE (h:wf p ((F:Nat):Int) e vars=true)(hk:e.kind=2):0≤e.num∧e.num≤vars-1:=(CT (CE h)).2.1 hk
theorem RH (h:wf p ((F:Nat):Int) e vars=true)(hk:e.kind=8):e.kids.length=3:=(CT (CE h)).2.2.2.2.1 hk
theorem OF (h:wf p ((F:Nat):Int) e vars=true)(hk:e.kind=9):e.kids.length=2:=(CT (CE h)).2.2.1 zO
theorem OG (h:wf p ((F:Nat):Int) e vars=true)(hk:e.kind=7):e.kids.length=1:=(CT (CE h)).2.2.2.1 hk
theorem JB (h:wf p ((F:Nat):Int) e vars=true)(hk:e.kind=3∨e.kind=4∨e.kind=5∨e.kind=6):e.kids.length=2:=(CT (CE h)).2.2.1 zO
theorem HO (h:wf p ((F:Nat):Int) e vars=true)(hk:e.kind=10∨e.kind=11):(0≤e.num∧e.num≤((F:Nat):Int)-1)∧(e.kids.length:Int)=(p.getD e.num.toNat Fn.zero).params∧(0≤e.pick∧e.pick≤((p.getD e.num.toNat Fn.zero).outs.length:Int)-1):=by
 have:=(CT (CE h)).2.2.2.2.2.1 hk
 exact⟨⟨this.1,this.2.1⟩,this.2.2.1,this.2.2.2⟩
theorem ML (h:wf p ((F:Nat):Int) e vars=true)(hk:e.kind=11):((p.getD e.num.toNat Fn.zero).outs.length:Int)=(p.getD e.num.toNat Fn.zero).params∧(0≤e.count∧e.count≤8):=(CT (CE h)).2.2.2.2.2.2.1 hk
theorem Xd (h:wf p ((F:Nat):Int) e vars=true)(hk:(e.kind≠1∧e.kind≠2∧e.kind≠8∧e.kind≠9)∧(e.kind≠10∧e.kind≠11∧e.kind≠3∧e.kind≠4∧e.kind≠5∧e.kind≠7)):e.kind=6:=by
 have:=(CT (CE h)).1
 omega
theorem Xe (h:wf p ((F:Nat):Int) e vars=true)(hk:(e.kind≠1∧e.kind≠2∧e.kind≠7∧e.kind≠8)∧(e.kind≠9∧e.kind≠10∧e.kind≠11)):e.kind=3∨e.kind=4∨e.kind=5∨e.kind=6:=by
 have:=(CT (CE h)).1
 omega
theorem RJ (h:wf p ((F:Nat):Int) e vars=true)(hv:H6 p)(hF:F≤p.length):e.kids.length≤12:=by
 have hq:=CT<|CE h
 by_cases h10:e.kind=10∨e.kind=11
 ·have h1:=HO h h10
  have:=hv.par e.num.toNat zO
  omega
 ·have h1:=hq.1;have h2:=hq.2.2.1;have h3:=hq.2.2.2.1;have h4:=hq.2.2.2.2.1
  by_cases hl:e.kind=1∨e.kind=2
  ·have h5:=CE h
   unfold GF at h5
   rcases hl with hl|hl
   ·rw[if_pos hl]at h5;simp only[z7,decide_eq_true_eq]at h5;omega
   ·rw[if_neg zO,if_pos hl]at h5;simp only[z7,decide_eq_true_eq]at h5;omega
  ·omega
end
section
variable {n:Nat} {C:Ca} {e:Ex} {env:List Sr} {s s1 s2:Nat} {c c1 c2:Int} {x y:Sr} {xs ys:List Sr}
theorem Dy (hc:c≠0){r:Rs Sr}:AH (go c r) x s c:=AH.mk_err (Dk hc r) hc
theorem Cy (hc:c=0)(hs:s=3000):AH (go c (Cn n C e env s)) x s1 7:=by
 subst hc;rw[Cx,EE,if_pos (by omega)];exact AH.mk_err rfl (by decide)
theorem Ei (hc:c=0)(hs:s+1≤3000)(hk:e.kind=1):AH (go c (Cn n C e env s)) (cst n e.num) (s+1) c:=by
 subst hc;rw[Cx,EE,if_neg zO,if_pos hk];exact AH.mk_ok rfl
theorem Ej (hc:c=0)(hs:s+1≤3000)(hk:e.kind=2):AH (go c (Cn n C e env s)) (env.getD e.num.toNat []) (s+1) c:=by
 subst hc;rw[Cx,EE,if_neg zO,if_neg zO,if_pos hk];exact AH.mk_ok rfl
theorem Ek (hc:c=0)(hs:s+1≤3000)(hk:e.kind=8)(hl:e.kids.length=3)(h1:AH (go c (Cn n C (e.kids.getD 0 Ex.zero) env (s+1))) x s1 c1)(hx:x.getD 0 0=0)
  (h2:AH (go c1 (Cn n C (e.kids.getD 1 Ex.zero) env s1)) y s2 c2):AH (go c (Cn n C e env s)) y s2 c2:=by
 subst hc
 rw[Cx,EE,if_neg zO,if_neg zO,if_neg zO,if_pos hk,Dw _ _ _ _ _ _ (by omega)]
 rw[Cx]at h1
 by_cases h0:c1=0
 ·subst h0;rw[h1.bindO,if_pos hx,Dw _ _ _ _ _ _ (by omega)];exact h2
 ·rw[h1.bindE h0];rw[Dk h0]at h2;exact h2
theorem El (hc:c=0)(hs:s+1≤3000)(hk:e.kind=8)(hl:e.kids.length=3)(h1:AH (go c (Cn n C (e.kids.getD 0 Ex.zero) env (s+1))) x s1 c1)(hx:¬x.getD 0 0=0)
  (h2:AH (go c1 (Cn n C (e.kids.getD 2 Ex.zero) env s1)) y s2 c2):AH (go c (Cn n C e env s)) y s2 c2:=by
 subst hc
 rw[Cx,EE,if_neg zO,if_neg zO,if_neg zO,if_pos hk,Dw _ _ _ _ _ _ (by omega)]
 rw[Cx]at h1
 by_cases h0:c1=0
 ·subst h0;rw[h1.bindO,if_neg hx,Dw _ _ _ _ _ _ (by omega)];exact h2
 ·rw[h1.bindE h0];rw[Dk h0]at h2;exact h2
theorem Em (hc:c=0)(hs:s+1≤3000)(hk:e.kind=9)(hl:e.kids.length=2)(h1:AH (go c (Cn n C (e.kids.getD 0 Ex.zero) env (s+1))) x s1 c1)
  (h2:AH (go c1 (Cn n C (e.kids.getD 1 Ex.zero) (env++[x]) s1)) y s2 c2):AH (go c (Cn n C e env s)) y s2 c2:=by
 subst hc
 rw[Cx,EE,if_neg zO,if_neg zO,if_neg zO,if_neg zO,if_pos hk,Dw _ _ _ _ _ _ (by omega)]
 rw[Cx]at h1
 by_cases h0:c1=0
 ·subst h0;rw[h1.bindO,Dw _ _ _ _ _ _ (by omega)];exact h2
 ·rw[h1.bindE h0];rw[Dk h0]at h2;exact h2
theorem Hp (hs : s + 1 ≤ 3000) (h1 : e.kind ≠ 1) (h2 : e.kind ≠ 2) (h8 : e.kind ≠ 8) (h9 : e.kind ≠ 9) : Cn n C e env s = (Df n C e.kids env (s + 1)).bind fun xs t =>
      if e.kind = 10 then C.one e.num.toNat e.pick.toNat xs t
      else if e.kind = 11 then (HN (C.all e.num.toNat) e.count.toNat xs t).bind fun ys u=>.ok (ys.getD e.pick.toNat []) u
      else Kq e.kind xs t:=by
  rw [EE,if_neg zO,if_neg h1,if_neg h2,if_neg h8,if_neg h9]
theorem D3 (hc:c=0)(hs:s+1≤3000)(h1:e.kind≠1)(h2:e.kind≠2)(h8:e.kind≠8)(h9:e.kind≠9)(hr:AH (go c (Df n C e.kids env (s+1))) xs s1 c1)(hc1:c1≠0):AH (go c (Cn n C e env s)) x s2 c1:=by
 subst hc
 rw[Cx]at hr ⊢
 rw[Hp hs h1 h2 h8 h9,hr.bindE hc1];exact AH.mk_err rfl hc1
theorem DU {p:List Fn}{F:Nat}(hc:c=0)(hs:s+1≤3000)(hk:e.kind=10)(hF:e.num.toNat<F)(hr:AH (go c (Df n (E8 p n F) e.kids env (s+1))) xs s1 c1)(hc1:c1=0)
  (h2:AH (go c1 (Cn n (E8 p n e.num.toNat) ((p.getD e.num.toNat Fn.zero).outs.getD e.pick.toNat Ex.zero) xs s1)) y s2 c2):AH (go c (Cn n (E8 p n F) e env s)) y s2 c2:=by
 subst hc;subst hc1
 rw[Cx]at hr h2 ⊢
 rw[Hp hs zO zO zO zO,hr.bindO,if_pos hk,MK hF];exact h2
theorem DV {p:List Fn}{F:Nat}(hc:c=0)(hs:s+1≤3000)(hk:e.kind=11)(hF:e.num.toNat<F)(hr:AH (go c (Df n (E8 p n F) e.kids env (s+1))) xs s1 c1)(hc1:c1=0)
  (h2:AH (HN (fun a t=>Df n (E8 p n e.num.toNat) (p.getD e.num.toNat Fn.zero).outs a t) e.count.toNat xs s1) ys s2 c2):AH (go c (Cn n (E8 p n F) e env s)) (ys.getD e.pick.toNat []) s2 c2:=by
 subst hc;subst hc1
 rw[Cx]at hr ⊢
 rw[Hp hs zO zO zO zO,hr.bindO,if_neg zO,if_pos hk]
 have hl:(E8 p n F).all e.num.toNat=fun a t=>Df n (E8 p n e.num.toNat) (p.getD e.num.toNat Fn.zero).outs a t:=funext fun a=>funext fun t=>GG hF
 rw[hl]
 by_cases h0:c2=0
 ·subst h0;rw[h2.bindO];exact AH.mk_ok rfl
 ·rw[h2.bindE h0];exact AH.mk_err rfl h0
theorem Ba (hc:c=0)(hs:s+1≤3000)(h1:e.kind≠1)(h2:e.kind≠2)(h8:e.kind≠8)(h9:e.kind≠9)(h10:e.kind≠10)(h11:e.kind≠11)(hr:AH (go c (Df n C e.kids env (s+1))) xs s1 c1)(hc1:c1=0)
  (h:AH (Kq e.kind xs s1) y s2 c2):AH (go c (Cn n C e env s)) y s2 c2:=by
 subst hc;subst hc1
 rw[Cx]at hr ⊢
 rw[Hp hs h1 h2 h8 h9,hr.bindO,if_neg h10,if_neg h11];exact h
theorem FQ {k:Int}(hk:k=3):AH (Kq k xs s) (Ce (xs.getD 0 []) (xs.getD 1 [])) s 0:=by subst hk;exact AH.mk_ok rfl
theorem FR {k:Int}(hk:k=4):AH (Kq k xs s) (EP (xs.getD 0 []) (xs.getD 1 [])) s 0:=by subst hk;exact AH.mk_ok rfl
theorem FS {k:Int}(hk:k=5):AH (Kq k xs s) (Cc (xs.getD 0 []) (xs.getD 1 [])) s 0:=by subst hk;exact AH.mk_ok rfl
theorem FT {k:Int}(hk:k=7):AH (Kq k xs s) (Ct (xs.getD 0 []) 1000002) s 0:=by subst hk;exact AH.mk_ok rfl
theorem En {k:Int}(hk:k=6)(hz:(xs.getD 1 []).getD 0 0=0):AH (Kq k xs s) x s1 6:=by
 subst hk
 have:Kq 6 xs s=.err 6:=by
  show(if (xs.getD 1 []).getD 0 0=0 then _ else _)=_
  rw[if_pos hz]
 exact AH.mk_err this (by decide)
theorem FU {k:Int}(hk:k=6)(hz:¬(xs.getD 1 []).getD 0 0=0):AH (Kq k xs s) (BM (xs.getD 0 []) (xs.getD 1 [])) s 0:=by
 subst hk
 have:Kq 6 xs s=.ok (BM (xs.getD 0 []) (xs.getD 1 [])) s:=by
  show(if (xs.getD 1 []).getD 0 0=0 then _ else _)=_
  rw[if_neg hz]
 exact AH.mk_ok this
theorem Gi {l:List Ex}{k:Nat}(hk:k<l.length)(h:AH (go c (Df n C (l.take k) env s)) xs s1 c1)(h2:AH (go c1 (Cn n C (l.getD k Ex.zero) env s1)) x s2 c2) :
  AH (go c (Df n C (l.take (k+1)) env s)) (xs++[x]) s2 c2:=by
 by_cases hc:c=0
 ·subst hc
  rw[Cx]at h ⊢
  rw[RE hk]
  by_cases h0:c1=0
  ·subst h0
   rw[Cx]at h2
   rw[h.bindO]
   by_cases h3:c2=0
   ·subst h3;rw[h2.bindO];exact AH.mk_ok rfl
   ·rw[h2.bindE h3];exact AH.mk_err rfl h3
  ·rw[h.bindE h0];rw[Dk h0]at h2;exact AH.mk_err (by rw[h2.1]) (by rw[h2.1];exact h2.2)
 ·rw[Dk hc]at h ⊢
  have hc1:c1≠0:=by rw[h.1];exact hc
  rw[Dk hc1]at h2
  exact AH.mk_err (by rw[h2.1,h.1]) (by rw[h2.1];exact hc1)
theorem TR {f:List Sr→Nat→Rs (List Sr)}{k:Nat}(h:AH (HN f k xs s) ys s1 c1)(hc:c1=0){zs:List Sr}(h2:AH (go c1 (f ys s1)) zs s2 c2):AH (HN f (k+1) xs s) zs s2 c2:=by
 subst hc
 show AH ((HN f k xs s).bind f) _ _ _
 rw[h.bindO];rw[Cx]at h2;exact h2
theorem PG {f:List Sr→Nat→Rs (List Sr)} {d:Int}:∀ {m k:Nat},HN f k xs s = .err d→k≤m→HN f m xs s = .err d
  | 0, k, h, hk => by have : k = 0 := by omega
                      subst this; exact h
  | m + 1,k,h,hk=>by
    by_cases e:k = m + 1
    · subst e; exact h
    · show (HN f m xs s).bind f = _
      rw [PG h (by omega)]; rfl
theorem DW {f:List Sr→Nat→Rs (List Sr)}{k m:Nat}(h:AH (HN f k xs s) ys s1 c1)(hk:k≤m)(hs:k=m∨c1≠0):AH (HN f m xs s) ys s1 c1:=by
 by_cases hc:c1=0
 ·rcases hs with rfl|hh
  ·exact h
  ·exact absurd hc hh
 ·exact AH.mk_err (PG (h.err hc) hk) hc
end
theorem Gj (n:Nat)(C:Ca)(l:List Ex)(env:List Sr)(s:Nat)(c:Int):AH (go c (Df n C (l.take 0) env s)) [] s c:=by
 rw[List.take_zero,Df]
 by_cases h:c=0
 ·subst h;exact AH.mk_ok rfl
 ·exact AH.mk_err (Dk h _) h
theorem Gk {n:Nat}{a b:Sr}(ha:Cf n a):Cf n (Ce a b):=⟨by unfold Ce;rw[Eh];exact ha.1,Gh _ _⟩
theorem KP {n:Nat}{a b:Sr}(ha:Cf n a):Cf n (EP a b):=⟨by rw[Hk];exact ha.1,Hl _ _⟩
theorem Gl {n:Nat}{a b:Sr}(ha:Cf n a):Cf n (Cc a b):=⟨by unfold Cc;rw[Eh];exact ha.1,Fd _ _⟩
theorem Ff {n:Nat}{a b:Sr}(ha:Cf n a):Cf n (BM a b):=⟨by rw[DS];exact ha.1,Et _ _⟩
theorem KQ {n:Nat}{a:Sr}{y:Int}(ha:Cf n a):Cf n (Ct a y):=⟨by unfold Ct;rw[Eh];exact ha.1,Eu _ _⟩
end
section
def OH (p:List Fn)(n f:Nat)(a:List Sr):List Sr:=match ev p n f a with
 |.ok xs _=>xs
 |.err _=>[]
def Ok (p:List Fn)(n f:Nat)(a:List Sr):Nat:=match ev p n f a with
 |.ok _ s=>s
 |.err _=>0
def Kb (p:List Fn)(n f:Nat)(a:List Sr):Int:=match ev p n f a with
 |.ok _ _=>0
 |.err c=>c
section
variable {p:List Fn} {n f s:Nat} {a x:List Sr} {c:Int}
theorem KR (h:AH (go 0 (Df n (E8 p n f) (p.getD f Fn.zero).outs a 0)) x s c)(hc:c=0):ev p n f a=.ok x s:=by subst hc;exact h.ok
theorem Iu (h:AH (go 0 (Df n (E8 p n f) (p.getD f Fn.zero).outs a 0)) x s c)(hc:c≠0):ev p n f a=.err c:=h.err hc
theorem Jb (h:ev p n f a=.ok x s):OH p n f a=x:=by unfold OH;rw[h]
theorem PH (h:ev p n f a=.ok x s):Ok p n f a=s:=by unfold Ok;rw[h]
theorem KS (h:ev p n f a=.ok x s):Kb p n f a=0:=by unfold Kb;rw[h]
theorem NG (h:ev p n f a=.err c):OH p n f a=[]:=by unfold OH;rw[h]
theorem PI (h:ev p n f a=.err c):Ok p n f a=0:=by unfold Ok;rw[h]
theorem Hq (h:ev p n f a=.err c):Kb p n f a=c:=by unfold Kb;rw[h]
end
structure UT (p:List Fn)(n f:Nat)(a:List Sr):Prop where
 code:0≤Kb p n f a∧Kb p n f a≤9
 steps:Ok p n f a≤3000
 len:Kb p n f a=0→(OH p n f a).length=(p.getD f Fn.zero).outs.length
 ser:BV n (OH p n f a)
 non:Kb p n f a≠0→OH p n f a=[]
theorem UT.mk' {p:List Fn}{n f s:Nat}{a x:List Sr}{c:Int}(h:AH (go 0 (Df n (E8 p n f) (p.getD f Fn.zero).outs a 0)) x s c)(hc:0≤c∧c≤9)(hs:s≤3000)(hl:x.length=(p.getD f Fn.zero).outs.length)(hx:BV n x):UT p n f a:=by
 by_cases h0:c=0
 ·have e:=KR h h0
  exact⟨by rw[KS e];omega,by rw[PH e];exact hs,fun _=>by rw[Jb e];exact hl,by rw[Jb e];exact hx,fun hh=>absurd (KS e) hh⟩
 ·have e:=Iu h h0
  exact⟨by rw[Hq e];exact hc,by rw[PI e];omega,fun hh=>absurd (by rw[← hh,Hq e]) h0,by rw[NG e];intro k hk;simp at hk,fun _=>NG e⟩
end
def UU (s:ByteArray)(i:Nat):Bool:=(decide (97≤Js s i) && decide (Js s i≤122)) || (decide (i≠0) && (decide (48≤Js s i) && decide (Js s i≤57)))
def Kr (s:ByteArray):Bool:=(decide (1≤s.size) && decide (s.size≤12)) && (List.range s.size).all (UU s)
def LO (p:List Fn)(e:Ex)(vars funcs:Int):Bool :=
 E7 vars 0 412 && (E7 funcs 0 ((p.length:Nat):Int) && (decide (e.size≤400) && (decide (e.deep≤60) && wf p funcs e vars)))
def QG (p:List Fn)(k:Nat):Bool:=!((p.take k).any fun g=>HZ g.name (p.getD k Fn.zero).name)
def K4 (p:List Fn)(k:Nat):Bool :=
 (Kr (p.getD k Fn.zero).name && QG p k) && ((E7 (p.getD k Fn.zero).params 0 12 && E7 (((p.getD k Fn.zero).outs.length:Nat):Int) 1 12) &&
  ((List.range (p.getD k Fn.zero).outs.length).all (fun j=>LO p ((p.getD k Fn.zero).outs.getD j Ex.zero) (p.getD k Fn.zero).params ((k:Nat):Int)) && decide (Ex.sizes (p.getD k Fn.zero).outs≤400)))
def G7 (p:List Fn):Bool:=decide (p.length≤16) && (List.range p.length).all (K4 p)
def PJ (p:List Fn):Prop:=∀k,k<p.length→Ex.sizes (p.getD k Fn.zero).outs≤2000000∧(p.getD k Fn.zero).outs.length≤2000000∧(p.getD k Fn.zero).name.size≤2000000
theorem DK {f:Nat→Bool}{k:Nat}(h:(List.range k).all f=true)(hk:f k=true):(List.range (k+1)).all f=true:=by
 rw[List.range_succ,List.all_append,h];simp[hk]
theorem JC {f:Nat→Bool}{k n:Nat}(hk:k<n)(h:f k=false):(List.range n).all f=false:=by
 rw[List.all_eq_false]
 exact⟨k,List.mem_range.2 hk,by simp[h]⟩
theorem PK {f:Nat→Bool}{k n:Nat}(h:(List.range n).all f=true)(hk:k<n):f k=true:=zm.1 h k (List.mem_range.2 hk)
theorem Xf {p:List Fn}(h:G7 p=true){k:Nat}(hk:k<p.length):K4 p k=true:=by
 unfold G7 at h
 rw[z7]at h
 exact PK h.2 hk
theorem FG {p:List Fn}(h:G7 p=true):H6 p:=by
 have h1:∀k,k<p.length→(0≤(p.getD k Fn.zero).params∧(p.getD k Fn.zero).params≤12)∧(1≤(p.getD k Fn.zero).outs.length∧(p.getD k Fn.zero).outs.length≤12) ∧
   ∀j,j<(p.getD k Fn.zero).outs.length→LO p ((p.getD k Fn.zero).outs.getD j Ex.zero) (p.getD k Fn.zero).params ((k:Nat):Int)=true:=by
  intro k hk
  have:=Xf h hk
  unfold K4 at this
  simp only[z7,Br]at this
  exact⟨this.2.1.1,zO,fun j hj=>PK this.2.2.1 hj⟩
 have h2:∀k,k<p.length→∀j,j<(p.getD k Fn.zero).outs.length→((p.getD k Fn.zero).outs.getD j Ex.zero).deep≤60∧wf p ((k:Nat):Int) ((p.getD k Fn.zero).outs.getD j Ex.zero) (p.getD k Fn.zero).params=true:=by
  intro k hk j hj
  have:=(h1 k hk).2.2 j hj
  unfold LO at this
  simp only[z7,decide_eq_true_eq]at this
  exact⟨this.2.2.2.1,this.2.2.2.2⟩
 exact⟨fun k hk=>(h1 k hk).1,fun k hk=>(h1 k hk).2.1,fun k hk j hj=>(h2 k hk j hj).1,fun k hk j hj=>(h2 k hk j hj).2⟩
section
mutual
def Y0:Ex→Bool
 |.mk k _ _ _ l=>(decide (k≠6) && decide (k≠8)) && Ol l
def Ol:List Ex→Bool
 |[]=>true
 |e::l=>Y0 e && Ol l
end
theorem OI (k n q c:Int)(l:List Ex):Y0 (.mk k n q c l)=((decide (k≠6) && decide (k≠8)) && Ol l):=by rw[Y0]
theorem NH (l:List Ex)(e:Ex):Ol (l++[e])=(Ol l && Y0 e):=by
 induction l with
 |nil=>rw[zl,Ol,Ol];simp[Ol]
 |cons a l ih=>rw[List.cons_append,Ol,Ol,ih,Bool.and_assoc]
def LP:Nat→Int
 |0=>1
 |d+1=>1+4*LP d
def Hr:Nat→Nat
 |0=>30
 |d+1=>50+4*Hr d
def Xg:Nat→Int→Int
 |0,_=>0
 |n+1,k=>Xg n k+k
def QH:Nat→Nat→Nat
 |0,_=>0
 |n+1,k=>QH n k+k
theorem HP:∀d,1≤LP d
 |0=>by decide
 |d+1=>by have:=HP d;show 1≤1+4*LP d;omega
theorem UV {d:Nat}(h:1≤d):LP d=1+4*LP (d-1):=by
 obtain⟨d,rfl⟩:∃k,d=k+1:=⟨d-1,zO⟩
 rfl
theorem Ya {d:Nat}(h:1≤d):Hr d=50+4*Hr (d-1):=by
 obtain⟨d,rfl⟩:∃k,d=k+1:=⟨d-1,zO⟩
 rfl
theorem OJ:∀d,30≤Hr d
 |0=>by decide
 |d+1=>by show 30≤50+4*Hr d;omega
theorem NI {i:Nat}{k:Int}(hk:0≤k)(hi:i≤4):0≤Xg i k∧Xg i k≤4*k:=by
 rcases i with _|_|_|_|_|i
 all_goals first|(exfalso;omega)|(simp only[Xg];omega)
theorem Mh {i k:Nat}(hi:i≤4):QH i k≤4*k:=by
 rcases i with _|_|_|_|_|i
 all_goals first|(exfalso;omega)|(simp only[QH];omega)
structure Nn (p:List Fn)(funcs vars:Int)(pl:Bool)(d:Nat)(l0 l1:Int)(ex:Ex):Prop where
 wf:wf p funcs ex vars=true
 sz:(ex.size:Int)+4*max l1 1≤1+4*max l0 1
 dp:ex.deep≤d+1
 pl:pl=true→Y0 ex=true
 lo:l0-LP d≤l1∧l1≤l0-1
structure OK (p:List Fn)(vars:Int)(ex:Ex):Prop where
 wf:∀funcs,wf p funcs ex vars=true
 sz:ex.size=1
 dp:ex.deep=1
 pl:Y0 ex=true
structure Yb (p:List Fn):Prop where
 len:p.length≤1000
 par:∀k,k<p.length→0≤(p.getD k Fn.zero).params∧(p.getD k Fn.zero).params≤4
 outs:∀k,k<p.length→1≤(p.getD k Fn.zero).outs.length∧(p.getD k Fn.zero).outs.length≤12
theorem OK.num {p:List Fn}{vars n:Int}(h:0≤n∧n<1000003):OK p vars (.mk 1 n 0 0 []) :=
 ⟨fun funcs=>by
  rw[MF rfl];unfold GF DF
  simp[Ex.kind,Ex.pick,Ex.count,Ex.kids,Ex.num,Cm];omega,by rw[Ex.size,Ex.sizes],by rw[Ex.deep,Ex.deeps],by rw[OI];rfl⟩
theorem OK.var {p:List Fn}{vars n:Int}(h:0≤n∧n<vars):OK p vars (.mk 2 n 0 0 []) :=
 ⟨fun funcs=>by
  rw[MF rfl];unfold GF DF
  simp[Ex.kind,Ex.pick,Ex.count,Ex.kids,Ex.num,Br];omega,by rw[Ex.size,Ex.sizes],by rw[Ex.deep,Ex.deeps],by rw[OI];rfl⟩
theorem OK.ok {p:List Fn}{vars funcs l0:Int}{ex:Ex}{pl:Bool}(h:OK p vars ex)(d:Nat):Nn p funcs vars pl d l0 (l0-1) ex:=by
 have:=HP d
 exact⟨h.wf funcs,by rw[h.sz];omega,by rw[h.dp];omega,fun _=>h.pl,zO⟩
def kn (k:Int):Int:=if k=1∨k=2 then 0 else if k=3∨k=4∨k=5∨k=6∨k=9 then 2 else if k=7 then 1 else if k=8 then 3 else -1
structure PL (p:List Fn)(funcs vars:Int)(pl:Bool)(k:Int)(d:Nat)(l0 l1:Int)(xs:List Ex)(i:Nat):Prop where
 len:xs.length=i
 wf:∀j,j<i→wf p funcs (xs.getD j Ex.zero) (if k=9∧j=1 then vars+1 else vars)=true
 sz:(Ex.sizes xs:Int)+4*max l1 1≤i+4*max l0 1
 dp:Ex.deeps xs≤d
 pl:pl=true→Ol xs=true
 lo:l0-Xg i (LP (d-1))≤l1∧l1≤l0
theorem PL.nil (p:List Fn)(funcs vars:Int)(pl:Bool)(k:Int)(d:Nat)(l0:Int):PL p funcs vars pl k d l0 l0 [] 0 :=
 ⟨rfl,fun j hj=>by omega,by rw[Ex.sizes];omega,by rw[Ex.deeps];omega,fun _=>by rw[Ol],by show l0-0≤l0∧l0≤l0;omega⟩
theorem PL.snoc {p:List Fn}{funcs vars own:Int}{pl:Bool}{k:Int}{d:Nat}{l0 l1 l2:Int}{xs:List Ex}{i:Nat}{x:Ex}(h:PL p funcs vars pl k d l0 l1 xs i)(hd:1≤d)
  (ho:own=if k=9∧i=1 then vars+1 else vars) (hx:Nn p funcs own pl (d-1) l1 l2 x):PL p funcs vars pl k d l0 l2 (xs++[x]) (i+1):=by
 have hlen:=h.len
 refine⟨by simp[hlen],fun j hj=>?_,?_,?_,fun hp=>?_,?_⟩
 ·by_cases e:j=i
  ·subst e
   rw[← hlen,H5 rfl,hlen,← ho];exact hx.wf
  ·rw[H4 (by omega)];exact h.wf j zO
 ·have h1:=h.sz;have h2:=hx.sz
  rw[Ip];omega
 ·have h1:=h.dp;have h2:=hx.dp
  rw[Iq];omega
 ·rw[NH,h.pl hp,hx.pl hp];rfl
 ·have h1:=h.lo;have h2:=hx.lo
  have h3:Xg (i+1) (LP (d-1))=Xg i (LP (d-1))+LP (d-1):=rfl
  omega
theorem PL.node {p:List Fn}{funcs vars:Int}{pl:Bool}{k num pick cnt:Int}{d i:Nat}{l0 l1:Int}{xs:List Ex}(h:PL p funcs vars pl k d (l0-1) l1 xs i)(hd:1≤d)(hi:i≤4)(hl:2≤l0)
  (hp:pl=true→k≠6∧k≠8) (hw:GF p funcs vars (.mk k num pick cnt xs)=true):Nn p funcs vars pl d l0 l1 (.mk k num pick cnt xs):=by
 have hn:=UV hd
 have ht:=NI (k:=LP (d-1)) (by have:=HP (d-1);omega) hi
 have h1:=h.lo;have h2:=h.sz
 refine⟨(MG hw fun j hj=>?_).symm,?_,?_,fun hq=>?_,zO⟩
 ·exact h.wf j (by rw[← h.len];exact hj)
 ·rw[Ex.size];omega
 ·rw[Ex.deep];have:=h.dp;omega
 ·rw[OI,h.pl hq,A5 (hp hq).1,A5 (hp hq).2];rfl
theorem Xh {p:List Fn}{funcs vars k:Int}{xs:List Ex}(hk:k=3∨k=4∨k=5∨k=6∨k=7∨k=8∨k=9)(hl:((xs.length:Nat):Int)=kn k):GF p funcs vars (.mk k 0 0 0 xs)=true:=by
 have h2:k=3∨k=4∨k=5∨k=6∨k=9→xs.length=2:=fun h=>by
  have:kn k=2:=by unfold kn;rw[if_neg zO,if_pos (by omega)]
  omega
 have h1:k=7→xs.length=1:=fun h=>by
  have:kn k=1:=by unfold kn;rw[if_neg zO,if_neg zO,if_pos h]
  omega
 have h3:k=8→xs.length=3:=fun h=>by
  have:kn k=3:=by unfold kn;rw[if_neg zO,if_neg zO,if_neg zO,if_pos h]
  omega
 unfold GF DF
 rcases hk with rfl|rfl|rfl|rfl|rfl|rfl|rfl
 ·simp[Ex.kind,Ex.pick,Ex.count,Ex.kids,Ex.num,h2]
 ·simp[Ex.kind,Ex.pick,Ex.count,Ex.kids,Ex.num,h2]
 ·simp[Ex.kind,Ex.pick,Ex.count,Ex.kids,Ex.num,h2]
 ·simp[Ex.kind,Ex.pick,Ex.count,Ex.kids,Ex.num,h2]
 ·simp[Ex.kind,Ex.pick,Ex.count,Ex.kids,Ex.num,h1]
 ·simp[Ex.kind,Ex.pick,Ex.count,Ex.kids,Ex.num,h3]
 ·simp[Ex.kind,Ex.pick,Ex.count,Ex.kids,Ex.num,h2]
theorem Xi {p:List Fn}{funcs vars k num pick cnt:Int}{xs:List Ex}(hk:(k=10∧cnt=0)∨(k=11∧((p.getD num.toNat Fn.zero).outs.length:Int)=(p.getD num.toNat Fn.zero).params∧0≤cnt∧cnt≤8))
  (hn:0≤num∧num<funcs) (hl:((xs.length:Nat):Int)=(p.getD num.toNat Fn.zero).params) (hq:0≤pick∧pick<((p.getD num.toNat Fn.zero).outs.length:Int)):GF p funcs vars (.mk k num pick cnt xs)=true:=by
 have h1:E7 num 0 (funcs-1)=true:=Br.2 zO
 have h2:E7 pick 0 (((p.getD num.toNat Fn.zero).outs.length:Int)-1)=true:=Br.2 zO
 have h6:decide ((xs.length:Int)=(p.getD num.toNat Fn.zero).params)=true:=A5 hl
 unfold GF
 rcases hk with⟨rfl,rfl⟩|⟨rfl,h3,h4⟩
 ·show(E7 num 0 (funcs-1) && (decide ((xs.length:Int)=(p.getD num.toNat Fn.zero).params) && (E7 pick 0 (((p.getD num.toNat Fn.zero).outs.length:Int)-1) && decide ((0:Int)=0))))=true
  rw[h1,h2,h6];rfl
 ·have h5:E7 cnt 0 8=true:=Br.2 h4
  show(E7 num 0 (funcs-1) && (decide ((xs.length:Int)=(p.getD num.toNat Fn.zero).params) && (E7 pick 0 (((p.getD num.toNat Fn.zero).outs.length:Int)-1) && (decide (((p.getD num.toNat Fn.zero).outs.length:Int)=(p.getD num.toNat Fn.zero).params) && E7 cnt 0 8))))=true
  rw[h1,h2,h5,h6,A5 h3];rfl
theorem KT {a b c k:Int}{l:List Ex}(h1:-9223372036854775808≤a∧a≤9223372036854775807)(h2:-9223372036854775808≤b∧b≤9223372036854775807)(h3:-9223372036854775808≤c∧c≤9223372036854775807)(h4:-9223372036854775808≤k∧k≤9223372036854775807):Ty (.mk a b c k l):=⟨h1,h2,h3,h4⟩
theorem CA {a b c:Nat}(h:c∈[a,b]):c=a∨c=b:=by simpa using h
theorem FV {a b:Nat}:∀x∈[a],x∈[a,b]:=fun x hx=>by rw[A9 hx];exact z0 ..
theorem Xj {a b:Nat}:∀x∈[b],x∈[a,b]:=fun x hx=>by rw[A9 hx];exact z3 _ (z0 ..)
theorem Au.new2 {F:List Nat}{g g':Nat}{a b c:World}(h:Au F a b)(k:Au [g,g'] b c)(hg:g∈F)(hg':a.heap.size≤g'):Au F a c :=
 ⟨k.os.trans h.os,k.tape.trans h.tape,k.output.trans h.output,A8 h.size k.size,fun i hi hm=>(k.block i (Nat.lt_of_lt_of_le hi h.size) fun hq=>by
  rcases CA hq with rfl|rfl
  ·exact hm hg
  ·omega).trans (h.block i hi hm)⟩
theorem RN.of_frF2 {e e':TypeId}{d B U:Nat}{H:Array Obj}{v:Value}{S:List Nat}{xs:List Fn}(h:Fr (E4 3 (Pn e d) e') B U H v xs)(hS:∀b∈S,b<B∨U≤b):RP S d H v xs:=by
 obtain⟨F,h,_,hF⟩:=h
 exact⟨F,(h.rd (AL e d)).imp fun h=>Ri e h,fun b hb hm=>by have:=hF b hb;have:=hS b hm;omega⟩
theorem MB.mk1 {e:TypeId}{d B U:Nat}{H:Array Obj}{v:Value}{x:Ex}(hd:1≤d)(hr:Ty x)(h:Fr (E4 5 (LM e (d-1)) e) B U H v x.kids):MB (LM e d) B U H (EX x v) x:=by
 obtain⟨d,rfl⟩:∃k,d=k+1:=⟨d-1,zO⟩
 obtain⟨G,h1,h2,h3⟩:=h
 exact⟨G,⟨v,rfl,hr,h1⟩,h2,h3⟩
theorem MB.mkF {e:TypeId}{d B U:Nat}{H:Array Obj}{v:Value}{x:Fn}(hr:Bx x.params)(h:Fr (E4 5 (LM e d) e) B U H v x.outs):MB (Pn e d) B U H (EY x v) x:=by
 obtain⟨G,h1,h2,h3⟩:=h
 exact⟨G,⟨v,rfl,hr,h1⟩,h2,h3⟩
theorem ZY {k:Int}(h:k=1∨k=2):kn k=0:=by unfold kn;rw[if_pos h]
theorem ZZ {k:Int}(h:k=3∨k=4∨k=5∨k=6∨k=9):kn k=2:=by unfold kn;rw[if_neg zO,if_pos h]
theorem aA {k:Int}(h:k=7):kn k=1:=by unfold kn;rw[if_neg zO,if_neg zO,if_pos h]
theorem aB {k:Int}(h:k=8):kn k=3:=by unfold kn;rw[if_neg zO,if_neg zO,if_neg zO,if_pos h]
theorem aC {k:Int}(h1:¬k=1)(h2:¬k=2)(h3:¬k=3)(h4:¬k=4)(h5:¬k=5)(h6:¬k=6)(h7:¬k=7)(h8:¬k=8)(h9:¬k=9):kn k = -1:=by unfold kn;rw[if_neg zO,if_neg zO,if_neg zO,if_neg (by omega)]
theorem aE {k:Int}(h:k=3∨k=4∨k=5∨k=6∨k=7∨k=8∨k=9):1≤kn k∧kn k≤3:=by
 rcases h with rfl|rfl|rfl|rfl|rfl|rfl|rfl <;> decide
theorem RK {d:Nat}(h:d≤8):LP d≤100000:=by
 have:∀k:Fin 9,LP k.val≤100000:=by decide
 exact this ⟨d,zO⟩
theorem OK.okc {p:List Fn}{vars funcs l0:Int}{ex:Ex}{pl:Bool}(h:OK p vars ex)(d:Nat):Nn p funcs vars pl d (l0+1) l0 ex:=by
 have h:=h.ok (funcs:=funcs) (pl:=pl) (l0:=l0+1) d
 rwa [show l0+1-1=l0 from by omega]at h
theorem Nn.up1 {p:List Fn}{vars funcs l0 l1:Int}{ex:Ex}{pl:Bool}{d:Nat}(h:Nn p funcs vars pl d (l0-1+1) l1 ex):Nn p funcs vars pl d l0 l1 ex:=by rwa [show l0-1+1=l0 from by omega]at h
theorem PL.node1 {p:List Fn}{funcs vars:Int}{pl:Bool}{k num pick cnt:Int}{d i:Nat}{l0 l1:Int}{xs:List Ex}(h:PL p funcs vars pl k d l0 l1 xs i)(hd:1≤d)(hi:i≤4)(hl:1≤l0)
  (hp:pl=true→k≠6∧k≠8) (hw:GF p funcs vars (.mk k num pick cnt xs)=true):Nn p funcs vars pl d (l0+1) l1 (.mk k num pick cnt xs) :=
 PL.node (by rwa [show l0+1-1=l0 from by omega]) hd hi zO hp hw
namespace Jx
variable [J:JR] {P:Program} {ops:Array Oper} {w0:World} {Q:Act→World→Prop}
theorem j1 {o:Oper}{os:List Oper}{ks:List Nat}{a:Act}{w:World}(h:_root_.Go.Proofs.YtbajepcpgncekaaGreat.LW P ops w0 (fun a w=>LW P ops w0 Q os ks a w) [o] [0] a w):LW P ops w0 Q (o::os) (0::ks) a w:=by
 simp only[_root_.Go.Proofs.YtbajepcpgncekaaGreat.LW]at h
 simp only[LW]
 split
 ·rename_i hw
  rw[if_pos hw]at h
  unfold _root_.Go.Proofs.YtbajepcpgncekaaGreat.BA at h
  unfold BA
  rw[if_pos (by decide)]at h
  rw[if_pos (by decide)]
  obtain⟨v,h1,h2⟩:=h
  exact⟨v,fun w' _=>h1 w' trivial,h2⟩
 ·rename_i hw
  rw[if_neg hw]at h
  exact h
theorem TS:∀ {os:List Oper}{ks:List Nat}{a:Act}{w:World}(_:ks.all (fun k=>k == 0 || k == 3 || k == 4)=true)(_:_root_.Go.Proofs.YtbajepcpgncekaaGreat.LW P ops w0 Q os ks a w),LW P ops w0 Q os ks a w
 |[],_,_,_,_,h=>h
 |_::_,[],_,_,_,h=>h.elim
 |o::os,k::ks,a,w,hk,h=>by
  simp only[List.all_cons,z7]at hk
  simp only[_root_.Go.Proofs.YtbajepcpgncekaaGreat.LW]at h
  simp only[LW]
  split
  ·rename_i hw
   rw[if_pos hw]at h
   unfold _root_.Go.Proofs.YtbajepcpgncekaaGreat.BA at h
   unfold BA
   split at h
   ·rename_i h2
    rw[if_pos h2]
    have:k=0:=by
     have:=hk.1
     simp only[Bool.or_eq_true,beq_iff_eq]at this
     omega
    subst this
    obtain⟨v,h1,h3⟩:=h
    exact⟨v,fun w' _=>h1 w' trivial,TS hk.2 h3⟩
   ·rename_i h2
    rw[if_neg h2]
    split at h
    ·rename_i h3
     rw[if_pos h3]
     exact Oper.wp_mono (fun a w hh=>⟨J.ext hh.1,TS hk.2 hh.2⟩) h
    ·rename_i h3
     rw[if_neg h3]
     exact Oper.wp_mono (fun a w hh=>TS hk.2 hh) h
  ·rename_i hw
   rw[if_neg hw]at h
   exact TS hk.2 h
end Jx
end
section
theorem RM {α:Type}{l:List α}{k:Nat}{d:α}(h:k<l.length):l.getD k d∈l:=by
 rw[List.getD_eq_getElem?_getD,List.getElem?_eq_getElem h,Option.getD_some];exact List.getElem_mem h
theorem RO {a:Int}(h:-9223372036854775808≤a∧a≤9223372036854775807):Bx a:=h
def IU (n:Nat):ByteArray:=⟨#[UInt8.ofNat (48+n)]⟩
def LQ:List ByteArray:=[⟨#[102]⟩,⟨#[103]⟩,⟨#[115,116,101,112]⟩,⟨#[104,50]⟩,⟨#[99]⟩]
theorem Xk {n:Int}(h0:0≤n)(h1:n<10):(⟨#[UInt8.ofNat (IntKind.u8.wrap (((48:Nat):Int)+n)).toNat]⟩:ByteArray)=IU n.toNat:=by
 obtain⟨k,rfl⟩:∃k:Nat,n=k:=⟨n.toNat,zO⟩
 have:∀k:Fin 10,(⟨#[UInt8.ofNat (IntKind.u8.wrap (((48:Nat):Int)+((k.val:Nat):Int))).toNat]⟩:ByteArray)=IU k.val:=by decide +kernel
 exact this ⟨k,zO⟩
theorem RQ (n:Nat):(IU n).size=1:=rfl
theorem QI:∀s∈LQ,s.size≤4:=by decide +kernel
theorem TT:∀s∈LQ,∀i:Fin 10,Kr (s++IU i.val)=true:=by decide +kernel
theorem TU:∀s∈LQ,∀t∈LQ,∀i j:Fin 10,i.val≠j.val→HZ (s++IU i.val) (t++IU j.val)=false:=by decide +kernel
section str
variable {P:Program} {ops:Array Oper} {w0:World} {Q:Act→World→Prop} {os:List Oper} {ks:List Nat} {N:Nat} {ρ:Nat→Value} {w:World}
 {d:Nat} {ty:TypeId} {pos:String} {aft:Array Edge} {g:Option (Nat×Bool)} {t e:TypeId}
theorem TV {st dt:TypeId}{x:Operand}{v:Value}{n:Int}{B U:Nat}(hs:P.underlying st=some (.slice e))(he:P.underlying e=some (.int .u8))(hd:P.underlying dt=some .string)(hx:Bq N ρ x=v)(hv:Fr (Bh rV e) B U w.heap v [.int .u8 n])
  (hu:Up ops N ρ ⟨some d,.convert st dt x,ty,pos,aft,g⟩) (h:LW P ops w0 Q os ks (mk N (CD ρ d (.string ⟨#[UInt8.ofNat n.toNat]⟩))) w) :
  LW P ops w0 Q (⟨some d,.convert st dt x,ty,pos,aft,g⟩::os) (2::ks) (mk N ρ) w:=by
 obtain⟨F,hv,_,_⟩:=hv
 rcases hv with⟨_,hc,_⟩|⟨us,b,cap,cur,F',hels,rfl,hg,q1,q2,q3,q4,rfl⟩
 ·cases hc
 ·obtain⟨rfl,rfl⟩:=EM hels
  refine Cr (by decide) rfl hu _ (fun w' hcl=>?_) h
  have hcl:AF w w':=hcl
  have hcb:w'.heap[b]? = w.heap[b]?:=hcl.heap (getElem?_lt hg)
  have hlc:=run_loadCells_list (P:=P) w' ⟨b,0,none⟩ [.int .u8 n] (fun j u hj=>by
   rw[EW,BC]
   simp only[BP,hcb,hg]
   have hj0:j=0:=by have:=(List.getElem?_eq_some_iff.1 hj).1;simpa using this
   subst hj0
   have e1:cur.toList[0]? = some (.int .u8 n):=by
    have:(cur.toList.take 1)[0]? = some (.int .u8 n):=by rw[show cur.toList.take 1=[.int .u8 n]from q4];rfl
    rwa [List.getElem?_take,if_pos (by decide)]at this
   have e2:u=.int .u8 n:=by simpa using hj.symm
   rw[e2]
   simpa using e1)
  have hb:=run_bytesToString (P:=P) w' ⟨b,0,none⟩ 1 cap [n] (by simpa using hlc)
  have hr:=run_convert_bytes_string (P:=P) w' st dt e (some ⟨b,0,none⟩) 1 cap hs he hd
  simp only[execOp,hx,zd,Sem.run_bind,hr,hb,Result.andThen_ok,Sem.run_pure]
  rfl
theorem TW {b:Nat}{z u0 u1 u2 u3:Value}(ht:P.underlying t=some (.slice e))(hi:TI P e 1 z b)(h0:u0.cells=#[u0])(h1:u1.cells=#[u1])(h2:u2.cells=#[u2])(h3:u3.cells=#[u3])(hz:z.cells=#[z]) :
  (Instr.buildSlice t 4 #[(0,u0),(1,u1),(2,u2),(3,u3)]).run P w=.ok (.slice (some ⟨w.heap.size,0,none⟩) 4 4) (w.alloc (.cells #[u0,u1,u2,u3] e)):=by
 obtain⟨i,q1,q2,q3,q4⟩:=hi.get
 simp[Instr.buildSlice,run_underlying ht,sizeOf,typeInfo,zeroValue,q1,q2,q3,Instr.fill,newRow,h0,h1,h2,h3,hz,J4,List.range_succ]
theorem RR {α:Type}{E:Bi α}(hE:BS E){ys:List α}{b:Nat}{z u0 u1 u2 u3:Value}{x0 x1 x2 x3:Operand}(ht:P.underlying t=some (.slice e))(hi:TI P e 1 z b)(hz:z.cells=#[z])
  (hx0:Bq N ρ x0=u0) (hx1:Bq N ρ x1=u1) (hx2:Bq N ρ x2=u2) (hx3:Bq N ρ x3=u3) (hl:ys.length=4) (hels:els E w.heap [u0,u1,u2,u3] ys [])
  (hu:Up ops N ρ ⟨some d,.buildSlice t 4 #[(0,x0),(1,x1),(2,x2),(3,x3)],ty,pos,aft,g⟩)
  (h:∀v w1,AF w w1→w1.heap.size=w.heap.size+1→Fr (Bh E e) w.heap.size w1.heap.size w1.heap v ys→LW P ops w0 Q os ks (mk N (CD ρ d v)) w1) :
  LW P ops w0 Q (⟨some d,.buildSlice t 4 #[(0,x0),(1,x1),(2,x2),(3,x3)],ty,pos,aft,g⟩::os) (3::ks) (mk N ρ) w:=by
 have hc:=hels.cells1 hE
 have hr:=TW (P:=P) (w:=w) ht hi (hc u0 (by simp)).1 (hc u1 (by simp)).1 (hc u2 (by simp)).1 (hc u3 (by simp)).1 hz
 have hrun:(execOp (Bq N ρ) ⟨some d,.buildSlice t 4 #[(0,x0),(1,x1),(2,x2),(3,x3)],ty,pos,aft,g⟩).run P w=.ok (.value (.slice (some ⟨w.heap.size,0,none⟩) 4 4)) (w.alloc (.cells #[u0,u1,u2,u3] e)):=by
  simp only[execOp,zc,zf,zh,Sem.run_bind,hx0,hx1,hx2,hx3,hr,Result.andThen_ok,Sem.run_pure]
 refine J2 rfl hu _ _ hrun (BB _ _)<|h _ _ (BB _ _) (by simp) ?_
 have hn:=Gz (e:=e) (w:=w) hE (us:=[u0,u1,u2,u3]) (xs:=ys) (F:=[]) (cur:=#[u0,u1,u2,u3]) hels (by simp[maxLen]) (by rw[hl];rfl) (by rw[hl];simp)
 rw[hl]at hn
 refine⟨_,hn,?_,fun c hc=>?_⟩
 ·rw[List.nodup_cons]
  exact⟨fun hm=>(by cases hm),zk⟩
 ·rcases ze.1 hc with rfl|hc
  ·exact⟨A7 _,by simp⟩
  ·cases hc
end str
theorem UW {H:Array Obj}{u0 u1 u2 u3:Value}(h0:u0.cells=#[u0]∧u0.oneCell'=true)(h1:u1.cells=#[u1]∧u1.oneCell'=true)(h2:u2.cells=#[u2]∧u2.oneCell'=true)(h3:u3.cells=#[u3]∧u3.oneCell'=true):els rV H [u0,u1,u2,u3] [u0,u1,u2,u3] [] :=
 KK fun u hu=>by
  simp only[ze,z2,or_false]at hu
  rcases hu with rfl|rfl|rfl|rfl <;> assumption
theorem TX {p q:List Fn}{F v:Int}{e:Ex}(hF:F≤((p.length:Nat):Int)):GF (p++q) F v e=GF p F v e:=by
 by_cases h:E7 e.num 0 (F-1)=true
 ·have h1:=Br.1 h
  have h2:(p++q).getD e.num.toNat Fn.zero=p.getD e.num.toNat Fn.zero:=H4 zO
  unfold GF
  rw[h2]
 ·unfold GF
  simp only[Bool.not_eq_true]at h
  simp[h]
mutual
theorem OL {p q:List Fn}{F:Int}(hF:F≤((p.length:Nat):Int)):∀(e:Ex)(v:Int),wf (p++q) F e v=wf p F e v
 |.mk k n c d l,v=>by rw[wf,wf,TX hF,PM hF l]
theorem PM {p q:List Fn}{F:Int}(hF:F≤((p.length:Nat):Int)):∀(l:List Ex)(b:Bool)(i:Nat)(v:Int),Pv (p++q) F b i l v=Pv p F b i l v
 |[],_,_,_=>by rw[Pv,Pv]
 |e::l,b,i,v=>by rw[Pv,Pv,OL hF e,PM hF l]
end
structure KU (p:List Fn)(pl:Bool):Prop where
 len:p.length≤12
 par:∀k,k<p.length→1≤(p.getD k Fn.zero).params∧(p.getD k Fn.zero).params≤3
 outs:∀k,k<p.length→1≤(p.getD k Fn.zero).outs.length∧(p.getD k Fn.zero).outs.length≤3
 wf:∀k,k<p.length→∀j,j<(p.getD k Fn.zero).outs.length→wf p ((k:Nat):Int) ((p.getD k Fn.zero).outs.getD j Ex.zero) (p.getD k Fn.zero).params=true
 dp:∀k,k<p.length→Ex.deeps (p.getD k Fn.zero).outs≤6
 sz:∀k,k<p.length→Ex.sizes (p.getD k Fn.zero).outs≤400
 pl:pl=true→∀k,k<p.length→Ol (p.getD k Fn.zero).outs=true
 nm:∀k,k<p.length→Kr (p.getD k Fn.zero).name=true
 nw:∀k,k<p.length→QG p k=true
theorem KU.nil (pl:Bool):KU [] pl:=by
 constructor
 ·simp
 all_goals first|(intro _ k hk;simp at hk)|(intro k hk;simp at hk)
theorem KU.gpr {p:List Fn}{pl:Bool}(h:KU p pl):Yb p :=
 ⟨by have:=h.len;omega,fun k hk=>by have:=h.par k hk;omega,fun k hk=>by have:=h.outs k hk;omega⟩
theorem KU.snoc {p:List Fn}{pl:Bool}{f:Fn}(h:KU p pl)(hl:p.length≤11)(hp:1≤f.params∧f.params≤3)(ho:1≤f.outs.length∧f.outs.length≤3)
  (hw:∀j,j<f.outs.length→Go.Proofs.YtbajepcpgncekaaGreat.wf p ((p.length:Nat):Int) (f.outs.getD j Ex.zero) f.params=true) (hd:Ex.deeps f.outs≤6) (hs:Ex.sizes f.outs≤400) (hpl:pl=true→Ol f.outs=true)
  (hn:Kr f.name=true) (hnw:∀k,k<p.length→HZ (p.getD k Fn.zero).name f.name=false):KU (p++[f]) pl:=by
 have e:∀k,k<(p++[f]).length→(k<p.length∧(p++[f]).getD k Fn.zero=p.getD k Fn.zero)∨(k=p.length∧(p++[f]).getD k Fn.zero=f):=fun k hk=>by
  rw[z4,zd]at hk
  by_cases h:k<p.length
  ·exact .inl ⟨h,H4 h⟩
  ·exact .inr ⟨zO,H5 zO⟩
 refine⟨by rw[z4,zd];omega,?_,?_,?_,?_,?_,?_,?_,?_⟩
 ·intro k hk;rcases e k hk with⟨h1,h2⟩|⟨h1,h2⟩ <;> rw[h2]
  ·exact h.par k h1
  ·exact hp
 ·intro k hk;rcases e k hk with⟨h1,h2⟩|⟨h1,h2⟩ <;> rw[h2]
  ·exact h.outs k h1
  ·exact ho
 ·intro k hk;rcases e k hk with⟨h1,h2⟩|⟨h1,h2⟩ <;> rw[h2]
  ·intro j hj;rw[OL (by omega)];exact h.wf k h1 j hj
  ·intro j hj;subst h1;rw[OL (by omega)];exact hw j hj
 ·intro k hk;rcases e k hk with⟨h1,h2⟩|⟨h1,h2⟩ <;> rw[h2]
  ·exact h.dp k h1
  ·exact hd
 ·intro k hk;rcases e k hk with⟨h1,h2⟩|⟨h1,h2⟩ <;> rw[h2]
  ·exact h.sz k h1
  ·exact hs
 ·intro hq k hk;rcases e k hk with⟨h1,h2⟩|⟨h1,h2⟩ <;> rw[h2]
  ·exact h.pl hq k h1
  ·exact hpl hq
 ·intro k hk;rcases e k hk with⟨h1,h2⟩|⟨h1,h2⟩ <;> rw[h2]
  ·exact h.nm k h1
  ·exact hn
 ·intro k hk
  rcases e k hk with⟨h1,h2⟩|⟨h1,h2⟩
  ·have:=h.nw k h1
   unfold QG at this ⊢
   rwa [h2,List.take_append_of_le_length (by omega)]
  ·unfold QG
   rw[h2,h1,List.take_left]
   simp only[Bool.not_eq_true',List.any_eq_false]
   intro g hg
   obtain⟨i,hi,rfl⟩:=List.mem_iff_getElem.1 hg
   have:=hnw i hi
   rw[List.getD_eq_getElem?_getD,List.getElem?_eq_getElem hi,Option.getD_some]at this
   simp[this]
theorem KU.ok {p:List Fn}{pl:Bool}(h:KU p pl):G7 p=true:=by
 unfold G7
 rw[z7]
 refine⟨A5 (by have:=h.len;omega),zm.2 fun k hk=>?_⟩
 rw[List.mem_range]at hk
 have h1:=h.par k hk;have h2:=h.outs k hk;have h3:=h.sz k hk;have h4:=h.dp k hk
 unfold K4
 rw[h.nm k hk,h.nw k hk,Br.2 zO,Br.2 zO,A5 h3]
 simp only[Bool.true_and,Bool.and_true]
 refine zm.2 fun j hj=>?_
 rw[List.mem_range]at hj
 have h5:=KL hj;have h6:=Dh hj
 unfold LO
 rw[Br.2 zO,Br.2 zO,A5 zO,A5 zO,h.wf k hk j hj]
 rfl
structure Om (p:List Fn)(vars:Int)(pl:Bool)(xs:List Ex)(i:Nat):Prop where
 len:xs.length=i
 wf:∀j,j<i→wf p ((p.length:Nat):Int) (xs.getD j Ex.zero) vars=true
 dp:Ex.deeps xs≤6
 sz:Ex.sizes xs≤i*117
 pl:pl=true→Ol xs=true
theorem Om.nil (p:List Fn)(vars:Int)(pl:Bool):Om p vars pl [] 0:=⟨rfl,fun j hj=>by omega,by rw[Ex.deeps];omega,by rw[Ex.sizes];omega,fun _=>by rw[Ol]⟩
theorem Om.snoc {p:List Fn}{funcs vars:Int}{pl:Bool}{xs:List Ex}{i d:Nat}{l0 l1:Int}{x:Ex}(h:Om p vars pl xs i)(hf:funcs=((p.length:Nat):Int))(hd:d≤5)(hl:l0≤30)(hx:Nn p funcs vars pl d l0 l1 x):Om p vars pl (xs++[x]) (i+1):=by
 have hlen:=h.len
 subst hf
 refine⟨by simp[hlen],fun j hj=>?_,?_,?_,fun hp=>?_⟩
 ·by_cases e:j=i
  ·subst e
   rw[H5 hlen.symm];exact hx.wf
  ·rw[H4 (by omega)];exact h.wf j zO
 ·have h1:=h.dp;have h2:=hx.dp
  rw[Iq];omega
 ·have h1:=h.sz;have h2:=hx.sz
  rw[Ip];omega
 ·rw[NH,h.pl hp,hx.pl hp];rfl
def Dn (p:List Fn):Prop:=∀k,k<p.length→∃s∈LQ,(p.getD k Fn.zero).name=s++IU k
theorem Dn.nil:Dn []:=fun k hk=>by simp at hk
theorem Dn.snoc {p:List Fn}{f:Fn}{s:ByteArray}(h:Dn p)(hs:s∈LQ)(hf:f.name=s++IU p.length):Dn (p++[f]):=fun k hk=>by
 rw[z4,zd]at hk
 by_cases e:k<p.length
 ·rw[H4 e];exact h k e
 ·rw[H5 zO,show k=p.length from by omega];exact⟨s,hs,hf⟩
theorem Om.fn {p:List Fn}{pl:Bool}{f:Fn}{s:ByteArray}{i:Nat}(h:KU p pl)(hd:Dn p)(hl:p.length≤9)(hp:1≤f.params∧f.params≤3)(hi:1≤i∧i≤3)(ho:Om p f.params pl f.outs i)
  (hs:s∈LQ) (hf:f.name=s++IU p.length):KU (p++[f]) pl∧Dn (p++[f]) :=
 ⟨h.snoc zO hp (by rw[ho.len];exact hi) (fun j hj=>ho.wf j (by rw[← ho.len];exact hj)) ho.dp (by have:=ho.sz;omega) ho.pl (by rw[hf];exact TT s hs ⟨p.length,zO⟩) (fun k hk=>by
  obtain⟨t,ht,e⟩:=hd k hk
  rw[e,hf]
  exact TU t ht s hs ⟨k,zO⟩ ⟨p.length,zO⟩ (by show k≠p.length;omega)),hd.snoc hs hf⟩
theorem RS {x:ByteArray}(h:Value.string x∈[Value.string ⟨#[102]⟩,.string ⟨#[103]⟩,.string ⟨#[115,116,101,112]⟩,.string ⟨#[104,50]⟩]):x∈LQ:=by
 simp only[ze,z2,or_false,Value.string.injEq]at h
 rcases h with h|h|h|h <;> subst h <;> simp[LQ]
theorem aF:Hr 5=47770:=by decide
theorem aG:LP 5=1365:=by decide
theorem aH:Hr 4=11930:=by decide
theorem aI:LP 4=341:=by decide
theorem RU (e:TypeId):∀ {d:Nat}{H:Array Obj}{cs:List Value}{x:Ex}{F:List Nat},LM e d H cs x F→LM e (d+1) H cs x F
 |0,_,_,_,_,h=>h.elim
 |d+1,_,_,_,_,⟨v,h1,h2,h3⟩=>⟨v,h1,h2,h3.imp fun h=>RU e h⟩
theorem Xl (e:TypeId){d:Nat}{H:Array Obj}{cs:List Value}{x:Ex}{F:List Nat}(h:LM e d H cs x F):∀ {d':Nat},d≤d'→LM e d' H cs x F:=by
 intro d' hd
 induction hd with
 |refl=>exact h
 |step _ ih=>exact RU e ih
theorem MB.le {e:TypeId}{d d' B U:Nat}{H:Array Obj}{cs:List Value}{x:Ex}(h:MB (LM e d) B U H cs x)(hd:d≤d'):MB (LM e d') B U H cs x:=by
 obtain⟨G,h1,h2,h3⟩:=h
 exact⟨G,Xl e h1 hd,h2,h3⟩
theorem Nn.npl {p:List Fn}{funcs vars l0 l1:Int}{ex:Ex}{pl:Bool}{d:Nat}(h:Nn p funcs vars pl d l0 l1 ex):Nn p funcs vars false d l0 l1 ex:=⟨h.wf,h.sz,h.dp,fun h=>absurd h (by decide),h.lo⟩
theorem KU.npl {p:List Fn}{pl:Bool}(h:KU p pl):KU p false:=⟨h.len,h.par,h.outs,h.wf,h.dp,h.sz,fun h=>absurd h (by decide),h.nm,h.nw⟩
section res
variable {P:Program} {N:Nat} {ρ:Nat→Value} {w:World}
theorem RV:∀(l:List Nat),(((l.map ResultVar.tmp).mapM (m:=Sem) fun
  |.tmp t=>pure ((mk N ρ).tmps.getD t undef)
  |.cell a t=>do loadVar t (← asAddr ((mk N ρ).tmps.getD a undef)))).run P w=.ok (l.map fun t=>Bq N ρ (.tmp t)) w:=by
 intro l
 induction l with
 |nil=>rfl
 |cons t l ih =>
  simp only[zf,List.mapM_cons,Sem.run_bind,Sem.run_pure,Result.andThen_ok,Kh]at ih ⊢
  rw[ih]
  rfl
theorem JD {fn:Func}{R:Ending→World→Prop}{k s b t0:Nat}{ts:List Nat}{ty:TypeId}{cs:List Value}(vs:List Value)(hr:fn.results=(ResultVar.cell k ty::((t0::ts).map ResultVar.tmp)).toArray)(ha:Er P ty s=true)(hv:Bq N ρ (.tmp k)=.pointer (some ⟨b,0,none⟩))(hb:BX w.heap b cs)(hl:cs.length=s)
  (hvs:((t0::ts).map fun t=>Bq N ρ (.tmp t))=vs) (h:R (.returned (.tuple (.agg cs.toArray::vs).toArray)) w):bodyPost P fn R .ret (mk N ρ) w:=by
 subst hvs
 refine⟨rfl,_,?_,h⟩
 have hld:=J6 (P:=P) ha (LD.of_box hb) hl
 have hg:(mk N ρ).tmps.getD k undef=.pointer (some ⟨b,0,none⟩):=by rw[Kh,hv]
 have hi:(asAddr (.pointer (some ⟨b,0,none⟩))).run P w=.ok ⟨b,0,none⟩ w:=rfl
 have key:=RV (P:=P) (N:=N) (ρ:=ρ) (w:=w) (t0::ts)
 unfold results
 rw[hr]
 simp only[List.mapM_toArray,Sem.run_bind,Sem.run_map]
 have hfull:(((ResultVar.cell k ty::((t0::ts).map ResultVar.tmp)).mapM (m:=Sem) fun
  |.tmp t=>pure ((mk N ρ).tmps.getD t undef)
  |.cell a t=>do loadVar t (← asAddr ((mk N ρ).tmps.getD a undef)))).run P w=.ok (.agg cs.toArray::((t0::ts).map fun t=>Bq N ρ (.tmp t))) w:=by
  rw[List.mapM_cons]
  simp only[Sem.run_bind,Sem.run_pure,hg,hi,hld,Result.andThen_ok]
  rw[key]
  rfl
 refine (congrArg (fun r=>(Result.andThen (Result.andThen r fun a w'=>Result.ok a.toArray w') fun a w'=>Result.ok (if h:a.size=1 then a[0]else Value.tuple a) w')) hfull).trans ?_
 simp only[Result.andThen_ok]
 rfl
end res
end
section
set_option linter.unusedSectionVars false
namespace Jx
section
variable [J:JR] {P:Program} {ops:Array Oper} {md:Region.Mode} {kd bs:Nat→Nat} {w0:World} {Q:Act→World→Prop}
theorem Ks {Q':Act→World→Prop}(h:∀a w,Q a w→Q' a w):∀(l:List Nat)(a:Act)(w:World),LI P ops kd w0 Q l a w→LI P ops kd w0 Q' l a w
 |[],a,w,hh=>h a w hh
 |i::l,a,w,hh=>by
  simp only[LI]at hh ⊢
  cases hoi:ops[i]? with
  |none=>rw[hoi]at hh;exact hh.elim
  |some o =>
   rw[hoi]at hh
   simp only at hh ⊢
   split
   ·rename_i hw
    rw[if_pos hw]at hh
    exact hh.mono fun a w=>Ks h l a w
   ·rename_i hw
    rw[if_neg hw]at hh
    exact Ks h l _ _ hh
theorem KV (s:List Nat):∀(l:List Nat)(a:Act)(w:World),LI P ops kd w0 (LI P ops kd w0 Q s) l a w→LI P ops kd w0 Q (l++s) a w
 |[],a,w,hh=>hh
 |i::l,a,w,hh=>by
  simp only[LI,List.cons_append]at hh ⊢
  cases hoi:ops[i]? with
  |none=>rw[hoi]at hh;exact hh.elim
  |some o =>
   rw[hoi]at hh
   simp only at hh ⊢
   split
   ·rename_i hw
    rw[if_pos hw]at hh
    exact hh.mono fun a w=>KV s l a w
   ·rename_i hw
    rw[if_neg hw]at hh
    exact KV s l _ _ hh
theorem DH {Q':Act→World→Prop}(hQ:∀a w,Q a w→Q' a w):∀(l:List Nat)(os:List Oper)(ks:List Nat)(a:Act)(w:World),Mt ops kd l os ks→LW P ops w0 Q os ks a w→LI P ops kd w0 Q' l a w
 |[],[],_,a,w,_,h=>by simpa [LI]using hQ a w (by simpa [LW]using h)
 |x::l,o::os,k::ks,a,w,⟨h0,hk,hM⟩,h=>by
  have hr:∀a w,LW P ops w0 Q os ks a w→LI P ops kd w0 Q' l a w:=fun a w hh=>DH hQ l os ks a w hM hh
  simp only[LI,h0,LW]at h ⊢
  split
  ·rename_i hw
   rw[if_pos hw]at h
   rw[hk]
   exact h.mono hr
  ·rename_i hw
   rw[if_neg hw]at h
   exact hr _ _ h
 |[],_::_,_,_,_,h,_=>h.elim
 |_::_,[],_,_,_,h,_=>h.elim
 |_::_,_::_,[],_,_,h,_=>h.elim
structure OM (ops:Array Oper)(kd bs:Nat→Nat)(w0:World)(L0 S:List Nat)(n:Nat)(l:List Nat)(listed:Array Bool)(w:World):Prop where
 sub:l.Sublist L0
 len:l.length+S.length=n
 mem:∀i,i∈l++S↔listed.getD i true=false
 sz:listed.size=ops.size
 clo:Ju bs listed
 inv:Np kd w0 w (l++S)
 nd:(l++S).Nodup
variable {L0:List Nat}
theorem TY {l:List Nat}(hp:l.Pairwise (fun x y=>4≤kd x→kd y≠1)):Nq kd l:=by
 intro l1 i l2 hl hk j hj
 subst hl
 exact List.rel_of_pairwise_cons (List.pairwise_append.1 hp).2.1 hj hk
theorem KW (hsel:∀(j:Nat)(o:Oper) cs b,ops[j]? = some o→o.op≠.select cs b)(hS:M3 md ops bs)
  (hlex:∀j oj,ops[j]? = some oj→∀e∈oj.after,Region.binds md e=true→e.on<j) {s:List Nat} (hp:(L0++s).Pairwise (E9 md ops kd bs)) (h14:(L0++s).Pairwise (fun x y=>4≤kd x→kd y≠1))
  (n:Nat) (l:List Nat) (listed:Array Bool) (a:Act) (w:World) (hC:OM ops kd bs w0 L0 s n l listed w) (h:LI P ops kd w0 (LI P ops kd w0 Q s) l a w):wpAny P md ops (NQ Q) n listed a w :=
 ET hsel hS hlex n (l++s) listed a w (by rw[z4];exact hC.len) (hp.sublist (List.Sublist.append_right hC.sub s)) hC.nd hC.sz hC.mem hC.clo
  (TY (h14.sublist (List.Sublist.append_right hC.sub s))) hC.inv (KV s l a w h)
theorem JE (hsel:∀ (j:Nat) (o:Oper) cs b,ops[j]? = some o→o.op≠.select cs b) (hS:M3 md ops bs)
  (hlex:∀ j oj,ops[j]? = some oj→∀ e∈oj.after,Region.binds md e = true→e.on < j)
  {h1 h2:Nat} {S1 S2:List Nat} {Q1 Q2:Act→World→Prop} (hperm:(h1 :: S1).Perm (h2 :: S2)) (hk1:kd h1 = 3) (hk2:kd h2 = 3)
  (hl:∀ x∈L0,kd x≤2) (hL:L0.Pairwise (E9 md ops kd bs)) (hf1:∀ x∈L0,E9 md ops kd bs x h1) (hf2:∀ x∈L0,E9 md ops kd bs x h2)
  (hz:∀ z∈S1,z = h2∨(bs z).testBit h1 = true∨(bs z).testBit h2 = true)
  (hord:(L0++h1 :: S1).Pairwise (fun x y=>∀ ox,ops[x]? = some ox→∀ e∈ox.after,Region.binds md e = true→e.on≠y))
  (rec1:∀ n l listed a w,OM ops kd bs w0 L0 S1 n l listed w→LI P ops kd w0 Q1 l a w→wpAny P md ops (NQ Q) n listed a w)
  (rec2:∀ n l listed a w,OM ops kd bs w0 L0 S2 n l listed w→LI P ops kd w0 Q2 l a w→wpAny P md ops (NQ Q) n listed a w) :
  ∀ (n:Nat) (l:List Nat) (listed:Array Bool) (a:Act) (w:World),OM ops kd bs w0 L0 (h1 :: S1) n l listed w→LI P ops kd w0 (fun a w=>LI P ops kd w0 Q1 [h1] a w∧LI P ops kd w0 Q2 [h2] a w) l a w→wpAny P md ops (NQ Q) n listed a w
 | 0,l,listed,a,w,hC,h=>by have:=hC.len; simp at this
 | n + 1,l,listed,a,w,hC,h=>by
  have hm2:∀ i,i∈l++h1 :: S1↔i∈l++h2 :: S2:=fun i=>by
   simp only [zi]; rw [hperm.mem_iff]
  have hun_of:∀ i∈l++h1 :: S1,listed.getD i true = false:=fun i hi=>(hC.mem i).1 hi
  -- a place that makes memory is taken
  have heavy:∀ (x:Nat) (T:List Nat) (Qx:Act→World→Prop),kd x = 3→(h1 :: S1).Perm (x :: T)→(∀ y∈L0,E9 md ops kd bs y x)→LI P ops kd w0 Qx (l++[x]) a w →
    (∀ l' a' w' listed',OM ops kd bs w0 L0 T n l' listed' w'→LI P ops kd w0 Qx l' a' w'→wpAny P md ops (NQ Q) n listed' a' w') →
    ∀ (ox:Oper),ops[x]? = some ox→(∀ e∈ox.after,Region.binds md e = true→listed.getD e.on false = true)→wpOp P ops (NQ Q) x (wpAny P md ops (NQ Q) n (listed.setIfInBounds x true)) a w:=by
   intro x T Qx hkx hpx hfx hLx hrec ox hox hall
   have hbits:=Ef hS hC.clo hox hall
   have hxm:x∈l++h1 :: S1:=z1 _ (hpx.mem_iff.2 (z0 ..))
   have hxu:=hun_of x hxm
   have hfree:=FB (kd:=kd) (l1:=l) hox (fun y hy=>(hfx y<|hC.sub.subset hy).1) (fun y hy=>hun_of y<|z8 _ hy) hbits
   have hsz:=CH hxu
   have hnd2:(l++x :: T).Nodup:=(List.Perm.append_left l hpx).nodup_iff.1 hC.nd
   have hxl:x∉l++T:=by
    have h1:=List.nodup_append.1 hnd2
    intro hmem
    rcases zi.1 hmem with hh | hh
    ·exact h1.2.2 x hh x (z0 ..) rfl
    ·exact (List.nodup_cons.1 h1.2.1).1 hh
   have hmT:∀ i,i∈l++x :: T↔listed.getD i true = false:=fun i=>by
    rw [← hC.mem i]; simp only [zi]; rw [hpx.mem_iff]
   have hcond:∀ w',(AF w w')→OM ops kd bs w0 L0 T n l (listed.setIfInBounds x true) w':=fun w' hE =>
    ⟨hC.sub,by have:=hC.len; have:=hpx.length_eq; simp at *; omega,HM hmT hxl hsz,by simpa using hC.sz,Gw hC.clo hbits,
     fun ⟨j,hj,hkj⟩=>(hC.inv ⟨j,by
      rcases zi.1 hj with hh | hh
      ·exact z8 _ hh
      ·exact z1 _ (hpx.mem_iff.2 (z3 _ hh)),hkj⟩).trans hE,
     hnd2.sublist (List.Sublist.append_left (List.sublist_cons_self _ _) _)⟩
   obtain ⟨g1,g2⟩:=K1 (Q:=Qx) hsel hox zO l [] a w hfree (by simpa using hLx)
   unfold wpOp
   rw [hox]
   by_cases hw:Region.wanted ox (yielded ops a.tmps) = true
   ·simp only [hw,if_true]
    exact .inl<|Oper.wp_mono (fun a' w' hK=>hrec l a' w' _ (hcond w'<|hK.1 hkx) (by simpa using hK.2))<|IW<|g1 hw
   ·simp only [hw,Bool.false_eq_true,if_false]
    exact hrec l _ w _ (hcond w<|AF.refl w) (by simpa using g2 (by simpa using hw))
  refine ⟨fun h0=>?_,fun i hi=>?_⟩
  ·exfalso
   have hready:∀ (x:Nat) (t:List Nat),l++h1 :: S1 = x :: t→False:=fun x t ht=>by
    have hs:(x :: t).Pairwise (fun x y=>∀ ox,ops[x]? = some ox→∀ e∈ox.after,Region.binds md e = true→e.on≠y):=ht ▸ hord.sublist (List.Sublist.append_right hC.sub _)
    have:=Ij (md:=md) (i:=x) (l:=t) hC.sz (fun y=>ht ▸ hC.mem y) hlex (fun y hy ox hox=>(List.pairwise_cons.1 hs).1 y hy ox hox)
    rw [h0] at this
    cases this
   cases l with
   | nil=>exact hready _ _ rfl
   | cons x l=>exact hready x (l++h1 :: S1) rfl
  ·obtain ⟨hun,oi,hoi,hall⟩:=mem_ready.1 hi
   have hmem:=(hC.mem i).2 hun
   have hbits:=Ef hS hC.clo hoi hall
   by_cases hil:i∈l
   ·obtain ⟨l1,l2,rfl⟩:=List.append_of_mem hil
    have hpi:∀ x∈l1,E9 md ops kd bs x i:=fun x hx=>(List.pairwise_append.1 (hL.sublist hC.sub)).2.2 x hx i (z0 ..)
    have hfree:=FB (kd:=kd) (l1:=l1) hoi (fun x hx=>(hpi x hx).1) (fun x hx=>hun_of x (by simp [hx])) hbits
    have hk:kd i≤2:=hl i (hC.sub.subset (by simp))
    have hsub0:(l1++l2).Sublist (l1++i :: l2):=List.Sublist.append_left (List.sublist_cons_self _ _) _
    have hnd1:(l1++i :: (l2++h1 :: S1)).Nodup:=by have:=hC.nd; rwa [List.append_assoc,List.cons_append] at this
    have hnot:i∉l1++(l2++h1 :: S1):=by
     have h1:=List.nodup_append.1 hnd1
     intro hmem
     rcases zi.1 hmem with hh | hh
     ·exact h1.2.2 i hh i (z0 ..) rfl
     ·exact (List.nodup_cons.1 h1.2.1).1 hh
    have hm1:∀ x,x∈l1++i :: (l2++h1 :: S1)↔listed.getD x true = false:=fun x=>by
     have:=hC.mem x; rwa [List.append_assoc,List.cons_append] at this
    have hcond:OM ops kd bs w0 L0 (h1 :: S1) n (l1++l2) (listed.setIfInBounds i true) w :=
     ⟨hsub0.trans hC.sub,by have:=hC.len; simp at *; omega,fun x=>by rw [List.append_assoc]; exact HM hm1 hnot (CH hun) x,by simpa using hC.sz,Gw hC.clo hbits,
      fun ⟨j,hj,hkj⟩=>hC.inv ⟨j,by
       rcases zi.1 hj with hh | hh
       ·exact z8 _<|hsub0.subset hh
       ·exact z1 _ hh,hkj⟩,
      hC.nd.sublist (List.Sublist.append_right hsub0 _)⟩
    obtain ⟨v,hv,hL'⟩:=I9 hsel hoi hk l1 l2 a w hfree (fun h1=>hC.inv ⟨i,by simp,h1⟩) h
    unfold wpOp
    rw [hoi]
    have rec_:=fun a' hh=>JE hsel hS hlex hperm hk1 hk2 hl hL hf1 hf2 hz hord rec1 rec2 n (l1++l2) (listed.setIfInBounds i true) a' w hcond hh
    rcases hv with ⟨hw,hy⟩ | ⟨hw,rfl⟩
    ·simp only [hw,if_true]
     exact .inl<|IX (hy w (Cl.self fun h1=>hC.inv ⟨i,by simp,h1⟩))<|rec_ _ hL'
    ·simp only [hw,Bool.false_eq_true,if_false]
     exact rec_ _ hL'
   ·have hiS:i∈h1 :: S1:=(zi.1 hmem).resolve_left hil
    have h12:i = h1∨i = h2:=by
     rcases ze.1 hiS with hh | hh
     ·exact .inl hh
     ·rcases hz i hh with hh | hh | hh
      ·exact .inr hh
      ·have q1:=hbits h1 hh
       have q2:=DD<|hun_of h1 (by simp)
       rw [q1] at q2; cases q2
      ·have q1:=hbits h2 hh
       have q2:=DD<|hun_of h2 ((hm2 h2).2 (by simp))
       rw [q1] at q2; cases q2
    rcases h12 with rfl | rfl
    ·exact heavy i S1 Q1 hk1 (List.Perm.refl _) hf1 (KV [i] l a w<|Ks (fun _ _ hh=>hh.1) l a w h) (fun l' a' w' li hc hh=>rec1 n l' li a' w' hc hh) oi hoi hall
    ·exact heavy i S2 Q2 hk2 hperm hf2 (KV [i] l a w<|Ks (fun _ _ hh=>hh.2) l a w h) (fun l' a' w' li hc hh=>rec2 n l' li a' w' hc hh) oi hoi hall
theorem MM (x:Nat)(l:List Nat)(a:Act)(w:World)(hh:LI P ops kd w0 Q (x::l) a w):LI P ops kd w0 (LI P ops kd w0 Q l) [x] a w:=by
 simp only[LI]at hh ⊢
 cases hoi:ops[x]? with
 |none=>rw[hoi]at hh;exact hh.elim
 |some o =>
  rw[hoi]at hh
  simp only at hh ⊢
  split
  ·rename_i hw
   rw[if_pos hw]at hh
   exact hh.mono fun a w h=>h
  ·rename_i hw
   rw[if_neg hw]at hh
   exact hh
end
def PN (ops:Array Oper)(x y:Nat):Bool:=match ops[x]? with|some ox=>ox.after.all fun e=>!Region.binds .any e || e.on != y|none=>true
def Yc (os:List Oper)(ks:List Nat)(L0:List Nat)(h1 g1:Nat)(r1:List Nat)(g2:Nat)(r2:List Nat)(h2:Nat)(r3:List Nat):Bool :=
  let ops:=os.toArray
  let b:=(Region.before ops).toList
  Region.noSelect ops &&
  (os.zipIdx.all fun(o,j) =>
    (o.after.all fun e=>!Region.binds .any e || decide (e.on<j)) &&
    (let m:=o.after.foldl (fun s e=>if Region.binds .any e then s ||| 2 ^ e.on ||| b.getD e.on 0 else s) 0
     (b.getD j 0 == m))) &&
  (decide (ks.getD h1 0=3) && (decide (ks.getD h2 0=3) && (decide (ks.getD g1 0=3) && decide (ks.getD g2 0=3)))) &&
  (L0.all fun x=>decide (ks.getD x 0≤2)) &&
  QA (He ops ks b) L0 &&
  (L0.all fun x=>He ops ks b x h1 && (He ops ks b x h2 && (He ops ks b x g1 && He ops ks b x g2))) &&
  ((h1::g1::r1).isPerm (h2::r3) && (g1::r1).isPerm (g2::r2)) &&
  ((g1::r1).all fun z=>decide (z=h2) || ((b.getD z 0).testBit h1 || (b.getD z 0).testBit h2)) &&
  (r1.all fun z=>decide (z=g2) || ((b.getD z 0).testBit g1 || (b.getD z 0).testBit g2)) &&
  (QA (PN ops) (L0++h1::g1::r1)) &&
  (QA (He ops ks b) (L0++r1) && (QA (He ops ks b) (L0++r2) && QA (He ops ks b) (L0++r3))) &&
  (QA (fun x y=>!(decide (4≤ks.getD x 0)) || ks.getD y 0 != 1) (L0++r1) && (QA (fun x y=>!(decide (4≤ks.getD x 0)) || ks.getD y 0 != 1) (L0++r2) && QA (fun x y=>!(decide (4≤ks.getD x 0)) || ks.getD y 0 != 1) (L0++r3))) &&
  (decide ((L0++h1::g1::r1).length=os.length) && (decide (L0++h1::g1::r1).Nodup && ((L0++h1::g1::r1).all (fun x=>decide (x<os.length)) && (List.range os.length).all fun x=>(L0++h1::g1::r1).contains x)))
section
variable [J:JR] {P:Program}
theorem Yd {id:Nat}{Q:Exit→Act→World→Prop}{a:Act}{w:World}(os:List Oper)(ks:List Nat)(L0:List Nat)(h1 g1:Nat)(r1:List Nat)(g2:Nat)(r2:List Nat)(h2:Nat)(r3:List Nat)
  (oL:List Oper) (kL:List Nat) (oh1 og1:Oper) (o1:List Oper) (k1:List Nat) (og2:Oper) (o2:List Oper) (k2:List Nat) (oh2:Oper) (o3:List Oper) (k3:List Nat) (hm:P.follows .mixedOrders=true) (hB:Yc os ks L0 h1 g1 r1 g2 r2 h2 r3=true)
  (hML:Mt os.toArray (fun i=>ks.getD i 0) L0 oL kL) (hMh:Mt os.toArray (fun i=>ks.getD i 0) [h1] [oh1] [3]) (hM1:Mt os.toArray (fun i=>ks.getD i 0) (g1::r1) (og1::o1) (3::k1)) (hM2:Mt os.toArray (fun i=>ks.getD i 0) (g2::r2) (og2::o2) (3::k2)) (hM3:Mt os.toArray (fun i=>ks.getD i 0) (h2::r3) (oh2::o3) (3::k3))
  (h:LW P os.toArray w.drew (fun a' w'=>LW P os.toArray w.drew (fun a'' w''=>LW P os.toArray w.drew (fun a w=>Q .normal a w) (og1::o1) (3::k1) a'' w''∧LW P os.toArray w.drew (fun a w=>Q .normal a w) (og2::o2) (3::k2) a'' w'') [oh1] [3] a' w' ∧
   LW P os.toArray w.drew (fun a w=>Q .normal a w) (oh2::o3) (3::k3) a' w') oL kL a w.drew):(Code.region id os.toArray true).wp P Q a w:=by
 refine wp_region_any hm ?_
 simp only[Yc,z7,decide_eq_true_eq]at hB
 obtain⟨⟨⟨⟨⟨⟨⟨⟨⟨⟨⟨⟨hsel,hpl⟩,hk1,hk2,hk3,hk4⟩,hl⟩,hpL⟩,hpx⟩,hpe1,hpe2⟩,hz1⟩,hz2⟩,hord⟩,hb1,hb2,hb3⟩,hn1,hn2,hn3⟩,hln,hnd,hlt,hct⟩:=hB
 have hz:∀ {j:Nat} {o:Oper},os.toArray[j]? = some o→(o,j)∈os.zipIdx:=by
  intro j o ho
  rw[List.mem_zipIdx_iff_getElem?]
  simpa using ho
 have hall:∀j oj,os.toArray[j]? = some oj→_:=fun j oj hj=>zm.1 hpl _ (hz hj)
 have hlex:∀j oj,os.toArray[j]? = some oj→∀e∈oj.after,Region.binds .any e=true→e.on<j:=by
  intro j oj hj e he hb
  have h1:=(z7 _ _ ▸ hall j oj hj:_∧_).1
  have h2:=(Array.all_eq_true_iff_forall_mem.1 h1) e he
  simpa [hb]using h2
 have hS:M3 .any os.toArray (fun j=>(Region.before os.toArray).toList.getD j 0):=by
  intro j oj hj i hb
  have h3:=(z7 _ _ ▸ hall j oj hj:_∧_).2
  have h5:(Region.before os.toArray).toList.getD j 0=oj.after.foldl (fun s e=>if Region.binds .any e then s ||| 2 ^ e.on ||| (Region.before os.toArray).toList.getD e.on 0 else s) 0:=by simpa using h3
  dsimp only at hb
  rw[h5,← Array.foldl_toList]at hb
  rcases Gx _ _ _ _ hb with hb|⟨e,he,hbb,hh⟩
  ·simp at hb
  ·exact⟨e,Array.mem_toList_iff.1 he,hbb,hh⟩
 have hmem:∀x,x∈L0++h1::g1::r1↔x<os.length:=fun x=>by
  constructor
  ·intro hx;exact of_decide_eq_true (zm.1 hlt x hx)
  ·intro hx
   have:=zm.1 hct x (List.mem_range.2 hx)
   simpa using this
 have hse:=Region.noSelect_spec hsel
 have P2:∀ {l:List Nat},QA (He os.toArray ks (Region.before os.toArray).toList) l=true→l.Pairwise (E9 .any os.toArray (fun i=>ks.getD i 0) (fun j=>(Region.before os.toArray).toList.getD j 0)):=fun h=>IZ (fun x y hh=>EU hh) h
 have N2:∀ {l:List Nat},QA (fun x y=>!(decide (4≤ks.getD x 0)) || ks.getD y 0 != 1) l=true→l.Pairwise (fun x y=>4≤ks.getD x 0→ks.getD y 0≠1):=fun h=>IZ (fun x y hxy h4=>by
  rcases Bool.or_eq_true_iff.1 hxy with hh|hh
  ·simp only[Bool.not_eq_true',decide_eq_false_iff_not]at hh;exact absurd h4 hh
  ·simpa using hh) h
 have hL2:∀x∈L0,ks.getD x 0≤2:=fun x hx=>of_decide_eq_true (zm.1 hl x hx)
 have hx4:∀x∈L0,_:=fun x hx=>zm.1 hpx x hx
 simp only[z7]at hx4
 have hordP:(L0++h1::g1::r1).Pairwise (fun x y=>∀ox,os.toArray[x]? = some ox→∀e∈ox.after,Region.binds .any e=true→e.on≠y):=IZ (fun x y hh ox hox e he hb=>by
  unfold PN at hh
  rw[hox]at hh
  have:=(Array.all_eq_true_iff_forall_mem.1 hh) e he
  simpa [hb]using this) hord
 have hord2:(L0++g1::r1).Pairwise (fun x y=>∀ox,os.toArray[x]? = some ox→∀e∈ox.after,Region.binds .any e=true→e.on≠y):=hordP.sublist (List.Sublist.append_left (List.sublist_cons_self _ _) _)
 have zz1:∀z∈g1::r1,z=h2∨((Region.before os.toArray).toList.getD z 0).testBit h1=true∨((Region.before os.toArray).toList.getD z 0).testBit h2=true:=fun z hz=>by
  have:=zm.1 hz1 z hz
  simpa only[Bool.or_eq_true,decide_eq_true_eq]using this
 have zz2:∀z∈r1,z=g2∨((Region.before os.toArray).toList.getD z 0).testBit g1=true∨((Region.before os.toArray).toList.getD z 0).testBit g2=true:=fun z hz=>by
  have:=zm.1 hz2 z hz
  simpa only[Bool.or_eq_true,decide_eq_true_eq]using this
 have base1:=KW (P:=P) (w0:=w.drew) (Q:=fun a w=>Q .normal a w) hse hS hlex (P2 hb1)<|N2 hn1
 have base2:=KW (P:=P) (w0:=w.drew) (Q:=fun a w=>Q .normal a w) hse hS hlex (P2 hb2)<|N2 hn2
 have base3:=KW (P:=P) (w0:=w.drew) (Q:=fun a w=>Q .normal a w) hse hS hlex (P2 hb3)<|N2 hn3
 have inner:=JE (P:=P) (w0:=w.drew) (Q:=fun a w=>Q .normal a w) hse hS hlex (h1:=g1) (h2:=g2) (S1:=r1) (S2:=r2) (List.isPerm_iff.1 hpe2) hk3 hk4 hL2 (P2 hpL) (fun x hx=>EU (hx4 x hx).2.2.1) (fun x hx=>EU (hx4 x hx).2.2.2) zz2 hord2 base1 base2
 have outer:=JE (P:=P) (w0:=w.drew) (Q:=fun a w=>Q .normal a w) hse hS hlex (h1:=h1) (h2:=h2) (S1:=g1::r1) (S2:=r3) (List.isPerm_iff.1 hpe1) hk1 hk2 hL2 (P2 hpL) (fun x hx=>EU (hx4 x hx).1) (fun x hx=>EU (hx4 x hx).2.1) zz1 hordP inner base3
 have key:=outer os.length L0 (Array.replicate os.length false) a w.drew ⟨List.Sublist.refl _,by rw[← hln,z4],fun x=>?_,by simp,?_,fun _=>AF.refl _,hnd⟩ ?_
 ·have:=Ik _ _ _ _ key
  simpa using this
 ·rw[hmem]
  constructor
  ·intro hx;simp[hx]
  ·intro hh
   rcases Nat.lt_or_ge x os.length with h'|h'
   ·exact h'
   ·simp[Array.getElem?_eq_none (show(Array.replicate os.length false).size≤x by simpa using h')]at hh
 ·intro i hi
  rcases Nat.lt_or_ge i os.length with h'|h'
  ·simp[h']at hi
  ·simp[Array.getElem?_eq_none (show(Array.replicate os.length false).size≤i by simpa using h')]at hi
 ·refine DH (fun a w hh=>⟨?_,?_⟩) _ _ _ _ _ hML h
  ·exact DH (fun a w hh=>⟨MM _ _ _ _<|DH (fun _ _ h=>h) _ _ _ _ _ hM1 hh.1,MM _ _ _ _<|DH (fun _ _ h=>h) _ _ _ _ _ hM2 hh.2⟩) _ _ _ _ _ hMh hh.1
  ·exact MM _ _ _ _<|DH (fun _ _ h=>h) _ _ _ _ _ hM3 hh.2
theorem cE {ops:Array Oper}{w0:World}{Q:Act→World→Prop}{o:Oper}{os:List Oper}{ks:List Nat}{a:Act}{w:World}(h:_root_.Go.Proofs.YtbajepcpgncekaaGreat.LW P ops w0 (fun a' w'=>AF w w'∧LW P ops w0 Q os ks a' w') [o] [4] a w):LW P ops w0 Q (o::os) (3::ks) a w:=by
 simp only[_root_.Go.Proofs.YtbajepcpgncekaaGreat.LW]at h
 simp only[LW]
 split
 ·rename_i hw
  rw[if_pos hw]at h
  unfold _root_.Go.Proofs.YtbajepcpgncekaaGreat.BA at h
  unfold BA
  rw[if_neg (by decide),if_neg (by decide)]at h
  rw[if_neg (by decide),if_pos rfl]
  exact h
 ·rename_i hw
  rw[if_neg hw]at h
  exact h.2
theorem aJ {ops:Array Oper}{w0:World}{Q:Act→World→Prop}{o:Oper}{os:List Oper}{ks:List Nat}{a:Act}{w:World}(h:_root_.Go.Proofs.YtbajepcpgncekaaGreat.LW P ops w0 (fun a' w'=>LW P ops w0 Q os ks a' w') [o] [3] a w):LW P ops w0 Q (o::os) (3::ks) a w:=by
 simp only[_root_.Go.Proofs.YtbajepcpgncekaaGreat.LW]at h
 simp only[LW]
 split
 ·rename_i hw
  rw[if_pos hw]at h
  unfold _root_.Go.Proofs.YtbajepcpgncekaaGreat.BA at h
  unfold BA
  rw[if_neg (by decide),if_pos rfl]at h
  rw[if_neg (by decide),if_pos rfl]
  exact Oper.wp_mono (fun a w hh=>⟨J.ext hh.1,hh.2⟩) h
 ·rename_i hw
  rw[if_neg hw]at h
  exact h
end
end Jx
end
section
structure AE where
 op:Int
 a:Int
 b:Int
 num:Int
def AE.zero:AE:=⟨0,0,0,0⟩
structure Iv where
 reg:Int
 z:Bool
def Iv.zero:Iv:=⟨0,false⟩
structure Tp where
 code:List AE
 grd:List Iv
 vals:List Int
def ZS (x:AE):List Value:=[.int .i64 x.op,.int .i64 x.a,.int .i64 x.b,.int .i64 x.num]
def ZT (x:Iv):List Value:=[.int .i64 x.reg,.bool x.z]
def RW (x:AE):Prop:=Bx x.op∧Bx x.a∧Bx x.b∧Bx x.num
def On:BK AE:=fun _ cs x F=>cs=ZS x∧RW x∧F=[]
def Oo:BK Iv:=fun _ cs x F=>cs=ZT x∧Bx x.reg∧F=[]
theorem Bb:Cq 4 On where
 len:=fun h=>by rw[h.1];rfl
 one:=fun h u hu=>by
  rw[h.1]at hu
  simp only[ZS,ze,z2,or_false]at hu
  rcases hu with rfl|rfl|rfl|rfl <;> exact⟨rfl,rfl⟩
 lt:=fun h b hb=>by rw[h.2.2]at hb;cases hb
 stable:=fun h _=>h
theorem Bm:Cq 2 Oo where
 len:=fun h=>by rw[h.1];rfl
 one:=fun h u hu=>by
  rw[h.1]at hu
  simp only[ZT,ze,z2,or_false]at hu
  rcases hu with rfl|rfl <;> exact⟨rfl,rfl⟩
 lt:=fun h b hb=>by rw[h.2.2]at hb;cases hb
 stable:=fun h _=>h
theorem RY {B U:Nat}{H:Array Obj}{x:AE}(h:RW x):MB On B U H (ZS x) x:=⟨[],⟨rfl,h,rfl⟩,zk,fun b hb=>by cases hb⟩
theorem Xm {B U:Nat}{H:Array Obj}{x:Iv}(h:Bx x.reg):MB Oo B U H (ZT x) x:=⟨[],⟨rfl,h,rfl⟩,zk,fun b hb=>by cases hb⟩
section ops
variable {P:Program} {ops:Array Oper} {w0:World} {Q:Act→World→Prop} {os:List Oper} {ks:List Nat} {N:Nat} {ρ:Nat→Value} {w:World}
 {d:Nat} {ty:TypeId} {pos:String} {aft:Array Edge} {g:Option (Nat×Bool)} {t e:TypeId} {z:Value} {b s:Nat}
theorem MN {α:Type}{E:BK α}(hE:Cq s E){x y:Operand}{v a:Value}{xs:List α}{y0:α}{B T B' U':Nat}{F:List Nat}(ht:P.underlying t=some (.slice e))(hi:TI P e s z b)(hz:z.cells.size=s)(hs:0<s)(hx:Bq N ρ x=v)(hy:Bq N ρ y=a)(hv:Ow (E4 s E e) B T w.heap v xs F)
  (ha:Fr (E4 s E e) B' U' w.heap a [y0]) (hT:T≤B') (hB:B≤B') (hBw:B≤w.heap.size) (hbytes:(xs.length+1)*b≤140737488355328) (hmx:xs.length+1≤maxLen) (hu:Up ops N ρ ⟨some d,.call ⟨.builtin .append,#[x,y],#[t,t]⟩,ty,pos,aft,g⟩)
  (h:∀v1 w1 F1,Au F w w1→Ow (E4 s E e) B w1.heap.size w1.heap v1 (xs++[y0]) F1→(∀c∈F1,c∈F∨(B'≤c∧c<U')∨w.heap.size≤c)→LW P ops w0 Q os ks (mk N (CD ρ d v1)) w1) :
  LW P ops w0 Q (⟨some d,.call ⟨.builtin .append,#[x,y],#[t,t]⟩,ty,pos,aft,g⟩::os) (4::ks) (mk N ρ) w:=by
 obtain⟨v1,w1,F0,r1,⟨F1,r2,r3,r4⟩,r5,r6⟩:=KM (P:=P) (ty:=ty) hE ht hi hz hs (S:=fun b=>b∈F) (T:=fun b=>B'≤b∧b<U') ⟨F,hv.own,hv.nodup,fun _ h=>h⟩ ha (fun b h1 h2=>by have:=hv.high b h1;omega) hbytes hmx
 have hh:∀c∈F1,c∈F∨(B'≤c∧c<U')∨w.heap.size≤c:=fun c hc=>by
  rcases r4 c hc with h|h|h
  ·exact .inl h
  ·exact .inr<|.inl h
  ·exact .inr<|.inr<|Nat.le_of_eq h.symm
 exact J3 rfl hu v1 w1 (by simp only[execOp,resolve,invoke,builtin,zc,zf,zh,Sem.run_bind,Sem.run_pure,Result.andThen_ok,hx,hy,r1])
  (h v1 w1 F1 (r5.sub r6) ⟨r2,r3,fun c hc=>by
   rcases hh c hc with h|h|h
   ·exact hv.low c h
   ·omega
   ·omega,fun c hc=>(Ao hE).lt r2 c hc⟩ hh)
theorem KX {x y:Operand}{v a:Value}{xs ys:List Int}{B T:Nat}{F:List Nat}(ht:P.underlying t=some (.slice e))(hi:TI P e 1 z b)(hz:z.cells=#[z])(hx:Bq N ρ x=v)(hy:Bq N ρ y=a)(hv:Ow (Bh rI e) B T w.heap v xs F)
  (ha:Rd (B3 rI) w.heap a ys) (hB:B≤w.heap.size) (hbytes:(xs.length+ys.length)*b≤140737488355328) (hmx:xs.length+ys.length≤maxLen) (hu:Up ops N ρ ⟨some d,.call ⟨.builtin .append,#[x,y],#[t,t]⟩,ty,pos,aft,g⟩)
  (h:∀v1 w1 F1,Au F w w1→Ow (Bh rI e) B w1.heap.size w1.heap v1 (xs++ys) F1→(∀c∈F1,c∈F∨w.heap.size≤c)→LW P ops w0 Q os ks (mk N (CD ρ d v1)) w1) :
  LW P ops w0 Q (⟨some d,.call ⟨.builtin .append,#[x,y],#[t,t]⟩,ty,pos,aft,g⟩::os) (4::ks) (mk N ρ) w:=by
 obtain⟨G,g1⟩:=ha
 have hG:G.drop 1=[]:=by
  rcases g1 with⟨_,_,_,_,rfl⟩|⟨us,g,off,cap,cur,e',fr,G',hels,_,_,_,_,rfl⟩
  ·rfl
  ·exact In hels
 obtain⟨v',w',F',r1,r2,r3,r4,r5⟩:=J5 (P:=P) (ty:=ty) AR ht hi hz hv.own hv.nodup g1 rfl hbytes hmx (fun c hc=>by rw[hG]at hc;cases hc) (by rw[hG];exact zk)
 have hh:∀c∈F',c∈F∨w.heap.size≤c:=fun c hc=>by
  rcases r4 c hc with h|h|h
  ·exact .inl h
  ·rw[hG]at h;cases h
  ·exact .inr<|Nat.le_of_eq h.symm
 exact J3 rfl hu v' w' (by simp only[execOp,resolve,invoke,builtin,zc,zf,zh,Sem.run_bind,Sem.run_pure,Result.andThen_ok,hx,hy,r1])
  (h v' w' F' (r5.sub fun c hc=>zj hc) ⟨r2,r3,fun c hc=>by
   rcases hh c hc with h|h
   ·exact hv.low c h
   ·omega,fun c hc=>(Bc AR).lt r2 c hc⟩ hh)
theorem TZ {x y:Operand} {v a u:Value} {xs:List Int} {r:Int} {S:List Nat} {B' U':Nat} (ht:P.underlying t = some (.slice e)) (hi:TI P e 1 z b) (hz:z.cells = #[z]) (hx:Bq N ρ x = DJ v) (hy:Bq N ρ y = a)
  (hv:RN S (B3 rI) w.heap v xs) (ha:Fr (Bh rV e) B' U' w.heap a [u]) (hr:RN S rI w.heap u r) (hS:∀ c∈S,c < w.heap.size) (hbytes:(xs.length + 1) * b≤140737488355328) (hmx:xs.length + 1≤maxLen)
  (hu:Up ops N ρ ⟨some d,.call ⟨.builtin .append,#[x,y],#[t,t]⟩,ty,pos,aft,g⟩)
  (h:∀ v1 w1,AF w w1→RN S (B3 rI) w1.heap v1 (xs++[r])→C5 v1→LW P ops w0 Q os ks (mk N (CD ρ d v1)) w1) :
  LW P ops w0 Q (⟨some d,.call ⟨.builtin .append,#[x,y],#[t,t]⟩,ty,pos,aft,g⟩ :: os) (4 :: ks) (mk N ρ) w:=by
 obtain ⟨G,g1',g2',g3'⟩:=ha
 obtain ⟨K,k1,k2⟩:=hv
 obtain ⟨R,r1,r2⟩:=hr
 obtain ⟨i,h1,h2,h3,h4⟩:=hi.get
 subst h4
 have hone:=AR.one r1
 rcases g1' with ⟨_,hc,_⟩ | ⟨asq,ga,capa,cura,Fa,helsa,hav,hga,qa1,qa2,qa3,qa4,rfl⟩
 ·cases hc
 ·obtain ⟨hq,hFa⟩:=EM helsa
  subst hq
  subst hav
  have hnews:∀ j q,[u][j]? = some q→w.cell? ((⟨ga,0,none⟩:Addr).add j) = some q:=by
   intro j q hj
   rw [EW,BC]
   simp only [BP,hga]
   rw [← qa4,List.getElem?_take] at hj
   split at hj
   ·simpa using hj
   ·cases hj
  have made:∀ (w1:World) (ous:List Value) (K0:List Nat) (rest:Nat),w1.heap = w.heap→w1.os = w.os→w1.tape = w.tape→w1.output = w.output→els rI w.heap ous xs K0→(∀ c∈K0,c∈K)→xs.length + 1 + rest≤maxLen →
    AF w (w1.alloc (.cells (ous.toArray++[u].toArray++Builtin.zeroCells z.cells rest) e))∧RN S (B3 rI) (w1.alloc (.cells (ous.toArray++[u].toArray++Builtin.zeroCells z.cells rest) e)).heap (.slice (some ⟨w.heap.size,0,none⟩) (xs.length + 1) (xs.length + 1 + rest)) (xs++[r]):=by
   intro w1 ous K0 rest hh ho htp hop hou hsub hmax
   have hE:AF w (w1.alloc (.cells (ous.toArray++[u].toArray++Builtin.zeroCells z.cells rest) e)):=by
    refine ⟨ho,htp,hop,?_,fun k hk=>?_⟩
    ·show w.heap.size≤(w1.heap.push _).size
     rw [hh]; simp
    ·have:=Below.heap_alloc w1 (.cells (ous.toArray++[u].toArray++Builtin.zeroCells z.cells rest) e) k (by rw [hh]; exact hk)
     rw [this,hh]
   refine ⟨hE,w.heap.size :: (K0++R),.inr ⟨ous++[u],w.heap.size,0,xs.length + 1 + rest,(ous.toArray++[u].toArray++Builtin.zeroCells z.cells rest),e,(0,0),K0++R,?_,by simp,?_,?_,by simp; omega,rfl⟩,?_⟩
   ·refine els.stable AR (hou.append (show els rI w.heap [u] [r] R from ⟨R,[],by simp,r1,rfl⟩)) fun c hc=>hE.heap ?_
    exact (hou.append (show els rI w.heap [u] [r] R from ⟨R,[],by simp,r1,rfl⟩)).lt AR c hc
   ·have:=heap_alloc_new w1 (.cells (ous.toArray++[u].toArray++Builtin.zeroCells z.cells rest) e)
    rw [hh] at this; exact this
   ·have hl:=hou.length
    simp only [Array.toList_append,List.drop_zero]
    rw [show (xs++[r]).length = (ous++[u]).length from by simp [hl]]
    exact List.take_left
   ·intro c hc hm
    rcases ze.1 hc with rfl | hc
    ·have:=hS _ hm; omega
    ·rcases zi.1 hc with hc | hc
     ·exact k2 c (hsub c hc) hm
     ·exact r2 c hc hm
  have hone1:[u].length = [u].length * i.size:=by rw [h3,Nat.mul_one]
  rcases k1 with ⟨a0,cap0,rfl,rfl,rfl⟩ | ⟨ous,gv,off,cap,cur,e',fr,K',hels,rfl,hg,hw,_,rfl⟩
  ·-- nothing so far
   cases a0 with
   | none =>
    have hrr:=run_append_nil (P:=P) w t ty e i z ht h1 h2 ⟨ga,0,none⟩ 1 capa [u] hone1 hnews (by decide) (by decide) (by simp at hbytes; omega)
    have hge:=grownCap_ge w 1 0 e
    have hgm:=grownCap_le_maxLen w 1 0 e (by simpa using hmx)
    obtain ⟨q1,q2⟩:=made w.drew [] [] (grownCap w 1 0 e - 1) rfl rfl rfl rfl rfl (fun c hc=>by cases hc) (by simp; omega)
    refine J3 rfl hu _ _ (by simp only [execOp,resolve,invoke,builtin,zc,zf,zh,Sem.run_bind,Sem.run_pure,Result.andThen_ok,hx,hy,DJ]; rw [show [u].length = 1 from rfl,hrr]; rfl)<|h _ _ ?_ ?_ ?_
    ·simpa using q1
    ·have ea:(([]:List Int).length + 1 + (grownCap w 1 0 e - 1)) = grownCap w 1 0 e:=by simp; omega
     rw [ea] at q2
     simpa using q2
    ·exact hge
   | some a1 =>
    have hrr:=run_append_grow (P:=P) w t ty e i z ht h1 h2 a1 0 0 [] (by rw [h3]; rfl) (by intro j q hj; cases hj) ⟨ga,0,none⟩ 1 capa [u] hone1 hnews zO (by decide)<|growslice_fits zO (by simpa using hbytes)
    have hge:=grownCap_ge w (0 + 1) 0 e
    have hgm:=grownCap_le_maxLen w (0 + 1) 0 e (by simpa using hmx)
    obtain ⟨q1,q2⟩:=made w.drew [] [] (grownCap w (0 + 1) 0 e - (0 + 1)) rfl rfl rfl rfl rfl (fun c hc=>by cases hc) (by show 0 + 1 + (grownCap w (0 + 1) 0 e - (0 + 1))≤maxLen; omega)
    refine J3 rfl hu _ _ (by simp only [execOp,resolve,invoke,builtin,zc,zf,zh,Sem.run_bind,Sem.run_pure,Result.andThen_ok,hx,hy,DJ]; rw [show [u].length = 1 from rfl,hrr]; rfl)<|h _ _ q1 ?_ ?_
    rotate_left
    ·exact hge
    have ea:(([]:List Int).length + 1 + (grownCap w (0 + 1) 0 e - (0 + 1))) = grownCap w (0 + 1) 0 e:=by show 0 + 1 + (grownCap w (0 + 1) 0 e - (0 + 1)) = _; omega
    rw [ea] at q2
    simpa using q2
  ·have holds:∀ j q,ous[j]? = some q→w.cell? ((⟨gv,off,none⟩:Addr).add j) = some q:=by
    intro j q hj
    rw [EW,BC]
    simp only [BP,hg]
    rw [← hw,List.getElem?_take] at hj
    split at hj
    ·rw [List.getElem?_drop] at hj; simpa using hj
    ·cases hj
   have hrr:=run_append_grow (P:=P) w t ty e i z ht h1 h2 ⟨gv,off,none⟩ xs.length xs.length ous (by rw [h3,hels.length]; omega) holds ⟨ga,0,none⟩ 1 capa [u] hone1 hnews zO (by simp only [maxLen] at hmx; omega)<|growslice_fits zO hbytes
   have hge:=grownCap_ge w (xs.length + 1) xs.length e
   have hgm:=grownCap_le_maxLen w (xs.length + 1) xs.length e hmx
   obtain ⟨q1,q2⟩:=made w.drew ous K' (grownCap w (xs.length + 1) xs.length e - (xs.length + 1)) rfl rfl rfl rfl hels (fun c hc=>z3 _ hc) zO
   refine J3 rfl hu _ _ (by simp only [execOp,resolve,invoke,builtin,zc,zf,zh,Sem.run_bind,Sem.run_pure,Result.andThen_ok,hx,hy,DJ]; rw [show [u].length = 1 from rfl,hrr]; rfl)<|h _ _ q1 ?_ ?_
   rotate_left
   ·exact hge
   have ea:(xs.length + 1 + (grownCap w (xs.length + 1) xs.length e - (xs.length + 1))) = grownCap w (xs.length + 1) xs.length e:=by omega
   rw [ea] at q2
   exact q2
end ops
def Cu (t1 t2 t3:TypeId)(S:List Nat)(g:Nat)(H:Array Obj)(vc vg vv:Value)(T:Tp):Prop :=
 ∃Fc Fg Fv,Ow (E4 4 On t1) 0 H.size H vc T.code Fc∧Ow (E4 2 Oo t2) 0 H.size H vg T.grd Fg∧Ow (Bh rI t3) 0 H.size H vv T.vals Fv ∧
  ((∀b∈Fc,b∉Fg)∧(∀b∈Fc,b∉Fv)∧(∀b∈Fg,b∉Fv))∧(g∉Fc∧g∉Fg∧g∉Fv)∧(∀b∈Fc,b∈S)∧(∀b∈Fg,b∈S)∧(∀b∈Fv,b∈S)
section rcm
variable {t1 t2 t3:TypeId} {S S':List Nat} {g:Nat} {w w':World} {vc vg vv:Value} {T:Tp}
theorem Ow.chgS {α:Type}{E:Bi α}(hE:BS E){B:Nat}{v:Value}{x:α}{F G:List Nat}(h:Ow E B w.heap.size w.heap v x F)(c:Au G w w')(hG:∀b∈G,b∉F):Ow E B w'.heap.size w'.heap v x F:=(h.keep hE c hG).up c.size
theorem Cu.ext (h:Cu t1 t2 t3 S g w.heap vc vg vv T)(k:AF w w'):Cu t1 t2 t3 S g w'.heap vc vg vv T:=by
 obtain⟨Fc,Fg,Fv,h1,h2,h3,h4⟩:=h
 exact⟨Fc,Fg,Fv,(h1.ext (Ao Bb) k).up k.size,(h2.ext (Ao Bm) k).up k.size,(h3.ext (Bc AR) k).up k.size,h4⟩
theorem Cu.chg (h:Cu t1 t2 t3 S g w.heap vc vg vv T)(k:Au [g] w w'):Cu t1 t2 t3 S g w'.heap vc vg vv T:=by
 obtain⟨Fc,Fg,Fv,h1,h2,h3,h4,h5,h6⟩:=h
 exact⟨Fc,Fg,Fv,h1.chgS (Ao Bb) k fun b hb hm=>by rw[A9 hb]at hm;exact h5.1 hm,h2.chgS (Ao Bm) k fun b hb hm=>by rw[A9 hb]at hm;exact h5.2.1 hm,
  h3.chgS (Bc AR) k fun b hb hm=>by rw[A9 hb]at hm;exact h5.2.2 hm,h4,h5,h6⟩
theorem Cu.chgO {F:List Nat}(h:Cu t1 t2 t3 S g w.heap vc vg vv T)(k:Au F w w')(hF:∀b∈F,b∉S):Cu t1 t2 t3 S g w'.heap vc vg vv T:=by
 obtain⟨Fc,Fg,Fv,h1,h2,h3,h4,h5,h6⟩:=h
 exact⟨Fc,Fg,Fv,h1.chgS (Ao Bb) k fun b hb hm=>hF b hb (h6.1 b hm),h2.chgS (Ao Bm) k fun b hb hm=>hF b hb (h6.2.1 b hm),
  h3.chgS (Bc AR) k fun b hb hm=>hF b hb (h6.2.2 b hm),h4,h5,h6⟩
theorem Cu.rdv (h:Cu t1 t2 t3 S g w.heap vc vg vv T):Rd (B3 rI) w.heap vv T.vals:=by
 obtain⟨Fc,Fg,Fv,h1,h2,h3,_⟩:=h
 exact h3.fr.rd1
theorem Cu.slv (h:Cu t1 t2 t3 S g w.heap vc vg vv T):EA vv T.vals.length:=by
 obtain⟨Fc,Fg,Fv,h1,h2,h3,_⟩:=h
 exact h3.fr.isSl
theorem Cu.slc (h:Cu t1 t2 t3 S g w.heap vc vg vv T):EA vc T.code.length:=by
 obtain⟨Fc,Fg,Fv,h1,h2,h3,_⟩:=h
 exact h1.own.isSl
theorem Cu.slg (h:Cu t1 t2 t3 S g w.heap vc vg vv T):EA vg T.grd.length:=by
 obtain⟨Fc,Fg,Fv,h1,h2,h3,_⟩:=h
 exact h2.own.isSl
end rcm
def QX (t1 t2 t3:TypeId)(S:List Nat)(g:Nat)(H:Array Obj)(vp:Value)(ip:Int)(T:Tp)(s:Nat)(c:Int):Prop :=
 ∃vc vg vv,BX H g [vp,.int .i64 ip,vc,vg,.slice none 0 0,vv,.int .i64 ((s:Nat):Int),.int .i64 c]∧Cu t1 t2 t3 S g H vc vg vv T
theorem RN.stp {α:Type}{E:Bi α}(hE:BS E){S S':List Nat}{w w':World}{v:Value}{x:α}(h:RN S E w.heap v x)(c:Au S w w')(hs:∀b∈S',b∈S∨w.heap.size≤b):RN S' E w'.heap v x:=by
 obtain⟨F,h1,h2⟩:=h
 refine⟨F,hE.stable h1 fun b hb=>c.block b (hE.lt h1 b hb) (h2 b hb),fun b hb hm=>?_⟩
 rcases hs b hm with hh|hh
 ·exact h2 b hb hh
 ·have:=hE.lt h1 b hb;omega
theorem Au.stp {S S':List Nat}{a b c:World}(h:Au S a b)(k:Au S' b c)(hs:∀x∈S',x∈S∨a.heap.size≤x):Au S a c :=
 ⟨k.os.trans h.os,k.tape.trans h.tape,k.output.trans h.output,A8 h.size k.size,fun i hi hm=>(k.block i (Nat.lt_of_lt_of_le hi h.size) fun hh=>by
  rcases hs i hh with h9|h9
  ·exact hm h9
  ·omega).trans (h.block i hi hm)⟩
theorem ON {S S' S'':List Nat}{n m:Nat}(h:∀b∈S',b∈S∨n≤b)(k:∀b∈S'',b∈S'∨m≤b)(hn:n≤m):∀b∈S'',b∈S∨n≤b:=fun b hb=>by
 rcases k b hb with hh|hh
 ·exact h b hh
 ·exact .inr zO
end
section
def Tp.put (T:Tp)(c:AE)(v:Int):Tp:=⟨T.code++[c],T.grd,T.vals++[v]⟩
def Tp.guard (T:Tp)(r:Int)(z:Bool):Tp:=⟨T.code,T.grd++[⟨r,z⟩],T.vals⟩
def Tp.at (T:Tp)(r:Int):Int:=T.vals.getD r.toNat 0
abbrev RI:=Int×Tp
abbrev RL:=List Int×Tp
structure Cg where
 one:Nat→Nat→List Int→Nat→Tp→Rs RI
 all:Nat→List Int→Nat→Tp→Rs RL
def Iw (f:List Int→Nat→Tp→Rs RL):Nat→List Int→Nat→Tp→Rs RL
 |0,a,s,T=>.ok (a,T) s
 |k+1,a,s,T=>(Iw f k a s T).bind fun x t=>f x.1 t x.2
def H7 (k x y:Int):Int:=if k=3 then md (x+y)else if k=4 then md (x-y)else if k=5 then md (x*y)else if k=7 then md (0-x)else md (x*inv y)
def JF (k:Int)(xs:List Int):AE:=⟨k,xs.getD 0 0,if k=7 then 0 else xs.getD 1 0,0⟩
def RZ (k:Int)(xs:List Int)(t:Nat)(T:Tp):Rs RI :=
 if k≠3∧k≠4∧k≠5∧k≠7∧T.at (JF k xs).b=0 then .err 6
 else .ok (((T.vals.length:Nat):Int),T.put (JF k xs) (H7 k (T.at (JF k xs).a) (T.at (JF k xs).b))) t
mutual
def GY (C:Cg):Ex→List Int→Nat→Tp→Rs RI
 |.mk k num pick cnt l,env,s,T =>
  if 3000≤s then .err 7
  else if k=1 then .ok (((T.vals.length:Nat):Int),T.put ⟨2,0,0,num⟩ num) (s+1)
  else if k=2 then .ok (env.getD num.toNat 0,T) (s+1)
  else if k=8 then(OO C l 0 env (s+1) T).bind fun x t=>if x.2.at x.1=0 then OO C l 1 env t (x.2.guard x.1 true)else OO C l 2 env t (x.2.guard x.1 false)
  else if k=9 then(OO C l 0 env (s+1) T).bind fun x t=>OO C l 1 (env++[x.1]) t x.2
  else(HQ C l env (s+1) T).bind fun xs t =>
   if k=10 then C.one num.toNat pick.toNat xs.1 t xs.2
   else if k=11 then(Iw (C.all num.toNat) cnt.toNat xs.1 t xs.2).bind fun ys u=>.ok (ys.1.getD pick.toNat 0,ys.2) u
   else RZ k xs.1 t xs.2
def OO (C:Cg):List Ex→Nat→List Int→Nat→Tp→Rs RI
 |[],_,_,_,_=>.err 0
 |e::_,0,env,s,T=>GY C e env s T
 |_::l,j+1,env,s,T=>OO C l j env s T
def HQ (C:Cg):List Ex→List Int→Nat→Tp→Rs RL
 |[],_,s,T=>.ok ([],T) s
 |e::l,env,s,T=>(GY C e env s T).bind fun x t=>(HQ C l env t x.2).bind fun xs u=>.ok (x.1::xs.1,xs.2) u
end
theorem Fh (C:Cg)(env:List Int)(s:Nat)(T:Tp):∀(l:List Ex)(j:Nat),j<l.length→OO C l j env s T=GY C (l.getD j Ex.zero) env s T
 |[],j,h=>by simp at h
 |e::l,0,_=>by rw[OO];rfl
 |e::l,j+1,h=>by rw[OO,Fh C env s T l j (by simpa using h)];simp
theorem NJ (C:Cg)(env:List Int)(e:Ex):∀(l:List Ex)(s:Nat)(T:Tp),HQ C (l++[e]) env s T=(HQ C l env s T).bind fun xs t=>(GY C e env t xs.2).bind fun x u=>.ok (xs.1++[x.1],x.2) u
 |[],s,T=>by
  rw[zl,HQ,HQ]
  simp only[Rs.bind_ok]
  cases GY C e env s T <;> simp only[Rs.bind_ok,Rs.bind_err,HQ] <;> rfl
 |a::l,s,T=>by
  rw[List.cons_append,HQ,HQ]
  cases GY C a env s T with
  |err c=>rfl
  |ok x t =>
   simp only[Rs.bind_ok]
   rw[NJ C env e l t]
   simp only[Rs.bind_assoc]
   cases HQ C l env t x.2 with
   |err c=>rfl
   |ok xs u =>
    simp only[Rs.bind_ok]
    cases GY C e env u xs.2 <;> rfl
theorem S0 {C:Cg}{env:List Int}{s:Nat}{T:Tp}{l:List Ex}{k:Nat}(hk:k<l.length):HQ C (l.take (k+1)) env s T=(HQ C (l.take k) env s T).bind fun xs t=>(GY C (l.getD k Ex.zero) env t xs.2).bind fun x u=>.ok (xs.1++[x.1],x.2) u:=by
 rw[List.take_succ_eq_append_getElem hk,NJ]
 simp[hk]
theorem GH (C:Cg)(e:Ex)(env:List Int)(s:Nat)(T:Tp):GY C e env s T =
  if 3000≤s then .err 7
  else if e.kind=1 then .ok (((T.vals.length:Nat):Int),T.put ⟨2,0,0,e.num⟩ e.num) (s+1)
  else if e.kind=2 then .ok (env.getD e.num.toNat 0,T) (s+1)
  else if e.kind=8 then(OO C e.kids 0 env (s+1) T).bind fun x t=>if x.2.at x.1=0 then OO C e.kids 1 env t (x.2.guard x.1 true)else OO C e.kids 2 env t (x.2.guard x.1 false)
  else if e.kind=9 then(OO C e.kids 0 env (s+1) T).bind fun x t=>OO C e.kids 1 (env++[x.1]) t x.2
  else(HQ C e.kids env (s+1) T).bind fun xs t =>
   if e.kind=10 then C.one e.num.toNat e.pick.toNat xs.1 t xs.2
   else if e.kind=11 then(Iw (C.all e.num.toNat) e.count.toNat xs.1 t xs.2).bind fun ys u=>.ok (ys.1.getD e.pick.toNat 0,ys.2) u
   else RZ e.kind xs.1 t xs.2:=by cases e;rw[GY];rfl
def Kc (p:List Fn):Nat→Cg
 |0=>⟨fun _ _ _ _ _=>.err 0,fun _ _ _ _=>.err 0⟩
 |k+1=>⟨fun f j a s T=>if f=k then GY (Kc p k) ((p.getD k Fn.zero).outs.getD j Ex.zero) a s T else(Kc p k).one f j a s T,
   fun f a s T=>if f=k then HQ (Kc p k) (p.getD k Fn.zero).outs a s T else(Kc p k).all f a s T⟩
theorem PO {p:List Fn}{f j:Nat}{a:List Int}{s:Nat}{T:Tp}:∀ {F:Nat},f<F→(Kc p F).one f j a s T=GY (Kc p f) ((p.getD f Fn.zero).outs.getD j Ex.zero) a s T
 |0,h=>by omega
 |F+1,h=>by
  show(if f=F then _ else _)=_
  split
  ·rename_i e;rw[e]
  ·exact PO zO
theorem MO {p:List Fn}{f:Nat}{a:List Int}{s:Nat}{T:Tp}:∀ {F:Nat},f<F→(Kc p F).all f a s T=HQ (Kc p f) (p.getD f Fn.zero).outs a s T
 |0,h=>by omega
 |F+1,h=>by
  show(if f=F then _ else _)=_
  split
  ·rename_i e;rw[e]
  ·exact MO zO
section
variable {C:Cg} {e:Ex} {env:List Int} {s s1 s2:Nat} {c c1 c2:Int} {T T1 T2:Tp} {x y:Int} {xs ys:List Int}
theorem U0 {α:Type}{r:Rs α}{x:α}(hc:c≠0):AH (go c r) x s c:=AH.mk_err (Dk hc r) hc
theorem QJ {x:RI}(hc:c=0)(hs:s=3000):AH (go c (GY C e env s T)) x s1 7:=by
 subst hc;rw[Cx,GH,if_pos (by omega)];exact AH.mk_err rfl (by decide)
theorem Xn (hc:c=0)(hs:s+1≤3000)(hk:e.kind=1):AH (go c (GY C e env s T)) (((T.vals.length:Nat):Int),T.put ⟨2,0,0,e.num⟩ e.num) (s+1) c:=by
 subst hc;rw[Cx,GH,if_neg zO,if_pos hk];exact AH.mk_ok rfl
theorem Xo (hc:c=0)(hs:s+1≤3000)(hk:e.kind=2):AH (go c (GY C e env s T)) (env.getD e.num.toNat 0,T) (s+1) c:=by
 subst hc;rw[Cx,GH,if_neg zO,if_neg zO,if_pos hk];exact AH.mk_ok rfl
theorem Xp {z:RI}(hc:c=0)(hs:s+1≤3000)(hk:e.kind=8)(hl:e.kids.length=3)(h1:AH (go c (GY C (e.kids.getD 0 Ex.zero) env (s+1) T)) (x,T1) s1 c1)(hc1:c1≠0):AH (go c (GY C e env s T)) z s2 c1:=by
 subst hc
 rw[Cx]at h1
 rw[Cx,GH,if_neg zO,if_neg zO,if_neg zO,if_pos hk,Fh _ _ _ _ _ _ zO,h1.bindE hc1]
 exact AH.mk_err rfl hc1
theorem Xq (hc:c=0)(hs:s+1≤3000)(hk:e.kind=8)(hl:e.kids.length=3)(h1:AH (go c (GY C (e.kids.getD 0 Ex.zero) env (s+1) T)) (x,T1) s1 c1)(hc1:c1=0)(hx:T1.at x=0)
  (h2:AH (go c1 (GY C (e.kids.getD 1 Ex.zero) env s1 (T1.guard x (decide (T1.at x=0))))) (y,T2) s2 c2):AH (go c (GY C e env s T)) (y,T2) s2 c2:=by
 subst hc;subst hc1
 rw[Cx]at h1 h2
 rw[Cx,GH,if_neg zO,if_neg zO,if_neg zO,if_pos hk,Fh _ _ _ _ _ _ zO,h1.bindO]
 dsimp only
 rw[A5 hx]at h2
 rw[if_pos hx,Fh _ _ _ _ _ _ (by omega)];exact h2
theorem Xr (hc:c=0)(hs:s+1≤3000)(hk:e.kind=8)(hl:e.kids.length=3)(h1:AH (go c (GY C (e.kids.getD 0 Ex.zero) env (s+1) T)) (x,T1) s1 c1)(hc1:c1=0)(hx:¬T1.at x=0)
  (h2:AH (go c1 (GY C (e.kids.getD 2 Ex.zero) env s1 (T1.guard x (decide (T1.at x=0))))) (y,T2) s2 c2):AH (go c (GY C e env s T)) (y,T2) s2 c2:=by
 subst hc;subst hc1
 rw[Cx]at h1 h2
 rw[Cx,GH,if_neg zO,if_neg zO,if_neg zO,if_pos hk,Fh _ _ _ _ _ _ zO,h1.bindO]
 dsimp only
 rw[A6 hx]at h2
 rw[if_neg hx,Fh _ _ _ _ _ _ (by omega)];exact h2
theorem Xs (hc:c=0)(hs:s+1≤3000)(hk:e.kind=9)(hl:e.kids.length=2)(h1:AH (go c (GY C (e.kids.getD 0 Ex.zero) env (s+1) T)) (x,T1) s1 c1)
  (h2:AH (go c1 (GY C (e.kids.getD 1 Ex.zero) (env++[x]) s1 T1)) (y,T2) s2 c2):AH (go c (GY C e env s T)) (y,T2) s2 c2:=by
 subst hc
 rw[Cx,GH,if_neg zO,if_neg zO,if_neg zO,if_neg zO,if_pos hk,Fh _ _ _ _ _ _ (by omega)]
 rw[Cx]at h1
 by_cases h0:c1=0
 ·subst h0;rw[h1.bindO,Fh _ _ _ _ _ _ (by omega)];exact h2
 ·rw[h1.bindE h0];rw[Dk h0]at h2;exact h2
theorem Jc (hs:s+1≤3000)(h1:e.kind≠1)(h2:e.kind≠2)(h8:e.kind≠8)(h9:e.kind≠9):GY C e env s T=(HQ C e.kids env (s+1) T).bind fun xs t =>
  if e.kind=10 then C.one e.num.toNat e.pick.toNat xs.1 t xs.2
   else if e.kind=11 then(Iw (C.all e.num.toNat) e.count.toNat xs.1 t xs.2).bind fun ys u=>.ok (ys.1.getD e.pick.toNat 0,ys.2) u
   else RZ e.kind xs.1 t xs.2:=by
 rw[GH,if_neg zO,if_neg h1,if_neg h2,if_neg h8,if_neg h9]
theorem S3 {z:RI}(hc:c=0)(hs:s+1≤3000)(h1:e.kind≠1)(h2:e.kind≠2)(h8:e.kind≠8)(h9:e.kind≠9)(hr:AH (go c (HQ C e.kids env (s+1) T)) (xs,T1) s1 c1)(hc1:c1≠0):AH (go c (GY C e env s T)) z s2 c1:=by
 subst hc
 rw[Cx]at hr ⊢
 rw[Jc hs h1 h2 h8 h9,hr.bindE hc1];exact AH.mk_err rfl hc1
theorem U1 {p:List Fn}{F:Nat}(hc:c=0)(hs:s+1≤3000)(hk:e.kind=10)(hF:e.num.toNat<F)(hr:AH (go c (HQ (Kc p F) e.kids env (s+1) T)) (xs,T1) s1 c1)(hc1:c1=0)
  (h2:AH (go c1 (GY (Kc p e.num.toNat) ((p.getD e.num.toNat Fn.zero).outs.getD e.pick.toNat Ex.zero) xs s1 T1)) (y,T2) s2 c2):AH (go c (GY (Kc p F) e env s T)) (y,T2) s2 c2:=by
 subst hc;subst hc1
 rw[Cx]at hr h2 ⊢
 rw[Jc hs zO zO zO zO,hr.bindO,if_pos hk,PO hF];exact h2
theorem U2 {p:List Fn}{F:Nat}(hc:c=0)(hs:s+1≤3000)(hk:e.kind=11)(hF:e.num.toNat<F)(hr:AH (go c (HQ (Kc p F) e.kids env (s+1) T)) (xs,T1) s1 c1)(hc1:c1=0)
  (h2:AH (Iw (fun a t U=>HQ (Kc p e.num.toNat) (p.getD e.num.toNat Fn.zero).outs a t U) e.count.toNat xs s1 T1) (ys,T2) s2 c2):AH (go c (GY (Kc p F) e env s T)) (ys.getD e.pick.toNat 0,T2) s2 c2:=by
 subst hc;subst hc1
 rw[Cx]at hr ⊢
 rw[Jc hs zO zO zO zO,hr.bindO,if_neg zO,if_pos hk]
 have hl:(Kc p F).all e.num.toNat=fun a t U=>HQ (Kc p e.num.toNat) (p.getD e.num.toNat Fn.zero).outs a t U:=funext fun a=>funext fun t=>funext fun U=>MO hF
 rw[hl]
 by_cases h0:c2=0
 ·subst h0;rw[h2.bindO];exact AH.mk_ok rfl
 ·rw[h2.bindE h0];exact AH.mk_err rfl h0
theorem Ye {z:RI}(hc:c=0)(hs:s+1≤3000)(h1:e.kind≠1)(h2:e.kind≠2)(h8:e.kind≠8)(h9:e.kind≠9)(h10:e.kind≠10)(h11:e.kind≠11)(hr:AH (go c (HQ C e.kids env (s+1) T)) (xs,T1) s1 c1)(hc1:c1=0)
  (h:AH (go c1 (RZ e.kind xs s1 T1)) z s2 c2):AH (go c (GY C e env s T)) z s2 c2:=by
 subst hc;subst hc1
 rw[Cx]at hr h ⊢
 rw[Jc hs h1 h2 h8 h9,hr.bindO,if_neg h10,if_neg h11];exact h
theorem S4 (C:Cg)(l:List Ex)(env:List Int)(s:Nat)(T:Tp)(c:Int):AH (go c (HQ C (l.take 0) env s T)) ([],T) s c:=by
 rw[List.take_zero,HQ]
 by_cases h:c=0
 ·subst h;exact AH.mk_ok rfl
 ·exact AH.mk_err (Dk h _) h
theorem U3 {l:List Ex}{k:Nat}(hk:k<l.length)(h:AH (go c (HQ C (l.take k) env s T)) (xs,T1) s1 c1)(h2:AH (go c1 (GY C (l.getD k Ex.zero) env s1 T1)) (x,T2) s2 c2) :
  AH (go c (HQ C (l.take (k+1)) env s T)) (xs++[x],T2) s2 c2:=by
 by_cases hc:c=0
 ·subst hc
  rw[Cx]at h ⊢
  rw[S0 hk]
  by_cases h0:c1=0
  ·subst h0
   rw[Cx]at h2
   rw[h.bindO]
   by_cases h9:c2=0
   ·subst h9;rw[h2.bindO];exact AH.mk_ok rfl
   ·rw[h2.bindE h9];exact AH.mk_err rfl h9
  ·rw[h.bindE h0]
   rw[Dk h0]at h2
   have:=h2.1
   exact AH.mk_err (by rw[this]) (this ▸ h0)
 ·rw[Dk hc]at h ⊢
  have h3:=h.1
  subst h3
  rw[Dk hc]at h2
  exact AH.mk_err (by rw[h2.1]) (h2.1 ▸ hc)
theorem Xt {f:List Int→Nat→Tp→Rs RL}{k:Nat}(h:AH (Iw f k xs s T) (ys,T1) s1 c1)(hc:c1=0){zs:RL}(h2:AH (go c1 (f ys s1 T1)) zs s2 c2):AH (Iw f (k+1) xs s T) zs s2 c2:=by
 subst hc
 show AH ((Iw f k xs s T).bind _) _ _ _
 rw[h.bindO];rw[Cx]at h2;exact h2
theorem NK {f:List Int→Nat→Tp→Rs RL}{d:Int}:∀ {m k:Nat},Iw f k xs s T=.err d→k≤m→Iw f m xs s T=.err d
 |0,k,h,hk=>by
  have:k=0:=by omega
  subst this;exact h
 |m+1,k,h,hk=>by
  by_cases e:k=m+1
  ·subst e;exact h
  ·show(Iw f m xs s T).bind _=_
   rw[NK h (by omega)];rfl
theorem U4 {f:List Int→Nat→Tp→Rs RL}{k m:Nat}{zs:RL}(h:AH (Iw f k xs s T) zs s1 c1)(hk:k≤m)(hs:k=m∨c1≠0):AH (Iw f m xs s T) zs s1 c1:=by
 by_cases hc:c1=0
 ·rcases hs with rfl|hh
  ·exact h
  ·exact absurd hc hh
 ·exact AH.mk_err (NK (h.err hc) hk) hc
end
def JG (T:Tp)(s:Nat):Prop:=T.code.length=T.vals.length∧T.vals.length≤12+s∧T.grd.length≤s∧B2 T.vals=true
theorem JG.put {T:Tp}{s:Nat}(h:JG T s)(c:AE){v:Int}(hv:0≤v∧v<1000003):JG (T.put c v) (s+1):=by
 obtain⟨h1,h2,h3,h4⟩:=h
 unfold Tp.put
 refine⟨by simp[h1],by simp;omega,by simp;omega,?_⟩
 unfold B2 at h4 ⊢
 rw[List.all_append,h4]
 simp[Cm.2 hv]
theorem JG.guard {T:Tp}{s:Nat}(h:JG T s)(r:Int)(z:Bool)(hg:T.grd.length+1≤s):JG (T.guard r z) s:=by
 obtain⟨h1,h2,h3,h4⟩:=h
 exact⟨h1,h2,by show(T.grd++[_]).length≤s;simp;omega,h4⟩
theorem JG.up {T:Tp}{s s':Nat}(h:JG T s)(hs:s≤s'):JG T s':=⟨h.1,by have:=h.2.1;omega,by have:=h.2.2.1;omega,h.2.2.2⟩
theorem JG.dn {T:Tp}{s s':Nat}(h:JG T s)(hv:T.vals.length≤12+s')(hg:T.grd.length≤s'):JG T s':=⟨h.1,hv,hg,h.2.2.2⟩
theorem JG.ln {T:Tp}{s:Nat}(h:JG T s)(hs:s≤3000):T.code.length≤4000∧T.vals.length≤4000:=by have:=h.1;have:=h.2.1;omega
abbrev E5 (k b:Int):Prop:=k≠3∧k≠4∧k≠5∧k≠7∧b=0
section
variable {k a b:Int}
theorem S5 (h:k=3):(if E5 k b then 0 else H7 k a b)=md (a+b)∧(!decide (E5 k b))=true:=by subst h;exact⟨rfl,rfl⟩
theorem S6 (h:k=4):(if E5 k b then 0 else H7 k a b)=md (a-b)∧(!decide (E5 k b))=true:=by subst h;exact⟨rfl,rfl⟩
theorem S7 (h:k=5):(if E5 k b then 0 else H7 k a b)=md (a*b)∧(!decide (E5 k b))=true:=by subst h;exact⟨rfl,rfl⟩
theorem S8 (h:k=7):(if E5 k b then 0 else H7 k a b)=md (0-a)∧(!decide (E5 k b))=true:=by subst h;exact⟨rfl,rfl⟩
theorem PP (h:k≠3∧k≠4∧k≠5∧k≠7)(hb:b=0):(if E5 k b then 0 else H7 k a b)=0∧(!decide (E5 k b))=false:=by
 have hz:E5 k b:=⟨h.1,h.2.1,h.2.2.1,h.2.2.2,hb⟩
 rw[if_pos hz,A5 hz];exact⟨rfl,rfl⟩
theorem Sa (h:k≠3∧k≠4∧k≠5∧k≠7)(hb:b≠0):(if E5 k b then 0 else H7 k a b)=md (a*inv b)∧(!decide (E5 k b))=true:=by
 have hz:¬E5 k b:=fun h9=>hb h9.2.2.2.2
 rw[if_neg hz,A6 hz]
 refine⟨?_,rfl⟩
 unfold H7
 rw[if_neg h.1,if_neg h.2.1,if_neg h.2.2.1,if_neg h.2.2.2]
theorem MP (k a b:Int):0≤H7 k a b∧H7 k a b<1000003:=by unfold H7;split <;> (try split) <;> (try split) <;> (try split) <;> exact C1 _
end
theorem Ix {k:Int}{xs:List Int}{T:Tp}{t:Nat}(h:¬E5 k (T.at (JF k xs).b)):RZ k xs t T=.ok (((T.vals.length:Nat):Int),T.put (JF k xs) (H7 k (T.at (JF k xs).a) (T.at (JF k xs).b))) t:=if_neg h
theorem PQ {k:Int}{xs:List Int}{T:Tp}{t:Nat}(h:E5 k (T.at (JF k xs).b)):RZ k xs t T=.err 6:=if_pos h
theorem Yf {α:Type}{r:Rs α}{x:α}{s:Nat}{c c1:Int}(h:AH (go c r) x s c1)(h1:c1=0):c=0:=by
 by_cases hc:c=0
 ·exact hc
 ·rw[Dk hc]at h
  have:=h.1
  omega
theorem PR (k a b:Int):0≤(if E5 k b then 0 else H7 k a b)∧(if E5 k b then 0 else H7 k a b)<1000003:=by
 have:=MP k a b
 split <;> omega
theorem Yg {Q:Prop} [Decidable Q] (h:(!(!decide Q))=true):Q:=by simpa using h
theorem aK {Q:Prop} [Decidable Q] (h:(!(!decide Q))=false):¬Q:=by simpa using h
theorem GI {k:Int}{xs:List Int}(h:k≠7):JF k xs=⟨k,xs.getD 0 0,xs.getD 1 0,0⟩:=by unfold JF;rw[if_neg h]
theorem Sb {k:Int}{xs:List Int}(h:k=7):JF k xs=⟨k,xs.getD 0 0,0,0⟩:=by unfold JF;rw[if_pos h]
theorem U5 {k c:Int}{xs:List Int}{T:Tp}{s s2:Nat}{z:RI}(hc:c=0)(h7:k≠7)(hz:E5 k (T.vals.getD (xs.getD 1 0).toNat 0)):AH (go c (RZ k xs s T)) z s2 6:=by
 subst hc
 rw[Cx,PQ (by rw[GI h7];exact hz)];exact AH.mk_err rfl (by decide)
theorem U6 {k c:Int}{xs:List Int}{T:Tp}{s:Nat}(hc:c=0)(h7:k≠7)(hz:¬E5 k (T.vals.getD (xs.getD 1 0).toNat 0)) :
  AH (go c (RZ k xs s T)) (((T.vals.length:Nat):Int),T.put ⟨k,xs.getD 0 0,xs.getD 1 0,0⟩ (if E5 k (T.vals.getD (xs.getD 1 0).toNat 0)then 0 else H7 k (T.vals.getD (xs.getD 0 0).toNat 0) (T.vals.getD (xs.getD 1 0).toNat 0))) s c:=by
 subst hc
 rw[Cx,Ix (by rw[GI h7];exact hz),GI h7,if_neg hz];exact AH.mk_ok rfl
theorem U7 {k c:Int}{xs:List Int}{T:Tp}{s:Nat}{b:Int}(hc:c=0)(h7:k=7) :
  AH (go c (RZ k xs s T)) (((T.vals.length:Nat):Int),T.put ⟨k,xs.getD 0 0,0,0⟩ (if E5 k b then 0 else H7 k (T.vals.getD (xs.getD 0 0).toNat 0) b)) s c:=by
 subst hc
 subst h7
 rw[Cx,Ix (fun h=>h.2.2.2.1 rfl),Sb rfl,if_neg (fun h:E5 7 b=>h.2.2.2.1 rfl)];exact AH.mk_ok rfl
theorem UX {k b:Int}(h:k=7):¬E5 k b:=fun h9=>h9.2.2.2.1 h
def JH (T:Tp)(env:List Int):Prop:=∀k,k<env.length→0≤env.getD k 0∧env.getD k 0<((T.vals.length:Nat):Int)
theorem JH.mono {T T':Tp}{env:List Int}(h:JH T env)(hl:T.vals.length≤T'.vals.length):JH T' env:=fun k hk=>by have:=h k hk;omega
theorem JH.snoc {T:Tp}{env:List Int}{r:Int}(h:JH T env)(hr:0≤r∧r<((T.vals.length:Nat):Int)):JH T (env++[r]):=fun k hk=>by
 rw[z4,zd]at hk
 rw[Y3]
 split
 ·exact hr
 ·exact h k zO
theorem JH.nil (T:Tp):JH T []:=fun k hk=>absurd hk (Nat.not_lt_zero k)
theorem DA {Q:Nat→Prop}:∀b∈([]:List Nat),Q b:=fun b hb=>(by cases hb)
theorem Au.drewL {F:List Nat}{a b:World}(h:Au F a b):Au F a.drew b:=⟨h.os,h.tape,h.output,h.size,h.block⟩
def QK {α:Type}(S:List Nat)(B:Nat)(E:Bi α)(H:Array Obj)(v:Value)(x:α):Prop:=∃F,E H v x F∧∀b∈F,b∉S∧B≤b
theorem QK.rn {α:Type}{S:List Nat}{B:Nat}{E:Bi α}{H:Array Obj}{v:Value}{x:α}(h:QK S B E H v x):RN S E H v x:=by
 obtain⟨F,h1,h2⟩:=h
 exact⟨F,h1,fun b hb=>(h2 b hb).1⟩
theorem QK.upd {α:Type}{S F:List Nat}{B:Nat}{E:Bi α}(hE:BS E){w w':World}{v:Value}{x:α}(h:QK S B E w.heap v x)(c:Au F w w')(hF:∀b∈F,b∈S∨b<B):QK S B E w'.heap v x:=by
 obtain⟨G,h1,h2⟩:=h
 refine⟨G,hE.stable h1 fun b hb=>c.block b (hE.lt h1 b hb) fun hm=>?_,h2⟩
 rcases hF b hm with hh|hh
 ·exact (h2 b hb).1 hh
 ·have:=(h2 b hb).2;omega
theorem QK.of_ow {e:TypeId}{B T:Nat}{H:Array Obj}{v:Value}{xs:List Int}{F S:List Nat}(h:Ow (Bh rI e) B T H v xs F)(hS:∀b∈F,b∉S):QK S B (B3 rI) H v xs:=⟨F,h.own.rd id,fun b hb=>⟨hS b hb,h.low b hb⟩⟩
structure Fz (S S':List Nat)(w w':World):Prop where
 sub:∀b∈S,b∈S'
 new:∀b∈S',b∈S∨w.heap.size≤b
 lt:∀b∈S',b<w'.heap.size
 chg:Au S w w'
section
variable {S S' S'':List Nat} {w w' w'':World} {g:Nat}
theorem Fz.refl (h:∀b∈S,b<w.heap.size):Fz S S w w:=⟨fun _ h=>h,fun _ h=>.inl h,h,Au.refl S w⟩
theorem Fz.trans (h:Fz S S' w w')(k:Fz S' S'' w' w''):Fz S S'' w w'' :=
 ⟨fun b hb=>k.sub b (h.sub b hb),ON h.new k.new h.chg.size,k.lt,h.chg.stp k.chg h.new⟩
theorem Fz.ext (h:Fz S S' w w')(k:AF w' w''):Fz S S' w w'':=⟨h.sub,h.new,fun b hb=>Nat.lt_of_lt_of_le (h.lt b hb) k.size,h.chg.ext k⟩
theorem Fz.drew (h:Fz S S' w w'):Fz S S' w w'.drew:=⟨h.sub,h.new,h.lt,h.chg.drew⟩
theorem Fz.of_drew (h:Fz S S' w.drew w'):Fz S S' w w':=⟨h.sub,h.new,h.lt,h.chg.of_drew⟩
theorem Fz.set (h:Fz S S' w w')(hg:g∈S)(k:Au [g] w' w''):Fz S S' w w'':=⟨h.sub,h.new,fun b hb=>Nat.lt_of_lt_of_le (h.lt b hb) k.size,h.chg.trans (k.sub (AX hg))⟩
theorem Fz.more {F:List Nat}(h:Fz S S' w w')(k:Au F w' w'')(hF:∀b∈F,b∈S):Fz S S' w w'':=⟨h.sub,h.new,fun b hb=>Nat.lt_of_lt_of_le (h.lt b hb) k.size,h.chg.trans (k.sub hF)⟩
theorem Fz.fresh {F:List Nat}(h:Fz S S' w w')(k:Au F w' w'')(hF:∀b∈F,w.heap.size≤b):Fz S S' w w'':=⟨h.sub,h.new,fun b hb=>Nat.lt_of_lt_of_le (h.lt b hb) k.size,h.chg.fresh k hF⟩
end
structure UY (T T':Tp)(s0 s1:Nat)(c1:Int):Prop where
 bnd:JG T' s1
 num:s1≤3000∧(0≤c1∧c1≤9)∧T.vals.length≤T'.vals.length∧T'.vals.length+s0≤T.vals.length+s1∧T'.grd.length+s0≤T.grd.length+s1
@[simp] theorem GJ (T:Tp)(c:AE)(v:Int):(T.put c v).vals.length=T.vals.length+1:=by simp[Tp.put]
@[simp] theorem OP (T:Tp)(c:AE)(v:Int):(T.put c v).code.length=T.code.length+1:=by simp[Tp.put]
@[simp] theorem Sc (T:Tp)(c:AE)(v:Int):(T.put c v).grd=T.grd:=rfl
@[simp] theorem NL (T:Tp)(r:Int)(z:Bool):(T.guard r z).vals=T.vals:=rfl
@[simp] theorem NM (T:Tp)(r:Int)(z:Bool):(T.guard r z).grd.length=T.grd.length+1:=by simp[Tp.guard]
theorem RN.of_ow {e:TypeId}{B T:Nat}{H:Array Obj}{v:Value}{xs:List Int}{F S:List Nat}(h:Ow (Bh rI e) B T H v xs F)(hS:∀b∈F,b∉S):RN S (B3 rI) H v xs:=⟨F,h.own.rd id,hS⟩
theorem Cu.len {t1 t2 t3:TypeId}{S:List Nat}{g:Nat}{H:Array Obj}{vc vg vv:Value}{T:Tp}(h:Cu t1 t2 t3 S g H vc vg vv T):T.code.length≤maxLen∧T.grd.length≤maxLen∧T.vals.length≤maxLen:=by
 obtain⟨Fc,Fg,Fv,h1,h2,h3,_⟩:=h
 exact⟨h1.own.lenle,h2.own.lenle,h3.own.lenle⟩
end
section
def Jd (a:List Int):Nat→Tp
 |0=>⟨[],[],[]⟩
 |k+1=>(Jd a k).put ⟨1,0,0,((k:Nat):Int)⟩ (a.getD k 0)
def GZ (k:Nat):List Int:=(List.range k).map fun i=>((i:Nat):Int)
@[simp] theorem Gm (k:Nat):(GZ k).length=k:=by simp[GZ]
theorem OQ (k:Nat):GZ (k+1)=GZ k++[((k:Nat):Int)]:=by simp[GZ,List.range_succ]
theorem NN {k j:Nat}(h:j<k):(GZ k).getD j 0=((j:Nat):Int):=by
 unfold GZ
 rw[Ci (d:=0) (by simpa using h)]
 simp[h]
@[simp] theorem JI (a:List Int):∀k,(Jd a k).vals.length=k
 |0=>rfl
 |k+1=>by show((Jd a k).put _ _).vals.length=_;rw[GJ,JI a k]
@[simp] theorem MQ (a:List Int):∀k,(Jd a k).code.length=k
 |0=>rfl
 |k+1=>by show((Jd a k).put _ _).code.length=_;rw[OP,MQ a k]
theorem Sd (a:List Int):∀k,(Jd a k).grd=[]
 |0=>rfl
 |k+1=>by show((Jd a k).put _ _).grd=_;rw[Sc,Sd a k]
theorem NO (a:List Int):∀k,k≤a.length→(Jd a k).vals=a.take k
 |0,_=>rfl
 |k+1,h=>by
  show(Jd a k).vals++[a.getD k 0]=_
  rw[NO a k zO,Dq 0 (by omega)]
theorem Yh {a:List Int}(hn:B2 a=true)(h:a.length≤12):JG (Jd a a.length) 0:=by
 refine⟨by simp,by simp;omega,by rw[Sd];simp,?_⟩
 rw[NO a _ (A7 _),List.take_length];exact hn
theorem Yi (a:List Int)(k:Nat):JH (Jd a k) (GZ k):=fun j hj=>by
 rw[Gm]at hj
 rw[NN hj,JI];omega
def MR (p:List Fn)(f:Nat)(a:List Int):Rs RL:=HQ (Kc p f) (p.getD f Fn.zero).outs (GZ a.length) 0 (Jd a a.length)
section rcm
variable {t1 t2 t3:TypeId} {S:List Nat} {g:Nat} {w w':World} {vc vg vv:Value} {T:Tp}
theorem Cu.nil:Cu t1 t2 t3 S g w.heap (.slice none 0 0) (.slice none 0 0) (.slice none 0 0) ⟨[],[],[]⟩ :=
 ⟨[],[],[],⟨.inl ⟨rfl,rfl,rfl⟩,zk,DA,DA⟩,⟨.inl ⟨rfl,rfl,rfl⟩,zk,DA,DA⟩,⟨.inl ⟨rfl,rfl,rfl⟩,zk,DA,DA⟩,
  ⟨DA,DA,DA⟩,⟨z2,z2,z2⟩,DA,DA,DA⟩
theorem Au.toExt {F:List Nat}(h:Au F w w')(hF:∀b∈F,w.heap.size≤b):AF w w':=⟨h.os,h.tape,h.output,h.size,fun k hk=>h.block k hk fun hm=>by have:=hF k hm;omega⟩
end rcm
def RG {α:Type}(T:Nat)(E:Bi α)(H:Array Obj)(v:Value)(x:α):Prop:=∃F,E H v x F∧∀b∈F,T≤b
theorem QK.rg {α:Type}{S:List Nat}{B T:Nat}{E:Bi α}{H:Array Obj}{v:Value}{x:α}(h:QK S B E H v x)(hT:T≤B):RG T E H v x:=by
 obtain⟨F,h1,h2⟩:=h
 exact⟨F,h1,fun b hb=>A8 hT (h2 b hb).2⟩
theorem RG.rnG {α:Type}{T g:Nat}{E:Bi α}{w:World}{v:Value}{x:α}(hE:BS E)(h:RG T E w.heap v x)(hg:g<T∨w.heap.size≤g):RN [g] E w.heap v x:=by
 obtain⟨F,h1,h2⟩:=h
 refine⟨F,h1,fun b hb hm=>?_⟩
 rw[A9 hm]at hb
 have:=h2 g hb
 have:=hE.lt h1 g hb
 omega
theorem Cu.readsG {t1 t2 t3:TypeId}{S:List Nat}{g n:Nat}{w:World}{vc vg vv:Value}{T:Tp}(h:Cu t1 t2 t3 S g w.heap vc vg vv T)(hS:∀b∈S,n≤b):RG n (DM 4 On) w.heap vc T.code∧RG n (DM 2 Oo) w.heap vg T.grd:=by
 obtain⟨Fc,Fg,Fv,h1,h2,h3,h4,h5,h6,h7,h8⟩:=h
 exact⟨⟨Fc,h1.own.rd Bb,fun b hb=>hS b (h6 b hb)⟩,⟨Fg,h2.own.rd Bm,fun b hb=>hS b (h7 b hb)⟩⟩
theorem AH.go0 {α:Type}{r:Rs α}{x:α}{s:Nat}{c:Int}(h:AH (go ((0:Nat):Int) r) x s c):AH r x s c:=h
theorem LD.part {H:Array Obj}{g k:Nat}{cs ds:List Value}(h:BX H g cs)(hl:k+ds.length≤cs.length)(hd:∀i,i<ds.length→ds.getD i undef=cs.getD (k+i) undef):LD H (.pointer (some ⟨g,k,none⟩)) ds:=by
 obtain⟨e,h⟩:=h
 refine⟨g,k,rfl,fun i hi=>?_⟩
 simp only[BP,h]
 rw[hd i hi]
 simp[show k+i<cs.length by omega]
end
def NP (p:List Fn)(f:Int):Int:=if G7 p=true then(if 0≤f∧f≤((p.length:Nat):Int)-1 then 0 else 2)else 1
theorem UZ {p:List Fn}{f:Int}(h:NP p f=0):G7 p=true∧0≤f∧f<((p.length:Nat):Int):=by
 unfold NP at h
 split at h
 ·split at h
  ·rename_i h1 h2;exact⟨h1,h2.1,zO⟩
  ·omega
 ·omega
theorem RN.ofOne {S:List Nat}{e:TypeId}{B U:Nat}{H:Array Obj}{v u:Value}{r:List Int}(h:Fr (Bh rV e) B U H v [u])(hr:RN S (B3 rI) H u r)(hS:∀b∈S,b<B):RN S (B3 (B3 rI)) H v [r]:=by
 obtain⟨F,h1,h2,h3⟩:=h
 obtain⟨G,g1',g2'⟩:=hr
 rcases h1 with⟨_,hc,_⟩|⟨us,g,cap,cur,F',hels,rfl,hg,q1,q2,q3,q4,rfl⟩
 ·cases hc
 ·obtain⟨rfl,rfl⟩:=EM hels
  refine⟨g::(G++[]),.inr ⟨[u],g,0,cap,cur,e,(0,0),G++[],⟨G,[],rfl,g1',rfl⟩,rfl,hg,by simpa using q4,by simp[maxLen],rfl⟩,fun b hb hm=>?_⟩
  rcases ze.1 hb with rfl|hb
  ·have:=(h3 b (z0 ..)).1;have:=hS b hm;omega
  ·rw[List.append_nil]at hb;exact g2' b hb hm
theorem U8 {e:TypeId}{B U:Nat}{H:Array Obj}{v u:Value}(h:Fr (Bh rV e) B U H v [u]):C5 v:=h.cap
theorem Xu {n k:Nat}{s:Sr}(h:Cf n s)(hk:k<n):Ia (s.getD k 0)=true:=by
 have hk':k<s.length:=by rw[h.1];exact hk
 have:=h.2
 unfold B2 at this
 have h2:=zm.1 this s[k]<|List.getElem_mem hk'
 rwa [show s.getD k 0=s[k]from by simp[hk']]
section
mutual
def I0:Ex→Int→Int
 |.mk _ _ _ _ l,x=>D6 l (x-1)
def D6:List Ex→Int→Int
 |[],x=>x
 |e::l,x=>if 0≤x then D6 l (I0 e x)else x
end
theorem U9 (e:Ex)(x:Int):I0 e x=D6 e.kids (x-1):=by cases e;rw[I0];rfl
theorem KY {l:List Ex}{x:Int}(h:x<0):D6 l x=x:=by
 cases l with
 |nil=>rw[D6]
 |cons e l=>rw[D6,if_neg (by omega)]
mutual
theorem KZ:∀(e:Ex)(x:Int),0≤x→(I0 e x=x-(e.size:Int)∧(e.size:Int)≤x)∨(I0 e x = -1∧x<(e.size:Int))
 |.mk k n q c l,x,h=>by
  rw[I0,Ex.size]
  by_cases h0:x=0
  ·subst h0
   right
   rw[KY (by omega)]
   refine⟨zO,zO⟩
  ·rcases HR l (x-1) (by omega)with h1|h1
   ·left;omega
   ·right;omega
theorem HR:∀(l:List Ex)(x:Int),0≤x→(D6 l x=x-(Ex.sizes l:Int)∧(Ex.sizes l:Int)≤x)∨(D6 l x = -1∧x<(Ex.sizes l:Int))
 |[],x,h=>by rw[D6,Ex.sizes];left;omega
 |e::l,x,h=>by
  rw[D6,if_pos h,Ex.sizes]
  rcases KZ e x h with h1|h1
  ·rw[h1.1]
   rcases HR l (x-(e.size:Int)) (by omega)with h2|h2
   ·left;omega
   ·right;omega
  ·rw[h1.1,KY (by omega)]
   right;omega
end
theorem Mi (e:Ex):∀(l:List Ex)(x:Int),D6 (l++[e]) x=if 0≤D6 l x then I0 e (D6 l x)else D6 l x
 |[],x=>by
  rw[zl,D6,D6]
  split
  ·rw[D6]
  ·rfl
 |a::l,x=>by
  rw[List.cons_append,D6,D6]
  by_cases h:0≤x
  ·rw[if_pos h,if_pos h,Mi e l]
  ·rw[if_neg h,if_neg h,if_neg h]
theorem Mj {l:List Ex}{k:Nat}(hk:k<l.length){x:Int}(h:0≤D6 (l.take k) x):D6 (l.take (k+1)) x=I0 (l.getD k Ex.zero) (D6 (l.take k) x):=by
 rw[List.take_succ_eq_append_getElem hk,Mi,if_pos h]
 simp[hk]
theorem NR:∀(l r:List Ex)(x:Int),D6 l x<0→D6 (l++r) x=D6 l x
 |[],r,x,h=>by rw[D6]at h ⊢;rw[zl,KY h]
 |a::l,r,x,h=>by
  rw[D6]at h ⊢
  rw[List.cons_append,D6]
  split
  ·rename_i h0;rw[if_pos h0]at h;exact NR l r _ h
  ·rfl
theorem Mk {l:List Ex}{k:Nat}{x:Int}(h:D6 (l.take k) x<0):D6 l x=D6 (l.take k) x:=by
 have:=NR (l.take k) (l.drop k) x h
 rwa [List.take_append_drop]at this
theorem NS {e:Ex}{x:Int}(h:0≤x):-1≤I0 e x∧I0 e x≤x:=by
 rcases KZ e x h with h1|h1 <;> omega
theorem Se {e:Ex}{x:Int}(h:0≤x):0≤I0 e x↔(e.size:Int)≤x:=by
 rcases KZ e x h with h1|h1 <;> omega
def QL (k:Int):Int:=if k=1∨k=2 then 0 else if k=3∨k=4∨k=5∨k=6∨k=9 then 2 else if k=7 then 1 else if k=8 then 3 else -1
theorem MS {p q:Prop} [Decidable p] [Decidable q] (h:p↔q):decide p=decide q:=decide_eq_decide.2 h
section
variable {p:List Fn} {F vars:Int} {e:Ex}
theorem QM (h:GF p F vars e=true)(h10:e.kind≠10)(h11:e.kind≠11):e.pick=0∧e.count=0∧QL e.kind=((e.kids.length:Nat):Int)∧(e.kind≠1→e.kind≠2→e.num=0):=by
 unfold GF DF at h
 unfold QL
 split at h
 ·rename_i h1
  simp only[z7,decide_eq_true_eq]at h
  rw[if_pos (by omega)]
  exact⟨h.1.1,h.1.2,zO,fun hh=>absurd h1 hh⟩
 ·split at h
  ·rename_i h1
   simp only[z7,decide_eq_true_eq]at h
   rw[if_pos (by omega)]
   exact⟨h.1.1,h.1.2,zO,fun _ hh=>absurd h1 hh⟩
  ·split at h
   ·simp only[z7,decide_eq_true_eq]at h
    rw[if_neg zO,if_pos (by omega)]
    exact⟨h.1.1,h.1.2,zO,fun _ _=>h.2.1⟩
   ·split at h
    ·simp only[z7,decide_eq_true_eq]at h
     rw[if_neg zO,if_neg zO,if_pos (by omega)]
     exact⟨h.1.1,h.1.2,zO,fun _ _=>h.2.1⟩
    ·split at h
     ·simp only[z7,decide_eq_true_eq]at h
      rw[if_neg zO,if_neg zO,if_neg zO,if_pos (by omega)]
      exact⟨h.1.1,h.1.2,zO,fun _ _=>h.2.1⟩
     ·split at h
      ·omega
      ·cases h
theorem Xv (h10:e.kind≠10)(h11:e.kind≠11)(h:QL e.kind≠((e.kids.length:Nat):Int)∨e.pick≠0∨e.count≠0):false=GF p F vars e:=by
 cases hw:GF p F vars e with
 |false=>rfl
 |true =>
  have:=QM hw h10 h11
  omega
theorem aL (hk:QL e.kind=((e.kids.length:Nat):Int))(h1:e.kind=1)(hp:e.pick=0)(hc:e.count=0):Ia e.num=GF p F vars e:=by
 have hl:e.kids.length=0:=by unfold QL at hk;rw[if_pos (by omega)]at hk;omega
 unfold GF DF
 rw[if_pos h1,A5 hp,A5 hc,A5 hl];rfl
theorem aM (hk:QL e.kind=((e.kids.length:Nat):Int))(h1:e.kind=2)(hp:e.pick=0)(hc:e.count=0):(decide (((0:Nat):Int)≤e.num) && decide (e.num≤vars-1))=GF p F vars e:=by
 have hl:e.kids.length=0:=by unfold QL at hk;rw[if_pos (by omega)]at hk;omega
 unfold GF DF E7
 rw[if_neg zO,if_pos h1,A5 hp,A5 hc,A5 hl];rfl
theorem aN (hk:QL e.kind=((e.kids.length:Nat):Int))(h1:e.kind≠1)(h2:e.kind≠2)(h10:e.kind≠10)(h11:e.kind≠11)(hp:e.pick=0)(hc:e.count=0):decide (e.num=0)=GF p F vars e:=by
 unfold QL at hk
 unfold GF DF
 rw[if_neg h1,if_neg h2,A5 hp,A5 hc]
 rw[if_neg (by omega)]at hk
 split at hk
 ·rename_i h3
  rw[if_pos h3,A5 (show e.kids.length=2 by omega)];simp
 ·rename_i h3
  rw[if_neg h3]
  split at hk
  ·rename_i h4
   rw[if_pos h4,A5 (show e.kids.length=1 by omega)];simp
  ·rename_i h4
   rw[if_neg h4]
   split at hk
   ·rename_i h5
    rw[if_pos h5,A5 (show e.kids.length=3 by omega)];simp
   ·omega
end
end
section
def K5 (n:Nat)(C:Ca)(e:Ex)(env:List Sr)(s:Nat):Rs Sr:=(Df n C e.kids env s).bind fun xs t =>
 if e.kind=10 then C.one e.num.toNat e.pick.toNat xs t else(HN (C.all e.num.toNat) e.count.toNat xs t).bind fun ys u=>.ok (ys.getD e.pick.toNat []) u
section
variable {n:Nat} {C:Ca} {e:Ex} {env:List Sr} {s s1 s2:Nat} {c c1 c2:Int} {x y:Sr} {xs ys:List Sr}
theorem Ml (hc:c=0)(hs:s+1≤3000)(hk:e.kind=10∨e.kind=11)(h:AH (go c (K5 n C e env (s+1))) y s2 c2):AH (go c (Cn n C e env s)) y s2 c2:=by
 subst hc
 rw[Cx]at h ⊢
 rw[Hp hs zO zO zO (by omega)]
 unfold K5 at h
 cases hv:Df n C e.kids env (s+1)with
 |err d=>rw[hv]at h;exact h
 |ok zs t =>
  rw[hv]at h
  rw[Rs.bind_ok]at h ⊢
  by_cases h10:e.kind=10
  ·rw[if_pos h10]at h ⊢;exact h
  ·rw[if_neg h10]at h;rw[if_neg h10,if_pos (by omega)];exact h
theorem Sf {α:Type}{r:Rs α}{v:α}(h:AH (go c r) v s1 c1)(hc:c≠0):c1=c:=by
 rw[Dk hc]at h;exact h.1
theorem Xw (hl:e.kids.length=1)(h:AH (go c (Cn n C (e.kids.getD 0 Ex.zero) env s)) x s1 c1):AH (go c (Df n C e.kids env s)) [x] s1 c1:=by
 have h1:=Gi (l:=e.kids) (k:=0) zO (Gj n C e.kids env s c) h
 rwa [za (by omega)]at h1
theorem JJ (hl:e.kids.length=2)(h:AH (go c (Cn n C (e.kids.getD 0 Ex.zero) env s)) x s1 c1)(h2:AH (go c1 (Cn n C (e.kids.getD 1 Ex.zero) env s1)) y s2 c2):AH (go c (Df n C e.kids env s)) [x,y] s2 c2:=by
 have h1:=Gi (l:=e.kids) (k:=0) zO (Gj n C e.kids env s c) h
 have h3:=Gi (l:=e.kids) (k:=1) zO h1 h2
 rwa [za (by omega)]at h3
theorem GK (hc:c=0)(hs:s+1≤3000)(hk:e.kind=3∨e.kind=4∨e.kind=5∨e.kind=6∨e.kind=7)(hr:AH (go c (Df n C e.kids env (s+1))) xs s1 c1)
  (h:c1=0→AH (Kq e.kind xs s1) y s1 c2) (h0:c1≠0→c2=c1):AH (go c (Cn n C e env s)) y s1 c2:=by
 by_cases hc1:c1=0
 ·exact Ba hc hs zO zO zO zO zO zO hr hc1<|h hc1
 ·rw[h0 hc1];exact D3 hc hs zO zO zO zO hr hc1
theorem Sg {p:List Fn}{F:Nat}(hk:e.kind=10)(hF:e.num.toNat<F)(hr:AH (go c (Df n (E8 p n F) e.kids env s)) xs s1 c1)
  (h2:AH (go c1 (Cn n (E8 p n e.num.toNat) ((p.getD e.num.toNat Fn.zero).outs.getD e.pick.toNat Ex.zero) xs s1)) y s2 c2):AH (go c (K5 n (E8 p n F) e env s)) y s2 c2:=by
 by_cases hc:c=0
 ·subst hc
  rw[Cx]at hr ⊢
  unfold K5
  by_cases hc1:c1=0
  ·subst hc1;rw[hr.bindO,if_pos hk,MK hF];rw[Cx]at h2;exact h2
  ·rw[hr.bindE hc1];rw[Dk hc1]at h2;exact h2
 ·have e1:=Sf hr hc
  subst e1
  rw[Dk hc]at h2 ⊢;exact h2
theorem Sh {f:List Sr→Nat→Rs (List Sr)}{k:Nat}(h:AH (go c (HN f k xs s)) ys s1 c1){zs:List Sr}(h2:AH (go c1 (f ys s1)) zs s2 c2):AH (go c (HN f (k+1) xs s)) zs s2 c2:=by
 by_cases hc:c=0
 ·subst hc
  rw[Cx]at h ⊢
  show AH ((HN f k xs s).bind f) _ _ _
  by_cases hc1:c1=0
  ·subst hc1;rw[h.bindO];rw[Cx]at h2;exact h2
  ·rw[h.bindE hc1];rw[Dk hc1]at h2;exact h2
 ·have e1:=Sf h hc
  subst e1
  rw[Dk hc]at h2 ⊢;exact h2
theorem Si {f:List Sr→Nat→Rs (List Sr)}(hc:0=0):AH (go c (HN f 0 xs s)) xs s c:=by
 by_cases h:c=0
 ·subst h;exact⟨rfl,rfl,rfl⟩
 ·exact AH.mk_err (Dk h _) h
theorem Sj {p:List Fn}{F:Nat}(hk:e.kind≠10)(hF:e.num.toNat<F)(hr:AH (go c (Df n (E8 p n F) e.kids env s)) xs s1 c1)
  (h2:AH (go c1 (HN (fun a t=>Df n (E8 p n e.num.toNat) (p.getD e.num.toNat Fn.zero).outs a t) e.count.toNat xs s1)) ys s2 c2):AH (go c (K5 n (E8 p n F) e env s)) (ys.getD e.pick.toNat []) s2 c2:=by
 have hl:(E8 p n F).all e.num.toNat=fun a t=>Df n (E8 p n e.num.toNat) (p.getD e.num.toNat Fn.zero).outs a t:=funext fun a=>funext fun t=>GG hF
 by_cases hc:c=0
 ·subst hc
  rw[Cx]at hr ⊢
  unfold K5
  by_cases hc1:c1=0
  ·subst hc1
   rw[hr.bindO,if_neg hk,hl]
   rw[Cx]at h2
   by_cases h0:c2=0
   ·subst h0;rw[h2.bindO];exact AH.mk_ok rfl
   ·rw[h2.bindE h0];exact AH.mk_err rfl h0
  ·rw[hr.bindE hc1]
   rw[Dk hc1]at h2
   exact AH.mk_err (by rw[h2.1]) (by rw[h2.1];exact hc1)
 ·have e1:=Sf hr hc
  subst e1
  rw[Dk hc]at h2 ⊢
  exact AH.mk_err (by rw[h2.1]) (by rw[h2.1];exact hc)
end
end
section
def Mm (p:List Fn)(f:Int):Bool:=E7 f 0 (((p.length:Nat):Int)-1) && (decide (1≤(p.getD f.toNat Fn.zero).params) && decide ((((p.getD f.toNat Fn.zero).outs.length:Nat):Int)=(p.getD f.toNat Fn.zero).params))
def PS (p:List Fn)(f:Int):Bool:=G7 p && Mm p f
def EQ (p:List Fn)(f:Int)(l:List Sr):Int :=
 if G7 p=true then(if Mm p f=true then(if l.all (fun s=>decide (((s.length:Nat):Int)=(p.getD f.toNat Fn.zero).params) && B2 s)=true then 0 else 2)else 2)else 1
def Hs (p:List Fn)(f:Int)(a:Sr)(n:Int):Int:=if EQ p f [a]=0 then(if E7 n 0 40=true then 0 else 2)else EQ p f [a]
theorem Kt (p:List Fn)(f:Int)(l:List Sr):0≤EQ p f l∧EQ p f l≤2:=by
 unfold EQ;split <;> (try split) <;> (try split) <;> omega
theorem Ku (p:List Fn)(f:Int)(a:Sr)(n:Int):0≤Hs p f a n∧Hs p f a n≤2:=by
 have:=Kt p f [a]
 unfold Hs;split <;> (try split) <;> omega
theorem HS {p:List Fn}{f:Int}:Mm p f=true↔(0≤f∧f≤((p.length:Nat):Int)-1)∧1≤(p.getD f.toNat Fn.zero).params∧(((p.getD f.toNat Fn.zero).outs.length:Nat):Int)=(p.getD f.toNat Fn.zero).params:=by
 unfold Mm;rw[z7,z7,Br,decide_eq_true_eq,decide_eq_true_eq]
theorem Sk {p:List Fn}{f:Int}{a:Sr}{n:Int}(h:Hs p f a n=0):G7 p=true∧(0≤f∧f<((p.length:Nat):Int))∧(1≤(p.getD f.toNat Fn.zero).params∧(((p.getD f.toNat Fn.zero).outs.length:Nat):Int)=(p.getD f.toNat Fn.zero).params)∧((a.length:Nat):Int)=(p.getD f.toNat Fn.zero).params∧B2 a=true∧(0≤n∧n≤40):=by
 unfold Hs at h
 split at h
 ·rename_i h1
  split at h
  ·rename_i h2
   unfold EQ at h1
   split at h1
   ·rename_i h3
    split at h1
    ·rename_i h4
     split at h1
     ·rename_i h5
      rw[Br]at h2
      rw[HS]at h4
      simp only[List.all_cons,List.all_nil,Bool.and_true,z7,decide_eq_true_eq]at h5
      exact⟨h3,⟨h4.1.1,zO⟩,⟨h4.2.1,h4.2.2⟩,h5.1,h5.2,h2⟩
     ·omega
    ·omega
   ·omega
  ·omega
 ·rename_i h1;exact absurd h h1
def G8 (p:List Fn)(f:Nat)(s:Sr):Int:=Kb p 1 f (CO s)
def Oq (p:List Fn)(f:Nat)(s:Sr):Sr:=(OH p 1 f (CO s)).map fun s=>s.getD 0 0
def Ch (p:List Fn)(f:Nat)(a:Sr):Nat→Sr
 |0=>a
 |k+1=>Oq p f (Ch p f a k)
def Eo (p:List Fn)(f:Nat)(a:Sr):Nat→Int
 |0=>0
 |k+1=>if Eo p f a k=0 then G8 p f (Ch p f a k)else Eo p f a k
def Ua (p:List Fn)(f:Nat)(a:Sr)(n:Nat):List Sr:=if Eo p f a n=0 then CC (n+1) (Ch p f a)else []
theorem CJ {a:Sr}(h:B2 a=true):BV 1 (CO a):=by
 intro k hk
 unfold CO at hk ⊢
 rw[zg]at hk
 rw[List.getD_eq_getElem?_getD,List.getElem?_map,List.getElem?_eq_getElem hk]
 refine⟨rfl,?_⟩
 unfold B2 at h ⊢
 have:=zm.1 h _ (List.getElem_mem hk)
 simpa using this
theorem L1 {x:List Sr}{n:Nat}(h:BV (n+1) x):B2 (x.map fun s=>s.getD 0 0)=true:=by
 unfold B2
 rw[zm]
 intro y hy
 obtain⟨s,hs,rfl⟩:=List.mem_map.1 hy
 obtain⟨k,hk,rfl⟩:=List.mem_iff_getElem.1 hs
 have h2:=h k hk
 rw[FF hk]at h2
 exact Xu h2 zO
section
variable {p:List Fn} {f:Nat} {a s:Sr} {k n:Nat}
theorem DX (h:Eo p f a k=0):Eo p f a (k+1)=G8 p f (Ch p f a k):=if_pos h
theorem Je (h:Eo p f a k≠0):∀ {n:Nat},k≤n→Eo p f a n = Eo p f a k
  | 0, hk => by have : k = 0 := by omega
                subst this; rfl
  | n + 1,hk=>by
    by_cases e:k = n + 1
    · subst e; rfl
    · have ih:=Je h (n:=n) zO
      show (if Eo p f a n = 0 then _ else _) = _
      rw [if_neg (by rw [ih]; exact h)]; exact ih
theorem PT (h:Eo p f a n≠0):Ua p f a n=[]:=if_neg h
theorem K6 (h:Eo p f a n=0):Ua p f a n=CC (n+1) (Ch p f a):=if_pos h
structure QY (p:List Fn)(f:Nat)(s:Sr):Prop where
 code:0≤G8 p f s∧G8 p f s≤9
 len:G8 p f s=0→(Oq p f s).length=(p.getD f Fn.zero).outs.length
 num:B2 (Oq p f s)=true
 non:G8 p f s≠0→Oq p f s=[]
theorem QY.mk' (h:UT p 1 f (CO s)):QY p f s :=
 ⟨h.code,fun h0=>by unfold Oq;rw[zg];exact h.len h0,L1 h.ser,fun h0=>by unfold Oq;rw[h.non h0];rfl⟩
structure PU (p:List Fn)(f:Nat)(a:Sr)(n:Nat):Prop where
 code:0≤Eo p f a n∧Eo p f a n≤9
 len:(Ua p f a n).length≤n+1
 rows:∀k,((Ua p f a n).getD k []).length≤a.length
theorem PU.err {c:Int}(h:Eo p f a n=c)(h0:c≠0)(hc:0≤c∧c≤9):PU p f a n:=⟨zO,by rw[PT (by omega)];simp,fun k=>by rw[PT (by omega)];simp⟩
theorem PU.ok (h:Eo p f a n=0)(hr:∀k,k≤n→(Ch p f a k).length=a.length):PU p f a n:=⟨zO,by rw[K6 h];simp[CC],fun k=>by
 rw[K6 h]
 by_cases hk:k<n+1
 ·rw[C4 _ hk,hr k (by omega)];exact A7 _
 ·rw[List.getD_eq_getElem?_getD,List.getElem?_eq_none (by simp[CC];omega)];simp⟩
end
def Tz (p:List Fn)(f:Int)(a:Sr)(n:Int):List Sr:=if Hs p f a n=0 then Ua p f.toNat a n.toNat else []
def LR (p:List Fn)(f:Int)(a:Sr)(n:Int):Int:=if Hs p f a n=0 then Eo p f.toNat a n.toNat else Hs p f a n
section
variable {p:List Fn} {f n:Int} {a:Sr}
theorem K7 (h:Hs p f a n≠0):Tz p f a n=[]:=if_neg h
theorem PW (h:Hs p f a n≠0):LR p f a n=Hs p f a n:=if_neg h
theorem L2 (h:Hs p f a n=0):Tz p f a n=Ua p f.toNat a n.toNat:=if_pos h
theorem NT (h:Hs p f a n=0):LR p f a n=Eo p f.toNat a n.toNat:=if_pos h
end
end
section
def Rs.map {α β:Type}(f:α→β)(r:Rs α):Rs β:=match r with
 |.ok x s=>.ok (f x) s
 |.err c=>.err c
abbrev Dp (m:Nat)(x:Sr):Sr:=x.take m
theorem DB {m k:Nat}(x:Sr)(h:k<m):(Dp m x).getD k 0=x.getD k 0:=by
 simp only[Dp,List.getD_eq_getElem?_getD,List.getElem?_take,if_pos h]
theorem Kv {m:Nat}(l:Nat)(f g:Nat→Int)(h:∀k,k<m→f k=g k):CC (min m l) f=Dp m (CC l g):=by
 unfold CC Dp
 rw[← List.map_take,List.take_range]
 exact List.map_congr_left fun k hk=>h k (by have:=List.mem_range.1 hk;omega)
section
variable {m:Nat} (a b:Sr)
theorem Jf:(Dp m a).length=min m a.length:=List.length_take ..
theorem Sl:Ce (Dp m a) (Dp m b)=Dp m (Ce a b):=by
 unfold Ce;rw[Jf]
 exact Kv _ _ _ fun k hk=>by rw[DB a hk,DB b hk]
theorem Sm:EP (Dp m a) (Dp m b)=Dp m (EP a b):=by
 unfold EP;rw[Jf]
 exact Kv _ _ _ fun k hk=>by rw[DB a hk,DB b hk]
theorem Sn (y:Int):Ct (Dp m a) y=Dp m (Ct a y):=by
 unfold Ct;rw[Jf]
 exact Kv _ _ _ fun k hk=>by rw[DB a hk]
theorem PX {k:Nat}(hk:k<m):∀i,i≤k+1→Mf (Dp m a) (Dp m b) k i=Mf a b k i
 |0,_=>rfl
 |i+1,h=>by
  show md (Mf (Dp m a) (Dp m b) k i+(Dp m a).getD i 0*(Dp m b).getD (k-i) 0)=md (Mf a b k i+a.getD i 0*b.getD (k-i) 0)
  rw[PX hk i zO,DB a zO,DB b (by omega)]
theorem So:Cc (Dp m a) (Dp m b)=Dp m (Cc a b):=by
 unfold Cc;rw[Jf]
 exact Kv _ _ _ fun k hk=>PX a b hk (k+1)<|A7 _
theorem PY (o:Sr){k:Nat}(hk:k<m):∀i,i≤k→Nm (Dp m a) (Dp m b) o k i=Nm a b o k i
 |0,_=>DB a hk
 |i+1,h=>by
  show md (Nm (Dp m a) (Dp m b) o k i-o.getD i 0*(Dp m b).getD (k-i) 0)=md (Nm a b o k i-o.getD i 0*b.getD (k-i) 0)
  rw[PY o hk i zO,DB b (by omega)]
theorem PZ (hm:1≤m):∀k,k≤m→It (Dp m a) (Dp m b) k=It a b k
 |0,_=>rfl
 |k+1,h=>by
  rw[It,It,PZ hm k zO,PY a b _ zO k (A7 _),DB b (by omega)]
theorem NU:∀ (k j:Nat),j≤k→(It a b k).take j = It a b j
  | 0, j, h => by have : j = 0 := by omega
                  subst this; rfl
  | k + 1,j,h=>by
    by_cases e:j = k + 1
    · subst e; rw [za (by rw [Dz]; exact A7 _)]
    · rw [It,List.take_append_of_le_length (by rw [Dz]; omega)]; exact NU k j zO
theorem Sp (hm:1≤m):BM (Dp m a) (Dp m b)=Dp m (BM a b):=by
 unfold BM;rw[Jf,PZ a b hm _ (by omega)]
 show _=(It a b a.length).take m
 by_cases h:m≤a.length
 ·rw[NU a b _ _ h,Nat.min_eq_left h]
 ·rw[za (by rw[Dz];omega),Nat.min_eq_right (by omega)]
end
theorem Ub {m n:Nat}(x:Int)(h:m≤n):cst m x=Dp m (cst n x):=by
 unfold cst Dp
 rw[List.take_set,List.take_replicate,Nat.min_eq_left h]
theorem Kw {m:Nat}(env:List Sr)(k:Nat):(env.map (Dp m)).getD k []=Dp m (env.getD k []):=by
 simp only[List.getD_eq_getElem?_getD,List.getElem?_map]
 cases env[k]? <;> simp[Dp]
structure aO (m:Nat)(C C':Ca):Prop where
 one:∀f j xs t,C'.one f j (xs.map (Dp m)) t=(C.one f j xs t).map (Dp m)
 all:∀f xs t,C'.all f (xs.map (Dp m)) t=(C.all f xs t).map (List.map (Dp m))
theorem Uc {m:Nat}(hm:1≤m)(k:Int)(xs:List Sr)(t:Nat):Kq k (xs.map (Dp m)) t=(Kq k xs t).map (Dp m):=by
 unfold Kq
 rw[Kw,Kw]
 split
 ·rw[Sl];rfl
 ·split
  ·rw[Sm];rfl
  ·split
   ·rw[So];rfl
   ·split
    ·rw[Sn];rfl
    ·rw[DB _ (by omega)]
     split
     ·rfl
     ·rw[Sp _ _ hm];rfl
section
variable {m n:Nat} {C C':Ca}
theorem Q0 (hC:aO m C C')(f:Nat):∀(k:Nat)(xs:List Sr)(t:Nat),HN (C'.all f) k (xs.map (Dp m)) t=(HN (C.all f) k xs t).map (List.map (Dp m))
 |0,xs,t=>rfl
 |k+1,xs,t=>by
  rw[HN,HN,Q0 hC f k xs t]
  cases HN (C.all f) k xs t with
  |err c=>rfl
  |ok ys u=>exact hC.all f ys u
theorem Kx:∀(l:List Ex),(∀e∈l,∀env s,Cn m C' e (env.map (Dp m)) s=(Cn n C e env s).map (Dp m))→∀env s,Df m C' l (env.map (Dp m)) s=(Df n C l env s).map (List.map (Dp m))
 |[],_,env,s=>by rw[Df,Df];rfl
 |e::l,h,env,s=>by
  rw[Df,Df,h e (z0 ..)]
  cases Cn n C e env s with
  |err c=>rfl
  |ok x t =>
   show(Df m C' l (env.map (Dp m)) t).bind _=_
   rw[Kx l (fun e he=>h e (z3 _ he)) env t]
   simp only[Rs.bind_ok]
   cases Df n C l env t <;> rfl
theorem HT:∀(l:List Ex)(j:Nat),(∀e∈l,∀env s,Cn m C' e (env.map (Dp m)) s=(Cn n C e env s).map (Dp m))→∀env s,Ib m C' l j (env.map (Dp m)) s=(Ib n C l j env s).map (Dp m)
 |[],j,_,env,s=>by rw[Ib,Ib];rfl
 |e::l,0,h,env,s=>by rw[Ib,Ib];exact h e (z0 ..) env s
 |e::l,j+1,h,env,s=>by rw[Ib,Ib];exact HT l j (fun e he=>h e (z3 _ he)) env s
theorem JK:∀ {l:List Ex}{e:Ex},e∈l→e.size≤Ex.sizes l
 |[],_,h=>by cases h
 |a::l,e,h=>by
  rw[Ex.sizes]
  rcases ze.1 h with rfl|h
  ·omega
  ·have:=JK h;omega
theorem Ky (hm:1≤m)(hmn:m≤n)(hC:aO m C C'):∀(z:Nat)(e:Ex),e.size≤z→∀env s,Cn m C' e (env.map (Dp m)) s=(Cn n C e env s).map (Dp m)
 |0,e,h,_,_=>by have:=Cw e;omega
 |z+1,e,h,env,s=>by
  have hk:∀x∈e.kids,∀env s,Cn m C' x (env.map (Dp m)) s=(Cn n C x env s).map (Dp m):=fun x hx=>Ky hm hmn hC z x (by have:=Cw e;have:=JK hx;omega)
  rw[EE,EE]
  split
  ·rfl
  ·split
   ·rw[Ub _ hmn];rfl
   ·split
    ·rw[Kw];rfl
    ·split
     ·rw[HT _ 0 hk]
      cases Ib n C e.kids 0 env (s+1)with
      |err c=>rfl
      |ok x t =>
       show(if (Dp m x).getD 0 0=0 then _ else _)=((if x.getD 0 0=0 then _ else _:Rs Sr)).map (Dp m)
       rw[DB _ (by omega)]
       split
       ·exact HT _ 1 hk env t
       ·exact HT _ 2 hk env t
     ·split
      ·rw[HT _ 0 hk]
       cases Ib n C e.kids 0 env (s+1)with
       |err c=>rfl
       |ok x t =>
        show Ib m C' e.kids 1 (env.map (Dp m)++[Dp m x]) t=(Ib n C e.kids 1 (env++[x]) t).map (Dp m)
        rw[← HT _ 1 hk,List.map_append];rfl
      ·rw[Kx _ hk]
       cases Df n C e.kids env (s+1)with
       |err c=>rfl
       |ok xs t =>
        show(if e.kind=10 then _ else _)=((if e.kind=10 then _ else _:Rs Sr)).map (Dp m)
        split
        ·exact hC.one _ _ _ _
        ·split
         ·rw[Q0 hC]
          cases HN (C.all e.num.toNat) e.count.toNat xs t with
          |err c=>rfl
          |ok ys u=>show Rs.ok _ _=Rs.ok _ _;rw[Kw]
         ·exact Uc hm _ _ _
theorem Q3 (p:List Fn)(hm:1≤m)(hmn:m≤n):∀F,aO m (E8 p n F) (E8 p m F)
 |0=>⟨fun _ _ _ _=>rfl,fun _ _ _=>rfl⟩
 |F+1=>by
  have ih:=Q3 p hm hmn F
  refine⟨fun f j xs t=>?_,fun f xs t=>?_⟩
  ·show(if f=F then _ else _)=((if f=F then _ else _:Rs Sr)).map (Dp m)
   split
   ·exact Ky hm hmn ih _ _ (A7 _) _ _
   ·exact ih.one f j xs t
  ·show(if f=F then _ else _)=((if f=F then _ else _:Rs (List Sr))).map (List.map (Dp m))
   split
   ·exact Kx _ (fun e _=>Ky hm hmn ih _ e<|A7 _) _ _
   ·exact ih.all f xs t
end
theorem Xx (p:List Fn){m n:Nat}(hm:1≤m)(hmn:m≤n)(f:Nat)(a:List Sr):ev p m f (a.map (Dp m))=(ev p n f a).map (List.map (Dp m)) :=
 Kx _ (fun e _=>Ky hm hmn (Q3 p hm hmn f) _ e (A7 _)) _ _
theorem Ud (p:List Fn){m n:Nat}(hm:1≤m)(hmn:m≤n)(f:Nat)(a:List Sr):Kb p m f (a.map (Dp m))=Kb p n f a:=by
 unfold Kb;rw[Xx p hm hmn]
 cases ev p n f a <;> rfl
end
section
def Xy (n:Nat)(r:Rs Sr):Prop:=match r with
 |.ok x s=>Cf n x∧s≤3000
 |.err c=>c=6∨c=7
def ZU (n m:Nat)(r:Rs (List Sr)):Prop:=match r with
 |.ok xs s=>xs.length=m∧BV n xs∧s≤3000
 |.err c=>c=6∨c=7
structure aP (p:List Fn)(n F:Nat)(C:Ca):Prop where
 one:∀f j xs t,f<F→j<(p.getD f Fn.zero).outs.length→BV n xs→((xs.length:Nat):Int)=(p.getD f Fn.zero).params→t≤3000→Xy n (C.one f j xs t)
 all:∀f xs t,f<F→BV n xs→((xs.length:Nat):Int)=(p.getD f Fn.zero).params→t≤3000→ZU n (p.getD f Fn.zero).outs.length (C.all f xs t)
theorem BV.nil (n:Nat):BV n []:=fun k hk=>by simp at hk
theorem BV.cons {n:Nat}{x:Sr}{xs:List Sr}(hx:Cf n x)(h:BV n xs):BV n (x::xs):=by
 intro k hk
 cases k with
 |zero=>exact hx
 |succ k=>exact h k (by simpa using hk)
theorem Sq {n:Nat}{C:Ca}{env:List Sr}:∀(l:List Ex),(∀e∈l,∀s,s≤3000→Xy n (Cn n C e env s))→∀s,s≤3000→ZU n l.length (Df n C l env s)
 |[],_,s,hs=>by rw[Df];exact⟨rfl,BV.nil n,hs⟩
 |e::l,h,s,hs=>by
  rw[Df]
  have h1:=h e (z0 ..) s hs
  cases h2:Cn n C e env s with
  |err c=>rw[h2]at h1;exact h1
  |ok x t =>
   rw[h2]at h1
   have h3:=Sq l (fun e he=>h e<|z3 _ he) t h1.2
   rw[Rs.bind_ok]
   cases h4:Df n C l env t with
   |err c=>rw[h4]at h3;exact h3
   |ok xs u=>rw[h4]at h3;exact⟨by simp[h3.1],BV.cons h1.1 h3.2.1,h3.2.2⟩
theorem V0 {p:List Fn}{n F f:Nat}{C:Ca}(hC:aP p n F C)(hf:f<F)(ho:(((p.getD f Fn.zero).outs.length:Nat):Int)=(p.getD f Fn.zero).params):∀(k:Nat)(xs:List Sr)(t:Nat),BV n xs→xs.length=(p.getD f Fn.zero).outs.length→t≤3000→ZU n (p.getD f Fn.zero).outs.length (HN (C.all f) k xs t)
 |0,xs,t,h1,h2,h3=>⟨h2,h1,h3⟩
 |k+1,xs,t,h1,h2,h3=>by
  have h:=V0 hC hf ho k xs t h1 h2 h3
  rw[HN]
  cases h4:HN (C.all f) k xs t with
  |err c=>rw[h4]at h;exact h
  |ok ys u=>rw[h4]at h;rw[Rs.bind_ok];exact hC.all f ys u hf h.2.1 (by rw[h.1];exact ho) h.2.2
theorem Yj {n:Nat}{k:Int}{xs:List Sr}{t:Nat}(hx:BV n xs)(h0:0<xs.length)(ht:t≤3000):Xy n (Kq k xs t):=by
 have h1:=(hx 0 h0).1
 unfold Kq
 split
 ·exact⟨⟨by rw[Di];exact h1,Gh _ _⟩,ht⟩
 ·split
  ·exact⟨⟨by rw[Hk];exact h1,Hl _ _⟩,ht⟩
  ·split
   ·exact⟨⟨by rw[Gf];exact h1,Fd _ _⟩,ht⟩
   ·split
    ·exact⟨⟨by rw[Gg];exact h1,Eu _ _⟩,ht⟩
    ·split
     ·exact .inl rfl
     ·exact⟨⟨by rw[DS];exact h1,Et _ _⟩,ht⟩
theorem Ss {p:List Fn}{n F:Nat}{C:Ca}(hC:aP p n F C):∀(z:Nat)(e:Ex),e.size≤z→∀(env:List Sr)(s:Nat),wf p ((F:Nat):Int) e ((env.length:Nat):Int)=true→BV n env→s≤3000→Xy n (Cn n C e env s)
 |0,e,h,_,_,_,_,_=>by have:=Cw e;omega
 |z+1,e,h,env,s,hw,he,hs=>by
  obtain⟨w1,w2,w3,w4,w5,w6,w7,w8⟩:=CT (CE hw)
  have hz:∀j,j<e.kids.length→(e.kids.getD j Ex.zero).size≤z:=fun j hj=>by
   have h2:e.kids.getD j Ex.zero∈e.kids:=by rw[FF hj];exact List.getElem_mem hj
   have:=Cw e;have:=JK h2;omega
  have hk:∀j,j<e.kids.length→¬(e.kind=9∧j=1)→∀t,t≤3000→Xy n (Ib n C e.kids j env t):=fun j hj hn t ht=>by
   rw[Dw _ _ _ _ _ _ hj]
   exact Ss hC z _ (hz j hj) env t (DG hw hj hn) he ht
  rw[EE]
  split
  ·exact .inr rfl
  ·rename_i hs3
   split
   ·rename_i h1;exact⟨DT (Cm.2 (w8 h1)),zO⟩
   ·split
    ·rename_i h1 h2;exact⟨he _ (by have:=w2 h2;omega),zO⟩
    ·split
     ·rename_i h1 h2 h8
      have h3:=w5 h8
      have hc:=hk 0 zO zO (s+1) zO
      cases h4:Ib n C e.kids 0 env (s+1)with
      |err c=>rw[h4]at hc;exact hc
      |ok x t =>
       rw[h4]at hc;rw[Rs.bind_ok]
       split
       ·exact hk 1 zO zO t hc.2
       ·exact hk 2 zO zO t hc.2
     ·split
      ·rename_i h1 h2 h8 h9
       have h3:=w3 zO
       have hc:=hk 0 zO zO (s+1) zO
       cases h4:Ib n C e.kids 0 env (s+1)with
       |err c=>rw[h4]at hc;exact hc
       |ok x t =>
        rw[h4]at hc;rw[Rs.bind_ok,Dw _ _ _ _ _ _ (show 1<e.kids.length by omega)]
        refine Ss hC z _ (hz 1 zO) (env++[x]) t ?_ (he.snoc hc.1) hc.2
        have:=JA hw zO h9
        rw[z4,zd];exact this
      ·rename_i h1 h2 h8 h9
       have hc:=Sq (n:=n) (C:=C) (env:=env) e.kids (fun x hx t ht=>by
        obtain⟨j,hj,rfl⟩:=List.mem_iff_getElem.1 hx
        have:=hk j hj zO t ht
        rwa [Dw _ _ _ _ _ _ hj,FF hj]at this) (s+1) zO
       cases h4:Df n C e.kids env (s+1)with
       |err c=>rw[h4]at hc;exact hc
       |ok xs t =>
        rw[h4]at hc;rw[Rs.bind_ok]
        obtain⟨c1,c2,c3⟩:=hc
        split
        ·rename_i h10
         have h6:=w6<|.inl h10
         exact hC.one _ _ xs t zO zO c2 (by rw[c1];exact h6.2.2.1) c3
        ·split
         ·rename_i h11
          have h6:=w6 (.inr h11);have h7:=w7 h11
          have hl:=V0 hC (f:=e.num.toNat) zO h7.1 e.count.toNat xs t c2 zO c3
          cases h5:HN (C.all e.num.toNat) e.count.toNat xs t with
          |err c=>rw[h5]at hl;exact hl
          |ok ys u=>rw[h5]at hl;exact⟨hl.2.1 _ (by rw[hl.1];omega),hl.2.2⟩
         ·refine Yj c2 ?_ c3
          rw[c1]
          by_cases h7:e.kind=7
          ·rw[w4 h7];decide
          ·rw[w3 (by omega)];decide
theorem St {p:List Fn}(hv:H6 p)(n:Nat):∀F,F≤p.length→aP p n F (E8 p n F)
 |0,_=>⟨fun f j xs t h=>by omega,fun f xs t h=>by omega⟩
 |F+1,hF=>by
  have ih:=St hv n F zO
  have hO:∀j xs t,j<(p.getD F Fn.zero).outs.length→BV n xs→((xs.length:Nat):Int)=(p.getD F Fn.zero).params→t≤3000→Xy n (Cn n (E8 p n F) ((p.getD F Fn.zero).outs.getD j Ex.zero) xs t):=fun j xs t h2 h3 h4 h5 =>
   Ss ih _ _ (A7 _) xs t (by rw[h4];exact hv.wf F zO j h2) h3 h5
  refine⟨fun f j xs t h1 h2 h3 h4 h5=>?_,fun f xs t h1 h3 h4 h5=>?_⟩
  ·show Xy n (if f=F then _ else _)
   split
   ·rename_i e;subst e;exact hO j xs t h2 h3 h4 h5
   ·exact ih.one f j xs t zO h2 h3 h4 h5
  ·show ZU n _ (if f=F then _ else _)
   split
   ·rename_i e;subst e
    refine Sq _ (fun e he s hs=>?_) t h5
    obtain⟨j,hj,rfl⟩:=List.mem_iff_getElem.1 he
    have:=hO j xs s hj h3 h4 hs
    rwa [FF hj]at this
   ·exact ih.all f xs t zO h3 h4 h5
theorem aQ {p:List Fn}(hv:H6 p){n f:Nat}{a:List Sr}(hf:f<p.length)(ha:BV n a)(hl:((a.length:Nat):Int)=(p.getD f Fn.zero).params):UT p n f a:=by
 have h:=(St hv n (f+1) zO).all f a 0 zO ha hl zO
 rw[GG (by omega)]at h
 have e:ev p n f a=Df n (E8 p n f) (p.getD f Fn.zero).outs a 0:=rfl
 rw[← e]at h
 cases h2:ev p n f a with
 |err c =>
  rw[h2]at h;have h:c=6∨c=7:=h
  exact⟨by rw[Hq h2];omega,by rw[PI h2];omega,fun hh=>by rw[Hq h2]at hh;omega,by rw[NG h2];exact BV.nil n,fun _=>NG h2⟩
 |ok xs s =>
  rw[h2]at h;have h:xs.length=_∧BV n xs∧s≤3000:=h
  exact⟨by rw[KS h2];omega,by rw[PH h2];exact h.2.2,fun _=>by rw[Jb h2];exact h.1,by rw[Jb h2];exact h.2.1,fun hh=>absurd (KS h2) hh⟩
theorem Yk {a b:Sr}(hl:a.length=b.length)(h:∀j,j<a.length→a.getD j 0=b.getD j 0):a=b :=
 List.ext_getElem hl fun j h1 h2=>by have:=h j h1;rwa [FF h1,FF h2]at this
theorem Ue {y z:List Sr}(hl:y.length=z.length)(h:∀j,j<y.length→y.getD j []=z.getD j []):y=z :=
 List.ext_getElem hl fun j h1 h2=>by have:=h j h1;rwa [FF h1,FF h2]at this
section
variable {p:List Fn} {f o:Nat} {a:List Int}
theorem Xz (s:Sr)(k:Nat)(x:Int)(j:Nat):(s.set k x).getD j 0=if j=k∧k<s.length then x else s.getD j 0:=by
 simp only[List.getD_eq_getElem?_getD,List.getElem?_set]
 by_cases e:k=j
 ·subst e
  by_cases h:k<s.length
  ·simp[h]
  ·simp[h,List.getElem?_eq_none (Nat.le_of_not_lt h)]
 ·rw[if_neg e,if_neg (by omega)]
end
end
section
section
variable {p:List Fn} {f g o pk:Int} {a:Sr}
def gB (p:List Fn)(f g pk:Int):Bool:=E7 g 0 (((p.length:Nat):Int)-1) && (decide ((p.getD g.toNat Fn.zero).params=(p.getD f.toNat Fn.zero).params) && E7 pk 0 ((((p.getD g.toNat Fn.zero).outs.length:Nat):Int)-1))
end
end
theorem Su {s:ByteArray}(h:Kr s=true):s.size≤12:=by
 unfold Kr at h
 simp only[z7,decide_eq_true_eq]at h
 exact h.1.2
theorem KU.szp {p:List Fn}{pl:Bool}(h:KU p pl):PJ p:=fun k hk=>⟨by have:=h.sz k hk;omega,by have:=h.outs k hk;omega,by have:=Su (h.nm k hk);omega⟩
section
def HU {α:Type}(K:Nat)(R:(Nat→α)→α→Prop)(r:Nat→Rs α)(rz:Rs α):Prop:=match rz with
 |.ok z t=>∃x,(∀k,k<K→r k=.ok (x k) t)∧R x z
 |.err c=>∀k,k<K→r k=.err c
theorem HU.congr {α:Type}{K:Nat}{R:(Nat→α)→α→Prop}{r r':Nat→Rs α}{rz:Rs α}(h:HU K R r rz)(e:∀k,k<K→r' k=r k):HU K R r' rz:=by
 cases rz with
 |ok z t=>obtain⟨x,h1,h2⟩:=h;exact⟨x,fun k hk=>(e k hk).trans (h1 k hk),h2⟩
 |err c=>exact fun k hk=>(e k hk).trans (h k hk)
theorem HU.bind {α β:Type}{K:Nat}{R:(Nat→α)→α→Prop}{R':(Nat→β)→β→Prop}{r:Nat→Rs α}{rz:Rs α}{g:Nat→α→Nat→Rs β}{gz:α→Nat→Rs β}(h:HU K R r rz)
  (hg:∀x z t,R x z→HU K R' (fun k=>g k (x k) t) (gz z t)):HU K R' (fun k=>(r k).bind (g k)) (rz.bind gz):=by
 cases rz with
 |ok z t =>
  obtain⟨x,h1,h2⟩:=h
  exact(hg x z t h2).congr fun k hk=>by rw[h1 k hk];rfl
 |err c=>exact fun k hk=>by show(r k).bind _=_;rw[h k hk];rfl
theorem HU.ret {α:Type}{K:Nat}{R:(Nat→α)→α→Prop}{x:Nat→α}{z:α}{t:Nat}(h:R x z):HU K R (fun k=>.ok (x k) t) (.ok z t):=⟨x,fun _ _=>rfl,h⟩
theorem HU.fail {α:Type}{K:Nat}{R:(Nat→α)→α→Prop}{c:Int}:HU K R (fun _=>.err c) (.err c):=fun _ _=>rfl
structure Yl (K:Nat)(n:Nat→Nat)(nz:Nat)(R:(Nat→Sr)→Sr→Prop):Prop where
 zero:∀x z,R x z→∀k,k<K→((x k).getD 0 0=0↔z.getD 0 0=0)
 cst:∀c,Ia c=true→R (fun k=>cst (n k) c) (Go.Proofs.YtbajepcpgncekaaGreat.cst nz c)
 add:∀x z y w,R x z→R y w→R (fun k=>Ce (x k) (y k)) (Ce z w)
 red:∀x z y w,R x z→R y w→R (fun k=>EP (x k) (y k)) (EP z w)
 pro:∀x z y w,R x z→R y w→R (fun k=>Cc (x k) (y k)) (Cc z w)
 scl:∀x z,R x z→R (fun k=>Ct (x k) 1000002) (Ct z 1000002)
 quo:∀x z y w,R x z→R y w→w.getD 0 0≠0→R (fun k=>BM (x k) (y k)) (BM z w)
def Kz (K:Nat)(R:(Nat→Sr)→Sr→Prop)(m:Nat)(xs:Nat→List Sr)(zs:List Sr):Prop:=zs.length=m∧(∀k,k<K→(xs k).length=m)∧∀i,i<m→∃x,(∀k,k<K→(xs k).getD i []=x k)∧R x (zs.getD i [])
section
variable {K:Nat} {n:Nat→Nat} {nz:Nat} {R:(Nat→Sr)→Sr→Prop} {p:List Fn}
theorem Kz.nil:Kz K R 0 (fun _=>[]) []:=⟨rfl,fun _ _=>rfl,fun i hi=>by omega⟩
theorem Kz.cons {m:Nat}{x:Nat→Sr}{z:Sr}{xs:Nat→List Sr}{zs:List Sr}(h1:R x z)(h:Kz K R m xs zs):Kz K R (m+1) (fun k=>x k::xs k) (z::zs):=by
 refine⟨by rw[z9,h.1],fun k hk=>by rw[z9,h.2.1 k hk],fun i hi=>?_⟩
 cases i with
 |zero=>exact⟨x,fun _ _=>rfl,h1⟩
 |succ i =>
  obtain⟨y,h3,h4⟩:=h.2.2 i zO
  exact⟨y,fun k hk=>by simpa using h3 k hk,by simpa using h4⟩
theorem Kz.snoc {m:Nat}{x:Nat→Sr}{z:Sr}{xs:Nat→List Sr}{zs:List Sr}(h:Kz K R m xs zs)(h1:R x z):Kz K R (m+1) (fun k=>xs k++[x k]) (zs++[z]):=by
 refine⟨by simp[h.1],fun k hk=>by simp[h.2.1 k hk],fun i hi=>?_⟩
 by_cases e:i=m
 ·exact⟨x,fun k hk=>H5 (by rw[h.2.1 k hk];exact e),by rw[H5 (by rw[h.1];exact e)];exact h1⟩
 ·obtain⟨y,h3,h4⟩:=h.2.2 i zO
  exact⟨y,fun k hk=>by rw[H4 (by rw[h.2.1 k hk];omega)];exact h3 k hk,by rw[H4 (by rw[h.1];omega)];exact h4⟩
structure aR (K:Nat)(R:(Nat→Sr)→Sr→Prop)(p:List Fn)(F:Nat)(C:Nat→Ca)(Cz:Ca):Prop where
 one:∀f j m xs zs t,f<F→j<(p.getD f Fn.zero).outs.length→Kz K R m xs zs→((m:Nat):Int)=(p.getD f Fn.zero).params→HU K R (fun k=>(C k).one f j (xs k) t) (Cz.one f j zs t)
 all:∀f m xs zs t,f<F→Kz K R m xs zs→((m:Nat):Int)=(p.getD f Fn.zero).params→HU K (Kz K R (p.getD f Fn.zero).outs.length) (fun k=>(C k).all f (xs k) t) (Cz.all f zs t)
theorem Sv {C:Nat→Ca}{Cz:Ca}{env:Nat→List Sr}{ez:List Sr}:∀(l:List Ex),(∀e∈l,∀s,HU K R (fun k=>Cn (n k) (C k) e (env k) s) (Cn nz Cz e ez s))→∀s,HU K (Kz K R l.length) (fun k=>Df (n k) (C k) l (env k) s) (Df nz Cz l ez s)
 |[],_,s=>by
  simp only[Df]
  exact HU.ret Kz.nil
 |e::l,h,s=>by
  simp only[Df]
  exact (h e (z0 ..) s).bind fun x z t hx=>(Sv l (fun e he=>h e<|z3 _ he) t).bind fun xs zs u hxs=>HU.ret<|hxs.cons hx
theorem V1 {F f:Nat}{C:Nat→Ca}{Cz:Ca}(hC:aR K R p F C Cz)(hf:f<F)(ho:(((p.getD f Fn.zero).outs.length:Nat):Int)=(p.getD f Fn.zero).params):∀(c:Nat)(xs:Nat→List Sr)(zs:List Sr)(t:Nat),Kz K R (p.getD f Fn.zero).outs.length xs zs →
  HU K (Kz K R (p.getD f Fn.zero).outs.length) (fun k=>HN ((C k).all f) c (xs k) t) (HN (Cz.all f) c zs t)
 |0,xs,zs,t,h=>HU.ret h
 |c+1,xs,zs,t,h=>(V1 hC hf ho c xs zs t h).bind fun ys ws u hy=>hC.all f _ ys ws u hf hy ho
theorem Kz.at {m i:Nat}{xs:Nat→List Sr}{zs:List Sr}{t:Nat}(h:Kz K R m xs zs)(hi:i<m):HU K R (fun k=>.ok ((xs k).getD i []) t) (.ok (zs.getD i []) t):=by
 obtain⟨x,h1,h2⟩:=h.2.2 i hi
 exact(HU.ret h2).congr fun k hk=>by rw[h1 k hk]
theorem Kz.two {m t t':Nat}{xs:Nat→List Sr}{zs:List Sr}{o:Sr→Sr→Sr}(h:Kz K R m xs zs)(hm:2≤m)(ho:∀x z y w,R x z→R y w→R (fun k=>o (x k) (y k)) (o z w)) :
  HU K R (fun k=>.ok (o ((xs k).getD 0 []) ((xs k).getD 1 [])) t) (.ok (o (zs.getD 0 []) (zs.getD 1 [])) t):=by
 obtain⟨x,h1,h2⟩:=h.2.2 0 zO
 obtain⟨y,h3,h4⟩:=h.2.2 1 zO
 exact(HU.ret (ho x _ y _ h2 h4)).congr fun k hk=>by rw[h1 k hk,h3 k hk]
theorem Ym (hR:Yl K n nz R){kd:Int}{m t:Nat}{xs:Nat→List Sr}{zs:List Sr}(h:Kz K R m xs zs)(h1:kd=7→1≤m)(h2:kd≠7→2≤m):HU K R (fun k=>Kq kd (xs k) t) (Kq kd zs t):=by
 unfold Kq
 by_cases k3:kd=3
 ·simp only[if_pos k3];exact h.two (t':=0) (h2 zO) hR.add
 simp only[if_neg k3]
 by_cases k4:kd=4
 ·simp only[if_pos k4];exact h.two (t':=0) (h2 zO) hR.red
 simp only[if_neg k4]
 by_cases k5:kd=5
 ·simp only[if_pos k5];exact h.two (t':=0) (h2 zO) hR.pro
 simp only[if_neg k5]
 by_cases k7:kd=7
 ·simp only[if_pos k7]
  obtain⟨x,q1,q2⟩:=h.2.2 0 (h1 k7)
  exact(HU.ret (hR.scl x _ q2)).congr fun k hk=>by rw[q1 k hk]
 simp only[if_neg k7]
 obtain⟨x,q1,q2⟩:=h.2.2 0 (by have:=h2 k7;omega)
 obtain⟨y,q3,q4⟩:=h.2.2 1 (by have:=h2 k7;omega)
 have hz:=hR.zero y _ q4
 by_cases h0:(zs.getD 1 []).getD 0 0=0
 ·simp only[if_pos h0]
  exact fun k hk=>by
   show(if List.getD ((xs k).getD 1 []) 0 0=0 then _ else _)=_
   rw[q3 k hk,if_pos ((hz k hk).2 h0)]
 ·simp only[if_neg h0]
  exact(HU.ret (hR.quo x _ y _ q2 q4 h0)).congr fun k hk=>by rw[q3 k hk,q1 k hk,if_neg fun h=>h0 ((hz k hk).1 h)]
theorem Sw (hR:Yl K n nz R){F:Nat}{C:Nat→Ca}{Cz:Ca}(hC:aR K R p F C Cz):∀(z:Nat)(e:Ex),e.size≤z→∀(m:Nat)(env:Nat→List Sr)(ez:List Sr)(s:Nat),wf p ((F:Nat):Int) e ((m:Nat):Int)=true→Kz K R m env ez→HU K R (fun k=>Cn (n k) (C k) e (env k) s) (Cn nz Cz e ez s)
 |0,e,h,_,_,_,_,_,_=>by have:=Cw e;omega
 |z+1,e,h,m,env,ez,s,hw,he=>by
  obtain⟨w1,w2,w3,w4,w5,w6,w7,w8⟩:=CT (CE hw)
  have hz:∀j,j<e.kids.length→(e.kids.getD j Ex.zero).size≤z:=fun j hj=>by
   have:=Cw e;have:=KL hj;omega
  have hk:∀j,j<e.kids.length→¬(e.kind=9∧j=1)→∀t,HU K R (fun k=>Ib (n k) (C k) e.kids j (env k) t) (Ib nz Cz e.kids j ez t):=fun j hj hn t=>by
   simp only[Dw _ _ _ _ _ _ hj]
   exact Sw hR hC z _ (hz j hj) m env ez t (DG hw hj hn) he
  simp only[EE]
  by_cases hs3:3000≤s
  ·simp only[if_pos hs3];exact HU.fail
  simp only[if_neg hs3]
  by_cases k1:e.kind=1
  ·simp only[if_pos k1];exact HU.ret (hR.cst _ (Cm.2 (w8 k1)))
  simp only[if_neg k1]
  by_cases k2:e.kind=2
  ·simp only[if_pos k2];exact he.at (by have:=w2 k2;omega)
  simp only[if_neg k2]
  by_cases k8:e.kind=8
  ·simp only[if_pos k8]
   have h3:=w5 k8
   refine (hk 0 zO zO (s+1)).bind fun x y t hx=>?_
   have hq:=hR.zero x y hx
   by_cases h0:y.getD 0 0=0
   ·simp only[if_pos h0]
    exact(hk 1 zO zO t).congr fun k hk=>by rw[if_pos ((hq k hk).2 h0)]
   ·simp only[if_neg h0]
    exact(hk 2 zO zO t).congr fun k hk=>by rw[if_neg fun h=>h0 ((hq k hk).1 h)]
  simp only[if_neg k8]
  by_cases k9:e.kind=9
  ·simp only[if_pos k9]
   have h3:=w3 zO
   refine (hk 0 zO zO (s+1)).bind fun x y t hx=>?_
   simp only[Dw _ _ _ _ _ _ (show 1<e.kids.length by omega)]
   refine Sw hR hC z _ (hz 1 zO) (m+1) (fun k=>env k++[x k]) (ez++[y]) t ?_<|he.snoc hx
   have:=JA hw zO k9
   rw[Int.natCast_add];exact this
  simp only[if_neg k9]
  have hc:=Sv (n:=n) (C:=C) (nz:=nz) (Cz:=Cz) (env:=env) (ez:=ez) e.kids (fun x hx t=>by
   obtain⟨j,hj,rfl⟩:=List.mem_iff_getElem.1 hx
   have:=hk j hj zO t
   simp only[Dw _ _ _ _ _ _ hj,FF hj]at this
   exact this) (s+1)
  refine hc.bind fun xs zs t hx=>?_
  by_cases k10:e.kind=10
  ·simp only[if_pos k10]
   have h6:=w6<|.inl k10
   exact hC.one _ _ _ xs zs t zO zO hx (by exact h6.2.2.1)
  simp only[if_neg k10]
  by_cases k11:e.kind=11
  ·simp only[if_pos k11]
   have h6:=w6 (.inr k11);have h7:=w7 k11
   have hl:e.kids.length=(p.getD e.num.toNat Fn.zero).outs.length:=by omega
   rw[hl]at hx
   exact (V1 hC (f:=e.num.toNat) zO h7.1 e.count.toNat xs zs t hx).bind fun ys ws u hy=>hy.at zO
  simp only[if_neg k11]
  exact Ym hR hx (fun h7=>by rw[w4 h7];decide) fun h7=>by rw[w3 (by omega)];decide
theorem V2 (hR:Yl K n nz R)(hv:H6 p):∀F,F≤p.length→aR K R p F (fun k=>E8 p (n k) F) (E8 p nz F)
 |0,_=>⟨fun f j m xs zs t h=>by omega,fun f m xs zs t h=>by omega⟩
 |F+1,hF=>by
  have ih:=V2 hR hv F zO
  have hO:∀j m xs zs t,j<(p.getD F Fn.zero).outs.length→Kz K R m xs zs→((m:Nat):Int)=(p.getD F Fn.zero).params→HU K R (fun k=>Cn (n k) (E8 p (n k) F) ((p.getD F Fn.zero).outs.getD j Ex.zero) (xs k) t) (Cn nz (E8 p nz F) ((p.getD F Fn.zero).outs.getD j Ex.zero) zs t):=fun j m xs zs t h2 h3 h4 =>
   Sw hR ih _ _ (A7 _) m xs zs t (by rw[h4];exact hv.wf F zO j h2) h3
  refine⟨fun f j m xs zs t h1 h2 h3 h4=>?_,fun f m xs zs t h1 h3 h4=>?_⟩
  ·show HU K R (fun k=>if f=F then _ else _) (if f=F then _ else _)
   by_cases e:f=F
   ·subst e;simp only[if_true];exact hO j m xs zs t h2 h3 h4
   ·simp only[if_neg e];exact ih.one f j m xs zs t zO h2 h3 h4
  ·show HU K _ (fun k=>if f=F then _ else _) (if f=F then _ else _)
   by_cases e:f=F
   ·subst e;simp only[if_true]
    refine Sv _ (fun e he s=>?_) t
    obtain⟨j,hj,rfl⟩:=List.mem_iff_getElem.1 he
    have:=hO j m xs zs s hj h3 h4
    rwa [FF hj]at this
   ·simp only[if_neg e];exact ih.all f m xs zs t zO h3 h4
theorem aS (hR:Yl K n nz R)(hv:H6 p){f m:Nat}{a:Nat→List Sr}{az:List Sr}(hf:f<p.length)(ha:Kz K R m a az)(hl:((m:Nat):Int)=(p.getD f Fn.zero).params) :
  HU K (Kz K R (p.getD f Fn.zero).outs.length) (fun k=>ev p (n k) f (a k)) (ev p nz f az):=by
 have h:=(V2 hR hv (f+1) zO).all f m a az 0 zO ha hl
 simp only[GG (show f<f+1 by omega)]at h
 exact h
end
end
def Or (f:Nat→Int):Nat→Int
 |0=>0
 |k+1=>Or f k+f k
theorem KA {f g:Nat→Int}:∀K,(∀k,k<K→md (f k)=md (g k))→md (Or f K)=md (Or g K)
 |0,_=>rfl
 |K+1,h=>by
  show md (Or f K+f K)=md (Or g K+g K)
  rw[← DR,KA K (fun k hk=>h k zO),h K zO,DR]
theorem Q4 (A B:Int)(f g:Nat→Int):∀K,Or (fun k=>A*f k+B*g k) K=A*Or f K+B*Or g K
 |0=>by show(0:Int)=A*0+B*0;simp
 |K+1=>by
  show Or _ K+(A*f K+B*g K)=A*(Or f K+f K)+B*(Or g K+g K)
  rw[Q4 A B f g K,Int.mul_add,Int.mul_add];omega
structure Rl (K:Nat)(c:Nat→Int)(x:Nat→Sr)(z:Sr):Prop where
 sz:Cf 2 z
 sx:∀k,k<K→Cf 2 (x k)
 v:∀k,k<K→(x k).getD 0 0=z.getD 0 0
 d:z.getD 1 0=md (Or (fun k=>c k*(x k).getD 1 0) K)
theorem Rl.op {K:Nat}{c:Nat→Int}{xa xb out:Nat→Sr}{za zb oz:Sr}{A B:Int}(ha:Rl K c xa za)(hb:Rl K c xb zb)(hz:Cf 2 oz)(hx:∀k,k<K→Cf 2 (out k))(hv:∀k,k<K→(out k).getD 0 0=oz.getD 0 0)
  (h1:oz.getD 1 0=md (A*za.getD 1 0+B*zb.getD 1 0)) (h2:∀k,k<K→(out k).getD 1 0=md (A*(xa k).getD 1 0+B*(xb k).getD 1 0)):Rl K c out oz:=by
 refine⟨hz,hx,hv,?_⟩
 rw[h1,ha.d,hb.d,← DR,EO,EO,DR,← Q4]
 refine KA K fun k hk=>?_
 rw[h2 k hk,EO]
 congr 1
 rw[Int.mul_add,Int.mul_left_comm,Int.mul_left_comm B]
theorem Ic {a b:Sr}{k:Nat}(h:k<a.length):(Ce a b).getD k 0=md (a.getD k 0+b.getD k 0):=C4 0 h
theorem NV {a b:Sr}{k:Nat}(h:k<a.length):(EP a b).getD k 0=md (a.getD k 0-b.getD k 0):=C4 0 h
theorem Mn {a:Sr}{y:Int}{k:Nat}(h:k<a.length):(Ct a y).getD k 0=md (a.getD k 0*y):=C4 0 h
theorem L3 {a b:Sr}(h:0<a.length):(Cc a b).getD 0 0=md (0+a.getD 0 0*b.getD 0 0):=C4 0 h
theorem V3 {a b:Sr}(h:1<a.length):(Cc a b).getD 1 0=md (md (0+a.getD 0 0*b.getD 1 0)+a.getD 1 0*b.getD 0 0):=C4 0 h
theorem NW {a b:Sr}(h:0<a.length):(BM a b).getD 0 0=md (a.getD 0 0*inv (b.getD 0 0)):=Kn h
theorem V4 {a b:Sr}(h:1<a.length):(BM a b).getD 1 0=md (md (a.getD 1 0-(BM a b).getD 0 0*b.getD 1 0)*inv (b.getD 0 0)):=Kn h
theorem Uf {n:Nat}{c:Int}(h:0<n):(cst n c).getD 0 0=c:=by
 obtain⟨n,rfl⟩:∃k,n=k+1:=⟨n-1,zO⟩
 unfold cst;rw[List.replicate_succ];rfl
theorem V5 (c:Int):(cst 2 c).getD 1 0=0:=rfl
theorem Rl.all (K:Nat)(c:Nat→Int):Yl K (fun _=>2) 2 (Rl K c) where
 zero:=fun x z h k hk=>by rw[h.v k hk]
 cst:=fun a ha=>⟨DT ha,fun _ _=>DT ha,fun _ _=>rfl,by
  have:∀K,Or (fun k=>c k*(Go.Proofs.YtbajepcpgncekaaGreat.cst 2 a).getD 1 0) K=0:=fun K=>by
   induction K with
   |zero=>rfl
   |succ K ih=>show Or _ K+c K*(Go.Proofs.YtbajepcpgncekaaGreat.cst 2 a).getD 1 0=0;rw[ih,V5];simp
  rw[this,V5];rfl⟩
 add:=fun x z y w hx hy=>Rl.op (A:=1) (B:=1) hx hy ⟨by rw[Di];exact hx.sz.1,Gh _ _⟩ (fun k hk=>⟨by rw[Di];exact(hx.sx k hk).1,Gh _ _⟩)
  (fun k hk=>by rw[Ic (by rw[(hx.sx k hk).1];decide),Ic (by rw[hx.sz.1];decide),hx.v k hk,hy.v k hk]) (by rw[Ic (by rw[hx.sz.1];decide),Int.one_mul,Int.one_mul]) (fun k hk=>by rw[Ic (by rw[(hx.sx k hk).1];decide),Int.one_mul,Int.one_mul])
 red:=fun x z y w hx hy=>Rl.op (A:=1) (B:=-1) hx hy ⟨by rw[Hk];exact hx.sz.1,Hl _ _⟩ (fun k hk=>⟨by rw[Hk];exact(hx.sx k hk).1,Hl _ _⟩)
  (fun k hk=>by rw[NV (by rw[(hx.sx k hk).1];decide),NV (by rw[hx.sz.1];decide),hx.v k hk,hy.v k hk]) (by rw[NV (by rw[hx.sz.1];decide)];congr 1;omega) (fun k hk=>by rw[NV (by rw[(hx.sx k hk).1];decide)];congr 1;omega)
 pro:=fun x z y w hx hy=>Rl.op (A:=w.getD 0 0) (B:=z.getD 0 0) hx hy ⟨by rw[Gf];exact hx.sz.1,Fd _ _⟩ (fun k hk=>⟨by rw[Gf];exact(hx.sx k hk).1,Fd _ _⟩)
  (fun k hk=>by rw[L3 (by rw[(hx.sx k hk).1];decide),L3 (by rw[hx.sz.1];decide),hx.v k hk,hy.v k hk])
  (by rw[V3 (by rw[hx.sz.1];decide),MC,Int.zero_add,Int.add_comm,Int.mul_comm (z.getD 1 0)])
  (fun k hk=>by rw[V3 (by rw[(hx.sx k hk).1];decide),MC,Int.zero_add,Int.add_comm,Int.mul_comm ((x k).getD 1 0),hx.v k hk,hy.v k hk])
 scl:=fun x z hx=>Rl.op (A:=1000002) (B:=0) hx hx ⟨by rw[Gg];exact hx.sz.1,Eu _ _⟩ (fun k hk=>⟨by rw[Gg];exact(hx.sx k hk).1,Eu _ _⟩)
  (fun k hk=>by rw[Mn (by rw[(hx.sx k hk).1];decide),Mn (by rw[hx.sz.1];decide),hx.v k hk]) (by rw[Mn (by rw[hx.sz.1];decide)];congr 1;omega) (fun k hk=>by rw[Mn (by rw[(hx.sx k hk).1];decide)];congr 1;omega)
 quo:=fun x z y w hx hy h0=>by
  have hq:∀k,k<K→(BM (x k) (y k)).getD 0 0=(BM z w).getD 0 0:=fun k hk=>by rw[NW (by rw[(hx.sx k hk).1];decide),NW (by rw[hx.sz.1];decide),hx.v k hk,hy.v k hk]
  have hf:∀a q b i:Int,md (md (a-q*b)*i)=md (i*a+(-(q*i))*b):=fun a q b i=>by
   rw[Eg];congr 1
   rw[Int.sub_mul,Int.neg_mul,Int.mul_comm a i,Int.mul_assoc,Int.mul_assoc,Int.mul_comm b i];omega
  exact Rl.op (A:=inv (w.getD 0 0)) (B:=-((BM z w).getD 0 0*inv (w.getD 0 0))) hx hy ⟨by rw[DS];exact hx.sz.1,Et _ _⟩ (fun k hk=>⟨by rw[DS];exact(hx.sx k hk).1,Et _ _⟩) hq
   (by rw[V4 (by rw[hx.sz.1];decide),hf]) (fun k hk=>by rw[V4 (by rw[(hx.sx k hk).1];decide),hf,hq k hk,hy.v k hk])
theorem NX {p:List Fn}(hv:H6 p){n f:Nat}{a:List Sr}(hf:f<p.length)(ha:BV n a)(hl:((a.length:Nat):Int)=(p.getD f Fn.zero).params) :
  (∃x s,ev p n f a=.ok x s∧x.length=(p.getD f Fn.zero).outs.length∧BV n x)∨ev p n f a=.err 6∨ev p n f a=.err 7:=by
 have h:=(St hv n (f+1) zO).all f a 0 zO ha hl zO
 rw[GG (by omega)]at h
 have e:ev p n f a=Df n (E8 p n f) (p.getD f Fn.zero).outs a 0:=rfl
 rw[← e]at h
 cases h2:ev p n f a with
 |err c =>
  rw[h2]at h;have h:c=6∨c=7:=h
  rcases h with rfl|rfl
  ·exact .inr<|.inl rfl
  ·exact .inr<|.inr rfl
 |ok xs s =>
  rw[h2]at h;have h:xs.length=_∧BV n xs∧s≤3000:=h
  exact .inl ⟨xs,s,rfl,h.1,h.2.1⟩
def Ga (a d:List Int)(n:Nat):List Sr:=CC a.length fun i=>(cst n (a.getD i 0)).set 1 (d.getD i 0)
@[simp] theorem Co (a d:List Int)(n:Nat):(Ga a d n).length=a.length:=by simp[Ga]
theorem L4 {a d:List Int}{n k:Nat}(h:k<a.length):(Ga a d n).getD k []=(cst n (a.getD k 0)).set 1 (d.getD k 0):=C4 [] h
theorem FH {a d:List Int}{n:Nat}(ha:B2 a=true)(hd:B2 d=true):BV n (Ga a d n):=fun k hk=>by
 rw[Co]at hk
 rw[L4 hk]
 refine⟨by rw[z6,PF],?_⟩
 have h1:=DT (n:=n)<|Cm.2<|C6 ha k
 unfold B2
 rw[zm]
 intro y hy
 rcases List.mem_or_eq_of_mem_set hy with hy|rfl
 ·have:=h1.2;unfold B2 at this;exact zm.1 this y hy
 ·exact Cm.2<|C6 hd k
def Y1 (p:List Fn)(f:Nat)(a d:List Int):List Sr:=OH p 2 f (Ga a d 2)
def cF (p:List Fn)(f:Nat)(a d:List Int):Int:=Kb p 2 f (Ga a d 2)
def Ug (n:Nat)(ps:List Int):Nat→List Int
 |0=>List.replicate n 0
 |j+1=>(Ug n ps j).set (ps.getD j 0).toNat (md ((Ug n ps j).getD (ps.getD j 0).toNat 0+1))
theorem NY (n:Nat)(ps:List Int):∀j,B2 (Ug n ps j)=true
 |0=>Ho n
 |j+1=>by
  have h:=NY n ps j
  unfold B2 at h ⊢
  rw[zm]at h ⊢
  intro y hy
  rcases List.mem_or_eq_of_mem_set hy with hy|rfl
  ·exact h y hy
  ·exact Cm.2<|C1 _
theorem XA (a d:List Int):(Ga a d 2).map (Dp 1)=CO a:=by
 refine Ue (by rw[zg,Co];unfold CO;rw[zg]) fun k hk=>?_
 rw[zg,Co]at hk
 rw[Ci (d:=[]) (by rw[Co];exact hk),L4 hk]
 unfold CO
 rw[Ci (d:=0) hk]
 rfl
theorem aT (p:List Fn)(f:Nat)(a d:List Int):cF p f a d=G8 p f a:=by
 unfold cF G8
 rw[← Ud p (A7 1) (show 1≤2 by decide),XA]
def eV (n k:Nat):List Int:=Ug n [((k:Nat):Int)] 1
theorem K8 (n j:Nat):(List.replicate n (0:Int)).getD j 0=0:=by
 rw[List.getD_eq_getElem?_getD,List.getElem?_replicate];split <;> rfl
theorem XB {n k j:Nat}(hk:k<n):(eV n k).getD j 0=if k=j then 1 else 0:=by
 show((List.replicate n (0:Int)).set (((k:Nat):Int)).toNat (md ((List.replicate n (0:Int)).getD (((k:Nat):Int)).toNat 0+1))).getD j 0=_
 rw[Int.toNat_natCast,Xz,z5,K8,K8]
 by_cases e:k=j
 ·subst e;rw[if_pos ⟨rfl,hk⟩,if_pos rfl];rfl
 ·rw[if_neg zO,if_neg e]
theorem XC (n k:Nat):B2 (eV n k)=true:=NY _ _ _
theorem Sx {a d:List Int}{i:Nat}(h:i<a.length):((Ga a d 2).getD i []).getD 0 0=a.getD i 0:=by rw[L4 h];rfl
theorem Q5 {a d:List Int}{i:Nat}(h:i<a.length):((Ga a d 2).getD i []).getD 1 0=d.getD i 0:=by rw[L4 h];rfl
theorem XD {p:List Fn}(hv:H6 p){n f:Nat}{a:List Sr}(hf:f<p.length)(ha:BV n a)(hl:((a.length:Nat):Int)=(p.getD f Fn.zero).params)(h0:Kb p n f a=0):∃x t,ev p n f a=.ok x t∧x.length=(p.getD f Fn.zero).outs.length∧BV n x:=by
 rcases NX hv hf ha hl with⟨x,s,h1,h2,h3⟩|h1|h1
 ·exact⟨x,s,h1,h2,h3⟩
 ·rw[Hq h1]at h0;omega
 ·rw[Hq h1]at h0;omega
theorem Sy {p:List Fn}{f:Nat}{a d:List Int}{K:Nat}{D:Nat→List Int}{c:Nat→Int}(hv:H6 p)(hf:f<p.length)(hl:((a.length:Nat):Int)=(p.getD f Fn.zero).params)(hna:B2 a=true)(hnd:B2 d=true)
  (hD:∀k,k<K→B2 (D k)=true) (hc:∀i,i<a.length→d.getD i 0=md (Or (fun k=>c k*(D k).getD i 0) K)) (h0:G8 p f a=0) {r:Nat} (hr:r<(p.getD f Fn.zero).outs.length) :
  ((Y1 p f a d).getD r []).getD 1 0=md (Or (fun k=>c k*((Y1 p f a (D k)).getD r []).getD 1 0) K):=by
 have h:=aS (Rl.all K c) hv (m:=a.length) (a:=fun k=>Ga a (D k) 2) (az:=Ga a d 2) hf
  ⟨Co _ _ _,fun k _=>Co _ _ _,fun i hi=>⟨fun k=>(Ga a (D k) 2).getD i [],fun _ _=>rfl,
   ⟨FH hna hnd i (by rw[Co];exact hi),fun k hk=>FH hna (hD k hk) i (by rw[Co];exact hi),fun k _=>by rw[Sx hi,Sx hi],by
    rw[Q5 hi,hc i hi]
    refine KA K fun k _=>?_
    rw[Q5 hi]⟩⟩⟩ hl
 have hdc:Kb p 2 f (Ga a d 2)=0:=(aT p f a d).trans h0
 obtain⟨z,t,he,_,_⟩:=XD hv hf (FH (n:=2) hna hnd) (by rw[Co];exact hl) hdc
 rw[he]at h
 obtain⟨x,h1,h2⟩:=h
 obtain⟨y,h3,h4⟩:=h2.2.2 r hr
 unfold Y1
 rw[Jb he,h4.d]
 refine KA K fun k hk=>?_
 rw[← h3 k hk,Jb (h1 k hk)]
structure cN (p:List Fn)(f:Nat)(a:List Int):Prop where
 v:H6 p
 lt:f<p.length
 l:((a.length:Nat):Int)=(p.getD f Fn.zero).params
 n:B2 a=true
 z:G8 p f a=0
theorem XE {N:Nat}{a b:Sr}(ha:Cf N a):EN N (Dj (Ce a b)) (fun k=>Dj a k+Dj b k):=fun k hk=>by
 show md ((Ce a b).getD k 0)=_
 rw[Ic (by rw[ha.1];exact hk),Es];rfl
theorem aU {N:Nat}{a:Sr}{y:Int}(ha:Cf N a):EN N (Dj (Ct a y)) (fun k=>y*Dj a k):=fun k hk=>by
 show md ((Ct a y).getD k 0)=_
 rw[Mn (by rw[ha.1];exact hk),Es,Int.mul_comm];rfl
theorem EN.add {N:Nat}{f f' g g':Nat→Int}(hf:EN N f f')(hg:EN N g g'):EN N (fun k=>f k+g k) (fun k=>f' k+g' k):=fun k hk=>by rw[← DR,hf k hk,hg k hk,DR]
section
section str
variable {P:Program} {ops:Array Oper} {w0:World} {Q:Act→World→Prop} {os:List Oper} {ks:List Nat} {N:Nat} {ρ:Nat→Value} {w:World}
 {d:Nat} {ty:TypeId} {pos:String} {aft:Array Edge} {g:Option (Nat×Bool)} {t e:TypeId}
theorem V6 {α:Type}{E:Bi α}(hE:BS E){ys:List α}{b:Nat}{z u0 u1:Value}{x0 x1:Operand}(ht:P.underlying t=some (.slice e))(hi:TI P e 1 z b)(hz:z.cells=#[z])
  (hx0:Bq N ρ x0=u0) (hx1:Bq N ρ x1=u1) (hl:ys.length=2) (hels:els E w.heap [u0,u1] ys [])
  (hu:Up ops N ρ ⟨some d,.buildSlice t 2 #[(0,x0),(1,x1)],ty,pos,aft,g⟩)
  (h:∀v w1,AF w w1→w1.heap.size=w.heap.size+1→Fr (Bh E e) w.heap.size w1.heap.size w1.heap v ys→LW P ops w0 Q os ks (mk N (CD ρ d v)) w1) :
  LW P ops w0 Q (⟨some d,.buildSlice t 2 #[(0,x0),(1,x1)],ty,pos,aft,g⟩::os) (3::ks) (mk N ρ) w:=by
 have hc:=hels.cells1 hE
 have hr:=TC (P:=P) (w:=w) ht hi (hc u0 (by simp)).1 (hc u1 (by simp)).1 hz
 have hrun:(execOp (Bq N ρ) ⟨some d,.buildSlice t 2 #[(0,x0),(1,x1)],ty,pos,aft,g⟩).run P w=.ok (.value (.slice (some ⟨w.heap.size,0,none⟩) 2 2)) (w.alloc (.cells #[u0,u1] e)):=by
  simp only[execOp,zc,zf,zh,Sem.run_bind,hx0,hx1,hr,Result.andThen_ok,Sem.run_pure]
 refine J2 rfl hu _ _ hrun (BB _ _)<|h _ _ (BB _ _) (by simp) ?_
 have hn:=Gz (e:=e) (w:=w) hE (us:=[u0,u1]) (xs:=ys) (F:=[]) (cur:=#[u0,u1]) hels (by simp[maxLen]) (by rw[hl];rfl) (by rw[hl];simp)
 rw[hl]at hn
 refine⟨_,hn,?_,fun c hc=>?_⟩
 ·rw[List.nodup_cons]
  exact⟨fun hm=>(by cases hm),zk⟩
 ·rcases ze.1 hc with rfl|hc
  ·exact⟨A7 _,by simp⟩
  ·cases hc
theorem XF {x:Operand}{u:Value}(hx:Bq N ρ x=u)(hc:u.cells=#[u])(hu:Up ops N ρ ⟨some d,.box t x,ty,pos,aft,g⟩)
  (h:∀w1,AF w w1→w1.heap.size=w.heap.size+1→BX w1.heap w.heap.size [u]→LW P ops w0 Q os ks (mk N (CD ρ d (.pointer (some ⟨w.heap.size,0,none⟩)))) w1) :
  LW P ops w0 Q (⟨some d,.box t x,ty,pos,aft,g⟩::os) (3::ks) (mk N ρ) w:=by
 have hrun:(execOp (Bq N ρ) ⟨some d,.box t x,ty,pos,aft,g⟩).run P w=.ok (.value (.pointer (some ⟨w.heap.size,0,none⟩))) (w.alloc (.cells #[u] t)):=by
  simp[execOp,Instr.box,newVar,newRow,hx,hc]
 refine J2 rfl hu _ _ hrun (BB _ _)<|h _ (BB _ _) (by simp) ⟨t,?_⟩
 have:=heap_alloc_new w (.cells #[u] t)
 simpa using this
end str
theorem Yn {H:Array Obj}{a b:Int}(h0:-9223372036854775808≤a∧a≤9223372036854775807)(h1:-9223372036854775808≤b∧b≤9223372036854775807):els rI H [.int .i64 a,.int .i64 b] [a,b] [] :=
 ⟨[],[],rfl,⟨rfl,rfl,h0⟩,[],[],rfl,⟨rfl,rfl,h1⟩,rfl⟩
end
def dl (i:Nat)(j:Nat):Int:=if i=j then 1 else 0
structure OR (m:Nat)(a:List Int)(X:List Sr):Prop where
 len:X.length=a.length
 ser:∀i,i<a.length→Cf m (X.getD i [])
 at0:∀i,i<a.length→(X.getD i []).getD 0 0=a.getD i 0
section
theorem NZ {α:Type}{P:List α→Prop}(h0:P [])(h1:∀l c,P l→P (l++[c]))(l:List α):P l:=by
 have h:∀l:List α,P l.reverse:=fun l=>by
  induction l with
  |nil=>exact h0
  |cons c l ih=>rw[List.reverse_cons];exact h1 _ _ ih
 have:=h l.reverse
 rwa [List.reverse_reverse]at this
def Fi (m:Nat)(A R:List Sr)(c:AE):Sr :=
 if c.op=1 then A.getD c.num.toNat []else if c.op=3 then Ce (R.getD c.a.toNat []) (R.getD c.b.toNat [])else if c.op=4 then EP (R.getD c.a.toNat []) (R.getD c.b.toNat [])
 else if c.op=5 then Cc (R.getD c.a.toNat []) (R.getD c.b.toNat [])else if c.op=7 then Ct (R.getD c.a.toNat []) 1000002
 else if c.op=6 then BM (R.getD c.a.toNat []) (R.getD c.b.toNat [])else cst m c.num
def B7 (m:Nat)(A:List Sr)(cs:List AE):List Sr:=cs.foldl (fun R c=>R++[Fi m A R c]) []
section
variable {m:Nat} {A:List Sr}
theorem Gn (cs:List AE)(c:AE):B7 m A (cs++[c])=B7 m A cs++[Fi m A (B7 m A cs) c]:=by unfold B7;rw[List.foldl_append];rfl
@[simp] theorem BQ (cs:List AE):(B7 m A cs).length=cs.length:=by
 induction cs using NZ with
 |h0=>rfl
 |h1 l c ih=>rw[Gn,z4,ih,z4];rfl
theorem L5 (cs l:List AE){k:Nat}(hk:k<cs.length):(B7 m A (cs++l)).getD k []=(B7 m A cs).getD k []:=by
 induction l using NZ with
 |h0=>rw[List.append_nil]
 |h1 l c ih=>rw[← List.append_assoc,Gn,H4 (by rw[BQ,z4];omega),ih]
theorem Mo (cs:List AE)(c:AE):(B7 m A (cs++[c])).getD cs.length []=Fi m A (B7 m A cs) c:=by rw[Gn,H5 (by rw[BQ])]
end
def Ey (ni k:Nat)(c:AE):Prop :=
 (c.op=1∧c.a=0∧c.b=0∧0≤c.num∧c.num<((ni:Nat):Int))∨(c.op=2∧c.a=0∧c.b=0∧0≤c.num∧c.num<1000003) ∨
 ((c.op=3∨c.op=4∨c.op=5∨c.op=6)∧(0≤c.a∧c.a<((k:Nat):Int))∧(0≤c.b∧c.b<((k:Nat):Int))∧c.num=0)∨(c.op=7∧(0≤c.a∧c.a<((k:Nat):Int))∧c.b=0∧c.num=0)
theorem Ey.bin {ni k:Nat}{op a b:Int}(h:op=3∨op=4∨op=5∨op=6)(ha:0≤a∧a<((k:Nat):Int))(hb:0≤b∧b<((k:Nat):Int)):Ey ni k ⟨op,a,b,0⟩:=.inr (.inr (.inl ⟨h,ha,hb,rfl⟩))
theorem Ey.neg {ni k:Nat}{a:Int}(ha:0≤a∧a<((k:Nat):Int)):Ey ni k ⟨7,a,0,0⟩:=.inr (.inr (.inr ⟨rfl,ha,rfl,rfl⟩))
structure Ds (m:Nat)(A:List Sr)(T:Tp):Prop where
 cl:T.code.length=T.vals.length
 ser:∀k,k<T.code.length→Cf m ((B7 m A T.code).getD k [])∧((B7 m A T.code).getD k []).getD 0 0=T.vals.getD k 0
 form:∀k,k<T.code.length→Ey A.length k (T.code.getD k AE.zero)
 dv:∀k,k<T.code.length→(T.code.getD k AE.zero).op=6→T.at (T.code.getD k AE.zero).b≠0
 gd:∀k,k<T.grd.length→(0≤(T.grd.getD k Iv.zero).reg∧(T.grd.getD k Iv.zero).reg<((T.vals.length:Nat):Int))∧(T.grd.getD k Iv.zero).z=decide (T.at (T.grd.getD k Iv.zero).reg=0)
def TE (T T':Tp):Prop:=(∃l,T'.code=T.code++l)∧∃l,T'.vals=T.vals++l
theorem TE.refl (T:Tp):TE T T:=⟨⟨[],by simp⟩,[],by simp⟩
theorem TE.trans {T T' T'':Tp}(h:TE T T')(k:TE T' T''):TE T T'':=by
 obtain⟨⟨l,h1⟩,l2,h2⟩:=h
 obtain⟨⟨l3,h3⟩,l4,h4⟩:=k
 exact⟨⟨l++l3,by rw[h3,h1,List.append_assoc]⟩,l2++l4,by rw[h4,h2,List.append_assoc]⟩
theorem TE.put (T:Tp)(c:AE)(v:Int):TE T (T.put c v):=⟨⟨[c],rfl⟩,[v],rfl⟩
theorem TE.guard (T:Tp)(r:Int)(z:Bool):TE T (T.guard r z):=⟨⟨[],by simp[Tp.guard]⟩,[],by simp[Tp.guard]⟩
section
variable {m:Nat} {A:List Sr} {T T':Tp}
theorem TE.reg (h:TE T T'){k:Nat}(hk:k<T.code.length):(B7 m A T'.code).getD k []=(B7 m A T.code).getD k []:=by
 obtain⟨⟨l,h1⟩,_⟩:=h
 rw[h1,L5 _ _ hk]
theorem TE.at (h:TE T T'){r:Int}(hr:0≤r∧r<((T.vals.length:Nat):Int)):T'.at r=T.at r:=by
 obtain⟨_,l,h1⟩:=h
 unfold Tp.at
 rw[h1,H4 (by omega)]
theorem TE.len (h:TE T T'):T.code.length≤T'.code.length∧T.vals.length≤T'.vals.length:=by
 obtain⟨⟨l,h1⟩,l2,h2⟩:=h
 rw[h1,h2,z4,z4];omega
def No (m:Nat)(A:List Sr)(T:Tp)(r:Int)(z:Sr):Prop:=(0≤r∧r<((T.vals.length:Nat):Int))∧z=(B7 m A T.code).getD r.toNat []
def Mp (m:Nat)(A:List Sr)(n:Nat)(T:Tp)(rs:List Int)(zs:List Sr):Prop:=rs.length=n∧zs.length=n∧∀i,i<n→No m A T (rs.getD i 0) (zs.getD i [])
theorem No.mono {r:Int}{z:Sr}(hc:T.code.length=T.vals.length)(h:No m A T r z)(k:TE T T'):No m A T' r z:=by
 have:=k.len
 exact⟨by have:=h.1;omega,by rw[k.reg (by have:=h.1;omega)];exact h.2⟩
theorem Mp.mono {n:Nat}{rs:List Int}{zs:List Sr}(hc:T.code.length=T.vals.length)(h:Mp m A n T rs zs)(k:TE T T'):Mp m A n T' rs zs:=⟨h.1,h.2.1,fun i hi=>(h.2.2 i hi).mono hc k⟩
theorem Mp.snoc {n:Nat}{rs:List Int}{zs:List Sr}{r:Int}{z:Sr}(h:Mp m A n T rs zs)(h1:No m A T r z):Mp m A (n+1) T (rs++[r]) (zs++[z]):=by
 refine⟨by simp[h.1],by simp[h.2.1],fun i hi=>?_⟩
 by_cases e:i=n
 ·rw[H5 (by rw[h.1];exact e),H5 (by rw[h.2.1];exact e)];exact h1
 ·rw[H4 (by rw[h.1];omega),H4 (by rw[h.2.1];omega)];exact h.2.2 i zO
theorem No.at (hI:Ds m A T){r:Int}{z:Sr}(h:No m A T r z):Cf m z∧z.getD 0 0=T.at r:=by
 have:=hI.ser r.toNat (by rw[hI.cl];have:=h.1;omega)
 rw[h.2];exact this
def HV {α β:Type}(m:Nat)(A:List Sr)(T:Tp)(R:Tp→α→β→Prop)(r:Rs (α×Tp))(rz:Rs β):Prop:=match r with
 |.ok x t=>∃z,rz=.ok z t∧Ds m A x.2∧TE T x.2∧R x.2 x.1 z
 |.err c=>rz=.err c
theorem HV.bind {α β α' β':Type}{R:Tp→α→β→Prop}{R':Tp→α'→β'→Prop}{r:Rs (α×Tp)}{rz:Rs β}{g:α×Tp→Nat→Rs (α'×Tp)}{gz:β→Nat→Rs β'}(h:HV m A T R r rz)
  (hg:∀x T' z t,Ds m A T'→TE T T'→R T' x z→HV m A T' R' (g (x,T') t) (gz z t)):HV m A T R' (r.bind g) (rz.bind gz):=by
 cases r with
 |err c=>have h9:rz=.err c:=h;subst h9;exact rfl
 |ok x t =>
  obtain⟨z,h1,h2,h3,h4⟩:=h
  subst h1
  have h5:=hg x.1 x.2 z t h2 h3 h4
  rw[Rs.bind_ok,Rs.bind_ok]
  cases hr:g x t with
  |err c=>rw[hr]at h5;exact h5
  |ok y u =>
   rw[hr]at h5
   obtain⟨v,q1,q2,q3,q4⟩:=h5
   exact⟨v,q1,q2,h3.trans q3,q4⟩
theorem HV.ret {α β:Type}{R:Tp→α→β→Prop}{x:α}{z:β}{t:Nat}(hI:Ds m A T')(hE:TE T T')(h:R T' x z):HV m A T R (.ok (x,T') t) (.ok z t):=⟨z,rfl,hI,hE,h⟩
theorem Ds.put (h:Ds m A T){c:AE}{v:Int}(hs:Cf m (Fi m A (B7 m A T.code) c))(hv:(Fi m A (B7 m A T.code) c).getD 0 0=v)(hf:Ey A.length T.code.length c)(hd:c.op=6→T.at c.b≠0):Ds m A (T.put c v):=by
 have hE:=TE.put T c v
 have hcl:=h.cl
 have key:∀k,k<(T.put c v).code.length→k<T.code.length∨k=T.code.length:=fun k hk=>by rw[OP]at hk;omega
 have cg:∀k,k<T.code.length→(T.put c v).code.getD k AE.zero=T.code.getD k AE.zero:=fun k hk=>H4 hk
 have cn:(T.put c v).code.getD T.code.length AE.zero=c:=H5 rfl
 refine⟨by rw[OP,GJ,hcl],fun k hk=>?_,fun k hk=>?_,fun k hk h6=>?_,fun k hk=>?_⟩
 ·rcases key k hk with hk|rfl
  ·rw[hE.reg hk,show(T.put c v).vals.getD k 0=T.vals.getD k 0 from H4 (by omega)];exact h.ser k hk
  ·rw[show(B7 m A (T.put c v).code).getD T.code.length []=_ from Mo _ _,show(T.put c v).vals.getD T.code.length 0=v from H5 hcl];exact⟨hs,hv⟩
 ·rcases key k hk with hk|rfl
  ·rw[cg k hk];exact h.form k hk
  ·rw[cn];exact hf
 ·rcases key k hk with hk|rfl
  ·rw[cg k hk]at h6 ⊢
   have:=h.form k hk
   unfold Ey at this
   rw[hE.at (by omega)];exact h.dv k hk h6
  ·rw[cn]at h6 ⊢
   unfold Ey at hf
   rw[hE.at (by omega)];exact hd h6
 ·have:=h.gd k hk
  rw[Sc]at hk ⊢
  refine⟨by rw[GJ];omega,?_⟩
  rw[hE.at this.1];exact this.2
theorem Ds.guard (h:Ds m A T){r:Int}(hr:0≤r∧r<((T.vals.length:Nat):Int)):Ds m A (T.guard r (decide (T.at r=0))):=by
 refine⟨h.cl,h.ser,h.form,h.dv,fun k hk=>?_⟩
 rw[NM]at hk
 by_cases e:k<T.grd.length
 ·rw[show(T.guard r (decide (T.at r=0))).grd.getD k Iv.zero=T.grd.getD k Iv.zero from H4 e];exact h.gd k e
 ·rw[show(T.guard r (decide (T.at r=0))).grd.getD k Iv.zero=⟨r,decide (T.at r=0)⟩from H5 (by omega)];exact⟨hr,rfl⟩
theorem HV.put {R:Tp→Int→Sr→Prop}{c:AE}{v:Int}{z:Sr}{t:Nat}(h:Ds m A T)(hz:Fi m A (B7 m A T.code) c=z)(hs:Cf m z)(hv:z.getD 0 0=v)(hf:Ey A.length T.code.length c)(hd:c.op=6→T.at c.b≠0)
  (hR:∀T' r z,No m A T' r z→R T' r z):HV m A T R (.ok (((T.vals.length:Nat):Int),T.put c v) t) (.ok z t):=by
 subst hz
 refine HV.ret (h.put hs hv hf hd) (TE.put T c v)<|hR _ _ _ ⟨by rw[GJ];omega,?_⟩
 rw[Int.toNat_natCast,← h.cl];exact(Mo _ _).symm
theorem Yo (hm:1≤m)(h:Ds m A T){k:Int}{n t:Nat}{rs:List Int}{zs:List Sr}(hr:Mp m A n T rs zs)(hk:3≤k∧k≤7)(h1:k=7→1≤n)(h2:k≠7→2≤n):HV m A T (No m A) (RZ k rs t T) (Kq k zs t):=by
 have hn1:1≤n:=by by_cases e:k=7;exact h1 e;have:=h2 e;omega
 have ha:=hr.2.2 0 zO
 have hA:=ha.at h
 have hal:=hA.1.1
 have hac:=ha.1
 have hcl:=h.cl
 have fin:∀T' r z,No m A T' r z→No m A T' r z:=fun _ _ _ h=>h
 by_cases k7:k=7
 ·subst k7
  rw[Ix (UX rfl),Sb rfl]
  refine HV.put h ?_ ⟨(Gg _ _).trans hal,Eu _ _⟩ ?_ (Ey.neg zO) (fun h6=>absurd (show(7:Int)=6 from h6) (by decide)) fin
  ·rw[ha.2];rfl
  ·rw[Mn zO,hA.2]
   show md (T.at (rs.getD 0 0)*1000002)=md (0-T.at (rs.getD 0 0))
   unfold md;omega
 have hb:=hr.2.2 1<|h2 k7
 have hB:=hb.at h
 have hbl:=hB.1.1
 have hbc:=hb.1
 by_cases k3:k=3
 ·subst k3
  rw[Ix (fun h=>h.1 rfl),GI (by decide)]
  refine HV.put h ?_ ⟨(Di _ _).trans hal,Gh _ _⟩ ?_ (Ey.bin (.inl rfl) zO zO) (fun h6=>absurd (show(3:Int)=6 from h6) (by decide)) fin
  ·rw[ha.2,hb.2];rfl
  ·rw[Ic zO,hA.2,hB.2];rfl
 by_cases k4:k=4
 ·subst k4
  rw[Ix (fun h=>h.2.1 rfl),GI (by decide)]
  refine HV.put h ?_ ⟨(Hk _ _).trans hal,Hl _ _⟩ ?_ (Ey.bin (.inr<|.inl rfl) zO zO) (fun h6=>absurd (show(4:Int)=6 from h6) (by decide)) fin
  ·rw[ha.2,hb.2];rfl
  ·rw[NV zO,hA.2,hB.2];rfl
 by_cases k5:k=5
 ·subst k5
  rw[Ix (fun h=>h.2.2.1 rfl),GI (by decide)]
  refine HV.put h ?_ ⟨(Gf _ _).trans hal,Fd _ _⟩ ?_ (Ey.bin (.inr<|.inr<|.inl rfl) zO zO) (fun h6=>absurd (show(5:Int)=6 from h6) (by decide)) fin
  ·rw[ha.2,hb.2];rfl
  ·rw[L3 zO,hA.2,hB.2,Int.zero_add];rfl
 have k6:k=6:=by omega
 subst k6
 by_cases hz:T.at (rs.getD 1 0)=0
 ·rw[PQ (by rw[GI (by decide)];exact⟨by decide,by decide,by decide,by decide,hz⟩)]
  show Kq 6 zs t=.err 6
  show(if (zs.getD 1 []).getD 0 0=0 then _ else _)=_
  rw[if_pos (by rw[hB.2];exact hz)]
 ·rw[Ix (by rw[GI (by decide)];exact fun h9=>hz h9.2.2.2.2),GI (by decide)]
  have e:Kq 6 zs t=.ok (BM (zs.getD 0 []) (zs.getD 1 [])) t:=by
   show(if (zs.getD 1 []).getD 0 0=0 then _ else _)=_
   rw[if_neg (by rw[hB.2];exact hz)]
  rw[e]
  refine HV.put h ?_ ⟨(DS _ _).trans hal,Et _ _⟩ ?_ (Ey.bin (.inr<|.inr<|.inr rfl) zO zO) (fun _=>hz) fin
  ·rw[ha.2,hb.2];rfl
  ·rw[NW zO,hA.2,hB.2];rfl
end
structure aV (m:Nat)(A:List Sr)(p:List Fn)(F:Nat)(G:Cg)(C:Ca):Prop where
 one:∀f j n T rs zs t,f<F→j<(p.getD f Fn.zero).outs.length→Ds m A T→Mp m A n T rs zs→((n:Nat):Int)=(p.getD f Fn.zero).params→HV m A T (No m A) (G.one f j rs t T) (C.one f j zs t)
 all:∀f n T rs zs t,f<F→Ds m A T→Mp m A n T rs zs→((n:Nat):Int)=(p.getD f Fn.zero).params→HV m A T (Mp m A (p.getD f Fn.zero).outs.length) (G.all f rs t T) (C.all f zs t)
section
variable {m:Nat} {A:List Sr} {p:List Fn}
theorem Sz {G:Cg}{C:Ca}{env:List Int}{ez:List Sr}{n:Nat}:∀(l:List Ex),(∀e∈l,∀s T,Ds m A T→Mp m A n T env ez→HV m A T (No m A) (GY G e env s T) (Cn m C e ez s))→∀s T,Ds m A T→Mp m A n T env ez→HV m A T (Mp m A l.length) (HQ G l env s T) (Df m C l ez s)
 |[],_,s,T,hI,he=>by
  rw[HQ,Df]
  exact HV.ret hI (TE.refl T) ⟨rfl,rfl,fun i hi=>absurd hi<|Nat.not_lt_zero i⟩
 |e::l,h,s,T,hI,he=>by
  rw[HQ,Df]
  refine (h e (by simp) s T hI he).bind fun x T1 z t h1 h2 h3=>?_
  refine (Sz l (fun e' he'=>h e' (by simp[he'])) t T1 h1<|he.mono hI.cl h2).bind fun xs T2 zs u q1 q2 q3=>?_
  refine HV.ret q1 (TE.refl T2) ⟨by simp[q3.1],by simp[q3.2.1],fun i hi=>?_⟩
  cases i with
  |zero=>exact h3.mono h1.cl q2
  |succ i=>exact q3.2.2 i (by simpa using hi)
theorem SA {F f:Nat}{G:Cg}{C:Ca}(hC:aV m A p F G C)(hf:f<F)(ho:(((p.getD f Fn.zero).outs.length:Nat):Int)=(p.getD f Fn.zero).params):∀(c:Nat)(rs:List Int)(zs:List Sr)(t:Nat)(T:Tp),Ds m A T→Mp m A (p.getD f Fn.zero).outs.length T rs zs →
  HV m A T (Mp m A (p.getD f Fn.zero).outs.length) (Iw (G.all f) c rs t T) (HN (C.all f) c zs t)
 |0,rs,zs,t,T,hI,h=>HV.ret hI (TE.refl T) h
 |c+1,rs,zs,t,T,hI,h=>(SA hC hf ho c rs zs t T hI h).bind fun x T1 z u h1 h2 h3=>hC.all f _ T1 x z u hf h1 h3 ho
theorem SB (hm:1≤m){F:Nat}{G:Cg}{C:Ca}(hC:aV m A p F G C):∀(z:Nat)(e:Ex),e.size≤z→∀(n:Nat)(env:List Int)(ez:List Sr)(s:Nat)(T:Tp),wf p ((F:Nat):Int) e ((n:Nat):Int)=true→Ds m A T→Mp m A n T env ez →
  HV m A T (No m A) (GY G e env s T) (Cn m C e ez s)
 |0,e,h,_,_,_,_,_,_,_,_=>by have:=Cw e;omega
 |z+1,e,h,n,env,ez,s,T,hw,hI,he=>by
  obtain⟨w1,w2,w3,w4,w5,w6,w7,w8⟩:=CT (CE hw)
  have hz:∀j,j<e.kids.length→(e.kids.getD j Ex.zero).size≤z:=fun j hj=>by
   have:=Cw e;have:=KL hj;omega
  have hk:∀j,j<e.kids.length→¬(e.kind=9∧j=1)→∀t T',Ds m A T'→Mp m A n T' env ez→HV m A T' (No m A) (OO G e.kids j env t T') (Ib m C e.kids j ez t):=fun j hj hn t T' h1 h2=>by
   rw[Fh _ _ _ _ _ _ hj,Dw _ _ _ _ _ _ hj]
   exact SB hm hC z _ (hz j hj) n env ez t T' (DG hw hj hn) h1 h2
  rw[GH,EE]
  by_cases hs3:3000≤s
  ·rw[if_pos hs3,if_pos hs3];exact rfl
  rw[if_neg hs3,if_neg hs3]
  by_cases k1:e.kind=1
  ·rw[if_pos k1,if_pos k1]
   have:=w8 k1
   exact HV.put hI rfl (DT<|Cm.2 this) (Uf hm) (.inr<|.inl ⟨rfl,rfl,rfl,this⟩) (fun h6=>absurd (show(2:Int)=6 from h6) (by decide)) fun _ _ _ h=>h
  rw[if_neg k1,if_neg k1]
  by_cases k2:e.kind=2
  ·rw[if_pos k2,if_pos k2]
   exact HV.ret hI (TE.refl T)<|he.2.2 _ (by have:=w2 k2;omega)
  rw[if_neg k2,if_neg k2]
  by_cases k8:e.kind=8
  ·rw[if_pos k8,if_pos k8]
   have h3:=w5 k8
   refine (hk 0 zO zO (s+1) T hI he).bind fun x T1 y t h1 h2 hx=>?_
   have hq:=(hx.at h1).2
   have he1:=he.mono hI.cl h2
   dsimp only
   have fin:∀ {r:Rs RI} {rz:Rs Sr} {b:Bool},HV m A (T1.guard x b) (No m A) r rz→HV m A T1 (No m A) r rz:=fun {r rz b} hh=>by
    cases r with
    |err c=>exact hh
    |ok v u=>obtain⟨q,a1,a2,a3,a4⟩:=hh;exact⟨q,a1,a2,(TE.guard T1 x b).trans a3,a4⟩
   have hg:=h1.guard hx.1
   by_cases h0:T1.at x=0
   ·rw[if_pos h0,if_pos (by rw[hq];exact h0)]
    rw[A5 h0]at hg
    exact fin<|hk 1 zO zO t _ hg<|he1.mono h1.cl<|TE.guard T1 x true
   ·rw[if_neg h0,if_neg (by rw[hq];exact h0)]
    rw[A6 h0]at hg
    exact fin<|hk 2 zO zO t _ hg<|he1.mono h1.cl<|TE.guard T1 x false
  rw[if_neg k8,if_neg k8]
  by_cases k9:e.kind=9
  ·rw[if_pos k9,if_pos k9]
   have h3:=w3 zO
   refine (hk 0 zO zO (s+1) T hI he).bind fun x T1 y t h1 h2 hx=>?_
   dsimp only
   rw[Fh _ _ _ _ _ _ (show 1<e.kids.length by omega),Dw _ _ _ _ _ _ (show 1<e.kids.length by omega)]
   refine SB hm hC z _ (hz 1 zO) (n+1) (env++[x]) (ez++[y]) t T1 ?_ h1<|(he.mono hI.cl h2).snoc hx
   have:=JA hw zO k9
   rw[Int.natCast_add];exact this
  rw[if_neg k9,if_neg k9]
  have hc:=Sz (G:=G) (C:=C) (env:=env) (ez:=ez) (n:=n) e.kids (fun x hx t T' h1 h2=>by
   obtain⟨j,hj,rfl⟩:=List.mem_iff_getElem.1 hx
   have:=hk j hj zO t T' h1 h2
   rw[Fh _ _ _ _ _ _ hj,Dw _ _ _ _ _ _ hj,FF hj]at this
   exact this) (s+1) T hI he
  refine hc.bind fun xs T1 zs t h1 h2 hx=>?_
  dsimp only
  by_cases k10:e.kind=10
  ·rw[if_pos k10,if_pos k10]
   have h6:=w6<|.inl k10
   exact hC.one _ _ _ T1 xs zs t zO zO h1 hx (by exact h6.2.2.1)
  rw[if_neg k10,if_neg k10]
  by_cases k11:e.kind=11
  ·rw[if_pos k11,if_pos k11]
   have h6:=w6 (.inr k11);have h7:=w7 k11
   have hl:e.kids.length=(p.getD e.num.toNat Fn.zero).outs.length:=by omega
   rw[hl]at hx
   refine (SA hC (f:=e.num.toNat) zO h7.1 e.count.toNat xs zs t T1 h1 hx).bind fun ys T2 ws u q1 q2 q3=>?_
   exact HV.ret q1 (TE.refl T2)<|q3.2.2 _ zO
  rw[if_neg k11,if_neg k11]
  exact Yo hm h1 hx zO (fun h7=>by rw[w4 h7];decide) fun h7=>by rw[w3 (by omega)];decide
theorem V7 (hm:1≤m)(hv:H6 p):∀F,F≤p.length→aV m A p F (Kc p F) (E8 p m F)
 |0,_=>⟨fun f j n T rs zs t h=>by omega,fun f n T rs zs t h=>by omega⟩
 |F+1,hF=>by
  have ih:=V7 hm hv F zO
  have hO:∀j n T rs zs t,j<(p.getD F Fn.zero).outs.length→Ds m A T→Mp m A n T rs zs→((n:Nat):Int)=(p.getD F Fn.zero).params→HV m A T (No m A) (GY (Kc p F) ((p.getD F Fn.zero).outs.getD j Ex.zero) rs t T) (Cn m (E8 p m F) ((p.getD F Fn.zero).outs.getD j Ex.zero) zs t):=fun j n T rs zs t h2 h1 h3 h4 =>
   SB hm ih _ _ (A7 _) n rs zs t T (by rw[h4];exact hv.wf F zO j h2) h1 h3
  refine⟨fun f j n T rs zs t h1 h2 h0 h3 h4=>?_,fun f n T rs zs t h1 h0 h3 h4=>?_⟩
  ·show HV m A T _ (if f=F then _ else _) (if f=F then _ else _)
   by_cases e:f=F
   ·subst e;rw[if_pos rfl,if_pos rfl];exact hO j n T rs zs t h2 h0 h3 h4
   ·rw[if_neg e,if_neg e];exact ih.one f j n T rs zs t zO h2 h0 h3 h4
  ·show HV m A T _ (if f=F then _ else _) (if f=F then _ else _)
   by_cases e:f=F
   ·subst e;rw[if_pos rfl,if_pos rfl]
    refine Sz (n:=n) _ (fun e he s T' h5 h6=>?_) t T h0 h3
    obtain⟨j,hj,rfl⟩:=List.mem_iff_getElem.1 he
    have:=hO j n T' rs zs s hj h5 h6 h4
    rwa [FF hj]at this
   ·rw[if_neg e,if_neg e];exact ih.all f n T rs zs t zO h0 h3 h4
theorem V8 {a:List Int}(hn:B2 a=true)(hA:OR m a A):∀k,k≤a.length→Ds m A (Jd a k)
 |0,_=>⟨rfl,fun k hk=>absurd hk (Nat.not_lt_zero k),fun k hk=>absurd hk (Nat.not_lt_zero k),fun k hk=>absurd hk (Nat.not_lt_zero k),fun k hk=>absurd hk (Nat.not_lt_zero k)⟩
 |k+1,h=>by
  have e:Fi m A (B7 m A (Jd a k).code) ⟨1,0,0,((k:Nat):Int)⟩=A.getD k []:=by
   show A.getD (((k:Nat):Int)).toNat []=_
   rw[Int.toNat_natCast]
  refine (V8 hn hA k zO).put ?_ ?_ (.inl ⟨rfl,rfl,rfl,Int.natCast_nonneg k,by rw[hA.len];exact Int.ofNat_lt.2 h⟩) fun h6=>absurd (show(1:Int)=6 from h6) (by decide)
  ·rw[e];exact hA.ser k h
  ·rw[e];exact hA.at0 k h
theorem Yp {a:List Int}(hA:OR m a A):Mp m A a.length (Jd a a.length) (GZ a.length) A:=by
 have hr:∀k,k≤a.length→∀j,j<k→(B7 m A (Jd a k).code).getD j []=A.getD j []:=fun k=>by
  induction k with
  |zero=>exact fun _ j hj=>absurd hj (Nat.not_lt_zero j)
  |succ k ih =>
   intro hk j hj
   show(B7 m A ((Jd a k).code++[_])).getD j []=_
   rw[Gn]
   by_cases e:j=k
   ·rw[H5 (by rw[BQ,MQ];exact e),e]
    show A.getD (((k:Nat):Int)).toNat []=_
    rw[Int.toNat_natCast]
   ·rw[H4 (by rw[BQ,MQ];omega)];exact ih zO j zO
 refine⟨Gm _,hA.len,fun i hi=>?_⟩
 rw[NN hi]
 exact⟨by rw[JI];omega,by rw[Int.toNat_natCast,hr _ (A7 _) i hi]⟩
theorem Q6 {a:List Int}{f:Nat}(hm:1≤m)(hv:H6 p)(hf:f<p.length)(hn:B2 a=true)(hA:OR m a A)(hl:((a.length:Nat):Int)=(p.getD f Fn.zero).params) :
  HV m A (Jd a a.length) (Mp m A (p.getD f Fn.zero).outs.length) (MR p f a) (ev p m f A):=by
 have h:=(V7 (A:=A) hm hv (f+1) zO).all f a.length (Jd a a.length) (GZ a.length) A 0 zO (V8 hn hA _<|A7 _) (Yp hA) hl
 rw[MO (show f<f+1 by omega),GG (show f<f+1 by omega)]at h
 exact h
theorem O0 {a:List Int}{f:Nat}(hm:1≤m)(hv:H6 p)(hf:f<p.length)(hn:B2 a=true)(hA:OR m a A)(hl:((a.length:Nat):Int)=(p.getD f Fn.zero).params){xs:List Int}{T:Tp}{s:Nat}{c:Int}(h:AH (MR p f a) (xs,T) s c):Kb p m f A=c:=by
 have hT:=Q6 hm hv hf hn hA hl
 cases hr:MR p f a with
 |err d =>
  rw[hr]at h hT
  have h9:ev p m f A=.err d:=hT
  rw[Hq h9];exact h.1.symm
 |ok x t =>
  rw[hr]at h hT
  obtain⟨z,h1,_⟩:=hT
  rw[KS h1];exact h.2.2.symm
theorem SD {a:List Int}{f:Nat}(hm:1≤m)(hv:H6 p)(hf:f<p.length)(hn:B2 a=true)(hA:OR m a A)(hl:((a.length:Nat):Int)=(p.getD f Fn.zero).params){xs:List Int}{T:Tp}{s:Nat}{c:Int}(h:AH (MR p f a) (xs,T) s c)(hc:c=0) :
  Ds m A T∧OH p m f A=xs.map fun r=>(B7 m A T.code).getD r.toNat []:=by
 have hT:=Q6 hm hv hf hn hA hl
 subst hc
 have hr:=h.ok
 rw[hr]at hT
 obtain⟨z,h1,h2,h3,h4⟩:=hT
 refine⟨h2,?_⟩
 rw[Jb h1]
 refine Ue (by rw[h4.2.1,zg,h4.1]) fun i hi=>?_
 rw[h4.2.1]at hi
 rw[Ci (d:=0) (by rw[h4.1];exact hi)]
 exact (h4.2.2 i hi).2
end
end
section
def L6 (m:Nat)(A:List Sr)(cs:List AE)(k:Nat):Prop:=∀j,j<k→(cs.getD j AE.zero).op=6→((B7 m A (cs.take j)).getD (cs.getD j AE.zero).b.toNat []).getD 0 0≠0
section
variable {m k:Nat} {A R:List Sr} {cs:List AE} {c:AE}
theorem Dt (hk:k<cs.length):B7 m A (cs.take (k+1))=B7 m A (cs.take k)++[Fi m A (B7 m A (cs.take k)) (cs.getD k AE.zero)]:=by
 rw[Dq AE.zero hk,Gn]
theorem MT (h:c.op=1):Fi m A R c=A.getD c.num.toNat []:=if_pos h
theorem L7 (h:c.op=3):Fi m A R c=Ce (R.getD c.a.toNat []) (R.getD c.b.toNat []):=by unfold Fi;rw[if_neg zO,if_pos h]
theorem L8 (h:c.op=4):Fi m A R c=EP (R.getD c.a.toNat []) (R.getD c.b.toNat []):=by unfold Fi;rw[if_neg zO,if_neg zO,if_pos h]
theorem L9 (h:c.op=5):Fi m A R c=Cc (R.getD c.a.toNat []) (R.getD c.b.toNat []):=by unfold Fi;rw[if_neg zO,if_neg zO,if_neg zO,if_pos h]
theorem La (h:c.op=7):Fi m A R c=Ct (R.getD c.a.toNat []) 1000002:=by unfold Fi;rw[if_neg zO,if_neg zO,if_neg zO,if_neg zO,if_pos h]
theorem Lb (h:c.op=6):Fi m A R c=BM (R.getD c.a.toNat []) (R.getD c.b.toNat []):=by unfold Fi;rw[if_neg zO,if_neg zO,if_neg zO,if_neg zO,if_neg zO,if_pos h]
theorem Lc (h:c.op≠1∧c.op≠3∧c.op≠4∧c.op≠5∧c.op≠7∧c.op≠6):Fi m A R c=cst m c.num:=by
 unfold Fi;rw[if_neg h.1,if_neg h.2.1,if_neg h.2.2.1,if_neg h.2.2.2.1,if_neg h.2.2.2.2.1,if_neg h.2.2.2.2.2]
theorem SE (hA:BV m A)(hR:BV m R)(hl:R.length=k)(h:Ey A.length k c):Cf m (Fi m A R c):=by
 have hg:∀x:Int,0≤x→x<((k:Nat):Int)→Cf m (R.getD x.toNat []):=fun x h0 h1=>hR _ zO
 rcases h with⟨h1,_,_,h2,h3⟩|⟨h1,_,_,h2,h3⟩|⟨h1,h2,h3,_⟩|⟨h1,h2,_⟩
 ·rw[MT h1];exact hA _ zO
 ·rw[Lc (by omega)];exact DT (Cm.2 ⟨h2,h3⟩)
 ·have ha:=hg c.a h2.1 h2.2
  rcases h1 with h1|h1|h1|h1
  ·rw[L7 h1];exact Gk ha
  ·rw[L8 h1];exact KP ha
  ·rw[L9 h1];exact Gl ha
  ·rw[Lb h1];exact Ff ha
 ·rw[La h1];exact KQ (hg c.a h2.1 h2.2)
theorem Uh (h:BV m (B7 m A (cs.take k)))(hA:BV m A)(hf:Ey A.length k (cs.getD k AE.zero))(hk:k<cs.length):BV m (B7 m A (cs.take (k+1))):=by
 rw[Dt hk]
 exact BV.snoc h<|SE hA h (by rw[BQ,List.length_take];omega) hf
theorem XG:L6 m A cs 0:=fun j hj=>absurd hj (Nat.not_lt_zero j)
theorem Ui (h:L6 m A cs k)(hk:(cs.getD k AE.zero).op≠6):L6 m A cs (k+1):=fun j hj h6=>by
 by_cases e:j=k
 ·subst e;exact absurd h6 hk
 ·exact h j zO h6
theorem Uj (h:L6 m A cs k)(hk:((B7 m A (cs.take k)).getD (cs.getD k AE.zero).b.toNat []).getD 0 0≠0):L6 m A cs (k+1):=fun j hj h6=>by
 by_cases e:j=k
 ·subst e;exact hk
 ·exact h j zO h6
theorem SF {n:Nat}(hk:k<n)(h6:(cs.getD k AE.zero).op=6)(hz:((B7 m A (cs.take k)).getD (cs.getD k AE.zero).b.toNat []).getD 0 0=0):¬L6 m A cs n:=fun h=>h k hk h6 hz
end
theorem Ds.nz {m:Nat}{A:List Sr}{T:Tp}(h:Ds m A T):L6 m A T.code T.code.length:=fun j hj h6=>by
 have hf:=h.form j hj
 have hd:=h.dv j hj h6
 unfold Ey at hf
 have hb:(T.code.getD j AE.zero).b.toNat<j:=by omega
 have hs:=(h.ser (T.code.getD j AE.zero).b.toNat zO).2
 have e:(B7 m A (T.code.take j)).getD (T.code.getD j AE.zero).b.toNat []=(B7 m A T.code).getD (T.code.getD j AE.zero).b.toNat []:=by
  have h9:=L5 (m:=m) (A:=A) (T.code.take j) (T.code.drop j) (k:=(T.code.getD j AE.zero).b.toNat) (by rw[List.length_take];omega)
  rw[List.take_append_drop]at h9
  exact h9.symm
 rw[e,hs]
 exact hd
section io
variable {ni k:Nat} {c:AE}
theorem Ey.i1 (h:Ey ni k c)(h1:c.op=1):(0≤c.num∧c.num<((ni:Nat):Int)):=by unfold Ey at h;omega
theorem Ey.i2 (h:Ey ni k c)(h1:3≤c.op∧c.op≤6):(0≤c.a∧c.a<((k:Nat):Int))∧(0≤c.b∧c.b<((k:Nat):Int)):=by unfold Ey at h;omega
theorem Ey.i7 (h:Ey ni k c)(h1:c.op=7):(0≤c.a∧c.a<((k:Nat):Int)):=by unfold Ey at h;omega
end io
theorem MU {S:List Nat}{H:Array Obj}{cs:List Value}{x:AE}(h:RN S On H cs x):cs=ZS x∧RW x:=by
 obtain⟨F,h,_⟩:=h
 exact⟨h.1,h.2.1⟩
theorem XH {S:List Nat}{H:Array Obj}{cs:List Value}{x:Iv}(h:RN S Oo H cs x):cs=ZT x∧Bx x.reg:=by
 obtain⟨F,h,_⟩:=h
 exact⟨h.1,h.2.1⟩
def Yq (m:Nat)(A:List Sr)(cs:List AE)(c:Int):Prop:=(c=0∧L6 m A cs cs.length)∨(c=6∧¬L6 m A cs cs.length)
end
section
def ER (B:List Sr)(r:Int)(s:Sr):List Sr:=B.set r.toNat (Ce (B.getD r.toNat []) s)
def Mq (cs:List AE)(R:List Sr)(k:Nat)(B:List Sr):List Sr :=
 if (cs.getD k AE.zero).op=3 then ER (ER B (cs.getD k AE.zero).a (B.getD k [])) (cs.getD k AE.zero).b (B.getD k [])
 else if (cs.getD k AE.zero).op=4 then ER (ER B (cs.getD k AE.zero).a (B.getD k [])) (cs.getD k AE.zero).b (Ct (B.getD k []) 1000002)
 else if (cs.getD k AE.zero).op=5 then ER (ER B (cs.getD k AE.zero).a (Cc (B.getD k []) (R.getD (cs.getD k AE.zero).b.toNat []))) (cs.getD k AE.zero).b (Cc (B.getD k []) (R.getD (cs.getD k AE.zero).a.toNat []))
 else if (cs.getD k AE.zero).op=6 then ER (ER B (cs.getD k AE.zero).a (BM (B.getD k []) (R.getD (cs.getD k AE.zero).b.toNat []))) (cs.getD k AE.zero).b (Ct (Cc (BM (B.getD k []) (R.getD (cs.getD k AE.zero).b.toNat [])) (R.getD k [])) 1000002)
 else if (cs.getD k AE.zero).op=7 then ER B (cs.getD k AE.zero).a (Ct (B.getD k []) 1000002)else B
def QZ (cs:List AE)(R:List Sr):Nat→List Sr→List Sr
 |0,B=>B
 |k+1,B=>QZ cs R k (Mq cs R k B)
def LJ (os:List Int)(ws:List Int):Nat→List Sr→List Sr
 |0,B=>B
 |k+1,B=>(LJ os ws k B).set (os.getD k 0).toNat (((LJ os ws k B).getD (os.getD k 0).toNat []).set 0 (md (((LJ os ws k B).getD (os.getD k 0).toNat []).getD 0 0+ws.getD k 0)))
def Jg (R:List Sr):List Sr:=R.map fun s=>List.replicate s.length 0
def Jh (cs:List AE)(R:List Sr)(os ws:List Int):List Sr:=QZ cs R cs.length (LJ os ws os.length (Jg R))
section
variable {m:Nat} {cs:List AE} {R B:List Sr} {os ws:List Int}
theorem GL (h:BV m R):BV m (Jg R):=fun k hk=>by
 have hk':k<R.length:=by unfold Jg at hk;simpa using hk
 have e:(Jg R).getD k []=List.replicate (R.getD k []).length 0:=by unfold Jg;simp[List.getD_eq_getElem?_getD,List.getElem?_map,hk']
 rw[e]
 exact⟨by rw[z5];exact(h k hk').1,Ho _⟩
@[simp] theorem CU:(Jg R).length=R.length:=by simp[Jg]
@[simp] theorem DY (k:Nat):(LJ os ws k B).length=B.length:=by
 induction k with
 |zero=>rfl
 |succ k ih=>show((LJ os ws k B).set _ _).length=_;rw[z6,ih]
theorem BV.set {k:Nat}{s:Sr}(h:BV m B)(hs:Cf m s):BV m (B.set k s):=fun j hj=>by
 rw[z6]at hj
 by_cases e:j=k
 ·rw[e,Dx _ _ _ _ _ zO,if_pos rfl];exact hs
 ·rw[show(B.set k s).getD j []=B.getD j []from by rw[List.getD_eq_getElem?_getD,List.getElem?_set_ne (fun h=>e h.symm),← List.getD_eq_getElem?_getD]];exact h j hj
theorem JL {s:Sr}{y:Int}(h:B2 s=true)(hy:0≤y∧y<1000003):B2 (s.set 0 y)=true:=by
 cases s with
 |nil=>rfl
 |cons x s =>
  rw[List.set_cons_zero]
  unfold B2 at h ⊢
  rw[List.all_cons]at h ⊢
  have:=Bool.and_eq_true_iff.1 h
  rw[this.2,Bool.and_true]
  exact Cm.2 hy
theorem HW (h:BV m B)(ho:∀k,k<os.length→(os.getD k 0).toNat<B.length):∀k,k≤os.length→BV m (LJ os ws k B)
 |0,_=>h
 |k+1,hk=>by
  have ih:=HW h ho k zO
  have h9:=ih (os.getD k 0).toNat (by rw[DY];exact ho k zO)
  exact ih.set ⟨by rw[z6];exact h9.1,JL h9.2<|C1 _⟩
@[simp] theorem BJ {r:Int}{s:Sr}:(ER B r s).length=B.length:=by unfold ER;rw[z6]
theorem CV {r:Int}{s:Sr}(h:BV m B)(hr:r.toNat<B.length):BV m (ER B r s):=h.set (Gk (h _ hr))
theorem KB (k:Nat):(Mq cs R k B).length=B.length:=by
 unfold Mq
 split
 ·rw[BJ,BJ]
 ·split
  ·rw[BJ,BJ]
  ·split
   ·rw[BJ,BJ]
   ·split
    ·rw[BJ,BJ]
    ·split
     ·rw[BJ]
     ·rfl
theorem GM {ni k:Nat}(h:BV m B)(hk:k≤B.length)(hf:Ey ni k (cs.getD k AE.zero)):BV m (Mq cs R k B):=by
 have h2:=fun h9=>hf.i2 h9
 have h7:=fun h9=>hf.i7 h9
 unfold Mq
 split
 ·have:=h2 (by omega);exact CV (CV h zO) (by rw[BJ];omega)
 ·split
  ·have:=h2 (by omega);exact CV (CV h zO) (by rw[BJ];omega)
  ·split
   ·have:=h2 (by omega);exact CV (CV h zO) (by rw[BJ];omega)
   ·split
    ·have:=h2 (by omega);exact CV (CV h zO) (by rw[BJ];omega)
    ·split
     ·have:=h7 (by omega);exact CV h zO
     ·exact h
theorem Q7:∀(n:Nat)(B:List Sr),(QZ cs R n B).length=B.length
 |0,_=>rfl
 |n+1,B=>by show(QZ cs R n _).length=_;rw[Q7 n,KB]
theorem Q8 {ni:Nat}(hf:∀k,k<cs.length→Ey ni k (cs.getD k AE.zero)):∀(n:Nat)(B:List Sr),n≤cs.length→n≤B.length→BV m B→BV m (QZ cs R n B)
 |0,_,_,_,h=>h
 |n+1,B,hn,hb,h=>Q8 hf n _ zO (by rw[KB];omega) (GM h zO (hf n zO))
theorem O1 {k:Nat}(h:(cs.getD k AE.zero).op=3):Mq cs R k B=ER (ER B (cs.getD k AE.zero).a (B.getD k [])) (cs.getD k AE.zero).b (B.getD k []):=if_pos h
theorem O2 {k:Nat}(h:(cs.getD k AE.zero).op=4):Mq cs R k B=ER (ER B (cs.getD k AE.zero).a (B.getD k [])) (cs.getD k AE.zero).b (Ct (B.getD k []) 1000002):=by unfold Mq;rw[if_neg zO,if_pos h]
theorem O3 {k:Nat}(h:(cs.getD k AE.zero).op=5):Mq cs R k B=ER (ER B (cs.getD k AE.zero).a (Cc (B.getD k []) (R.getD (cs.getD k AE.zero).b.toNat []))) (cs.getD k AE.zero).b (Cc (B.getD k []) (R.getD (cs.getD k AE.zero).a.toNat [])):=by unfold Mq;rw[if_neg zO,if_neg zO,if_pos h]
theorem O4 {k:Nat}(h:(cs.getD k AE.zero).op=6):Mq cs R k B=ER (ER B (cs.getD k AE.zero).a (BM (B.getD k []) (R.getD (cs.getD k AE.zero).b.toNat []))) (cs.getD k AE.zero).b (Ct (Cc (BM (B.getD k []) (R.getD (cs.getD k AE.zero).b.toNat [])) (R.getD k [])) 1000002):=by
 unfold Mq;rw[if_neg zO,if_neg zO,if_neg zO,if_pos h]
theorem O5 {k:Nat}(h:(cs.getD k AE.zero).op=7):Mq cs R k B=ER B (cs.getD k AE.zero).a (Ct (B.getD k []) 1000002):=by unfold Mq;rw[if_neg zO,if_neg zO,if_neg zO,if_neg zO,if_pos h]
theorem O6 {k:Nat}(h:(cs.getD k AE.zero).op<3∨7<(cs.getD k AE.zero).op):Mq cs R k B=B:=by unfold Mq;rw[if_neg zO,if_neg zO,if_neg zO,if_neg zO,if_neg (by omega)]
theorem Gp {n k:Nat}{D B':List Sr}(h:QZ cs R n B=D)(hn:n=k+1)(hi:Mq cs R k B=B'):QZ cs R k B'=D:=by
 subst hn
 rw[← hi];exact h
end
theorem MV {e:TypeId}{H:Array Obj}{v:Value}{us:List Value}{F:List Nat}(h:Bh rV e H v us F)(hl:0<us.length):∃g cap,F=[g]∧v=.slice (some ⟨g,0,none⟩) us.length cap∧∀k,k<us.length→Hf H (Ay v k 1)=some (us.getD k undef):=by
 rcases h with⟨_,rfl,_⟩|⟨vs,g,cap,cur,F',hels,rfl,hg,r1,r2,r3,r4,rfl⟩
 ·simp at hl
 ·obtain⟨rfl,rfl⟩:=EM hels
  refine⟨g,cap,rfl,rfl,fun k hk=>?_⟩
  have hu:vs[k]? = some (vs.getD k undef):=by simp[List.getD_eq_getElem?_getD,hk]
  rw[Gy]
  simp only[Hf,BP,hg,Nat.zero_add]
  rw[← r4,List.getElem?_take,if_pos hk]at hu
  rw[r4]at hu
  simpa using hu
section
variable {e:TypeId} {B:Nat} {w w':World} {v:Value} {xs:List (List Int)} {us:List Value} {F:List Nat}
theorem Hi.getF {S:List Nat}{H:Array Obj}(h:Hi e S B H v xs us F){k:Nat}(hk:k<xs.length):∃u,Hf H (Ay v k 1)=some u∧RN (S++F) (B3 rI) H u (xs.getD k []):=by
 obtain⟨g,cap,_,_,h3⟩:=MV h.own (by rw[h.len];omega)
 exact⟨_,h3 k (by rw[h.len];exact hk),h.els k hk⟩
theorem Hi.ofFr {S:List Nat}{e1:TypeId}{U:Nat}{H:Array Obj}(h:Fr (Bh (Bh rI e1) e) B U H v xs)(hS:∀b∈S,b<B):∃us F,Hi e S B H v xs us F∧∀b∈F,b<U:=by
 obtain⟨F,h1,h2,h3⟩:=h
 rcases h1 with⟨rfl,rfl,rfl⟩|⟨us,g,cap,cur,F',hels,rfl,hg,r1,r2,r3,r4,rfl⟩
 ·exact⟨[],[],⟨.inl ⟨rfl,rfl,rfl⟩,zk,(fun b hb=>absurd hb z2),rfl,(fun k hk=>absurd hk (Nat.not_lt_zero k))⟩,(fun b hb=>absurd hb z2)⟩
 ·have hl:=hels.length
  have hn:=List.nodup_cons.1 h2
  refine⟨us,[g],⟨.inr ⟨us,g,cap,cur,[],KK (hels.cells1 o1),by rw[hl],hg,zO,r2,r3,by rw[hl];exact r4,rfl⟩,by simp,fun b hb=>?_,hl,fun k hk=>?_⟩,fun b hb=>?_⟩
  ·have:=h3 b (by rw[A9 hb];exact z0 ..);omega
  ·obtain⟨u,G,hu,q1,q2,q3,_⟩:=hels.at_ (k:=k) [] hk hn.2
   have e1:us.getD k undef=u:=by simp[List.getD_eq_getElem?_getD,hu]
   rw[e1]
   exact⟨G,q1.rd id,fun b hb hm=>by
    have hb':=q3 b hb
    rcases zi.1 hm with hm|hm
    ·have h8:=hS b hm
     have h9:=(h3 b<|z3 _ hb').1
     omega
    ·rw[A9 hm]at hb'
     exact hn.1 hb'⟩
  ·exact (h3 b (by rw[A9 hb];exact z0 ..)).2
end
section ops
variable {P:Program} {ops:Array Oper} {w0:World} {Q:Act→World→Prop} {os:List Oper} {ks:List Nat} {N:Nat} {ρ:Nat→Value} {w:World}
 {d:Nat} {ty:TypeId} {pos:String} {aft:Array Edge} {g:Option (Nat×Bool)} {t e:TypeId} {z:Value} {b:Nat}
theorem SG {S:List Nat}{st:TypeId}{x y:Operand}{v u:Value}{xs:List (List Int)}{r:List Int}{us:List Value}{F:List Nat}{B j:Nat}(hst:(P.info? st).map (·.size)=some 1)(hx:Bq N ρ x=Ay v j 1)(hy:Bq N ρ y=u)
  (hv:Hi e S B w.heap v xs us F) (hr:RN (S++F) (B3 rI) w.heap u r) (hj:j<xs.length) (hu:Up ops N ρ ⟨none,.store st x y,ty,pos,aft,g⟩)
  (h:∀w1,Au F w w1→w1.heap.size=w.heap.size→Hi e S B w1.heap v (xs.set j r) (us.set j u) F→LW P ops w0 Q os ks (mk N ρ) w1) :
  LW P ops w0 Q (⟨none,.store st x y,ty,pos,aft,g⟩::os) (4::ks) (mk N ρ) w:=by
 obtain⟨g0,cap,hF,hvv,_⟩:=MV hv.own (by rw[hv.len];omega)
 have hone:=hr.one1 g1
 obtain⟨w1,F',q1,q2,q3,q4,q5,q6⟩:=Pk (P:=P) By hst hv.own hv.nd (by rw[hv.len];exact hj) (u:=u) (y:=u) (G:=[]) ⟨rfl,rfl,hone.1,hone.2⟩ zk (fun b hb=>by cases hb)
 obtain⟨g2,cap2,hF2,hvv2,_⟩:=MV q2 (by rw[z6,hv.len];omega)
 have hg:g2=g0:=by
  rw[hvv]at hvv2
  injection hvv2 with h1 _ _
  injection h1 with h1
  injection h1 with h1 _ _
  exact h1.symm
 have hFF:F'=F:=by rw[hF2,hF,hg]
 subst hFF
 have hc:Au F' w w1:=q5.sub fun x hx=>zj hx
 refine R5 rfl hu w1 (GB hx hy q1)<|h w1 hc q6 ⟨q2,hv.nd,hv.low,by rw[z6,z6];exact hv.len,fun k hk=>?_⟩
 rw[z6]at hk
 have hku:k<us.length:=by rw[hv.len];exact hk
 rw[Dx _ _ _ _ _ (by rw[hv.len];exact hj),Dx _ _ _ _ _ hj]
 have hcS:Au (S++F') w w1:=hc.sub fun b hb=>z1 _ hb
 by_cases ek:k=j
 ·rw[if_pos ek,if_pos ek];exact hr.chg g1 hcS
 ·rw[if_neg ek,if_neg ek]
  exact (hv.els k hk).chg g1 hcS
theorem Uk {st e':TypeId}{x y:Operand}{v u:Value}{n:Int}{xs:List (List Int)}{B T r j:Nat}{F:List Nat}(hst:(P.info? st).map (·.size)=some 1)(hx:Bq N ρ x=Ay u j 1)(hy:Bq N ρ y=.int .i64 n)(hn:-9223372036854775808≤n∧n≤9223372036854775807)
  (hv:Ow (Bh (Bh rI e) e') B T w.heap v xs F) (hr:r<xs.length) (hl:Hf w.heap (Ay v r 1)=some u) (hj:j<(xs.getD r []).length) (hu:Up ops N ρ ⟨none,.store st x y,ty,pos,aft,g⟩)
  (h:∀w1 G,Au G w w1→w1.heap.size=w.heap.size→(∀c∈G,c∈F)→Ow (Bh (Bh rI e) e') B T w1.heap v (xs.set r ((xs.getD r []).set j n)) F→LW P ops w0 Q os ks (mk N ρ) w1) :
  LW P ops w0 Q (⟨none,.store st x y,ty,pos,aft,g⟩::os) (4::ks) (mk N ρ) w:=by
 obtain⟨hown,hnd,hlow,hhigh⟩:=hv
 rcases hown with⟨_,rfl,_⟩|⟨us,g0,cap,cur,F',hels,rfl,hg,r1,r2,r3,r4,rfl⟩
 ·simp at hr
 ·have hc:=List.nodup_cons.1 hnd
  obtain⟨u',G,q0,q1,q2,q3,q4⟩:=hels.at_ (k:=r) [] hr hc.2
  have hlen:=hels.length
  have hu':u'=u:=by
   rw[Gy]at hl
   simp only[Hf,BP,hg,Nat.zero_add]at hl
   rw[← r4,List.getElem?_take,if_pos hr]at q0
   have:some u'=some u:=by rw[← q0,← hl];simp
   exact Option.some.inj this
  subst hu'
  obtain⟨w1,p1,p2,p3,p4⟩:=Rb (P:=P) hst q1 q2 hj hn
  have hgG:g0∉G:=fun hm=>hc.1 (q3 g0 hm)
  refine R5 rfl hu w1 (GB hx hy p1)<|h w1 G p3 p4 (fun c hm=>z3 _<|q3 c hm) ⟨.inr ⟨us,g0,cap,cur,F',?_,by rw[z6],?_,by rw[z6];exact r1,r2,r3,by rw[z6];exact r4,rfl⟩,hnd,hlow,hhigh⟩
  ·exact q4 (fun hE hC=>o1.stable hE fun b hb=>p3.block b (o1.lt hE b hb) (hC b hb).2) p2
  ·have hlt:g0<w.heap.size:=(Array.getElem?_eq_some_iff.1 hg).1
   rw[p3.block g0 hlt hgG];exact hg
end ops
section
variable {e1 e:TypeId} {B T:Nat} {w:World} {v:Value} {xs:List (List Int)} {F:List Nat}
theorem Ow.rowO (h:Ow (Bh (Bh rI e1) e) B T w.heap v xs F){k:Nat}(hk:k<xs.length):∃u,Hf w.heap (Ay v k 1)=some u∧Rd (B3 rI) w.heap u (xs.getD k []):=by
 obtain⟨u,G,q0,q1,_⟩:=h.fr.row o1 [] hk
 exact⟨u,q0,G,q1.rd id⟩
theorem Ow.slO {H:Array Obj}(h:Ow (Bh (Bh rI e1) e) B T H v xs F):EA v xs.length:=(Bh.rd id h.own:B3 (Bh rI e1) H v xs F).isSl
theorem Hi.ofOw {S:List Nat}(h:Ow (Bh (Bh rI e1) e) B T w.heap v xs F)(hS:∀b∈S,b<B):∃us F',Hi e S B w.heap v xs us F'∧∀b∈F',b∈F:=by
 obtain⟨h1,h2,h3,h4⟩:=h
 rcases h1 with⟨rfl,rfl,rfl⟩|⟨us,g,cap,cur,F',hels,rfl,hg,r1,r2,r3,r4,rfl⟩
 ·exact⟨[],[],⟨.inl ⟨rfl,rfl,rfl⟩,zk,(fun b hb=>absurd hb z2),rfl,(fun k hk=>absurd hk (Nat.not_lt_zero k))⟩,(fun b hb=>absurd hb z2)⟩
 ·have hl:=hels.length
  have hn:=List.nodup_cons.1 h2
  refine⟨us,[g],⟨.inr ⟨us,g,cap,cur,[],KK (hels.cells1 o1),by rw[hl],hg,zO,r2,r3,by rw[hl];exact r4,rfl⟩,by simp,fun b hb=>?_,hl,fun k hk=>?_⟩,fun b hb=>?_⟩
  ·exact h3 b (by rw[A9 hb];exact z0 ..)
  ·obtain⟨u,G,hu,q1,q2,q3,_⟩:=hels.at_ (k:=k) [] hk hn.2
   have e1:us.getD k undef=u:=by simp[List.getD_eq_getElem?_getD,hu]
   rw[e1]
   exact⟨G,q1.rd id,fun b hb hm=>by
    have hb':=q3 b hb
    rcases zi.1 hm with hm|hm
    ·have h8:=hS b hm
     have h9:=h3 b<|z3 _ hb'
     omega
    ·rw[A9 hm]at hb'
     exact hn.1 hb'⟩
  ·rw[A9 hb];exact z0 ..
end
theorem SH {R:List Sr}{k:Nat}(hk:k<R.length):Jg (R.take k)++[List.replicate (R.getD k []).length 0]=Jg (R.take (k+1)):=by
 unfold Jg
 rw[Dq [] hk,List.map_append];rfl
end
section
def QN (cs:List AE)(L:List Sr):Nat→List Sr→List Sr
 |0,B=>B
 |k+1,B=>if (cs.getD k AE.zero).op=1 then ER (QN cs L k B) (cs.getD k AE.zero).num (L.getD k [])else QN cs L k B
def Ul (ni m:Nat)(cs:List AE)(L:List Sr):List Sr:=QN cs L cs.length (List.replicate ni (List.replicate m 0))
section
variable {m ni:Nat} {cs:List AE} {L B:List Sr}
theorem Ld {k:Nat}(h:(cs.getD k AE.zero).op=1):QN cs L (k+1) B=ER (QN cs L k B) (cs.getD k AE.zero).num (L.getD k []):=if_pos h
theorem Le {k:Nat}(h:(cs.getD k AE.zero).op≠1):QN cs L (k+1) B=QN cs L k B:=if_neg h
@[simp] theorem HX (k:Nat):(QN cs L k B).length=B.length:=by
 induction k with
 |zero=>rfl
 |succ k ih =>
  by_cases h:(cs.getD k AE.zero).op=1
  ·rw[Ld h,BJ,ih]
  ·rw[Le h,ih]
theorem Ji (m ni:Nat):BV m (List.replicate ni (List.replicate m 0)):=fun k hk=>by
 rw[z5]at hk
 have e:(List.replicate ni (List.replicate m (0:Int))).getD k []=List.replicate m 0:=by simp[List.getD_eq_getElem?_getD,hk]
 rw[e]
 exact⟨z5,Ho _⟩
theorem KC (hf:∀k,k<cs.length→Ey B.length k (cs.getD k AE.zero))(h:BV m B):∀k,k≤cs.length→BV m (QN cs L k B)
 |0,_=>h
 |k+1,hk=>by
  have ih:=KC hf h k zO
  by_cases h1:(cs.getD k AE.zero).op=1
  ·rw[Ld h1]
   have:=(hf k zO).i1 h1
   exact CV ih (by rw[HX];omega)
  ·rw[Le h1];exact ih
theorem Q9 (hf:∀k,k<cs.length→Ey ni k (cs.getD k AE.zero)):BV m (Ul ni m cs L):=KC (fun k hk=>by rw[z5];exact hf k hk) (Ji m ni) _ (A7 _)
@[simp] theorem Qa:(Ul ni m cs L).length=ni:=by unfold Ul;rw[HX,z5]
end
end
section
def Ev (A:List Sr):List Int:=A.map fun s=>s.getD 0 0
section
variable {m:Nat} {A:List Sr} {T:Tp} {xs:List Int}
@[simp] theorem D0:(Ev A).length=A.length:=by simp[Ev]
theorem QO (h:BV m A):OR m (Ev A) A:=⟨D0.symm,fun i hi=>h i (by rw[D0]at hi;exact hi),fun i hi=>by
 rw[D0]at hi
 unfold Ev
 rw[Ci (d:=[]) hi]⟩
theorem Ds.regs (h:Ds m A T):BV m (B7 m A T.code):=fun k hk=>(h.ser k (by rw[BQ]at hk;exact hk)).1
theorem Ds.outs (h:Ds m A T)(hE:JH T xs):∀k,k<xs.length→0≤xs.getD k 0∧xs.getD k 0<((T.code.length:Nat):Int):=fun k hk=>by have:=hE k hk;have:=h.cl;omega
theorem Ds.adj (h:Ds m A T)(hE:JH T xs){ws:List Int}:BV m (Jh T.code (Go.Proofs.YtbajepcpgncekaaGreat.B7 m A T.code) xs ws):=by
 have ho:=h.outs hE
 refine Q8 (ni:=A.length) h.form _ _ (A7 _) (by rw[DY,CU,BQ];exact A7 _)<|HW (GL h.regs) (fun q hq=>?_) _<|A7 _
 have:=ho q hq
 rw[CU,BQ];omega
theorem SI {cs:List AE}{R:List Sr}{os ws:List Int}:(Jh cs R os ws).length=R.length:=by unfold Jh;rw[Q7,DY,CU]
end
end
section
section
variable {m:Nat} {a b c:Sr}
theorem Qb (ha:Cf m a){k:Nat}(hk:k<m):(Ce a b).getD k 0=md (a.getD k 0+b.getD k 0):=by unfold Ce;exact C4 _ (by rw[ha.1];exact hk)
theorem Qc (ha:Cf m a){y:Int}{k:Nat}(hk:k<m):(Ct a y).getD k 0=md (a.getD k 0*y):=by unfold Ct;exact C4 _ (by rw[ha.1];exact hk)
end
end
section
theorem aW {f:Nat→Int}:∀ {n:Nat},(∀i,i<n→f i=0)→sm n f=0
 |0,_=>rfl
 |n+1,h=>by unfold sm;rw[aW (n:=n) fun i hi=>h i zO,h n (by omega)];rfl
section
variable {N N':Nat} {f f' g g':Nat→Int} {a b:Sr}
theorem EN.mono (h:EN N f g)(hN:N'≤N):EN N' f g:=fun k hk=>h k zO
theorem EN.neg (hf:EN N f f'):EN N (fun k=>- f k) (fun k=>- f' k):=fun k hk=>by rw[← Jz,hf k hk,Jz]
theorem EN.eq (h:∀k,k<N→f k=g k):EN N f g:=fun k hk=>by rw[h k hk]
theorem SJ (ha:Cf N a):EN N (Dj (Ct a 1000002)) (fun k=>- Dj a k):=EN.trans (aU (y:=1000002) ha) fun k _=>by
 show md (1000002*Dj a k)=md (- Dj a k)
 unfold md;omega
def Lo (r:Nat)(f:Nat→Int):Prop:=EN r f Ka
theorem Lo.mono {r r':Nat}(h:Lo r f)(hr:r'≤r):Lo r' f:=EN.mono h hr
theorem Lo.of {r:Nat}(h:EN r f g)(hg:Lo r g):Lo r f:=EN.trans h hg
theorem Lo.add {r:Nat}(h:Lo r f)(hg:Lo r g):Lo r fun k=>f k+g k:=(EN.add h hg).trans fun k _=>rfl
theorem Lo.sub {r:Nat}(h:Lo r f)(hg:Lo r g):Lo r fun k=>f k-g k:=(EN.sub h hg).trans fun k _=>rfl
theorem Lo.neg {r:Nat}(h:Lo r f):Lo r fun k=>- f k:=fun k hk=>by
 have:=h k hk
 show md (- f k)=md 0
 rw[← Jz,this];rfl
theorem Lo.cvl {r:Nat}(h:Lo r f)(g:Nat→Int):Lo r (cv f g):=(EN.cv h (EN.rfl' g)).trans fun k _=>by rw[FE];rfl
theorem Lo.cvr {r:Nat}(g:Nat→Int)(h:Lo r f):Lo r (cv g f):=fun k hk=>by rw[Dr];exact h.cvl g k hk
theorem Lo.cv2 {r s:Nat}(h:Lo r f)(hg:Lo s g):Lo (r+s) (cv f g):=fun k hk=>by
 rw[K3]
 have e:md (sm (k+1) fun i=>f i*g (k-i))=md (sm (k+1) fun _=>0):=KO fun i hi=>by
  by_cases h1:i<r
  ·rw[← D5,h i h1]
   show md (md 0*_)=_
   rw[Eg,Int.zero_mul]
  ·rw[← D5,hg (k-i) (by omega)]
   show md (_*md 0)=_
   rw[EO,Int.mul_zero]
 rw[e,aW fun _ _=>rfl];rfl
theorem Jj (f g g':Nat→Int)(k:Nat):cv f (fun i=>g i-g' i) k=cv f g k-cv f g' k:=by rw[Dr,PE,Dr g,Dr g']
theorem Qd (f g:Nat→Int)(k:Nat):cv f (fun i=>- g i) k = - cv f g k:=by
 have e:(fun i=>- g i)=fun i=>(-1)*g i:=funext fun i=>by omega
 rw[e,ND];omega
theorem MW (f g:Nat→Int)(k:Nat):cv (fun i=>- f i) g k = - cv f g k:=by rw[Dr,Qd,Dr]
theorem Lo.div {r:Nat}(hd:∃e:Int,md (g 0*e)=1)(h:Lo r (cv f g)):Lo r f:=OC hd (h.trans fun k _=>by rw[FE];rfl)
end
section
variable {N m n:Nat} {B:List Sr} {v v':Nat→Nat→Int}
theorem OS {f g:Nat→Int}{i:Nat}:∀ {n:Nat},i<n→(∀j,j<n→j≠i→f j=g j)→sm n f=sm n g+(f i-g i)
 |0,h,_=>absurd h (Nat.not_lt_zero i)
 |n+1,hi,h=>by
  show sm n f+f n=sm n g+g n+_
  by_cases e:i=n
  ·subst e
   rw[Fe fun j hj=>h j zO (by omega)];omega
  ·rw[OS (n:=n) zO fun j hj he=>h j zO he,h n zO (fun h=>e h.symm)];omega
theorem Yr {i:Nat}(hi:i<n)(h:∀j,j<n→j≠i→v j=v' j)(t:Nat):Gv n v B t=Gv n v' B t+(cv (Dj (B.getD i [])) (v i) t-cv (Dj (B.getD i [])) (v' i) t):=by
 unfold Gv
 exact OS (f:=fun j=>cv (Dj (B.getD j [])) (v j) t) (g:=fun j=>cv (Dj (B.getD j [])) (v' j) t) hi fun j hj he=>by rw[h j hj he]
theorem Qe {i:Nat}{s:Sr}{d:Nat→Int}(hi:i<n)(hb:i<B.length)(h:EN N (Dj s) fun t=>Dj (B.getD i []) t+d t):EN N (Gv n v (B.set i s)) fun t=>Gv n v B t+cv d (v i) t:=fun t ht=>by
 have e:Gv n v (B.set i s) t=Gv n v B t+(cv (Dj s) (v i) t-cv (Dj (B.getD i [])) (v i) t):=by
  unfold Gv
  have:=OS (f:=fun j=>cv (Dj ((B.set i s).getD j [])) (v j) t) (g:=fun j=>cv (Dj (B.getD j [])) (v j) t) hi fun j hj he=>by rw[Dx _ _ _ _ _ hb,if_neg he]
  rw[this,Dx _ _ _ _ _ hb,if_pos rfl]
 have h2:md (cv (Dj s) (v i) t)=md (cv (Dj (B.getD i [])) (v i) t+cv d (v i) t):=by
  rw[EN.cv h (EN.rfl' (v i)) t ht,Ko]
 show md _=md (Gv n v B t+cv d (v i) t)
 rw[e,← FD,← FP,h2,FP,FD]
 congr 1;omega
theorem KD {r:Int}{s:Sr}(hB:BV m B)(hN:N≤m)(hr:r.toNat<n)(hb:r.toNat<B.length):EN N (Gv n v (ER B r s)) fun t=>Gv n v B t+cv (Dj s) (v r.toNat) t :=
 Qe hr hb (EN.mono (XE (hB _ hb)) hN)
theorem O7 (h:∀j,j<n→∀t,Dj (B.getD j []) t=0)(t:Nat):Gv n v B t=0:=by
 unfold Gv
 refine aW fun j hj=>?_
 rw[show Dj (B.getD j [])=Ka from funext fun t=>h j hj t,FE]
end
structure Ys (N:Nat)(cs:List AE)(R:List Sr)(z D:Nat→Nat→Int):Prop where
 t1:∀k,k<cs.length→(cs.getD k AE.zero).op=1→EN N (D k) (z (cs.getD k AE.zero).num.toNat)
 t2:∀k,k<cs.length→(cs.getD k AE.zero).op=2→EN N (D k) Ka
 t3:∀k,k<cs.length→(cs.getD k AE.zero).op=3→EN N (D k) fun t=>D (cs.getD k AE.zero).a.toNat t+D (cs.getD k AE.zero).b.toNat t
 t4:∀k,k<cs.length→(cs.getD k AE.zero).op=4→EN N (D k) fun t=>D (cs.getD k AE.zero).a.toNat t-D (cs.getD k AE.zero).b.toNat t
 t5:∀k,k<cs.length→(cs.getD k AE.zero).op=5→EN N (D k) fun t=>cv (Dj (R.getD (cs.getD k AE.zero).b.toNat [])) (D (cs.getD k AE.zero).a.toNat) t+cv (Dj (R.getD (cs.getD k AE.zero).a.toNat [])) (D (cs.getD k AE.zero).b.toNat) t
 t6:∀k,k<cs.length→(cs.getD k AE.zero).op=6→EN N (cv (Dj (R.getD (cs.getD k AE.zero).b.toNat [])) (D k)) fun t=>D (cs.getD k AE.zero).a.toNat t-cv (Dj (R.getD k [])) (D (cs.getD k AE.zero).b.toNat) t
 t7:∀k,k<cs.length→(cs.getD k AE.zero).op=7→EN N (D k) fun t=>- D (cs.getD k AE.zero).a.toNat t
def Ew (cs:List AE)(D:Nat→Nat→Int)(n k:Nat):Nat→Int:=if k<n∨(cs.getD k AE.zero).op=1 then D k else Ka
section
variable {N m ni:Nat} {cs:List AE} {R B:List Sr} {z D:Nat→Nat→Int} {os ws:List Int}
theorem GN {n k:Nat}(h:k<n):Ew cs D n k=D k:=if_pos (.inl h)
theorem SK {n k:Nat}(h:(cs.getD k AE.zero).op=1):Ew cs D n k=D k:=if_pos (.inr h)
theorem V9 {n k:Nat}(h:n≤k)(h1:(cs.getD k AE.zero).op≠1):Ew cs D n k=Ka:=if_neg zO
theorem Yt (hT:Ys N cs R z D)(hN:N≤m)(hR:BV m R)(hRl:R.length=cs.length)(hB:BV m B)(hl:B.length=cs.length){k:Nat}(hk:k<cs.length)(hf:Ey ni k (cs.getD k AE.zero))
  (hd:(cs.getD k AE.zero).op=6→(R.getD (cs.getD k AE.zero).b.toNat []).getD 0 0≠0) :
  EN N (Gv cs.length (Ew cs D k) (Mq cs R k B)) (Gv cs.length (Ew cs D (k+1)) B):=by
 have hBk:=hB k zO
 by_cases h1:(cs.getD k AE.zero).op=1
 ·rw[O6 (by omega)]
  have e:Gv cs.length (Ew cs D k) B=Gv cs.length (Ew cs D (k+1)) B:=funext fun t=>by
   unfold Gv
   refine Fe fun j hj=>?_
   by_cases e:j=k
   ·subst e;rw[SK h1,SK h1]
   ·by_cases e2:j<k
    ·rw[GN e2,GN (by omega)]
    ·unfold Ew
     by_cases e3:(cs.getD j AE.zero).op=1
     ·rw[if_pos (.inr e3),if_pos (.inr e3)]
     ·rw[if_neg zO,if_neg (by omega)]
  rw[e];exact EN.rfl' _
 have hup:Gv cs.length (Ew cs D (k+1)) B=fun t=>Gv cs.length (Ew cs D k) B t+cv (Dj (B.getD k [])) (D k) t:=funext fun t=>by
  rw[Yr (v:=Ew cs D (k+1)) (v':=Ew cs D k) hk (fun j hj he=>?_) t,GN (Nat.lt_succ_self k),V9 (A7 k) h1,Dr _ Ka,FE]
  ·omega
  ·by_cases e2:j<k
   ·rw[GN e2,GN (by omega)]
   ·unfold Ew
    by_cases e3:(cs.getD j AE.zero).op=1
    ·rw[if_pos (.inr e3),if_pos (.inr e3)]
    ·rw[if_neg zO,if_neg (by omega)]
 rw[hup]
 have two:∀ {ra rb:Int} {sa sb:Sr},ra.toNat<k→rb.toNat<k→EN N (fun t=>cv (Dj sa) (D ra.toNat) t+cv (Dj sb) (D rb.toNat) t) (cv (Dj (B.getD k [])) (D k)) →
   EN N (Gv cs.length (Ew cs D k) (ER (ER B ra sa) rb sb)) fun t=>Gv cs.length (Ew cs D k) B t+cv (Dj (B.getD k [])) (D k) t:=fun {ra rb sa sb} ha hb h=>by
  have q1:=KD (v:=Ew cs D k) (s:=sa) (n:=cs.length) hB hN (r:=ra) zO zO
  have q2:=KD (v:=Ew cs D k) (s:=sb) (n:=cs.length) (CV (s:=sa) hB (r:=ra) zO) hN (r:=rb) zO (by rw[BJ];omega)
  rw[GN ha]at q1
  rw[GN hb]at q2
  refine q2.trans<|EN.trans (EN.add q1<|EN.rfl' _) ?_
  refine EN.trans (EN.eq fun t _=>?_)<|EN.add (EN.rfl'<|Gv cs.length (Ew cs D k) B) h
  exact Int.add_assoc _ _ _
 have b2:=fun h=>hf.i2 h
 have b7:=fun h=>hf.i7 h
 by_cases h3:(cs.getD k AE.zero).op=3
 ·rw[O1 h3]
  have:=b2 zO
  refine two zO zO ?_
  refine EN.trans (EN.eq fun t _=>?_)<|EN.cv (EN.rfl' _) (hT.t3 k hk h3).symm
  rw[Kp]
 by_cases h4:(cs.getD k AE.zero).op=4
 ·rw[O2 h4]
  have:=b2 zO
  refine two zO zO ?_
  refine EN.trans (EN.add (EN.rfl' _)<|EN.cv (EN.mono (SJ hBk) hN)<|EN.rfl' _) ?_
  refine EN.trans (EN.eq fun t _=>?_)<|EN.cv (EN.rfl' _) (hT.t4 k hk h4).symm
  rw[Jj,MW];omega
 by_cases h5:(cs.getD k AE.zero).op=5
 ·rw[O3 h5]
  have:=b2 zO
  refine two zO zO ?_
  refine EN.trans (EN.add (EN.cv (EN.mono (RC hBk) hN)<|EN.rfl' _)<|EN.cv (EN.mono (RC hBk) hN)<|EN.rfl' _) ?_
  refine EN.trans (EN.eq fun t _=>?_)<|EN.cv (EN.rfl' _) (hT.t5 k hk h5).symm
  rw[Kp,Hm,Hm]
 by_cases h6:(cs.getD k AE.zero).op=6
 ·rw[O4 h6]
  have:=b2 zO
  have hRb:=hR (cs.getD k AE.zero).b.toNat zO
  refine two zO zO ?_
  have hq:=Xc hBk hRb<|hd h6
  refine EN.trans (EN.add (EN.rfl' _)<|EN.cv (EN.mono (EN.trans (SJ<|Gl<|Ff hBk)<|EN.neg<|RC<|Ff hBk) hN)<|EN.rfl' _) ?_
  refine EN.trans ?_<|EN.cv (EN.mono hq hN)<|EN.rfl' _
  refine EN.trans ?_<|EN.trans (EN.cv (EN.rfl'<|Dj<|BM (B.getD k [])<|R.getD (cs.getD k AE.zero).b.toNat []) (hT.t6 k hk h6).symm) (EN.eq fun t _=>(Hm _ _ _ t).symm)
  refine EN.eq fun t _=>?_
  rw[MW,Jj,Hm];omega
 by_cases h7:(cs.getD k AE.zero).op=7
 ·rw[O5 h7]
  have:=b7 h7
  have q1:=KD (v:=Ew cs D k) (s:=Ct (B.getD k []) 1000002) (n:=cs.length) hB hN (r:=(cs.getD k AE.zero).a) zO zO
  rw[GN (by omega)]at q1
  refine q1.trans<|EN.add (EN.rfl' _) ?_
  refine EN.trans (EN.cv (EN.mono (SJ hBk) hN)<|EN.rfl' _)<|EN.trans (EN.eq fun t _=>?_)<|EN.cv (EN.rfl' _) (hT.t7 k hk h7).symm
  rw[Qd,MW]
 have h2:(cs.getD k AE.zero).op=2:=by unfold Ey at hf;omega
 rw[O6 (by omega)]
 refine EN.trans (EN.eq fun t _=>?_)<|EN.add (EN.rfl' _)<|EN.cv (EN.rfl' _) (hT.t2 k hk h2).symm
 rw[Dr,FE,Int.add_zero]
theorem Va (hT:Ys N cs R z D)(hN:N≤m)(hR:BV m R)(hRl:R.length=cs.length)(hf:∀k,k<cs.length→Ey ni k (cs.getD k AE.zero))
  (hd:∀k,k<cs.length→(cs.getD k AE.zero).op=6→(R.getD (cs.getD k AE.zero).b.toNat []).getD 0 0≠0) :
  ∀(n:Nat) (B:List Sr),n≤cs.length→BV m B→B.length=cs.length→EN N (Gv cs.length (Ew cs D 0) (QZ cs R n B)) (Gv cs.length (Ew cs D n) B)
 |0,B,_,_,_=>EN.rfl' _
 |n+1,B,hn,hB,hl=>by
  show EN N (Gv cs.length (Ew cs D 0) (QZ cs R n (Mq cs R n B))) _
  exact (Va hT hN hR hRl hf hd n _ zO (GM hB zO<|hf n zO) (by rw[KB,hl])).trans<|Yt hT hN hR hRl hB hl zO (hf n zO)<|hd n zO
theorem Qf {L B0:List Sr}(hT:Ys N cs R z D)(hN:N≤m)(hB:BV m B0)(hl:B0.length=ni)(hf:∀k,k<cs.length→Ey ni k (cs.getD k AE.zero)) :
  ∀n,n≤cs.length→EN N (Gv ni z (QN cs L n B0)) fun t=>Gv ni z B0 t+sm n fun k=>cv (Dj (L.getD k [])) (Ew cs D 0 k) t
 |0,_=>fun t _=>by show _=md (_+0);rw[Int.add_zero];rfl
 |n+1,hn=>by
  have ih:=Qf (L:=L) hT hN hB hl hf n zO
  by_cases h1:(cs.getD n AE.zero).op=1
  ·rw[Ld h1]
   have hi:=(hf n zO).i1 h1
   refine (KD (KC (fun k hk=>by rw[hl];exact hf k hk) hB n zO) hN zO (by rw[HX];omega)).trans ?_
   refine (EN.add ih<|EN.cv (EN.rfl' _) (hT.t1 n zO h1).symm).trans (EN.eq fun t _=>?_)
   show _=Gv ni z B0 t+(sm n _+cv (Dj (L.getD n [])) (Ew cs D 0 n) t)
   rw[SK h1,Int.add_assoc]
  ·rw[Le h1]
   refine ih.trans (EN.eq fun t _=>?_)
   show _=Gv ni z B0 t+(sm n _+cv (Dj (L.getD n [])) (Ew cs D 0 n) t)
   rw[V9 (Nat.zero_le n) h1,Dr _ Ka,FE,Int.add_zero]
theorem SL {m:Nat}(t:Nat):Dj (List.replicate m 0) t=0:=K8 m t
theorem Vb (hB:BV m B)(hm:1≤m){n:Nat}(hn:n≤B.length):∀k,k≤os.length→(∀i,i<os.length→(os.getD i 0).toNat<n) →
  EN N (Gv n D (LJ os ws k B)) fun t=>Gv n D B t+sm k fun i=>ws.getD i 0*D (os.getD i 0).toNat t
 |0,_,_=>fun t _=>by show _=md (_+0);rw[Int.add_zero];rfl
 |k+1,hk,ho=>by
  have ih:=Vb hB hm hn k zO ho
  have h9:=ho k zO
  have hs:=HW (ws:=ws) hB (fun i hi=>by have:=ho i hi;omega) k zO (os.getD k 0).toNat (by rw[DY];omega)
  refine (Qe (B:=LJ os ws k B) (s:=((LJ os ws k B).getD (os.getD k 0).toNat []).set 0<|md (((LJ os ws k B).getD (os.getD k 0).toNat []).getD 0 0+ws.getD k 0)) (d:=fun t=>ws.getD k 0*QF t) h9 (by rw[DY];omega) fun t _=>?_).trans ?_
  ·unfold Dj
   rw[Dx _ _ _ _ _ (by rw[hs.1];omega)]
   unfold QF
   by_cases e:t=0
   ·subst e
    show _=md (_+ws.getD k 0*(if (0:Nat)=0 then 1 else 0))
    rw[if_pos rfl,if_pos rfl,Es,Int.mul_one]
   ·show _=md (_+ws.getD k 0*(if t=0 then 1 else 0))
    rw[if_neg e,if_neg e,Int.mul_zero,Int.add_zero]
  ·refine (EN.add ih<|EN.rfl' _).trans (EN.eq fun t _=>?_)
   show _=_+(sm k _+_)
   rw[Ja,Xb,Int.add_assoc]
theorem Um (hT:Ys N cs R z D)(hN:N≤m)(hm:1≤m)(hR:BV m R)(hRl:R.length=cs.length)(hf:∀k,k<cs.length→Ey ni k (cs.getD k AE.zero))
  (hd:∀k,k<cs.length→(cs.getD k AE.zero).op=6→(R.getD (cs.getD k AE.zero).b.toNat []).getD 0 0≠0) (ho:∀i,i<os.length→(os.getD i 0).toNat<cs.length) :
  EN N (Gv ni z (Ul ni m cs (Jh cs R os ws))) fun t=>sm os.length fun i=>ws.getD i 0*D (os.getD i 0).toNat t:=by
 have h1:=Qf (L:=Jh cs R os ws) (B0:=List.replicate ni<|List.replicate m 0) hT hN (Ji m ni) z5 hf cs.length<|A7 _
 have hw:BV m (LJ os ws os.length (Jg R)):=HW (GL hR) (fun q hq=>by rw[CU,hRl];exact ho q hq) _ (A7 _)
 have h2:=Va hT hN hR hRl hf hd cs.length (LJ os ws os.length<|Jg R) (A7 _) hw (by rw[DY,CU,hRl])
 have h3:=Vb (N:=N) (D:=D) (os:=os) (ws:=ws) (GL hR) hm (n:=cs.length) (by rw[CU,hRl];exact A7 _) os.length (A7 _) ho
 have e1:∀t,Gv ni z (List.replicate ni (List.replicate m 0)) t=0:=O7 fun j hj t=>by
  rw[show(List.replicate ni (List.replicate m (0:Int))).getD j []=List.replicate m 0 from by simp[List.getD_eq_getElem?_getD,hj]];exact SL t
 have e2:∀t,Gv cs.length D (Jg R) t=0:=O7 fun j hj t=>by
  rw[show(Jg R).getD j []=List.replicate (R.getD j []).length 0 from by unfold Jg;rw[Ci (d:=[]) (by omega)]];exact SL t
 have e3:Gv cs.length (Ew cs D cs.length) (LJ os ws os.length (Jg R))=Gv cs.length D (LJ os ws os.length (Jg R)):=funext fun t=>by
  unfold Gv
  exact Fe fun j hj=>by rw[GN hj]
 rw[e3]at h2
 refine h1.trans<|EN.trans (EN.eq fun t _=>?_)<|EN.trans h2<|h3.trans (EN.eq fun t _=>?_)
 ·rw[e1,Int.zero_add];rfl
 ·rw[e2,Int.zero_add]
end
end
section
def CP (A A':List Sr)(j:Nat):Nat→Int:=fun t=>Dj (A'.getD j []) t-Dj (A.getD j []) t
section
variable {m r N k j:Nat} {A A':List Sr} {T:Tp} {cs:List AE}
theorem FW (hk:k≤cs.length)(hj:j<k):(B7 m A (cs.take k)).getD j []=(B7 m A cs).getD j []:=by
 have:=L5 (m:=m) (A:=A) (cs.take k) (cs.drop k) (k:=j) (by rw[List.length_take];omega)
 rw[List.take_append_drop]at this
 exact this.symm
theorem Iy (hk:k<cs.length):(B7 m A cs).getD k []=Fi m A (B7 m A (cs.take k)) (cs.getD k AE.zero):=by
 rw[← FW (show k+1≤cs.length from hk) (Nat.lt_succ_self k),Dt hk,H5 (by rw[BQ,List.length_take];omega)]
theorem Ds.r1 (h:Ds m A T)(hk:k<T.code.length)(h1:(T.code.getD k AE.zero).op=1):(Go.Proofs.YtbajepcpgncekaaGreat.B7 m A T.code).getD k []=A.getD (T.code.getD k AE.zero).num.toNat []:=by rw[Iy hk,MT h1]
theorem Ds.r2 (h:Ds m A T)(hk:k<T.code.length)(h1:(T.code.getD k AE.zero).op=2):(Go.Proofs.YtbajepcpgncekaaGreat.B7 m A T.code).getD k []=cst m (T.code.getD k AE.zero).num:=by rw[Iy hk,Lc (by omega)]
theorem Ds.r3 (h:Ds m A T)(hk:k<T.code.length)(h1:(T.code.getD k AE.zero).op=3):(Go.Proofs.YtbajepcpgncekaaGreat.B7 m A T.code).getD k []=Ce ((Go.Proofs.YtbajepcpgncekaaGreat.B7 m A T.code).getD (T.code.getD k AE.zero).a.toNat []) ((Go.Proofs.YtbajepcpgncekaaGreat.B7 m A T.code).getD (T.code.getD k AE.zero).b.toNat []):=by
 have:=(h.form k hk).i2 zO
 rw[Iy hk,L7 h1,FW zO zO,FW zO (by omega)]
theorem Ds.r4 (h:Ds m A T)(hk:k<T.code.length)(h1:(T.code.getD k AE.zero).op=4):(Go.Proofs.YtbajepcpgncekaaGreat.B7 m A T.code).getD k []=EP ((Go.Proofs.YtbajepcpgncekaaGreat.B7 m A T.code).getD (T.code.getD k AE.zero).a.toNat []) ((Go.Proofs.YtbajepcpgncekaaGreat.B7 m A T.code).getD (T.code.getD k AE.zero).b.toNat []):=by
 have:=(h.form k hk).i2 zO
 rw[Iy hk,L8 h1,FW zO zO,FW zO (by omega)]
theorem Ds.r5 (h:Ds m A T)(hk:k<T.code.length)(h1:(T.code.getD k AE.zero).op=5):(Go.Proofs.YtbajepcpgncekaaGreat.B7 m A T.code).getD k []=Cc ((Go.Proofs.YtbajepcpgncekaaGreat.B7 m A T.code).getD (T.code.getD k AE.zero).a.toNat []) ((Go.Proofs.YtbajepcpgncekaaGreat.B7 m A T.code).getD (T.code.getD k AE.zero).b.toNat []):=by
 have:=(h.form k hk).i2 zO
 rw[Iy hk,L9 h1,FW zO zO,FW zO (by omega)]
theorem Ds.r6 (h:Ds m A T)(hk:k<T.code.length)(h1:(T.code.getD k AE.zero).op=6):(Go.Proofs.YtbajepcpgncekaaGreat.B7 m A T.code).getD k []=BM ((Go.Proofs.YtbajepcpgncekaaGreat.B7 m A T.code).getD (T.code.getD k AE.zero).a.toNat []) ((Go.Proofs.YtbajepcpgncekaaGreat.B7 m A T.code).getD (T.code.getD k AE.zero).b.toNat []):=by
 have:=(h.form k hk).i2 zO
 rw[Iy hk,Lb h1,FW zO zO,FW zO (by omega)]
theorem Ds.r7 (h:Ds m A T)(hk:k<T.code.length)(h1:(T.code.getD k AE.zero).op=7):(Go.Proofs.YtbajepcpgncekaaGreat.B7 m A T.code).getD k []=Ct ((Go.Proofs.YtbajepcpgncekaaGreat.B7 m A T.code).getD (T.code.getD k AE.zero).a.toNat []) 1000002:=by
 have:=(h.form k hk).i7 h1
 rw[Iy hk,La h1,FW zO (by omega)]
theorem Ds.rz (h:Ds m A T)(hk:k<T.code.length)(h1:(T.code.getD k AE.zero).op=6):((Go.Proofs.YtbajepcpgncekaaGreat.B7 m A T.code).getD (T.code.getD k AE.zero).b.toNat []).getD 0 0≠0:=by
 have:=(h.form k hk).i2 zO
 rw[(h.ser (T.code.getD k AE.zero).b.toNat zO).2]
 exact h.dv k hk h1
theorem SM (f g:Nat→Int):f=fun t=>g t+(f t-g t):=funext fun t=>by omega
theorem SN (v w v' w':Nat→Int)(t:Nat):cv v' w' t-cv v w t=cv w (fun t=>v' t-v t) t+cv v (fun t=>w' t-w t) t+cv (fun t=>v' t-v t) (fun t=>w' t-w t) t:=by
 rw[PE,Jj,Jj,Jj,Dr w,Dr w];omega
theorem Vc (h:Ds m A T)(h':Ds m A' T)(hk:k<T.code.length)(h1:(T.code.getD k AE.zero).op=1):CP (B7 m A T.code) (B7 m A' T.code) k=CP A A' (T.code.getD k AE.zero).num.toNat:=by
 unfold CP;rw[h.r1 hk h1,h'.r1 hk h1]
theorem Vd (h:Ds m A T)(h':Ds m A' T)(hk:k<T.code.length)(h1:(T.code.getD k AE.zero).op=2):EN N (CP (B7 m A T.code) (B7 m A' T.code) k) Ka:=EN.eq fun t _=>by
 unfold CP;rw[h.r2 hk h1,h'.r2 hk h1,Int.sub_self];rfl
theorem Ve (h:Ds m A T)(h':Ds m A' T)(hk:k<T.code.length)(h1:(T.code.getD k AE.zero).op=3) :
  EN m (CP (B7 m A T.code) (B7 m A' T.code) k) fun t=>CP (B7 m A T.code) (B7 m A' T.code) (T.code.getD k AE.zero).a.toNat t+CP (B7 m A T.code) (B7 m A' T.code) (T.code.getD k AE.zero).b.toNat t:=by
 have hb:=(h.form k hk).i2 zO
 unfold CP;rw[h.r3 hk h1,h'.r3 hk h1]
 exact (EN.sub (XE (h'.ser _ zO).1) (XE (h.ser _ zO).1)).trans (EN.eq fun t _=>by omega)
theorem Vf (h:Ds m A T)(h':Ds m A' T)(hk:k<T.code.length)(h1:(T.code.getD k AE.zero).op=4) :
  EN m (CP (B7 m A T.code) (B7 m A' T.code) k) fun t=>CP (B7 m A T.code) (B7 m A' T.code) (T.code.getD k AE.zero).a.toNat t-CP (B7 m A T.code) (B7 m A' T.code) (T.code.getD k AE.zero).b.toNat t:=by
 have hb:=(h.form k hk).i2 zO
 unfold CP;rw[h.r4 hk h1,h'.r4 hk h1]
 exact (EN.sub (Y9 (h'.ser _ zO).1) (Y9 (h.ser _ zO).1)).trans (EN.eq fun t _=>by omega)
theorem Vg (h:Ds m A T)(h':Ds m A' T)(hk:k<T.code.length)(h1:(T.code.getD k AE.zero).op=7) :
  EN m (CP (B7 m A T.code) (B7 m A' T.code) k) fun t=>- CP (B7 m A T.code) (B7 m A' T.code) (T.code.getD k AE.zero).a.toNat t:=by
 have hb:=(h.form k hk).i7 h1
 unfold CP;rw[h.r7 hk h1,h'.r7 hk h1]
 exact (EN.sub (SJ (h'.ser _ zO).1) (SJ (h.ser _ zO).1)).trans (EN.eq fun t _=>by omega)
theorem Vh (h:Ds m A T)(h':Ds m A' T)(hk:k<T.code.length)(h1:(T.code.getD k AE.zero).op=5) :
  EN m (CP (B7 m A T.code) (B7 m A' T.code) k) fun t=>cv (Dj ((B7 m A T.code).getD (T.code.getD k AE.zero).b.toNat [])) (CP (B7 m A T.code) (B7 m A' T.code) (T.code.getD k AE.zero).a.toNat) t
   + cv (Dj ((B7 m A T.code).getD (T.code.getD k AE.zero).a.toNat [])) (CP (B7 m A T.code) (B7 m A' T.code) (T.code.getD k AE.zero).b.toNat) t
   + cv (CP (B7 m A T.code) (B7 m A' T.code) (T.code.getD k AE.zero).a.toNat) (CP (B7 m A T.code) (B7 m A' T.code) (T.code.getD k AE.zero).b.toNat) t:=by
 have hb:=(h.form k hk).i2 zO
 unfold CP;rw[h.r5 hk h1,h'.r5 hk h1]
 exact (EN.sub (RC (h'.ser _ zO).1) (RC (h.ser _ zO).1)).trans (EN.eq fun t _=>SN _ _ _ _ t)
theorem Vi (h:Ds m A T)(h':Ds m A' T)(hk:k<T.code.length)(h1:(T.code.getD k AE.zero).op=6) :
  EN m (CP (B7 m A T.code) (B7 m A' T.code) (T.code.getD k AE.zero).a.toNat) fun t=>cv (Dj ((B7 m A T.code).getD (T.code.getD k AE.zero).b.toNat [])) (CP (B7 m A T.code) (B7 m A' T.code) k) t
   + cv (Dj ((B7 m A T.code).getD k [])) (CP (B7 m A T.code) (B7 m A' T.code) (T.code.getD k AE.zero).b.toNat) t
   + cv (CP (B7 m A T.code) (B7 m A' T.code) k) (CP (B7 m A T.code) (B7 m A' T.code) (T.code.getD k AE.zero).b.toNat) t:=by
 have hb:=(h.form k hk).i2 zO
 have q:=Xc (h.ser (T.code.getD k AE.zero).a.toNat zO).1 (h.ser (T.code.getD k AE.zero).b.toNat zO).1 (h.rz hk h1)
 have q':=Xc (h'.ser (T.code.getD k AE.zero).a.toNat zO).1 (h'.ser (T.code.getD k AE.zero).b.toNat zO).1 (h'.rz hk h1)
 rw[← h.r6 hk h1]at q
 rw[← h'.r6 hk h1]at q'
 exact (EN.sub q'.symm q.symm).trans (EN.eq fun t _=>SN _ _ _ _ t)
theorem SP (h:Ds m A T)(h':Ds m A' T)(hr:r≤m)(hz:∀j,j<A.length→Lo r (CP A A' j)):∀n k,k<n→k<T.code.length→Lo r (CP (B7 m A T.code) (B7 m A' T.code) k)
 |0,k,hk,_=>absurd hk (Nat.not_lt_zero k)
 |n+1,k,hn,hk=>by
  have ih:=SP h h' hr hz n
  have hf:=h.form k hk
  have b2:=fun h=>hf.i2 h
  have b7:=fun h=>hf.i7 h
  by_cases h1:(T.code.getD k AE.zero).op=1
  ·rw[Vc h h' hk h1];have:=hf.i1 h1;exact hz _ zO
  by_cases h2:(T.code.getD k AE.zero).op=2
  ·exact Vd h h' hk h2
  by_cases h3:(T.code.getD k AE.zero).op=3
  ·have:=b2 zO
   exact Lo.of (EN.mono (Ve h h' hk h3) hr)<|(ih _ zO zO).add<|ih _ zO zO
  by_cases h4:(T.code.getD k AE.zero).op=4
  ·have:=b2 zO
   exact Lo.of (EN.mono (Vf h h' hk h4) hr)<|(ih _ zO zO).sub<|ih _ zO zO
  by_cases h5:(T.code.getD k AE.zero).op=5
  ·have:=b2 zO
   exact Lo.of (EN.mono (Vh h h' hk h5) hr)<|((Lo.cvr _<|ih _ zO zO).add<|Lo.cvr _<|ih _ zO zO).add<|(ih _ zO zO).cvl _
  by_cases h6:(T.code.getD k AE.zero).op=6
  ·have:=b2 zO
   have ha:=ih (T.code.getD k AE.zero).a.toNat zO zO
   have hb:=ih (T.code.getD k AE.zero).b.toNat zO zO
   have e:=EN.mono (Vi h h' hk h6) hr
   refine Lo.div (g:=Dj<|(B7 m A' T.code).getD (T.code.getD k AE.zero).b.toNat []) (TQ (h'.ser (T.code.getD k AE.zero).b.toNat zO).1 (h'.rz hk h6)) ?_
   refine Lo.of (g:=fun t=>CP (B7 m A T.code) (B7 m A' T.code) (T.code.getD k AE.zero).a.toNat t-cv (Dj<|(B7 m A T.code).getD k []) (CP (B7 m A T.code) (B7 m A' T.code) (T.code.getD k AE.zero).b.toNat) t) ?_<|ha.sub<|hb.cvr _
   refine EN.trans (EN.eq fun t _=>?_)<|EN.sub e.symm<|EN.rfl' _
   rw[SM (Dj ((B7 m A' T.code).getD (T.code.getD k AE.zero).b.toNat [])) (Dj ((B7 m A T.code).getD (T.code.getD k AE.zero).b.toNat [])),Kp,Dr _ (Dj ((B7 m A T.code).getD (T.code.getD k AE.zero).b.toNat []))]
   show _+cv _ (CP _ _ _) t=_
   omega
  have h7:(T.code.getD k AE.zero).op=7:=by unfold Ey at hf;omega
  have:=b7 h7
  exact Lo.of (EN.mono (Vg h h' hk h7) hr) (ih _ zO zO).neg
theorem Un (h:Ds m A T)(h':Ds m A' T)(hr:r≤m)(hz:∀j,j<A.length→Lo r (CP A A' j))(hN:N≤m)(h2:N≤r+r):Ys N T.code (B7 m A T.code) (CP A A') (CP (B7 m A T.code) (B7 m A' T.code)):=by
 have lo:=fun k (hk:k<T.code.length)=>SP h h' hr hz (k+1) k (Nat.lt_succ_self k) hk
 refine⟨fun k hk h1=>by rw[Vc h h' hk h1];exact EN.rfl' _,fun k hk h1=>Vd h h' hk h1,fun k hk h1=>EN.mono (Ve h h' hk h1) hN,fun k hk h1=>EN.mono (Vf h h' hk h1) hN,fun k hk h1=>?_,fun k hk h1=>?_,fun k hk h1=>EN.mono (Vg h h' hk h1) hN⟩
 ·have:=(h.form k hk).i2 zO
  refine (EN.mono (Vh h h' hk h1) hN).trans ?_
  refine (EN.add (EN.rfl' _)<|Lo.mono (Lo.cv2 (lo _ zO)<|lo _ zO) h2).trans (EN.eq fun t _=>?_)
  exact Int.add_zero _
 ·have:=(h.form k hk).i2 zO
  refine (EN.sub (EN.mono (Vi h h' hk h1) hN) (EN.rfl' _) |>.trans ?_).symm
  refine (EN.sub (EN.add (EN.rfl' _)<|Lo.mono (Lo.cv2 (lo k hk)<|lo _ zO) h2)<|EN.rfl' _).trans (EN.eq fun t _=>?_)
  show _+_+(0:Int)-_=_
  omega
end
end
section
section
variable {m n r N k:Nat}
theorem XI {u:Nat→Nat→Int}{row:List Sr}(h:∀j,j<n→Lo k (u j)):md (Gv n u row k)=md (sm n fun j=>Dj (row.getD j []) 0*u j k):=by
 unfold Gv
 refine KO fun j hj=>?_
 cases k with
 |zero=>rfl
 |succ k =>
  show md (Dj (row.getD j []) 0*u j (k+1)+cv (fun i=>Dj (row.getD j []) (i+1)) (u j) k)=_
  have:=Lo.cvr (fun i=>Dj (row.getD j []) (i+1)) (h j hj) k (Nat.lt_succ_self k)
  rw[← FD,this]
  show md (_+md 0)=_
  rw[FD,Int.add_zero]
variable {a:List Int} {J0:List (List Int)} {G:List Sr→List Sr} {J:List Sr→List (List Sr)} {y y' yS g:List Sr}
theorem aX (hy:BV m y)(hy':BV m y')(hm:1≤m)(h:Ev y=Ev y'){j:Nat}(hj:j<y.length):Lo 1 (CP y y' j):=fun k hk=>by
 have e:k=0:=by omega
 subst e
 have hl:y'.length=y.length:=by rw[← D0 (A:=y'),← h,D0]
 have h1:(Ev y).getD j 0=(Ev y').getD j 0:=by rw[h]
 unfold Ev at h1
 rw[Ci (d:=[]) hj,Ci (d:=[]) (by omega)]at h1
 show md ((y'.getD j []).getD 0 0-(y.getD j []).getD 0 0)=_
 rw[h1,Int.sub_self];rfl
end
end
section
structure HH (m m':Nat)(B B':List Sr):Prop where
 s:BV m B
 s':BV m' B'
 l:B.length=B'.length
 h:∀k,(B.getD k []).getD 0 0=(B'.getD k []).getD 0 0
section
variable {m m' ni k i:Nat} {B B' R R':List Sr} {s s':Sr} {cs:List AE} {r:Int} {os ws:List Int}
theorem Qg (l:List Sr)(i:Nat)(x:Sr)(j:Nat):(l.set i x).getD j []=if j=i∧i<l.length then x else l.getD j []:=by
 by_cases h:i<l.length
 ·rw[Dx _ _ _ _ _ h]
  by_cases e:j=i
  ·rw[if_pos e,if_pos ⟨e,h⟩]
  ·rw[if_neg e,if_neg fun h=>e h.1]
 ·rw[List.set_eq_of_length_le zO,if_neg fun h9=>h h9.2]
theorem HH.set (h:HH m m' B B')(hs:Cf m s)(hs':Cf m' s')(e:s.getD 0 0=s'.getD 0 0):HH m m' (B.set i s) (B'.set i s'):=by
 refine⟨h.s.set hs,h.s'.set hs',by rw[z6,z6,h.l],fun k=>?_⟩
 rw[Qg,Qg,h.l]
 split
 ·exact e
 ·exact h.h k
theorem HH.adP (hm:1≤m)(hm':1≤m')(h:HH m m' B B')(hr:r.toNat<B.length)(e:s.getD 0 0=s'.getD 0 0):HH m m' (ER B r s) (Go.Proofs.YtbajepcpgncekaaGreat.ER B' r s'):=by
 have h1:=h.s r.toNat hr
 have h2:=h.s' r.toNat (by rw[← h.l];exact hr)
 refine h.set (Gk h1) (Gk h2) ?_
 rw[Qb h1 zO,Qb h2 zO,h.h,e]
theorem HH.adI (hm:1≤m)(hm':1≤m')(h:HH m m' B B')(hR:HH m m' R R')(hk:k<B.length)(hf:Ey ni k (cs.getD k AE.zero)):HH m m' (Mq cs R k B) (Go.Proofs.YtbajepcpgncekaaGreat.Mq cs R' k B'):=by
 have b2:=fun h=>hf.i2 h
 have b7:=fun h=>hf.i7 h
 have h1:=h.s k hk
 have h2:=h.s' k (by rw[← h.l];exact hk)
 have hp:∀q,(Cc (B.getD k []) (R.getD q [])).getD 0 0=(Cc (B'.getD k []) (R'.getD q [])).getD 0 0:=fun q=>by
  rw[L3 (by rw[h1.1];omega),L3 (by rw[h2.1];omega),h.h,hR.h]
 have hq:∀q,(BM (B.getD k []) (R.getD q [])).getD 0 0=(BM (B'.getD k []) (R'.getD q [])).getD 0 0:=fun q=>by
  rw[NW (by rw[h1.1];omega),NW (by rw[h2.1];omega),h.h,hR.h]
 have hn:∀ {s s':Sr},Cf m s→Cf m' s'→s.getD 0 0=s'.getD 0 0→(Ct s 1000002).getD 0 0=(Ct s' 1000002).getD 0 0:=fun hs hs' e=>by
  rw[Qc hs zO,Qc hs' zO,e]
 by_cases h3:(cs.getD k AE.zero).op=3
 ·rw[O1 h3,O1 h3]
  have:=b2 zO
  exact (h.adP hm hm' zO<|h.h k).adP hm hm' (by rw[BJ];omega)<|h.h k
 by_cases h4:(cs.getD k AE.zero).op=4
 ·rw[O2 h4,O2 h4]
  have:=b2 zO
  exact (h.adP hm hm' zO<|h.h k).adP hm hm' (by rw[BJ];omega)<|hn h1 h2<|h.h k
 by_cases h5:(cs.getD k AE.zero).op=5
 ·rw[O3 h5,O3 h5]
  have:=b2 zO
  exact (h.adP hm hm' zO<|hp _).adP hm hm' (by rw[BJ];omega)<|hp _
 by_cases h6:(cs.getD k AE.zero).op=6
 ·rw[O4 h6,O4 h6]
  have:=b2 zO
  refine (h.adP hm hm' zO<|hq _).adP hm hm' (by rw[BJ];omega)<|hn (Gl<|Ff h1) (Gl<|Ff h2) ?_
  rw[L3 (by rw[DS,h1.1];omega),L3 (by rw[DS,h2.1];omega),hq,hR.h]
 by_cases h7:(cs.getD k AE.zero).op=7
 ·rw[O5 h7,O5 h7]
  have:=b7 h7
  exact h.adP hm hm' zO<|hn h1 h2<|h.h k
 have:(cs.getD k AE.zero).op<3∨7<(cs.getD k AE.zero).op:=by omega
 rw[O6 this,O6 this];exact h
theorem HH.adA (hm:1≤m)(hm':1≤m')(hR:HH m m' R R')(hf:∀k,k<cs.length→Ey ni k (cs.getD k AE.zero)):∀(n:Nat)(B B':List Sr),n≤cs.length→n≤B.length→HH m m' B B'→HH m m' (QZ cs R n B) (Go.Proofs.YtbajepcpgncekaaGreat.QZ cs R' n B')
 |0,_,_,_,_,h=>h
 |n+1,B,B',hn,hb,h=>HH.adA hm hm' hR hf n _ _ zO (by rw[KB];omega) (h.adI hm hm' hR zO (hf n zO))
theorem HH.wgt (hm:1≤m)(hm':1≤m')(h:HH m m' B B')(ho:∀k,k<os.length→(os.getD k 0).toNat<B.length):∀k,k≤os.length→HH m m' (LJ os ws k B) (Go.Proofs.YtbajepcpgncekaaGreat.LJ os ws k B')
 |0,_=>h
 |k+1,hk=>by
  have ih:=HH.wgt hm hm' h ho k zO
  have h1:=ih.s (os.getD k 0).toNat (by rw[DY];exact ho k zO)
  have h2:=ih.s' (os.getD k 0).toNat (by rw[DY,← h.l];exact ho k zO)
  refine ih.set ⟨by rw[z6];exact h1.1,JL h1.2<|C1 _⟩ ⟨by rw[z6];exact h2.1,JL h2.2<|C1 _⟩ ?_
  rw[Dx _ _ _ _ _ (by rw[h1.1];omega),Dx _ _ _ _ _ (by rw[h2.1];omega),if_pos rfl,if_pos rfl,ih.h]
theorem Vj (k:Nat):((Jg R).getD k []).getD 0 0=0:=by
 by_cases h:k<R.length
 ·rw[show(Jg R).getD k []=List.replicate (R.getD k []).length 0 from by unfold Jg;rw[Ci (d:=[]) h]];exact K8 _ 0
 ·rw[show(Jg R).getD k []=[]from by rw[List.getD_eq_getElem?_getD,List.getElem?_eq_none (by rw[CU];omega)];rfl];rfl
theorem HH.zrs (h:HH m m' R R'):HH m m' (Jg R) (Go.Proofs.YtbajepcpgncekaaGreat.Jg R'):=⟨GL h.s,GL h.s',by rw[CU,CU,h.l],fun k=>by rw[Vj,Vj]⟩
theorem HH.byN {L L':List Sr}(hm:1≤m)(hm':1≤m')(hL:HH m m' L L')(h:HH m m' B B')(hf:∀k,k<cs.length→Ey B.length k (cs.getD k AE.zero)):∀k,k≤cs.length→HH m m' (QN cs L k B) (Go.Proofs.YtbajepcpgncekaaGreat.QN cs L' k B')
 |0,_=>h
 |k+1,hk=>by
  have ih:=HH.byN hm hm' hL h hf k zO
  by_cases h1:(cs.getD k AE.zero).op=1
  ·rw[Ld h1,Ld h1]
   have:=(hf k zO).i1 h1
   exact ih.adP hm hm' (by rw[HX];omega)<|hL.h k
  ·rw[Le h1,Le h1];exact ih
theorem HH.rep (m m' ni:Nat):HH m m' (List.replicate ni (List.replicate m 0)) (List.replicate ni (List.replicate m' 0)):=by
 refine⟨Ji _ _,Ji _ _,by simp,fun k=>?_⟩
 by_cases h:k<ni
 ·rw[show(List.replicate ni (List.replicate m (0:Int))).getD k []=List.replicate m 0 from by simp[List.getD_eq_getElem?_getD,h],show(List.replicate ni (List.replicate m' (0:Int))).getD k []=List.replicate m' 0 from by simp[List.getD_eq_getElem?_getD,h],K8,K8]
 ·rw[show(List.replicate ni (List.replicate m (0:Int))).getD k []=[]from by simp[List.getD_eq_getElem?_getD,h],show(List.replicate ni (List.replicate m' (0:Int))).getD k []=[]from by simp[List.getD_eq_getElem?_getD,h]]
end
section
variable {p:List Fn} {f m r N i j s:Nat} {a:List Int} {A A':List Sr} {xs:List Int} {T:Tp}
structure JM (p:List Fn)(f:Nat)(a:List Int)(xs:List Int)(T:Tp):Prop where
 v:H6 p
 lt:f<p.length
 l:((a.length:Nat):Int)=(p.getD f Fn.zero).params
 n:B2 a=true
 r:∃s,AH (MR p f a) (xs,T) s 0
theorem Jk (hA:BV m A)(h:Ev A=a):OR m a A:=by rw[← h];exact QO hA
theorem JM.tp (h:JM p f a xs T)(hm:1≤m)(hA:BV m A)(hf:Ev A=a):Ds m A T∧(OH p m f A=xs.map fun r=>(B7 m A T.code).getD r.toNat [])∧Kb p m f A=0:=by
 obtain⟨s,hs⟩:=h.r
 have h1:=SD hm h.v h.lt h.n (Jk hA hf) h.l hs rfl
 exact⟨h1.1,h1.2,O0 hm h.v h.lt h.n (Jk hA hf) h.l hs⟩
theorem DZ (a:List Int):Ev (CO a)=a:=by
 unfold Ev CO
 rw[List.map_map]
 exact List.map_id'' (fun _=>rfl) a
theorem JM.en (h:JM p f a xs T):xs.length=(p.getD f Fn.zero).outs.length∧JH T xs:=by
 obtain⟨s,hs⟩:=h.r
 have hT:=Q6 (A7 1) h.v h.lt h.n (Jk (CJ h.n)<|DZ a) h.l
 rw[hs.ok]at hT
 obtain⟨z,h1,h2,h3,h4⟩:=hT
 exact⟨h4.1,fun k hk=>(h4.2.2 k (by rw[h4.1]at hk;exact hk)).1⟩
theorem JM.at (h:JM p f a xs T):cN p f a:=⟨h.v,h.lt,h.l,h.n,(h.tp (A7 1) (CJ h.n) (DZ a)).2.2⟩
theorem JM.vals (h:JM p f a xs T)(hm:1≤m)(hA:BV m A)(hf:Ev A=a)(hi:i<xs.length):(OH p m f A).getD i []=(B7 m A T.code).getD (xs.getD i 0).toNat []:=by
 rw[(h.tp hm hA hf).2.1,Ci (d:=0) hi]
theorem FI (a d:List Int):Ev (Ga a d 2)=a:=by
 refine List.ext_getElem (by simp) fun k h1 h2=>?_
 rw[← FF (d:=(0:Int)) h1,← FF (d:=(0:Int)) h2]
 unfold Ev
 rw[Ci (d:=[]) (by rw[Co];exact h2),Sx h2]
end
end
def Uo (p:List Fn)(f:Nat)(a:List Int):RL:=match MR p f a with
 |.ok x _=>x
 |.err _=>([],⟨[],[],[]⟩)
theorem Uq {p:List Fn}{f:Nat}{a:List Int}{x:RL}{s:Nat}(h:AH (MR p f a) x s 0):Uo p f a=x:=by unfold Uo;rw[h.ok]
section
section
variable {p:List Fn} {f k o i m q:Nat} {a d:List Int} {y Y:List Sr} {xs:List Int} {T:Tp} {nx:Nat→List Sr→List Int}
theorem XJ (hv:H6 p)(hf:f<p.length)(hl:((a.length:Nat):Int)=(p.getD f Fn.zero).params)(hn:B2 a=true)(h0:G8 p f a=0):∃xs T,JM p f a xs T:=by
 cases hr:MR p f a with
 |ok x s=>exact⟨x.1,x.2,hv,hf,hl,hn,s,by rw[hr];exact AH.mk_ok rfl⟩
 |err c =>
  have hT:=Q6 (A7 1) hv hf hn (Jk (CJ hn)<|DZ a) hl
  rw[hr]at hT
  have h9:ev p 1 f (CO a)=.err c:=hT
  have h8:G8 p f a=c:=Hq h9
  rcases NX hv hf (CJ hn) (by unfold CO;rw[zg];exact hl)with⟨z,t,h1,_⟩|h1|h1
  ·rw[h1]at h9;cases h9
  ·rw[h1]at h9;cases h9;omega
  ·rw[h1]at h9;cases h9;omega
end
end
section
def MX (m:Nat)(T:Tp)(xs ws:List Int)(A:List Sr):List Sr:=Ul A.length m T.code (Jh T.code (B7 m A T.code) xs ws)
section
variable {p:List Fn} {f m m' i:Nat} {a d:List Int} {A A':List Sr} {xs ws:List Int} {T:Tp}
@[simp] theorem FJ:(MX m T xs ws A).length=A.length:=Qa
theorem O8 (hm:1≤m)(hm':1≤m')(h:Ds m A T)(h':Ds m' A' T)(hl:A.length=A'.length)(hE:JH T xs)(ws:List Int):HH m m' (MX m T xs ws A) (MX m' T xs ws A'):=by
 have hR:HH m m' (B7 m A T.code) (B7 m' A' T.code):=⟨h.regs,h'.regs,by rw[BQ,BQ],fun k=>by
  by_cases hk:k<T.code.length
  ·rw[(h.ser k hk).2,(h'.ser k hk).2]
  ·rw[show(B7 m A T.code).getD k []=[]from by rw[List.getD_eq_getElem?_getD,List.getElem?_eq_none (by rw[BQ];omega)];rfl,show(B7 m' A' T.code).getD k []=[]from by rw[List.getD_eq_getElem?_getD,List.getElem?_eq_none (by rw[BQ];omega)];rfl]⟩
 have hx:=h.outs hE
 unfold MX Ul
 rw[← hl]
 refine HH.byN hm hm' ?_ (HH.rep m m' _) (fun k hk=>by rw[z5];exact h.form k hk) _<|A7 _
 unfold Jh
 refine HH.adA hm hm' hR h.form _ _ _ (A7 _) (by rw[DY,CU,BQ];exact A7 _)<|hR.zrs.wgt hm hm' (fun q hq=>?_) _<|A7 _
 rw[CU,BQ]
 have:=hx q hq
 omega
theorem JM.bk_ser (h:JM p f a xs T)(hm:1≤m)(hA:BV m A)(hf:Ev A=a)(ws:List Int):BV m (MX m T xs ws A):=by
 unfold MX
 exact Q9 (h.tp hm hA hf).1.form
theorem JM.rev (h:JM p f a xs T)(hm:1≤m)(hA:BV m A)(hf:Ev A=a)(hnd:B2 d=true) :
  md (sm a.length fun k=>((MX m T xs ws A).getD k []).getD 0 0*d.getD k 0)=md (sm xs.length fun i=>ws.getD i 0*((Y1 p f a d).getD i []).getD 1 0):=by
 have hn0:B2 (List.replicate a.length 0)=true:=Ho _
 have s0:BV 2 (Ga a (List.replicate a.length 0) 2):=FH h.n hn0
 have s1:BV 2 (Ga a d 2):=FH h.n hnd
 have hl:A.length=a.length:=by rw[← hf,D0]
 have t0:=h.tp (m:=2) (by decide) s0<|FI _ _
 have t1:=h.tp (m:=2) (by decide) s1<|FI _ _
 have hh:=O8 hm (by decide:1≤2) (h.tp hm hA hf).1 t0.1 (by rw[Co,hl]) h.en.2 ws
 have ho:∀q,q<a.length→Lo 1 (CP (Ga a (List.replicate a.length 0) 2) (Ga a d 2) q):=fun q hq=>aX s0 s1 (by decide) (by rw[FI,FI]) (by rw[Co];exact hq)
 have hx:=t0.1.outs h.en.2
 have ht:=Um (m:=2) (ni:=a.length) (os:=xs) (ws:=ws) (Un (r:=1) (N:=2) t0.1 t1.1 (by decide) (fun q hq=>ho q (by rw[Co]at hq;exact hq)) (by decide) (by decide)) (by decide) (by decide) t0.1.regs (BQ _) (fun k hk=>by have:=t0.1.form k hk;rw[Co]at this;exact this) (fun k hk h6=>t0.1.rz hk h6) (fun q hq=>by have:=hx q hq;omega) 1 (by decide)
 rw[XI (k:=1) ho]at ht
 have e0:(MX 2 T xs ws (Ga a (List.replicate a.length 0) 2))=Ul a.length 2 T.code (Jh T.code (B7 2 (Ga a (List.replicate a.length 0) 2) T.code) xs ws):=by unfold MX;rw[Co]
 rw[← e0]at ht
 have e1:(sm a.length fun q=>Dj ((MX 2 T xs ws (Ga a (List.replicate a.length 0) 2)).getD q []) 0*CP (Ga a (List.replicate a.length 0) 2) (Ga a d 2) q 1)=sm a.length fun k=>((MX m T xs ws A).getD k []).getD 0 0*d.getD k 0:=Fe fun q hq=>by
  unfold CP
  rw[show Dj ((Ga a d 2).getD q []) 1=_ from Q5 hq,show Dj ((Ga a (List.replicate a.length 0) 2).getD q []) 1=_ from Q5 hq,K8,Int.sub_zero,hh.h q];rfl
 rw[e1]at ht
 rw[ht]
 have hat:=h.at
 refine KO fun i hi=>?_
 have hz:=Sy (K:=0) (d:=List.replicate a.length 0) (D:=fun _=>[]) (c:=fun _=>0) h.v h.lt h.l h.n hn0 (fun k hk=>absurd hk<|Nat.not_lt_zero k) (fun i hi=>by rw[K8];rfl) hat.z (r:=i) (by rw[← h.en.1];exact hi)
 have hz':((OH p 2 f (Ga a (List.replicate a.length 0) 2)).getD i []).getD 1 0=0:=hz
 unfold CP
 rw[← h.vals (by decide) s0 (FI _ _) hi,← h.vals (by decide) s1 (FI _ _) hi]
 rw[show Dj ((OH p 2 f (Ga a (List.replicate a.length 0) 2)).getD i []) 1=0 from hz',Int.sub_zero];rfl
theorem JM.rev_col (h:JM p f a xs T)(hm:1≤m)(hA:BV m A)(hf:Ev A=a){k:Nat}(hk:k<a.length) :
  ((MX m T xs ws A).getD k []).getD 0 0=md (sm xs.length fun i=>ws.getD i 0*((Y1 p f a (eV a.length k)).getD i []).getD 1 0):=by
 have hl:A.length=a.length:=by rw[← hf,D0]
 rw[← h.rev hm hA hf (XC a.length k)]
 have e:(sm a.length fun q=>((MX m T xs ws A).getD q []).getD 0 0*(eV a.length k).getD q 0)=sm a.length fun q=>if k=q then((MX m T xs ws A).getD q []).getD 0 0 else 0:=Fe fun q _=>by
  rw[XB hk]
  split
  ·rw[Int.mul_one]
  ·rw[Int.mul_zero]
 rw[e,NE k (fun q=>((MX m T xs ws A).getD q []).getD 0 0),if_pos hk]
 have:=C6 ((h.bk_ser hm hA hf ws) k (by rw[FJ,hl];exact hk)).2 0
 exact (Pp this.1 this.2).symm
end
end
section
def QP:List ByteArray:=[⟨#[114]⟩,⟨#[108,111,111,112]⟩]
theorem XK:∀t∈QP,Kr t=true:=by decide +kernel
theorem XL:∀s∈LQ,∀t∈QP,∀i:Fin 10,HZ (s++IU i.val) t=false:=by decide +kernel
theorem Om.rnd {p:List Fn}{pl:Bool}{f:Fn}{i:Nat}(h:KU p pl)(hd:Dn p)(hl:p.length≤9)(hp:1≤f.params∧f.params≤3)(hi:1≤i∧i≤3)(ho:Om p f.params pl f.outs i)
  (hf:f.name∈QP):KU (p++[f]) pl :=
 h.snoc zO hp (by rw[ho.len];exact hi) (fun j hj=>ho.wf j (by rw[← ho.len];exact hj)) ho.dp (by have:=ho.sz;omega) ho.pl (XK _ hf) (fun k hk=>by
  obtain⟨t,ht,e⟩:=hd k hk
  rw[e]
  exact XL t ht _ hf ⟨k,zO⟩)
theorem Ur {x:ByteArray}(h:Value.string x∈[Value.string ⟨#[114]⟩,.string ⟨#[114]⟩,.string ⟨#[114]⟩,.string ⟨#[108,111,111,112]⟩]):x∈QP:=by
 simp only[ze,z2,or_false,Value.string.injEq]at h
 unfold QP
 rcases h with rfl|rfl|rfl|rfl <;> simp
structure Us (p:List Fn)(f:Int)(a b:List Int):Prop where
 dr:KU p false
 len:1≤p.length∧p.length≤12
 fe:f=((p.length:Nat):Int)-1
 sq:(((p.getD f.toNat Fn.zero).outs.length:Nat):Int)=(p.getD f.toNat Fn.zero).params
 par:1≤(p.getD f.toNat Fn.zero).params∧(p.getD f.toNat Fn.zero).params≤3
 la:((a.length:Nat):Int)=(p.getD f.toNat Fn.zero).params∧B2 a=true
 lb:((b.length:Nat):Int)=(p.getD f.toNat Fn.zero).params∧B2 b=true
theorem Us.mk' {p:List Fn}{g:Fn}{f:Int}{i:Nat}{a b:List Int}(h:KU p false)(hd:Dn p)(hl:p.length≤9)(hp:1≤g.params∧g.params≤3)(ho:Om p g.params false g.outs i)(hi:((i:Nat):Int)=g.params)(hn:g.name∈QP)
  (hf:f=((p.length:Nat):Int)) (hla:((a.length:Nat):Int)=g.params∧B2 a=true) (hlb:((b.length:Nat):Int)=g.params∧B2 b=true):Us (p++[g]) f a b:=by
 have h1:=ho.rnd h hd hl hp zO hn
 have e:(p++[g]).getD f.toNat Fn.zero=g:=H5 zO
 refine⟨h1,by rw[z4,zd];omega,by rw[z4,zd];omega,?_,?_,?_,?_⟩
 ·rw[e,ho.len];exact hi
 ·rw[e];exact hp
 ·rw[e];exact hla
 ·rw[e];exact hlb
def SQ (p:List Fn)(f:Nat)(s ws:List Int):List Int:=Ev (MX 1 (Uo p f s).2 (Uo p f s).1 ws (CO s))
def Jt (p:List Fn)(f:Nat)(a:List Int):Nat→List Int→List Int
 |0,ws=>ws
 |n+1,ws=>Jt p f a n (SQ p f (Ch p f a n) ws)
structure Mr (p:List Fn)(f:Nat)(a:List Int)(n:Nat):Prop where
 v:H6 p
 lt:f<p.length
 sq:(((p.getD f Fn.zero).outs.length:Nat):Int)=(p.getD f Fn.zero).params
 l:((a.length:Nat):Int)=(p.getD f Fn.zero).params
 na:B2 a=true
 k:Eo p f a n=0
section
variable {p:List Fn} {f n k m:Nat} {a s ws us d xs:List Int} {T:Tp} {A:List Sr}
theorem MY (h:Eo p f a n=0)(hk:k≤n):Eo p f a k=0:=by
 by_cases h0:Eo p f a k=0
 ·exact h0
 ·rw[Je h0 hk]at h;exact h
theorem Mr.low (h:Mr p f a n)(hk:k≤n):Mr p f a k:=⟨h.v,h.lt,h.sq,h.l,h.na,MY h.k hk⟩
theorem Yu (hv:H6 p)(hf:f<p.length)(hl:((s.length:Nat):Int)=(p.getD f Fn.zero).params)(hn:B2 s=true):QY p f s:=QY.mk' (aQ hv hf (CJ hn) (by unfold CO;rw[zg];exact hl))
theorem Mr.st:∀ {n:Nat},Mr p f a n→(Ch p f a n).length=a.length∧B2 (Ch p f a n)=true
 |0,h=>⟨rfl,h.na⟩
 |n+1,h=>by
  have h0:=h.low<|Nat.le_succ n
  have ih:=h0.st
  have hN:=Yu h.v h.lt (s:=Ch p f a n) (by rw[ih.1];exact h.l) ih.2
  have hz:G8 p f (Ch p f a n)=0:=by rw[← DX h0.k];exact h.k
  have:=hN.len hz
  have:=h.sq;have:=h.l
  exact⟨by show(Oq p f (Ch p f a n)).length=_;omega,hN.num⟩
theorem Mr.nx (h:Mr p f a n)(hk:k<n):G8 p f (Ch p f a k)=0:=by rw[← DX (MY h.k (Nat.le_of_lt hk))];exact MY h.k hk
theorem Mr.rc (h:Mr p f a n)(hk:k<n):∃xs T,JM p f (Ch p f a k) xs T:=by
 have h1:=(h.low<|Nat.le_of_lt hk).st
 exact XJ h.v h.lt (by rw[h1.1];exact h.l) h1.2<|h.nx hk
theorem JM.bkR (h:JM p f s xs T)(hm:1≤m)(hA:BV m A)(hf:Ev A=s):Ev (MX m T xs ws A)=Go.Proofs.YtbajepcpgncekaaGreat.SQ p f s ws:=by
 obtain⟨q,hq⟩:=h.r
 have hl:A.length=s.length:=by rw[← hf,D0]
 have hh:=O8 hm (A7 1) (h.tp hm hA hf).1 (h.tp (A7 1) (CJ h.n)<|DZ s).1 (by rw[Hn,hl]) h.en.2 ws
 unfold Go.Proofs.YtbajepcpgncekaaGreat.SQ
 rw[Uq hq]
 refine Yk (by rw[D0,D0,FJ,FJ,Hn,hl]) fun j hj=>?_
 rw[D0,FJ]at hj
 unfold Ev
 rw[Ci (d:=[]) (by rw[FJ];exact hj),Ci (d:=[]) (by rw[FJ,Hn];omega)]
 exact hh.h j
theorem FK:(SQ p f s ws).length=s.length:=by unfold SQ;rw[D0,FJ,Hn]
theorem JM.bkR_num (h:JM p f s xs T):B2 (Go.Proofs.YtbajepcpgncekaaGreat.SQ p f s ws)=true:=by
 rw[← h.bkR (A7 1) (CJ h.n) (DZ s)]
 exact L1 (n:=0)<|h.bk_ser (A7 1) (CJ h.n) (DZ s) ws
theorem JM.bkR_at (h:JM p f s xs T)(hk:k<s.length) :
  (Go.Proofs.YtbajepcpgncekaaGreat.SQ p f s ws).getD k 0=md (sm xs.length fun i=>ws.getD i 0*((Y1 p f s (eV s.length k)).getD i []).getD 1 0):=by
 rw[← h.rev_col (ws:=ws) (A7 1) (CJ h.n) (DZ s) hk,← h.bkR (A7 1) (CJ h.n) (DZ s)]
 unfold Ev
 rw[Ci (d:=[]) (by rw[FJ,Hn];exact hk)]
theorem JM.bkR_add (h:JM p f s xs T)(hu:ws.length=xs.length):Go.Proofs.YtbajepcpgncekaaGreat.SQ p f s (Ce ws us)=Ce (Go.Proofs.YtbajepcpgncekaaGreat.SQ p f s ws) (Go.Proofs.YtbajepcpgncekaaGreat.SQ p f s us):=by
 refine Yk (by rw[Di,FK,FK]) fun k hk=>?_
 rw[FK]at hk
 rw[Ic (by rw[FK];exact hk),h.bkR_at hk,h.bkR_at hk,h.bkR_at hk,DR,← RA]
 refine KO fun i hi=>?_
 rw[Ic (by rw[hu];exact hi),Eg,← Int.add_mul]
theorem KE:∀ {n:Nat}{ws:List Int},Mr p f a n→ws.length=a.length→(Jt p f a n ws).length=a.length
 |0,_,_,h=>h
 |n+1,ws,hc,h=>KE (n:=n) (ws:=SQ p f (Ch p f a n) ws) (hc.low (Nat.le_succ n)) (by rw[FK];exact(hc.low (Nat.le_succ n)).st.1)
theorem Qh:∀ {n:Nat}{ws:List Int},Mr p f a n→B2 ws=true→B2 (Jt p f a n ws)=true
 |0,_,_,h=>h
 |n+1,ws,hc,h=>by
  obtain⟨xs,T,hr⟩:=hc.rc (Nat.lt_succ_self n)
  exact Qh (n:=n) (ws:=SQ p f (Ch p f a n) ws) (hc.low<|Nat.le_succ n) hr.bkR_num
theorem Qi:∀ {n:Nat}{ws us:List Int},Mr p f a n→ws.length=a.length→Jt p f a n (Ce ws us)=Ce (Jt p f a n ws) (Jt p f a n us)
 |0,_,_,_,_=>rfl
 |n+1,ws,us,hc,h=>by
  obtain⟨xs,T,hr⟩:=hc.rc (Nat.lt_succ_self n)
  have h0:=hc.low<|Nat.le_succ n
  have hx:xs.length=(p.getD f Fn.zero).outs.length:=hr.en.1
  show Jt p f a n (SQ p f (Ch p f a n) (Ce ws us))=_
  rw[hr.bkR_add (by have:=hc.sq;have:=hc.l;omega)]
  exact Qi (n:=n) h0 (by rw[FK];exact h0.st.1)
theorem HY (k:Nat):∀j,Ch p f (Ch p f a k) j=Ch p f a (k+j)
 |0=>rfl
 |j+1=>by
  show Oq p f (Ch p f (Ch p f a k) j)=Oq p f (Ch p f a (k+j))
  rw[HY k j]
theorem Mr.shift (h:Mr p f a n)(hk:k≤n):∀j,k+j≤n→Mr p f (Ch p f a k) j:=fun j hj=>by
 have h1:=(h.low hk).st
 refine⟨h.v,h.lt,h.sq,by rw[h1.1];exact h.l,h1.2,?_⟩
 induction j with
 |zero=>rfl
 |succ j ih =>
  rw[DX (ih zO),HY]
  exact h.nx zO
theorem Lf (k:Nat):∀(j:Nat)(ws:List Int),Jt p f a (k+j) ws=Jt p f a k (Jt p f (Ch p f a k) j ws)
 |0,_=>rfl
 |j+1,ws=>by
  show Jt p f a (k+j) (SQ p f (Ch p f a (k+j)) ws)=Jt p f a k (Jt p f (Ch p f a k) j (SQ p f (Ch p f (Ch p f a k) j) ws))
  rw[HY]
  exact Lf k j _
end
end
section
structure Yw (ni:Nat)(T:Tp)(o:List Int):Prop where
 nb:ni≤12
 cl:T.code.length≤3200
 gl:T.grd.length≤3200
 form:∀k,k<T.code.length→Ey ni k (T.code.getD k AE.zero)
 gd:∀k,k<T.grd.length→0≤(T.grd.getD k Iv.zero).reg∧(T.grd.getD k Iv.zero).reg<((T.code.length:Nat):Int)
 ol:1≤o.length∧o.length≤12
 out:∀k,k<o.length→0≤o.getD k 0∧o.getD k 0<((T.code.length:Nat):Int)
theorem Yw.pos {ni:Nat}{T:Tp}{o:List Int}(h:Yw ni T o):0<T.code.length:=by
 have:=h.out 0 (by have:=h.ol;omega)
 omega
theorem Yw.any {ni:Nat}{T:Tp}{o:List Int}(h:Yw ni T o):(o.any fun x=>!(decide (0≤x) && decide (x≤((T.code.length:Nat):Int)-1)))=false:=by
 rw[List.any_eq_false]
 intro x hx
 obtain⟨j,hj,rfl⟩:=List.mem_iff_getElem.1 hx
 have h9:=h.out j hj
 rw[List.getD_eq_getElem?_getD,List.getElem?_eq_getElem hj,Option.getD_some]at h9
 rw[A5 h9.1,A5 (show o[j]≤((T.code.length:Nat):Int)-1 by omega)]
 decide
structure R0 (a:List Int)(T:Tp)(o:List Int):Prop where
 k:Yw a.length T o
 n:B2 a=true
 e:JH T o
 i:∀d,B2 d=true→Ds 2 (Ga a d 2) T
section
variable {p:List Fn} {f:Nat} {a d xs ws:List Int} {T:Tp} {s:Nat}
theorem JM.tpr (h:JM p f a xs T)(hB:JG T s)(hs:s≤3000):R0 a T xs:=by
 have hi:∀d,B2 d=true→Ds 2 (Ga a d 2) T:=fun d hd=>(h.tp (m:=2) (by decide) (FH h.n hd) (FI _ _)).1
 have h0:=hi _<|Ho a.length
 obtain⟨b1,b2,b3,b4⟩:=hB
 have hp:=h.v.par f h.lt
 have ho:=h.v.outs f h.lt
 have hl:=h.l
 have he:=h.en
 refine⟨⟨zO,zO,zO,fun k hk=>?_,fun k hk=>?_,by rw[he.1];exact ho,h0.outs he.2⟩,h.n,he.2,hi⟩
 ·have:=h0.form k hk
  rwa [Co]at this
 ·have:=(h0.gd k hk).1
  omega
theorem Ut {k:Nat}(hk:k<a.length):(Ga a d 2).getD k []=[a.getD k 0,d.getD k 0]:=by rw[L4 hk];rfl
theorem R0.reg (h:R0 a T xs)(hd:B2 d=true):BV 2 (B7 2 (Ga a d 2) T.code):=(h.i d hd).regs
theorem R0.adj (h:R0 a T xs)(hd:B2 d=true):BV 2 (Jh T.code (B7 2 (Ga a d 2) T.code) xs ws):=(h.i d hd).adj h.e
theorem R0.nz (h:R0 a T xs)(hd:B2 d=true):L6 2 (Ga a d 2) T.code T.code.length:=(h.i d hd).nz
end
section ops
variable {P:Program} {ops:Array Oper} {w0:World} {Q:Act→World→Prop} {os:List Oper} {ks:List Nat} {N:Nat} {ρ:Nat→Value} {w:World}
 {d:Nat} {ty:TypeId} {pos:String} {aft:Array Edge} {g:Option (Nat×Bool)} {t e:TypeId} {z:Value} {b:Nat}
theorem Qj {y0 y1:Operand}{u0 u1:Value}{x0 x1:List Int}(ht:P.underlying t=some (.slice e))(hi:TI P e 1 z b)(hz:z.cells=#[z])
  (h0:Bq N ρ y0=u0) (h1:Bq N ρ y1=u1) (r0:RN [] (B3 rI) w.heap u0 x0) (r1:RN [] (B3 rI) w.heap u1 x1)
  (hu:Up ops N ρ ⟨some d,.buildSlice t 2 #[(0,y0),(1,y1)],ty,pos,aft,g⟩)
  (h:∀v w1,AF w w1→w1.heap.size=w.heap.size+1→RN [] (B3 (B3 rI)) w1.heap v [x0,x1]→C5 v→LW P ops w0 Q os ks (mk N (CD ρ d v)) w1) :
  LW P ops w0 Q (⟨some d,.buildSlice t 2 #[(0,y0),(1,y1)],ty,pos,aft,g⟩::os) (3::ks) (mk N ρ) w:=by
 have c0:=r0.one1 g1
 have c1:=r1.one1 g1
 refine V6 (ys:=[u0,u1]) By ht hi hz h0 h1 rfl (KK fun u hu=>?_) hu fun v w1 hE hs hF=>?_
 ·simp only[ze,z2,or_false]at hu
  rcases hu with rfl|rfl
  ·exact c0
  ·exact c1
 ·have hcap:=hF.cap
  obtain⟨F,f1,f2,f3⟩:=hF
  have hB:Hi e [] w.heap.size w1.heap v [x0,x1] [u0,u1] F:=by
   refine⟨f1,f2,fun b hb=>(f3 b hb).1,rfl,fun k hk=>?_⟩
   have key:∀ {v0:Value} {x:List Int},RN [] (B3 rI) w.heap v0 x→RN ([]++F) (B3 rI) w1.heap v0 x:=by
    rintro v0 x ⟨K,k1,k2⟩
    have hlt:=g1.lt k1
    exact⟨K,g1.stable k1 fun c hc=>hE.heap (hlt c hc),fun c hc hm=>by have:=hlt c hc;have:=f3 c (by simpa using hm);omega⟩
   match k with
   |0=>exact key r0
   |1=>exact key r1
   |k+2=>simp at hk;omega
  exact h v w1 hE hs (hB.done fun b hb=>absurd hb z2) hcap
end ops
end
section
def I1 (p:List Fn)(f:Int)(a ws:List Int)(n:Int):Int:=if EQ p f [a,ws]=0 then(if E7 n 0 40=true then 0 else 2)else EQ p f [a,ws]
def D7 (p:List Fn)(f:Int)(a ws:List Int)(n:Int):Int:=if I1 p f a ws n=0 then Eo p f.toNat a n.toNat else I1 p f a ws n
def Uu (p:List Fn)(f:Int)(a ws:List Int)(n:Int):List Int:=if D7 p f a ws n=0 then Jt p f.toNat a n.toNat ws else []
section
variable {p:List Fn} {f n:Int} {a ws:List Int}
theorem Lg:0≤I1 p f a ws n∧I1 p f a ws n≤2:=by
 have:=Kt p f [a,ws]
 unfold I1;split <;> (try split) <;> omega
theorem FX (h:EQ p f [a,ws]≠0):I1 p f a ws n=EQ p f [a,ws]:=if_neg h
theorem FY (h:EQ p f [a,ws]=0)(h2:E7 n 0 40=false):I1 p f a ws n=2:=by unfold I1;rw[if_pos h,h2];rfl
theorem Iz (h:EQ p f [a,ws]=0)(h2:E7 n 0 40=true):I1 p f a ws n=0:=by unfold I1;rw[if_pos h,h2];rfl
theorem FZ (h:I1 p f a ws n≠0):D7 p f a ws n=I1 p f a ws n:=if_neg h
theorem EF (h:I1 p f a ws n=0):D7 p f a ws n=Eo p f.toNat a n.toNat:=if_pos h
theorem GO (h:D7 p f a ws n≠0):Uu p f a ws n=[]:=if_neg h
theorem Ht (h:D7 p f a ws n=0):Uu p f a ws n=Jt p f.toNat a n.toNat ws:=if_pos h
theorem Vk (h:EQ p f [a,ws]=0):G7 p=true∧(0≤f∧f<((p.length:Nat):Int))∧(1≤(p.getD f.toNat Fn.zero).params∧(((p.getD f.toNat Fn.zero).outs.length:Nat):Int)=(p.getD f.toNat Fn.zero).params) ∧
  (((a.length:Nat):Int)=(p.getD f.toNat Fn.zero).params∧B2 a=true)∧(((ws.length:Nat):Int)=(p.getD f.toNat Fn.zero).params∧B2 ws=true):=by
 unfold EQ at h
 split at h
 ·rename_i h3
  split at h
  ·rename_i h4
   split at h
   ·rename_i h5
    rw[HS]at h4
    simp only[List.all_cons,List.all_nil,Bool.and_true,z7,decide_eq_true_eq]at h5
    exact⟨h3,⟨h4.1.1,zO⟩,⟨h4.2.1,h4.2.2⟩,⟨h5.1.1,h5.1.2⟩,⟨h5.2.1,h5.2.2⟩⟩
   ·omega
  ·omega
 ·omega
theorem O9 (h1:G7 p=true)(h2:0≤f∧f<((p.length:Nat):Int))(h3:1≤(p.getD f.toNat Fn.zero).params∧(((p.getD f.toNat Fn.zero).outs.length:Nat):Int)=(p.getD f.toNat Fn.zero).params)
  (h4:((a.length:Nat):Int)=(p.getD f.toNat Fn.zero).params∧B2 a=true) (h5:((ws.length:Nat):Int)=(p.getD f.toNat Fn.zero).params∧B2 ws=true):EQ p f [a,ws]=0∧EQ p f [a]=0:=by
 have hr:Mm p f=true:=HS.2 ⟨⟨h2.1,zO⟩,h3.1,h3.2⟩
 unfold EQ
 rw[if_pos h1,if_pos h1,if_pos hr,if_pos hr]
 exact⟨if_pos (by rw[List.all_cons,List.all_cons,List.all_nil,A5 h4.1,A5 h5.1,h4.2,h5.2];rfl),if_pos (by rw[List.all_cons,List.all_nil,A5 h4.1,h4.2];rfl)⟩
theorem SR (h:I1 p f a ws n=0):EQ p f [a,ws]=0∧(0≤n∧n≤40):=by
 by_cases h1:EQ p f [a,ws]=0
 ·cases h2:E7 n 0 40 with
  |true=>exact⟨h1,Br.1 h2⟩
  |false=>rw[FY h1 h2]at h;omega
 ·rw[FX h1]at h;exact absurd h h1
theorem Vl (h1:EQ p f [a]=0)(hn:0≤n∧n≤40):Hs p f a n=0:=by unfold Hs;rw[if_pos h1,Br.2 hn];rfl
end
def Oa (v:Value)(k:Nat):Value:=match v with
 |.slice a n c=>.slice (if c=k then a else a.map (·.add k)) (n-k) (c-k)
 |v=>v
theorem SS {α:Type}{E:Bi α}{H:Array Obj}:∀ {us:List Value}{xs:List α}{F:List Nat}(k:Nat),els E H us xs F→∃G,els E H (us.drop k) (xs.drop k) G∧∀b∈G,b∈F:=by
 intro us
 induction us with
 |nil=>intro xs F k h;cases xs with
  |nil=>exact⟨F,by simpa using h,fun b hb=>hb⟩
  |cons=>exact h.elim
 |cons u us ih =>
  intro xs F k h
  cases xs with
  |nil=>exact h.elim
  |cons x xs =>
   cases k with
   |zero=>exact⟨F,h,fun b hb=>hb⟩
   |succ k =>
    obtain⟨A,C,rfl,p1,p2⟩:=h
    obtain⟨G,g1,g2⟩:=ih k p2
    exact⟨G,g1,fun b hb=>z1 _ (g2 b hb)⟩
theorem Rd.suf {α:Type}{E:Bi α}{H:Array Obj}{v:Value}{xs:List α}{k:Nat}(h:Rd (B3 E) H v xs)(hl:k≤xs.length)(hc:C5 v):Rd (B3 E) H (Oa v k) (xs.drop k):=by
 obtain⟨F,h⟩:=h
 rcases h with⟨a,cap,rfl,rfl,rfl⟩|⟨us,g,off,cap,cur,e,fr,F',hels,rfl,hg,ht,hm,rfl⟩
 ·have:k=0:=by simpa using hl
  subst this
  exact⟨[],.inl ⟨_,_,rfl,rfl,rfl⟩⟩
 ·have hlen:=hels.length
  have hcap:xs.length≤cap:=hc
  by_cases h1c:cap=k
  ·have hx0:xs.drop k=[]:=List.drop_eq_nil_of_le zO
   rw[hx0]
   refine⟨[],.inl ⟨some ⟨g,off,none⟩,cap-k,?_,rfl,rfl⟩⟩
   have h8:xs.length-k=0:=by omega
   unfold Oa
   simp only[h8]
   rw[if_pos h1c]
  ·obtain⟨G,g1,g2⟩:=SS k hels
   have hl2:(xs.drop k).length=xs.length-k:=List.length_drop
   refine⟨g::G,.inr ⟨us.drop k,g,off+k,cap-k,cur,e,fr,G,g1,?_,hg,?_,zO,rfl⟩⟩
   ·simp[Oa,h1c,Addr.add]
   ·rw[hl2]
    have h9:(cur.toList.drop off).drop k=cur.toList.drop (off+k):=by rw[List.drop_drop]
    rw[← h9]
    have h8:((cur.toList.drop off).take xs.length).drop k=us.drop k:=by rw[ht]
    rw[List.drop_take]at h8
    exact h8
section ops
variable {P:Program} {ops:Array Oper} {w0:World} {Q:Act→World→Prop} {os:List Oper} {ks:List Nat} {N:Nat} {ρ:Nat→Value} {w:World}
 {d:Nat} {ty:TypeId} {pos:String} {aft:Array Edge} {g:Option (Nat×Bool)} {t e:TypeId} {z:Value} {b:Nat}
theorem ST {x y:Operand}{v z:Value}{n b k:Nat}(ht:P.underlying t=some (.slice e))(hi:TI P e 1 z b)(hx:Bq N ρ x=v)(hs:EA v n)(hc:C5 v)(hy:Bq N ρ y=.int .i64 (k:Int))(hk:k≤n)(hu:Up ops N ρ ⟨some d,.slice t x (some y) none none,ty,pos,aft,g⟩)
  (h:LW P ops w0 Q os ks (mk N (CD ρ d (Oa v k))) w):LW P ops w0 Q (⟨some d,.slice t x (some y) none none,ty,pos,aft,g⟩::os) (0::ks) (mk N ρ) w:=by
 obtain⟨a,cap,rfl,_⟩:=hs
 obtain⟨inf,h1,_,h3,_⟩:=hi.get
 refine Cr (by decide) rfl hu _ (fun w' _=>?_) h
 have hl:n≤cap:=hc
 have e1:((0:Int)≤(k:Int)):=by omega
 by_cases hc1:cap=k
 ·subst hc1
  have:n=cap:=by omega
  subst this
  simp[execOp,hx,hy,Instr.sliceAt,Instr.slice,Instr.sliceBounds,Instr.sliceBound,asIntOf,run_underlying ht,sizeOf,typeInfo,h1,h3,Oa]
 ·have e2:cap-k≠0:=by omega
  have e3:¬cap≤k:=by omega
  simp[execOp,hx,hy,Instr.sliceAt,Instr.slice,Instr.sliceBounds,Instr.sliceBound,asIntOf,run_underlying ht,sizeOf,typeInfo,h1,h3,Oa,hk,hl,hc1,e2,e3]
  try (intro h9;omega)
end ops
end
section
open Go Go.ChangeShapes Go.WideShapes Go.RowKit Go.Deep
section
variable {H:Type} {enc:TypeId × Value→H} {P:Program} {W:World}
theorem QQ {t q:TypeId}{base:Nat}{held:Bool}{v:Value}{d:DataW H}{ps:List MemPlace}(ht:P.underlying t=some (.slice q))(hq:P.underlying q=some (.int .u8))(cq:P.cellsOf q=1)
  (hv:∃a len cap,v=.slice a len cap) (h:DataW.Trod enc P W base (fun _=>true) held t v d ps):(∃zs:List UInt8,Rd (B3 rU) W.heap v zs)∧C5 v:=by
 refine⟨Nt ht hq cq hv h,?_⟩
 obtain⟨a0,n0,c0,rfl⟩:=hv
 obtain⟨fuel,hf⟩:=h
 rcases open_ints ht hq cq hf with⟨hcs,_⟩|⟨a,len,cap,zs,hcs,_,hl,hm,hz,_,hc,hw⟩
 ·have hcs':[Value.slice a0 n0 c0]=[.slice none 0 0]:=hcs
  rw[(List.cons.inj hcs').1]
  exact A7 _
 ·have hcs':[Value.slice a0 n0 c0]=[.slice (some a) len cap]:=hcs
  rw[(List.cons.inj hcs').1]
  exact hl
end
section
variable {p:List Fn} {f n k:Nat} {a ws us:List Int}
theorem Mr.tail (h:Mr p f a n)(hk:k≤n):Ua p f (Ch p f a k) (n-k)=(CC (n+1) (Ch p f a)).drop k:=by
 rw[K6 (h.shift hk (n-k) zO).k]
 have hl:((CC (n+1) (Ch p f a)).drop k).length=n-k+1:=by rw[List.length_drop];simp[CC];omega
 refine Ue (by rw[hl];simp[CC]) fun j hj=>?_
 have hj':j<n-k+1:=by simpa [CC]using hj
 rw[C4 [] hj',HY]
 rw[List.getD_eq_getElem?_getD,List.getElem?_drop,← List.getD_eq_getElem?_getD,C4 [] (by omega)]
end
end
theorem mixed:Tryz.prog.follows .mixedOrders=true:=by kernel_rfl
abbrev BN (k:Nat):Prop:=((Tryz.prog.funcs[k]?).map fun fn=>(fn.name != "runtime.NumGoroutine") && fn.body.isSome) = some true
theorem BR {k:Nat} (h:((Tryz.prog.funcs[k]?).map fun fn=>(fn.name != "runtime.NumGoroutine") && fn.body.isSome) = some true):BN k:=h
theorem aY:BN 29:=BR (by kernel_rfl)
theorem aZ:BN 31:=BR (by kernel_rfl)
theorem Yx:BN 41:=BR (by kernel_rfl)
theorem bA:BN 42:=BR (by kernel_rfl)
theorem Yy:BN 43:=BR (by kernel_rfl)
theorem Yz:BN 44:=BR (by kernel_rfl)
theorem bB:BN 45:=BR (by kernel_rfl)
theorem YB:BN 46:=BR (by kernel_rfl)
theorem SU:BN 47:=BR (by kernel_rfl)
theorem YC:BN 48:=BR (by kernel_rfl)
theorem bC:BN 49:=BR (by kernel_rfl)
theorem Uv:BN 50:=BR (by kernel_rfl)
theorem XM:BN 66:=BR (by kernel_rfl)
theorem bE:BN 67:=BR (by kernel_rfl)
theorem H8:BN 68:=BR (by kernel_rfl)
theorem XN:BN 69:=BR (by kernel_rfl)
theorem IA:BN 74:=BR (by kernel_rfl)
theorem bF:BN 75:=BR (by kernel_rfl)
theorem XO:BN 79:=BR (by kernel_rfl)
theorem Uw:BN 86:=BR (by kernel_rfl)
theorem bG:BN 89:=BR (by kernel_rfl)
theorem Vm:BN 100:=BR (by kernel_rfl)
theorem Qk:BN 101:=BR (by kernel_rfl)
theorem SW:BN 102:=BR (by kernel_rfl)
theorem YD:BN 105:=BR (by kernel_rfl)
theorem Vn:BN 106:=BR (by kernel_rfl)
theorem YE:BN 107:=BR (by kernel_rfl)
theorem YF:BN 108:=BR (by kernel_rfl)
theorem YG:BN 109:=BR (by kernel_rfl)
theorem YH:BN 110:=BR (by kernel_rfl)
theorem Lh:BN 112:=BR (by kernel_rfl)
theorem YI:BN 116:=BR (by kernel_rfl)
theorem CR:BN 117:=BR (by kernel_rfl)
theorem Ms:BN 122:=BR (by kernel_rfl)
theorem Vo:BN 123:=BR (by kernel_rfl)
theorem Mu:BN 124:=BR (by kernel_rfl)
theorem Vp:BN 125:=BR (by kernel_rfl)
theorem Vq:BN 126:=BR (by kernel_rfl)
theorem Ql:BN 127:=BR (by kernel_rfl)
theorem YJ:BN 128:=BR (by kernel_rfl)
theorem YK:BN 129:=BR (by kernel_rfl)
theorem Qm:BN 130:=BR (by kernel_rfl)
theorem Vr:BN 131:=BR (by kernel_rfl)
theorem Mv:BN 132:=BR (by kernel_rfl)
theorem YL:BN 133:=BR (by kernel_rfl)
theorem Vs:BN 137:=BR (by kernel_rfl)
theorem YM:BN 138:=BR (by kernel_rfl)
theorem YN:BN 139:=BR (by kernel_rfl)
theorem YO:BN 142:=BR (by kernel_rfl)
theorem YP:BN 143:=BR (by kernel_rfl)
theorem YQ:BN 150:=BR (by kernel_rfl)
theorem Vt:BN 151:=BR (by kernel_rfl)
theorem SX:BN 152:=BR (by kernel_rfl)
theorem Vu:BN 157:=BR (by kernel_rfl)
theorem Vv:BN 158:=BR (by kernel_rfl)
theorem YS:BN 163:=BR (by kernel_rfl)
theorem Vw:BN 165:=BR (by kernel_rfl)
theorem Vx:BN 168:=BR (by kernel_rfl)
theorem YT:BN 169:=BR (by kernel_rfl)
theorem SY:BN 170:=BR (by kernel_rfl)
theorem SZ:BN 177:=BR (by kernel_rfl)
theorem Vy:BN 178:=BR (by kernel_rfl)
theorem Ob:BN 179:=BR (by kernel_rfl)
theorem Li:BN 181:=BR (by kernel_rfl)
theorem YU:BN 183:=BR (by kernel_rfl)
theorem YV:BN 184:=BR (by kernel_rfl)
theorem Oc:BN 185:=BR (by kernel_rfl)
theorem YW:BN 186:=BR (by kernel_rfl)
theorem Mw:BN 187:=BR (by kernel_rfl)
theorem Vz:BN 190:=BR (by kernel_rfl)
theorem T0:BN 191:=BR (by kernel_rfl)
theorem YX:BN 192:=BR (by kernel_rfl)
theorem YY:BN 193:=BR (by kernel_rfl)
theorem Qn:BN 196:=BR (by kernel_rfl)
theorem YZ:BN 197:=BR (by kernel_rfl)
theorem VA:BN 198:=BR (by kernel_rfl)
theorem Z0:BN 199:=BR (by kernel_rfl)
theorem Z1:BN 200:=BR (by kernel_rfl)
theorem Z2:BN 201:=BR (by kernel_rfl)
theorem Z3:BN 203:=BR (by kernel_rfl)
theorem Z4:BN 204:=BR (by kernel_rfl)
theorem Z5:BN 205:=BR (by kernel_rfl)
theorem T3:BN 206:=BR (by kernel_rfl)
theorem Z6:BN 207:=BR (by kernel_rfl)
theorem T4:BN 210:=BR (by kernel_rfl)
theorem VB:BN 220:=BR (by kernel_rfl)
theorem Hu:BN 221:=BR (by kernel_rfl)
theorem Z7:BN 223:=BR (by kernel_rfl)
theorem Z8:BN 224:=BR (by kernel_rfl)
theorem Z9:BN 225:=BR (by kernel_rfl)
theorem VC:BN 226:=BR (by kernel_rfl)
theorem Za:BN 228:=BR (by kernel_rfl)
theorem Zb:BN 229:=BR (by kernel_rfl)
theorem T5:BN 230:=BR (by kernel_rfl)
theorem Jl:BN 231:=BR (by kernel_rfl)
theorem Mx:BN 232:=BR (by kernel_rfl)
theorem Zc:BN 235:=BR (by kernel_rfl)
theorem VD:BN 236:=BR (by kernel_rfl)
theorem Qo:BN 237:=BR (by kernel_rfl)
theorem Zd:BN 238:=BR (by kernel_rfl)
theorem T6:BN 239:=BR (by kernel_rfl)
theorem Ze:BN 240:=BR (by kernel_rfl)
theorem Lj:BN 241:=BR (by kernel_rfl)
theorem Qp:BN 250:=BR (by kernel_rfl)
theorem Zf:BN 251:=BR (by kernel_rfl)
theorem VE:BN 252:=BR (by kernel_rfl)
theorem VF:BN 253:=BR (by kernel_rfl)
theorem Zg:BN 254:=BR (by kernel_rfl)
theorem Zh:BN 255:=BR (by kernel_rfl)
theorem Zi:BN 256:=BR (by kernel_rfl)
theorem Zj:BN 257:=BR (by kernel_rfl)
theorem VG:BN 258:=BR (by kernel_rfl)
theorem Zk:BN 270:=BR (by kernel_rfl)
theorem VH:BN 271:=BR (by kernel_rfl)
theorem Qq:BN 272:=BR (by kernel_rfl)
theorem Od:BN 273:=BR (by kernel_rfl)
theorem Zl:BN 274:=BR (by kernel_rfl)
theorem Zm:BN 286:=BR (by kernel_rfl)
theorem Zn:BN 287:=BR (by kernel_rfl)
theorem AD:Cb Tryz.prog 2:=by unfold Cb;kernel_rfl
theorem Lk:Cb Tryz.prog 3:=by unfold Cb;kernel_rfl
theorem bH:Cb Tryz.prog 4:=by unfold Cb;kernel_rfl
theorem bI:Cb Tryz.prog 5:=by unfold Cb;kernel_rfl
theorem OT:Cb Tryz.prog 9:=by unfold Cb;kernel_rfl
theorem Qr:Cb Tryz.prog 22:=by unfold Cb;kernel_rfl
theorem BY:Cb Tryz.prog 24:=by unfold Cb;kernel_rfl
theorem Bj:Cb Tryz.prog 27:=by unfold Cb;kernel_rfl
theorem Ll:Cb Tryz.prog 30:=by unfold Cb;kernel_rfl
theorem Bd:Cb Tryz.prog 47:=by unfold Cb;kernel_rfl
theorem K9:Cb Tryz.prog 52:=by unfold Cb;kernel_rfl
theorem T7:Cb Tryz.prog 53:=by unfold Cb;kernel_rfl
theorem Id:Cb Tryz.prog 91:=by unfold Cb;kernel_rfl
theorem VI:Cb Tryz.prog 97:=by unfold Cb;kernel_rfl
theorem MZ:Cb Tryz.prog 178:=by unfold Cb;kernel_rfl
theorem Hv:(Tryz.prog.info? 2).map (·.size)=some 1:=by kernel_rfl
theorem cG:(Tryz.prog.info? 3).map (·.size)=some 1:=by kernel_rfl
theorem Zo:(Tryz.prog.info? 24).map (·.size)=some 1:=by kernel_rfl
theorem QR:(Tryz.prog.info? 27).map (·.size)=some 1:=by kernel_rfl
theorem Zp:(Tryz.prog.info? 30).map (·.size)=some 1:=by kernel_rfl
theorem QS:(Tryz.prog.info? 47).map (·.size)=some 1:=by kernel_rfl
theorem XP:(Tryz.prog.info? 52).map (·.size)=some 1:=by kernel_rfl
theorem bJ:(Tryz.prog.info? 53).map (·.size)=some 1:=by kernel_rfl
theorem VJ:(Tryz.prog.info? 178).map (·.size)=some 1:=by kernel_rfl
theorem BT:TI Tryz.prog 2 1 (.int .i64 0) 8:=by unfold TI;kernel_rfl
theorem bK:TI Tryz.prog 5 1 (.int .u8 0) 1:=by unfold TI;kernel_rfl
theorem bL:TI Tryz.prog 9 1 (.string ByteArray.empty) 16:=by unfold TI;kernel_rfl
theorem B8:TI Tryz.prog 27 1 (.slice none 0 0) 24:=by unfold TI;kernel_rfl
theorem u2:Tryz.prog.underlying 2=some (.int .i64):=by kernel_rfl
theorem u3:Tryz.prog.underlying 3=some (.int .i64):=by kernel_rfl
theorem u4:Tryz.prog.underlying 4=some (.bool):=by kernel_rfl
theorem u5:Tryz.prog.underlying 5=some (.int .u8):=by kernel_rfl
theorem u9:Tryz.prog.underlying 9=some (.string):=by kernel_rfl
theorem QT:Tryz.prog.underlying 22=some (.slice 5):=by kernel_rfl
theorem Gb:Tryz.prog.underlying 24=some (.slice 49):=by kernel_rfl
theorem Bt:Tryz.prog.underlying 27=some (.slice 2):=by kernel_rfl
theorem BH:Tryz.prog.underlying 30=some (.slice 27):=by kernel_rfl
theorem D1:Tryz.prog.underlying 47=some (.slice 153):=by kernel_rfl
theorem OU:Tryz.prog.underlying 52=some (.slice 69):=by kernel_rfl
theorem Zq:Tryz.prog.underlying 53=some (.slice 208):=by kernel_rfl
theorem Ux:Tryz.prog.underlying 148=some (.slice 9):=by kernel_rfl
theorem Uy:Tryz.prog.underlying 178=some (.int .u64):=by kernel_rfl
theorem BZ:Er Tryz.prog 26 1=true:=by kernel_rfl
theorem T8:(Tryz.prog.info? 26).map (·.zero)=some (some (.agg #[.slice none 0 0])):=by kernel_rfl
theorem Bv:G6 Tryz.prog 26 0 0=true:=by kernel_rfl
theorem Jm:Er Tryz.prog 49 3=true:=by kernel_rfl
theorem Uz:(Tryz.prog.info? 49).map (·.zero)=some (some (.agg #[.string ByteArray.empty,.int .i64 0,.slice none 0 0])):=by kernel_rfl
theorem Cj:TI Tryz.prog 49 3 (.agg #[.string ByteArray.empty,.int .i64 0,.slice none 0 0]) 48:=by unfold TI;kernel_rfl
theorem JN:G6 Tryz.prog 49 0 0=true:=by kernel_rfl
theorem C2:G6 Tryz.prog 49 1 1=true:=by kernel_rfl
theorem BL:G6 Tryz.prog 49 2 2=true:=by kernel_rfl
theorem Fj:Er Tryz.prog 55 4=true:=by kernel_rfl
theorem Zr:(Tryz.prog.info? 55).map (·.zero)=some (some (.agg #[.int .i64 0,.slice none 0 0,.slice none 0 0,.slice none 0 0])):=by kernel_rfl
theorem N0:G6 Tryz.prog 55 0 0=true:=by kernel_rfl
theorem Fk:G6 Tryz.prog 55 1 1=true:=by kernel_rfl
theorem N1:G6 Tryz.prog 55 2 2=true:=by kernel_rfl
theorem Lm:G6 Tryz.prog 55 3 3=true:=by kernel_rfl
theorem Fl:Er Tryz.prog 69 4=true:=by kernel_rfl
theorem Ta:(Tryz.prog.info? 69).map (·.zero)=some (some (.agg #[.int .i64 0,.int .i64 0,.int .i64 0,.int .i64 0])):=by kernel_rfl
theorem Jn:TI Tryz.prog 69 4 (.agg #[.int .i64 0,.int .i64 0,.int .i64 0,.int .i64 0]) 32:=by unfold TI;kernel_rfl
theorem Ln:G6 Tryz.prog 69 0 0=true:=by kernel_rfl
theorem CK:G6 Tryz.prog 69 1 1=true:=by kernel_rfl
theorem CB:G6 Tryz.prog 69 2 2=true:=by kernel_rfl
theorem Fm:G6 Tryz.prog 69 3 3=true:=by kernel_rfl
theorem Qs:G6 Tryz.prog 129 0 0=true:=by kernel_rfl
theorem FL:G6 Tryz.prog 129 1 1=true:=by kernel_rfl
theorem DC:G6 Tryz.prog 129 2 5=true:=by kernel_rfl
theorem N3:G6 Tryz.prog 129 3 6=true:=by kernel_rfl
theorem ES:G6 Tryz.prog 129 4 7=true:=by kernel_rfl
theorem Ep:G6 Tryz.prog 151 0 0=true:=by kernel_rfl
theorem UA:G6 Tryz.prog 151 1 1=true:=by kernel_rfl
theorem N4:G6 Tryz.prog 151 2 2=true:=by kernel_rfl
theorem UB:G6 Tryz.prog 151 3 3=true:=by kernel_rfl
theorem B6:Er Tryz.prog 153 5=true:=by kernel_rfl
theorem Hw:(Tryz.prog.info? 153).map (·.zero)=some (some (.agg #[.int .i64 0,.int .i64 0,.int .i64 0,.int .i64 0,.slice none 0 0])):=by kernel_rfl
theorem Bk:TI Tryz.prog 153 5 (.agg #[.int .i64 0,.int .i64 0,.int .i64 0,.int .i64 0,.slice none 0 0]) 56:=by unfold TI;kernel_rfl
theorem Bf:G6 Tryz.prog 153 0 0=true:=by kernel_rfl
theorem BE:G6 Tryz.prog 153 1 1=true:=by kernel_rfl
theorem Dc:G6 Tryz.prog 153 2 2=true:=by kernel_rfl
theorem Du:G6 Tryz.prog 153 3 3=true:=by kernel_rfl
theorem B9:G6 Tryz.prog 153 4 4=true:=by kernel_rfl
theorem UC:G6 Tryz.prog 187 0 0=true:=by kernel_rfl
theorem N5:G6 Tryz.prog 187 1 1=true:=by kernel_rfl
theorem KF:G6 Tryz.prog 187 2 2=true:=by kernel_rfl
theorem GP:G6 Tryz.prog 187 3 3=true:=by kernel_rfl
theorem Tb:Er Tryz.prog 208 2=true:=by kernel_rfl
theorem Zs:(Tryz.prog.info? 208).map (·.zero)=some (some (.agg #[.int .i64 0,.bool false])):=by kernel_rfl
theorem OV:TI Tryz.prog 208 2 (.agg #[.int .i64 0,.bool false]) 16:=by unfold TI;kernel_rfl
theorem UD:G6 Tryz.prog 208 0 0=true:=by kernel_rfl
theorem Qt:G6 Tryz.prog 225 0 0=true:=by kernel_rfl
theorem UE:G6 Tryz.prog 225 1 1=true:=by kernel_rfl
theorem KG:G6 Tryz.prog 225 2 2=true:=by kernel_rfl
theorem GQ:G6 Tryz.prog 225 3 3=true:=by kernel_rfl
theorem OW:Er Tryz.prog 249 2=true:=by kernel_rfl
theorem UF:G6 Tryz.prog 249 0 0=true:=by kernel_rfl
theorem UG:G6 Tryz.prog 249 1 1=true:=by kernel_rfl
section
set_option maxHeartbeats 4000000
set_option maxRecDepth 100000
attribute [local irreducible] LW
theorem AW (w:World)(n:Int)(low:Int)(high:Int)(_hn:Bx n)(_hlow:Bx low)(_hhigh:Bx high)  :
  Calls Tryz.prog 117 #[zI n,zI low,zI high] w (fun e w'=>e=.returned (.bool (decide (low≤n) && decide (n≤high)))∧w'=w):=by
 refine Aq [zI n,zI low,zI high] 15 Tryz.func117 Z Z sM ?_
 have a0:w=w:=rfl
 refine cA Z<|bZ [0,0,0,0,0,0,0,0,0] Z<|Ad 2 Z ?_
 by_cases a1:low≤n
 ·exact Dv true Z Z (A5 a1) Aa<|Ad 3 Z<|DQ (decide (n≤high)) Z Z Z (Ae (e:=10) Z Z Z)<|Ac 2 Z<|A1<|Af [6] Z (.bool<|decide (n≤high)) Z ⟨AI (by simp[*]),a0⟩
 exact Dv false Z Z (A6 a1) Aa<|Ac 6 Z<|A1<|Af [6] Z (.bool false) Z ⟨AI (by simp[*]),a0⟩
theorem Bw (w:World)(n:Int)(low:Int)(high:Int)(_hn:Bx n)(_hlow:Bx low)(_hhigh:Bx high)  :
  Calls Tryz.prog 74 #[zI n,zI low,zI high] w (fun e w'=>e=.returned (.bool (decide (low≤n) && decide (n≤high)))∧w'=w):=by
 refine Aq [zI n,zI low,zI high] 15 Tryz.func74 Z Z sM ?_
 have a0:w=w:=rfl
 refine cA Z<|bZ [0,0,0,0,0,0,0,0,0] Z<|Ad 2 Z ?_
 by_cases a1:low≤n
 ·exact Dv true Z Z (A5 a1) Aa<|Ad 3 Z<|DQ (decide (n≤high)) Z Z Z (Ae (e:=10) Z Z Z)<|Ac 2 Z<|A1<|Af [6] Z (.bool<|decide (n≤high)) Z ⟨AI (by simp[*]),a0⟩
 exact Dv false Z Z (A6 a1) Aa<|Ac 6 Z<|A1<|Af [6] Z (.bool false) Z ⟨AI (by simp[*]),a0⟩
theorem CL (w:World)(n:Int)(_hn:Bx n)  :
  Calls Tryz.prog 232 #[zI n] w (fun e w'=>e=.returned (zI (md n))∧w'=w):=by
 refine Aq [zI n] 7 Tryz.func232 Z Z sM ?_
 have a0:w=w:=rfl
 exact cA Z<|bZ [0,0,0,0,0] Z<|Ad 1 Z<|DP (n.tmod 1000003) Z Z (by decide) Z Aa<|AP (wr ((n.tmod 1000003)+((1000003:Nat):Int))) Z Z Z Aa<|DP ((wr ((n.tmod 1000003)+((1000003:Nat):Int))).tmod 1000003) Z Z (by decide) Z Aa<|Ac 1 Z<|A1<|Af [2] Z (zI<|(wr ((n.tmod 1000003)+((1000003:Nat):Int))).tmod 1000003) Z ⟨B4<|X3 n,a0⟩
theorem Hx (w:World)(a:Int)(b:Int)(_ha:Bx a)(_hb:Bx b)  :
  Calls Tryz.prog 230 #[zI a,zI b] w (fun e w'=>e=.returned (zI (md (a+b)))∧w'=w):=by
 refine Aq [zI a,zI b] 11 Tryz.func230 Z Z sM ?_
 have a0:w=w:=rfl
 exact cA Z<|bZ [0,0,0,0,0,0,0] Z<|Ad 1 Z<|Az 232 [] [] [zI a] Z Z Mx Aa (zI<|md a) (fun wq=>CL wq _ _ha)<|Ad 1 Z<|Az 232 [] [] [zI b] Z Z Mx Aa (zI<|md b) (fun wq=>CL wq _ _hb)<|AP (wr ((md a)+(md b))) Z Z Z Aa<|DP ((wr ((md a)+(md b))).tmod 1000003) Z Z (by decide) Z Aa<|Ac 1 Z<|A1<|Af [4] Z (zI<|(wr ((md a)+(md b))).tmod 1000003) Z ⟨B4<|Pr a b,a0⟩
theorem Jo (w:World)(a:Int)(b:Int)(_ha:Bx a)(_hb:Bx b)  :
  Calls Tryz.prog 190 #[zI a,zI b] w (fun e w'=>e=.returned (zI (md (a*b)))∧w'=w):=by
 refine Aq [zI a,zI b] 11 Tryz.func190 Z Z sM ?_
 have a0:w=w:=rfl
 exact cA Z<|bZ [0,0,0,0,0,0,0] Z<|Ad 1 Z<|Az 232 [] [] [zI a] Z Z Mx Aa (zI<|md a) (fun wq=>CL wq _ _ha)<|Ad 1 Z<|Az 232 [] [] [zI b] Z Z Mx Aa (zI<|md b) (fun wq=>CL wq _ _hb)<|FC (wr ((md a)*(md b))) Z Z Z Aa<|DP ((wr ((md a)*(md b))).tmod 1000003) Z Z (by decide) Z Aa<|Ac 1 Z<|A1<|Af [4] Z (zI<|(wr ((md a)*(md b))).tmod 1000003) Z ⟨B4<|Nw a b,a0⟩
theorem GR (w:World)(a:Int)(b:Int)(_ha:Bx a)(_hb:Bx b)  :
  Calls Tryz.prog 191 #[zI a,zI b] w (fun e w'=>e=.returned (zI (md (a-b)))∧w'=w):=by
 refine Aq [zI a,zI b] 10 Tryz.func191 Z Z sM ?_
 have a0:w=w:=rfl
 exact cA Z<|bZ [0,0,0,0,0,0] Z<|Ad 2 Z<|Az 232 [] [] [zI b] Z Z Mx Aa (zI<|md b) (fun wq=>CL wq _ _hb)<|Bs (wr (((1000003:Nat):Int)-(md b))) Z Z Z Aa<|Az 230 [] [] [zI a,zI<|wr (((1000003:Nat):Int)-(md b))] Z Z T5 Aa (zI<|md (a+(wr (((1000003:Nat):Int)-(md b))))) (fun wq=>Hx wq _ _ _ha<|Ou _)<|Ac 1 Z<|A1<|Af [4] Z (zI<|md (a+(wr (((1000003:Nat):Int)-(md b))))) Z ⟨B4<|Rn a b,a0⟩
theorem XQ (n:Int)(h:n.tmod 1000003<((0:Nat):Int)):wr (n.tmod 1000003+((1000003:Nat):Int))=md n:=by
  have h1:=C0 n;have h2:=Fb n;have h3:=C0 (-n);have h4:=Fb (-n)
  rw[tm n]at h ⊢
  split at h
  · omega
  · rename_i h0
    rw[if_neg h0,Ge zO (by omega)]
    have e1:md (-(md (-n))+((1000003:Nat):Int))=md (-(md (-n))):=Rm _
    rw[Jz,Int.neg_neg,Pp zO (by omega)]at e1
    exact e1
theorem XR (n:Int)(h:¬n.tmod 1000003<((0:Nat):Int)):n.tmod 1000003=md n:=by
  have h1:=C0 n;have h2:=Fb n;have h3:=C0 (-n);have h4:=Fb (-n)
  rw[tm n]at h ⊢
  split
  · rfl
  · rename_i h0
    rw[if_neg h0]at h
    have e0:md (-n)=0:=by omega
    have e1:=Jz (-n)
    rw[e0,Int.neg_neg]at e1
    rw[e0,← e1]
    rfl
theorem Tc {p:Prop}(h:p:=by first|exact B4 (XQ n (by assumption))|exact B4 (XR n (by assumption))):p:=h
theorem CM (w:World)(n:Int)(_hn:Bx n)  :
  Calls Tryz.prog 132 #[zI n] w (fun e w'=>e=.returned (zI (md n))∧w'=w):=by
 refine Aq [zI n] 11 Tryz.func132 Z Z sM ?_
 have a0:w=w:=rfl
 refine cA Z<|bZ [0,0,0] Z<|Ad 1 Z<|DP (n.tmod 1000003) Z Z (by decide) Z Aa<|Ac 1 Z<|A0<|bZ [0,0] Z<|Ad 1 Z ?_
 by_cases a1:n.tmod 1000003<((0:Nat):Int)
 ·exact AG true Z Z (A5 a1) Aa<|Aj<|Ag Z<|Ab _ [0,0,0] Z<|Ad 1 Z<|AP (wr ((n.tmod 1000003)+((1000003:Nat):Int))) Z Z Z Aa<|Ac 1 Z<|bZ [0,0] Z<|Ac 2 Z<|A1<|Af [2] Z (zI<|wr ((n.tmod 1000003)+((1000003:Nat):Int))) Z ⟨Tc,a0⟩
 exact AG false Z Z (A6 a1) Aa<|Aj<|Ah Z<|A2<|bZ [0,0] Z<|Ac 2 Z<|A1<|Af [2] Z (zI<|n.tmod 1000003) Z ⟨Tc,a0⟩
theorem FM (w:World)(a:Int)(b:Int)(_ha:Bx a)(_hb:Bx b)  :
  Calls Tryz.prog 50 #[zI a,zI b] w (fun e w'=>e=.returned (zI (md (a+b)))∧w'=w):=by
 refine Aq [zI a,zI b] 11 Tryz.func50 Z Z sM ?_
 have a0:w=w:=rfl
 exact cA Z<|bZ [0,0,0,0,0,0,0] Z<|Ad 1 Z<|Az 132 [] [] [zI a] Z Z Mv Aa (zI<|md a) (fun wq=>CM wq _ _ha)<|Ad 1 Z<|Az 132 [] [] [zI b] Z Z Mv Aa (zI<|md b) (fun wq=>CM wq _ _hb)<|AP (wr ((md a)+(md b))) Z Z Z Aa<|DP ((wr ((md a)+(md b))).tmod 1000003) Z Z (by decide) Z Aa<|Ac 1 Z<|A1<|Af [4] Z (zI<|(wr ((md a)+(md b))).tmod 1000003) Z ⟨B4<|Pr a b,a0⟩
theorem CW (w:World)(a:Int)(b:Int)(_ha:Bx a)(_hb:Bx b)  :
  Calls Tryz.prog 112 #[zI a,zI b] w (fun e w'=>e=.returned (zI (md (a*b)))∧w'=w):=by
 refine Aq [zI a,zI b] 11 Tryz.func112 Z Z sM ?_
 have a0:w=w:=rfl
 exact cA Z<|bZ [0,0,0,0,0,0,0] Z<|Ad 1 Z<|Az 132 [] [] [zI a] Z Z Mv Aa (zI<|md a) (fun wq=>CM wq _ _ha)<|Ad 1 Z<|Az 132 [] [] [zI b] Z Z Mv Aa (zI<|md b) (fun wq=>CM wq _ _hb)<|FC (wr ((md a)*(md b))) Z Z Z Aa<|DP ((wr ((md a)*(md b))).tmod 1000003) Z Z (by decide) Z Aa<|Ac 1 Z<|A1<|Af [4] Z (zI<|(wr ((md a)*(md b))).tmod 1000003) Z ⟨B4<|Nw a b,a0⟩
theorem Kd (w:World)(a:Int)(b:Int)(_ha:Bx a)(_hb:Bx b)(hs:-9223372036854775808≤a-b∧a-b≤9223372036854775807) :
  Calls Tryz.prog 223 #[zI a,zI b] w (fun e w'=>e=.returned (zI (md (a-b)))∧w'=w):=by
 refine Aq [zI a,zI b] 9 Tryz.func223 Z Z sM ?_
 have a0:w=w:=rfl
 exact cA Z<|bZ [0,0,0,0,0] Z<|Ad 2 Z<|Bs (wr (a-b)) Z Z Z Aa<|Az 132 [] [] [zI<|wr (a-b)] Z Z Mv Aa (zI<|md<|wr (a-b)) (fun wq=>CM wq _<|Ou _)<|Ac 1 Z<|A1<|Af [4] Z (zI<|md<|wr (a-b)) Z ⟨B4 (by rw[Ge hs.1 hs.2]),a0⟩
theorem N6 {p:Prop}(h:p:=by exact⟨zO,by first|exact X6 hI.2 oM (by assumption)|exact TJ hI.2 oM (by assumption)⟩):p:=h
theorem N7 (w:World)(a:Int)(n:Int)(_ha:Bx a)(_hn:Bx n)  :
  Calls Tryz.prog 224 #[zI a,zI n] w (fun e w'=>e=.returned (zI (pw a n))∧w'=w):=by
 refine Aq [zI a,zI n] 25 Tryz.func224 Z Z sM ?_
 have a0:w=w:=rfl
 refine cA Z<|A0<|bZ [0,0] Z<|Ad 1 Z ?_
 by_cases a2:n<((0:Nat):Int)
 ·exact AG true Z Z (A5 a2) Aa<|Aj<|Ag Z<|cA Z<|A1<|Al<|Af [4] Z (zI ((0:Nat):Int)) Z ⟨B4<|Rp (by assumption),a0⟩
 refine AG false Z Z (A6 a2) Aa<|Aj<|Ah Z<|A2<|cA Z<|bZ [0,0,0] Z<|Ad 1 Z<|Az 132 [] [] [zI a] Z Z Mv Aa (zI<|md a) (fun wq=>CM wq _ _ha)<|Ac 1 Z<|A0<|A3 ?_
 refine B1 (S:=Int×Int×Int) (fun⟨m,x,b⟩=>([(1,zI m),(5,zI x),(6,zI b)])) (fun⟨m,x,b⟩ W=>W=w∧(0≤m∧md (x*b ^ m.toNat)=md (a ^ n.toNat))∧m≤9223372036854775807∧(0≤x∧x<1000003)∧(0≤b∧b<1000003)) (fun⟨m,x,b⟩=>m.toNat) (n,((1:Nat):Int),md a) ⟨rfl,rfl,rfl,trivial⟩ ⟨a0,(by exact⟨zO,Nx a n.toNat⟩),oM,oM,(by exact C1 _)⟩ ?_
 clear a0
 rintro⟨m,x,b⟩ ρ3 w3 ⟨a1,hI,hm,hx,hb⟩
 refine A0<|bZ [0,0] Z<|Ad 1 Z ?_
 by_cases a3:((0:Nat):Int)<m
 ·refine BU true Z Z (A5 a3) Aa<|Aj<|Ag Z<|A2<|A3<|A0<|bZ [0,0,0] Z<|Ad 1 Z<|DP (m % 2) Z Z (by decide) (cD hI.1) Aa ?_
  by_cases a4:m % 2=((1:Nat):Int)
  ·refine Am true Z Z (A5 a4) Aa<|Aj<|Ag Z<|Ab _ [0,0,0,0] Z<|Ad 2 Z<|Az 112 [] [] [zI x,zI b] Z Z Lh Aa (zI<|md (x*b)) (fun wq=>CW wq _ _ oM oM)<|Ac 1 Z<|bZ [0,0,0,0] Z<|Ad 2 Z<|Az 112 [] [] [zI b,zI b] Z Z Lh Aa (zI<|md (b*b)) (fun wq=>CW wq _ _ oM oM)<|Ac 1 Z<|Ab _ [0,0,0] Z<|Ad 1 Z<|Ph (m / 2) Z Z (by decide) (ZR hI.1 hm) Aa<|Ac 1 Z ?_
   exact⟨(m / 2,md (x*b),md (b*b)),_,rfl,zR,⟨a1,N6,oM,(by first|exact hx|exact C1 _),(by exact C1 _)⟩,zD⟩
  exact Am false Z Z (A6 a4) Aa<|Aj<|Ah Z<|A2<|bZ [0,0,0,0] Z<|Ad 2 Z<|Az 112 [] [] [zI b,zI b] Z Z Lh Aa (zI<|md (b*b)) (fun wq=>CW wq _ _ oM oM)<|Ac 1 Z<|Ab _ [0,0,0] Z<|Ad 1 Z<|Ph (m / 2) Z Z (by decide) (ZR hI.1 hm) Aa<|Ac 1 Z ⟨(m / 2,x,md (b*b)),_,rfl,zR,⟨a1,N6,oM,(by first|exact hx|exact C1 _),(by exact C1 _)⟩,zD⟩
 exact BU false Z Z (A6 a3) Aa<|Aj<|Ah Z<|A4<|Ax<|Ax<|At<|bZ [0,0] Z<|Ac 2 Z<|A1<|Af [4] Z (zI x) Z ⟨B4<|Ro hI.2 hI.1 (by assumption) (by assumption) hx,a1⟩
theorem N8 (w:World)(a:Int)(n:Int)(_ha:Bx a)(_hn:Bx n)  :
  Calls Tryz.prog 257 #[zI a,zI n] w (fun e w'=>e=.returned (zI (pw a n))∧w'=w):=by
 refine Aq [zI a,zI n] 27 Tryz.func257 Z Z sM ?_
 have a0:w=w:=rfl
 refine cA Z<|A0<|bZ [0,0] Z<|Ad 1 Z ?_
 by_cases a2:n<((0:Nat):Int)
 ·exact AG true Z Z (A5 a2) Aa<|Aj<|Ag Z<|cA Z<|A1<|Al<|Af [4] Z (zI ((0:Nat):Int)) Z ⟨B4<|Rp (by assumption),a0⟩
 refine AG false Z Z (A6 a2) Aa<|Aj<|Ah Z<|A2<|cA Z<|A0<|bZ [0,0,0] Z<|Ad 1 Z<|Az 232 [] [] [zI a] Z Z Mx Aa (zI<|md a) (fun wq=>CL wq _ _ha)<|Ac 1 Z<|A3 ?_
 refine B1 (S:=Int×Int×Int) (fun⟨m,x,b⟩=>([(1,zI m),(5,zI x),(6,zI b)])) (fun⟨m,x,b⟩ W=>W=w∧(0≤m∧md (x*b ^ m.toNat)=md (a ^ n.toNat))∧m≤9223372036854775807∧(0≤x∧x<1000003)∧(0≤b∧b<1000003)) (fun⟨m,x,b⟩=>m.toNat) (n,((1:Nat):Int),md a) ⟨rfl,rfl,rfl,trivial⟩ ⟨a0,(by exact⟨zO,Nx a n.toNat⟩),oM,oM,(by exact C1 _)⟩ ?_
 clear a0
 rintro⟨m,x,b⟩ ρ3 w3 ⟨a1,hI,hm,hx,hb⟩
 refine A0<|bZ [0,0] Z<|Ad 1 Z ?_
 by_cases a3:((0:Nat):Int)<m
 ·refine BU true Z Z (A5 a3) Aa<|Aj<|Ag Z<|A2<|A0<|A3<|A0<|bZ [0,0,0] Z<|Ad 1 Z<|DP (m % 2) Z Z (by decide) (cD hI.1) Aa ?_
  by_cases a4:m % 2=((1:Nat):Int)
  ·refine Am true Z Z (A5 a4) Aa<|Aj<|Ag Z<|Ab _ [0,0,0,0,0] Z<|Ad 2 Z<|FC (wr (x*b)) Z Z Z Aa<|DP (md (x*b)) Z Z (by decide) (Ny hx hb) Aa<|Ac 1 Z<|Ab _ [0,0,0,0,0] Z<|Ad 2 Z<|FC (wr (b*b)) Z Z Z Aa<|DP (md (b*b)) Z Z (by decide) (Ny hb hb) Aa<|Ac 1 Z<|Ab _ [0,0,0] Z<|Ad 1 Z<|Ph (m / 2) Z Z (by decide) (ZR hI.1 hm) Aa<|Ac 1 Z ?_
   exact⟨(m / 2,md (x*b),md (b*b)),_,rfl,zR,⟨a1,N6,oM,(by first|exact hx|exact C1 _),(by exact C1 _)⟩,zD⟩
  exact Am false Z Z (A6 a4) Aa<|Aj<|Ah Z<|A2<|Ab _ [0,0,0,0,0] Z<|Ad 2 Z<|FC (wr (b*b)) Z Z Z Aa<|DP (md (b*b)) Z Z (by decide) (Ny hb hb) Aa<|Ac 1 Z<|Ab _ [0,0,0] Z<|Ad 1 Z<|Ph (m / 2) Z Z (by decide) (ZR hI.1 hm) Aa<|Ac 1 Z ⟨(m / 2,x,md (b*b)),_,rfl,zR,⟨a1,N6,oM,(by first|exact hx|exact C1 _),(by exact C1 _)⟩,zD⟩
 exact BU false Z Z (A6 a3) Aa<|Aj<|Ah Z<|A4<|Ax<|Ax<|At<|bZ [0,0] Z<|Ac 2 Z<|A1<|Af [4] Z (zI x) Z ⟨B4<|Ro hI.2 hI.1 (by assumption) (by assumption) hx,a1⟩
theorem LS (w:World)(a:Int)(_ha:Bx a)  :
  Calls Tryz.prog 163 #[zI a] w (fun e w'=>e=.returned (zI (inv a))∧w'=w):=by
 refine Aq [zI a] 5 Tryz.func163 Z Z sM ?_
 have a0:w=w:=rfl
 exact cA Z<|bZ [0,0,0] Z<|Ad 1 Z<|Az 224 [] [] [zI a,zI ((1000001:Nat):Int)] Z Z Z8 Aa (zI<|pw a ((1000001:Nat):Int)) (fun wq=>N7 wq _ _ _ha oM)<|Ac 1 Z<|A1<|Af [2] Z (zI<|pw a ((1000001:Nat):Int)) Z ⟨rfl,a0⟩
theorem Hy (w:World)(a:Int)(_ha:Bx a)  :
  Calls Tryz.prog 226 #[zI a] w (fun e w'=>e=.returned (zI (inv a))∧w'=w):=by
 refine Aq [zI a] 5 Tryz.func226 Z Z sM ?_
 have a0:w=w:=rfl
 exact cA Z<|bZ [0,0,0] Z<|Ad 1 Z<|Az 257 [] [] [zI a,zI ((1000001:Nat):Int)] Z Z Zj Aa (zI<|pw a ((1000001:Nat):Int)) (fun wq=>N8 wq _ _ _ha oM)<|Ac 1 Z<|A1<|Af [2] Z (zI<|pw a ((1000001:Nat):Int)) Z ⟨rfl,a0⟩
theorem EG (w:World)(n:Int)(_hn:Bx n)  :
  Calls Tryz.prog 170 #[zI n] w (fun e w'=>e=.returned (.bool (Ia n))∧w'=w):=by
 refine Aq [zI n] 5 Tryz.func170 Z Z sM ?_
 have a0:w=w:=rfl
 exact cA Z<|bZ [0,0,0] Z<|Ad 1 Z<|Az 117 [] [] [zI n,zI ((0:Nat):Int),zI ((1000002:Nat):Int)] Z Z CR Aa (.bool (decide (((0:Nat):Int)≤n) && decide (n≤((1000002:Nat):Int)))) (fun wq=>AW wq _ _ _ _hn oM oM)<|Ac 1 Z<|A1<|Af [2] Z (.bool (decide (((0:Nat):Int)≤n) && decide (n≤((1000002:Nat):Int)))) Z ⟨AI (by unfold Ia;rfl),a0⟩
theorem Gq (w:World)(n:Int)(_hn:Bx n)  :
  Calls Tryz.prog 220 #[zI n] w (fun e w'=>e=.returned (.bool (Ia n))∧w'=w):=by
 refine Aq [zI n] 5 Tryz.func220 Z Z sM ?_
 have a0:w=w:=rfl
 exact cA Z<|bZ [0,0,0] Z<|Ad 1 Z<|Az 74 [] [] [zI n,zI ((0:Nat):Int),zI ((1000002:Nat):Int)] Z Z IA Aa (.bool (decide (((0:Nat):Int)≤n) && decide (n≤((1000002:Nat):Int)))) (fun wq=>Bw wq _ _ _ _hn oM oM)<|Ac 1 Z<|A1<|Af [2] Z (.bool (decide (((0:Nat):Int)≤n) && decide (n≤((1000002:Nat):Int)))) Z ⟨AI (by unfold Ia;rfl),a0⟩
theorem I2 (w:World)(n:Int)(_hn:Bx n)  :
  Calls Tryz.prog 169 #[zI n] w (fun e w'=>e=.returned (.bool (!Ia n))∧AF w w'):=by
 refine Aq [zI n] 6 Tryz.func169 Z Z sM ?_
 have a0:AF w w:=AF.refl w
 exact cA Z<|bZ [0,0,0,0] Z<|Ad 1 Z<|Az 170 [] [] [zI n] Z Z SY Aa (.bool<|Ia n) (fun wq=>EG wq _ _hn)<|Bn (!(Ia n)) Z Z Aa<|Ac 1 Z<|A1<|Af [2] Z (.bool (!(Ia n))) Z ⟨rfl,a0⟩
def R1 {α:Type}(p:α→Bool)(l:List α):Int:=if l.any p then((l.findIdx p:Nat):Int)else -1
theorem Td {α:Type}{p:α→Bool}{l:List α}{k:Nat}(d:α)(h:∀j,j<k→p (l.getD j d)=false)(hk:k<l.length)(hp:p (l.getD k d)=true):((k:Nat):Int)=R1 p l:=by
  have e:∀j,(hj:j<l.length)→l.getD j d=l[j]:=fun j hj=>by simp[hj]
  have h1:l.any p=true:=List.any_eq_true.2 ⟨l[k],List.getElem_mem hk,by rw[← e k hk];exact hp⟩
  have h2:l.findIdx p=k:=by
    rw[List.findIdx_eq hk]
    refine⟨by rw[← e k hk];exact hp,fun j hj=>?_⟩
    have:=h j hj
    rw[e j (by omega)]at this
    exact this
  unfold R1;rw[if_pos h1,h2]
theorem VK {α:Type}{p:α→Bool}{l:List α}{k:Nat}(d:α)(h:∀j,j<k→p (l.getD j d)=false)(hk:l.length≤k):(-1:Int)=R1 p l:=by
  have h1:l.any p=false:=by
    rw[List.any_eq_false]
    intro x hx
    obtain⟨j,hj,rfl⟩:=List.getElem_of_mem hx
    have:=h j zO
    have e:l.getD j d=l[j]:=by simp[hj]
    rw[e]at this
    simp[this]
  unfold R1;rw[h1];rfl
theorem VL {α:Type}(p:α→Bool)(l:List α):decide (((0:Nat):Int)≤R1 p l)=l.any p:=by
  unfold R1
  split
  · rename_i h;rw[h];exact A5 zO
  · rename_i h;rw[Bool.not_eq_true]at h;rw[h];exact A6 zO
theorem Qu {α:Type}{p:α→Bool}{l:List α}{k:Nat}{d:α}(h:∀j,j<k→p (l.getD j d)=false)(hp:p (l.getD k d)=false):∀j,j<k+1→p (l.getD j d)=false:=by
  intro j hj
  by_cases e:j=k
  · subst e;exact hp
  · exact h j zO
theorem DN (w:World) (va:Value) (a:Sr) (q:Nat) (qf qc:List Value) (p:Int→Bool) (ha:Rd (B3 rI) w.heap va a) (hcf_q:((Tryz.prog.funcs[q]?).map fun fn=>(fn.name != "runtime.NumGoroutine") && fn.body.isSome) = some true) (hp:∀ (x:Int),Bx x→∀ w1,AF w w1→Calls Tryz.prog q (qf++[Value.int .i64 x]++qc).toArray w1 (fun e w2=>e = .returned (.bool (p x))∧AF w1 w2))  :
  Calls Tryz.prog 225 #[va,.func (.func q) qf.toArray qc.toArray] w (fun e w'=>e = .returned (zI (R1 p a))∧AF w w'):=by
 refine Aq [va,.func (.func q) qf.toArray qc.toArray] 19 Tryz.func225 Z Z sM ?_
 have a3:AF w w:=AF.refl w
 have aa:=ha.lenle
 refine cA Z<|A0<|bZ [0,0,0] Z<|Ad 1 Z<|AQ (v:=va) Bt Z ha.isSl Aa<|Ac 1 Z<|A3 ?_
 refine B1 (S:=Nat) (fun k=>([(8,zI ((k :Nat):Int)),(0,va),(1,.func (.func q) qf.toArray qc.toArray),(7,zI ((a.length :Nat):Int))])) (fun k W=>AF w W∧k≤a.length∧(∀ j,j < k→p (a.getD j 0) = false)) (fun k=>a.length - k) 0 ⟨rfl,rfl,rfl,rfl,trivial⟩ ⟨a3,sD,(by intro j hj; omega)⟩ ?_
 clear a3
 rintro k ρ1 w1 ⟨a1,a4,hq⟩
 have a7:w.heap.size≤w1.heap.size:=a1.size
 refine bZ [0] Z ?_
 by_cases a5:((k :Nat):Int) < ((a.length :Nat):Int)
 ·
  refine AG true Z Z (A5 a5) Aa<|Aj<|A0<|Ag Z<|A2<|A0<|A3<|bZ [0,0] Z<|Ac 2 Z<|bZ [0,0,0,0,2,3] Z<|Ad 3 Z<|AB (v:=va) k Bt BT Z Z ha.isSl Z sD Aa ?_
  refine Ai (p:=Ay va k 1) (.inr Z) (zI<|a.getD k 0) AD Z (AZ a1 (ha.getI sD).1) Aa ?_
  have a0:=hp (a.getD k 0) (ha.getI sD).2 _ a1
  refine As q qf qc _ Z Z hcf_q Aa a0 ?_
  rintro e3 w3 ⟨rfl,a2⟩
  refine ⟨_,rfl,a2,?_⟩
  have a8:=a2.size
  have a6:=a1.trans a2
  cases a9:p (a.getD k 0)
  ·
   refine Aj<|Ah Z<|A2<|Ab _ [0,0] Z<|AP ((k + 1 :Nat):Int) Z Z (Bl oM sD) Aa<|Ac 1 Z ?_
   exact ⟨k + 1,_,rfl,zR,⟨a6,sD,(by exact Qu hq (by assumption))⟩,by first | omega | (dsimp only; omega)⟩
  
  exact Aj<|Ag Z<|bZ [0,0] Z<|Ac 2 Z<|A1<|AC<|Al<|Al<|AC<|Al<|Af [4] Z (zI ((k :Nat):Int)) Z ⟨B4<|Td 0 hq oM (by assumption),a6⟩
 
 exact AG false Z Z (A6 a5) Aa<|Aj<|A0<|Ah Z<|A4<|Ax<|Ax<|At<|cA Z<|A1<|Af [4] Z (zI (-1)) Z ⟨B4<|VK 0 hq oM,a1⟩
theorem Cd (w:World) (va:Value) (a:Sr) (q:Nat) (qf qc:List Value) (p:Int→Bool) (ha:Rd (B3 rI) w.heap va a) (hcf_q:((Tryz.prog.funcs[q]?).map fun fn=>(fn.name != "runtime.NumGoroutine") && fn.body.isSome) = some true) (hp:∀ (x:Int),Bx x→∀ w1,AF w w1→Calls Tryz.prog q (qf++[Value.int .i64 x]++qc).toArray w1 (fun e w2=>e = .returned (.bool (p x))∧AF w1 w2))  :
  Calls Tryz.prog 168 #[va,.func (.func q) qf.toArray qc.toArray] w (fun e w'=>e = .returned (.bool (a.any p))∧AF w w'):=by
 refine Aq [va,.func (.func q) qf.toArray qc.toArray] 9 Tryz.func168 Z Z sM ?_
 have a0:AF w w:=AF.refl w
 have a4:=ha.lenle
 refine cA Z<|bZ [0,0,3,0,0] Z<|Ad 2 Z<|As 225 [] [] [va,.func (.func q) qf.toArray qc.toArray] Z Z Z9 Aa (DN _ _ _ q qf qc p (ha.ext g1 a0) hcf_q fun x hx w1 hw=>hp x hx w1<|a0.trans hw) ?_
 rintro e1 w1 ⟨rfl,a1⟩
 refine ⟨_,rfl,a1,?_⟩
 have a2:=a1.size
 have a3:=a0.trans a1
 exact Dv (decide (((0 :Nat):Int)≤R1 p a)) Z Z Z Aa<|Ac 1 Z<|A1<|Af [4] Z (.bool<|decide (((0 :Nat):Int)≤R1 p a)) Z ⟨AI<|VL p a,a3⟩
theorem BG (w:World)(va:Value)(a:Sr)(ha:Rd (B3 rI) w.heap va a)(hla:a.length≤1000000000000) :
  Calls Tryz.prog 130 #[va] w (fun e w'=>∃v0:Value,e=.returned (v0)∧AF w w'∧Fr (Bh rI 2) w.heap.size w'.heap.size w'.heap v0 a):=by
 refine Aq [va] 8 Tryz.func130 Z Z sM ?_
 have a1:AF w w:=AF.refl w
 have ac:=ha.lenle
 refine cA Z<|A0<|bZ [0,0] Z<|Ad 1 Z ?_
 cases a2:Ox va
 ·refine Ra (v:=va) false Bt Z Z ha.isSl a2 Aa<|Aj<|Ah Z<|A2<|bZ [3,0,4,0] Z (CQ (rI) AR Bt BT Aa fun v2 w2 a3 ab a5=>?_)
  have a6:=a3.size
  have a0:=a1.trans a3
  refine Ad 1 Z (FO (v:=v2) (a:=va) Bt BT Z Z Z a5 a0.size (ha.ext g1 a0) sD (by unfold maxLen;first|omega|assumption|(simp;done)|(simp;omega)) Aa fun v3 w3 F3 a4 a7 a8=>?_)
  have a9:AF w w3:=a4.below a0 (fun c hc=>A8 (A7 _) (a7 c hc).1) a0.size
  have aa:=a4.size
  exact Ac 1 Z<|A1<|Af [2] Z v3 Z ⟨v3,rfl,a9,a8.up o1⟩
 refine Ra (v:=va) true Bt Z Z ha.isSl a2 Aa<|Aj<|Ag Z<|cA Z<|A1<|Al ?_
 have hnil:a=[]:=ha.nil_of (by assumption)
 subst hnil
 exact Af [2] Z zN Z ⟨zN,rfl,a1,Hh _ _ _⟩
theorem Dd (w:World)(va:Value)(a:Sr)(count:Int)(ha:Rd (B3 rI) w.heap va a)(_hcount:Bx count)  :
  Calls Tryz.prog 86 #[va,zI count] w (fun e w'=>e=.returned (.bool (decide ((a.length:Int)=count) && B2 a))∧AF w w'):=by
 refine Aq [va,zI count] 14 Tryz.func86 Z Z sM ?_
 have a0:AF w w:=AF.refl w
 have a5:=ha.lenle
 refine cA Z<|bZ [0,0,0,0,0,0,3,0,0,0] Z<|Ad 1 Z<|AQ (v:=va) Bt Z ha.isSl Aa<|Ad 1 Z ?_
 by_cases a2:(a.length:Int)=count
 ·refine Am true Z Z (A5 a2) Aa<|Ad 2 Z<|As 168 [] [] [va,.func (.func 169) #[] #[]] Z Z Vx (Ae (e:=9) Z Z Z) (Cd _ _ _ 169 [] [] (fun x=>!Ia x) (ha.ext g1 a0) YT fun x hx w1 hw=>I2 w1 x hx) ?_
  rintro e2 w2 ⟨rfl,a1⟩
  refine⟨_,rfl,a1,?_⟩
  have a3:=a1.size
  have a4:=a0.trans a1
  exact Bn (!(a.any fun x=>!Ia x)) Z Z (Ae (e:=9) Z Z Z)<|Ac 2 Z<|A1<|Af [4] Z (.bool (!(a.any fun x=>!Ia x))) Z ⟨AI (by first|(rw[Pu];simp[*];done)|simp[*]),a4⟩
 exact Am false Z Z (A6 a2) Aa<|Ac 6 Z<|A1<|Af [4] Z (.bool false) Z ⟨AI (by first|(rw[Pu];simp[*];done)|simp[*]),a0⟩
theorem FN (w:World)(va:Value)(a:Sr)(ha:Rd (B3 rI) w.heap va a)  :
  Calls Tryz.prog 157 #[va] w (fun e w'=>e=.returned (.bool (B2 a))∧AF w w'):=by
 refine Aq [va] 16 Tryz.func157 Z Z sM ?_
 have a1:AF w w:=AF.refl w
 have a6:=ha.lenle
 refine cA Z<|A0<|cA Z<|A3<|B1 (S:=Nat) (fun k=>([(3,zI (k:Int)),(0,va)])) (fun k W=>AF w W∧k≤a.length∧((a.take k).all Ia=true)) (fun k=>a.length-k) 0 ⟨rfl,rfl,trivial⟩ ⟨a1,sD,(by exact Rq _ _)⟩ ?_
 clear a1
 rintro k ρ1 w1 ⟨a0,a2,hq⟩
 have a5:w.heap.size≤w1.heap.size:=a0.size
 refine A0<|bZ [0,0,0,0] Z<|Ad 2 Z<|AQ (v:=va) Bt Z ha.isSl Aa ?_
 by_cases a3:(k:Int)<(a.length:Int)
 ·refine AG true Z Z (A5 a3) Aa<|Aj<|Ag Z<|A2<|A0<|A3<|bZ [0,0,0,2,0,0] Z<|Ad 2 Z<|AB (v:=va) k Bt BT Z Z ha.isSl Z sD Aa ?_
  refine Ai (p:=Ay va k 1) (.inr Z) (zI<|a.getD k 0) AD Z (AZ a0 (ha.getI sD).1) Aa ?_
  refine Az 220 [] [] [zI<|a.getD k 0] Z Z VB Aa (.bool<|Ia<|a.getD k 0) (fun wq=>Gq wq _ (ha.getI sD).2)<|Bn (!(Ia<|a.getD k 0)) Z Z Aa<|Aj ?_
  cases a4:(!(Ia (a.getD k 0)))
  ·refine Ah (by first|rfl|exact zW a4)<|A2<|Ab _ [0,0,0] Z<|Ad 1 Z<|AP ((k+1:Nat):Int) Z Z (Bl oM sD) Aa<|Ac 1 Z ?_
   exact⟨k+1,_,rfl,⟨rfl,rfl,trivial⟩,⟨a0,sD,(by exact Nz 0 hq oM (by simpa using ‹(!Ia (a.getD k 0))=false›))⟩,zD⟩
  exact Ag (by first|rfl|exact zW a4)<|cA Z<|A1<|AC<|Al<|Al<|AC<|Al<|Af [2] Z (.bool false) Z ⟨AI (NA (k:=k) 0 oM (by simpa using ‹(!Ia (a.getD k 0))=true›)).symm,a0⟩
 exact AG false Z Z (A6 a3) Aa<|Aj<|Ah Z<|A4<|Ax<|Ax<|At<|cA Z<|A1<|Af [2] Z (.bool true) Z ⟨AI (NB hq oM).symm,a0⟩
theorem LT (w:World)(va:Value)(a:Sr)(ha:Rd (B3 rI) w.heap va a)(hla:a.length≤1000000000000) :
  Calls Tryz.prog 143 #[va] w (fun e w'=>∃v0:Value,e=.returned (v0)∧AF w w'∧Fr (Bh rI 2) w.heap.size w'.heap.size w'.heap v0 a):=by
 refine Aq [va] 6 Tryz.func143 Z Z sM ?_
 have a3:AF w w:=AF.refl w
 have ab:=ha.lenle
 refine cA Z<|bZ [3,0,4,0] Z (CQ (rI) AR Bt BT Aa fun v1 w1 a1 aa a4=>?_)
 have a5:=a1.size
 have a0:=a3.trans a1
 refine Ad 1 Z (FO (v:=v1) (a:=va) Bt BT Z Z Z a4 a0.size (ha.ext g1 a0) sD (by unfold maxLen;first|omega|assumption|(simp;done)|(simp;omega)) Aa fun v2 w2 F2 a2 a6 a7=>?_)
 have a8:AF w w2:=a2.below a0 (fun c hc=>A8 (A7 _) (a6 c hc).1) a0.size
 have a9:=a2.size
 exact Ac 1 Z<|A1<|Af [2] Z v2 Z ⟨v2,rfl,a8,a7.up o1⟩
end
end Go.Proofs.YtbajepcpgncekaaGreat
