/- Nb, Nc, Nd, Ne, Gd, Ge, Gu, Gv, Gw, Gx, Nf, Ng, Nh, Ni, Nj, Nk, Nl, Gk, Gh, Gl, Gm, Gq, Gp, Gs, Gy, Gz, Ha, Hb, Hd, Hf, Hj, Hl, Hm, Hn, Hr, Hv, Hx, Ia, Ic, Ie, T, Sa, Sb, Sc, Sf, Vq: texts of this claim, joined; what the claim does not come to is left out. -/
import Derived.Test.YtjnbnlniafmblaaGreatQA1
import Derived.Test.YtjnbnlniafmblaaGreatProg
set_option linter.unusedVariables false
set_option linter.unusedSimpArgs false
namespace Go.Proofs.YtjnbnlniafmblaaGreat
open Go Go.RowKit
abbrev Sr:=List Int
def HQ (n:Nat)(x:Int):Sr:=(List.replicate n 0).set 0 x
inductive Rs (α:Type) where
 |ok (x:α) (s:Nat)
 |err (c:Int)
structure Ca where
 one:Nat→Nat→List Sr→Nat→Rs Sr
 all:Nat→List Sr→Nat→Rs (List Sr)
def Rs.bind {α β:Type}(r:Rs α)(f:α→Nat→Rs β):Rs β:=match r with
 |.ok x s=>f x s
 |.err c=>.err c
theorem Rs.bind_ok {α β:Type}(x:α)(s:Nat)(f:α→Nat→Rs β):(Rs.ok x s).bind f=f x s:=rfl
theorem Rs.bind_err {α β:Type}(c:Int)(f:α→Nat→Rs β):(Rs.err c:Rs α).bind f=.err c:=rfl
theorem Rs.bind_assoc {α β γ:Type}(r:Rs α)(f:α→Nat→Rs β)(h:β→Nat→Rs γ):(r.bind f).bind h=r.bind fun x s=>(f x s).bind h:=by cases r <;> rfl
def K5 (f:List Sr→Nat→Rs (List Sr)):Nat→List Sr→Nat→Rs (List Sr)
 |0,a,s=>.ok a s
 |k+1,a,s=>(K5 f k a s).bind f
def Nv (k:Int)(xs:List Sr)(t:Nat):Rs Sr :=
 if k=3 then .ok (Cz (xs.getD 0 []) (xs.getD 1 [])) t
 else if k=4 then .ok (GL (xs.getD 0 []) (xs.getD 1 [])) t
 else if k=5 then .ok (Cs (xs.getD 0 []) (xs.getD 1 [])) t
 else if k=7 then .ok (Di (xs.getD 0 []) 1000002) t
 else if (xs.getD 1 []).getD 0 0=0 then .err 6 else .ok (Cm (xs.getD 0 []) (xs.getD 1 [])) t
mutual
def CZ (n:Nat)(C:Ca):Ex→List Sr→Nat→Rs Sr
 |.mk k num pick cnt l,env,s =>
  if 3000≤s then .err 7
  else if k=1 then .ok (HQ n num) (s+1)
  else if k=2 then .ok (env.getD num.toNat []) (s+1)
  else if k=8 then(Nw n C l 0 env (s+1)).bind fun x t=>if x.getD 0 0=0 then Nw n C l 1 env t else Nw n C l 2 env t
  else if k=9 then(Nw n C l 0 env (s+1)).bind fun x t=>Nw n C l 1 (env++[x]) t
  else(DY n C l env (s+1)).bind fun xs t =>
   if k=10 then C.one num.toNat pick.toNat xs t
   else if k=11 then(K5 (C.all num.toNat) cnt.toNat xs t).bind fun ys u=>.ok (ys.getD pick.toNat []) u
   else Nv k xs t
def Nw (n:Nat)(C:Ca):List Ex→Nat→List Sr→Nat→Rs Sr
 |[],_,_,_=>.err 0
 |e::_,0,env,s=>CZ n C e env s
 |_::l,j+1,env,s=>Nw n C l j env s
def DY (n:Nat)(C:Ca):List Ex→List Sr→Nat→Rs (List Sr)
 |[],_,s=>.ok [] s
 |e::l,env,s=>(CZ n C e env s).bind fun x t=>(DY n C l env t).bind fun xs u=>.ok (x::xs) u
end
theorem Ej (n:Nat)(C:Ca)(env:List Sr)(s:Nat):∀(l:List Ex)(j:Nat),j<l.length→Nw n C l j env s=CZ n C (l.getD j Ex.zero) env s
 |[],j,h=>by simp at h
 |e::l,0,_=>by rw[Nw];rfl
 |e::l,j+1,h=>by rw[Nw,Ej n C env s l j (by simpa using h)];simp
theorem NT (n:Nat)(C:Ca)(env:List Sr)(e:Ex):∀(l:List Ex)(s:Nat),DY n C (l++[e]) env s=(DY n C l env s).bind fun xs t=>(CZ n C e env t).bind fun x u=>.ok (xs++[x]) u
 |[],s=>by
  rw[zl,DY,DY]
  simp only[Rs.bind_ok]
  cases CZ n C e env s <;> simp only[Rs.bind_ok,Rs.bind_err,DY] <;> rfl
 |a::l,s=>by
  rw[List.cons_append,DY,DY]
  cases CZ n C a env s with
  |err c=>rfl
  |ok x t =>
   simp only[Rs.bind_ok]
   rw[NT n C env e l t]
   simp only[Rs.bind_assoc]
   cases DY n C l env t with
   |err c=>rfl
   |ok xs u =>
    simp only[Rs.bind_ok]
    cases CZ n C e env u <;> rfl
theorem Ra {n:Nat}{C:Ca}{env:List Sr}{s:Nat}{l:List Ex}{k:Nat}(hk:k<l.length):DY n C (l.take (k+1)) env s=(DY n C (l.take k) env s).bind fun xs t=>(CZ n C (l.getD k Ex.zero) env t).bind fun x u=>.ok (xs++[x]) u:=by
 rw[List.take_succ_eq_append_getElem hk,NT]
 simp[hk]
theorem GM (n:Nat)(C:Ca)(e:Ex)(env:List Sr)(s:Nat):CZ n C e env s =
  if 3000≤s then .err 7
  else if e.kind=1 then .ok (HQ n e.num) (s+1)
  else if e.kind=2 then .ok (env.getD e.num.toNat []) (s+1)
  else if e.kind=8 then(Nw n C e.kids 0 env (s+1)).bind fun x t=>if x.getD 0 0=0 then Nw n C e.kids 1 env t else Nw n C e.kids 2 env t
  else if e.kind=9 then(Nw n C e.kids 0 env (s+1)).bind fun x t=>Nw n C e.kids 1 (env++[x]) t
  else(DY n C e.kids env (s+1)).bind fun xs t =>
   if e.kind=10 then C.one e.num.toNat e.pick.toNat xs t
   else if e.kind=11 then(K5 (C.all e.num.toNat) e.count.toNat xs t).bind fun ys u=>.ok (ys.getD e.pick.toNat []) u
   else Nv e.kind xs t:=by cases e;rw[CZ];rfl
def Fb (p:List Fn)(n:Nat):Nat→Ca
 |0=>⟨fun _ _ _ _=>.err 0,fun _ _ _=>.err 0⟩
 |k+1=>⟨fun f j a s=>if f=k then CZ n (Fb p n k) ((p.getD k Fn.zero).outs.getD j Ex.zero) a s else(Fb p n k).one f j a s,
   fun f a s=>if f=k then DY n (Fb p n k) (p.getD k Fn.zero).outs a s else(Fb p n k).all f a s⟩
theorem ML {p:List Fn}{n f j:Nat}{a:List Sr}{s:Nat}:∀ {F:Nat},f<F→(Fb p n F).one f j a s=CZ n (Fb p n f) ((p.getD f Fn.zero).outs.getD j Ex.zero) a s
 |0,h=>by omega
 |F+1,h=>by
  show(if f=F then _ else _)=_
  split
  ·rename_i e;rw[e]
  ·exact ML zO
theorem HR {p:List Fn}{n f:Nat}{a:List Sr}{s:Nat}:∀ {F:Nat},f<F→(Fb p n F).all f a s=DY n (Fb p n f) (p.getD f Fn.zero).outs a s
 |0,h=>by omega
 |F+1,h=>by
  show(if f=F then _ else _)=_
  split
  ·rename_i e;rw[e]
  ·exact HR zO
def ev (p:List Fn)(n f:Nat)(a:List Sr):Rs (List Sr):=DY n (Fb p n f) (p.getD f Fn.zero).outs a 0
def go {α:Type}(c:Int)(r:Rs α):Rs α:=if c=0 then r else .err c
theorem CA {α:Type}(r:Rs α):go 0 r=r:=rfl
theorem Dj {α:Type}{c:Int}(h:c≠0)(r:Rs α):go c r=.err c:=if_neg h
def C7 (n:Nat)(env:List Sr):Prop:=∀k,k<env.length→D2 n (env.getD k [])
def AM {α:Type}(r:Rs α)(x:α)(s:Nat)(c:Int):Prop:=match r with
 |.ok y t=>x=y∧s=t∧c=0
 |.err d=>c=d∧d≠0
theorem AM.ok {α:Type}{r:Rs α}{x:α}{s:Nat}(h:AM r x s 0):r=.ok x s:=by
 cases r with
 |ok y t=>obtain⟨rfl,rfl,_⟩:=h;rfl
 |err d=>exact absurd h.1.symm h.2
theorem AM.err {α:Type}{r:Rs α}{x:α}{s:Nat}{c:Int}(h:AM r x s c)(hc:c≠0):r=.err c:=by
 cases r with
 |ok y t=>exact absurd h.2.2 hc
 |err d=>rw[h.1]
theorem AM.mk_ok {α:Type}{r:Rs α}{x:α}{s:Nat}(h:r=.ok x s):AM r x s 0:=by subst h;exact⟨rfl,rfl,rfl⟩
theorem AM.mk_err {α:Type}{r:Rs α}{x:α}{s:Nat}{c:Int}(h:r=.err c)(hc:c≠0):AM r x s c:=by subst h;exact⟨rfl,hc⟩
theorem AM.bindE {α β:Type}{r:Rs α}{x:α}{s:Nat}{c:Int}(h:AM r x s c)(hc:c≠0){f:α→Nat→Rs β}:r.bind f=.err c:=by rw[h.err hc];rfl
theorem AM.bindO {α β:Type}{r:Rs α}{x:α}{s:Nat}(h:AM r x s 0){f:α→Nat→Rs β}:r.bind f=f x s:=by rw[h.ok];rfl
theorem Ev (n:Nat)(x:Int):(HQ n x).length=n:=by simp[HQ]
theorem KM (n:Nat):B9 (List.replicate n 0)=true:=by
 unfold B9
 rw[zm]
 intro y hy
 rw[List.eq_of_mem_replicate hy];decide
theorem Fi {n:Nat}{x:Int}(h:HZ x=true):D2 n (HQ n x):=by
 refine⟨Ev n x,?_⟩
 unfold HQ B9
 rw[zm]
 intro y hy
 rcases List.mem_or_eq_of_mem_set hy with hy|rfl
 ·rw[List.eq_of_mem_replicate hy];decide
 ·exact h
theorem C7.snoc {n:Nat}{env:List Sr}{x:Sr}(h:C7 n env)(hx:D2 n x):C7 n (env++[x]):=by
 intro k hk
 rw[z4,zd]at hk
 by_cases e:k<env.length
 ·rw[KF e];exact h k e
 ·have:k=env.length:=by omega
  rw[LO this];exact hx
section
structure FY (p:List Fn):Prop where
 par:∀k,k<p.length→0≤(p.getD k Fn.zero).params∧(p.getD k Fn.zero).params≤12
 outs:∀k,k<p.length→1≤(p.getD k Fn.zero).outs.length∧(p.getD k Fn.zero).outs.length≤12
 deep:∀k,k<p.length→∀j,j<(p.getD k Fn.zero).outs.length→((p.getD k Fn.zero).outs.getD j Ex.zero).deep≤60
 wf:∀k,k<p.length→∀j,j<(p.getD k Fn.zero).outs.length→wf p ((k:Nat):Int) ((p.getD k Fn.zero).outs.getD j Ex.zero) (p.getD k Fn.zero).params=true
theorem Cw {x a b:Int}:GA x a b=true↔a≤x∧x≤b:=by unfold GA;simp
theorem D0 {p:List Fn}{F vars:Int}{e:Ex}(h:Ju p F vars e=true) :
  (e.kind=1∨e.kind=2∨e.kind=3∨e.kind=4∨e.kind=5∨e.kind=6∨e.kind=7∨e.kind=8∨e.kind=9∨e.kind=10∨e.kind=11) ∧
  (e.kind=2→0≤e.num∧e.num≤vars-1)∧(e.kind=3∨e.kind=4∨e.kind=5∨e.kind=6∨e.kind=9→e.kids.length=2)∧(e.kind=7→e.kids.length=1)∧(e.kind=8→e.kids.length=3) ∧
  (e.kind=10∨e.kind=11→0≤e.num∧e.num≤F-1∧(e.kids.length:Int)=(p.getD e.num.toNat Fn.zero).params∧0≤e.pick∧e.pick≤((p.getD e.num.toNat Fn.zero).outs.length:Int)-1) ∧
  (e.kind=11→((p.getD e.num.toNat Fn.zero).outs.length:Int)=(p.getD e.num.toNat Fn.zero).params∧0≤e.count∧e.count≤8)∧(e.kind=1→0≤e.num∧e.num<1000003):=by
 unfold Ju at h
 split at h
 ·simp only[z7,decide_eq_true_eq,CY]at h;omega
 ·split at h
  ·simp only[z7,decide_eq_true_eq,Cw]at h;omega
  ·split at h
   ·simp only[z7,decide_eq_true_eq]at h;omega
   ·split at h
    ·simp only[z7,decide_eq_true_eq]at h;omega
    ·split at h
     ·simp only[z7,decide_eq_true_eq]at h;omega
     ·split at h
      ·simp only[z7,decide_eq_true_eq,Cw]at h
       obtain⟨h1,h2,h3,h4⟩:=h
       split at h4
       ·simp only[decide_eq_true_eq]at h4;omega
       ·simp only[z7,decide_eq_true_eq,Cw]at h4;omega
      ·cases h
theorem CJ {p:List Fn}{F vars:Int}{e:Ex}(h:wf p F e vars=true):Ju p F vars e=true:=by
 rw[Mj,z7]at h;exact h.1
theorem Uj {p:List Fn}{F vars:Int}{e:Ex}(h:wf p F e vars=true){j:Nat}(hj:j<e.kids.length):wf p F (e.kids.getD j Ex.zero) (if e.kind=9∧j=1 then vars+1 else vars)=true:=by
 rw[Mj,z7]at h
 have:=(Kq p F _ vars e.kids 0).1 h.2 j hj
 rw[Nat.zero_add]at this
 simpa only[decide_eq_true_eq]using this
theorem BT {p:List Fn}{F vars:Int}{e:Ex}(h:wf p F e vars=true){j:Nat}(hj:j<e.kids.length)(hn:¬(e.kind=9∧j=1)):wf p F (e.kids.getD j Ex.zero) vars=true:=by
 have:=Uj h hj
 rwa [if_neg hn]at this
theorem Hl {p:List Fn}{F vars:Int}{e:Ex}(h:wf p F e vars=true)(hj:1<e.kids.length)(hk:e.kind=9):wf p F (e.kids.getD 1 Ex.zero) (vars+1)=true:=by
 have:=Uj h hj
 rwa [if_pos ⟨hk,rfl⟩]at this
section
variable {p:List Fn} {F:Nat} {vars:Int} {e:Ex}
theorem KN (h:wf p ((F:Nat):Int) e vars=true)(hk:e.kind=1):0≤e.num∧e.num<1000003:=(D0 (CJ h)).2.2.2.2.2.2.2 hk
theorem KO (h:wf p ((F:Nat):Int) e vars=true)(hk:e.kind=2):0≤e.num∧e.num≤vars-1:=(D0 (CJ h)).2.1 hk
theorem NU (h:wf p ((F:Nat):Int) e vars=true)(hk:e.kind=8):e.kids.length=3:=(D0 (CJ h)).2.2.2.2.1 hk
theorem KP (h:wf p ((F:Nat):Int) e vars=true)(hk:e.kind=9):e.kids.length=2:=(D0 (CJ h)).2.2.1 zO
theorem MM (h:wf p ((F:Nat):Int) e vars=true)(hk:e.kind=7):e.kids.length=1:=(D0 (CJ h)).2.2.2.1 hk
theorem Im (h:wf p ((F:Nat):Int) e vars=true)(hk:e.kind=3∨e.kind=4∨e.kind=5∨e.kind=6):e.kids.length=2:=(D0 (CJ h)).2.2.1 zO
theorem Fj (h:wf p ((F:Nat):Int) e vars=true)(hk:e.kind=10∨e.kind=11):(0≤e.num∧e.num≤((F:Nat):Int)-1)∧(e.kids.length:Int)=(p.getD e.num.toNat Fn.zero).params∧(0≤e.pick∧e.pick≤((p.getD e.num.toNat Fn.zero).outs.length:Int)-1):=by
 have:=(D0 (CJ h)).2.2.2.2.2.1 hk
 exact⟨⟨this.1,this.2.1⟩,this.2.2.1,this.2.2.2⟩
theorem J2 (h:wf p ((F:Nat):Int) e vars=true)(hk:e.kind=11):((p.getD e.num.toNat Fn.zero).outs.length:Int)=(p.getD e.num.toNat Fn.zero).params∧(0≤e.count∧e.count≤8):=(D0 (CJ h)).2.2.2.2.2.2.1 hk
theorem Vr (h:wf p ((F:Nat):Int) e vars=true)(hk:(e.kind≠1∧e.kind≠2∧e.kind≠8∧e.kind≠9)∧(e.kind≠10∧e.kind≠11∧e.kind≠3∧e.kind≠4∧e.kind≠5∧e.kind≠7)):e.kind=6:=by
 have:=(D0 (CJ h)).1
 omega
theorem Vs (h:wf p ((F:Nat):Int) e vars=true)(hk:(e.kind≠1∧e.kind≠2∧e.kind≠7∧e.kind≠8)∧(e.kind≠9∧e.kind≠10∧e.kind≠11)):e.kind=3∨e.kind=4∨e.kind=5∨e.kind=6:=by
 have:=(D0 (CJ h)).1
 omega
theorem MN (h:wf p ((F:Nat):Int) e vars=true)(hv:FY p)(hF:F≤p.length):e.kids.length≤12:=by
 have hq:=D0<|CJ h
 by_cases h10:e.kind=10∨e.kind=11
 ·have h1:=Fj h h10
  have:=hv.par e.num.toNat zO
  omega
 ·have h1:=hq.1;have h2:=hq.2.2.1;have h3:=hq.2.2.2.1;have h4:=hq.2.2.2.2.1
  by_cases hl:e.kind=1∨e.kind=2
  ·have h5:=CJ h
   unfold Ju at h5
   rcases hl with hl|hl
   ·rw[if_pos hl]at h5;simp only[z7,decide_eq_true_eq]at h5;omega
   ·rw[if_neg zO,if_pos hl]at h5;simp only[z7,decide_eq_true_eq]at h5;omega
  ·omega
end
section
variable {n:Nat} {C:Ca} {e:Ex} {env:List Sr} {s s1 s2:Nat} {c c1 c2:Int} {x y:Sr} {xs ys:List Sr}
theorem DD (hc:c≠0){r:Rs Sr}:AM (go c r) x s c:=AM.mk_err (Dj hc r) hc
theorem CG (hc:c=0)(hs:s=3000):AM (go c (CZ n C e env s)) x s1 7:=by
 subst hc;rw[CA,GM,if_pos (by omega)];exact AM.mk_err rfl (by decide)
theorem Ew (hc:c=0)(hs:s+1≤3000)(hk:e.kind=1):AM (go c (CZ n C e env s)) (HQ n e.num) (s+1) c:=by
 subst hc;rw[CA,GM,if_neg zO,if_pos hk];exact AM.mk_ok rfl
theorem Ey (hc:c=0)(hs:s+1≤3000)(hk:e.kind=2):AM (go c (CZ n C e env s)) (env.getD e.num.toNat []) (s+1) c:=by
 subst hc;rw[CA,GM,if_neg zO,if_neg zO,if_pos hk];exact AM.mk_ok rfl
theorem Ez (hc:c=0)(hs:s+1≤3000)(hk:e.kind=8)(hl:e.kids.length=3)(h1:AM (go c (CZ n C (e.kids.getD 0 Ex.zero) env (s+1))) x s1 c1)(hx:x.getD 0 0=0)
  (h2:AM (go c1 (CZ n C (e.kids.getD 1 Ex.zero) env s1)) y s2 c2):AM (go c (CZ n C e env s)) y s2 c2:=by
 subst hc
 rw[CA,GM,if_neg zO,if_neg zO,if_neg zO,if_pos hk,Ej _ _ _ _ _ _ (by omega)]
 rw[CA]at h1
 by_cases h0:c1=0
 ·subst h0;rw[h1.bindO,if_pos hx,Ej _ _ _ _ _ _ (by omega)];exact h2
 ·rw[h1.bindE h0];rw[Dj h0]at h2;exact h2
theorem EA (hc:c=0)(hs:s+1≤3000)(hk:e.kind=8)(hl:e.kids.length=3)(h1:AM (go c (CZ n C (e.kids.getD 0 Ex.zero) env (s+1))) x s1 c1)(hx:¬x.getD 0 0=0)
  (h2:AM (go c1 (CZ n C (e.kids.getD 2 Ex.zero) env s1)) y s2 c2):AM (go c (CZ n C e env s)) y s2 c2:=by
 subst hc
 rw[CA,GM,if_neg zO,if_neg zO,if_neg zO,if_pos hk,Ej _ _ _ _ _ _ (by omega)]
 rw[CA]at h1
 by_cases h0:c1=0
 ·subst h0;rw[h1.bindO,if_neg hx,Ej _ _ _ _ _ _ (by omega)];exact h2
 ·rw[h1.bindE h0];rw[Dj h0]at h2;exact h2
theorem EB (hc:c=0)(hs:s+1≤3000)(hk:e.kind=9)(hl:e.kids.length=2)(h1:AM (go c (CZ n C (e.kids.getD 0 Ex.zero) env (s+1))) x s1 c1)
  (h2:AM (go c1 (CZ n C (e.kids.getD 1 Ex.zero) (env++[x]) s1)) y s2 c2):AM (go c (CZ n C e env s)) y s2 c2:=by
 subst hc
 rw[CA,GM,if_neg zO,if_neg zO,if_neg zO,if_neg zO,if_pos hk,Ej _ _ _ _ _ _ (by omega)]
 rw[CA]at h1
 by_cases h0:c1=0
 ·subst h0;rw[h1.bindO,Ej _ _ _ _ _ _ (by omega)];exact h2
 ·rw[h1.bindE h0];rw[Dj h0]at h2;exact h2
theorem Hm (hs : s + 1 ≤ 3000) (h1 : e.kind ≠ 1) (h2 : e.kind ≠ 2) (h8 : e.kind ≠ 8) (h9 : e.kind ≠ 9) : CZ n C e env s = (DY n C e.kids env (s + 1)).bind fun xs t =>
      if e.kind = 10 then C.one e.num.toNat e.pick.toNat xs t
      else if e.kind = 11 then (K5 (C.all e.num.toNat) e.count.toNat xs t).bind fun ys u=>.ok (ys.getD e.pick.toNat []) u
      else Nv e.kind xs t:=by
  rw [GM,if_neg zO,if_neg h1,if_neg h2,if_neg h8,if_neg h9]
theorem D8 (hc:c=0)(hs:s+1≤3000)(h1:e.kind≠1)(h2:e.kind≠2)(h8:e.kind≠8)(h9:e.kind≠9)(hr:AM (go c (DY n C e.kids env (s+1))) xs s1 c1)(hc1:c1≠0):AM (go c (CZ n C e env s)) x s2 c1:=by
 subst hc
 rw[CA]at hr ⊢
 rw[Hm hs h1 h2 h8 h9,hr.bindE hc1];exact AM.mk_err rfl hc1
theorem DZ {p:List Fn}{F:Nat}(hc:c=0)(hs:s+1≤3000)(hk:e.kind=10)(hF:e.num.toNat<F)(hr:AM (go c (DY n (Fb p n F) e.kids env (s+1))) xs s1 c1)(hc1:c1=0)
  (h2:AM (go c1 (CZ n (Fb p n e.num.toNat) ((p.getD e.num.toNat Fn.zero).outs.getD e.pick.toNat Ex.zero) xs s1)) y s2 c2):AM (go c (CZ n (Fb p n F) e env s)) y s2 c2:=by
 subst hc;subst hc1
 rw[CA]at hr h2 ⊢
 rw[Hm hs zO zO zO zO,hr.bindO,if_pos hk,ML hF];exact h2
theorem E0 {p:List Fn}{F:Nat}(hc:c=0)(hs:s+1≤3000)(hk:e.kind=11)(hF:e.num.toNat<F)(hr:AM (go c (DY n (Fb p n F) e.kids env (s+1))) xs s1 c1)(hc1:c1=0)
  (h2:AM (K5 (fun a t=>DY n (Fb p n e.num.toNat) (p.getD e.num.toNat Fn.zero).outs a t) e.count.toNat xs s1) ys s2 c2):AM (go c (CZ n (Fb p n F) e env s)) (ys.getD e.pick.toNat []) s2 c2:=by
 subst hc;subst hc1
 rw[CA]at hr ⊢
 rw[Hm hs zO zO zO zO,hr.bindO,if_neg zO,if_pos hk]
 have hl:(Fb p n F).all e.num.toNat=fun a t=>DY n (Fb p n e.num.toNat) (p.getD e.num.toNat Fn.zero).outs a t:=funext fun a=>funext fun t=>HR hF
 rw[hl]
 by_cases h0:c2=0
 ·subst h0;rw[h2.bindO];exact AM.mk_ok rfl
 ·rw[h2.bindE h0];exact AM.mk_err rfl h0
theorem Bg (hc:c=0)(hs:s+1≤3000)(h1:e.kind≠1)(h2:e.kind≠2)(h8:e.kind≠8)(h9:e.kind≠9)(h10:e.kind≠10)(h11:e.kind≠11)(hr:AM (go c (DY n C e.kids env (s+1))) xs s1 c1)(hc1:c1=0)
  (h:AM (Nv e.kind xs s1) y s2 c2):AM (go c (CZ n C e env s)) y s2 c2:=by
 subst hc;subst hc1
 rw[CA]at hr ⊢
 rw[Hm hs h1 h2 h8 h9,hr.bindO,if_neg h10,if_neg h11];exact h
theorem FZ {k:Int}(hk:k=3):AM (Nv k xs s) (Cz (xs.getD 0 []) (xs.getD 1 [])) s 0:=by subst hk;exact AM.mk_ok rfl
theorem G0 {k:Int}(hk:k=4):AM (Nv k xs s) (GL (xs.getD 0 []) (xs.getD 1 [])) s 0:=by subst hk;exact AM.mk_ok rfl
theorem G3 {k:Int}(hk:k=5):AM (Nv k xs s) (Cs (xs.getD 0 []) (xs.getD 1 [])) s 0:=by subst hk;exact AM.mk_ok rfl
theorem G4 {k:Int}(hk:k=7):AM (Nv k xs s) (Di (xs.getD 0 []) 1000002) s 0:=by subst hk;exact AM.mk_ok rfl
theorem EC {k:Int}(hk:k=6)(hz:(xs.getD 1 []).getD 0 0=0):AM (Nv k xs s) x s1 6:=by
 subst hk
 have:Nv 6 xs s=.err 6:=by
  show(if (xs.getD 1 []).getD 0 0=0 then _ else _)=_
  rw[if_pos hz]
 exact AM.mk_err this (by decide)
theorem G5 {k:Int}(hk:k=6)(hz:¬(xs.getD 1 []).getD 0 0=0):AM (Nv k xs s) (Cm (xs.getD 0 []) (xs.getD 1 [])) s 0:=by
 subst hk
 have:Nv 6 xs s=.ok (Cm (xs.getD 0 []) (xs.getD 1 [])) s:=by
  show(if (xs.getD 1 []).getD 0 0=0 then _ else _)=_
  rw[if_neg hz]
 exact AM.mk_ok this
theorem Gn {l:List Ex}{k:Nat}(hk:k<l.length)(h:AM (go c (DY n C (l.take k) env s)) xs s1 c1)(h2:AM (go c1 (CZ n C (l.getD k Ex.zero) env s1)) x s2 c2) :
  AM (go c (DY n C (l.take (k+1)) env s)) (xs++[x]) s2 c2:=by
 by_cases hc:c=0
 ·subst hc
  rw[CA]at h ⊢
  rw[Ra hk]
  by_cases h0:c1=0
  ·subst h0
   rw[CA]at h2
   rw[h.bindO]
   by_cases h3:c2=0
   ·subst h3;rw[h2.bindO];exact AM.mk_ok rfl
   ·rw[h2.bindE h3];exact AM.mk_err rfl h3
  ·rw[h.bindE h0];rw[Dj h0]at h2;exact AM.mk_err (by rw[h2.1]) (by rw[h2.1];exact h2.2)
 ·rw[Dj hc]at h ⊢
  have hc1:c1≠0:=by rw[h.1];exact hc
  rw[Dj hc1]at h2
  exact AM.mk_err (by rw[h2.1,h.1]) (by rw[h2.1];exact hc1)
theorem Tq {f:List Sr→Nat→Rs (List Sr)}{k:Nat}(h:AM (K5 f k xs s) ys s1 c1)(hc:c1=0){zs:List Sr}(h2:AM (go c1 (f ys s1)) zs s2 c2):AM (K5 f (k+1) xs s) zs s2 c2:=by
 subst hc
 show AM ((K5 f k xs s).bind f) _ _ _
 rw[h.bindO];rw[CA]at h2;exact h2
theorem Pp {f:List Sr→Nat→Rs (List Sr)} {d:Int}:∀ {m k:Nat},K5 f k xs s = .err d→k≤m→K5 f m xs s = .err d
  | 0, k, h, hk => by have : k = 0 := by omega
                      subst this; exact h
  | m + 1,k,h,hk=>by
    by_cases e:k = m + 1
    · subst e; exact h
    · show (K5 f m xs s).bind f = _
      rw [Pp h (by omega)]; rfl
theorem E1 {f:List Sr→Nat→Rs (List Sr)}{k m:Nat}(h:AM (K5 f k xs s) ys s1 c1)(hk:k≤m)(hs:k=m∨c1≠0):AM (K5 f m xs s) ys s1 c1:=by
 by_cases hc:c1=0
 ·rcases hs with rfl|hh
  ·exact h
  ·exact absurd hc hh
 ·exact AM.mk_err (Pp (h.err hc) hk) hc
end
theorem Gp (n:Nat)(C:Ca)(l:List Ex)(env:List Sr)(s:Nat)(c:Int):AM (go c (DY n C (l.take 0) env s)) [] s c:=by
 rw[List.take_zero,DY]
 by_cases h:c=0
 ·subst h;exact AM.mk_ok rfl
 ·exact AM.mk_err (Dj h _) h
theorem Gq {n:Nat}{a b:Sr}(ha:D2 n a):D2 n (Cz a b):=⟨by unfold Cz;rw[Eu];exact ha.1,KK _ _⟩
theorem KQ {n:Nat}{a b:Sr}(ha:D2 n a):D2 n (GL a b):=⟨by rw[Hk];exact ha.1,KL _ _⟩
theorem Hn {n:Nat}{a b:Sr}(ha:D2 n a):D2 n (Cs a b):=⟨by unfold Cs;rw[Eu];exact ha.1,Hi _ _⟩
theorem Ho {n:Nat}{a b:Sr}(ha:D2 n a):D2 n (Cm a b):=⟨by rw[DC];exact ha.1,Gk _ _⟩
theorem KR {n:Nat}{a:Sr}{y:Int}(ha:D2 n a):D2 n (Di a y):=⟨by unfold Di;rw[Eu];exact ha.1,Gm _ _⟩
end
section
def Rb (p:List Fn)(n f:Nat)(a:List Sr):List Sr:=match ev p n f a with
 |.ok xs _=>xs
 |.err _=>[]
def Oq (p:List Fn)(n f:Nat)(a:List Sr):Nat:=match ev p n f a with
 |.ok _ s=>s
 |.err _=>0
def MO (p:List Fn)(n f:Nat)(a:List Sr):Int:=match ev p n f a with
 |.ok _ _=>0
 |.err c=>c
section
variable {p:List Fn} {n f s:Nat} {a x:List Sr} {c:Int}
theorem KS (h:AM (go 0 (DY n (Fb p n f) (p.getD f Fn.zero).outs a 0)) x s c)(hc:c=0):ev p n f a=.ok x s:=by subst hc;exact h.ok
theorem In (h:AM (go 0 (DY n (Fb p n f) (p.getD f Fn.zero).outs a 0)) x s c)(hc:c≠0):ev p n f a=.err c:=h.err hc
theorem KT (h:ev p n f a=.ok x s):Rb p n f a=x:=by unfold Rb;rw[h]
theorem Pq (h:ev p n f a=.ok x s):Oq p n f a=s:=by unfold Oq;rw[h]
theorem KU (h:ev p n f a=.ok x s):MO p n f a=0:=by unfold MO;rw[h]
theorem NV (h:ev p n f a=.err c):Rb p n f a=[]:=by unfold Rb;rw[h]
theorem Pr (h:ev p n f a=.err c):Oq p n f a=0:=by unfold Oq;rw[h]
theorem J3 (h:ev p n f a=.err c):MO p n f a=c:=by unfold MO;rw[h]
end
structure Ul (p:List Fn)(n f:Nat)(a:List Sr):Prop where
 code:0≤MO p n f a∧MO p n f a≤9
 steps:Oq p n f a≤3000
 len:MO p n f a=0→(Rb p n f a).length=(p.getD f Fn.zero).outs.length
 ser:C7 n (Rb p n f a)
 non:MO p n f a≠0→Rb p n f a=[]
theorem Ul.mk' {p:List Fn}{n f s:Nat}{a x:List Sr}{c:Int}(h:AM (go 0 (DY n (Fb p n f) (p.getD f Fn.zero).outs a 0)) x s c)(hc:0≤c∧c≤9)(hs:s≤3000)(hl:x.length=(p.getD f Fn.zero).outs.length)(hx:C7 n x):Ul p n f a:=by
 by_cases h0:c=0
 ·have e:=KS h h0
  exact⟨by rw[KU e];omega,by rw[Pq e];exact hs,fun _=>by rw[KT e];exact hl,by rw[KT e];exact hx,fun hh=>absurd (KU e) hh⟩
 ·have e:=In h h0
  exact⟨by rw[J3 e];exact hc,by rw[Pr e];omega,fun hh=>absurd (by rw[← hh,J3 e]) h0,by rw[NV e];intro k hk;simp at hk,fun _=>NV e⟩
end
def Um (s:ByteArray)(i:Nat):Bool:=(decide (97≤Jm s i) && decide (Jm s i≤122)) || (decide (i≠0) && (decide (48≤Jm s i) && decide (Jm s i≤57)))
def Nx (s:ByteArray):Bool:=(decide (1≤s.size) && decide (s.size≤12)) && (List.range s.size).all (Um s)
def Ml (p:List Fn)(e:Ex)(vars funcs:Int):Bool :=
 GA vars 0 412 && (GA funcs 0 ((p.length:Nat):Int) && (decide (e.size≤400) && (decide (e.deep≤60) && wf p funcs e vars)))
def Vt (p:List Fn)(k:Nat):Bool:=!((p.take k).any fun g=>Gi g.name (p.getD k Fn.zero).name)
def Kb (p:List Fn)(k:Nat):Bool :=
 (Nx (p.getD k Fn.zero).name && Vt p k) && ((GA (p.getD k Fn.zero).params 0 12 && GA (((p.getD k Fn.zero).outs.length:Nat):Int) 1 12) &&
  ((List.range (p.getD k Fn.zero).outs.length).all (fun j=>Ml p ((p.getD k Fn.zero).outs.getD j Ex.zero) (p.getD k Fn.zero).params ((k:Nat):Int)) && decide (Ex.sizes (p.getD k Fn.zero).outs≤400)))
def H2 (p:List Fn):Bool:=decide (p.length≤16) && (List.range p.length).all (Kb p)
def Qj (p:List Fn):Prop:=∀k,k<p.length→Ex.sizes (p.getD k Fn.zero).outs≤2000000∧(p.getD k Fn.zero).outs.length≤2000000∧(p.getD k Fn.zero).name.size≤2000000
theorem DS {f:Nat→Bool}{k:Nat}(h:(List.range k).all f=true)(hk:f k=true):(List.range (k+1)).all f=true:=by
 rw[List.range_succ,List.all_append,h];simp[hk]
theorem Jv {f:Nat→Bool}{k n:Nat}(hk:k<n)(h:f k=false):(List.range n).all f=false:=by
 rw[List.all_eq_false]
 exact⟨k,List.mem_range.2 hk,by simp[h]⟩
theorem Ps {f:Nat→Bool}{k n:Nat}(h:(List.range n).all f=true)(hk:k<n):f k=true:=zm.1 h k (List.mem_range.2 hk)
theorem Vu {p:List Fn}(h:H2 p=true){k:Nat}(hk:k<p.length):Kb p k=true:=by
 unfold H2 at h
 rw[z7]at h
 exact Ps h.2 hk
theorem HS {p:List Fn}(h:H2 p=true):FY p:=by
 have h1:∀k,k<p.length→(0≤(p.getD k Fn.zero).params∧(p.getD k Fn.zero).params≤12)∧(1≤(p.getD k Fn.zero).outs.length∧(p.getD k Fn.zero).outs.length≤12) ∧
   ∀j,j<(p.getD k Fn.zero).outs.length→Ml p ((p.getD k Fn.zero).outs.getD j Ex.zero) (p.getD k Fn.zero).params ((k:Nat):Int)=true:=by
  intro k hk
  have:=Vu h hk
  unfold Kb at this
  simp only[z7,Cw]at this
  exact⟨this.2.1.1,zO,fun j hj=>Ps this.2.2.1 hj⟩
 have h2:∀k,k<p.length→∀j,j<(p.getD k Fn.zero).outs.length→((p.getD k Fn.zero).outs.getD j Ex.zero).deep≤60∧wf p ((k:Nat):Int) ((p.getD k Fn.zero).outs.getD j Ex.zero) (p.getD k Fn.zero).params=true:=by
  intro k hk j hj
  have:=(h1 k hk).2.2 j hj
  unfold Ml at this
  simp only[z7,decide_eq_true_eq]at this
  exact⟨this.2.2.2.1,this.2.2.2.2⟩
 exact⟨fun k hk=>(h1 k hk).1,fun k hk=>(h1 k hk).2.1,fun k hk j hj=>(h2 k hk j hj).1,fun k hk j hj=>(h2 k hk j hj).2⟩
section
namespace Jx
variable [J:JR] {P:Program} {ops:Array Oper} {w0:World} {Q:Act→World→Prop}
theorem j1 {o:Oper}{os:List Oper}{ks:List Nat}{a:Act}{w:World}(h:_root_.Go.Proofs.YtjnbnlniafmblaaGreat.LW P ops w0 (fun a w=>LW P ops w0 Q os ks a w) [o] [0] a w):LW P ops w0 Q (o::os) (0::ks) a w:=by
 simp only[_root_.Go.Proofs.YtjnbnlniafmblaaGreat.LW]at h
 simp only[LW]
 split
 ·rename_i hw
  rw[if_pos hw]at h
  unfold _root_.Go.Proofs.YtjnbnlniafmblaaGreat.BE at h
  unfold BE
  rw[if_pos (by decide)]at h
  rw[if_pos (by decide)]
  obtain⟨v,h1,h2⟩:=h
  exact⟨v,fun w' _=>h1 w' trivial,h2⟩
 ·rename_i hw
  rw[if_neg hw]at h
  exact h
theorem Tr:∀ {os:List Oper}{ks:List Nat}{a:Act}{w:World}(_:ks.all (fun k=>k == 0 || k == 3 || k == 4)=true)(_:_root_.Go.Proofs.YtjnbnlniafmblaaGreat.LW P ops w0 Q os ks a w),LW P ops w0 Q os ks a w
 |[],_,_,_,_,h=>h
 |_::_,[],_,_,_,h=>h.elim
 |o::os,k::ks,a,w,hk,h=>by
  simp only[List.all_cons,z7]at hk
  simp only[_root_.Go.Proofs.YtjnbnlniafmblaaGreat.LW]at h
  simp only[LW]
  split
  ·rename_i hw
   rw[if_pos hw]at h
   unfold _root_.Go.Proofs.YtjnbnlniafmblaaGreat.BE at h
   unfold BE
   split at h
   ·rename_i h2
    rw[if_pos h2]
    have:k=0:=by
     have:=hk.1
     simp only[Bool.or_eq_true,beq_iff_eq]at this
     omega
    subst this
    obtain⟨v,h1,h3⟩:=h
    exact⟨v,fun w' _=>h1 w' trivial,Tr hk.2 h3⟩
   ·rename_i h2
    rw[if_neg h2]
    split at h
    ·rename_i h3
     rw[if_pos h3]
     exact Oper.wp_mono (fun a w hh=>⟨J.ext hh.1,Tr hk.2 hh.2⟩) h
    ·rename_i h3
     rw[if_neg h3]
     exact Oper.wp_mono (fun a w hh=>Tr hk.2 hh) h
  ·rename_i hw
   rw[if_neg hw]at h
   exact Tr hk.2 h
end Jx
end
section
section res
variable {P:Program} {N:Nat} {ρ:Nat→Value} {w:World}
theorem Rc:∀(l:List Nat),(((l.map ResultVar.tmp).mapM (m:=Sem) fun
  |.tmp t=>pure ((mk N ρ).tmps.getD t undef)
  |.cell a t=>do loadVar t (← asAddr ((mk N ρ).tmps.getD a undef)))).run P w=.ok (l.map fun t=>Bp N ρ (.tmp t)) w:=by
 intro l
 induction l with
 |nil=>rfl
 |cons t l ih =>
  simp only[zf,List.mapM_cons,Sem.run_bind,Sem.run_pure,Result.andThen_ok,Km]at ih ⊢
  rw[ih]
  rfl
theorem Mm {fn:Func}{R:Ending→World→Prop}{k s b t0:Nat}{ts:List Nat}{ty:TypeId}{cs:List Value}(vs:List Value)(hr:fn.results=(ResultVar.cell k ty::((t0::ts).map ResultVar.tmp)).toArray)(ha:Dt P ty s=true)(hv:Bp N ρ (.tmp k)=.pointer (some ⟨b,0,none⟩))(hb:BX w.heap b cs)(hl:cs.length=s)
  (hvs:((t0::ts).map fun t=>Bp N ρ (.tmp t))=vs) (h:R (.returned (.tuple (.agg cs.toArray::vs).toArray)) w):bodyPost P fn R .ret (mk N ρ) w:=by
 subst hvs
 refine⟨rfl,_,?_,h⟩
 have hld:=IZ (P:=P) ha (LD.of_box hb) hl
 have hg:(mk N ρ).tmps.getD k undef=.pointer (some ⟨b,0,none⟩):=by rw[Km,hv]
 have hi:(asAddr (.pointer (some ⟨b,0,none⟩))).run P w=.ok ⟨b,0,none⟩ w:=rfl
 have key:=Rc (P:=P) (N:=N) (ρ:=ρ) (w:=w) (t0::ts)
 unfold results
 rw[hr]
 simp only[List.mapM_toArray,Sem.run_bind,Sem.run_map]
 have hfull:(((ResultVar.cell k ty::((t0::ts).map ResultVar.tmp)).mapM (m:=Sem) fun
  |.tmp t=>pure ((mk N ρ).tmps.getD t undef)
  |.cell a t=>do loadVar t (← asAddr ((mk N ρ).tmps.getD a undef)))).run P w=.ok (.agg cs.toArray::((t0::ts).map fun t=>Bp N ρ (.tmp t))) w:=by
  rw[List.mapM_cons]
  simp only[Sem.run_bind,Sem.run_pure,hg,hi,hld,Result.andThen_ok]
  rw[key]
  rfl
 refine (congrArg (fun r=>(Result.andThen (Result.andThen r fun a w'=>Result.ok a.toArray w') fun a w'=>Result.ok (if h:a.size=1 then a[0]else Value.tuple a) w')) hfull).trans ?_
 simp only[Result.andThen_ok]
 rfl
end res
end
section
set_option linter.unusedSectionVars false
namespace Jx
section
variable [J:JR] {P:Program} {ops:Array Oper} {md:Region.Mode} {kd bs:Nat→Nat} {w0:World} {Q:Act→World→Prop}
theorem Kr {Q':Act→World→Prop}(h:∀a w,Q a w→Q' a w):∀(l:List Nat)(a:Act)(w:World),LI P ops kd w0 Q l a w→LI P ops kd w0 Q' l a w
 |[],a,w,hh=>h a w hh
 |i::l,a,w,hh=>by
  simp only[LI]at hh ⊢
  cases hoi:ops[i]? with
  |none=>rw[hoi]at hh;exact hh.elim
  |some o =>
   rw[hoi]at hh
   simp only at hh ⊢
   split
   ·rename_i hw
    rw[if_pos hw]at hh
    exact hh.mono fun a w=>Kr h l a w
   ·rename_i hw
    rw[if_neg hw]at hh
    exact Kr h l _ _ hh
theorem KV (s:List Nat):∀(l:List Nat)(a:Act)(w:World),LI P ops kd w0 (LI P ops kd w0 Q s) l a w→LI P ops kd w0 Q (l++s) a w
 |[],a,w,hh=>hh
 |i::l,a,w,hh=>by
  simp only[LI,List.cons_append]at hh ⊢
  cases hoi:ops[i]? with
  |none=>rw[hoi]at hh;exact hh.elim
  |some o =>
   rw[hoi]at hh
   simp only at hh ⊢
   split
   ·rename_i hw
    rw[if_pos hw]at hh
    exact hh.mono fun a w=>KV s l a w
   ·rename_i hw
    rw[if_neg hw]at hh
    exact KV s l _ _ hh
theorem DP {Q':Act→World→Prop}(hQ:∀a w,Q a w→Q' a w):∀(l:List Nat)(os:List Oper)(ks:List Nat)(a:Act)(w:World),Mt ops kd l os ks→LW P ops w0 Q os ks a w→LI P ops kd w0 Q' l a w
 |[],[],_,a,w,_,h=>by simpa [LI]using hQ a w (by simpa [LW]using h)
 |x::l,o::os,k::ks,a,w,⟨h0,hk,hM⟩,h=>by
  have hr:∀a w,LW P ops w0 Q os ks a w→LI P ops kd w0 Q' l a w:=fun a w hh=>DP hQ l os ks a w hM hh
  simp only[LI,h0,LW]at h ⊢
  split
  ·rename_i hw
   rw[if_pos hw]at h
   rw[hk]
   exact h.mono hr
  ·rename_i hw
   rw[if_neg hw]at h
   exact hr _ _ h
 |[],_::_,_,_,_,h,_=>h.elim
 |_::_,[],_,_,_,h,_=>h.elim
 |_::_,_::_,[],_,_,h,_=>h.elim
structure OF (ops:Array Oper)(kd bs:Nat→Nat)(w0:World)(L0 S:List Nat)(n:Nat)(l:List Nat)(listed:Array Bool)(w:World):Prop where
 sub:l.Sublist L0
 len:l.length+S.length=n
 mem:∀i,i∈l++S↔listed.getD i true=false
 sz:listed.size=ops.size
 clo:Jn bs listed
 inv:NA kd w0 w (l++S)
 nd:(l++S).Nodup
variable {L0:List Nat}
theorem Ts {l:List Nat}(hp:l.Pairwise (fun x y=>4≤kd x→kd y≠1)):NB kd l:=by
 intro l1 i l2 hl hk j hj
 subst hl
 exact List.rel_of_pairwise_cons (List.pairwise_append.1 hp).2.1 hj hk
theorem KW (hsel:∀(j:Nat)(o:Oper) cs b,ops[j]? = some o→o.op≠.select cs b)(hS:M8 md ops bs)
  (hlex:∀j oj,ops[j]? = some oj→∀e∈oj.after,Region.binds md e=true→e.on<j) {s:List Nat} (hp:(L0++s).Pairwise (Eg md ops kd bs)) (h14:(L0++s).Pairwise (fun x y=>4≤kd x→kd y≠1))
  (n:Nat) (l:List Nat) (listed:Array Bool) (a:Act) (w:World) (hC:OF ops kd bs w0 L0 s n l listed w) (h:LI P ops kd w0 (LI P ops kd w0 Q s) l a w):wpAny P md ops (NQ Q) n listed a w :=
 Fp hsel hS hlex n (l++s) listed a w (by rw[z4];exact hC.len) (hp.sublist (List.Sublist.append_right hC.sub s)) hC.nd hC.sz hC.mem hC.clo
  (Ts (h14.sublist (List.Sublist.append_right hC.sub s))) hC.inv (KV s l a w h)
theorem Jw (hsel:∀ (j:Nat) (o:Oper) cs b,ops[j]? = some o→o.op≠.select cs b) (hS:M8 md ops bs)
  (hlex:∀ j oj,ops[j]? = some oj→∀ e∈oj.after,Region.binds md e = true→e.on < j)
  {h1 h2:Nat} {S1 S2:List Nat} {Q1 Q2:Act→World→Prop} (hperm:(h1 :: S1).Perm (h2 :: S2)) (hk1:kd h1 = 3) (hk2:kd h2 = 3)
  (hl:∀ x∈L0,kd x≤2) (hL:L0.Pairwise (Eg md ops kd bs)) (hf1:∀ x∈L0,Eg md ops kd bs x h1) (hf2:∀ x∈L0,Eg md ops kd bs x h2)
  (hz:∀ z∈S1,z = h2∨(bs z).testBit h1 = true∨(bs z).testBit h2 = true)
  (hord:(L0++h1 :: S1).Pairwise (fun x y=>∀ ox,ops[x]? = some ox→∀ e∈ox.after,Region.binds md e = true→e.on≠y))
  (rec1:∀ n l listed a w,OF ops kd bs w0 L0 S1 n l listed w→LI P ops kd w0 Q1 l a w→wpAny P md ops (NQ Q) n listed a w)
  (rec2:∀ n l listed a w,OF ops kd bs w0 L0 S2 n l listed w→LI P ops kd w0 Q2 l a w→wpAny P md ops (NQ Q) n listed a w) :
  ∀ (n:Nat) (l:List Nat) (listed:Array Bool) (a:Act) (w:World),OF ops kd bs w0 L0 (h1 :: S1) n l listed w→LI P ops kd w0 (fun a w=>LI P ops kd w0 Q1 [h1] a w∧LI P ops kd w0 Q2 [h2] a w) l a w→wpAny P md ops (NQ Q) n listed a w
 | 0,l,listed,a,w,hC,h=>by have:=hC.len; simp at this
 | n + 1,l,listed,a,w,hC,h=>by
  have hm2:∀ i,i∈l++h1 :: S1↔i∈l++h2 :: S2:=fun i=>by
   simp only [zi]; rw [hperm.mem_iff]
  have hun_of:∀ i∈l++h1 :: S1,listed.getD i true = false:=fun i hi=>(hC.mem i).1 hi
  -- a place that makes memory is taken
  have heavy:∀ (x:Nat) (T:List Nat) (Qx:Act→World→Prop),kd x = 3→(h1 :: S1).Perm (x :: T)→(∀ y∈L0,Eg md ops kd bs y x)→LI P ops kd w0 Qx (l++[x]) a w →
    (∀ l' a' w' listed',OF ops kd bs w0 L0 T n l' listed' w'→LI P ops kd w0 Qx l' a' w'→wpAny P md ops (NQ Q) n listed' a' w') →
    ∀ (ox:Oper),ops[x]? = some ox→(∀ e∈ox.after,Region.binds md e = true→listed.getD e.on false = true)→wpOp P ops (NQ Q) x (wpAny P md ops (NQ Q) n (listed.setIfInBounds x true)) a w:=by
   intro x T Qx hkx hpx hfx hLx hrec ox hox hall
   have hbits:=Et hS hC.clo hox hall
   have hxm:x∈l++h1 :: S1:=z1 _ (hpx.mem_iff.2 (z0 ..))
   have hxu:=hun_of x hxm
   have hfree:=FQ (kd:=kd) (l1:=l) hox (fun y hy=>(hfx y<|hC.sub.subset hy).1) (fun y hy=>hun_of y<|z8 _ hy) hbits
   have hsz:=CM hxu
   have hnd2:(l++x :: T).Nodup:=(List.Perm.append_left l hpx).nodup_iff.1 hC.nd
   have hxl:x∉l++T:=by
    have h1:=List.nodup_append.1 hnd2
    intro hmem
    rcases zi.1 hmem with hh | hh
    ·exact h1.2.2 x hh x (z0 ..) rfl
    ·exact (List.nodup_cons.1 h1.2.1).1 hh
   have hmT:∀ i,i∈l++x :: T↔listed.getD i true = false:=fun i=>by
    rw [← hC.mem i]; simp only [zi]; rw [hpx.mem_iff]
   have hcond:∀ w',(AF w w')→OF ops kd bs w0 L0 T n l (listed.setIfInBounds x true) w':=fun w' hE =>
    ⟨hC.sub,by have:=hC.len; have:=hpx.length_eq; simp at *; omega,HL hmT hxl hsz,by simpa using hC.sz,GC hC.clo hbits,
     fun ⟨j,hj,hkj⟩=>(hC.inv ⟨j,by
      rcases zi.1 hj with hh | hh
      ·exact z8 _ hh
      ·exact z1 _ (hpx.mem_iff.2 (z3 _ hh)),hkj⟩).trans hE,
     hnd2.sublist (List.Sublist.append_left (List.sublist_cons_self _ _) _)⟩
   obtain ⟨g1,g2⟩:=K1 (Q:=Qx) hsel hox zO l [] a w hfree (by simpa using hLx)
   unfold wpOp
   rw [hox]
   by_cases hw:Region.wanted ox (yielded ops a.tmps) = true
   ·simp only [hw,if_true]
    exact .inl<|Oper.wp_mono (fun a' w' hK=>hrec l a' w' _ (hcond w'<|hK.1 hkx) (by simpa using hK.2))<|IR<|g1 hw
   ·simp only [hw,Bool.false_eq_true,if_false]
    exact hrec l _ w _ (hcond w<|AF.refl w) (by simpa using g2 (by simpa using hw))
  refine ⟨fun h0=>?_,fun i hi=>?_⟩
  ·exfalso
   have hready:∀ (x:Nat) (t:List Nat),l++h1 :: S1 = x :: t→False:=fun x t ht=>by
    have hs:(x :: t).Pairwise (fun x y=>∀ ox,ops[x]? = some ox→∀ e∈ox.after,Region.binds md e = true→e.on≠y):=ht ▸ hord.sublist (List.Sublist.append_right hC.sub _)
    have:=Ig (md:=md) (i:=x) (l:=t) hC.sz (fun y=>ht ▸ hC.mem y) hlex (fun y hy ox hox=>(List.pairwise_cons.1 hs).1 y hy ox hox)
    rw [h0] at this
    cases this
   cases l with
   | nil=>exact hready _ _ rfl
   | cons x l=>exact hready x (l++h1 :: S1) rfl
  ·obtain ⟨hun,oi,hoi,hall⟩:=mem_ready.1 hi
   have hmem:=(hC.mem i).2 hun
   have hbits:=Et hS hC.clo hoi hall
   by_cases hil:i∈l
   ·obtain ⟨l1,l2,rfl⟩:=List.append_of_mem hil
    have hpi:∀ x∈l1,Eg md ops kd bs x i:=fun x hx=>(List.pairwise_append.1 (hL.sublist hC.sub)).2.2 x hx i (z0 ..)
    have hfree:=FQ (kd:=kd) (l1:=l1) hoi (fun x hx=>(hpi x hx).1) (fun x hx=>hun_of x (by simp [hx])) hbits
    have hk:kd i≤2:=hl i (hC.sub.subset (by simp))
    have hsub0:(l1++l2).Sublist (l1++i :: l2):=List.Sublist.append_left (List.sublist_cons_self _ _) _
    have hnd1:(l1++i :: (l2++h1 :: S1)).Nodup:=by have:=hC.nd; rwa [List.append_assoc,List.cons_append] at this
    have hnot:i∉l1++(l2++h1 :: S1):=by
     have h1:=List.nodup_append.1 hnd1
     intro hmem
     rcases zi.1 hmem with hh | hh
     ·exact h1.2.2 i hh i (z0 ..) rfl
     ·exact (List.nodup_cons.1 h1.2.1).1 hh
    have hm1:∀ x,x∈l1++i :: (l2++h1 :: S1)↔listed.getD x true = false:=fun x=>by
     have:=hC.mem x; rwa [List.append_assoc,List.cons_append] at this
    have hcond:OF ops kd bs w0 L0 (h1 :: S1) n (l1++l2) (listed.setIfInBounds i true) w :=
     ⟨hsub0.trans hC.sub,by have:=hC.len; simp at *; omega,fun x=>by rw [List.append_assoc]; exact HL hm1 hnot (CM hun) x,by simpa using hC.sz,GC hC.clo hbits,
      fun ⟨j,hj,hkj⟩=>hC.inv ⟨j,by
       rcases zi.1 hj with hh | hh
       ·exact z8 _<|hsub0.subset hh
       ·exact z1 _ hh,hkj⟩,
      hC.nd.sublist (List.Sublist.append_right hsub0 _)⟩
    obtain ⟨v,hv,hL'⟩:=Ib hsel hoi hk l1 l2 a w hfree (fun h1=>hC.inv ⟨i,by simp,h1⟩) h
    unfold wpOp
    rw [hoi]
    have rec_:=fun a' hh=>Jw hsel hS hlex hperm hk1 hk2 hl hL hf1 hf2 hz hord rec1 rec2 n (l1++l2) (listed.setIfInBounds i true) a' w hcond hh
    rcases hv with ⟨hw,hy⟩ | ⟨hw,rfl⟩
    ·simp only [hw,if_true]
     exact .inl<|IS (hy w (Cl.self fun h1=>hC.inv ⟨i,by simp,h1⟩))<|rec_ _ hL'
    ·simp only [hw,Bool.false_eq_true,if_false]
     exact rec_ _ hL'
   ·have hiS:i∈h1 :: S1:=(zi.1 hmem).resolve_left hil
    have h12:i = h1∨i = h2:=by
     rcases ze.1 hiS with hh | hh
     ·exact .inl hh
     ·rcases hz i hh with hh | hh | hh
      ·exact .inr hh
      ·have q1:=hbits h1 hh
       have q2:=DL<|hun_of h1 (by simp)
       rw [q1] at q2; cases q2
      ·have q1:=hbits h2 hh
       have q2:=DL<|hun_of h2 ((hm2 h2).2 (by simp))
       rw [q1] at q2; cases q2
    rcases h12 with rfl | rfl
    ·exact heavy i S1 Q1 hk1 (List.Perm.refl _) hf1 (KV [i] l a w<|Kr (fun _ _ hh=>hh.1) l a w h) (fun l' a' w' li hc hh=>rec1 n l' li a' w' hc hh) oi hoi hall
    ·exact heavy i S2 Q2 hk2 hperm hf2 (KV [i] l a w<|Kr (fun _ _ hh=>hh.2) l a w h) (fun l' a' w' li hc hh=>rec2 n l' li a' w' hc hh) oi hoi hall
theorem MP (x:Nat)(l:List Nat)(a:Act)(w:World)(hh:LI P ops kd w0 Q (x::l) a w):LI P ops kd w0 (LI P ops kd w0 Q l) [x] a w:=by
 simp only[LI]at hh ⊢
 cases hoi:ops[x]? with
 |none=>rw[hoi]at hh;exact hh.elim
 |some o =>
  rw[hoi]at hh
  simp only at hh ⊢
  split
  ·rename_i hw
   rw[if_pos hw]at hh
   exact hh.mono fun a w h=>h
  ·rename_i hw
   rw[if_neg hw]at hh
   exact hh
end
def Pt (ops:Array Oper)(x y:Nat):Bool:=match ops[x]? with|some ox=>ox.after.all fun e=>!Region.binds .any e || e.on != y|none=>true
def Xa (os:List Oper)(ks:List Nat)(L0:List Nat)(h1 g1:Nat)(r1:List Nat)(g2:Nat)(r2:List Nat)(h2:Nat)(r3:List Nat):Bool :=
  let ops:=os.toArray
  let b:=(Region.before ops).toList
  Region.noSelect ops &&
  (os.zipIdx.all fun(o,j) =>
    (o.after.all fun e=>!Region.binds .any e || decide (e.on<j)) &&
    (let m:=o.after.foldl (fun s e=>if Region.binds .any e then s ||| 2 ^ e.on ||| b.getD e.on 0 else s) 0
     (b.getD j 0 == m))) &&
  (decide (ks.getD h1 0=3) && (decide (ks.getD h2 0=3) && (decide (ks.getD g1 0=3) && decide (ks.getD g2 0=3)))) &&
  (L0.all fun x=>decide (ks.getD x 0≤2)) &&
  Qd (Hd ops ks b) L0 &&
  (L0.all fun x=>Hd ops ks b x h1 && (Hd ops ks b x h2 && (Hd ops ks b x g1 && Hd ops ks b x g2))) &&
  ((h1::g1::r1).isPerm (h2::r3) && (g1::r1).isPerm (g2::r2)) &&
  ((g1::r1).all fun z=>decide (z=h2) || ((b.getD z 0).testBit h1 || (b.getD z 0).testBit h2)) &&
  (r1.all fun z=>decide (z=g2) || ((b.getD z 0).testBit g1 || (b.getD z 0).testBit g2)) &&
  (Qd (Pt ops) (L0++h1::g1::r1)) &&
  (Qd (Hd ops ks b) (L0++r1) && (Qd (Hd ops ks b) (L0++r2) && Qd (Hd ops ks b) (L0++r3))) &&
  (Qd (fun x y=>!(decide (4≤ks.getD x 0)) || ks.getD y 0 != 1) (L0++r1) && (Qd (fun x y=>!(decide (4≤ks.getD x 0)) || ks.getD y 0 != 1) (L0++r2) && Qd (fun x y=>!(decide (4≤ks.getD x 0)) || ks.getD y 0 != 1) (L0++r3))) &&
  (decide ((L0++h1::g1::r1).length=os.length) && (decide (L0++h1::g1::r1).Nodup && ((L0++h1::g1::r1).all (fun x=>decide (x<os.length)) && (List.range os.length).all fun x=>(L0++h1::g1::r1).contains x)))
section
variable [J:JR] {P:Program}
theorem Xb {id:Nat}{Q:Exit→Act→World→Prop}{a:Act}{w:World}(os:List Oper)(ks:List Nat)(L0:List Nat)(h1 g1:Nat)(r1:List Nat)(g2:Nat)(r2:List Nat)(h2:Nat)(r3:List Nat)
  (oL:List Oper) (kL:List Nat) (oh1 og1:Oper) (o1:List Oper) (k1:List Nat) (og2:Oper) (o2:List Oper) (k2:List Nat) (oh2:Oper) (o3:List Oper) (k3:List Nat) (hm:P.follows .mixedOrders=true) (hB:Xa os ks L0 h1 g1 r1 g2 r2 h2 r3=true)
  (hML:Mt os.toArray (fun i=>ks.getD i 0) L0 oL kL) (hMh:Mt os.toArray (fun i=>ks.getD i 0) [h1] [oh1] [3]) (hM1:Mt os.toArray (fun i=>ks.getD i 0) (g1::r1) (og1::o1) (3::k1)) (hM2:Mt os.toArray (fun i=>ks.getD i 0) (g2::r2) (og2::o2) (3::k2)) (hM3:Mt os.toArray (fun i=>ks.getD i 0) (h2::r3) (oh2::o3) (3::k3))
  (h:LW P os.toArray w.drew (fun a' w'=>LW P os.toArray w.drew (fun a'' w''=>LW P os.toArray w.drew (fun a w=>Q .normal a w) (og1::o1) (3::k1) a'' w''∧LW P os.toArray w.drew (fun a w=>Q .normal a w) (og2::o2) (3::k2) a'' w'') [oh1] [3] a' w' ∧
   LW P os.toArray w.drew (fun a w=>Q .normal a w) (oh2::o3) (3::k3) a' w') oL kL a w.drew):(Code.region id os.toArray true).wp P Q a w:=by
 refine wp_region_any hm ?_
 simp only[Xa,z7,decide_eq_true_eq]at hB
 obtain⟨⟨⟨⟨⟨⟨⟨⟨⟨⟨⟨⟨hsel,hpl⟩,hk1,hk2,hk3,hk4⟩,hl⟩,hpL⟩,hpx⟩,hpe1,hpe2⟩,hz1⟩,hz2⟩,hord⟩,hb1,hb2,hb3⟩,hn1,hn2,hn3⟩,hln,hnd,hlt,hct⟩:=hB
 have hz:∀ {j:Nat} {o:Oper},os.toArray[j]? = some o→(o,j)∈os.zipIdx:=by
  intro j o ho
  rw[List.mem_zipIdx_iff_getElem?]
  simpa using ho
 have hall:∀j oj,os.toArray[j]? = some oj→_:=fun j oj hj=>zm.1 hpl _ (hz hj)
 have hlex:∀j oj,os.toArray[j]? = some oj→∀e∈oj.after,Region.binds .any e=true→e.on<j:=by
  intro j oj hj e he hb
  have h1:=(z7 _ _ ▸ hall j oj hj:_∧_).1
  have h2:=(Array.all_eq_true_iff_forall_mem.1 h1) e he
  simpa [hb]using h2
 have hS:M8 .any os.toArray (fun j=>(Region.before os.toArray).toList.getD j 0):=by
  intro j oj hj i hb
  have h3:=(z7 _ _ ▸ hall j oj hj:_∧_).2
  have h5:(Region.before os.toArray).toList.getD j 0=oj.after.foldl (fun s e=>if Region.binds .any e then s ||| 2 ^ e.on ||| (Region.before os.toArray).toList.getD e.on 0 else s) 0:=by simpa using h3
  dsimp only at hb
  rw[h5,← Array.foldl_toList]at hb
  rcases GD _ _ _ _ hb with hb|⟨e,he,hbb,hh⟩
  ·simp at hb
  ·exact⟨e,Array.mem_toList_iff.1 he,hbb,hh⟩
 have hmem:∀x,x∈L0++h1::g1::r1↔x<os.length:=fun x=>by
  constructor
  ·intro hx;exact of_decide_eq_true (zm.1 hlt x hx)
  ·intro hx
   have:=zm.1 hct x (List.mem_range.2 hx)
   simpa using this
 have hse:=Region.noSelect_spec hsel
 have P2:∀ {l:List Nat},Qd (Hd os.toArray ks (Region.before os.toArray).toList) l=true→l.Pairwise (Eg .any os.toArray (fun i=>ks.getD i 0) (fun j=>(Region.before os.toArray).toList.getD j 0)):=fun h=>IU (fun x y hh=>Fs hh) h
 have N2:∀ {l:List Nat},Qd (fun x y=>!(decide (4≤ks.getD x 0)) || ks.getD y 0 != 1) l=true→l.Pairwise (fun x y=>4≤ks.getD x 0→ks.getD y 0≠1):=fun h=>IU (fun x y hxy h4=>by
  rcases Bool.or_eq_true_iff.1 hxy with hh|hh
  ·simp only[Bool.not_eq_true',decide_eq_false_iff_not]at hh;exact absurd h4 hh
  ·simpa using hh) h
 have hL2:∀x∈L0,ks.getD x 0≤2:=fun x hx=>of_decide_eq_true (zm.1 hl x hx)
 have hx4:∀x∈L0,_:=fun x hx=>zm.1 hpx x hx
 simp only[z7]at hx4
 have hordP:(L0++h1::g1::r1).Pairwise (fun x y=>∀ox,os.toArray[x]? = some ox→∀e∈ox.after,Region.binds .any e=true→e.on≠y):=IU (fun x y hh ox hox e he hb=>by
  unfold Pt at hh
  rw[hox]at hh
  have:=(Array.all_eq_true_iff_forall_mem.1 hh) e he
  simpa [hb]using this) hord
 have hord2:(L0++g1::r1).Pairwise (fun x y=>∀ox,os.toArray[x]? = some ox→∀e∈ox.after,Region.binds .any e=true→e.on≠y):=hordP.sublist (List.Sublist.append_left (List.sublist_cons_self _ _) _)
 have zz1:∀z∈g1::r1,z=h2∨((Region.before os.toArray).toList.getD z 0).testBit h1=true∨((Region.before os.toArray).toList.getD z 0).testBit h2=true:=fun z hz=>by
  have:=zm.1 hz1 z hz
  simpa only[Bool.or_eq_true,decide_eq_true_eq]using this
 have zz2:∀z∈r1,z=g2∨((Region.before os.toArray).toList.getD z 0).testBit g1=true∨((Region.before os.toArray).toList.getD z 0).testBit g2=true:=fun z hz=>by
  have:=zm.1 hz2 z hz
  simpa only[Bool.or_eq_true,decide_eq_true_eq]using this
 have base1:=KW (P:=P) (w0:=w.drew) (Q:=fun a w=>Q .normal a w) hse hS hlex (P2 hb1)<|N2 hn1
 have base2:=KW (P:=P) (w0:=w.drew) (Q:=fun a w=>Q .normal a w) hse hS hlex (P2 hb2)<|N2 hn2
 have base3:=KW (P:=P) (w0:=w.drew) (Q:=fun a w=>Q .normal a w) hse hS hlex (P2 hb3)<|N2 hn3
 have inner:=Jw (P:=P) (w0:=w.drew) (Q:=fun a w=>Q .normal a w) hse hS hlex (h1:=g1) (h2:=g2) (S1:=r1) (S2:=r2) (List.isPerm_iff.1 hpe2) hk3 hk4 hL2 (P2 hpL) (fun x hx=>Fs (hx4 x hx).2.2.1) (fun x hx=>Fs (hx4 x hx).2.2.2) zz2 hord2 base1 base2
 have outer:=Jw (P:=P) (w0:=w.drew) (Q:=fun a w=>Q .normal a w) hse hS hlex (h1:=h1) (h2:=h2) (S1:=g1::r1) (S2:=r3) (List.isPerm_iff.1 hpe1) hk1 hk2 hL2 (P2 hpL) (fun x hx=>Fs (hx4 x hx).1) (fun x hx=>Fs (hx4 x hx).2.1) zz1 hordP inner base3
 have key:=outer os.length L0 (Array.replicate os.length false) a w.drew ⟨List.Sublist.refl _,by rw[← hln,z4],fun x=>?_,by simp,?_,fun _=>AF.refl _,hnd⟩ ?_
 ·have:=Ih _ _ _ _ key
  simpa using this
 ·rw[hmem]
  constructor
  ·intro hx;simp[hx]
  ·intro hh
   rcases Nat.lt_or_ge x os.length with h'|h'
   ·exact h'
   ·simp[Array.getElem?_eq_none (show(Array.replicate os.length false).size≤x by simpa using h')]at hh
 ·intro i hi
  rcases Nat.lt_or_ge i os.length with h'|h'
  ·simp[h']at hi
  ·simp[Array.getElem?_eq_none (show(Array.replicate os.length false).size≤i by simpa using h')]at hi
 ·refine DP (fun a w hh=>⟨?_,?_⟩) _ _ _ _ _ hML h
  ·exact DP (fun a w hh=>⟨MP _ _ _ _<|DP (fun _ _ h=>h) _ _ _ _ _ hM1 hh.1,MP _ _ _ _<|DP (fun _ _ h=>h) _ _ _ _ _ hM2 hh.2⟩) _ _ _ _ _ hMh hh.1
  ·exact MP _ _ _ _<|DP (fun _ _ h=>h) _ _ _ _ _ hM3 hh.2
theorem ZR {ops:Array Oper}{w0:World}{Q:Act→World→Prop}{o:Oper}{os:List Oper}{ks:List Nat}{a:Act}{w:World}(h:_root_.Go.Proofs.YtjnbnlniafmblaaGreat.LW P ops w0 (fun a' w'=>AF w w'∧LW P ops w0 Q os ks a' w') [o] [4] a w):LW P ops w0 Q (o::os) (3::ks) a w:=by
 simp only[_root_.Go.Proofs.YtjnbnlniafmblaaGreat.LW]at h
 simp only[LW]
 split
 ·rename_i hw
  rw[if_pos hw]at h
  unfold _root_.Go.Proofs.YtjnbnlniafmblaaGreat.BE at h
  unfold BE
  rw[if_neg (by decide),if_neg (by decide)]at h
  rw[if_neg (by decide),if_pos rfl]
  exact h
 ·rename_i hw
  rw[if_neg hw]at h
  exact h.2
theorem Z6 {ops:Array Oper}{w0:World}{Q:Act→World→Prop}{o:Oper}{os:List Oper}{ks:List Nat}{a:Act}{w:World}(h:_root_.Go.Proofs.YtjnbnlniafmblaaGreat.LW P ops w0 (fun a' w'=>LW P ops w0 Q os ks a' w') [o] [3] a w):LW P ops w0 Q (o::os) (3::ks) a w:=by
 simp only[_root_.Go.Proofs.YtjnbnlniafmblaaGreat.LW]at h
 simp only[LW]
 split
 ·rename_i hw
  rw[if_pos hw]at h
  unfold _root_.Go.Proofs.YtjnbnlniafmblaaGreat.BE at h
  unfold BE
  rw[if_neg (by decide),if_pos rfl]at h
  rw[if_neg (by decide),if_pos rfl]
  exact Oper.wp_mono (fun a w hh=>⟨J.ext hh.1,hh.2⟩) h
 ·rename_i hw
  rw[if_neg hw]at h
  exact h
end
end Jx
end
section
structure Az where
 op:Int
 a:Int
 b:Int
 num:Int
def Az.zero:Az:=⟨0,0,0,0⟩
structure Gr where
 reg:Int
 z:Bool
def Gr.zero:Gr:=⟨0,false⟩
structure Tp where
 code:List Az
 grd:List Gr
 vals:List Int
def Xc (x:Az):List Value:=[.int .i64 x.op,.int .i64 x.a,.int .i64 x.b,.int .i64 x.num]
def Xd (x:Gr):List Value:=[.int .i64 x.reg,.bool x.z]
def OG (x:Az):Prop:=Bk x.op∧Bk x.a∧Bk x.b∧Bk x.num
def Jy:Bz Az:=fun _ cs x F=>cs=Xc x∧OG x∧F=[]
def Jz:Bz Gr:=fun _ cs x F=>cs=Xd x∧Bk x.reg∧F=[]
theorem AW:C3 4 Jy where
 len:=fun h=>by rw[h.1];rfl
 one:=fun h u hu=>by
  rw[h.1]at hu
  simp only[Xc,ze,z2,or_false]at hu
  rcases hu with rfl|rfl|rfl|rfl <;> exact⟨rfl,rfl⟩
 lt:=fun h b hb=>by rw[h.2.2]at hb;cases hb
 stable:=fun h _=>h
theorem B6:C3 2 Jz where
 len:=fun h=>by rw[h.1];rfl
 one:=fun h u hu=>by
  rw[h.1]at hu
  simp only[Xd,ze,z2,or_false]at hu
  rcases hu with rfl|rfl <;> exact⟨rfl,rfl⟩
 lt:=fun h b hb=>by rw[h.2.2]at hb;cases hb
 stable:=fun h _=>h
theorem OH {B U:Nat}{H:Array Obj}{x:Az}(h:OG x):Z4 Jy B U H (Xc x) x:=⟨[],⟨rfl,h,rfl⟩,zk,fun b hb=>by cases hb⟩
theorem Re {B U:Nat}{H:Array Obj}{x:Gr}(h:Bk x.reg):Z4 Jz B U H (Xd x) x:=⟨[],⟨rfl,h,rfl⟩,zk,fun b hb=>by cases hb⟩
section ops
variable {P:Program} {ops:Array Oper} {w0:World} {Q:Act→World→Prop} {os:List Oper} {ks:List Nat} {N:Nat} {ρ:Nat→Value} {w:World}
 {d:Nat} {ty:TypeId} {pos:String} {aft:Array Edge} {g:Option (Nat×Bool)} {t e:TypeId} {z:Value} {b s:Nat}
theorem JA {α:Type}{E:Bz α}(hE:C3 s E){x y:Operand}{v a:Value}{xs:List α}{y0:α}{B T B' U':Nat}{F:List Nat}(ht:P.underlying t=some (.slice e))(hi:TI P e s z b)(hz:z.cells.size=s)(hs:0<s)(hx:Bp N ρ x=v)(hy:Bp N ρ y=a)(hv:Ow (Dw s E e) B T w.heap v xs F)
  (ha:Fr (Dw s E e) B' U' w.heap a [y0]) (hT:T≤B') (hB:B≤B') (hBw:B≤w.heap.size) (hbytes:(xs.length+1)*b≤140737488355328) (hmx:xs.length+1≤maxLen) (hu:Up ops N ρ ⟨some d,.call ⟨.builtin .append,#[x,y],#[t,t]⟩,ty,pos,aft,g⟩)
  (h:∀v1 w1 F1,AA F w w1→Ow (Dw s E e) B w1.heap.size w1.heap v1 (xs++[y0]) F1→(∀c∈F1,c∈F∨(B'≤c∧c<U')∨w.heap.size≤c)→LW P ops w0 Q os ks (mk N (CS ρ d v1)) w1) :
  LW P ops w0 Q (⟨some d,.call ⟨.builtin .append,#[x,y],#[t,t]⟩,ty,pos,aft,g⟩::os) (4::ks) (mk N ρ) w:=by
 obtain⟨v1,w1,F0,r1,⟨F1,r2,r3,r4⟩,r5,r6⟩:=QU (P:=P) (ty:=ty) hE ht hi hz hs (S:=fun b=>b∈F) (T:=fun b=>B'≤b∧b<U') ⟨F,hv.own,hv.nodup,fun _ h=>h⟩ ha (fun b h1 h2=>by have:=hv.high b h1;omega) hbytes hmx
 have hh:∀c∈F1,c∈F∨(B'≤c∧c<U')∨w.heap.size≤c:=fun c hc=>by
  rcases r4 c hc with h|h|h
  ·exact .inl h
  ·exact .inr<|.inl h
  ·exact .inr<|.inr<|Nat.le_of_eq h.symm
 exact Ka rfl hu v1 w1 (by simp only[execOp,resolve,invoke,builtin,zc,zf,zh,Sem.run_bind,Sem.run_pure,Result.andThen_ok,hx,hy,r1])
  (h v1 w1 F1 (r5.sub r6) ⟨r2,r3,fun c hc=>by
   rcases hh c hc with h|h|h
   ·exact hv.low c h
   ·omega
   ·omega,fun c hc=>(Av hE).lt r2 c hc⟩ hh)
theorem ER {x y:Operand}{v a:Value}{xs ys:List Int}{B T:Nat}{F:List Nat}(ht:P.underlying t=some (.slice e))(hi:TI P e 1 z b)(hz:z.cells=#[z])(hx:Bp N ρ x=v)(hy:Bp N ρ y=a)(hv:Ow (Bo rI e) B T w.heap v xs F)
  (ha:Rd (B5 rI) w.heap a ys) (hB:B≤w.heap.size) (hbytes:(xs.length+ys.length)*b≤140737488355328) (hmx:xs.length+ys.length≤maxLen) (hu:Up ops N ρ ⟨some d,.call ⟨.builtin .append,#[x,y],#[t,t]⟩,ty,pos,aft,g⟩)
  (h:∀v1 w1 F1,AA F w w1→Ow (Bo rI e) B w1.heap.size w1.heap v1 (xs++ys) F1→(∀c∈F1,c∈F∨w.heap.size≤c)→LW P ops w0 Q os ks (mk N (CS ρ d v1)) w1) :
  LW P ops w0 Q (⟨some d,.call ⟨.builtin .append,#[x,y],#[t,t]⟩,ty,pos,aft,g⟩::os) (4::ks) (mk N ρ) w:=by
 obtain⟨G,g1⟩:=ha
 have hG:G.drop 1=[]:=by
  rcases g1 with⟨_,_,_,_,rfl⟩|⟨us,g,off,cap,cur,e',fr,G',hels,_,_,_,_,rfl⟩
  ·rfl
  ·exact Ij hels
 obtain⟨v',w',F',r1,r2,r3,r4,r5⟩:=IY (P:=P) (ty:=ty) AK ht hi hz hv.own hv.nodup g1 rfl hbytes hmx (fun c hc=>by rw[hG]at hc;cases hc) (by rw[hG];exact zk)
 have hh:∀c∈F',c∈F∨w.heap.size≤c:=fun c hc=>by
  rcases r4 c hc with h|h|h
  ·exact .inl h
  ·rw[hG]at h;cases h
  ·exact .inr<|Nat.le_of_eq h.symm
 exact Ka rfl hu v' w' (by simp only[execOp,resolve,invoke,builtin,zc,zf,zh,Sem.run_bind,Sem.run_pure,Result.andThen_ok,hx,hy,r1])
  (h v' w' F' (r5.sub fun c hc=>zj hc) ⟨r2,r3,fun c hc=>by
   rcases hh c hc with h|h
   ·exact hv.low c h
   ·omega,fun c hc=>(AY AK).lt r2 c hc⟩ hh)
theorem Tt {x y:Operand} {v a u:Value} {xs:List Int} {r:Int} {S:List Nat} {B' U':Nat} (ht:P.underlying t = some (.slice e)) (hi:TI P e 1 z b) (hz:z.cells = #[z]) (hx:Bp N ρ x = DR v) (hy:Bp N ρ y = a)
  (hv:RN S (B5 rI) w.heap v xs) (ha:Fr (Bo rV e) B' U' w.heap a [u]) (hr:RN S rI w.heap u r) (hS:∀ c∈S,c < w.heap.size) (hbytes:(xs.length + 1) * b≤140737488355328) (hmx:xs.length + 1≤maxLen)
  (hu:Up ops N ρ ⟨some d,.call ⟨.builtin .append,#[x,y],#[t,t]⟩,ty,pos,aft,g⟩)
  (h:∀ v1 w1,AF w w1→RN S (B5 rI) w1.heap v1 (xs++[r])→BV v1→LW P ops w0 Q os ks (mk N (CS ρ d v1)) w1) :
  LW P ops w0 Q (⟨some d,.call ⟨.builtin .append,#[x,y],#[t,t]⟩,ty,pos,aft,g⟩ :: os) (4 :: ks) (mk N ρ) w:=by
 obtain ⟨G,g1',g2',g3'⟩:=ha
 obtain ⟨K,k1,k2⟩:=hv
 obtain ⟨R,r1,r2⟩:=hr
 obtain ⟨i,h1,h2,h3,h4⟩:=hi.get
 subst h4
 have hone:=AK.one r1
 rcases g1' with ⟨_,hc,_⟩ | ⟨asq,ga,capa,cura,Fa,helsa,hav,hga,qa1,qa2,qa3,qa4,rfl⟩
 ·cases hc
 ·obtain ⟨hq,hFa⟩:=FR helsa
  subst hq
  subst hav
  have hnews:∀ j q,[u][j]? = some q→w.cell? ((⟨ga,0,none⟩:Addr).add j) = some q:=by
   intro j q hj
   rw [Fy,BB]
   simp only [BN,hga]
   rw [← qa4,List.getElem?_take] at hj
   split at hj
   ·simpa using hj
   ·cases hj
  have made:∀ (w1:World) (ous:List Value) (K0:List Nat) (rest:Nat),w1.heap = w.heap→w1.os = w.os→w1.tape = w.tape→w1.output = w.output→els rI w.heap ous xs K0→(∀ c∈K0,c∈K)→xs.length + 1 + rest≤maxLen →
    AF w (w1.alloc (.cells (ous.toArray++[u].toArray++Builtin.zeroCells z.cells rest) e))∧RN S (B5 rI) (w1.alloc (.cells (ous.toArray++[u].toArray++Builtin.zeroCells z.cells rest) e)).heap (.slice (some ⟨w.heap.size,0,none⟩) (xs.length + 1) (xs.length + 1 + rest)) (xs++[r]):=by
   intro w1 ous K0 rest hh ho htp hop hou hsub hmax
   have hE:AF w (w1.alloc (.cells (ous.toArray++[u].toArray++Builtin.zeroCells z.cells rest) e)):=by
    refine ⟨ho,htp,hop,?_,fun k hk=>?_⟩
    ·show w.heap.size≤(w1.heap.push _).size
     rw [hh]; simp
    ·have:=Below.heap_alloc w1 (.cells (ous.toArray++[u].toArray++Builtin.zeroCells z.cells rest) e) k (by rw [hh]; exact hk)
     rw [this,hh]
   refine ⟨hE,w.heap.size :: (K0++R),.inr ⟨ous++[u],w.heap.size,0,xs.length + 1 + rest,(ous.toArray++[u].toArray++Builtin.zeroCells z.cells rest),e,(0,0),K0++R,?_,by simp,?_,?_,by simp; omega,rfl⟩,?_⟩
   ·refine els.stable AK (hou.append (show els rI w.heap [u] [r] R from ⟨R,[],by simp,r1,rfl⟩)) fun c hc=>hE.heap ?_
    exact (hou.append (show els rI w.heap [u] [r] R from ⟨R,[],by simp,r1,rfl⟩)).lt AK c hc
   ·have:=heap_alloc_new w1 (.cells (ous.toArray++[u].toArray++Builtin.zeroCells z.cells rest) e)
    rw [hh] at this; exact this
   ·have hl:=hou.length
    simp only [Array.toList_append,List.drop_zero]
    rw [show (xs++[r]).length = (ous++[u]).length from by simp [hl]]
    exact List.take_left
   ·intro c hc hm
    rcases ze.1 hc with rfl | hc
    ·have:=hS _ hm; omega
    ·rcases zi.1 hc with hc | hc
     ·exact k2 c (hsub c hc) hm
     ·exact r2 c hc hm
  have hone1:[u].length = [u].length * i.size:=by rw [h3,Nat.mul_one]
  rcases k1 with ⟨a0,cap0,rfl,rfl,rfl⟩ | ⟨ous,gv,off,cap,cur,e',fr,K',hels,rfl,hg,hw,_,rfl⟩
  ·-- nothing so far
   cases a0 with
   | none =>
    have hrr:=run_append_nil (P:=P) w t ty e i z ht h1 h2 ⟨ga,0,none⟩ 1 capa [u] hone1 hnews (by decide) (by decide) (by simp at hbytes; omega)
    have hge:=grownCap_ge w 1 0 e
    have hgm:=grownCap_le_maxLen w 1 0 e (by simpa using hmx)
    obtain ⟨q1,q2⟩:=made w.drew [] [] (grownCap w 1 0 e - 1) rfl rfl rfl rfl rfl (fun c hc=>by cases hc) (by simp; omega)
    refine Ka rfl hu _ _ (by simp only [execOp,resolve,invoke,builtin,zc,zf,zh,Sem.run_bind,Sem.run_pure,Result.andThen_ok,hx,hy,DR]; rw [show [u].length = 1 from rfl,hrr]; rfl)<|h _ _ ?_ ?_ ?_
    ·simpa using q1
    ·have ea:(([]:List Int).length + 1 + (grownCap w 1 0 e - 1)) = grownCap w 1 0 e:=by simp; omega
     rw [ea] at q2
     simpa using q2
    ·exact hge
   | some a1 =>
    have hrr:=run_append_grow (P:=P) w t ty e i z ht h1 h2 a1 0 0 [] (by rw [h3]; rfl) (by intro j q hj; cases hj) ⟨ga,0,none⟩ 1 capa [u] hone1 hnews zO (by decide)<|growslice_fits zO (by simpa using hbytes)
    have hge:=grownCap_ge w (0 + 1) 0 e
    have hgm:=grownCap_le_maxLen w (0 + 1) 0 e (by simpa using hmx)
    obtain ⟨q1,q2⟩:=made w.drew [] [] (grownCap w (0 + 1) 0 e - (0 + 1)) rfl rfl rfl rfl rfl (fun c hc=>by cases hc) (by show 0 + 1 + (grownCap w (0 + 1) 0 e - (0 + 1))≤maxLen; omega)
    refine Ka rfl hu _ _ (by simp only [execOp,resolve,invoke,builtin,zc,zf,zh,Sem.run_bind,Sem.run_pure,Result.andThen_ok,hx,hy,DR]; rw [show [u].length = 1 from rfl,hrr]; rfl)<|h _ _ q1 ?_ ?_
    rotate_left
    ·exact hge
    have ea:(([]:List Int).length + 1 + (grownCap w (0 + 1) 0 e - (0 + 1))) = grownCap w (0 + 1) 0 e:=by show 0 + 1 + (grownCap w (0 + 1) 0 e - (0 + 1)) = _; omega
    rw [ea] at q2
    simpa using q2
  ·have holds:∀ j q,ous[j]? = some q→w.cell? ((⟨gv,off,none⟩:Addr).add j) = some q:=by
    intro j q hj
    rw [Fy,BB]
    simp only [BN,hg]
    rw [← hw,List.getElem?_take] at hj
    split at hj
    ·rw [List.getElem?_drop] at hj; simpa using hj
    ·cases hj
   have hrr:=run_append_grow (P:=P) w t ty e i z ht h1 h2 ⟨gv,off,none⟩ xs.length xs.length ous (by rw [h3,hels.length]; omega) holds ⟨ga,0,none⟩ 1 capa [u] hone1 hnews zO (by simp only [maxLen] at hmx; omega)<|growslice_fits zO hbytes
   have hge:=grownCap_ge w (xs.length + 1) xs.length e
   have hgm:=grownCap_le_maxLen w (xs.length + 1) xs.length e hmx
   obtain ⟨q1,q2⟩:=made w.drew ous K' (grownCap w (xs.length + 1) xs.length e - (xs.length + 1)) rfl rfl rfl rfl hels (fun c hc=>z3 _ hc) zO
   refine Ka rfl hu _ _ (by simp only [execOp,resolve,invoke,builtin,zc,zf,zh,Sem.run_bind,Sem.run_pure,Result.andThen_ok,hx,hy,DR]; rw [show [u].length = 1 from rfl,hrr]; rfl)<|h _ _ q1 ?_ ?_
   rotate_left
   ·exact hge
   have ea:(xs.length + 1 + (grownCap w (xs.length + 1) xs.length e - (xs.length + 1))) = grownCap w (xs.length + 1) xs.length e:=by omega
   rw [ea] at q2
   exact q2
end ops
def BG (t1 t2 t3:TypeId)(S:List Nat)(g:Nat)(H:Array Obj)(vc vg vv:Value)(T:Tp):Prop :=
 ∃Fc Fg Fv,Ow (Dw 4 Jy t1) 0 H.size H vc T.code Fc∧Ow (Dw 2 Jz t2) 0 H.size H vg T.grd Fg∧Ow (Bo rI t3) 0 H.size H vv T.vals Fv ∧
  ((∀b∈Fc,b∉Fg)∧(∀b∈Fc,b∉Fv)∧(∀b∈Fg,b∉Fv))∧(g∉Fc∧g∉Fg∧g∉Fv)∧(∀b∈Fc,b∈S)∧(∀b∈Fg,b∈S)∧(∀b∈Fv,b∈S)
section rcm
variable {t1 t2 t3:TypeId} {S S':List Nat} {g:Nat} {w w':World} {vc vg vv:Value} {T:Tp}
theorem Ow.chgS {α:Type}{E:Bq α}(hE:Cc E){B:Nat}{v:Value}{x:α}{F G:List Nat}(h:Ow E B w.heap.size w.heap v x F)(c:AA G w w')(hG:∀b∈G,b∉F):Ow E B w'.heap.size w'.heap v x F:=(h.keep hE c hG).up c.size
theorem BG.ext (h:BG t1 t2 t3 S g w.heap vc vg vv T)(k:AF w w'):BG t1 t2 t3 S g w'.heap vc vg vv T:=by
 obtain⟨Fc,Fg,Fv,h1,h2,h3,h4⟩:=h
 exact⟨Fc,Fg,Fv,(h1.ext (Av AW) k).up k.size,(h2.ext (Av B6) k).up k.size,(h3.ext (AY AK) k).up k.size,h4⟩
theorem BG.chg (h:BG t1 t2 t3 S g w.heap vc vg vv T)(k:AA [g] w w'):BG t1 t2 t3 S g w'.heap vc vg vv T:=by
 obtain⟨Fc,Fg,Fv,h1,h2,h3,h4,h5,h6⟩:=h
 exact⟨Fc,Fg,Fv,h1.chgS (Av AW) k fun b hb hm=>by rw[A9 hb]at hm;exact h5.1 hm,h2.chgS (Av B6) k fun b hb hm=>by rw[A9 hb]at hm;exact h5.2.1 hm,
  h3.chgS (AY AK) k fun b hb hm=>by rw[A9 hb]at hm;exact h5.2.2 hm,h4,h5,h6⟩
theorem BG.chgO {F:List Nat}(h:BG t1 t2 t3 S g w.heap vc vg vv T)(k:AA F w w')(hF:∀b∈F,b∉S):BG t1 t2 t3 S g w'.heap vc vg vv T:=by
 obtain⟨Fc,Fg,Fv,h1,h2,h3,h4,h5,h6⟩:=h
 exact⟨Fc,Fg,Fv,h1.chgS (Av AW) k fun b hb hm=>hF b hb (h6.1 b hm),h2.chgS (Av B6) k fun b hb hm=>hF b hb (h6.2.1 b hm),
  h3.chgS (AY AK) k fun b hb hm=>hF b hb (h6.2.2 b hm),h4,h5,h6⟩
theorem BG.rdv (h:BG t1 t2 t3 S g w.heap vc vg vv T):Rd (B5 rI) w.heap vv T.vals:=by
 obtain⟨Fc,Fg,Fv,h1,h2,h3,_⟩:=h
 exact h3.fr.rd1
theorem BG.slv (h:BG t1 t2 t3 S g w.heap vc vg vv T):Fu vv T.vals.length:=by
 obtain⟨Fc,Fg,Fv,h1,h2,h3,_⟩:=h
 exact h3.fr.isSl
theorem BG.slc (h:BG t1 t2 t3 S g w.heap vc vg vv T):Fu vc T.code.length:=by
 obtain⟨Fc,Fg,Fv,h1,h2,h3,_⟩:=h
 exact h1.own.isSl
theorem BG.slg (h:BG t1 t2 t3 S g w.heap vc vg vv T):Fu vg T.grd.length:=by
 obtain⟨Fc,Fg,Fv,h1,h2,h3,_⟩:=h
 exact h2.own.isSl
end rcm
def Qs (t1 t2 t3:TypeId)(S:List Nat)(g:Nat)(H:Array Obj)(vp:Value)(ip:Int)(T:Tp)(s:Nat)(c:Int):Prop :=
 ∃vc vg vv,BX H g [vp,.int .i64 ip,vc,vg,.slice none 0 0,vv,.int .i64 ((s:Nat):Int),.int .i64 c]∧BG t1 t2 t3 S g H vc vg vv T
theorem RN.stp {α:Type}{E:Bq α}(hE:Cc E){S S':List Nat}{w w':World}{v:Value}{x:α}(h:RN S E w.heap v x)(c:AA S w w')(hs:∀b∈S',b∈S∨w.heap.size≤b):RN S' E w'.heap v x:=by
 obtain⟨F,h1,h2⟩:=h
 refine⟨F,hE.stable h1 fun b hb=>c.block b (hE.lt h1 b hb) (h2 b hb),fun b hb hm=>?_⟩
 rcases hs b hm with hh|hh
 ·exact h2 b hb hh
 ·have:=hE.lt h1 b hb;omega
theorem AA.stp {S S':List Nat}{a b c:World}(h:AA S a b)(k:AA S' b c)(hs:∀x∈S',x∈S∨a.heap.size≤x):AA S a c :=
 ⟨k.os.trans h.os,k.tape.trans h.tape,k.output.trans h.output,A8 h.size k.size,fun i hi hm=>(k.block i (Nat.lt_of_lt_of_le hi h.size) fun hh=>by
  rcases hs i hh with h9|h9
  ·exact hm h9
  ·omega).trans (h.block i hi hm)⟩
theorem OI {S S' S'':List Nat}{n m:Nat}(h:∀b∈S',b∈S∨n≤b)(k:∀b∈S'',b∈S'∨m≤b)(hn:n≤m):∀b∈S'',b∈S∨n≤b:=fun b hb=>by
 rcases k b hb with hh|hh
 ·exact h b hh
 ·exact .inr zO
end
section
def Tp.put (T:Tp)(c:Az)(v:Int):Tp:=⟨T.code++[c],T.grd,T.vals++[v]⟩
def Tp.guard (T:Tp)(r:Int)(z:Bool):Tp:=⟨T.code,T.grd++[⟨r,z⟩],T.vals⟩
def Tp.at (T:Tp)(r:Int):Int:=T.vals.getD r.toNat 0
abbrev RI:=Int×Tp
abbrev RL:=List Int×Tp
structure Cg where
 one:Nat→Nat→List Int→Nat→Tp→Rs RI
 all:Nat→List Int→Nat→Tp→Rs RL
def DN (f:List Int→Nat→Tp→Rs RL):Nat→List Int→Nat→Tp→Rs RL
 |0,a,s,T=>.ok (a,T) s
 |k+1,a,s,T=>(DN f k a s T).bind fun x t=>f x.1 t x.2
def FN (k x y:Int):Int:=if k=3 then md (x+y)else if k=4 then md (x-y)else if k=5 then md (x*y)else if k=7 then md (0-x)else md (x*inv y)
def H6 (k:Int)(xs:List Int):Az:=⟨k,xs.getD 0 0,if k=7 then 0 else xs.getD 1 0,0⟩
def OJ (k:Int)(xs:List Int)(t:Nat)(T:Tp):Rs RI :=
 if k≠3∧k≠4∧k≠5∧k≠7∧T.at (H6 k xs).b=0 then .err 6
 else .ok (((T.vals.length:Nat):Int),T.put (H6 k xs) (FN k (T.at (H6 k xs).a) (T.at (H6 k xs).b))) t
mutual
def DV (C:Cg):Ex→List Int→Nat→Tp→Rs RI
 |.mk k num pick cnt l,env,s,T =>
  if 3000≤s then .err 7
  else if k=1 then .ok (((T.vals.length:Nat):Int),T.put ⟨2,0,0,num⟩ num) (s+1)
  else if k=2 then .ok (env.getD num.toNat 0,T) (s+1)
  else if k=8 then(Mn C l 0 env (s+1) T).bind fun x t=>if x.2.at x.1=0 then Mn C l 1 env t (x.2.guard x.1 true)else Mn C l 2 env t (x.2.guard x.1 false)
  else if k=9 then(Mn C l 0 env (s+1) T).bind fun x t=>Mn C l 1 (env++[x.1]) t x.2
  else(E2 C l env (s+1) T).bind fun xs t =>
   if k=10 then C.one num.toNat pick.toNat xs.1 t xs.2
   else if k=11 then(DN (C.all num.toNat) cnt.toNat xs.1 t xs.2).bind fun ys u=>.ok (ys.1.getD pick.toNat 0,ys.2) u
   else OJ k xs.1 t xs.2
def Mn (C:Cg):List Ex→Nat→List Int→Nat→Tp→Rs RI
 |[],_,_,_,_=>.err 0
 |e::_,0,env,s,T=>DV C e env s T
 |_::l,j+1,env,s,T=>Mn C l j env s T
def E2 (C:Cg):List Ex→List Int→Nat→Tp→Rs RL
 |[],_,s,T=>.ok ([],T) s
 |e::l,env,s,T=>(DV C e env s T).bind fun x t=>(E2 C l env t x.2).bind fun xs u=>.ok (x.1::xs.1,xs.2) u
end
theorem Dx (C:Cg)(env:List Int)(s:Nat)(T:Tp):∀(l:List Ex)(j:Nat),j<l.length→Mn C l j env s T=DV C (l.getD j Ex.zero) env s T
 |[],j,h=>by simp at h
 |e::l,0,_=>by rw[Mn];rfl
 |e::l,j+1,h=>by rw[Mn,Dx C env s T l j (by simpa using h)];simp
theorem KX (C:Cg)(env:List Int)(e:Ex):∀(l:List Ex)(s:Nat)(T:Tp),E2 C (l++[e]) env s T=(E2 C l env s T).bind fun xs t=>(DV C e env t xs.2).bind fun x u=>.ok (xs.1++[x.1],x.2) u
 |[],s,T=>by
  rw[zl,E2,E2]
  simp only[Rs.bind_ok]
  cases DV C e env s T <;> simp only[Rs.bind_ok,Rs.bind_err,E2] <;> rfl
 |a::l,s,T=>by
  rw[List.cons_append,E2,E2]
  cases DV C a env s T with
  |err c=>rfl
  |ok x t =>
   simp only[Rs.bind_ok]
   rw[KX C env e l t]
   simp only[Rs.bind_assoc]
   cases E2 C l env t x.2 with
   |err c=>rfl
   |ok xs u =>
    simp only[Rs.bind_ok]
    cases DV C e env u xs.2 <;> rfl
theorem NW {C:Cg}{env:List Int}{s:Nat}{T:Tp}{l:List Ex}{k:Nat}(hk:k<l.length):E2 C (l.take (k+1)) env s T=(E2 C (l.take k) env s T).bind fun xs t=>(DV C (l.getD k Ex.zero) env t xs.2).bind fun x u=>.ok (xs.1++[x.1],x.2) u:=by
 rw[List.take_succ_eq_append_getElem hk,KX]
 simp[hk]
theorem DO (C:Cg)(e:Ex)(env:List Int)(s:Nat)(T:Tp):DV C e env s T =
  if 3000≤s then .err 7
  else if e.kind=1 then .ok (((T.vals.length:Nat):Int),T.put ⟨2,0,0,e.num⟩ e.num) (s+1)
  else if e.kind=2 then .ok (env.getD e.num.toNat 0,T) (s+1)
  else if e.kind=8 then(Mn C e.kids 0 env (s+1) T).bind fun x t=>if x.2.at x.1=0 then Mn C e.kids 1 env t (x.2.guard x.1 true)else Mn C e.kids 2 env t (x.2.guard x.1 false)
  else if e.kind=9 then(Mn C e.kids 0 env (s+1) T).bind fun x t=>Mn C e.kids 1 (env++[x.1]) t x.2
  else(E2 C e.kids env (s+1) T).bind fun xs t =>
   if e.kind=10 then C.one e.num.toNat e.pick.toNat xs.1 t xs.2
   else if e.kind=11 then(DN (C.all e.num.toNat) e.count.toNat xs.1 t xs.2).bind fun ys u=>.ok (ys.1.getD e.pick.toNat 0,ys.2) u
   else OJ e.kind xs.1 t xs.2:=by cases e;rw[DV];rfl
def Gs (p:List Fn):Nat→Cg
 |0=>⟨fun _ _ _ _ _=>.err 0,fun _ _ _ _=>.err 0⟩
 |k+1=>⟨fun f j a s T=>if f=k then DV (Gs p k) ((p.getD k Fn.zero).outs.getD j Ex.zero) a s T else(Gs p k).one f j a s T,
   fun f a s T=>if f=k then E2 (Gs p k) (p.getD k Fn.zero).outs a s T else(Gs p k).all f a s T⟩
theorem Ks {p:List Fn}{f j:Nat}{a:List Int}{s:Nat}{T:Tp}:∀ {F:Nat},f<F→(Gs p F).one f j a s T=DV (Gs p f) ((p.getD f Fn.zero).outs.getD j Ex.zero) a s T
 |0,h=>by omega
 |F+1,h=>by
  show(if f=F then _ else _)=_
  split
  ·rename_i e;rw[e]
  ·exact Ks zO
theorem J4 {p:List Fn}{f:Nat}{a:List Int}{s:Nat}{T:Tp}:∀ {F:Nat},f<F→(Gs p F).all f a s T=E2 (Gs p f) (p.getD f Fn.zero).outs a s T
 |0,h=>by omega
 |F+1,h=>by
  show(if f=F then _ else _)=_
  split
  ·rename_i e;rw[e]
  ·exact J4 zO
section
variable {C:Cg} {e:Ex} {env:List Int} {s s1 s2:Nat} {c c1 c2:Int} {T T1 T2:Tp} {x y:Int} {xs ys:List Int}
theorem Tu {α:Type}{r:Rs α}{x:α}(hc:c≠0):AM (go c r) x s c:=AM.mk_err (Dj hc r) hc
theorem Qk {x:RI}(hc:c=0)(hs:s=3000):AM (go c (DV C e env s T)) x s1 7:=by
 subst hc;rw[CA,DO,if_pos (by omega)];exact AM.mk_err rfl (by decide)
theorem Vv (hc:c=0)(hs:s+1≤3000)(hk:e.kind=1):AM (go c (DV C e env s T)) (((T.vals.length:Nat):Int),T.put ⟨2,0,0,e.num⟩ e.num) (s+1) c:=by
 subst hc;rw[CA,DO,if_neg zO,if_pos hk];exact AM.mk_ok rfl
theorem Vw (hc:c=0)(hs:s+1≤3000)(hk:e.kind=2):AM (go c (DV C e env s T)) (env.getD e.num.toNat 0,T) (s+1) c:=by
 subst hc;rw[CA,DO,if_neg zO,if_neg zO,if_pos hk];exact AM.mk_ok rfl
theorem Vx {z:RI}(hc:c=0)(hs:s+1≤3000)(hk:e.kind=8)(hl:e.kids.length=3)(h1:AM (go c (DV C (e.kids.getD 0 Ex.zero) env (s+1) T)) (x,T1) s1 c1)(hc1:c1≠0):AM (go c (DV C e env s T)) z s2 c1:=by
 subst hc
 rw[CA]at h1
 rw[CA,DO,if_neg zO,if_neg zO,if_neg zO,if_pos hk,Dx _ _ _ _ _ _ zO,h1.bindE hc1]
 exact AM.mk_err rfl hc1
theorem Vy (hc:c=0)(hs:s+1≤3000)(hk:e.kind=8)(hl:e.kids.length=3)(h1:AM (go c (DV C (e.kids.getD 0 Ex.zero) env (s+1) T)) (x,T1) s1 c1)(hc1:c1=0)(hx:T1.at x=0)
  (h2:AM (go c1 (DV C (e.kids.getD 1 Ex.zero) env s1 (T1.guard x (decide (T1.at x=0))))) (y,T2) s2 c2):AM (go c (DV C e env s T)) (y,T2) s2 c2:=by
 subst hc;subst hc1
 rw[CA]at h1 h2
 rw[CA,DO,if_neg zO,if_neg zO,if_neg zO,if_pos hk,Dx _ _ _ _ _ _ zO,h1.bindO]
 dsimp only
 rw[A5 hx]at h2
 rw[if_pos hx,Dx _ _ _ _ _ _ (by omega)];exact h2
theorem Vz (hc:c=0)(hs:s+1≤3000)(hk:e.kind=8)(hl:e.kids.length=3)(h1:AM (go c (DV C (e.kids.getD 0 Ex.zero) env (s+1) T)) (x,T1) s1 c1)(hc1:c1=0)(hx:¬T1.at x=0)
  (h2:AM (go c1 (DV C (e.kids.getD 2 Ex.zero) env s1 (T1.guard x (decide (T1.at x=0))))) (y,T2) s2 c2):AM (go c (DV C e env s T)) (y,T2) s2 c2:=by
 subst hc;subst hc1
 rw[CA]at h1 h2
 rw[CA,DO,if_neg zO,if_neg zO,if_neg zO,if_pos hk,Dx _ _ _ _ _ _ zO,h1.bindO]
 dsimp only
 rw[A6 hx]at h2
 rw[if_neg hx,Dx _ _ _ _ _ _ (by omega)];exact h2
theorem VA (hc:c=0)(hs:s+1≤3000)(hk:e.kind=9)(hl:e.kids.length=2)(h1:AM (go c (DV C (e.kids.getD 0 Ex.zero) env (s+1) T)) (x,T1) s1 c1)
  (h2:AM (go c1 (DV C (e.kids.getD 1 Ex.zero) (env++[x]) s1 T1)) (y,T2) s2 c2):AM (go c (DV C e env s T)) (y,T2) s2 c2:=by
 subst hc
 rw[CA,DO,if_neg zO,if_neg zO,if_neg zO,if_neg zO,if_pos hk,Dx _ _ _ _ _ _ (by omega)]
 rw[CA]at h1
 by_cases h0:c1=0
 ·subst h0;rw[h1.bindO,Dx _ _ _ _ _ _ (by omega)];exact h2
 ·rw[h1.bindE h0];rw[Dj h0]at h2;exact h2
theorem J5 (hs:s+1≤3000)(h1:e.kind≠1)(h2:e.kind≠2)(h8:e.kind≠8)(h9:e.kind≠9):DV C e env s T=(E2 C e.kids env (s+1) T).bind fun xs t =>
  if e.kind=10 then C.one e.num.toNat e.pick.toNat xs.1 t xs.2
   else if e.kind=11 then(DN (C.all e.num.toNat) e.count.toNat xs.1 t xs.2).bind fun ys u=>.ok (ys.1.getD e.pick.toNat 0,ys.2) u
   else OJ e.kind xs.1 t xs.2:=by
 rw[DO,if_neg zO,if_neg h1,if_neg h2,if_neg h8,if_neg h9]
theorem Rf {z:RI}(hc:c=0)(hs:s+1≤3000)(h1:e.kind≠1)(h2:e.kind≠2)(h8:e.kind≠8)(h9:e.kind≠9)(hr:AM (go c (E2 C e.kids env (s+1) T)) (xs,T1) s1 c1)(hc1:c1≠0):AM (go c (DV C e env s T)) z s2 c1:=by
 subst hc
 rw[CA]at hr ⊢
 rw[J5 hs h1 h2 h8 h9,hr.bindE hc1];exact AM.mk_err rfl hc1
theorem Tv {p:List Fn}{F:Nat}(hc:c=0)(hs:s+1≤3000)(hk:e.kind=10)(hF:e.num.toNat<F)(hr:AM (go c (E2 (Gs p F) e.kids env (s+1) T)) (xs,T1) s1 c1)(hc1:c1=0)
  (h2:AM (go c1 (DV (Gs p e.num.toNat) ((p.getD e.num.toNat Fn.zero).outs.getD e.pick.toNat Ex.zero) xs s1 T1)) (y,T2) s2 c2):AM (go c (DV (Gs p F) e env s T)) (y,T2) s2 c2:=by
 subst hc;subst hc1
 rw[CA]at hr h2 ⊢
 rw[J5 hs zO zO zO zO,hr.bindO,if_pos hk,Ks hF];exact h2
theorem Tw {p:List Fn}{F:Nat}(hc:c=0)(hs:s+1≤3000)(hk:e.kind=11)(hF:e.num.toNat<F)(hr:AM (go c (E2 (Gs p F) e.kids env (s+1) T)) (xs,T1) s1 c1)(hc1:c1=0)
  (h2:AM (DN (fun a t U=>E2 (Gs p e.num.toNat) (p.getD e.num.toNat Fn.zero).outs a t U) e.count.toNat xs s1 T1) (ys,T2) s2 c2):AM (go c (DV (Gs p F) e env s T)) (ys.getD e.pick.toNat 0,T2) s2 c2:=by
 subst hc;subst hc1
 rw[CA]at hr ⊢
 rw[J5 hs zO zO zO zO,hr.bindO,if_neg zO,if_pos hk]
 have hl:(Gs p F).all e.num.toNat=fun a t U=>E2 (Gs p e.num.toNat) (p.getD e.num.toNat Fn.zero).outs a t U:=funext fun a=>funext fun t=>funext fun U=>J4 hF
 rw[hl]
 by_cases h0:c2=0
 ·subst h0;rw[h2.bindO];exact AM.mk_ok rfl
 ·rw[h2.bindE h0];exact AM.mk_err rfl h0
theorem Xe {z:RI}(hc:c=0)(hs:s+1≤3000)(h1:e.kind≠1)(h2:e.kind≠2)(h8:e.kind≠8)(h9:e.kind≠9)(h10:e.kind≠10)(h11:e.kind≠11)(hr:AM (go c (E2 C e.kids env (s+1) T)) (xs,T1) s1 c1)(hc1:c1=0)
  (h:AM (go c1 (OJ e.kind xs s1 T1)) z s2 c2):AM (go c (DV C e env s T)) z s2 c2:=by
 subst hc;subst hc1
 rw[CA]at hr h ⊢
 rw[J5 hs h1 h2 h8 h9,hr.bindO,if_neg h10,if_neg h11];exact h
theorem KY (C:Cg)(l:List Ex)(env:List Int)(s:Nat)(T:Tp)(c:Int):AM (go c (E2 C (l.take 0) env s T)) ([],T) s c:=by
 rw[List.take_zero,E2]
 by_cases h:c=0
 ·subst h;exact AM.mk_ok rfl
 ·exact AM.mk_err (Dj h _) h
theorem Tx {l:List Ex}{k:Nat}(hk:k<l.length)(h:AM (go c (E2 C (l.take k) env s T)) (xs,T1) s1 c1)(h2:AM (go c1 (DV C (l.getD k Ex.zero) env s1 T1)) (x,T2) s2 c2) :
  AM (go c (E2 C (l.take (k+1)) env s T)) (xs++[x],T2) s2 c2:=by
 by_cases hc:c=0
 ·subst hc
  rw[CA]at h ⊢
  rw[NW hk]
  by_cases h0:c1=0
  ·subst h0
   rw[CA]at h2
   rw[h.bindO]
   by_cases h9:c2=0
   ·subst h9;rw[h2.bindO];exact AM.mk_ok rfl
   ·rw[h2.bindE h9];exact AM.mk_err rfl h9
  ·rw[h.bindE h0]
   rw[Dj h0]at h2
   have:=h2.1
   exact AM.mk_err (by rw[this]) (this ▸ h0)
 ·rw[Dj hc]at h ⊢
  have h3:=h.1
  subst h3
  rw[Dj hc]at h2
  exact AM.mk_err (by rw[h2.1]) (h2.1 ▸ hc)
theorem VB {f:List Int→Nat→Tp→Rs RL}{k:Nat}(h:AM (DN f k xs s T) (ys,T1) s1 c1)(hc:c1=0){zs:RL}(h2:AM (go c1 (f ys s1 T1)) zs s2 c2):AM (DN f (k+1) xs s T) zs s2 c2:=by
 subst hc
 show AM ((DN f k xs s T).bind _) _ _ _
 rw[h.bindO];rw[CA]at h2;exact h2
theorem NX {f:List Int→Nat→Tp→Rs RL}{d:Int}:∀ {m k:Nat},DN f k xs s T=.err d→k≤m→DN f m xs s T=.err d
 |0,k,h,hk=>by
  have:k=0:=by omega
  subst this;exact h
 |m+1,k,h,hk=>by
  by_cases e:k=m+1
  ·subst e;exact h
  ·show(DN f m xs s T).bind _=_
   rw[NX h (by omega)];rfl
theorem Ty {f:List Int→Nat→Tp→Rs RL}{k m:Nat}{zs:RL}(h:AM (DN f k xs s T) zs s1 c1)(hk:k≤m)(hs:k=m∨c1≠0):AM (DN f m xs s T) zs s1 c1:=by
 by_cases hc:c1=0
 ·rcases hs with rfl|hh
  ·exact h
  ·exact absurd hc hh
 ·exact AM.mk_err (NX (h.err hc) hk) hc
end
def FT (T:Tp)(s:Nat):Prop:=T.code.length=T.vals.length∧T.vals.length≤12+s∧T.grd.length≤s∧B9 T.vals=true
theorem FT.put {T:Tp}{s:Nat}(h:FT T s)(c:Az){v:Int}(hv:0≤v∧v<1000003):FT (T.put c v) (s+1):=by
 obtain⟨h1,h2,h3,h4⟩:=h
 unfold Tp.put
 refine⟨by simp[h1],by simp;omega,by simp;omega,?_⟩
 unfold B9 at h4 ⊢
 rw[List.all_append,h4]
 simp[CY.2 hv]
theorem FT.guard {T:Tp}{s:Nat}(h:FT T s)(r:Int)(z:Bool)(hg:T.grd.length+1≤s):FT (T.guard r z) s:=by
 obtain⟨h1,h2,h3,h4⟩:=h
 exact⟨h1,h2,by show(T.grd++[_]).length≤s;simp;omega,h4⟩
theorem FT.up {T:Tp}{s s':Nat}(h:FT T s)(hs:s≤s'):FT T s':=⟨h.1,by have:=h.2.1;omega,by have:=h.2.2.1;omega,h.2.2.2⟩
theorem FT.dn {T:Tp}{s s':Nat}(h:FT T s)(hv:T.vals.length≤12+s')(hg:T.grd.length≤s'):FT T s':=⟨h.1,hv,hg,h.2.2.2⟩
theorem FT.ln {T:Tp}{s:Nat}(h:FT T s)(hs:s≤3000):T.code.length≤4000∧T.vals.length≤4000:=by have:=h.1;have:=h.2.1;omega
abbrev E3 (k b:Int):Prop:=k≠3∧k≠4∧k≠5∧k≠7∧b=0
section
variable {k a b:Int}
theorem Rg (h:k=3):(if E3 k b then 0 else FN k a b)=md (a+b)∧(!decide (E3 k b))=true:=by subst h;exact⟨rfl,rfl⟩
theorem Rh (h:k=4):(if E3 k b then 0 else FN k a b)=md (a-b)∧(!decide (E3 k b))=true:=by subst h;exact⟨rfl,rfl⟩
theorem Ri (h:k=5):(if E3 k b then 0 else FN k a b)=md (a*b)∧(!decide (E3 k b))=true:=by subst h;exact⟨rfl,rfl⟩
theorem Rj (h:k=7):(if E3 k b then 0 else FN k a b)=md (0-a)∧(!decide (E3 k b))=true:=by subst h;exact⟨rfl,rfl⟩
theorem Pu (h:k≠3∧k≠4∧k≠5∧k≠7)(hb:b=0):(if E3 k b then 0 else FN k a b)=0∧(!decide (E3 k b))=false:=by
 have hz:E3 k b:=⟨h.1,h.2.1,h.2.2.1,h.2.2.2,hb⟩
 rw[if_pos hz,A5 hz];exact⟨rfl,rfl⟩
theorem Rk (h:k≠3∧k≠4∧k≠5∧k≠7)(hb:b≠0):(if E3 k b then 0 else FN k a b)=md (a*inv b)∧(!decide (E3 k b))=true:=by
 have hz:¬E3 k b:=fun h9=>hb h9.2.2.2.2
 rw[if_neg hz,A6 hz]
 refine⟨?_,rfl⟩
 unfold FN
 rw[if_neg h.1,if_neg h.2.1,if_neg h.2.2.1,if_neg h.2.2.2]
theorem J6 (k a b:Int):0≤FN k a b∧FN k a b<1000003:=by unfold FN;split <;> (try split) <;> (try split) <;> (try split) <;> exact Cr _
end
theorem Hp {k:Int}{xs:List Int}{T:Tp}{t:Nat}(h:¬E3 k (T.at (H6 k xs).b)):OJ k xs t T=.ok (((T.vals.length:Nat):Int),T.put (H6 k xs) (FN k (T.at (H6 k xs).a) (T.at (H6 k xs).b))) t:=if_neg h
theorem MQ {k:Int}{xs:List Int}{T:Tp}{t:Nat}(h:E3 k (T.at (H6 k xs).b)):OJ k xs t T=.err 6:=if_pos h
theorem Xf {α:Type}{r:Rs α}{x:α}{s:Nat}{c c1:Int}(h:AM (go c r) x s c1)(h1:c1=0):c=0:=by
 by_cases hc:c=0
 ·exact hc
 ·rw[Dj hc]at h
  have:=h.1
  omega
theorem Pv (k a b:Int):0≤(if E3 k b then 0 else FN k a b)∧(if E3 k b then 0 else FN k a b)<1000003:=by
 have:=J6 k a b
 split <;> omega
theorem Xg {Q:Prop} [Decidable Q] (h:(!(!decide Q))=true):Q:=by simpa using h
theorem Z7 {Q:Prop} [Decidable Q] (h:(!(!decide Q))=false):¬Q:=by simpa using h
theorem G6 {k:Int}{xs:List Int}(h:k≠7):H6 k xs=⟨k,xs.getD 0 0,xs.getD 1 0,0⟩:=by unfold H6;rw[if_neg h]
theorem OK {k:Int}{xs:List Int}(h:k=7):H6 k xs=⟨k,xs.getD 0 0,0,0⟩:=by unfold H6;rw[if_pos h]
theorem Tz {k c:Int}{xs:List Int}{T:Tp}{s s2:Nat}{z:RI}(hc:c=0)(h7:k≠7)(hz:E3 k (T.vals.getD (xs.getD 1 0).toNat 0)):AM (go c (OJ k xs s T)) z s2 6:=by
 subst hc
 rw[CA,MQ (by rw[G6 h7];exact hz)];exact AM.mk_err rfl (by decide)
theorem TA {k c:Int}{xs:List Int}{T:Tp}{s:Nat}(hc:c=0)(h7:k≠7)(hz:¬E3 k (T.vals.getD (xs.getD 1 0).toNat 0)) :
  AM (go c (OJ k xs s T)) (((T.vals.length:Nat):Int),T.put ⟨k,xs.getD 0 0,xs.getD 1 0,0⟩ (if E3 k (T.vals.getD (xs.getD 1 0).toNat 0)then 0 else FN k (T.vals.getD (xs.getD 0 0).toNat 0) (T.vals.getD (xs.getD 1 0).toNat 0))) s c:=by
 subst hc
 rw[CA,Hp (by rw[G6 h7];exact hz),G6 h7,if_neg hz];exact AM.mk_ok rfl
theorem TB {k c:Int}{xs:List Int}{T:Tp}{s:Nat}{b:Int}(hc:c=0)(h7:k=7) :
  AM (go c (OJ k xs s T)) (((T.vals.length:Nat):Int),T.put ⟨k,xs.getD 0 0,0,0⟩ (if E3 k b then 0 else FN k (T.vals.getD (xs.getD 0 0).toNat 0) b)) s c:=by
 subst hc
 subst h7
 rw[CA,Hp (fun h=>h.2.2.2.1 rfl),OK rfl,if_neg (fun h:E3 7 b=>h.2.2.2.1 rfl)];exact AM.mk_ok rfl
theorem Un {k b:Int}(h:k=7):¬E3 k b:=fun h9=>h9.2.2.2.1 h
def FD (T:Tp)(env:List Int):Prop:=∀k,k<env.length→0≤env.getD k 0∧env.getD k 0<((T.vals.length:Nat):Int)
theorem FD.mono {T T':Tp}{env:List Int}(h:FD T env)(hl:T.vals.length≤T'.vals.length):FD T' env:=fun k hk=>by have:=h k hk;omega
theorem FD.snoc {T:Tp}{env:List Int}{r:Int}(h:FD T env)(hr:0≤r∧r<((T.vals.length:Nat):Int)):FD T (env++[r]):=fun k hk=>by
 rw[z4,zd]at hk
 rw[X5]
 split
 ·exact hr
 ·exact h k zO
theorem FD.nil (T:Tp):FD T []:=fun k hk=>absurd hk (Nat.not_lt_zero k)
theorem De {Q:Nat→Prop}:∀b∈([]:List Nat),Q b:=fun b hb=>(by cases hb)
theorem AA.drewL {F:List Nat}{a b:World}(h:AA F a b):AA F a.drew b:=⟨h.os,h.tape,h.output,h.size,h.block⟩
def Or {α:Type}(S:List Nat)(B:Nat)(E:Bq α)(H:Array Obj)(v:Value)(x:α):Prop:=∃F,E H v x F∧∀b∈F,b∉S∧B≤b
theorem Or.rn {α:Type}{S:List Nat}{B:Nat}{E:Bq α}{H:Array Obj}{v:Value}{x:α}(h:Or S B E H v x):RN S E H v x:=by
 obtain⟨F,h1,h2⟩:=h
 exact⟨F,h1,fun b hb=>(h2 b hb).1⟩
theorem Or.upd {α:Type}{S F:List Nat}{B:Nat}{E:Bq α}(hE:Cc E){w w':World}{v:Value}{x:α}(h:Or S B E w.heap v x)(c:AA F w w')(hF:∀b∈F,b∈S∨b<B):Or S B E w'.heap v x:=by
 obtain⟨G,h1,h2⟩:=h
 refine⟨G,hE.stable h1 fun b hb=>c.block b (hE.lt h1 b hb) fun hm=>?_,h2⟩
 rcases hF b hm with hh|hh
 ·exact (h2 b hb).1 hh
 ·have:=(h2 b hb).2;omega
theorem Or.of_ow {e:TypeId}{B T:Nat}{H:Array Obj}{v:Value}{xs:List Int}{F S:List Nat}(h:Ow (Bo rI e) B T H v xs F)(hS:∀b∈F,b∉S):Or S B (B5 rI) H v xs:=⟨F,h.own.rd id,fun b hb=>⟨hS b hb,h.low b hb⟩⟩
structure Dy (S S':List Nat)(w w':World):Prop where
 sub:∀b∈S,b∈S'
 new:∀b∈S',b∈S∨w.heap.size≤b
 lt:∀b∈S',b<w'.heap.size
 chg:AA S w w'
section
variable {S S' S'':List Nat} {w w' w'':World} {g:Nat}
theorem Dy.refl (h:∀b∈S,b<w.heap.size):Dy S S w w:=⟨fun _ h=>h,fun _ h=>.inl h,h,AA.refl S w⟩
theorem Dy.trans (h:Dy S S' w w')(k:Dy S' S'' w' w''):Dy S S'' w w'' :=
 ⟨fun b hb=>k.sub b (h.sub b hb),OI h.new k.new h.chg.size,k.lt,h.chg.stp k.chg h.new⟩
theorem Dy.ext (h:Dy S S' w w')(k:AF w' w''):Dy S S' w w'':=⟨h.sub,h.new,fun b hb=>Nat.lt_of_lt_of_le (h.lt b hb) k.size,h.chg.ext k⟩
theorem Dy.drew (h:Dy S S' w w'):Dy S S' w w'.drew:=⟨h.sub,h.new,h.lt,h.chg.drew⟩
theorem Dy.of_drew (h:Dy S S' w.drew w'):Dy S S' w w':=⟨h.sub,h.new,h.lt,h.chg.of_drew⟩
theorem Dy.set (h:Dy S S' w w')(hg:g∈S)(k:AA [g] w' w''):Dy S S' w w'':=⟨h.sub,h.new,fun b hb=>Nat.lt_of_lt_of_le (h.lt b hb) k.size,h.chg.trans (k.sub (B2 hg))⟩
theorem Dy.more {F:List Nat}(h:Dy S S' w w')(k:AA F w' w'')(hF:∀b∈F,b∈S):Dy S S' w w'':=⟨h.sub,h.new,fun b hb=>Nat.lt_of_lt_of_le (h.lt b hb) k.size,h.chg.trans (k.sub hF)⟩
theorem Dy.fresh {F:List Nat}(h:Dy S S' w w')(k:AA F w' w'')(hF:∀b∈F,w.heap.size≤b):Dy S S' w w'':=⟨h.sub,h.new,fun b hb=>Nat.lt_of_lt_of_le (h.lt b hb) k.size,h.chg.fresh k hF⟩
end
structure Uo (T T':Tp)(s0 s1:Nat)(c1:Int):Prop where
 bnd:FT T' s1
 num:s1≤3000∧(0≤c1∧c1≤9)∧T.vals.length≤T'.vals.length∧T'.vals.length+s0≤T.vals.length+s1∧T'.grd.length+s0≤T.grd.length+s1
@[simp] theorem E4 (T:Tp)(c:Az)(v:Int):(T.put c v).vals.length=T.vals.length+1:=by simp[Tp.put]
@[simp] theorem OL (T:Tp)(c:Az)(v:Int):(T.put c v).code.length=T.code.length+1:=by simp[Tp.put]
@[simp] theorem Rl (T:Tp)(c:Az)(v:Int):(T.put c v).grd=T.grd:=rfl
@[simp] theorem Gt (T:Tp)(r:Int)(z:Bool):(T.guard r z).vals=T.vals:=rfl
@[simp] theorem KZ (T:Tp)(r:Int)(z:Bool):(T.guard r z).grd.length=T.grd.length+1:=by simp[Tp.guard]
theorem RN.of_ow {e:TypeId}{B T:Nat}{H:Array Obj}{v:Value}{xs:List Int}{F S:List Nat}(h:Ow (Bo rI e) B T H v xs F)(hS:∀b∈F,b∉S):RN S (B5 rI) H v xs:=⟨F,h.own.rd id,hS⟩
theorem BG.len {t1 t2 t3:TypeId}{S:List Nat}{g:Nat}{H:Array Obj}{vc vg vv:Value}{T:Tp}(h:BG t1 t2 t3 S g H vc vg vv T):T.code.length≤maxLen∧T.grd.length≤maxLen∧T.vals.length≤maxLen:=by
 obtain⟨Fc,Fg,Fv,h1,h2,h3,_⟩:=h
 exact⟨h1.own.lenle,h2.own.lenle,h3.own.lenle⟩
end
section
def Gu (a:List Int):Nat→Tp
 |0=>⟨[],[],[]⟩
 |k+1=>(Gu a k).put ⟨1,0,0,((k:Nat):Int)⟩ (a.getD k 0)
def Fd (k:Nat):List Int:=(List.range k).map fun i=>((i:Nat):Int)
@[simp] theorem Do (k:Nat):(Fd k).length=k:=by simp[Fd]
theorem L1 (k:Nat):Fd (k+1)=Fd k++[((k:Nat):Int)]:=by simp[Fd,List.range_succ]
theorem NY {k j:Nat}(h:j<k):(Fd k).getD j 0=((j:Nat):Int):=by
 unfold Fd
 rw[DB (d:=0) (by simpa using h)]
 simp[h]
@[simp] theorem G7 (a:List Int):∀k,(Gu a k).vals.length=k
 |0=>rfl
 |k+1=>by show((Gu a k).put _ _).vals.length=_;rw[E4,G7 a k]
@[simp] theorem JB (a:List Int):∀k,(Gu a k).code.length=k
 |0=>rfl
 |k+1=>by show((Gu a k).put _ _).code.length=_;rw[OL,JB a k]
theorem Rm (a:List Int):∀k,(Gu a k).grd=[]
 |0=>rfl
 |k+1=>by show((Gu a k).put _ _).grd=_;rw[Rl,Rm a k]
theorem NZ (a:List Int):∀k,k≤a.length→(Gu a k).vals=a.take k
 |0,_=>rfl
 |k+1,h=>by
  show(Gu a k).vals++[a.getD k 0]=_
  rw[NZ a k zO,Dn 0 (by omega)]
theorem Rn {a:List Int}(hn:B9 a=true)(h:a.length≤12):FT (Gu a a.length) 0:=by
 refine⟨by simp,by simp;omega,by rw[Rm];simp,?_⟩
 rw[NZ a _ (A7 _),List.take_length];exact hn
theorem Ro (a:List Int)(k:Nat):FD (Gu a k) (Fd k):=fun j hj=>by
 rw[Do]at hj
 rw[NY hj,G7];omega
def Kc (p:List Fn)(f:Nat)(a:List Int):Rs RL:=E2 (Gs p f) (p.getD f Fn.zero).outs (Fd a.length) 0 (Gu a a.length)
section rcm
variable {t1 t2 t3:TypeId} {S:List Nat} {g:Nat} {w w':World} {vc vg vv:Value} {T:Tp}
theorem BG.nil:BG t1 t2 t3 S g w.heap (.slice none 0 0) (.slice none 0 0) (.slice none 0 0) ⟨[],[],[]⟩ :=
 ⟨[],[],[],⟨.inl ⟨rfl,rfl,rfl⟩,zk,De,De⟩,⟨.inl ⟨rfl,rfl,rfl⟩,zk,De,De⟩,⟨.inl ⟨rfl,rfl,rfl⟩,zk,De,De⟩,
  ⟨De,De,De⟩,⟨z2,z2,z2⟩,De,De,De⟩
theorem AA.toExt {F:List Nat}(h:AA F w w')(hF:∀b∈F,w.heap.size≤b):AF w w':=⟨h.os,h.tape,h.output,h.size,fun k hk=>h.block k hk fun hm=>by have:=hF k hm;omega⟩
end rcm
def RG {α:Type}(T:Nat)(E:Bq α)(H:Array Obj)(v:Value)(x:α):Prop:=∃F,E H v x F∧∀b∈F,T≤b
theorem Or.rg {α:Type}{S:List Nat}{B T:Nat}{E:Bq α}{H:Array Obj}{v:Value}{x:α}(h:Or S B E H v x)(hT:T≤B):RG T E H v x:=by
 obtain⟨F,h1,h2⟩:=h
 exact⟨F,h1,fun b hb=>A8 hT (h2 b hb).2⟩
theorem RG.rnG {α:Type}{T g:Nat}{E:Bq α}{w:World}{v:Value}{x:α}(hE:Cc E)(h:RG T E w.heap v x)(hg:g<T∨w.heap.size≤g):RN [g] E w.heap v x:=by
 obtain⟨F,h1,h2⟩:=h
 refine⟨F,h1,fun b hb hm=>?_⟩
 rw[A9 hm]at hb
 have:=h2 g hb
 have:=hE.lt h1 g hb
 omega
theorem BG.readsG {t1 t2 t3:TypeId}{S:List Nat}{g n:Nat}{w:World}{vc vg vv:Value}{T:Tp}(h:BG t1 t2 t3 S g w.heap vc vg vv T)(hS:∀b∈S,n≤b):RG n (Cj 4 Jy) w.heap vc T.code∧RG n (Cj 2 Jz) w.heap vg T.grd:=by
 obtain⟨Fc,Fg,Fv,h1,h2,h3,h4,h5,h6,h7,h8⟩:=h
 exact⟨⟨Fc,h1.own.rd AW,fun b hb=>hS b (h6 b hb)⟩,⟨Fg,h2.own.rd B6,fun b hb=>hS b (h7 b hb)⟩⟩
theorem AM.go0 {α:Type}{r:Rs α}{x:α}{s:Nat}{c:Int}(h:AM (go ((0:Nat):Int) r) x s c):AM r x s c:=h
theorem LD.part {H:Array Obj}{g k:Nat}{cs ds:List Value}(h:BX H g cs)(hl:k+ds.length≤cs.length)(hd:∀i,i<ds.length→ds.getD i undef=cs.getD (k+i) undef):LD H (.pointer (some ⟨g,k,none⟩)) ds:=by
 obtain⟨e,h⟩:=h
 refine⟨g,k,rfl,fun i hi=>?_⟩
 simp only[BN,h]
 rw[hd i hi]
 simp[show k+i<cs.length by omega]
end
def O0 (p:List Fn)(f:Int):Int:=if H2 p=true then(if 0≤f∧f≤((p.length:Nat):Int)-1 then 0 else 2)else 1
theorem Uq {p:List Fn}{f:Int}(h:O0 p f=0):H2 p=true∧0≤f∧f<((p.length:Nat):Int):=by
 unfold O0 at h
 split at h
 ·split at h
  ·rename_i h1 h2;exact⟨h1,h2.1,zO⟩
  ·omega
 ·omega
theorem VC {n k:Nat}{s:Sr}(h:D2 n s)(hk:k<n):HZ (s.getD k 0)=true:=by
 have hk':k<s.length:=by rw[h.1];exact hk
 have:=h.2
 unfold B9 at this
 have h2:=zm.1 this s[k]<|List.getElem_mem hk'
 rwa [show s.getD k 0=s[k]from by simp[hk']]
section
mutual
def I0:Ex→Int→Int
 |.mk _ _ _ _ l,x=>Da l (x-1)
def Da:List Ex→Int→Int
 |[],x=>x
 |e::l,x=>if 0≤x then Da l (I0 e x)else x
end
theorem TC (e:Ex)(x:Int):I0 e x=Da e.kids (x-1):=by cases e;rw[I0];rfl
theorem L2 {l:List Ex}{x:Int}(h:x<0):Da l x=x:=by
 cases l with
 |nil=>rw[Da]
 |cons e l=>rw[Da,if_neg (by omega)]
mutual
theorem L3:∀(e:Ex)(x:Int),0≤x→(I0 e x=x-(e.size:Int)∧(e.size:Int)≤x)∨(I0 e x = -1∧x<(e.size:Int))
 |.mk k n q c l,x,h=>by
  rw[I0,Ex.size]
  by_cases h0:x=0
  ·subst h0
   right
   rw[L2 (by omega)]
   refine⟨zO,zO⟩
  ·rcases HT l (x-1) (by omega)with h1|h1
   ·left;omega
   ·right;omega
theorem HT:∀(l:List Ex)(x:Int),0≤x→(Da l x=x-(Ex.sizes l:Int)∧(Ex.sizes l:Int)≤x)∨(Da l x = -1∧x<(Ex.sizes l:Int))
 |[],x,h=>by rw[Da,Ex.sizes];left;omega
 |e::l,x,h=>by
  rw[Da,if_pos h,Ex.sizes]
  rcases L3 e x h with h1|h1
  ·rw[h1.1]
   rcases HT l (x-(e.size:Int)) (by omega)with h2|h2
   ·left;omega
   ·right;omega
  ·rw[h1.1,L2 (by omega)]
   right;omega
end
theorem Mo (e:Ex):∀(l:List Ex)(x:Int),Da (l++[e]) x=if 0≤Da l x then I0 e (Da l x)else Da l x
 |[],x=>by
  rw[zl,Da,Da]
  split
  ·rw[Da]
  ·rfl
 |a::l,x=>by
  rw[List.cons_append,Da,Da]
  by_cases h:0≤x
  ·rw[if_pos h,if_pos h,Mo e l]
  ·rw[if_neg h,if_neg h,if_neg h]
theorem Mp {l:List Ex}{k:Nat}(hk:k<l.length){x:Int}(h:0≤Da (l.take k) x):Da (l.take (k+1)) x=I0 (l.getD k Ex.zero) (Da (l.take k) x):=by
 rw[List.take_succ_eq_append_getElem hk,Mo,if_pos h]
 simp[hk]
theorem O1:∀(l r:List Ex)(x:Int),Da l x<0→Da (l++r) x=Da l x
 |[],r,x,h=>by rw[Da]at h ⊢;rw[zl,L2 h]
 |a::l,r,x,h=>by
  rw[Da]at h ⊢
  rw[List.cons_append,Da]
  split
  ·rename_i h0;rw[if_pos h0]at h;exact O1 l r _ h
  ·rfl
theorem Mq {l:List Ex}{k:Nat}{x:Int}(h:Da (l.take k) x<0):Da l x=Da (l.take k) x:=by
 have:=O1 (l.take k) (l.drop k) x h
 rwa [List.take_append_drop]at this
theorem O2 {e:Ex}{x:Int}(h:0≤x):-1≤I0 e x∧I0 e x≤x:=by
 rcases L3 e x h with h1|h1 <;> omega
theorem Rp {e:Ex}{x:Int}(h:0≤x):0≤I0 e x↔(e.size:Int)≤x:=by
 rcases L3 e x h with h1|h1 <;> omega
def Ql (k:Int):Int:=if k=1∨k=2 then 0 else if k=3∨k=4∨k=5∨k=6∨k=9 then 2 else if k=7 then 1 else if k=8 then 3 else -1
theorem MR {p q:Prop} [Decidable p] [Decidable q] (h:p↔q):decide p=decide q:=decide_eq_decide.2 h
section
variable {p:List Fn} {F vars:Int} {e:Ex}
theorem Qm (h:Ju p F vars e=true)(h10:e.kind≠10)(h11:e.kind≠11):e.pick=0∧e.count=0∧Ql e.kind=((e.kids.length:Nat):Int)∧(e.kind≠1→e.kind≠2→e.num=0):=by
 unfold Ju EQ at h
 unfold Ql
 split at h
 ·rename_i h1
  simp only[z7,decide_eq_true_eq]at h
  rw[if_pos (by omega)]
  exact⟨h.1.1,h.1.2,zO,fun hh=>absurd h1 hh⟩
 ·split at h
  ·rename_i h1
   simp only[z7,decide_eq_true_eq]at h
   rw[if_pos (by omega)]
   exact⟨h.1.1,h.1.2,zO,fun _ hh=>absurd h1 hh⟩
  ·split at h
   ·simp only[z7,decide_eq_true_eq]at h
    rw[if_neg zO,if_pos (by omega)]
    exact⟨h.1.1,h.1.2,zO,fun _ _=>h.2.1⟩
   ·split at h
    ·simp only[z7,decide_eq_true_eq]at h
     rw[if_neg zO,if_neg zO,if_pos (by omega)]
     exact⟨h.1.1,h.1.2,zO,fun _ _=>h.2.1⟩
    ·split at h
     ·simp only[z7,decide_eq_true_eq]at h
      rw[if_neg zO,if_neg zO,if_neg zO,if_pos (by omega)]
      exact⟨h.1.1,h.1.2,zO,fun _ _=>h.2.1⟩
     ·split at h
      ·omega
      ·cases h
theorem VD (h10:e.kind≠10)(h11:e.kind≠11)(h:Ql e.kind≠((e.kids.length:Nat):Int)∨e.pick≠0∨e.count≠0):false=Ju p F vars e:=by
 cases hw:Ju p F vars e with
 |false=>rfl
 |true =>
  have:=Qm hw h10 h11
  omega
theorem Z8 (hk:Ql e.kind=((e.kids.length:Nat):Int))(h1:e.kind=1)(hp:e.pick=0)(hc:e.count=0):HZ e.num=Ju p F vars e:=by
 have hl:e.kids.length=0:=by unfold Ql at hk;rw[if_pos (by omega)]at hk;omega
 unfold Ju EQ
 rw[if_pos h1,A5 hp,A5 hc,A5 hl];rfl
theorem Z9 (hk:Ql e.kind=((e.kids.length:Nat):Int))(h1:e.kind=2)(hp:e.pick=0)(hc:e.count=0):(decide (((0:Nat):Int)≤e.num) && decide (e.num≤vars-1))=Ju p F vars e:=by
 have hl:e.kids.length=0:=by unfold Ql at hk;rw[if_pos (by omega)]at hk;omega
 unfold Ju EQ GA
 rw[if_neg zO,if_pos h1,A5 hp,A5 hc,A5 hl];rfl
theorem Za (hk:Ql e.kind=((e.kids.length:Nat):Int))(h1:e.kind≠1)(h2:e.kind≠2)(h10:e.kind≠10)(h11:e.kind≠11)(hp:e.pick=0)(hc:e.count=0):decide (e.num=0)=Ju p F vars e:=by
 unfold Ql at hk
 unfold Ju EQ
 rw[if_neg h1,if_neg h2,A5 hp,A5 hc]
 rw[if_neg (by omega)]at hk
 split at hk
 ·rename_i h3
  rw[if_pos h3,A5 (show e.kids.length=2 by omega)];simp
 ·rename_i h3
  rw[if_neg h3]
  split at hk
  ·rename_i h4
   rw[if_pos h4,A5 (show e.kids.length=1 by omega)];simp
  ·rename_i h4
   rw[if_neg h4]
   split at hk
   ·rename_i h5
    rw[if_pos h5,A5 (show e.kids.length=3 by omega)];simp
   ·omega
end
end
section
def K6 (n:Nat)(C:Ca)(e:Ex)(env:List Sr)(s:Nat):Rs Sr:=(DY n C e.kids env s).bind fun xs t =>
 if e.kind=10 then C.one e.num.toNat e.pick.toNat xs t else(K5 (C.all e.num.toNat) e.count.toNat xs t).bind fun ys u=>.ok (ys.getD e.pick.toNat []) u
section
variable {n:Nat} {C:Ca} {e:Ex} {env:List Sr} {s s1 s2:Nat} {c c1 c2:Int} {x y:Sr} {xs ys:List Sr}
theorem Mr (hc:c=0)(hs:s+1≤3000)(hk:e.kind=10∨e.kind=11)(h:AM (go c (K6 n C e env (s+1))) y s2 c2):AM (go c (CZ n C e env s)) y s2 c2:=by
 subst hc
 rw[CA]at h ⊢
 rw[Hm hs zO zO zO (by omega)]
 unfold K6 at h
 cases hv:DY n C e.kids env (s+1)with
 |err d=>rw[hv]at h;exact h
 |ok zs t =>
  rw[hv]at h
  rw[Rs.bind_ok]at h ⊢
  by_cases h10:e.kind=10
  ·rw[if_pos h10]at h ⊢;exact h
  ·rw[if_neg h10]at h;rw[if_neg h10,if_pos (by omega)];exact h
theorem Rq {α:Type}{r:Rs α}{v:α}(h:AM (go c r) v s1 c1)(hc:c≠0):c1=c:=by
 rw[Dj hc]at h;exact h.1
theorem VE (hl:e.kids.length=1)(h:AM (go c (CZ n C (e.kids.getD 0 Ex.zero) env s)) x s1 c1):AM (go c (DY n C e.kids env s)) [x] s1 c1:=by
 have h1:=Gn (l:=e.kids) (k:=0) zO (Gp n C e.kids env s c) h
 rwa [za (by omega)]at h1
theorem JC (hl:e.kids.length=2)(h:AM (go c (CZ n C (e.kids.getD 0 Ex.zero) env s)) x s1 c1)(h2:AM (go c1 (CZ n C (e.kids.getD 1 Ex.zero) env s1)) y s2 c2):AM (go c (DY n C e.kids env s)) [x,y] s2 c2:=by
 have h1:=Gn (l:=e.kids) (k:=0) zO (Gp n C e.kids env s c) h
 have h3:=Gn (l:=e.kids) (k:=1) zO h1 h2
 rwa [za (by omega)]at h3
theorem GN (hc:c=0)(hs:s+1≤3000)(hk:e.kind=3∨e.kind=4∨e.kind=5∨e.kind=6∨e.kind=7)(hr:AM (go c (DY n C e.kids env (s+1))) xs s1 c1)
  (h:c1=0→AM (Nv e.kind xs s1) y s1 c2) (h0:c1≠0→c2=c1):AM (go c (CZ n C e env s)) y s1 c2:=by
 by_cases hc1:c1=0
 ·exact Bg hc hs zO zO zO zO zO zO hr hc1<|h hc1
 ·rw[h0 hc1];exact D8 hc hs zO zO zO zO hr hc1
theorem Rr {p:List Fn}{F:Nat}(hk:e.kind=10)(hF:e.num.toNat<F)(hr:AM (go c (DY n (Fb p n F) e.kids env s)) xs s1 c1)
  (h2:AM (go c1 (CZ n (Fb p n e.num.toNat) ((p.getD e.num.toNat Fn.zero).outs.getD e.pick.toNat Ex.zero) xs s1)) y s2 c2):AM (go c (K6 n (Fb p n F) e env s)) y s2 c2:=by
 by_cases hc:c=0
 ·subst hc
  rw[CA]at hr ⊢
  unfold K6
  by_cases hc1:c1=0
  ·subst hc1;rw[hr.bindO,if_pos hk,ML hF];rw[CA]at h2;exact h2
  ·rw[hr.bindE hc1];rw[Dj hc1]at h2;exact h2
 ·have e1:=Rq hr hc
  subst e1
  rw[Dj hc]at h2 ⊢;exact h2
theorem Rt {f:List Sr→Nat→Rs (List Sr)}{k:Nat}(h:AM (go c (K5 f k xs s)) ys s1 c1){zs:List Sr}(h2:AM (go c1 (f ys s1)) zs s2 c2):AM (go c (K5 f (k+1) xs s)) zs s2 c2:=by
 by_cases hc:c=0
 ·subst hc
  rw[CA]at h ⊢
  show AM ((K5 f k xs s).bind f) _ _ _
  by_cases hc1:c1=0
  ·subst hc1;rw[h.bindO];rw[CA]at h2;exact h2
  ·rw[h.bindE hc1];rw[Dj hc1]at h2;exact h2
 ·have e1:=Rq h hc
  subst e1
  rw[Dj hc]at h2 ⊢;exact h2
theorem Ru {f:List Sr→Nat→Rs (List Sr)}(hc:0=0):AM (go c (K5 f 0 xs s)) xs s c:=by
 by_cases h:c=0
 ·subst h;exact⟨rfl,rfl,rfl⟩
 ·exact AM.mk_err (Dj h _) h
theorem Rv {p:List Fn}{F:Nat}(hk:e.kind≠10)(hF:e.num.toNat<F)(hr:AM (go c (DY n (Fb p n F) e.kids env s)) xs s1 c1)
  (h2:AM (go c1 (K5 (fun a t=>DY n (Fb p n e.num.toNat) (p.getD e.num.toNat Fn.zero).outs a t) e.count.toNat xs s1)) ys s2 c2):AM (go c (K6 n (Fb p n F) e env s)) (ys.getD e.pick.toNat []) s2 c2:=by
 have hl:(Fb p n F).all e.num.toNat=fun a t=>DY n (Fb p n e.num.toNat) (p.getD e.num.toNat Fn.zero).outs a t:=funext fun a=>funext fun t=>HR hF
 by_cases hc:c=0
 ·subst hc
  rw[CA]at hr ⊢
  unfold K6
  by_cases hc1:c1=0
  ·subst hc1
   rw[hr.bindO,if_neg hk,hl]
   rw[CA]at h2
   by_cases h0:c2=0
   ·subst h0;rw[h2.bindO];exact AM.mk_ok rfl
   ·rw[h2.bindE h0];exact AM.mk_err rfl h0
  ·rw[hr.bindE hc1]
   rw[Dj hc1]at h2
   exact AM.mk_err (by rw[h2.1]) (by rw[h2.1];exact hc1)
 ·have e1:=Rq hr hc
  subst e1
  rw[Dj hc]at h2 ⊢
  exact AM.mk_err (by rw[h2.1]) (by rw[h2.1];exact hc)
end
end
section
def MS (p:List Fn)(f:Int):Bool:=GA f 0 (((p.length:Nat):Int)-1) && (decide (1≤(p.getD f.toNat Fn.zero).params) && decide ((((p.getD f.toNat Fn.zero).outs.length:Nat):Int)=(p.getD f.toNat Fn.zero).params))
def Pw (p:List Fn)(f:Int):Bool:=H2 p && MS p f
def I1 (p:List Fn)(f:Int)(l:List Sr):Int :=
 if H2 p=true then(if MS p f=true then(if l.all (fun s=>decide (((s.length:Nat):Int)=(p.getD f.toNat Fn.zero).params) && B9 s)=true then 0 else 2)else 2)else 1
theorem Px (p:List Fn)(f:Int)(l:List Sr):0≤I1 p f l∧I1 p f l≤2:=by
 unfold I1;split <;> (try split) <;> (try split) <;> omega
theorem Kt {p:List Fn}{f:Int}:MS p f=true↔(0≤f∧f≤((p.length:Nat):Int)-1)∧1≤(p.getD f.toNat Fn.zero).params∧(((p.getD f.toNat Fn.zero).outs.length:Nat):Int)=(p.getD f.toNat Fn.zero).params:=by
 unfold MS;rw[z7,z7,Cw,decide_eq_true_eq,decide_eq_true_eq]
def GB (p:List Fn)(f:Nat)(s:Sr):Int:=MO p 1 f (Cq s)
def Py (p:List Fn)(f:Nat)(s:Sr):Sr:=(Rb p 1 f (Cq s)).map fun s=>s.getD 0 0
def Dp (p:List Fn)(f:Nat)(a:Sr):Nat→Sr
 |0=>a
 |k+1=>Py p f (Dp p f a k)
def FM (p:List Fn)(f:Nat)(a:Sr):Nat→Int
 |0=>0
 |k+1=>if FM p f a k=0 then GB p f (Dp p f a k)else FM p f a k
def X0 (p:List Fn)(f:Nat)(a:Sr)(n:Nat):List Sr:=if FM p f a n=0 then Du (n+1) (Dp p f a)else []
theorem D3 {a:Sr}(h:B9 a=true):C7 1 (Cq a):=by
 intro k hk
 unfold Cq at hk ⊢
 rw[zg]at hk
 rw[List.getD_eq_getElem?_getD,List.getElem?_map,List.getElem?_eq_getElem hk]
 refine⟨rfl,?_⟩
 unfold B9 at h ⊢
 have:=zm.1 h _ (List.getElem_mem hk)
 simpa using this
theorem L4 {x:List Sr}{n:Nat}(h:C7 (n+1) x):B9 (x.map fun s=>s.getD 0 0)=true:=by
 unfold B9
 rw[zm]
 intro y hy
 obtain⟨s,hs,rfl⟩:=List.mem_map.1 hy
 obtain⟨k,hk,rfl⟩:=List.mem_iff_getElem.1 hs
 have h2:=h k hk
 rw[H1 hk]at h2
 exact VC h2 zO
section
variable {p:List Fn} {f:Nat} {a s:Sr} {k n:Nat}
theorem EH (h:FM p f a k=0):FM p f a (k+1)=GB p f (Dp p f a k):=if_pos h
theorem J7 (h:FM p f a k≠0):∀ {n:Nat},k≤n→FM p f a n = FM p f a k
  | 0, hk => by have : k = 0 := by omega
                subst this; rfl
  | n + 1,hk=>by
    by_cases e:k = n + 1
    · subst e; rfl
    · have ih:=J7 h (n:=n) zO
      show (if FM p f a n = 0 then _ else _) = _
      rw [if_neg (by rw [ih]; exact h)]; exact ih
theorem Pz (h:FM p f a n≠0):X0 p f a n=[]:=if_neg h
theorem L5 (h:FM p f a n=0):X0 p f a n=Du (n+1) (Dp p f a):=if_pos h
structure Qt (p:List Fn)(f:Nat)(s:Sr):Prop where
 code:0≤GB p f s∧GB p f s≤9
 len:GB p f s=0→(Py p f s).length=(p.getD f Fn.zero).outs.length
 num:B9 (Py p f s)=true
 non:GB p f s≠0→Py p f s=[]
theorem Qt.mk' (h:Ul p 1 f (Cq s)):Qt p f s :=
 ⟨h.code,fun h0=>by unfold Py;rw[zg];exact h.len h0,L4 h.ser,fun h0=>by unfold Py;rw[h.non h0];rfl⟩
structure Qu (p:List Fn)(f:Nat)(a:Sr)(n:Nat):Prop where
 code:0≤FM p f a n∧FM p f a n≤9
 len:(X0 p f a n).length≤n+1
 rows:∀k,((X0 p f a n).getD k []).length≤a.length
theorem Qu.err {c:Int}(h:FM p f a n=c)(h0:c≠0)(hc:0≤c∧c≤9):Qu p f a n:=⟨zO,by rw[Pz (by omega)];simp,fun k=>by rw[Pz (by omega)];simp⟩
theorem Qu.ok (h:FM p f a n=0)(hr:∀k,k≤n→(Dp p f a k).length=a.length):Qu p f a n:=⟨zO,by rw[L5 h];simp[Du],fun k=>by
 rw[L5 h]
 by_cases hk:k<n+1
 ·rw[Ck _ hk,hr k (by omega)];exact A7 _
 ·rw[List.getD_eq_getElem?_getD,List.getElem?_eq_none (by simp[Du];omega)];simp⟩
end
end
def J8 (t:Nat)(x:Int):Int:=if ((t:Nat):Int)≤x then x-((t:Nat):Int)else -1
theorem MT (t:Nat){x:Int}(h:0≤x):-1≤J8 t x∧J8 t x≤x:=by unfold J8;split <;> omega
theorem Ku {t:Nat}{x:Int}(h:0≤J8 t x):J8 t x=x-((t:Nat):Int)∧((t:Nat):Int)≤x:=by
 unfold J8 at h ⊢
 split at h
 ·rename_i h1;rw[if_pos h1];exact⟨rfl,h1⟩
 ·omega
theorem J9 {t:Nat}{x:Int}(h0:0≤x)(h:J8 t x<0):x<((t:Nat):Int):=by
 unfold J8 at h
 split at h <;> omega
theorem Rw {t:Nat}{x y:Int}(h:((t:Nat):Int)≤x)(hy:y=x-((t:Nat):Int)):y=J8 t x:=by unfold J8;rw[if_pos h,hy]
theorem K7 {t:Nat}{x:Int}(h:x<((t:Nat):Int)):-1=J8 t x:=by unfold J8;rw[if_neg (by omega)]
theorem FE:∀(l:List Ex)(k:Nat),Ex.sizes (l.take k)+(l.length-k)≤Ex.sizes l
 |[],k=>by simp[Ex.sizes]
 |e::l,0=>by
  have h:=FE l 0
  have:=Cd e
  rw[List.take_zero]at h ⊢
  rw[Ex.sizes]at h ⊢
  rw[z9,Ex.sizes];omega
 |e::l,k+1=>by
  have h:=FE l k
  rw[List.take_succ_cons,Ex.sizes,Ex.sizes,z9];omega
def Fn.sz (f:Fn):Nat:=f.name.size+Ex.sizes f.outs
def Fn.szs:List Fn→Nat
 |[]=>0
 |f::l=>f.sz+Fn.szs l
theorem MU:Fn.szs []=0:=rfl
theorem Rx (l:List Fn)(f:Fn):Fn.szs (l++[f])=Fn.szs l+f.sz:=by
 induction l with
 |nil=>simp[Fn.szs]
 |cons g l ih=>rw[List.cons_append,Fn.szs,Fn.szs,ih];omega
theorem L6 {l:List Fn}{k:Nat}(hk:k<l.length):Fn.szs (l.take (k+1))=Fn.szs (l.take k)+(l.getD k Fn.zero).sz:=by
 rw[List.take_succ_eq_append_getElem hk,Rx]
 simp[hk]
theorem Hq:∀(l:List Fn)(k:Nat),Fn.szs (l.take k)≤Fn.szs l
 |l,0=>by rw[List.take_zero,MU];omega
 |[],k+1=>by simp[Fn.szs]
 |f::l,k+1=>by rw[List.take_succ_cons,Fn.szs,Fn.szs];have:=Hq l k;omega
theorem Ry {l:List Fn}{k:Nat}(hk:k<l.length):(l.getD k Fn.zero).sz≤Fn.szs l:=by
 have h1:=L6 hk
 have h2:=Hq l (k+1)
 omega
def MV (p:List Fn):Nat:=p.length+Fn.szs p
theorem VF {p:List Fn}(h:MV p≤1048576):Qj p:=by
 intro k hk
 have h1:=Ry hk
 have h2:(p.getD k Fn.zero).sz=(p.getD k Fn.zero).name.size+Ex.sizes (p.getD k Fn.zero).outs:=rfl
 have h3:MV p=p.length+Fn.szs p:=rfl
 have h4:=FE (p.getD k Fn.zero).outs 0
 exact⟨zO,zO,zO⟩
section
section
variable {m n:Nat} {C C':Ca}
theorem Ms:∀ {l:List Ex}{e:Ex},e∈l→e.size≤Ex.sizes l
 |[],_,h=>by cases h
 |a::l,e,h=>by
  rw[Ex.sizes]
  rcases ze.1 h with rfl|h
  ·omega
  ·have:=Ms h;omega
end
end
def VG (n:Nat)(r:Rs Sr):Prop:=match r with
 |.ok x s=>D2 n x∧s≤3000
 |.err c=>c=6∨c=7
def Z0 (n m:Nat)(r:Rs (List Sr)):Prop:=match r with
 |.ok xs s=>xs.length=m∧C7 n xs∧s≤3000
 |.err c=>c=6∨c=7
structure Zb (p:List Fn)(n F:Nat)(C:Ca):Prop where
 one:∀f j xs t,f<F→j<(p.getD f Fn.zero).outs.length→C7 n xs→((xs.length:Nat):Int)=(p.getD f Fn.zero).params→t≤3000→VG n (C.one f j xs t)
 all:∀f xs t,f<F→C7 n xs→((xs.length:Nat):Int)=(p.getD f Fn.zero).params→t≤3000→Z0 n (p.getD f Fn.zero).outs.length (C.all f xs t)
theorem C7.nil (n:Nat):C7 n []:=fun k hk=>by simp at hk
theorem C7.cons {n:Nat}{x:Sr}{xs:List Sr}(hx:D2 n x)(h:C7 n xs):C7 n (x::xs):=by
 intro k hk
 cases k with
 |zero=>exact hx
 |succ k=>exact h k (by simpa using hk)
theorem Rz {n:Nat}{C:Ca}{env:List Sr}:∀(l:List Ex),(∀e∈l,∀s,s≤3000→VG n (CZ n C e env s))→∀s,s≤3000→Z0 n l.length (DY n C l env s)
 |[],_,s,hs=>by rw[DY];exact⟨rfl,C7.nil n,hs⟩
 |e::l,h,s,hs=>by
  rw[DY]
  have h1:=h e (z0 ..) s hs
  cases h2:CZ n C e env s with
  |err c=>rw[h2]at h1;exact h1
  |ok x t =>
   rw[h2]at h1
   have h3:=Rz l (fun e he=>h e<|z3 _ he) t h1.2
   rw[Rs.bind_ok]
   cases h4:DY n C l env t with
   |err c=>rw[h4]at h3;exact h3
   |ok xs u=>rw[h4]at h3;exact⟨by simp[h3.1],C7.cons h1.1 h3.2.1,h3.2.2⟩
theorem Ur {p:List Fn}{n F f:Nat}{C:Ca}(hC:Zb p n F C)(hf:f<F)(ho:(((p.getD f Fn.zero).outs.length:Nat):Int)=(p.getD f Fn.zero).params):∀(k:Nat)(xs:List Sr)(t:Nat),C7 n xs→xs.length=(p.getD f Fn.zero).outs.length→t≤3000→Z0 n (p.getD f Fn.zero).outs.length (K5 (C.all f) k xs t)
 |0,xs,t,h1,h2,h3=>⟨h2,h1,h3⟩
 |k+1,xs,t,h1,h2,h3=>by
  have h:=Ur hC hf ho k xs t h1 h2 h3
  rw[K5]
  cases h4:K5 (C.all f) k xs t with
  |err c=>rw[h4]at h;exact h
  |ok ys u=>rw[h4]at h;rw[Rs.bind_ok];exact hC.all f ys u hf h.2.1 (by rw[h.1];exact ho) h.2.2
theorem Xh {n:Nat}{k:Int}{xs:List Sr}{t:Nat}(hx:C7 n xs)(h0:0<xs.length)(ht:t≤3000):VG n (Nv k xs t):=by
 have h1:=(hx 0 h0).1
 unfold Nv
 split
 ·exact⟨⟨by rw[Gl];exact h1,KK _ _⟩,ht⟩
 ·split
  ·exact⟨⟨by rw[Hk];exact h1,KL _ _⟩,ht⟩
  ·split
   ·exact⟨⟨by rw[FC];exact h1,Hi _ _⟩,ht⟩
   ·split
    ·exact⟨⟨by rw[Hj];exact h1,Gm _ _⟩,ht⟩
    ·split
     ·exact .inl rfl
     ·exact⟨⟨by rw[DC];exact h1,Gk _ _⟩,ht⟩
theorem RA {p:List Fn}{n F:Nat}{C:Ca}(hC:Zb p n F C):∀(z:Nat)(e:Ex),e.size≤z→∀(env:List Sr)(s:Nat),wf p ((F:Nat):Int) e ((env.length:Nat):Int)=true→C7 n env→s≤3000→VG n (CZ n C e env s)
 |0,e,h,_,_,_,_,_=>by have:=Cd e;omega
 |z+1,e,h,env,s,hw,he,hs=>by
  obtain⟨w1,w2,w3,w4,w5,w6,w7,w8⟩:=D0 (CJ hw)
  have hz:∀j,j<e.kids.length→(e.kids.getD j Ex.zero).size≤z:=fun j hj=>by
   have h2:e.kids.getD j Ex.zero∈e.kids:=by rw[H1 hj];exact List.getElem_mem hj
   have:=Cd e;have:=Ms h2;omega
  have hk:∀j,j<e.kids.length→¬(e.kind=9∧j=1)→∀t,t≤3000→VG n (Nw n C e.kids j env t):=fun j hj hn t ht=>by
   rw[Ej _ _ _ _ _ _ hj]
   exact RA hC z _ (hz j hj) env t (BT hw hj hn) he ht
  rw[GM]
  split
  ·exact .inr rfl
  ·rename_i hs3
   split
   ·rename_i h1;exact⟨Fi (CY.2 (w8 h1)),zO⟩
   ·split
    ·rename_i h1 h2;exact⟨he _ (by have:=w2 h2;omega),zO⟩
    ·split
     ·rename_i h1 h2 h8
      have h3:=w5 h8
      have hc:=hk 0 zO zO (s+1) zO
      cases h4:Nw n C e.kids 0 env (s+1)with
      |err c=>rw[h4]at hc;exact hc
      |ok x t =>
       rw[h4]at hc;rw[Rs.bind_ok]
       split
       ·exact hk 1 zO zO t hc.2
       ·exact hk 2 zO zO t hc.2
     ·split
      ·rename_i h1 h2 h8 h9
       have h3:=w3 zO
       have hc:=hk 0 zO zO (s+1) zO
       cases h4:Nw n C e.kids 0 env (s+1)with
       |err c=>rw[h4]at hc;exact hc
       |ok x t =>
        rw[h4]at hc;rw[Rs.bind_ok,Ej _ _ _ _ _ _ (show 1<e.kids.length by omega)]
        refine RA hC z _ (hz 1 zO) (env++[x]) t ?_ (he.snoc hc.1) hc.2
        have:=Hl hw zO h9
        rw[z4,zd];exact this
      ·rename_i h1 h2 h8 h9
       have hc:=Rz (n:=n) (C:=C) (env:=env) e.kids (fun x hx t ht=>by
        obtain⟨j,hj,rfl⟩:=List.mem_iff_getElem.1 hx
        have:=hk j hj zO t ht
        rwa [Ej _ _ _ _ _ _ hj,H1 hj]at this) (s+1) zO
       cases h4:DY n C e.kids env (s+1)with
       |err c=>rw[h4]at hc;exact hc
       |ok xs t =>
        rw[h4]at hc;rw[Rs.bind_ok]
        obtain⟨c1,c2,c3⟩:=hc
        split
        ·rename_i h10
         have h6:=w6<|.inl h10
         exact hC.one _ _ xs t zO zO c2 (by rw[c1];exact h6.2.2.1) c3
        ·split
         ·rename_i h11
          have h6:=w6 (.inr h11);have h7:=w7 h11
          have hl:=Ur hC (f:=e.num.toNat) zO h7.1 e.count.toNat xs t c2 zO c3
          cases h5:K5 (C.all e.num.toNat) e.count.toNat xs t with
          |err c=>rw[h5]at hl;exact hl
          |ok ys u=>rw[h5]at hl;exact⟨hl.2.1 _ (by rw[hl.1];omega),hl.2.2⟩
         ·refine Xh c2 ?_ c3
          rw[c1]
          by_cases h7:e.kind=7
          ·rw[w4 h7];decide
          ·rw[w3 (by omega)];decide
theorem RB {p:List Fn}(hv:FY p)(n:Nat):∀F,F≤p.length→Zb p n F (Fb p n F)
 |0,_=>⟨fun f j xs t h=>by omega,fun f xs t h=>by omega⟩
 |F+1,hF=>by
  have ih:=RB hv n F zO
  have hO:∀j xs t,j<(p.getD F Fn.zero).outs.length→C7 n xs→((xs.length:Nat):Int)=(p.getD F Fn.zero).params→t≤3000→VG n (CZ n (Fb p n F) ((p.getD F Fn.zero).outs.getD j Ex.zero) xs t):=fun j xs t h2 h3 h4 h5 =>
   RA ih _ _ (A7 _) xs t (by rw[h4];exact hv.wf F zO j h2) h3 h5
  refine⟨fun f j xs t h1 h2 h3 h4 h5=>?_,fun f xs t h1 h3 h4 h5=>?_⟩
  ·show VG n (if f=F then _ else _)
   split
   ·rename_i e;subst e;exact hO j xs t h2 h3 h4 h5
   ·exact ih.one f j xs t zO h2 h3 h4 h5
  ·show Z0 n _ (if f=F then _ else _)
   split
   ·rename_i e;subst e
    refine Rz _ (fun e he s hs=>?_) t h5
    obtain⟨j,hj,rfl⟩:=List.mem_iff_getElem.1 he
    have:=hO j xs s hj h3 h4 hs
    rwa [H1 hj]at this
   ·exact ih.all f xs t zO h3 h4 h5
theorem Zc {p:List Fn}(hv:FY p){n f:Nat}{a:List Sr}(hf:f<p.length)(ha:C7 n a)(hl:((a.length:Nat):Int)=(p.getD f Fn.zero).params):Ul p n f a:=by
 have h:=(RB hv n (f+1) zO).all f a 0 zO ha hl zO
 rw[HR (by omega)]at h
 have e:ev p n f a=DY n (Fb p n f) (p.getD f Fn.zero).outs a 0:=rfl
 rw[← e]at h
 cases h2:ev p n f a with
 |err c =>
  rw[h2]at h;have h:c=6∨c=7:=h
  exact⟨by rw[J3 h2];omega,by rw[Pr h2];omega,fun hh=>by rw[J3 h2]at hh;omega,by rw[NV h2];exact C7.nil n,fun _=>NV h2⟩
 |ok xs s =>
  rw[h2]at h;have h:xs.length=_∧C7 n xs∧s≤3000:=h
  exact⟨by rw[KU h2];omega,by rw[Pq h2];exact h.2.2,fun _=>by rw[KT h2];exact h.1,by rw[KT h2];exact h.2.1,fun hh=>absurd (KU h2) hh⟩
theorem Zd {a b:Sr}(hl:a.length=b.length)(h:∀j,j<a.length→a.getD j 0=b.getD j 0):a=b :=
 List.ext_getElem hl fun j h1 h2=>by have:=h j h1;rwa [H1 h1,H1 h2]at this
theorem Ze {y z:List Sr}(hl:y.length=z.length)(h:∀j,j<y.length→y.getD j []=z.getD j []):y=z :=
 List.ext_getElem hl fun j h1 h2=>by have:=h j h1;rwa [H1 h1,H1 h2]at this
theorem Xi {a b:Sr}{k:Nat}(h:k<a.length):(Cz a b).getD k 0=md (a.getD k 0+b.getD k 0):=Ck 0 h
theorem Xj {a b:Sr}{k:Nat}(h:k<a.length):(GL a b).getD k 0=md (a.getD k 0-b.getD k 0):=Ck 0 h
theorem Xk {a:Sr}{y:Int}{k:Nat}(h:k<a.length):(Di a y).getD k 0=md (a.getD k 0*y):=Ck 0 h
theorem O3 {a b:Sr}(h:0<a.length):(Cs a b).getD 0 0=md (0+a.getD 0 0*b.getD 0 0):=Ck 0 h
theorem RC {a b:Sr}(h:0<a.length):(Cm a b).getD 0 0=md (a.getD 0 0*inv (b.getD 0 0)):=Po h
theorem TD {n:Nat}{c:Int}(h:0<n):(HQ n c).getD 0 0=c:=by
 obtain⟨n,rfl⟩:∃k,n=k+1:=⟨n-1,zO⟩
 unfold HQ;rw[List.replicate_succ];rfl
theorem RD {p:List Fn}(hv:FY p){n f:Nat}{a:List Sr}(hf:f<p.length)(ha:C7 n a)(hl:((a.length:Nat):Int)=(p.getD f Fn.zero).params) :
  (∃x s,ev p n f a=.ok x s∧x.length=(p.getD f Fn.zero).outs.length∧C7 n x)∨ev p n f a=.err 6∨ev p n f a=.err 7:=by
 have h:=(RB hv n (f+1) zO).all f a 0 zO ha hl zO
 rw[HR (by omega)]at h
 have e:ev p n f a=DY n (Fb p n f) (p.getD f Fn.zero).outs a 0:=rfl
 rw[← e]at h
 cases h2:ev p n f a with
 |err c =>
  rw[h2]at h;have h:c=6∨c=7:=h
  rcases h with rfl|rfl
  ·exact .inr<|.inl rfl
  ·exact .inr<|.inr rfl
 |ok xs s =>
  rw[h2]at h;have h:xs.length=_∧C7 n xs∧s≤3000:=h
  exact .inl ⟨xs,s,rfl,h.1,h.2.1⟩
def LR (a d:List Int)(n:Nat):List Sr:=Du a.length fun i=>(HQ n (a.getD i 0)).set 1 (d.getD i 0)
@[simp] theorem Ja (a d:List Int)(n:Nat):(LR a d n).length=a.length:=by simp[LR]
theorem OM {a d:List Int}{n k:Nat}(h:k<a.length):(LR a d n).getD k []=(HQ n (a.getD k 0)).set 1 (d.getD k 0):=Ck [] h
theorem MW {a d:List Int}{n:Nat}(ha:B9 a=true)(hd:B9 d=true):C7 n (LR a d n):=fun k hk=>by
 rw[Ja]at hk
 rw[OM hk]
 refine⟨by rw[z6,Ev],?_⟩
 have h1:=Fi (n:=n)<|CY.2<|BY ha k
 unfold B9
 rw[zm]
 intro y hy
 rcases List.mem_or_eq_of_mem_set hy with hy|rfl
 ·have:=h1.2;unfold B9 at this;exact zm.1 this y hy
 ·exact CY.2<|BY hd k
theorem RE (n j:Nat):(List.replicate n (0:Int)).getD j 0=0:=by
 rw[List.getD_eq_getElem?_getD,List.getElem?_replicate];split <;> rfl
theorem Xl {a d:List Int}{i:Nat}(h:i<a.length):((LR a d 2).getD i []).getD 0 0=a.getD i 0:=by rw[OM h];rfl
section
section str
variable {P:Program} {ops:Array Oper} {w0:World} {Q:Act→World→Prop} {os:List Oper} {ks:List Nat} {N:Nat} {ρ:Nat→Value} {w:World}
 {d:Nat} {ty:TypeId} {pos:String} {aft:Array Edge} {g:Option (Nat×Bool)} {t e:TypeId}
theorem Us {α:Type}{E:Bq α}(hE:Cc E){ys:List α}{b:Nat}{z u0 u1:Value}{x0 x1:Operand}(ht:P.underlying t=some (.slice e))(hi:TI P e 1 z b)(hz:z.cells=#[z])
  (hx0:Bp N ρ x0=u0) (hx1:Bp N ρ x1=u1) (hl:ys.length=2) (hels:els E w.heap [u0,u1] ys [])
  (hu:Up ops N ρ ⟨some d,.buildSlice t 2 #[(0,x0),(1,x1)],ty,pos,aft,g⟩)
  (h:∀v w1,AF w w1→w1.heap.size=w.heap.size+1→Fr (Bo E e) w.heap.size w1.heap.size w1.heap v ys→LW P ops w0 Q os ks (mk N (CS ρ d v)) w1) :
  LW P ops w0 Q (⟨some d,.buildSlice t 2 #[(0,x0),(1,x1)],ty,pos,aft,g⟩::os) (3::ks) (mk N ρ) w:=by
 have hc:=hels.cells1 hE
 have hr:=T7 (P:=P) (w:=w) ht hi (hc u0 (by simp)).1 (hc u1 (by simp)).1 hz
 have hrun:(execOp (Bp N ρ) ⟨some d,.buildSlice t 2 #[(0,x0),(1,x1)],ty,pos,aft,g⟩).run P w=.ok (.value (.slice (some ⟨w.heap.size,0,none⟩) 2 2)) (w.alloc (.cells #[u0,u1] e)):=by
  simp only[execOp,zc,zf,zh,Sem.run_bind,hx0,hx1,hr,Result.andThen_ok,Sem.run_pure]
 refine IV rfl hu _ _ hrun (BF _ _)<|h _ _ (BF _ _) (by simp) ?_
 have hn:=HM (e:=e) (w:=w) hE (us:=[u0,u1]) (xs:=ys) (F:=[]) (cur:=#[u0,u1]) hels (by simp[maxLen]) (by rw[hl];rfl) (by rw[hl];simp)
 rw[hl]at hn
 refine⟨_,hn,?_,fun c hc=>?_⟩
 ·rw[List.nodup_cons]
  exact⟨fun hm=>(by cases hm),zk⟩
 ·rcases ze.1 hc with rfl|hc
  ·exact⟨A7 _,by simp⟩
  ·cases hc
theorem VH {x:Operand}{u:Value}(hx:Bp N ρ x=u)(hc:u.cells=#[u])(hu:Up ops N ρ ⟨some d,.box t x,ty,pos,aft,g⟩)
  (h:∀w1,AF w w1→w1.heap.size=w.heap.size+1→BX w1.heap w.heap.size [u]→LW P ops w0 Q os ks (mk N (CS ρ d (.pointer (some ⟨w.heap.size,0,none⟩)))) w1) :
  LW P ops w0 Q (⟨some d,.box t x,ty,pos,aft,g⟩::os) (3::ks) (mk N ρ) w:=by
 have hrun:(execOp (Bp N ρ) ⟨some d,.box t x,ty,pos,aft,g⟩).run P w=.ok (.value (.pointer (some ⟨w.heap.size,0,none⟩))) (w.alloc (.cells #[u] t)):=by
  simp[execOp,Instr.box,newVar,newRow,hx,hc]
 refine IV rfl hu _ _ hrun (BF _ _)<|h _ (BF _ _) (by simp) ⟨t,?_⟩
 have:=heap_alloc_new w (.cells #[u] t)
 simpa using this
end str
theorem Xm {H:Array Obj}{a b:Int}(h0:-9223372036854775808≤a∧a≤9223372036854775807)(h1:-9223372036854775808≤b∧b≤9223372036854775807):els rI H [.int .i64 a,.int .i64 b] [a,b] [] :=
 ⟨[],[],rfl,⟨rfl,rfl,h0⟩,[],[],rfl,⟨rfl,rfl,h1⟩,rfl⟩
end
def dl (i:Nat)(j:Nat):Int:=if i=j then 1 else 0
structure ON (m:Nat)(a:List Int)(X:List Sr):Prop where
 len:X.length=a.length
 ser:∀i,i<a.length→D2 m (X.getD i [])
 at0:∀i,i<a.length→(X.getD i []).getD 0 0=a.getD i 0
section
theorem O4 {α:Type}{P:List α→Prop}(h0:P [])(h1:∀l c,P l→P (l++[c]))(l:List α):P l:=by
 have h:∀l:List α,P l.reverse:=fun l=>by
  induction l with
  |nil=>exact h0
  |cons c l ih=>rw[List.reverse_cons];exact h1 _ _ ih
 have:=h l.reverse
 rwa [List.reverse_reverse]at this
def FO (m:Nat)(A R:List Sr)(c:Az):Sr :=
 if c.op=1 then A.getD c.num.toNat []else if c.op=3 then Cz (R.getD c.a.toNat []) (R.getD c.b.toNat [])else if c.op=4 then GL (R.getD c.a.toNat []) (R.getD c.b.toNat [])
 else if c.op=5 then Cs (R.getD c.a.toNat []) (R.getD c.b.toNat [])else if c.op=7 then Di (R.getD c.a.toNat []) 1000002
 else if c.op=6 then Cm (R.getD c.a.toNat []) (R.getD c.b.toNat [])else HQ m c.num
def BR (m:Nat)(A:List Sr)(cs:List Az):List Sr:=cs.foldl (fun R c=>R++[FO m A R c]) []
section
variable {m:Nat} {A:List Sr}
theorem Gv (cs:List Az)(c:Az):BR m A (cs++[c])=BR m A cs++[FO m A (BR m A cs) c]:=by unfold BR;rw[List.foldl_append];rfl
@[simp] theorem BS (cs:List Az):(BR m A cs).length=cs.length:=by
 induction cs using O4 with
 |h0=>rfl
 |h1 l c ih=>rw[Gv,z4,ih,z4];rfl
theorem O5 (cs l:List Az){k:Nat}(hk:k<cs.length):(BR m A (cs++l)).getD k []=(BR m A cs).getD k []:=by
 induction l using O4 with
 |h0=>rw[List.append_nil]
 |h1 l c ih=>rw[← List.append_assoc,Gv,KF (by rw[BS,z4];omega),ih]
theorem Mu (cs:List Az)(c:Az):(BR m A (cs++[c])).getD cs.length []=FO m A (BR m A cs) c:=by rw[Gv,LO (by rw[BS])]
end
def DI (ni k:Nat)(c:Az):Prop :=
 (c.op=1∧c.a=0∧c.b=0∧0≤c.num∧c.num<((ni:Nat):Int))∨(c.op=2∧c.a=0∧c.b=0∧0≤c.num∧c.num<1000003) ∨
 ((c.op=3∨c.op=4∨c.op=5∨c.op=6)∧(0≤c.a∧c.a<((k:Nat):Int))∧(0≤c.b∧c.b<((k:Nat):Int))∧c.num=0)∨(c.op=7∧(0≤c.a∧c.a<((k:Nat):Int))∧c.b=0∧c.num=0)
theorem DI.bin {ni k:Nat}{op a b:Int}(h:op=3∨op=4∨op=5∨op=6)(ha:0≤a∧a<((k:Nat):Int))(hb:0≤b∧b<((k:Nat):Int)):DI ni k ⟨op,a,b,0⟩:=.inr (.inr (.inl ⟨h,ha,hb,rfl⟩))
theorem DI.neg {ni k:Nat}{a:Int}(ha:0≤a∧a<((k:Nat):Int)):DI ni k ⟨7,a,0,0⟩:=.inr (.inr (.inr ⟨rfl,ha,rfl,rfl⟩))
structure H7 (m:Nat)(A:List Sr)(T:Tp):Prop where
 cl:T.code.length=T.vals.length
 ser:∀k,k<T.code.length→D2 m ((BR m A T.code).getD k [])∧((BR m A T.code).getD k []).getD 0 0=T.vals.getD k 0
 form:∀k,k<T.code.length→DI A.length k (T.code.getD k Az.zero)
 dv:∀k,k<T.code.length→(T.code.getD k Az.zero).op=6→T.at (T.code.getD k Az.zero).b≠0
 gd:∀k,k<T.grd.length→(0≤(T.grd.getD k Gr.zero).reg∧(T.grd.getD k Gr.zero).reg<((T.vals.length:Nat):Int))∧(T.grd.getD k Gr.zero).z=decide (T.at (T.grd.getD k Gr.zero).reg=0)
def TE (T T':Tp):Prop:=(∃l,T'.code=T.code++l)∧∃l,T'.vals=T.vals++l
theorem TE.refl (T:Tp):TE T T:=⟨⟨[],by simp⟩,[],by simp⟩
theorem TE.trans {T T' T'':Tp}(h:TE T T')(k:TE T' T''):TE T T'':=by
 obtain⟨⟨l,h1⟩,l2,h2⟩:=h
 obtain⟨⟨l3,h3⟩,l4,h4⟩:=k
 exact⟨⟨l++l3,by rw[h3,h1,List.append_assoc]⟩,l2++l4,by rw[h4,h2,List.append_assoc]⟩
theorem TE.put (T:Tp)(c:Az)(v:Int):TE T (T.put c v):=⟨⟨[c],rfl⟩,[v],rfl⟩
theorem TE.guard (T:Tp)(r:Int)(z:Bool):TE T (T.guard r z):=⟨⟨[],by simp[Tp.guard]⟩,[],by simp[Tp.guard]⟩
section
variable {m:Nat} {A:List Sr} {T T':Tp}
theorem TE.reg (h:TE T T'){k:Nat}(hk:k<T.code.length):(BR m A T'.code).getD k []=(BR m A T.code).getD k []:=by
 obtain⟨⟨l,h1⟩,_⟩:=h
 rw[h1,O5 _ _ hk]
theorem TE.at (h:TE T T'){r:Int}(hr:0≤r∧r<((T.vals.length:Nat):Int)):T'.at r=T.at r:=by
 obtain⟨_,l,h1⟩:=h
 unfold Tp.at
 rw[h1,KF (by omega)]
theorem TE.len (h:TE T T'):T.code.length≤T'.code.length∧T.vals.length≤T'.vals.length:=by
 obtain⟨⟨l,h1⟩,l2,h2⟩:=h
 rw[h1,h2,z4,z4];omega
def Ny (m:Nat)(A:List Sr)(T:Tp)(r:Int)(z:Sr):Prop:=(0≤r∧r<((T.vals.length:Nat):Int))∧z=(BR m A T.code).getD r.toNat []
def Mv (m:Nat)(A:List Sr)(n:Nat)(T:Tp)(rs:List Int)(zs:List Sr):Prop:=rs.length=n∧zs.length=n∧∀i,i<n→Ny m A T (rs.getD i 0) (zs.getD i [])
theorem Ny.mono {r:Int}{z:Sr}(hc:T.code.length=T.vals.length)(h:Ny m A T r z)(k:TE T T'):Ny m A T' r z:=by
 have:=k.len
 exact⟨by have:=h.1;omega,by rw[k.reg (by have:=h.1;omega)];exact h.2⟩
theorem Mv.mono {n:Nat}{rs:List Int}{zs:List Sr}(hc:T.code.length=T.vals.length)(h:Mv m A n T rs zs)(k:TE T T'):Mv m A n T' rs zs:=⟨h.1,h.2.1,fun i hi=>(h.2.2 i hi).mono hc k⟩
theorem Mv.snoc {n:Nat}{rs:List Int}{zs:List Sr}{r:Int}{z:Sr}(h:Mv m A n T rs zs)(h1:Ny m A T r z):Mv m A (n+1) T (rs++[r]) (zs++[z]):=by
 refine⟨by simp[h.1],by simp[h.2.1],fun i hi=>?_⟩
 by_cases e:i=n
 ·rw[LO (by rw[h.1];exact e),LO (by rw[h.2.1];exact e)];exact h1
 ·rw[KF (by rw[h.1];omega),KF (by rw[h.2.1];omega)];exact h.2.2 i zO
theorem Ny.at (hI:H7 m A T){r:Int}{z:Sr}(h:Ny m A T r z):D2 m z∧z.getD 0 0=T.at r:=by
 have:=hI.ser r.toNat (by rw[hI.cl];have:=h.1;omega)
 rw[h.2];exact this
def HU {α β:Type}(m:Nat)(A:List Sr)(T:Tp)(R:Tp→α→β→Prop)(r:Rs (α×Tp))(rz:Rs β):Prop:=match r with
 |.ok x t=>∃z,rz=.ok z t∧H7 m A x.2∧TE T x.2∧R x.2 x.1 z
 |.err c=>rz=.err c
theorem HU.bind {α β α' β':Type}{R:Tp→α→β→Prop}{R':Tp→α'→β'→Prop}{r:Rs (α×Tp)}{rz:Rs β}{g:α×Tp→Nat→Rs (α'×Tp)}{gz:β→Nat→Rs β'}(h:HU m A T R r rz)
  (hg:∀x T' z t,H7 m A T'→TE T T'→R T' x z→HU m A T' R' (g (x,T') t) (gz z t)):HU m A T R' (r.bind g) (rz.bind gz):=by
 cases r with
 |err c=>have h9:rz=.err c:=h;subst h9;exact rfl
 |ok x t =>
  obtain⟨z,h1,h2,h3,h4⟩:=h
  subst h1
  have h5:=hg x.1 x.2 z t h2 h3 h4
  rw[Rs.bind_ok,Rs.bind_ok]
  cases hr:g x t with
  |err c=>rw[hr]at h5;exact h5
  |ok y u =>
   rw[hr]at h5
   obtain⟨v,q1,q2,q3,q4⟩:=h5
   exact⟨v,q1,q2,h3.trans q3,q4⟩
theorem HU.ret {α β:Type}{R:Tp→α→β→Prop}{x:α}{z:β}{t:Nat}(hI:H7 m A T')(hE:TE T T')(h:R T' x z):HU m A T R (.ok (x,T') t) (.ok z t):=⟨z,rfl,hI,hE,h⟩
theorem H7.put (h:H7 m A T){c:Az}{v:Int}(hs:D2 m (FO m A (BR m A T.code) c))(hv:(FO m A (BR m A T.code) c).getD 0 0=v)(hf:DI A.length T.code.length c)(hd:c.op=6→T.at c.b≠0):H7 m A (T.put c v):=by
 have hE:=TE.put T c v
 have hcl:=h.cl
 have key:∀k,k<(T.put c v).code.length→k<T.code.length∨k=T.code.length:=fun k hk=>by rw[OL]at hk;omega
 have cg:∀k,k<T.code.length→(T.put c v).code.getD k Az.zero=T.code.getD k Az.zero:=fun k hk=>KF hk
 have cn:(T.put c v).code.getD T.code.length Az.zero=c:=LO rfl
 refine⟨by rw[OL,E4,hcl],fun k hk=>?_,fun k hk=>?_,fun k hk h6=>?_,fun k hk=>?_⟩
 ·rcases key k hk with hk|rfl
  ·rw[hE.reg hk,show(T.put c v).vals.getD k 0=T.vals.getD k 0 from KF (by omega)];exact h.ser k hk
  ·rw[show(BR m A (T.put c v).code).getD T.code.length []=_ from Mu _ _,show(T.put c v).vals.getD T.code.length 0=v from LO hcl];exact⟨hs,hv⟩
 ·rcases key k hk with hk|rfl
  ·rw[cg k hk];exact h.form k hk
  ·rw[cn];exact hf
 ·rcases key k hk with hk|rfl
  ·rw[cg k hk]at h6 ⊢
   have:=h.form k hk
   unfold DI at this
   rw[hE.at (by omega)];exact h.dv k hk h6
  ·rw[cn]at h6 ⊢
   unfold DI at hf
   rw[hE.at (by omega)];exact hd h6
 ·have:=h.gd k hk
  rw[Rl]at hk ⊢
  refine⟨by rw[E4];omega,?_⟩
  rw[hE.at this.1];exact this.2
theorem H7.guard (h:H7 m A T){r:Int}(hr:0≤r∧r<((T.vals.length:Nat):Int)):H7 m A (T.guard r (decide (T.at r=0))):=by
 refine⟨h.cl,h.ser,h.form,h.dv,fun k hk=>?_⟩
 rw[KZ]at hk
 by_cases e:k<T.grd.length
 ·rw[show(T.guard r (decide (T.at r=0))).grd.getD k Gr.zero=T.grd.getD k Gr.zero from KF e];exact h.gd k e
 ·rw[show(T.guard r (decide (T.at r=0))).grd.getD k Gr.zero=⟨r,decide (T.at r=0)⟩from LO (by omega)];exact⟨hr,rfl⟩
theorem HU.put {R:Tp→Int→Sr→Prop}{c:Az}{v:Int}{z:Sr}{t:Nat}(h:H7 m A T)(hz:FO m A (BR m A T.code) c=z)(hs:D2 m z)(hv:z.getD 0 0=v)(hf:DI A.length T.code.length c)(hd:c.op=6→T.at c.b≠0)
  (hR:∀T' r z,Ny m A T' r z→R T' r z):HU m A T R (.ok (((T.vals.length:Nat):Int),T.put c v) t) (.ok z t):=by
 subst hz
 refine HU.ret (h.put hs hv hf hd) (TE.put T c v)<|hR _ _ _ ⟨by rw[E4];omega,?_⟩
 rw[Int.toNat_natCast,← h.cl];exact(Mu _ _).symm
theorem Xn (hm:1≤m)(h:H7 m A T){k:Int}{n t:Nat}{rs:List Int}{zs:List Sr}(hr:Mv m A n T rs zs)(hk:3≤k∧k≤7)(h1:k=7→1≤n)(h2:k≠7→2≤n):HU m A T (Ny m A) (OJ k rs t T) (Nv k zs t):=by
 have hn1:1≤n:=by by_cases e:k=7;exact h1 e;have:=h2 e;omega
 have ha:=hr.2.2 0 zO
 have hA:=ha.at h
 have hal:=hA.1.1
 have hac:=ha.1
 have hcl:=h.cl
 have fin:∀T' r z,Ny m A T' r z→Ny m A T' r z:=fun _ _ _ h=>h
 by_cases k7:k=7
 ·subst k7
  rw[Hp (Un rfl),OK rfl]
  refine HU.put h ?_ ⟨(Hj _ _).trans hal,Gm _ _⟩ ?_ (DI.neg zO) (fun h6=>absurd (show(7:Int)=6 from h6) (by decide)) fin
  ·rw[ha.2];rfl
  ·rw[Xk zO,hA.2]
   show md (T.at (rs.getD 0 0)*1000002)=md (0-T.at (rs.getD 0 0))
   unfold md;omega
 have hb:=hr.2.2 1<|h2 k7
 have hB:=hb.at h
 have hbl:=hB.1.1
 have hbc:=hb.1
 by_cases k3:k=3
 ·subst k3
  rw[Hp (fun h=>h.1 rfl),G6 (by decide)]
  refine HU.put h ?_ ⟨(Gl _ _).trans hal,KK _ _⟩ ?_ (DI.bin (.inl rfl) zO zO) (fun h6=>absurd (show(3:Int)=6 from h6) (by decide)) fin
  ·rw[ha.2,hb.2];rfl
  ·rw[Xi zO,hA.2,hB.2];rfl
 by_cases k4:k=4
 ·subst k4
  rw[Hp (fun h=>h.2.1 rfl),G6 (by decide)]
  refine HU.put h ?_ ⟨(Hk _ _).trans hal,KL _ _⟩ ?_ (DI.bin (.inr<|.inl rfl) zO zO) (fun h6=>absurd (show(4:Int)=6 from h6) (by decide)) fin
  ·rw[ha.2,hb.2];rfl
  ·rw[Xj zO,hA.2,hB.2];rfl
 by_cases k5:k=5
 ·subst k5
  rw[Hp (fun h=>h.2.2.1 rfl),G6 (by decide)]
  refine HU.put h ?_ ⟨(FC _ _).trans hal,Hi _ _⟩ ?_ (DI.bin (.inr<|.inr<|.inl rfl) zO zO) (fun h6=>absurd (show(5:Int)=6 from h6) (by decide)) fin
  ·rw[ha.2,hb.2];rfl
  ·rw[O3 zO,hA.2,hB.2,Int.zero_add];rfl
 have k6:k=6:=by omega
 subst k6
 by_cases hz:T.at (rs.getD 1 0)=0
 ·rw[MQ (by rw[G6 (by decide)];exact⟨by decide,by decide,by decide,by decide,hz⟩)]
  show Nv 6 zs t=.err 6
  show(if (zs.getD 1 []).getD 0 0=0 then _ else _)=_
  rw[if_pos (by rw[hB.2];exact hz)]
 ·rw[Hp (by rw[G6 (by decide)];exact fun h9=>hz h9.2.2.2.2),G6 (by decide)]
  have e:Nv 6 zs t=.ok (Cm (zs.getD 0 []) (zs.getD 1 [])) t:=by
   show(if (zs.getD 1 []).getD 0 0=0 then _ else _)=_
   rw[if_neg (by rw[hB.2];exact hz)]
  rw[e]
  refine HU.put h ?_ ⟨(DC _ _).trans hal,Gk _ _⟩ ?_ (DI.bin (.inr<|.inr<|.inr rfl) zO zO) (fun _=>hz) fin
  ·rw[ha.2,hb.2];rfl
  ·rw[RC zO,hA.2,hB.2];rfl
end
structure Zf (m:Nat)(A:List Sr)(p:List Fn)(F:Nat)(G:Cg)(C:Ca):Prop where
 one:∀f j n T rs zs t,f<F→j<(p.getD f Fn.zero).outs.length→H7 m A T→Mv m A n T rs zs→((n:Nat):Int)=(p.getD f Fn.zero).params→HU m A T (Ny m A) (G.one f j rs t T) (C.one f j zs t)
 all:∀f n T rs zs t,f<F→H7 m A T→Mv m A n T rs zs→((n:Nat):Int)=(p.getD f Fn.zero).params→HU m A T (Mv m A (p.getD f Fn.zero).outs.length) (G.all f rs t T) (C.all f zs t)
section
variable {m:Nat} {A:List Sr} {p:List Fn}
theorem RH {G:Cg}{C:Ca}{env:List Int}{ez:List Sr}{n:Nat}:∀(l:List Ex),(∀e∈l,∀s T,H7 m A T→Mv m A n T env ez→HU m A T (Ny m A) (DV G e env s T) (CZ m C e ez s))→∀s T,H7 m A T→Mv m A n T env ez→HU m A T (Mv m A l.length) (E2 G l env s T) (DY m C l ez s)
 |[],_,s,T,hI,he=>by
  rw[E2,DY]
  exact HU.ret hI (TE.refl T) ⟨rfl,rfl,fun i hi=>absurd hi<|Nat.not_lt_zero i⟩
 |e::l,h,s,T,hI,he=>by
  rw[E2,DY]
  refine (h e (by simp) s T hI he).bind fun x T1 z t h1 h2 h3=>?_
  refine (RH l (fun e' he'=>h e' (by simp[he'])) t T1 h1<|he.mono hI.cl h2).bind fun xs T2 zs u q1 q2 q3=>?_
  refine HU.ret q1 (TE.refl T2) ⟨by simp[q3.1],by simp[q3.2.1],fun i hi=>?_⟩
  cases i with
  |zero=>exact h3.mono h1.cl q2
  |succ i=>exact q3.2.2 i (by simpa using hi)
theorem RJ {F f:Nat}{G:Cg}{C:Ca}(hC:Zf m A p F G C)(hf:f<F)(ho:(((p.getD f Fn.zero).outs.length:Nat):Int)=(p.getD f Fn.zero).params):∀(c:Nat)(rs:List Int)(zs:List Sr)(t:Nat)(T:Tp),H7 m A T→Mv m A (p.getD f Fn.zero).outs.length T rs zs →
  HU m A T (Mv m A (p.getD f Fn.zero).outs.length) (DN (G.all f) c rs t T) (K5 (C.all f) c zs t)
 |0,rs,zs,t,T,hI,h=>HU.ret hI (TE.refl T) h
 |c+1,rs,zs,t,T,hI,h=>(RJ hC hf ho c rs zs t T hI h).bind fun x T1 z u h1 h2 h3=>hC.all f _ T1 x z u hf h1 h3 ho
theorem RK (hm:1≤m){F:Nat}{G:Cg}{C:Ca}(hC:Zf m A p F G C):∀(z:Nat)(e:Ex),e.size≤z→∀(n:Nat)(env:List Int)(ez:List Sr)(s:Nat)(T:Tp),wf p ((F:Nat):Int) e ((n:Nat):Int)=true→H7 m A T→Mv m A n T env ez →
  HU m A T (Ny m A) (DV G e env s T) (CZ m C e ez s)
 |0,e,h,_,_,_,_,_,_,_,_=>by have:=Cd e;omega
 |z+1,e,h,n,env,ez,s,T,hw,hI,he=>by
  obtain⟨w1,w2,w3,w4,w5,w6,w7,w8⟩:=D0 (CJ hw)
  have hz:∀j,j<e.kids.length→(e.kids.getD j Ex.zero).size≤z:=fun j hj=>by
   have:=Cd e;have:=KD hj;omega
  have hk:∀j,j<e.kids.length→¬(e.kind=9∧j=1)→∀t T',H7 m A T'→Mv m A n T' env ez→HU m A T' (Ny m A) (Mn G e.kids j env t T') (Nw m C e.kids j ez t):=fun j hj hn t T' h1 h2=>by
   rw[Dx _ _ _ _ _ _ hj,Ej _ _ _ _ _ _ hj]
   exact RK hm hC z _ (hz j hj) n env ez t T' (BT hw hj hn) h1 h2
  rw[DO,GM]
  by_cases hs3:3000≤s
  ·rw[if_pos hs3,if_pos hs3];exact rfl
  rw[if_neg hs3,if_neg hs3]
  by_cases k1:e.kind=1
  ·rw[if_pos k1,if_pos k1]
   have:=w8 k1
   exact HU.put hI rfl (Fi<|CY.2 this) (TD hm) (.inr<|.inl ⟨rfl,rfl,rfl,this⟩) (fun h6=>absurd (show(2:Int)=6 from h6) (by decide)) fun _ _ _ h=>h
  rw[if_neg k1,if_neg k1]
  by_cases k2:e.kind=2
  ·rw[if_pos k2,if_pos k2]
   exact HU.ret hI (TE.refl T)<|he.2.2 _ (by have:=w2 k2;omega)
  rw[if_neg k2,if_neg k2]
  by_cases k8:e.kind=8
  ·rw[if_pos k8,if_pos k8]
   have h3:=w5 k8
   refine (hk 0 zO zO (s+1) T hI he).bind fun x T1 y t h1 h2 hx=>?_
   have hq:=(hx.at h1).2
   have he1:=he.mono hI.cl h2
   dsimp only
   have fin:∀ {r:Rs RI} {rz:Rs Sr} {b:Bool},HU m A (T1.guard x b) (Ny m A) r rz→HU m A T1 (Ny m A) r rz:=fun {r rz b} hh=>by
    cases r with
    |err c=>exact hh
    |ok v u=>obtain⟨q,a1,a2,a3,a4⟩:=hh;exact⟨q,a1,a2,(TE.guard T1 x b).trans a3,a4⟩
   have hg:=h1.guard hx.1
   by_cases h0:T1.at x=0
   ·rw[if_pos h0,if_pos (by rw[hq];exact h0)]
    rw[A5 h0]at hg
    exact fin<|hk 1 zO zO t _ hg<|he1.mono h1.cl<|TE.guard T1 x true
   ·rw[if_neg h0,if_neg (by rw[hq];exact h0)]
    rw[A6 h0]at hg
    exact fin<|hk 2 zO zO t _ hg<|he1.mono h1.cl<|TE.guard T1 x false
  rw[if_neg k8,if_neg k8]
  by_cases k9:e.kind=9
  ·rw[if_pos k9,if_pos k9]
   have h3:=w3 zO
   refine (hk 0 zO zO (s+1) T hI he).bind fun x T1 y t h1 h2 hx=>?_
   dsimp only
   rw[Dx _ _ _ _ _ _ (show 1<e.kids.length by omega),Ej _ _ _ _ _ _ (show 1<e.kids.length by omega)]
   refine RK hm hC z _ (hz 1 zO) (n+1) (env++[x]) (ez++[y]) t T1 ?_ h1<|(he.mono hI.cl h2).snoc hx
   have:=Hl hw zO k9
   rw[Int.natCast_add];exact this
  rw[if_neg k9,if_neg k9]
  have hc:=RH (G:=G) (C:=C) (env:=env) (ez:=ez) (n:=n) e.kids (fun x hx t T' h1 h2=>by
   obtain⟨j,hj,rfl⟩:=List.mem_iff_getElem.1 hx
   have:=hk j hj zO t T' h1 h2
   rw[Dx _ _ _ _ _ _ hj,Ej _ _ _ _ _ _ hj,H1 hj]at this
   exact this) (s+1) T hI he
  refine hc.bind fun xs T1 zs t h1 h2 hx=>?_
  dsimp only
  by_cases k10:e.kind=10
  ·rw[if_pos k10,if_pos k10]
   have h6:=w6<|.inl k10
   exact hC.one _ _ _ T1 xs zs t zO zO h1 hx (by exact h6.2.2.1)
  rw[if_neg k10,if_neg k10]
  by_cases k11:e.kind=11
  ·rw[if_pos k11,if_pos k11]
   have h6:=w6 (.inr k11);have h7:=w7 k11
   have hl:e.kids.length=(p.getD e.num.toNat Fn.zero).outs.length:=by omega
   rw[hl]at hx
   refine (RJ hC (f:=e.num.toNat) zO h7.1 e.count.toNat xs zs t T1 h1 hx).bind fun ys T2 ws u q1 q2 q3=>?_
   exact HU.ret q1 (TE.refl T2)<|q3.2.2 _ zO
  rw[if_neg k11,if_neg k11]
  exact Xn hm h1 hx zO (fun h7=>by rw[w4 h7];decide) fun h7=>by rw[w3 (by omega)];decide
theorem Ut (hm:1≤m)(hv:FY p):∀F,F≤p.length→Zf m A p F (Gs p F) (Fb p m F)
 |0,_=>⟨fun f j n T rs zs t h=>by omega,fun f n T rs zs t h=>by omega⟩
 |F+1,hF=>by
  have ih:=Ut hm hv F zO
  have hO:∀j n T rs zs t,j<(p.getD F Fn.zero).outs.length→H7 m A T→Mv m A n T rs zs→((n:Nat):Int)=(p.getD F Fn.zero).params→HU m A T (Ny m A) (DV (Gs p F) ((p.getD F Fn.zero).outs.getD j Ex.zero) rs t T) (CZ m (Fb p m F) ((p.getD F Fn.zero).outs.getD j Ex.zero) zs t):=fun j n T rs zs t h2 h1 h3 h4 =>
   RK hm ih _ _ (A7 _) n rs zs t T (by rw[h4];exact hv.wf F zO j h2) h1 h3
  refine⟨fun f j n T rs zs t h1 h2 h0 h3 h4=>?_,fun f n T rs zs t h1 h0 h3 h4=>?_⟩
  ·show HU m A T _ (if f=F then _ else _) (if f=F then _ else _)
   by_cases e:f=F
   ·subst e;rw[if_pos rfl,if_pos rfl];exact hO j n T rs zs t h2 h0 h3 h4
   ·rw[if_neg e,if_neg e];exact ih.one f j n T rs zs t zO h2 h0 h3 h4
  ·show HU m A T _ (if f=F then _ else _) (if f=F then _ else _)
   by_cases e:f=F
   ·subst e;rw[if_pos rfl,if_pos rfl]
    refine RH (n:=n) _ (fun e he s T' h5 h6=>?_) t T h0 h3
    obtain⟨j,hj,rfl⟩:=List.mem_iff_getElem.1 he
    have:=hO j n T' rs zs s hj h5 h6 h4
    rwa [H1 hj]at this
   ·rw[if_neg e,if_neg e];exact ih.all f n T rs zs t zO h0 h3 h4
theorem Uu {a:List Int}(hn:B9 a=true)(hA:ON m a A):∀k,k≤a.length→H7 m A (Gu a k)
 |0,_=>⟨rfl,fun k hk=>absurd hk (Nat.not_lt_zero k),fun k hk=>absurd hk (Nat.not_lt_zero k),fun k hk=>absurd hk (Nat.not_lt_zero k),fun k hk=>absurd hk (Nat.not_lt_zero k)⟩
 |k+1,h=>by
  have e:FO m A (BR m A (Gu a k).code) ⟨1,0,0,((k:Nat):Int)⟩=A.getD k []:=by
   show A.getD (((k:Nat):Int)).toNat []=_
   rw[Int.toNat_natCast]
  refine (Uu hn hA k zO).put ?_ ?_ (.inl ⟨rfl,rfl,rfl,Int.natCast_nonneg k,by rw[hA.len];exact Int.ofNat_lt.2 h⟩) fun h6=>absurd (show(1:Int)=6 from h6) (by decide)
  ·rw[e];exact hA.ser k h
  ·rw[e];exact hA.at0 k h
theorem Xo {a:List Int}(hA:ON m a A):Mv m A a.length (Gu a a.length) (Fd a.length) A:=by
 have hr:∀k,k≤a.length→∀j,j<k→(BR m A (Gu a k).code).getD j []=A.getD j []:=fun k=>by
  induction k with
  |zero=>exact fun _ j hj=>absurd hj (Nat.not_lt_zero j)
  |succ k ih =>
   intro hk j hj
   show(BR m A ((Gu a k).code++[_])).getD j []=_
   rw[Gv]
   by_cases e:j=k
   ·rw[LO (by rw[BS,JB];exact e),e]
    show A.getD (((k:Nat):Int)).toNat []=_
    rw[Int.toNat_natCast]
   ·rw[KF (by rw[BS,JB];omega)];exact ih zO j zO
 refine⟨Do _,hA.len,fun i hi=>?_⟩
 rw[NY hi]
 exact⟨by rw[G7];omega,by rw[Int.toNat_natCast,hr _ (A7 _) i hi]⟩
theorem PB {a:List Int}{f:Nat}(hm:1≤m)(hv:FY p)(hf:f<p.length)(hn:B9 a=true)(hA:ON m a A)(hl:((a.length:Nat):Int)=(p.getD f Fn.zero).params) :
  HU m A (Gu a a.length) (Mv m A (p.getD f Fn.zero).outs.length) (Kc p f a) (ev p m f A):=by
 have h:=(Ut (A:=A) hm hv (f+1) zO).all f a.length (Gu a a.length) (Fd a.length) A 0 zO (Uu hn hA _<|A7 _) (Xo hA) hl
 rw[J4 (show f<f+1 by omega),HR (show f<f+1 by omega)]at h
 exact h
theorem O6 {a:List Int}{f:Nat}(hm:1≤m)(hv:FY p)(hf:f<p.length)(hn:B9 a=true)(hA:ON m a A)(hl:((a.length:Nat):Int)=(p.getD f Fn.zero).params){xs:List Int}{T:Tp}{s:Nat}{c:Int}(h:AM (Kc p f a) (xs,T) s c):MO p m f A=c:=by
 have hT:=PB hm hv hf hn hA hl
 cases hr:Kc p f a with
 |err d =>
  rw[hr]at h hT
  have h9:ev p m f A=.err d:=hT
  rw[J3 h9];exact h.1.symm
 |ok x t =>
  rw[hr]at h hT
  obtain⟨z,h1,_⟩:=hT
  rw[KU h1];exact h.2.2.symm
theorem RM {a:List Int}{f:Nat}(hm:1≤m)(hv:FY p)(hf:f<p.length)(hn:B9 a=true)(hA:ON m a A)(hl:((a.length:Nat):Int)=(p.getD f Fn.zero).params){xs:List Int}{T:Tp}{s:Nat}{c:Int}(h:AM (Kc p f a) (xs,T) s c)(hc:c=0) :
  H7 m A T∧Rb p m f A=xs.map fun r=>(BR m A T.code).getD r.toNat []:=by
 have hT:=PB hm hv hf hn hA hl
 subst hc
 have hr:=h.ok
 rw[hr]at hT
 obtain⟨z,h1,h2,h3,h4⟩:=hT
 refine⟨h2,?_⟩
 rw[KT h1]
 refine Ze (by rw[h4.2.1,zg,h4.1]) fun i hi=>?_
 rw[h4.2.1]at hi
 rw[DB (d:=0) (by rw[h4.1];exact hi)]
 exact (h4.2.2 i hi).2
end
end
section
def Kd (m:Nat)(A:List Sr)(cs:List Az)(k:Nat):Prop:=∀j,j<k→(cs.getD j Az.zero).op=6→((BR m A (cs.take j)).getD (cs.getD j Az.zero).b.toNat []).getD 0 0≠0
section
variable {m k:Nat} {A R:List Sr} {cs:List Az} {c:Az}
theorem C8 (hk:k<cs.length):BR m A (cs.take (k+1))=BR m A (cs.take k)++[FO m A (BR m A (cs.take k)) (cs.getD k Az.zero)]:=by
 rw[Dn Az.zero hk,Gv]
theorem MX (h:c.op=1):FO m A R c=A.getD c.num.toNat []:=if_pos h
theorem L7 (h:c.op=3):FO m A R c=Cz (R.getD c.a.toNat []) (R.getD c.b.toNat []):=by unfold FO;rw[if_neg zO,if_pos h]
theorem L8 (h:c.op=4):FO m A R c=GL (R.getD c.a.toNat []) (R.getD c.b.toNat []):=by unfold FO;rw[if_neg zO,if_neg zO,if_pos h]
theorem L9 (h:c.op=5):FO m A R c=Cs (R.getD c.a.toNat []) (R.getD c.b.toNat []):=by unfold FO;rw[if_neg zO,if_neg zO,if_neg zO,if_pos h]
theorem La (h:c.op=7):FO m A R c=Di (R.getD c.a.toNat []) 1000002:=by unfold FO;rw[if_neg zO,if_neg zO,if_neg zO,if_neg zO,if_pos h]
theorem Lb (h:c.op=6):FO m A R c=Cm (R.getD c.a.toNat []) (R.getD c.b.toNat []):=by unfold FO;rw[if_neg zO,if_neg zO,if_neg zO,if_neg zO,if_neg zO,if_pos h]
theorem Lc (h:c.op≠1∧c.op≠3∧c.op≠4∧c.op≠5∧c.op≠7∧c.op≠6):FO m A R c=HQ m c.num:=by
 unfold FO;rw[if_neg h.1,if_neg h.2.1,if_neg h.2.2.1,if_neg h.2.2.2.1,if_neg h.2.2.2.2.1,if_neg h.2.2.2.2.2]
theorem RO (hA:C7 m A)(hR:C7 m R)(hl:R.length=k)(h:DI A.length k c):D2 m (FO m A R c):=by
 have hg:∀x:Int,0≤x→x<((k:Nat):Int)→D2 m (R.getD x.toNat []):=fun x h0 h1=>hR _ zO
 rcases h with⟨h1,_,_,h2,h3⟩|⟨h1,_,_,h2,h3⟩|⟨h1,h2,h3,_⟩|⟨h1,h2,_⟩
 ·rw[MX h1];exact hA _ zO
 ·rw[Lc (by omega)];exact Fi (CY.2 ⟨h2,h3⟩)
 ·have ha:=hg c.a h2.1 h2.2
  rcases h1 with h1|h1|h1|h1
  ·rw[L7 h1];exact Gq ha
  ·rw[L8 h1];exact KQ ha
  ·rw[L9 h1];exact Hn ha
  ·rw[Lb h1];exact Ho ha
 ·rw[La h1];exact KR (hg c.a h2.1 h2.2)
theorem PC (h:C7 m (BR m A (cs.take k)))(hA:C7 m A)(hf:DI A.length k (cs.getD k Az.zero))(hk:k<cs.length):C7 m (BR m A (cs.take (k+1))):=by
 rw[C8 hk]
 exact C7.snoc h<|RO hA h (by rw[BS,List.length_take];omega) hf
theorem VI:Kd m A cs 0:=fun j hj=>absurd hj (Nat.not_lt_zero j)
theorem TF (h:Kd m A cs k)(hk:(cs.getD k Az.zero).op≠6):Kd m A cs (k+1):=fun j hj h6=>by
 by_cases e:j=k
 ·subst e;exact absurd h6 hk
 ·exact h j zO h6
theorem TG (h:Kd m A cs k)(hk:((BR m A (cs.take k)).getD (cs.getD k Az.zero).b.toNat []).getD 0 0≠0):Kd m A cs (k+1):=fun j hj h6=>by
 by_cases e:j=k
 ·subst e;exact hk
 ·exact h j zO h6
theorem RQ {n:Nat}(hk:k<n)(h6:(cs.getD k Az.zero).op=6)(hz:((BR m A (cs.take k)).getD (cs.getD k Az.zero).b.toNat []).getD 0 0=0):¬Kd m A cs n:=fun h=>h k hk h6 hz
end
theorem H7.nz {m:Nat}{A:List Sr}{T:Tp}(h:H7 m A T):Kd m A T.code T.code.length:=fun j hj h6=>by
 have hf:=h.form j hj
 have hd:=h.dv j hj h6
 unfold DI at hf
 have hb:(T.code.getD j Az.zero).b.toNat<j:=by omega
 have hs:=(h.ser (T.code.getD j Az.zero).b.toNat zO).2
 have e:(BR m A (T.code.take j)).getD (T.code.getD j Az.zero).b.toNat []=(BR m A T.code).getD (T.code.getD j Az.zero).b.toNat []:=by
  have h9:=O5 (m:=m) (A:=A) (T.code.take j) (T.code.drop j) (k:=(T.code.getD j Az.zero).b.toNat) (by rw[List.length_take];omega)
  rw[List.take_append_drop]at h9
  exact h9.symm
 rw[e,hs]
 exact hd
section io
variable {ni k:Nat} {c:Az}
theorem DI.i1 (h:DI ni k c)(h1:c.op=1):(0≤c.num∧c.num<((ni:Nat):Int)):=by unfold DI at h;omega
theorem DI.i2 (h:DI ni k c)(h1:3≤c.op∧c.op≤6):(0≤c.a∧c.a<((k:Nat):Int))∧(0≤c.b∧c.b<((k:Nat):Int)):=by unfold DI at h;omega
theorem DI.i7 (h:DI ni k c)(h1:c.op=7):(0≤c.a∧c.a<((k:Nat):Int)):=by unfold DI at h;omega
theorem DI.i0 (h:DI ni k c):1≤c.op∧c.op≤7:=by unfold DI at h;omega
end io
theorem Hr {S:List Nat}{H:Array Obj}{cs:List Value}{x:Az}(h:RN S Jy H cs x):cs=Xc x∧OG x:=by
 obtain⟨F,h,_⟩:=h
 exact⟨h.1,h.2.1⟩
theorem RR {S:List Nat}{H:Array Obj}{cs:List Value}{x:Gr}(h:RN S Jz H cs x):cs=Xd x∧Bk x.reg:=by
 obtain⟨F,h,_⟩:=h
 exact⟨h.1,h.2.1⟩
def Xp (m:Nat)(A:List Sr)(cs:List Az)(c:Int):Prop:=(c=0∧Kd m A cs cs.length)∨(c=6∧¬Kd m A cs cs.length)
end
section
def EO (B:List Sr)(r:Int)(s:Sr):List Sr:=B.set r.toNat (Cz (B.getD r.toNat []) s)
def LS (cs:List Az)(R:List Sr)(k:Nat)(B:List Sr):List Sr :=
 if (cs.getD k Az.zero).op=3 then EO (EO B (cs.getD k Az.zero).a (B.getD k [])) (cs.getD k Az.zero).b (B.getD k [])
 else if (cs.getD k Az.zero).op=4 then EO (EO B (cs.getD k Az.zero).a (B.getD k [])) (cs.getD k Az.zero).b (Di (B.getD k []) 1000002)
 else if (cs.getD k Az.zero).op=5 then EO (EO B (cs.getD k Az.zero).a (Cs (B.getD k []) (R.getD (cs.getD k Az.zero).b.toNat []))) (cs.getD k Az.zero).b (Cs (B.getD k []) (R.getD (cs.getD k Az.zero).a.toNat []))
 else if (cs.getD k Az.zero).op=6 then EO (EO B (cs.getD k Az.zero).a (Cm (B.getD k []) (R.getD (cs.getD k Az.zero).b.toNat []))) (cs.getD k Az.zero).b (Di (Cs (Cm (B.getD k []) (R.getD (cs.getD k Az.zero).b.toNat [])) (R.getD k [])) 1000002)
 else if (cs.getD k Az.zero).op=7 then EO B (cs.getD k Az.zero).a (Di (B.getD k []) 1000002)else B
def Qv (cs:List Az)(R:List Sr):Nat→List Sr→List Sr
 |0,B=>B
 |k+1,B=>Qv cs R k (LS cs R k B)
def LT (os:List Int)(ws:List Int):Nat→List Sr→List Sr
 |0,B=>B
 |k+1,B=>(LT os ws k B).set (os.getD k 0).toNat (((LT os ws k B).getD (os.getD k 0).toNat []).set 0 (md (((LT os ws k B).getD (os.getD k 0).toNat []).getD 0 0+ws.getD k 0)))
def K8 (R:List Sr):List Sr:=R.map fun s=>List.replicate s.length 0
def I2 (cs:List Az)(R:List Sr)(os ws:List Int):List Sr:=Qv cs R cs.length (LT os ws os.length (K8 R))
section
variable {m:Nat} {cs:List Az} {R B:List Sr} {os ws:List Int}
theorem HV (h:C7 m R):C7 m (K8 R):=fun k hk=>by
 have hk':k<R.length:=by unfold K8 at hk;simpa using hk
 have e:(K8 R).getD k []=List.replicate (R.getD k []).length 0:=by unfold K8;simp[List.getD_eq_getElem?_getD,List.getElem?_map,hk']
 rw[e]
 exact⟨by rw[z5];exact(h k hk').1,KM _⟩
@[simp] theorem Dq:(K8 R).length=R.length:=by simp[K8]
@[simp] theorem DJ (k:Nat):(LT os ws k B).length=B.length:=by
 induction k with
 |zero=>rfl
 |succ k ih=>show((LT os ws k B).set _ _).length=_;rw[z6,ih]
theorem C7.set {k:Nat}{s:Sr}(h:C7 m B)(hs:D2 m s):C7 m (B.set k s):=fun j hj=>by
 rw[z6]at hj
 by_cases e:j=k
 ·rw[e,FB _ _ _ _ _ zO,if_pos rfl];exact hs
 ·rw[show(B.set k s).getD j []=B.getD j []from by rw[List.getD_eq_getElem?_getD,List.getElem?_set_ne (fun h=>e h.symm),← List.getD_eq_getElem?_getD]];exact h j hj
theorem JD {s:Sr}{y:Int}(h:B9 s=true)(hy:0≤y∧y<1000003):B9 (s.set 0 y)=true:=by
 cases s with
 |nil=>rfl
 |cons x s =>
  rw[List.set_cons_zero]
  unfold B9 at h ⊢
  rw[List.all_cons]at h ⊢
  have:=Bool.and_eq_true_iff.1 h
  rw[this.2,Bool.and_true]
  exact CY.2 hy
theorem GO (h:C7 m B)(ho:∀k,k<os.length→(os.getD k 0).toNat<B.length):∀k,k≤os.length→C7 m (LT os ws k B)
 |0,_=>h
 |k+1,hk=>by
  have ih:=GO h ho k zO
  have h9:=ih (os.getD k 0).toNat (by rw[DJ];exact ho k zO)
  exact ih.set ⟨by rw[z6];exact h9.1,JD h9.2<|Cr _⟩
@[simp] theorem BZ {r:Int}{s:Sr}:(EO B r s).length=B.length:=by unfold EO;rw[z6]
theorem Cx {r:Int}{s:Sr}(h:C7 m B)(hr:r.toNat<B.length):C7 m (EO B r s):=h.set (Gq (h _ hr))
theorem MY (k:Nat):(LS cs R k B).length=B.length:=by
 unfold LS
 split
 ·rw[BZ,BZ]
 ·split
  ·rw[BZ,BZ]
  ·split
   ·rw[BZ,BZ]
   ·split
    ·rw[BZ,BZ]
    ·split
     ·rw[BZ]
     ·rfl
theorem E5 {ni k:Nat}(h:C7 m B)(hk:k≤B.length)(hf:DI ni k (cs.getD k Az.zero)):C7 m (LS cs R k B):=by
 have h2:=fun h9=>hf.i2 h9
 have h7:=fun h9=>hf.i7 h9
 unfold LS
 split
 ·have:=h2 (by omega);exact Cx (Cx h zO) (by rw[BZ];omega)
 ·split
  ·have:=h2 (by omega);exact Cx (Cx h zO) (by rw[BZ];omega)
  ·split
   ·have:=h2 (by omega);exact Cx (Cx h zO) (by rw[BZ];omega)
   ·split
    ·have:=h2 (by omega);exact Cx (Cx h zO) (by rw[BZ];omega)
    ·split
     ·have:=h7 (by omega);exact Cx h zO
     ·exact h
theorem PD:∀(n:Nat)(B:List Sr),(Qv cs R n B).length=B.length
 |0,_=>rfl
 |n+1,B=>by show(Qv cs R n _).length=_;rw[PD n,MY]
theorem PE {ni:Nat}(hf:∀k,k<cs.length→DI ni k (cs.getD k Az.zero)):∀(n:Nat)(B:List Sr),n≤cs.length→n≤B.length→C7 m B→C7 m (Qv cs R n B)
 |0,_,_,_,h=>h
 |n+1,B,hn,hb,h=>PE hf n _ zO (by rw[MY];omega) (E5 h zO (hf n zO))
theorem Mw {k:Nat}(h:(cs.getD k Az.zero).op=3):LS cs R k B=EO (EO B (cs.getD k Az.zero).a (B.getD k [])) (cs.getD k Az.zero).b (B.getD k []):=if_pos h
theorem O7 {k:Nat}(h:(cs.getD k Az.zero).op=4):LS cs R k B=EO (EO B (cs.getD k Az.zero).a (B.getD k [])) (cs.getD k Az.zero).b (Di (B.getD k []) 1000002):=by unfold LS;rw[if_neg zO,if_pos h]
theorem Mx {k:Nat}(h:(cs.getD k Az.zero).op=5):LS cs R k B=EO (EO B (cs.getD k Az.zero).a (Cs (B.getD k []) (R.getD (cs.getD k Az.zero).b.toNat []))) (cs.getD k Az.zero).b (Cs (B.getD k []) (R.getD (cs.getD k Az.zero).a.toNat [])):=by unfold LS;rw[if_neg zO,if_neg zO,if_pos h]
theorem O8 {k:Nat}(h:(cs.getD k Az.zero).op=6):LS cs R k B=EO (EO B (cs.getD k Az.zero).a (Cm (B.getD k []) (R.getD (cs.getD k Az.zero).b.toNat []))) (cs.getD k Az.zero).b (Di (Cs (Cm (B.getD k []) (R.getD (cs.getD k Az.zero).b.toNat [])) (R.getD k [])) 1000002):=by
 unfold LS;rw[if_neg zO,if_neg zO,if_neg zO,if_pos h]
theorem O9 {k:Nat}(h:(cs.getD k Az.zero).op=7):LS cs R k B=EO B (cs.getD k Az.zero).a (Di (B.getD k []) 1000002):=by unfold LS;rw[if_neg zO,if_neg zO,if_neg zO,if_neg zO,if_pos h]
theorem PF {k:Nat}(h:(cs.getD k Az.zero).op<3∨7<(cs.getD k Az.zero).op):LS cs R k B=B:=by unfold LS;rw[if_neg zO,if_neg zO,if_neg zO,if_neg zO,if_neg (by omega)]
theorem D4 {n k:Nat}{D B':List Sr}(h:Qv cs R n B=D)(hn:n=k+1)(hi:LS cs R k B=B'):Qv cs R k B'=D:=by
 subst hn
 rw[← hi];exact h
end
theorem MZ {e:TypeId}{H:Array Obj}{v:Value}{us:List Value}{F:List Nat}(h:Bo rV e H v us F)(hl:0<us.length):∃g cap,F=[g]∧v=.slice (some ⟨g,0,none⟩) us.length cap∧∀k,k<us.length→He H (Aw v k 1)=some (us.getD k undef):=by
 rcases h with⟨_,rfl,_⟩|⟨vs,g,cap,cur,F',hels,rfl,hg,r1,r2,r3,r4,rfl⟩
 ·simp at hl
 ·obtain⟨rfl,rfl⟩:=FR hels
  refine⟨g,cap,rfl,rfl,fun k hk=>?_⟩
  have hu:vs[k]? = some (vs.getD k undef):=by simp[List.getD_eq_getElem?_getD,hk]
  rw[GE]
  simp only[He,BN,hg,Nat.zero_add]
  rw[← r4,List.getElem?_take,if_pos hk]at hu
  rw[r4]at hu
  simpa using hu
section
variable {e:TypeId} {B:Nat} {w w':World} {v:Value} {xs:List (List Int)} {us:List Value} {F:List Nat}
theorem GI.getF {S:List Nat}{H:Array Obj}(h:GI e S B H v xs us F){k:Nat}(hk:k<xs.length):∃u,He H (Aw v k 1)=some u∧RN (S++F) (B5 rI) H u (xs.getD k []):=by
 obtain⟨g,cap,_,_,h3⟩:=MZ h.own (by rw[h.len];omega)
 exact⟨_,h3 k (by rw[h.len];exact hk),h.els k hk⟩
theorem GI.ofFr {S:List Nat}{e1:TypeId}{U:Nat}{H:Array Obj}(h:Fr (Bo (Bo rI e1) e) B U H v xs)(hS:∀b∈S,b<B):∃us F,GI e S B H v xs us F∧∀b∈F,b<U:=by
 obtain⟨F,h1,h2,h3⟩:=h
 rcases h1 with⟨rfl,rfl,rfl⟩|⟨us,g,cap,cur,F',hels,rfl,hg,r1,r2,r3,r4,rfl⟩
 ·exact⟨[],[],⟨.inl ⟨rfl,rfl,rfl⟩,zk,(fun b hb=>absurd hb z2),rfl,(fun k hk=>absurd hk (Nat.not_lt_zero k))⟩,(fun b hb=>absurd hb z2)⟩
 ·have hl:=hels.length
  have hn:=List.nodup_cons.1 h2
  refine⟨us,[g],⟨.inr ⟨us,g,cap,cur,[],MG (hels.cells1 o1),by rw[hl],hg,zO,r2,r3,by rw[hl];exact r4,rfl⟩,by simp,fun b hb=>?_,hl,fun k hk=>?_⟩,fun b hb=>?_⟩
  ·have:=h3 b (by rw[A9 hb];exact z0 ..);omega
  ·obtain⟨u,G,hu,q1,q2,q3,_⟩:=hels.at_ (k:=k) [] hk hn.2
   have e1:us.getD k undef=u:=by simp[List.getD_eq_getElem?_getD,hu]
   rw[e1]
   exact⟨G,q1.rd id,fun b hb hm=>by
    have hb':=q3 b hb
    rcases zi.1 hm with hm|hm
    ·have h8:=hS b hm
     have h9:=(h3 b<|z3 _ hb').1
     omega
    ·rw[A9 hm]at hb'
     exact hn.1 hb'⟩
  ·exact (h3 b (by rw[A9 hb];exact z0 ..)).2
end
section ops
variable {P:Program} {ops:Array Oper} {w0:World} {Q:Act→World→Prop} {os:List Oper} {ks:List Nat} {N:Nat} {ρ:Nat→Value} {w:World}
 {d:Nat} {ty:TypeId} {pos:String} {aft:Array Edge} {g:Option (Nat×Bool)} {t e:TypeId} {z:Value} {b:Nat}
theorem ES {S:List Nat}{st:TypeId}{x y:Operand}{v u:Value}{xs:List (List Int)}{r:List Int}{us:List Value}{F:List Nat}{B j:Nat}(hst:(P.info? st).map (·.size)=some 1)(hx:Bp N ρ x=Aw v j 1)(hy:Bp N ρ y=u)
  (hv:GI e S B w.heap v xs us F) (hr:RN (S++F) (B5 rI) w.heap u r) (hj:j<xs.length) (hu:Up ops N ρ ⟨none,.store st x y,ty,pos,aft,g⟩)
  (h:∀w1,AA F w w1→w1.heap.size=w.heap.size→GI e S B w1.heap v (xs.set j r) (us.set j u) F→LW P ops w0 Q os ks (mk N ρ) w1) :
  LW P ops w0 Q (⟨none,.store st x y,ty,pos,aft,g⟩::os) (4::ks) (mk N ρ) w:=by
 obtain⟨g0,cap,hF,hvv,_⟩:=MZ hv.own (by rw[hv.len];omega)
 have hone:=hr.one1 g1
 obtain⟨w1,F',q1,q2,q3,q4,q5,q6⟩:=Pc (P:=P) Bv hst hv.own hv.nd (by rw[hv.len];exact hj) (u:=u) (y:=u) (G:=[]) ⟨rfl,rfl,hone.1,hone.2⟩ zk (fun b hb=>by cases hb)
 obtain⟨g2,cap2,hF2,hvv2,_⟩:=MZ q2 (by rw[z6,hv.len];omega)
 have hg:g2=g0:=by
  rw[hvv]at hvv2
  injection hvv2 with h1 _ _
  injection h1 with h1
  injection h1 with h1 _ _
  exact h1.symm
 have hFF:F'=F:=by rw[hF2,hF,hg]
 subst hFF
 have hc:AA F' w w1:=q5.sub fun x hx=>zj hx
 refine ND rfl hu w1 (DM hx hy q1)<|h w1 hc q6 ⟨q2,hv.nd,hv.low,by rw[z6,z6];exact hv.len,fun k hk=>?_⟩
 rw[z6]at hk
 have hku:k<us.length:=by rw[hv.len];exact hk
 rw[FB _ _ _ _ _ (by rw[hv.len];exact hj),FB _ _ _ _ _ hj]
 have hcS:AA (S++F') w w1:=hc.sub fun b hb=>z1 _ hb
 by_cases ek:k=j
 ·rw[if_pos ek,if_pos ek];exact hr.chg g1 hcS
 ·rw[if_neg ek,if_neg ek]
  exact (hv.els k hk).chg g1 hcS
theorem TH {st e':TypeId}{x y:Operand}{v u:Value}{n:Int}{xs:List (List Int)}{B T r j:Nat}{F:List Nat}(hst:(P.info? st).map (·.size)=some 1)(hx:Bp N ρ x=Aw u j 1)(hy:Bp N ρ y=.int .i64 n)(hn:-9223372036854775808≤n∧n≤9223372036854775807)
  (hv:Ow (Bo (Bo rI e) e') B T w.heap v xs F) (hr:r<xs.length) (hl:He w.heap (Aw v r 1)=some u) (hj:j<(xs.getD r []).length) (hu:Up ops N ρ ⟨none,.store st x y,ty,pos,aft,g⟩)
  (h:∀w1 G,AA G w w1→w1.heap.size=w.heap.size→(∀c∈G,c∈F)→Ow (Bo (Bo rI e) e') B T w1.heap v (xs.set r ((xs.getD r []).set j n)) F→LW P ops w0 Q os ks (mk N ρ) w1) :
  LW P ops w0 Q (⟨none,.store st x y,ty,pos,aft,g⟩::os) (4::ks) (mk N ρ) w:=by
 obtain⟨hown,hnd,hlow,hhigh⟩:=hv
 rcases hown with⟨_,rfl,_⟩|⟨us,g0,cap,cur,F',hels,rfl,hg,r1,r2,r3,r4,rfl⟩
 ·simp at hr
 ·have hc:=List.nodup_cons.1 hnd
  obtain⟨u',G,q0,q1,q2,q3,q4⟩:=hels.at_ (k:=r) [] hr hc.2
  have hlen:=hels.length
  have hu':u'=u:=by
   rw[GE]at hl
   simp only[He,BN,hg,Nat.zero_add]at hl
   rw[← r4,List.getElem?_take,if_pos hr]at q0
   have:some u'=some u:=by rw[← q0,← hl];simp
   exact Option.some.inj this
  subst hu'
  obtain⟨w1,p1,p2,p3,p4⟩:=NF (P:=P) hst q1 q2 hj hn
  have hgG:g0∉G:=fun hm=>hc.1 (q3 g0 hm)
  refine ND rfl hu w1 (DM hx hy p1)<|h w1 G p3 p4 (fun c hm=>z3 _<|q3 c hm) ⟨.inr ⟨us,g0,cap,cur,F',?_,by rw[z6],?_,by rw[z6];exact r1,r2,r3,by rw[z6];exact r4,rfl⟩,hnd,hlow,hhigh⟩
  ·exact q4 (fun hE hC=>o1.stable hE fun b hb=>p3.block b (o1.lt hE b hb) (hC b hb).2) p2
  ·have hlt:g0<w.heap.size:=(Array.getElem?_eq_some_iff.1 hg).1
   rw[p3.block g0 hlt hgG];exact hg
end ops
section
variable {e1 e:TypeId} {B T:Nat} {w:World} {v:Value} {xs:List (List Int)} {F:List Nat}
theorem Ow.rowO (h:Ow (Bo (Bo rI e1) e) B T w.heap v xs F){k:Nat}(hk:k<xs.length):∃u,He w.heap (Aw v k 1)=some u∧Rd (B5 rI) w.heap u (xs.getD k []):=by
 obtain⟨u,G,q0,q1,_⟩:=h.fr.row o1 [] hk
 exact⟨u,q0,G,q1.rd id⟩
theorem Ow.slO {H:Array Obj}(h:Ow (Bo (Bo rI e1) e) B T H v xs F):Fu v xs.length:=(Bo.rd id h.own:B5 (Bo rI e1) H v xs F).isSl
theorem GI.ofOw {S:List Nat}(h:Ow (Bo (Bo rI e1) e) B T w.heap v xs F)(hS:∀b∈S,b<B):∃us F',GI e S B w.heap v xs us F'∧∀b∈F',b∈F:=by
 obtain⟨h1,h2,h3,h4⟩:=h
 rcases h1 with⟨rfl,rfl,rfl⟩|⟨us,g,cap,cur,F',hels,rfl,hg,r1,r2,r3,r4,rfl⟩
 ·exact⟨[],[],⟨.inl ⟨rfl,rfl,rfl⟩,zk,(fun b hb=>absurd hb z2),rfl,(fun k hk=>absurd hk (Nat.not_lt_zero k))⟩,(fun b hb=>absurd hb z2)⟩
 ·have hl:=hels.length
  have hn:=List.nodup_cons.1 h2
  refine⟨us,[g],⟨.inr ⟨us,g,cap,cur,[],MG (hels.cells1 o1),by rw[hl],hg,zO,r2,r3,by rw[hl];exact r4,rfl⟩,by simp,fun b hb=>?_,hl,fun k hk=>?_⟩,fun b hb=>?_⟩
  ·exact h3 b (by rw[A9 hb];exact z0 ..)
  ·obtain⟨u,G,hu,q1,q2,q3,_⟩:=hels.at_ (k:=k) [] hk hn.2
   have e1:us.getD k undef=u:=by simp[List.getD_eq_getElem?_getD,hu]
   rw[e1]
   exact⟨G,q1.rd id,fun b hb hm=>by
    have hb':=q3 b hb
    rcases zi.1 hm with hm|hm
    ·have h8:=hS b hm
     have h9:=h3 b<|z3 _ hb'
     omega
    ·rw[A9 hm]at hb'
     exact hn.1 hb'⟩
  ·rw[A9 hb];exact z0 ..
end
theorem RS {R:List Sr}{k:Nat}(hk:k<R.length):K8 (R.take k)++[List.replicate (R.getD k []).length 0]=K8 (R.take (k+1)):=by
 unfold K8
 rw[Dn [] hk,List.map_append];rfl
end
section
def Qn (cs:List Az)(L:List Sr):Nat→List Sr→List Sr
 |0,B=>B
 |k+1,B=>if (cs.getD k Az.zero).op=1 then EO (Qn cs L k B) (cs.getD k Az.zero).num (L.getD k [])else Qn cs L k B
def TJ (ni m:Nat)(cs:List Az)(L:List Sr):List Sr:=Qn cs L cs.length (List.replicate ni (List.replicate m 0))
section
variable {m ni:Nat} {cs:List Az} {L B:List Sr}
theorem Ld {k:Nat}(h:(cs.getD k Az.zero).op=1):Qn cs L (k+1) B=EO (Qn cs L k B) (cs.getD k Az.zero).num (L.getD k []):=if_pos h
theorem Le {k:Nat}(h:(cs.getD k Az.zero).op≠1):Qn cs L (k+1) B=Qn cs L k B:=if_neg h
@[simp] theorem HW (k:Nat):(Qn cs L k B).length=B.length:=by
 induction k with
 |zero=>rfl
 |succ k ih =>
  by_cases h:(cs.getD k Az.zero).op=1
  ·rw[Ld h,BZ,ih]
  ·rw[Le h,ih]
theorem Jb (m ni:Nat):C7 m (List.replicate ni (List.replicate m 0)):=fun k hk=>by
 rw[z5]at hk
 have e:(List.replicate ni (List.replicate m (0:Int))).getD k []=List.replicate m 0:=by simp[List.getD_eq_getElem?_getD,hk]
 rw[e]
 exact⟨z5,KM _⟩
theorem Kv (hf:∀k,k<cs.length→DI B.length k (cs.getD k Az.zero))(h:C7 m B):∀k,k≤cs.length→C7 m (Qn cs L k B)
 |0,_=>h
 |k+1,hk=>by
  have ih:=Kv hf h k zO
  by_cases h1:(cs.getD k Az.zero).op=1
  ·rw[Ld h1]
   have:=(hf k zO).i1 h1
   exact Cx ih (by rw[HW];omega)
  ·rw[Le h1];exact ih
theorem PG (hf:∀k,k<cs.length→DI ni k (cs.getD k Az.zero)):C7 m (TJ ni m cs L):=Kv (fun k hk=>by rw[z5];exact hf k hk) (Jb m ni) _ (A7 _)
@[simp] theorem PH:(TJ ni m cs L).length=ni:=by unfold TJ;rw[HW,z5]
end
end
section
def EI (A:List Sr):List Int:=A.map fun s=>s.getD 0 0
section
variable {m:Nat} {A:List Sr} {T:Tp} {xs:List Int}
@[simp] theorem EJ:(EI A).length=A.length:=by simp[EI]
theorem Qo (h:C7 m A):ON m (EI A) A:=⟨EJ.symm,fun i hi=>h i (by rw[EJ]at hi;exact hi),fun i hi=>by
 rw[EJ]at hi
 unfold EI
 rw[DB (d:=[]) hi]⟩
theorem H7.regs (h:H7 m A T):C7 m (BR m A T.code):=fun k hk=>(h.ser k (by rw[BS]at hk;exact hk)).1
theorem H7.outs (h:H7 m A T)(hE:FD T xs):∀k,k<xs.length→0≤xs.getD k 0∧xs.getD k 0<((T.code.length:Nat):Int):=fun k hk=>by have:=hE k hk;have:=h.cl;omega
theorem H7.adj (h:H7 m A T)(hE:FD T xs){ws:List Int}:C7 m (I2 T.code (Go.Proofs.YtjnbnlniafmblaaGreat.BR m A T.code) xs ws):=by
 have ho:=h.outs hE
 refine PE (ni:=A.length) h.form _ _ (A7 _) (by rw[DJ,Dq,BS];exact A7 _)<|GO (HV h.regs) (fun q hq=>?_) _<|A7 _
 have:=ho q hq
 rw[Dq,BS];omega
theorem Oa {cs:List Az}{R:List Sr}{os ws:List Int}:(I2 cs R os ws).length=R.length:=by unfold I2;rw[PD,DJ,Dq]
end
end
section
section
variable {m:Nat} {a b c:Sr}
theorem PI (ha:D2 m a){k:Nat}(hk:k<m):(Cz a b).getD k 0=md (a.getD k 0+b.getD k 0):=by unfold Cz;exact Ck _ (by rw[ha.1];exact hk)
theorem PJ (ha:D2 m a){y:Int}{k:Nat}(hk:k<m):(Di a y).getD k 0=md (a.getD k 0*y):=by unfold Di;exact Ck _ (by rw[ha.1];exact hk)
end
end
section
structure HH (m m':Nat)(B B':List Sr):Prop where
 s:C7 m B
 s':C7 m' B'
 l:B.length=B'.length
 h:∀k,(B.getD k []).getD 0 0=(B'.getD k []).getD 0 0
section
variable {m m' ni k i:Nat} {B B' R R':List Sr} {s s':Sr} {cs:List Az} {r:Int} {os ws:List Int}
theorem PK (l:List Sr)(i:Nat)(x:Sr)(j:Nat):(l.set i x).getD j []=if j=i∧i<l.length then x else l.getD j []:=by
 by_cases h:i<l.length
 ·rw[FB _ _ _ _ _ h]
  by_cases e:j=i
  ·rw[if_pos e,if_pos ⟨e,h⟩]
  ·rw[if_neg e,if_neg fun h=>e h.1]
 ·rw[List.set_eq_of_length_le zO,if_neg fun h9=>h h9.2]
theorem HH.set (h:HH m m' B B')(hs:D2 m s)(hs':D2 m' s')(e:s.getD 0 0=s'.getD 0 0):HH m m' (B.set i s) (B'.set i s'):=by
 refine⟨h.s.set hs,h.s'.set hs',by rw[z6,z6,h.l],fun k=>?_⟩
 rw[PK,PK,h.l]
 split
 ·exact e
 ·exact h.h k
theorem HH.adP (hm:1≤m)(hm':1≤m')(h:HH m m' B B')(hr:r.toNat<B.length)(e:s.getD 0 0=s'.getD 0 0):HH m m' (EO B r s) (Go.Proofs.YtjnbnlniafmblaaGreat.EO B' r s'):=by
 have h1:=h.s r.toNat hr
 have h2:=h.s' r.toNat (by rw[← h.l];exact hr)
 refine h.set (Gq h1) (Gq h2) ?_
 rw[PI h1 zO,PI h2 zO,h.h,e]
theorem HH.adI (hm:1≤m)(hm':1≤m')(h:HH m m' B B')(hR:HH m m' R R')(hk:k<B.length)(hf:DI ni k (cs.getD k Az.zero)):HH m m' (LS cs R k B) (Go.Proofs.YtjnbnlniafmblaaGreat.LS cs R' k B'):=by
 have b2:=fun h=>hf.i2 h
 have b7:=fun h=>hf.i7 h
 have h1:=h.s k hk
 have h2:=h.s' k (by rw[← h.l];exact hk)
 have hp:∀q,(Cs (B.getD k []) (R.getD q [])).getD 0 0=(Cs (B'.getD k []) (R'.getD q [])).getD 0 0:=fun q=>by
  rw[O3 (by rw[h1.1];omega),O3 (by rw[h2.1];omega),h.h,hR.h]
 have hq:∀q,(Cm (B.getD k []) (R.getD q [])).getD 0 0=(Cm (B'.getD k []) (R'.getD q [])).getD 0 0:=fun q=>by
  rw[RC (by rw[h1.1];omega),RC (by rw[h2.1];omega),h.h,hR.h]
 have hn:∀ {s s':Sr},D2 m s→D2 m' s'→s.getD 0 0=s'.getD 0 0→(Di s 1000002).getD 0 0=(Di s' 1000002).getD 0 0:=fun hs hs' e=>by
  rw[PJ hs zO,PJ hs' zO,e]
 by_cases h3:(cs.getD k Az.zero).op=3
 ·rw[Mw h3,Mw h3]
  have:=b2 zO
  exact (h.adP hm hm' zO<|h.h k).adP hm hm' (by rw[BZ];omega)<|h.h k
 by_cases h4:(cs.getD k Az.zero).op=4
 ·rw[O7 h4,O7 h4]
  have:=b2 zO
  exact (h.adP hm hm' zO<|h.h k).adP hm hm' (by rw[BZ];omega)<|hn h1 h2<|h.h k
 by_cases h5:(cs.getD k Az.zero).op=5
 ·rw[Mx h5,Mx h5]
  have:=b2 zO
  exact (h.adP hm hm' zO<|hp _).adP hm hm' (by rw[BZ];omega)<|hp _
 by_cases h6:(cs.getD k Az.zero).op=6
 ·rw[O8 h6,O8 h6]
  have:=b2 zO
  refine (h.adP hm hm' zO<|hq _).adP hm hm' (by rw[BZ];omega)<|hn (Hn<|Ho h1) (Hn<|Ho h2) ?_
  rw[O3 (by rw[DC,h1.1];omega),O3 (by rw[DC,h2.1];omega),hq,hR.h]
 by_cases h7:(cs.getD k Az.zero).op=7
 ·rw[O9 h7,O9 h7]
  have:=b7 h7
  exact h.adP hm hm' zO<|hn h1 h2<|h.h k
 have:(cs.getD k Az.zero).op<3∨7<(cs.getD k Az.zero).op:=by omega
 rw[PF this,PF this];exact h
theorem HH.adA (hm:1≤m)(hm':1≤m')(hR:HH m m' R R')(hf:∀k,k<cs.length→DI ni k (cs.getD k Az.zero)):∀(n:Nat)(B B':List Sr),n≤cs.length→n≤B.length→HH m m' B B'→HH m m' (Qv cs R n B) (Go.Proofs.YtjnbnlniafmblaaGreat.Qv cs R' n B')
 |0,_,_,_,_,h=>h
 |n+1,B,B',hn,hb,h=>HH.adA hm hm' hR hf n _ _ zO (by rw[MY];omega) (h.adI hm hm' hR zO (hf n zO))
theorem HH.wgt (hm:1≤m)(hm':1≤m')(h:HH m m' B B')(ho:∀k,k<os.length→(os.getD k 0).toNat<B.length):∀k,k≤os.length→HH m m' (LT os ws k B) (Go.Proofs.YtjnbnlniafmblaaGreat.LT os ws k B')
 |0,_=>h
 |k+1,hk=>by
  have ih:=HH.wgt hm hm' h ho k zO
  have h1:=ih.s (os.getD k 0).toNat (by rw[DJ];exact ho k zO)
  have h2:=ih.s' (os.getD k 0).toNat (by rw[DJ,← h.l];exact ho k zO)
  refine ih.set ⟨by rw[z6];exact h1.1,JD h1.2<|Cr _⟩ ⟨by rw[z6];exact h2.1,JD h2.2<|Cr _⟩ ?_
  rw[FB _ _ _ _ _ (by rw[h1.1];omega),FB _ _ _ _ _ (by rw[h2.1];omega),if_pos rfl,if_pos rfl,ih.h]
theorem Uv (k:Nat):((K8 R).getD k []).getD 0 0=0:=by
 by_cases h:k<R.length
 ·rw[show(K8 R).getD k []=List.replicate (R.getD k []).length 0 from by unfold K8;rw[DB (d:=[]) h]];exact RE _ 0
 ·rw[show(K8 R).getD k []=[]from by rw[List.getD_eq_getElem?_getD,List.getElem?_eq_none (by rw[Dq];omega)];rfl];rfl
theorem HH.zrs (h:HH m m' R R'):HH m m' (K8 R) (Go.Proofs.YtjnbnlniafmblaaGreat.K8 R'):=⟨HV h.s,HV h.s',by rw[Dq,Dq,h.l],fun k=>by rw[Uv,Uv]⟩
theorem HH.byN {L L':List Sr}(hm:1≤m)(hm':1≤m')(hL:HH m m' L L')(h:HH m m' B B')(hf:∀k,k<cs.length→DI B.length k (cs.getD k Az.zero)):∀k,k≤cs.length→HH m m' (Qn cs L k B) (Go.Proofs.YtjnbnlniafmblaaGreat.Qn cs L' k B')
 |0,_=>h
 |k+1,hk=>by
  have ih:=HH.byN hm hm' hL h hf k zO
  by_cases h1:(cs.getD k Az.zero).op=1
  ·rw[Ld h1,Ld h1]
   have:=(hf k zO).i1 h1
   exact ih.adP hm hm' (by rw[HW];omega)<|hL.h k
  ·rw[Le h1,Le h1];exact ih
theorem HH.rep (m m' ni:Nat):HH m m' (List.replicate ni (List.replicate m 0)) (List.replicate ni (List.replicate m' 0)):=by
 refine⟨Jb _ _,Jb _ _,by simp,fun k=>?_⟩
 by_cases h:k<ni
 ·rw[show(List.replicate ni (List.replicate m (0:Int))).getD k []=List.replicate m 0 from by simp[List.getD_eq_getElem?_getD,h],show(List.replicate ni (List.replicate m' (0:Int))).getD k []=List.replicate m' 0 from by simp[List.getD_eq_getElem?_getD,h],RE,RE]
 ·rw[show(List.replicate ni (List.replicate m (0:Int))).getD k []=[]from by simp[List.getD_eq_getElem?_getD,h],show(List.replicate ni (List.replicate m' (0:Int))).getD k []=[]from by simp[List.getD_eq_getElem?_getD,h]]
end
section
variable {p:List Fn} {f m r N i j s:Nat} {a:List Int} {A A':List Sr} {xs:List Int} {T:Tp}
structure Ot (p:List Fn)(f:Nat)(a:List Int)(xs:List Int)(T:Tp):Prop where
 v:FY p
 lt:f<p.length
 l:((a.length:Nat):Int)=(p.getD f Fn.zero).params
 n:B9 a=true
 r:∃s,AM (Kc p f a) (xs,T) s 0
theorem Jc (hA:C7 m A)(h:EI A=a):ON m a A:=by rw[← h];exact Qo hA
theorem Ot.tp (h:Ot p f a xs T)(hm:1≤m)(hA:C7 m A)(hf:EI A=a):H7 m A T∧(Rb p m f A=xs.map fun r=>(BR m A T.code).getD r.toNat [])∧MO p m f A=0:=by
 obtain⟨s,hs⟩:=h.r
 have h1:=RM hm h.v h.lt h.n (Jc hA hf) h.l hs rfl
 exact⟨h1.1,h1.2,O6 hm h.v h.lt h.n (Jc hA hf) h.l hs⟩
theorem FF (a:List Int):EI (Cq a)=a:=by
 unfold EI Cq
 rw[List.map_map]
 exact List.map_id'' (fun _=>rfl) a
theorem Ot.en (h:Ot p f a xs T):xs.length=(p.getD f Fn.zero).outs.length∧FD T xs:=by
 obtain⟨s,hs⟩:=h.r
 have hT:=PB (A7 1) h.v h.lt h.n (Jc (D3 h.n)<|FF a) h.l
 rw[hs.ok]at hT
 obtain⟨z,h1,h2,h3,h4⟩:=hT
 exact⟨h4.1,fun k hk=>(h4.2.2 k (by rw[h4.1]at hk;exact hk)).1⟩
theorem PL (a d:List Int):EI (LR a d 2)=a:=by
 refine List.ext_getElem (by simp) fun k h1 h2=>?_
 rw[← H1 (d:=(0:Int)) h1,← H1 (d:=(0:Int)) h2]
 unfold EI
 rw[DB (d:=[]) (by rw[Ja];exact h2),Xl h2]
end
end
def OO (p:List Fn)(f:Nat)(a:List Int):RL:=match Kc p f a with
 |.ok x _=>x
 |.err _=>([],⟨[],[],[]⟩)
theorem TK {p:List Fn}{f:Nat}{a:List Int}{x:RL}{s:Nat}(h:AM (Kc p f a) x s 0):OO p f a=x:=by unfold OO;rw[h.ok]
section
section
variable {p:List Fn} {f k o i m q:Nat} {a d:List Int} {y Y:List Sr} {xs:List Int} {T:Tp} {nx:Nat→List Sr→List Int}
theorem RU (hv:FY p)(hf:f<p.length)(hl:((a.length:Nat):Int)=(p.getD f Fn.zero).params)(hn:B9 a=true)(h0:GB p f a=0):∃xs T,Ot p f a xs T:=by
 cases hr:Kc p f a with
 |ok x s=>exact⟨x.1,x.2,hv,hf,hl,hn,s,by rw[hr];exact AM.mk_ok rfl⟩
 |err c =>
  have hT:=PB (A7 1) hv hf hn (Jc (D3 hn)<|FF a) hl
  rw[hr]at hT
  have h9:ev p 1 f (Cq a)=.err c:=hT
  have h8:GB p f a=c:=J3 h9
  rcases RD hv hf (D3 hn) (by unfold Cq;rw[zg];exact hl)with⟨z,t,h1,_⟩|h1|h1
  ·rw[h1]at h9;cases h9
  ·rw[h1]at h9;cases h9;omega
  ·rw[h1]at h9;cases h9;omega
end
end
section
def RV (m:Nat)(T:Tp)(xs ws:List Int)(A:List Sr):List Sr:=TJ A.length m T.code (I2 T.code (BR m A T.code) xs ws)
section
variable {p:List Fn} {f m m' i:Nat} {a d:List Int} {A A':List Sr} {xs ws:List Int} {T:Tp}
@[simp] theorem HX:(RV m T xs ws A).length=A.length:=PH
theorem RW (hm:1≤m)(hm':1≤m')(h:H7 m A T)(h':H7 m' A' T)(hl:A.length=A'.length)(hE:FD T xs)(ws:List Int):HH m m' (RV m T xs ws A) (RV m' T xs ws A'):=by
 have hR:HH m m' (BR m A T.code) (BR m' A' T.code):=⟨h.regs,h'.regs,by rw[BS,BS],fun k=>by
  by_cases hk:k<T.code.length
  ·rw[(h.ser k hk).2,(h'.ser k hk).2]
  ·rw[show(BR m A T.code).getD k []=[]from by rw[List.getD_eq_getElem?_getD,List.getElem?_eq_none (by rw[BS];omega)];rfl,show(BR m' A' T.code).getD k []=[]from by rw[List.getD_eq_getElem?_getD,List.getElem?_eq_none (by rw[BS];omega)];rfl]⟩
 have hx:=h.outs hE
 unfold RV TJ
 rw[← hl]
 refine HH.byN hm hm' ?_ (HH.rep m m' _) (fun k hk=>by rw[z5];exact h.form k hk) _<|A7 _
 unfold I2
 refine HH.adA hm hm' hR h.form _ _ _ (A7 _) (by rw[DJ,Dq,BS];exact A7 _)<|hR.zrs.wgt hm hm' (fun q hq=>?_) _<|A7 _
 rw[Dq,BS]
 have:=hx q hq
 omega
theorem Ot.bk_ser (h:Ot p f a xs T)(hm:1≤m)(hA:C7 m A)(hf:EI A=a)(ws:List Int):C7 m (RV m T xs ws A):=by
 unfold RV
 exact PG (h.tp hm hA hf).1.form
end
end
section
def RY (p:List Fn)(f:Nat)(s ws:List Int):List Int:=EI (RV 1 (OO p f s).2 (OO p f s).1 ws (Cq s))
def SZ (p:List Fn)(f:Nat)(a:List Int):Nat→List Int→List Int
 |0,ws=>ws
 |n+1,ws=>SZ p f a n (RY p f (Dp p f a n) ws)
structure PM (p:List Fn)(f:Nat)(a:List Int)(n:Nat):Prop where
 v:FY p
 lt:f<p.length
 sq:(((p.getD f Fn.zero).outs.length:Nat):Int)=(p.getD f Fn.zero).params
 l:((a.length:Nat):Int)=(p.getD f Fn.zero).params
 na:B9 a=true
 k:FM p f a n=0
section
variable {p:List Fn} {f n k m:Nat} {a s ws us d xs:List Int} {T:Tp} {A:List Sr}
theorem N0 (h:FM p f a n=0)(hk:k≤n):FM p f a k=0:=by
 by_cases h0:FM p f a k=0
 ·exact h0
 ·rw[J7 h0 hk]at h;exact h
theorem PM.low (h:PM p f a n)(hk:k≤n):PM p f a k:=⟨h.v,h.lt,h.sq,h.l,h.na,N0 h.k hk⟩
theorem Xq (hv:FY p)(hf:f<p.length)(hl:((s.length:Nat):Int)=(p.getD f Fn.zero).params)(hn:B9 s=true):Qt p f s:=Qt.mk' (Zc hv hf (D3 hn) (by unfold Cq;rw[zg];exact hl))
theorem PM.st:∀ {n:Nat},PM p f a n→(Dp p f a n).length=a.length∧B9 (Dp p f a n)=true
 |0,h=>⟨rfl,h.na⟩
 |n+1,h=>by
  have h0:=h.low<|Nat.le_succ n
  have ih:=h0.st
  have hN:=Xq h.v h.lt (s:=Dp p f a n) (by rw[ih.1];exact h.l) ih.2
  have hz:GB p f (Dp p f a n)=0:=by rw[← EH h0.k];exact h.k
  have:=hN.len hz
  have:=h.sq;have:=h.l
  exact⟨by show(Py p f (Dp p f a n)).length=_;omega,hN.num⟩
theorem PM.nx (h:PM p f a n)(hk:k<n):GB p f (Dp p f a k)=0:=by rw[← EH (N0 h.k (Nat.le_of_lt hk))];exact N0 h.k hk
theorem PM.rc (h:PM p f a n)(hk:k<n):∃xs T,Ot p f (Dp p f a k) xs T:=by
 have h1:=(h.low<|Nat.le_of_lt hk).st
 exact RU h.v h.lt (by rw[h1.1];exact h.l) h1.2<|h.nx hk
theorem Ot.bkR (h:Ot p f s xs T)(hm:1≤m)(hA:C7 m A)(hf:EI A=s):EI (RV m T xs ws A)=Go.Proofs.YtjnbnlniafmblaaGreat.RY p f s ws:=by
 obtain⟨q,hq⟩:=h.r
 have hl:A.length=s.length:=by rw[← hf,EJ]
 have hh:=RW hm (A7 1) (h.tp hm hA hf).1 (h.tp (A7 1) (D3 h.n)<|FF s).1 (by rw[EG,hl]) h.en.2 ws
 unfold Go.Proofs.YtjnbnlniafmblaaGreat.RY
 rw[TK hq]
 refine Zd (by rw[EJ,EJ,HX,HX,EG,hl]) fun j hj=>?_
 rw[EJ,HX]at hj
 unfold EI
 rw[DB (d:=[]) (by rw[HX];exact hj),DB (d:=[]) (by rw[HX,EG];omega)]
 exact hh.h j
theorem Kw:(RY p f s ws).length=s.length:=by unfold RY;rw[EJ,HX,EG]
theorem Ot.bkR_num (h:Ot p f s xs T):B9 (Go.Proofs.YtjnbnlniafmblaaGreat.RY p f s ws)=true:=by
 rw[← h.bkR (A7 1) (D3 h.n) (FF s)]
 exact L4 (n:=0)<|h.bk_ser (A7 1) (D3 h.n) (FF s) ws
theorem PN:∀ {n:Nat}{ws:List Int},PM p f a n→ws.length=a.length→(SZ p f a n ws).length=a.length
 |0,_,_,h=>h
 |n+1,ws,hc,h=>PN (n:=n) (ws:=RY p f (Dp p f a n) ws) (hc.low (Nat.le_succ n)) (by rw[Kw];exact(hc.low (Nat.le_succ n)).st.1)
end
end
section
structure Xr (ni:Nat)(T:Tp)(o:List Int):Prop where
 nb:ni≤12
 cl:T.code.length≤3200
 gl:T.grd.length≤3200
 form:∀k,k<T.code.length→DI ni k (T.code.getD k Az.zero)
 gd:∀k,k<T.grd.length→0≤(T.grd.getD k Gr.zero).reg∧(T.grd.getD k Gr.zero).reg<((T.code.length:Nat):Int)
 ol:1≤o.length∧o.length≤12
 out:∀k,k<o.length→0≤o.getD k 0∧o.getD k 0<((T.code.length:Nat):Int)
theorem Xr.pos {ni:Nat}{T:Tp}{o:List Int}(h:Xr ni T o):0<T.code.length:=by
 have:=h.out 0 (by have:=h.ol;omega)
 omega
theorem Xr.any {ni:Nat}{T:Tp}{o:List Int}(h:Xr ni T o):(o.any fun x=>!(decide (0≤x) && decide (x≤((T.code.length:Nat):Int)-1)))=false:=by
 rw[List.any_eq_false]
 intro x hx
 obtain⟨j,hj,rfl⟩:=List.mem_iff_getElem.1 hx
 have h9:=h.out j hj
 rw[List.getD_eq_getElem?_getD,List.getElem?_eq_getElem hj,Option.getD_some]at h9
 rw[A5 h9.1,A5 (show o[j]≤((T.code.length:Nat):Int)-1 by omega)]
 decide
structure Ob (a:List Int)(T:Tp)(o:List Int):Prop where
 k:Xr a.length T o
 n:B9 a=true
 e:FD T o
 i:∀d,B9 d=true→H7 2 (LR a d 2) T
section
variable {p:List Fn} {f:Nat} {a d xs ws:List Int} {T:Tp} {s:Nat}
theorem Ot.tpr (h:Ot p f a xs T)(hB:FT T s)(hs:s≤3000):Ob a T xs:=by
 have hi:∀d,B9 d=true→H7 2 (LR a d 2) T:=fun d hd=>(h.tp (m:=2) (by decide) (MW h.n hd) (PL _ _)).1
 have h0:=hi _<|KM a.length
 obtain⟨b1,b2,b3,b4⟩:=hB
 have hp:=h.v.par f h.lt
 have ho:=h.v.outs f h.lt
 have hl:=h.l
 have he:=h.en
 refine⟨⟨zO,zO,zO,fun k hk=>?_,fun k hk=>?_,by rw[he.1];exact ho,h0.outs he.2⟩,h.n,he.2,hi⟩
 ·have:=h0.form k hk
  rwa [Ja]at this
 ·have:=(h0.gd k hk).1
  omega
theorem TL {k:Nat}(hk:k<a.length):(LR a d 2).getD k []=[a.getD k 0,d.getD k 0]:=by rw[OM hk];rfl
theorem Ob.reg (h:Ob a T xs)(hd:B9 d=true):C7 2 (BR 2 (LR a d 2) T.code):=(h.i d hd).regs
theorem Ob.adj (h:Ob a T xs)(hd:B9 d=true):C7 2 (I2 T.code (BR 2 (LR a d 2) T.code) xs ws):=(h.i d hd).adj h.e
theorem Ob.nz (h:Ob a T xs)(hd:B9 d=true):Kd 2 (LR a d 2) T.code T.code.length:=(h.i d hd).nz
end
section ops
variable {P:Program} {ops:Array Oper} {w0:World} {Q:Act→World→Prop} {os:List Oper} {ks:List Nat} {N:Nat} {ρ:Nat→Value} {w:World}
 {d:Nat} {ty:TypeId} {pos:String} {aft:Array Edge} {g:Option (Nat×Bool)} {t e:TypeId} {z:Value} {b:Nat}
theorem PO {y0 y1:Operand}{u0 u1:Value}{x0 x1:List Int}(ht:P.underlying t=some (.slice e))(hi:TI P e 1 z b)(hz:z.cells=#[z])
  (h0:Bp N ρ y0=u0) (h1:Bp N ρ y1=u1) (r0:RN [] (B5 rI) w.heap u0 x0) (r1:RN [] (B5 rI) w.heap u1 x1)
  (hu:Up ops N ρ ⟨some d,.buildSlice t 2 #[(0,y0),(1,y1)],ty,pos,aft,g⟩)
  (h:∀v w1,AF w w1→w1.heap.size=w.heap.size+1→RN [] (B5 (B5 rI)) w1.heap v [x0,x1]→BV v→LW P ops w0 Q os ks (mk N (CS ρ d v)) w1) :
  LW P ops w0 Q (⟨some d,.buildSlice t 2 #[(0,y0),(1,y1)],ty,pos,aft,g⟩::os) (3::ks) (mk N ρ) w:=by
 have c0:=r0.one1 g1
 have c1:=r1.one1 g1
 refine Us (ys:=[u0,u1]) Bv ht hi hz h0 h1 rfl (MG fun u hu=>?_) hu fun v w1 hE hs hF=>?_
 ·simp only[ze,z2,or_false]at hu
  rcases hu with rfl|rfl
  ·exact c0
  ·exact c1
 ·have hcap:=hF.cap
  obtain⟨F,f1,f2,f3⟩:=hF
  have hB:GI e [] w.heap.size w1.heap v [x0,x1] [u0,u1] F:=by
   refine⟨f1,f2,fun b hb=>(f3 b hb).1,rfl,fun k hk=>?_⟩
   have key:∀ {v0:Value} {x:List Int},RN [] (B5 rI) w.heap v0 x→RN ([]++F) (B5 rI) w1.heap v0 x:=by
    rintro v0 x ⟨K,k1,k2⟩
    have hlt:=g1.lt k1
    exact⟨K,g1.stable k1 fun c hc=>hE.heap (hlt c hc),fun c hc hm=>by have:=hlt c hc;have:=f3 c (by simpa using hm);omega⟩
   match k with
   |0=>exact key r0
   |1=>exact key r1
   |k+2=>simp at hk;omega
  exact h v w1 hE hs (hB.done fun b hb=>absurd hb z2) hcap
end ops
end
section
def EK (p:List Fn)(f:Int)(a ws:List Int)(n:Int):Int:=if I1 p f [a,ws]=0 then(if GA n 0 40=true then 0 else 2)else I1 p f [a,ws]
def Fk (p:List Fn)(f:Int)(a ws:List Int)(n:Int):Int:=if EK p f a ws n=0 then FM p f.toNat a n.toNat else EK p f a ws n
def Ek (p:List Fn)(f:Int)(a ws:List Int)(n:Int):List Int:=if Fk p f a ws n=0 then SZ p f.toNat a n.toNat ws else []
section
variable {p:List Fn} {f n:Int} {a ws:List Int}
theorem Jd:0≤EK p f a ws n∧EK p f a ws n≤2:=by
 have:=Px p f [a,ws]
 unfold EK;split <;> (try split) <;> omega
theorem El (h:I1 p f [a,ws]≠0):EK p f a ws n=I1 p f [a,ws]:=if_neg h
theorem FG (h:I1 p f [a,ws]=0)(h2:GA n 0 40=false):EK p f a ws n=2:=by unfold EK;rw[if_pos h,h2];rfl
theorem OP (h:I1 p f [a,ws]=0)(h2:GA n 0 40=true):EK p f a ws n=0:=by unfold EK;rw[if_pos h,h2];rfl
theorem Dz (h:EK p f a ws n≠0):Fk p f a ws n=EK p f a ws n:=if_neg h
theorem E6 (h:EK p f a ws n=0):Fk p f a ws n=FM p f.toNat a n.toNat:=if_pos h
theorem DA (h:Fk p f a ws n≠0):Ek p f a ws n=[]:=if_neg h
theorem Io (h:Fk p f a ws n=0):Ek p f a ws n=SZ p f.toNat a n.toNat ws:=if_pos h
theorem PP (h:I1 p f [a,ws]=0):H2 p=true∧(0≤f∧f<((p.length:Nat):Int))∧(1≤(p.getD f.toNat Fn.zero).params∧(((p.getD f.toNat Fn.zero).outs.length:Nat):Int)=(p.getD f.toNat Fn.zero).params) ∧
  (((a.length:Nat):Int)=(p.getD f.toNat Fn.zero).params∧B9 a=true)∧(((ws.length:Nat):Int)=(p.getD f.toNat Fn.zero).params∧B9 ws=true):=by
 unfold I1 at h
 split at h
 ·rename_i h3
  split at h
  ·rename_i h4
   split at h
   ·rename_i h5
    rw[Kt]at h4
    simp only[List.all_cons,List.all_nil,Bool.and_true,z7,decide_eq_true_eq]at h5
    exact⟨h3,⟨h4.1.1,zO⟩,⟨h4.2.1,h4.2.2⟩,⟨h5.1.1,h5.1.2⟩,⟨h5.2.1,h5.2.2⟩⟩
   ·omega
  ·omega
 ·omega
theorem N1 (h:EK p f a ws n=0):I1 p f [a,ws]=0∧(0≤n∧n≤40):=by
 by_cases h1:I1 p f [a,ws]=0
 ·cases h2:GA n 0 40 with
  |true=>exact⟨h1,Cw.1 h2⟩
  |false=>rw[FG h1 h2]at h;omega
 ·rw[El h1]at h;exact absurd h h1
end
end
section
theorem Rs.bind_inv {α β:Type}{r:Rs α}{f:α→Nat→Rs β}{y:β}{t:Nat}(h:r.bind f=.ok y t):∃x s,r=.ok x s∧f x s=.ok y t:=by
 cases r with
 |ok x s=>exact⟨x,s,rfl,h⟩
 |err c=>cases h
section
variable {C:Cg} {e:Ex} {env xs ys:List Int} {s s':Nat} {T T':Tp} {r:Int} {l:List Ex}
theorem Hs (h:DV C e env s T=.ok (r,T') s'):s+1≤3000:=by
 rw[DO]at h
 by_cases h0:3000≤s
 ·rw[if_pos h0]at h;cases h
 ·omega
theorem Uw (h:DV C e env s T=.ok (r,T') s')(hk:e.kind=1):r=((T.vals.length:Nat):Int)∧T'=T.put ⟨2,0,0,e.num⟩ e.num∧s'=s+1:=by
 have h0:=Hs h
 rw[DO,if_neg zO,if_pos hk]at h
 simp only[Rs.ok.injEq,Prod.mk.injEq]at h
 exact⟨h.1.1.symm,h.1.2.symm,h.2.symm⟩
theorem Ux (h:DV C e env s T=.ok (r,T') s')(hk:e.kind=2):r=env.getD e.num.toNat 0∧T'=T∧s'=s+1:=by
 have h0:=Hs h
 rw[DO,if_neg zO,if_neg zO,if_pos hk]at h
 simp only[Rs.ok.injEq,Prod.mk.injEq]at h
 exact⟨h.1.1.symm,h.1.2.symm,h.2.symm⟩
theorem Uy (h:DV C e env s T=.ok (r,T') s')(hk:e.kind=8)(hl:e.kids.length=3):∃x T1 s1,DV C (e.kids.getD 0 Ex.zero) env (s+1) T=.ok (x,T1) s1 ∧
  (T1.at x=0→DV C (e.kids.getD 1 Ex.zero) env s1 (T1.guard x true)=.ok (r,T') s')∧(T1.at x≠0→DV C (e.kids.getD 2 Ex.zero) env s1 (T1.guard x false)=.ok (r,T') s'):=by
 have h0:=Hs h
 rw[DO,if_neg zO,if_neg zO,if_neg zO,if_pos hk]at h
 obtain⟨⟨x,T1⟩,s1,h1,h2⟩:=Rs.bind_inv h
 rw[Dx _ _ _ _ _ _ (by omega)]at h1
 refine⟨x,T1,s1,h1,fun hx=>?_,fun hx=>?_⟩
 ·have h2:(if T1.at x=0 then Mn C e.kids 1 env s1 (T1.guard x true)else Mn C e.kids 2 env s1 (T1.guard x false))=.ok (r,T') s':=h2
  rw[if_pos hx,Dx _ _ _ _ _ _ (by omega)]at h2;exact h2
 ·have h2:(if T1.at x=0 then Mn C e.kids 1 env s1 (T1.guard x true)else Mn C e.kids 2 env s1 (T1.guard x false))=.ok (r,T') s':=h2
  rw[if_neg hx,Dx _ _ _ _ _ _ (by omega)]at h2;exact h2
theorem Uz (h:DV C e env s T=.ok (r,T') s')(hk:e.kind=9)(hl:e.kids.length=2):∃x T1 s1,DV C (e.kids.getD 0 Ex.zero) env (s+1) T=.ok (x,T1) s1∧DV C (e.kids.getD 1 Ex.zero) (env++[x]) s1 T1=.ok (r,T') s':=by
 have h0:=Hs h
 rw[DO,if_neg zO,if_neg zO,if_neg zO,if_neg zO,if_pos hk]at h
 obtain⟨⟨x,T1⟩,s1,h1,h2⟩:=Rs.bind_inv h
 rw[Dx _ _ _ _ _ _ (by omega)]at h1
 have h2:Mn C e.kids 1 (env++[x]) s1 T1=.ok (r,T') s':=h2
 rw[Dx _ _ _ _ _ _ (by omega)]at h2
 exact⟨x,T1,s1,h1,h2⟩
theorem PQ (h:DV C e env s T=.ok (r,T') s')(h1:e.kind≠1)(h2:e.kind≠2)(h8:e.kind≠8)(h9:e.kind≠9):∃xs T1 s1,E2 C e.kids env (s+1) T=.ok (xs,T1) s1 ∧
  (e.kind=10→C.one e.num.toNat e.pick.toNat xs s1 T1=.ok (r,T') s')∧(e.kind=11→∃ys,DN (C.all e.num.toNat) e.count.toNat xs s1 T1=.ok (ys,T') s'∧r=ys.getD e.pick.toNat 0)∧(e.kind≠10→e.kind≠11→OJ e.kind xs s1 T1=.ok (r,T') s'):=by
 have h0:=Hs h
 rw[DO,if_neg zO,if_neg h1,if_neg h2,if_neg h8,if_neg h9]at h
 obtain⟨⟨xs,T1⟩,s1,h3,h4⟩:=Rs.bind_inv h
 refine⟨xs,T1,s1,h3,fun hk=>?_,fun hk=>?_,fun ha hb=>?_⟩
 ·simp only[hk]at h4;exact h4
 ·have hk10:e.kind≠10:=by omega
  have h4:(if e.kind=10 then C.one e.num.toNat e.pick.toNat xs s1 T1 else if e.kind=11 then(DN (C.all e.num.toNat) e.count.toNat xs s1 T1).bind fun ys u=>.ok (ys.1.getD e.pick.toNat 0,ys.2) u else OJ e.kind xs s1 T1)=.ok (r,T') s':=h4
  rw[if_neg hk10,if_pos hk]at h4
  obtain⟨⟨ys,T2⟩,s2,h5,h6⟩:=Rs.bind_inv h4
  simp only[Rs.ok.injEq,Prod.mk.injEq]at h6
  obtain⟨⟨q1,rfl⟩,rfl⟩:=h6
  exact⟨ys,h5,q1.symm⟩
 ·have h4:(if e.kind=10 then C.one e.num.toNat e.pick.toNat xs s1 T1 else if e.kind=11 then(DN (C.all e.num.toNat) e.count.toNat xs s1 T1).bind fun ys u=>.ok (ys.1.getD e.pick.toNat 0,ys.2) u else OJ e.kind xs s1 T1)=.ok (r,T') s':=h4
  rw[if_neg ha,if_neg hb]at h4;exact h4
theorem UA (h:E2 C [] env s T=.ok (xs,T') s'):xs=[]∧T'=T∧s'=s:=by
 rw[E2]at h
 simp only[Rs.ok.injEq,Prod.mk.injEq]at h
 exact⟨h.1.1.symm,h.1.2.symm,h.2.symm⟩
theorem UB {a:Ex}(h:E2 C (a::l) env s T=.ok (xs,T') s'):∃x T1 s1 ys,DV C a env s T=.ok (x,T1) s1∧E2 C l env s1 T1=.ok (ys,T') s'∧xs=x::ys:=by
 rw[E2]at h
 obtain⟨⟨x,T1⟩,s1,h1,h2⟩:=Rs.bind_inv h
 obtain⟨⟨ys,T2⟩,s2,h3,h4⟩:=Rs.bind_inv h2
 simp only[Rs.ok.injEq,Prod.mk.injEq]at h4
 obtain⟨⟨q1,rfl⟩,rfl⟩:=h4
 exact⟨x,T1,s1,ys,h1,h3,q1.symm⟩
theorem Je:∀ {l:List Ex}{xs:List Int}{s:Nat}{T:Tp},E2 C l env s T=.ok (xs,T') s'→xs.length=l.length
 |[],_,_,_,h=>by rw[(UA h).1];rfl
 |a::l,_,_,_,h=>by
  obtain⟨x,T1,s1,ys,_,h2,rfl⟩:=UB h
  rw[z9,z9,Je h2]
theorem TM (h:E2 C l env s T=.ok (xs,T') s'):∀ {k:Nat},k<l.length→∃xk Tk sk x T1 s1,E2 C (l.take k) env s T=.ok (xk,Tk) sk∧DV C (l.getD k Ex.zero) env sk Tk=.ok (x,T1) s1∧E2 C (l.take (k+1)) env s T=.ok (xk++[x],T1) s1:=by
 intro k hk
 have key:∀(j:Nat),j≤l.length→∃xk Tk sk,E2 C (l.take j) env s T=.ok (xk,Tk) sk:=by
  intro j hj
  have e:l.take j++l.drop j=l:=List.take_append_drop j l
  have gen:∀(b a:List Ex) {zs:List Int} {U:Tp} {u:Nat},E2 C (a++b) env s T=.ok (zs,U) u→∃xk Tk sk,E2 C a env s T=.ok (xk,Tk) sk:=by
   intro b
   induction b with
   |nil=>intro a zs U u h;rw[List.append_nil]at h;exact⟨_,_,_,h⟩
   |cons c b ih =>
    intro a zs U u h
    obtain⟨zk,Uk,uk,h1⟩:=ih (a++[c]) (by rw[List.append_assoc];exact h)
    rw[KX]at h1
    obtain⟨⟨x,T1⟩,s1,h2,_⟩:=Rs.bind_inv h1
    exact⟨_,_,_,h2⟩
  exact gen (l.drop j) (l.take j) (by rw[e];exact h)
 obtain⟨xk,Tk,sk,h1⟩:=key k zO
 obtain⟨yk,Uk,uk,h2⟩:=key (k+1) zO
 have h3:=h2
 rw[NW hk,h1,Rs.bind_ok]at h3
 obtain⟨⟨x,T1⟩,s1,h4,h5⟩:=Rs.bind_inv h3
 simp only[Rs.ok.injEq,Prod.mk.injEq]at h5
 obtain⟨⟨rfl,rfl⟩,rfl⟩:=h5
 exact⟨xk,Tk,sk,x,T1,s1,h1,h4,h2⟩
theorem Oc {f:List Int→Nat→Tp→Rs RL}:∀ {n:Nat}{ys:List Int}{T':Tp}{s':Nat},DN f n xs s T=.ok (ys,T') s'→∀ {k:Nat},k<n→∃zk Tk sk z T1 s1,DN f k xs s T=.ok (zk,Tk) sk∧f zk sk Tk=.ok (z,T1) s1∧DN f (k+1) xs s T=.ok (z,T1) s1
 |0,_,_,_,_,k,hk=>by omega
 |n+1,ys,T',s',h,k,hk=>by
  have h:(DN f n xs s T).bind (fun x t=>f x.1 t x.2)=.ok (ys,T') s':=h
  obtain⟨⟨zk,Tk⟩,sk,h1,h2⟩:=Rs.bind_inv h
  by_cases e:k=n
  ·subst e
   refine⟨zk,Tk,sk,ys,T',s',h1,h2,?_⟩
   show(DN f k xs s T).bind (fun x t=>f x.1 t x.2)=_
   rw[h1];exact h2
  ·exact Oc h1 zO
theorem N3 {k:Int}(h:OJ k xs s T=.ok (r,T') s'):¬E3 k (T.at (H6 k xs).b)∧r=((T.vals.length:Nat):Int)∧T'=T.put (H6 k xs) (FN k (T.at (H6 k xs).a) (T.at (H6 k xs).b))∧s'=s:=by
 by_cases hz:E3 k (T.at (H6 k xs).b)
 ·rw[MQ hz]at h;cases h
 ·rw[Hp hz]at h
  simp only[Rs.ok.injEq,Prod.mk.injEq]at h
  exact⟨hz,h.1.1.symm,h.1.2.symm,h.2.symm⟩
end
structure RZ (T T':Tp)(s s':Nat):Prop where
 le:s≤s'∧s'≤3000
 bnd:FT T' s'
 vl:T.vals.length≤T'.vals.length∧T'.vals.length+s≤T.vals.length+s'∧T'.grd.length+s≤T.grd.length+s'
theorem RZ.trans {T T1 T2:Tp}{s s1 s2:Nat}(h:RZ T T1 s s1)(k:RZ T1 T2 s1 s2):RZ T T2 s s2:=⟨by have:=h.le;have:=k.le;omega,k.bnd,by have:=h.vl;have:=k.vl;omega⟩
theorem RZ.refl {T:Tp}{s:Nat}(h:FT T s)(hs:s≤3000):RZ T T s s:=⟨zO,h,zO⟩
def X1 (p:List Fn)(F:Nat)(e:Ex):Prop:=∀ {env:List Int} {s s':Nat} {T T':Tp} {r:Int},wf p ((F:Nat):Int) e ((env.length:Nat):Int)=true→FD T env→FT T s→s≤3000→DV (Gs p F) e env s T=.ok (r,T') s'→RZ T T' s s'∧(0≤r∧r<((T'.vals.length:Nat):Int))
theorem GP {p:List Fn}{F:Nat}{env:List Int}:∀(l:List Ex),(∀e∈l,X1 p F e)→(∀e∈l,wf p ((F:Nat):Int) e ((env.length:Nat):Int)=true)→∀ {s s':Nat}{T T':Tp}{xs:List Int},FD T env→FT T s→s≤3000→E2 (Gs p F) l env s T=.ok (xs,T') s'→RZ T T' s s'∧FD T' xs
 |[],_,_,s,s',T,T',xs,hE,hB,hs,h=>by
  obtain⟨rfl,rfl,rfl⟩:=UA h
  exact⟨.refl hB hs,FD.nil _⟩
 |a::l,ha,hw,s,s',T,T',xs,hE,hB,hs,h=>by
  obtain⟨x,T1,s1,ys,h1,h2,rfl⟩:=UB h
  obtain⟨q1,q2⟩:=ha a (z0 ..) (hw a (z0 ..)) hE hB hs h1
  obtain⟨q3,q4⟩:=GP l (fun e he=>ha e (z3 _ he)) (fun e he=>hw e (z3 _ he)) (hE.mono q1.vl.1) q1.bnd q1.le.2 h2
  refine⟨q1.trans q3,fun k hk=>?_⟩
  cases k with
  |zero=>have:=q3.vl;show 0≤x∧x<_;omega
  |succ k=>exact q4 k (by simpa using hk)
theorem Ip {l:List Ex}{Q:Ex→Prop}(h:∀j,j<l.length→Q (l.getD j Ex.zero)):∀e∈l,Q e:=fun e he=>by
 obtain⟨k,hk,rfl⟩:=List.mem_iff_getElem.1 he
 have:=h k hk
 rwa [List.getD_eq_getElem?_getD,List.getElem?_eq_getElem hk,Option.getD_some]at this
section
variable {p:List Fn} {F:Nat}
theorem N4 (hv:FY p){f:Nat}(hf:f<F)(hF:F≤p.length)(IH:∀e,X1 p f e)(hsq:(((p.getD f Fn.zero).outs.length:Nat):Int)=(p.getD f Fn.zero).params):∀(n:Nat){xs ys:List Int}{s s':Nat}{T T':Tp},
  ((xs.length:Nat):Int)=(p.getD f Fn.zero).params→FD T xs→FT T s→s≤3000→DN ((Gs p F).all f) n xs s T=.ok (ys,T') s'→RZ T T' s s'∧FD T' ys∧((ys.length:Nat):Int)=(p.getD f Fn.zero).params
 |0,xs,ys,s,s',T,T',hl,hE,hB,hs,h=>by
  have h:Rs.ok (xs,T) s=.ok (ys,T') s':=h
  simp only[Rs.ok.injEq,Prod.mk.injEq]at h
  obtain⟨⟨rfl,rfl⟩,rfl⟩:=h
  exact⟨.refl hB hs,hE,hl⟩
 |n+1,xs,ys,s,s',T,T',hl,hE,hB,hs,h=>by
  have h:(DN ((Gs p F).all f) n xs s T).bind (fun x t=>(Gs p F).all f x.1 t x.2)=.ok (ys,T') s':=h
  obtain⟨⟨zs,T1⟩,s1,h1,h2⟩:=Rs.bind_inv h
  obtain⟨q1,q2,q3⟩:=N4 hv hf hF IH hsq n hl hE hB hs h1
  have h2:(Gs p F).all f zs s1 T1=.ok (ys,T') s':=h2
  rw[J4 hf]at h2
  have hw:∀e∈(p.getD f Fn.zero).outs,wf p ((f:Nat):Int) e ((zs.length:Nat):Int)=true:=Ip fun j hj=>by rw[q3];exact hv.wf f zO j hj
  obtain⟨q4,q5⟩:=GP _ (fun e _=>IH e) hw q2 q1.bnd q1.le.2 h2
  exact⟨q1.trans q4,q5,by rw[Je h2];exact hsq⟩
theorem TN (hv:FY p)(hF:F≤p.length)(IH:∀F',F'<F→∀e,X1 p F' e):∀(z:Nat)(e:Ex),e.size≤z→X1 p F e:=by
 intro z
 induction z with
 |zero=>intro e he;have:=Cd e;omega
 |succ z ih =>
  intro e he env s s' T T' r hw hE hB hs h
  have h0:=Hs h
  have hB1:=hB.up (s':=s+1) zO
  have hk:∀j,j<e.kids.length→X1 p F (e.kids.getD j Ex.zero):=fun j hj=>ih _ (by
   have h3:=KD (l:=e.kids) (k:=j) hj
   have h4:=Cd e
   omega)
  have hb1:=hB.1;have hb2:=hB.2.1;have hb3:=hB.2.2.1
  by_cases k1:e.kind=1
  ·obtain⟨rfl,rfl,rfl⟩:=Uw h k1
   refine⟨⟨zO,hB.put _ (KN hw k1),?_⟩,by rw[E4];omega⟩
   rw[E4];show _∧_∧T.grd.length+s≤_;omega
  by_cases k2:e.kind=2
  ·obtain⟨rfl,rfl,rfl⟩:=Ux h k2
   have:=KO hw k2
   exact⟨⟨zO,hB1,zO⟩,hE _ zO⟩
  by_cases k8:e.kind=8
  ·have hl:=NU hw k8
   obtain⟨x,T1,s1,h1,h2,h3⟩:=Uy h k8 hl
   obtain⟨q1,q2⟩:=hk 0 zO (BT hw zO zO) hE hB1 h0 h1
   have hq:=q1.vl;have hq2:=q1.le
   have hg:∀b,RZ T (T1.guard x b) s s1:=fun b=>⟨zO,q1.bnd.guard x b zO,by
    show T.vals.length≤T1.vals.length∧T1.vals.length+s≤_∧(T1.grd++[_]).length+s≤_
    rw[z4,zd];omega⟩
   by_cases hx:T1.at x=0
   ·obtain⟨q3,q4⟩:=hk 1 zO (BT hw zO zO) (hE.mono (T':=T1.guard x true) hq.1) (hg true).bnd q1.le.2 (h2 hx)
    exact⟨(hg true).trans q3,q4⟩
   ·obtain⟨q3,q4⟩:=hk 2 zO (BT hw zO zO) (hE.mono (T':=T1.guard x false) hq.1) (hg false).bnd q1.le.2 (h3 hx)
    exact⟨(hg false).trans q3,q4⟩
  by_cases k9:e.kind=9
  ·have hl:=KP hw k9
   obtain⟨x,T1,s1,h1,h2⟩:=Uz h k9 hl
   obtain⟨q1,q2⟩:=hk 0 zO (BT hw zO zO) hE hB1 h0 h1
   have hq:=q1.vl;have hq2:=q1.le
   obtain⟨q3,q4⟩:=hk 1 zO (by rw[z4,zd];exact Hl hw zO k9) ((hE.mono hq.1).snoc q2) q1.bnd q1.le.2 h2
   have hq3:=q3.vl;have hq4:=q3.le
   exact⟨⟨zO,q3.bnd,zO⟩,q4⟩
  obtain⟨xs,T1,s1,h1,h10,h11,hop⟩:=PQ h k1 k2 k8 k9
  obtain⟨q1,q2⟩:=GP e.kids (Ip hk) (Ip fun j hj=>BT hw hj zO) hE hB1 h0 h1
  have hq:=q1.vl;have hq2:=q1.le
  have hxl:=Je h1
  by_cases k10:e.kind=10
  ·have hc:=Fj hw<|.inl k10
   have h2:=h10 k10
   rw[Ks (by omega)]at h2
   obtain⟨q3,q4⟩:=IH e.num.toNat zO _ (by rw[hxl,hc.2.1];exact hv.wf e.num.toNat zO e.pick.toNat zO) q2 q1.bnd q1.le.2 h2
   have hq3:=q3.vl;have hq4:=q3.le
   exact⟨⟨zO,q3.bnd,zO⟩,q4⟩
  by_cases k11:e.kind=11
  ·have hc:=Fj hw<|.inr k11
   have hl:=J2 hw k11
   obtain⟨ys,h2,rfl⟩:=h11 k11
   obtain⟨q3,q4,q5⟩:=N4 hv (f:=e.num.toNat) zO hF (IH _ zO) hl.1 _ (by rw[hxl];exact hc.2.1) q2 q1.bnd q1.le.2 h2
   have hq3:=q3.vl;have hq4:=q3.le
   exact⟨⟨zO,q3.bnd,zO⟩,q4 _ zO⟩
  ·obtain⟨_,rfl,rfl,rfl⟩:=N3 (hop k10 k11)
   have hb:=q1.bnd
   refine⟨⟨zO,FT.dn (hb.put _ (J6 ..)) (by rw[E4];omega) (by show T1.grd.length≤_;omega),?_⟩,by rw[E4];omega⟩
   rw[E4];show _∧_∧T1.grd.length+s≤_;omega
theorem CO (hv:FY p):∀F,F≤p.length→∀e,X1 p F e:=by
 intro F
 induction F using Nat.strongRecOn with
 |_ F ih=>intro hF e;exact TN hv hF (fun F' h' e'=>ih F' h' zO e') _ e (A7 _)
end
def T3 (t1 t2 t3:TypeId)(S:List Nat)(g:Nat)(H:Array Obj)(pp:Value)(ip:Int)(T:Tp):Prop :=
 ∃vc vg vv,BX H g [pp,.int .i64 ip,vc,vg,.slice none 0 0,vv]∧BG t1 t2 t3 S g H vc vg vv T
def Tp.pc (T:Tp)(c:Az):Tp:=⟨T.code++[c],T.grd,T.vals⟩
def Tp.pv (T:Tp)(v:Int):Tp:=⟨T.code,T.grd,T.vals++[v]⟩
section
variable {p:List Fn} {F:Nat} {C:Cg} {env xs ys:List Int} {s s' u:Nat} {T T' U:Tp} {l:List Ex}
theorem N5 {α:Type}{x y:α}{s t:Nat}(h:Rs.ok x s=Rs.ok y t):x=y∧s=t:=by
 simp only[Rs.ok.injEq]at h;exact h
theorem Jf (h:E2 C l env s T=.ok (xs,T') s'){k:Nat}(hk:k<l.length)(hc:E2 C (l.take k) env s T=.ok (ys,U) u):∃x T1 s1,DV C (l.getD k Ex.zero) env u U=.ok (x,T1) s1∧E2 C (l.take (k+1)) env s T=.ok (ys++[x],T1) s1:=by
 obtain⟨xk,Tk,sk,x,T1,s1,h1,h2,h3⟩:=TM h hk
 obtain⟨e1,rfl⟩:=N5 (h1.symm.trans hc)
 simp only[Prod.mk.injEq]at e1
 obtain⟨rfl,rfl⟩:=e1
 exact⟨x,T1,s1,h2,h3⟩
theorem Kx (h:E2 C l env s T=.ok (xs,T') s'){k:Nat}(hk:l.length≤k)(hc:E2 C (l.take k) env s T=.ok (ys,U) u):ys=xs∧U=T'∧u=s':=by
 rw[za hk]at hc
 obtain⟨e1,rfl⟩:=N5 (hc.symm.trans h)
 simp only[Prod.mk.injEq]at e1
 exact⟨e1.1,e1.2,rfl⟩
theorem S0 (hv:FY p)(hF:F≤p.length)(hw:∀k,k<l.length→wf p ((F:Nat):Int) (l.getD k Ex.zero) ((env.length:Nat):Int)=true)(hE:FD T env)(hB:FT T s)(hs:s≤3000){k:Nat}(hc:E2 (Gs p F) (l.take k) env s T=.ok (ys,U) u):RZ T U s u∧FD U ys :=
 GP (l.take k) (fun e _=>CO hv F hF e) (fun e he=>Ip (Q:=fun e=>wf p ((F:Nat):Int) e ((env.length:Nat):Int)=true) hw e (zj he)) hE hB hs hc
end
section
variable {f:List Int→Nat→Tp→Rs RL} {xs ys zs:List Int} {s s' u n k:Nat} {T T' U:Tp}
theorem TO (h:DN f n xs s T=.ok (ys,T') s')(hk:k<n)(hc:DN f k xs s T=.ok (zs,U) u):∃z T1 s1,f zs u U=.ok (z,T1) s1∧DN f (k+1) xs s T=.ok (z,T1) s1:=by
 obtain⟨zk,Tk,sk,z,T1,s1,h1,h2,h3⟩:=Oc h hk
 obtain⟨e1,rfl⟩:=N5 (h1.symm.trans hc)
 simp only[Prod.mk.injEq]at e1
 obtain⟨rfl,rfl⟩:=e1
 exact⟨z,T1,s1,h2,h3⟩
theorem TP (h:DN f n xs s T=.ok (ys,T') s')(hk:k=n)(hc:DN f k xs s T=.ok (zs,U) u):zs=ys∧U=T'∧u=s':=by
 subst hk
 obtain⟨e1,rfl⟩:=N5 (hc.symm.trans h)
 simp only[Prod.mk.injEq]at e1
 exact⟨e1.1,e1.2,rfl⟩
end
section
variable {C:Cg} {e:Ex} {env:List Int} {s s':Nat} {T T':Tp} {r:Int}
theorem Xs (h:DV C e env s T=.ok (r,T') s')(hk:e.kind=7)(hl:e.kids.length=1):∃a T1 s1,DV C (e.kids.getD 0 Ex.zero) env (s+1) T=.ok (a,T1) s1∧r=((T1.vals.length:Nat):Int)∧T'=T1.put ⟨7,a,0,0⟩ (md (-(T1.vals.getD a.toNat 0)))∧s'=s1:=by
 obtain⟨xs,T1,s1,h1,_,_,hop⟩:=PQ h zO zO zO zO
 obtain⟨a,Ta,sa,h2,h3⟩:=Jf h1 (k:=0) zO (KY C e.kids env (s+1) T 0).ok
 obtain⟨e1,rfl,rfl⟩:=Kx h1 zO h3
 obtain⟨_,q1,q2,q3⟩:=N3 (hop zO zO)
 refine⟨a,Ta,sa,h2,q1,?_,q3⟩
 rw[q2,← e1,hk,OK rfl]
 show Ta.put ⟨7,a,0,0⟩ (FN 7 (Ta.at a) (Ta.at 0))=_
 have:FN 7 (Ta.at a) (Ta.at 0)=md (0-Ta.at a):=rfl
 rw[this,Int.zero_sub];rfl
theorem Xt (h:DV C e env s T=.ok (r,T') s')(hk:3≤e.kind∧e.kind≤6)(hl:e.kids.length=2):∃a T1 s1 b T2 s2,DV C (e.kids.getD 0 Ex.zero) env (s+1) T=.ok (a,T1) s1∧DV C (e.kids.getD 1 Ex.zero) env s1 T1=.ok (b,T2) s2 ∧
  r=((T2.vals.length:Nat):Int)∧T'=T2.put ⟨e.kind,a,b,0⟩ (FN e.kind (T2.vals.getD a.toNat 0) (T2.vals.getD b.toNat 0))∧s'=s2:=by
 obtain⟨xs,T1,s1,h1,_,_,hop⟩:=PQ h zO zO zO zO
 obtain⟨a,Ta,sa,h2,h3⟩:=Jf h1 (k:=0) zO (KY C e.kids env (s+1) T 0).ok
 obtain⟨b,Tb,sb,h4,h5⟩:=Jf h1 (k:=1) zO h3
 obtain⟨e1,rfl,rfl⟩:=Kx h1 zO h5
 obtain⟨_,q1,q2,q3⟩:=N3 (hop zO zO)
 refine⟨a,Ta,sa,b,Tb,sb,h2,h4,q1,?_,q3⟩
 rw[q2,← e1,G6 (by omega)];rfl
end
@[reducible] def aB (N:Nat):JR:=⟨fun a b=>∃F,(∀c∈F,N≤c)∧AA F a b,fun w=>⟨[],De,AA.refl [] w⟩,
 fun⟨F,h1,h2⟩ ⟨G,k1,k2⟩=>⟨F++G,fun c hc=>(zi.1 hc).elim (h1 c) (k1 c),(h2.sub (fun b hb=>z8 _ hb)).trans (k2.sub fun b hb=>z1 _ hb)⟩,fun h=>⟨[],De,AA.of_ext [] h⟩⟩
end
section
@[simp] theorem Z1 (x:Gr):(Xd x).length=2:=rfl
@[simp] theorem Z2 (x:Az):(Xc x).length=4:=rfl
structure ZT where
 ip:Int
 T:Tp
 o:List Int
def T4:Bz ZT:=fun H cs t F=>∃vc vg vx A B C,cs=[.int .i64 t.ip,vc,vg,vx]∧Bk t.ip∧Cj 4 Jy H vc t.T.code A∧Cj 2 Jz H vg t.T.grd B∧B5 rI H vx t.o C∧F=A++(B++C)
theorem Dk:C3 4 T4 where
 len:=by rintro H cs x F ⟨vc,vg,vx,A,B,C,rfl,_⟩;rfl
 one:=by
  rintro H cs x F ⟨vc,vg,vx,A,B,C,rfl,h0,h1,h2,h3,rfl⟩ u hu
  simp only[ze,z2,or_false]at hu
  rcases hu with rfl|rfl|rfl|rfl
  ·exact⟨rfl,rfl⟩
  ·exact⟨(Al AW).cells h1,(Al AW).one h1⟩
  ·exact⟨(Al B6).cells h2,(Al B6).one h2⟩
  ·exact⟨g1.cells h3,g1.one h3⟩
 lt:=by
  rintro H cs x F ⟨vc,vg,vx,A,B,C,rfl,h0,h1,h2,h3,rfl⟩ b hb
  rcases zi.1 hb with hb|hb
  ·exact (Al AW).lt h1 b hb
  ·rcases zi.1 hb with hb|hb
   ·exact (Al B6).lt h2 b hb
   ·exact g1.lt h3 b hb
 stable:=by
  rintro H H' cs x F ⟨vc,vg,vx,A,B,C,rfl,h0,h1,h2,h3,rfl⟩ hb
  exact⟨vc,vg,vx,A,B,C,rfl,h0,(Al AW).stable h1 fun b h=>hb b (z8 _ h),(Al B6).stable h2 fun b h=>hb b (z1 _ (z8 _ h)),g1.stable h3 fun b h=>hb b (z1 _ (z1 _ h)),rfl⟩
section rtp
variable {S:List Nat} {H:Array Obj} {cs:List Value} {t:ZT} {ip:Int} {T:Tp} {o:List Int} {vc vg vx:Value}
theorem RTp.of (h:RN S T4 H cs t):∃vc vg vx,cs=[.int .i64 t.ip,vc,vg,vx]∧Bk t.ip∧RN S (Cj 4 Jy) H vc t.T.code∧RN S (Cj 2 Jz) H vg t.T.grd∧RN S (B5 rI) H vx t.o:=by
 obtain⟨F,⟨vc,vg,vx,A,B,C,rfl,h0,h1,h2,h3,rfl⟩,hb⟩:=h
 exact⟨vc,vg,vx,rfl,h0,⟨A,h1,fun b h=>hb b (z8 _ h)⟩,⟨B,h2,fun b h=>hb b (z1 _ (z8 _ h))⟩,⟨C,h3,fun b h=>hb b (z1 _ (z1 _ h))⟩⟩
theorem RTp.mk' (h0:Bk ip)(h1:RN S (Cj 4 Jy) H vc T.code)(h2:RN S (Cj 2 Jz) H vg T.grd)(h3:RN S (B5 rI) H vx o):RN S T4 H [.int .i64 ip,vc,vg,vx] ⟨ip,T,o⟩:=by
 obtain⟨A,a1,a2⟩:=h1
 obtain⟨B,b1,b2⟩:=h2
 obtain⟨C,c1,c2⟩:=h3
 refine⟨A++(B++C),⟨vc,vg,vx,A,B,C,rfl,h0,a1,b1,c1,rfl⟩,fun b hb=>?_⟩
 rcases zi.1 hb with hb|hb
 ·exact a2 b hb
 ·rcases zi.1 hb with hb|hb
  ·exact b2 b hb
  ·exact c2 b hb
end rtp
section
variable {m ni k:Nat} {cs:List Az} {R B L:List Sr} {os ws:List Int} {r:Int} {s:Sr} {w x:Int}
theorem Xu (K:Nat):HQ K 0=List.replicate K 0:=by
 unfold HQ
 cases K with
 |zero=>rfl
 |succ K=>rw[List.replicate_succ,List.set_cons_zero]
theorem VJ {K:Nat}{s:Sr}(h:D2 K s)(x:Int):Cz s (HQ K x)=s.set 0 (md (s.getD 0 0+x)):=by
 unfold Cz
 refine KI (d:=0) (k:=s.length) (fun r hr=>?_) (by simp) (by simp)
 rw[Ck _ hr]
 have hl:=h.1
 have hc:(HQ K x).getD r 0=if r=0 then x else 0:=by
  unfold HQ
  simp only[List.getD_eq_getElem?_getD,List.getElem?_set,List.getElem?_replicate,z5]
  by_cases e:r=0
  ·subst e;have hK:0<K:=by omega
   simp[hK]
  ·rw[if_neg (fun h9=>e h9.symm),if_neg e,if_pos (by omega)];rfl
 rw[hc]
 by_cases e:r=0
 ·subst e
  rw[if_pos rfl]
  simp[List.getD_eq_getElem?_getD,List.getElem?_set,hr]
 ·rw[if_neg e,Int.add_zero]
  have h9:=BY h.2 r
  rw[show md (s.getD r 0)=s.getD r 0 from Pg h9.1 h9.2]
  simp[List.getD_eq_getElem?_getD,List.getElem?_set,fun h9=>e (Eq.symm h9)]
  rw[if_neg (fun h9=>e h9.symm)]
theorem Xv {K:Nat}{oT:List Int}(h:C7 K (LT oT ws k B))(hr:(oT.getD k 0).toNat<B.length):LT oT ws (k+1) B=(LT oT ws k B).set (oT.getD k 0).toNat (Cz ((LT oT ws k B).getD (oT.getD k 0).toNat []) (HQ K (ws.getD k 0))):=by
 rw[VJ (h _ (by rw[DJ];exact hr))];rfl
theorem Xw {K n:Nat}(h:C7 K R)(hn:R.length=n):List.replicate n (HQ K 0)=K8 R:=by
 refine List.ext_getElem (by simp[hn]) fun k h1 h2=>?_
 have hk:k<R.length:=by simpa using h2
 have e:=(h k hk).1
 have e2:R.getD k []=R[k]:=by simp[List.getD_eq_getElem?_getD,hk]
 rw[e2]at e
 have e3:(K8 R)[k]=List.replicate (R[k]).length 0:=by simp[K8]
 rw[e3,e,List.getElem_replicate,Xu]
def Xx (B:List Sr)(r:Int)(s:Sr):List Sr:=B.set r.toNat (GL (B.getD r.toNat []) s)
theorem OQ (h:(B.getD r.toNat []).length≤s.length):Xx B r s=EO B r (Di s 1000002):=by
 unfold Xx EO
 rw[OE h]
theorem S3 (h:(cs.getD k Az.zero).op=4)(hl:((EO B (cs.getD k Az.zero).a (B.getD k [])).getD (cs.getD k Az.zero).b.toNat []).length≤(B.getD k []).length):LS cs R k B=Xx (EO B (cs.getD k Az.zero).a (B.getD k [])) (cs.getD k Az.zero).b (B.getD k []):=by
 rw[O7 h,OQ hl]
theorem S5 {q z:Sr}{B1:List Sr}(h:(cs.getD k Az.zero).op=6)(hq:Cm (B.getD k []) (R.getD (cs.getD k Az.zero).b.toNat [])=q)(hz:Cs q (R.getD k [])=z)(hB:EO B (cs.getD k Az.zero).a q=B1)(hl:(B1.getD (cs.getD k Az.zero).b.toNat []).length≤z.length):LS cs R k B=Xx B1 (cs.getD k Az.zero).b z:=by
 subst hq hz hB
 rw[O8 h,OQ hl]
theorem Sa (h:(cs.getD k Az.zero).op=7)(hl:(B.getD (cs.getD k Az.zero).a.toNat []).length≤(B.getD k []).length):LS cs R k B=Xx B (cs.getD k Az.zero).a (B.getD k []):=by
 rw[O9 h,OQ hl]
def Nz (cs:List Az)(L:List Sr)(B:List Int):Nat→List Int
 |0=>B
 |k+1=>if (cs.getD k Az.zero).op=1 then(Nz cs L B k).set (cs.getD k Az.zero).num.toNat (md ((Nz cs L B k).getD (cs.getD k Az.zero).num.toNat 0+(L.getD k []).getD 0 0))else Nz cs L B k
variable {D:List Int}
theorem PR (h:(cs.getD k Az.zero).op=1):Nz cs L D (k+1)=(Nz cs L D k).set (cs.getD k Az.zero).num.toNat (md ((Nz cs L D k).getD (cs.getD k Az.zero).num.toNat 0+(L.getD k []).getD 0 0)):=if_pos h
theorem PS (h:(cs.getD k Az.zero).op≠1):Nz cs L D (k+1)=Nz cs L D k:=if_neg h
@[simp] theorem TQ (k:Nat):(Nz cs L D k).length=D.length:=by
 induction k with
 |zero=>rfl
 |succ k ih =>
  by_cases h:(cs.getD k Az.zero).op=1
  ·rw[PR h,z6,ih]
  ·rw[PS h,ih]
theorem Sb {A:List Sr}{j:Nat}{s:Sr}:EI (A.set j s)=(EI A).set j (s.getD 0 0):=by unfold EI;rw[List.map_set]
theorem Qp {A:List Sr}{j:Nat}:(EI A).getD j 0=(A.getD j []).getD 0 0:=by
 unfold EI
 by_cases h:j<A.length
 ·rw[DB (d:=[]) h]
 ·simp[List.getD_eq_getElem?_getD,List.getElem?_eq_none (Nat.le_of_not_lt h)]
theorem VK {a b:Sr}(h:0<a.length):(Cz a b).getD 0 0=md (a.getD 0 0+b.getD 0 0):=Ck _ h
theorem Od (hm:1≤m)(hB:C7 m B)(hf:∀k,k<cs.length→DI B.length k (cs.getD k Az.zero)):∀k,k≤cs.length→EI (Qn cs L k B)=Nz cs L (EI B) k
 |0,_=>rfl
 |k+1,hk=>by
  have ih:=Od hm hB hf k zO
  by_cases h:(cs.getD k Az.zero).op=1
  ·have hi:=(hf k zO).i1 h
   have hs:=(Kv (L:=L) hf hB k zO (cs.getD k Az.zero).num.toNat (by rw[HW];omega)).1
   rw[Ld h,PR h]
   unfold EO
   rw[Sb,ih,VK zO,← Qp,ih]
  ·rw[Le h,PS h,ih]
theorem Sc (hf:∀k,k<cs.length→DI ni k (cs.getD k Az.zero)):EI (TJ ni 1 cs L)=Nz cs L (List.replicate ni 0) cs.length:=by
 unfold TJ
 rw[Od (m:=1) (A7 _) (Jb 1 ni) (by rw[z5];exact hf) _ (A7 _)]
 congr 1
 unfold EI
 simp
theorem VL {p:List Fn}{f:Nat}{a ws xs:List Int}{T:Tp}(hq:OO p f a=(xs,T))(hf:∀k,k<T.code.length→DI a.length k (T.code.getD k Az.zero)) :
  RY p f a ws=Nz T.code (I2 T.code (BR 1 (Cq a) T.code) xs ws) (List.replicate a.length 0) T.code.length:=by
 unfold RY RV
 rw[hq,EG]
 exact Sc hf
end
end
section
section
variable {p:List Fn} {f:Nat} {a:List Int}
theorem TR (hv:FY p)(hf:f<p.length)(hl:((a.length:Nat):Int)=(p.getD f Fn.zero).params)(hn:B9 a=true)(h0:GB p f a=0) :
  ∃xs T s,Kc p f a=.ok (xs,T) s∧Ot p f a xs T∧Ob a T xs∧H7 1 (Cq a) T:=by
 obtain⟨xs,T,hR⟩:=RU hv hf hl hn h0
 obtain⟨s,hs⟩:=hR.r
 have hrec:=hs.ok
 have hpr:=hv.par f hf
 have hou:=hv.outs f hf
 have hbd:FT (Gu a a.length) 0:=Rn hn zO
 have hen:FD (Gu a a.length) (Fd a.length):=Ro a a.length
 have hw:∀j,j<(p.getD f Fn.zero).outs.length→wf p ((f:Nat):Int) ((p.getD f Fn.zero).outs.getD j Ex.zero) (((Fd a.length).length:Nat):Int)=true:=by
  intro j hj
  have h9:=hv.wf f hf j hj
  rw[Do,hl];exact h9
 have hq:=GP _ (fun e _=>CO hv _ zO e) (Ip hw) hen hbd zO (show E2 (Gs p f) (p.getD f Fn.zero).outs (Fd a.length) 0 (Gu a a.length)=.ok (xs,T) s from hrec)
 have hle:=hq.1.le
 exact⟨xs,T,s,hrec,hR,hR.tpr hq.1.bnd zO,(hR.tp (A7 1) (D3 hn) (FF a)).1⟩
theorem TT {x:RL}{s:Nat}(h:Kc p f a=.ok x s):OO p f a=x:=by unfold OO;rw[h]
theorem Zg {f n:Int}{ws:List Int}(h:H2 p=false):1=EK p f a ws n:=by
 have:I1 p f [a,ws]=1:=by unfold I1;rw[h];rfl
 rw[El zO,this]
theorem Zh {f n:Int}{ws:List Int}(h:H2 p=true)(h2:MS p f=false):2=EK p f a ws n:=by
 have:I1 p f [a,ws]=2:=by unfold I1;rw[if_pos h,h2];rfl
 rw[El zO,this]
theorem Xy {f:Int}{ws:List Int}{x y:Bool}(h:H2 p=true)(h2:MS p f=true)(hx:(decide (((a.length:Nat):Int)=(p.getD f.toNat Fn.zero).params) && B9 a)=x)(hy:(decide (((ws.length:Nat):Int)=(p.getD f.toNat Fn.zero).params) && B9 ws)=y):I1 p f [a,ws]=if (x && y)=true then 0 else 2:=by
 unfold I1
 rw[if_pos h,if_pos h2,List.all_cons,List.all_cons,List.all_nil,Bool.and_true,hx,hy]
theorem Sd {f n:Int}{ws:List Int}{x y:Bool}(hx:(decide (((a.length:Nat):Int)=(p.getD f.toNat Fn.zero).params) && B9 a)=x)(hy:(decide (((ws.length:Nat):Int)=(p.getD f.toNat Fn.zero).params) && B9 ws)=y)(h:H2 p=true)(h2:MS p f=true)(h3:GA n 0 40=false∨(x && y)=false):2=EK p f a ws n:=by
 have hc:=Xy h h2 hx hy
 cases hxy:(x && y)with
 |false=>rw[hxy]at hc;rw[El (by rw[hc];decide),hc];rfl
 |true =>
  rw[hxy]at hc
  rw[FG (by rw[hc];rfl) (h3.resolve_right (by rw[hxy];simp))]
theorem Zi {f n:Int}{ws:List Int}(h:H2 p=true)(h2:MS p f=true)(h3:GA n 0 40=true)(h4:((a.length:Nat):Int)=(p.getD f.toNat Fn.zero).params)(h5:B9 a=true)(h6:((ws.length:Nat):Int)=(p.getD f.toNat Fn.zero).params)(h7:B9 ws=true):0=EK p f a ws n:=by
 rw[OP (by rw[Xy h h2 (by rw[A5 h4,h5]) (by rw[A5 h6,h7])];rfl) h3]
end
end
theorem mixed:Tryz.prog.follows .mixedOrders=true:=by kernel_rfl
abbrev BJ (k:Nat):Prop:=((Tryz.prog.funcs[k]?).map fun fn=>(fn.name != "runtime.NumGoroutine") && fn.body.isSome) = some true
theorem BK {k:Nat} (h:((Tryz.prog.funcs[k]?).map fun fn=>(fn.name != "runtime.NumGoroutine") && fn.body.isSome) = some true):BJ k:=h
theorem Zj:BJ 12:=BK (by kernel_rfl)
theorem Zk:BJ 14:=BK (by kernel_rfl)
theorem Xz:BJ 24:=BK (by kernel_rfl)
theorem Zl:BJ 25:=BK (by kernel_rfl)
theorem Zm:BJ 31:=BK (by kernel_rfl)
theorem TU:BJ 32:=BK (by kernel_rfl)
theorem Oe:BJ 33:=BK (by kernel_rfl)
theorem Se:BJ 34:=BK (by kernel_rfl)
theorem Zn:BJ 35:=BK (by kernel_rfl)
theorem Zo:BJ 36:=BK (by kernel_rfl)
theorem VM:BJ 37:=BK (by kernel_rfl)
theorem XA:BJ 38:=BK (by kernel_rfl)
theorem Zp:BJ 55:=BK (by kernel_rfl)
theorem XB:BJ 56:=BK (by kernel_rfl)
theorem TV:BJ 57:=BK (by kernel_rfl)
theorem TW:BJ 58:=BK (by kernel_rfl)
theorem VN:BJ 59:=BK (by kernel_rfl)
theorem Zq:BJ 60:=BK (by kernel_rfl)
theorem XC:BJ 61:=BK (by kernel_rfl)
theorem Zr:BJ 62:=BK (by kernel_rfl)
theorem N6:BJ 63:=BK (by kernel_rfl)
theorem TX:BJ 64:=BK (by kernel_rfl)
theorem Zs:BJ 65:=BK (by kernel_rfl)
theorem EL:BJ 66:=BK (by kernel_rfl)
theorem Zt:BJ 76:=BK (by kernel_rfl)
theorem Zu:BJ 77:=BK (by kernel_rfl)
theorem XD:BJ 78:=BK (by kernel_rfl)
theorem TY:BJ 79:=BK (by kernel_rfl)
theorem XE:BJ 80:=BK (by kernel_rfl)
theorem Zv:BJ 81:=BK (by kernel_rfl)
theorem Zw:BJ 82:=BK (by kernel_rfl)
theorem Lf:BJ 83:=BK (by kernel_rfl)
theorem Zx:BJ 84:=BK (by kernel_rfl)
theorem Zy:BJ 87:=BK (by kernel_rfl)
theorem Zz:BJ 88:=BK (by kernel_rfl)
theorem ZA:BJ 89:=BK (by kernel_rfl)
theorem ZB:BJ 90:=BK (by kernel_rfl)
theorem ZC:BJ 91:=BK (by kernel_rfl)
theorem E7:BJ 94:=BK (by kernel_rfl)
theorem UC:BJ 100:=BK (by kernel_rfl)
theorem XF:BJ 105:=BK (by kernel_rfl)
theorem Of:BJ 113:=BK (by kernel_rfl)
theorem UD:BJ 114:=BK (by kernel_rfl)
theorem UE:BJ 115:=BK (by kernel_rfl)
theorem XG:BJ 116:=BK (by kernel_rfl)
theorem Sf:BJ 117:=BK (by kernel_rfl)
theorem Lg:BJ 118:=BK (by kernel_rfl)
theorem XH:BJ 119:=BK (by kernel_rfl)
theorem XI:BJ 120:=BK (by kernel_rfl)
theorem XJ:BJ 121:=BK (by kernel_rfl)
theorem XK:BJ 122:=BK (by kernel_rfl)
theorem Og:BJ 123:=BK (by kernel_rfl)
theorem Lh:BJ 124:=BK (by kernel_rfl)
theorem XL:BJ 125:=BK (by kernel_rfl)
theorem XM:BJ 126:=BK (by kernel_rfl)
theorem XN:BJ 129:=BK (by kernel_rfl)
theorem XO:BJ 130:=BK (by kernel_rfl)
theorem XP:BJ 135:=BK (by kernel_rfl)
theorem XQ:BJ 136:=BK (by kernel_rfl)
theorem XR:BJ 137:=BK (by kernel_rfl)
theorem XS:BJ 138:=BK (by kernel_rfl)
theorem XT:BJ 139:=BK (by kernel_rfl)
theorem XU:BJ 140:=BK (by kernel_rfl)
theorem XV:BJ 142:=BK (by kernel_rfl)
theorem XW:BJ 143:=BK (by kernel_rfl)
theorem XX:BJ 144:=BK (by kernel_rfl)
theorem XY:BJ 145:=BK (by kernel_rfl)
theorem UF:BJ 146:=BK (by kernel_rfl)
theorem XZ:BJ 147:=BK (by kernel_rfl)
theorem Y0:BJ 153:=BK (by kernel_rfl)
theorem Y1:BJ 154:=BK (by kernel_rfl)
theorem Y2:BJ 155:=BK (by kernel_rfl)
theorem Y3:BJ 156:=BK (by kernel_rfl)
theorem Sg:BJ 157:=BK (by kernel_rfl)
theorem Y4:BJ 163:=BK (by kernel_rfl)
theorem Sh:BJ 166:=BK (by kernel_rfl)
theorem Ht:BJ 167:=BK (by kernel_rfl)
theorem Y5:BJ 168:=BK (by kernel_rfl)
theorem Y6:BJ 169:=BK (by kernel_rfl)
theorem Y7:BJ 170:=BK (by kernel_rfl)
theorem Y8:BJ 171:=BK (by kernel_rfl)
theorem UG:BJ 172:=BK (by kernel_rfl)
theorem Oh:BJ 173:=BK (by kernel_rfl)
theorem My:BJ 174:=BK (by kernel_rfl)
theorem Si:BJ 175:=BK (by kernel_rfl)
theorem Sj:BJ 176:=BK (by kernel_rfl)
theorem Jg:BJ 177:=BK (by kernel_rfl)
theorem PT:BJ 180:=BK (by kernel_rfl)
theorem UH:BJ 181:=BK (by kernel_rfl)
theorem Y9:BJ 182:=BK (by kernel_rfl)
theorem Ya:BJ 183:=BK (by kernel_rfl)
theorem Yb:BJ 184:=BK (by kernel_rfl)
theorem Yc:BJ 185:=BK (by kernel_rfl)
theorem UI:BJ 186:=BK (by kernel_rfl)
theorem UJ:BJ 187:=BK (by kernel_rfl)
theorem UK:BJ 188:=BK (by kernel_rfl)
theorem Yd:BJ 189:=BK (by kernel_rfl)
theorem Sk:BJ 190:=BK (by kernel_rfl)
theorem Ye:BJ 191:=BK (by kernel_rfl)
theorem Yf:BJ 192:=BK (by kernel_rfl)
theorem Yg:BJ 193:=BK (by kernel_rfl)
theorem UL:BJ 194:=BK (by kernel_rfl)
theorem PU:BJ 195:=BK (by kernel_rfl)
theorem Sl:BJ 201:=BK (by kernel_rfl)
theorem PW:BJ 202:=BK (by kernel_rfl)
theorem Li:BJ 203:=BK (by kernel_rfl)
theorem Sm:BJ 204:=BK (by kernel_rfl)
theorem Yh:BJ 205:=BK (by kernel_rfl)
theorem UM:BJ 206:=BK (by kernel_rfl)
theorem Ic:BJ 207:=BK (by kernel_rfl)
theorem Oi:BJ 208:=BK (by kernel_rfl)
theorem Oj:BJ 209:=BK (by kernel_rfl)
theorem Sn:BJ 210:=BK (by kernel_rfl)
theorem UN:BJ 211:=BK (by kernel_rfl)
theorem UO:BJ 212:=BK (by kernel_rfl)
theorem So:BJ 213:=BK (by kernel_rfl)
theorem Mz:BJ 214:=BK (by kernel_rfl)
theorem Gw:BJ 226:=BK (by kernel_rfl)
theorem Yi:BJ 227:=BK (by kernel_rfl)
theorem Yj:BJ 228:=BK (by kernel_rfl)
theorem Yk:BJ 229:=BK (by kernel_rfl)
theorem Yl:BJ 230:=BK (by kernel_rfl)
theorem Ym:BJ 231:=BK (by kernel_rfl)
theorem UP:BJ 232:=BK (by kernel_rfl)
theorem PX:BJ 233:=BK (by kernel_rfl)
theorem Lj:BJ 234:=BK (by kernel_rfl)
theorem UQ:BJ 235:=BK (by kernel_rfl)
theorem UR:BJ 236:=BK (by kernel_rfl)
theorem US:BJ 237:=BK (by kernel_rfl)
theorem Yn:BJ 238:=BK (by kernel_rfl)
theorem Yo:BJ 245:=BK (by kernel_rfl)
theorem UT:BJ 246:=BK (by kernel_rfl)
theorem Yp:BJ 247:=BK (by kernel_rfl)
theorem Yq:BJ 248:=BK (by kernel_rfl)
theorem Yr:BJ 249:=BK (by kernel_rfl)
theorem Ys:BJ 250:=BK (by kernel_rfl)
theorem Yt:BJ 251:=BK (by kernel_rfl)
theorem Ok:BJ 252:=BK (by kernel_rfl)
theorem Yu:BJ 253:=BK (by kernel_rfl)
theorem Yw:BJ 254:=BK (by kernel_rfl)
theorem Yx:BJ 256:=BK (by kernel_rfl)
theorem AC:CN Tryz.prog 2:=by unfold CN;kernel_rfl
theorem Sp:CN Tryz.prog 3:=by unfold CN;kernel_rfl
theorem LU:CN Tryz.prog 9:=by unfold CN;kernel_rfl
theorem C5:CN Tryz.prog 24:=by unfold CN;kernel_rfl
theorem AZ:CN Tryz.prog 27:=by unfold CN;kernel_rfl
theorem Ba:CN Tryz.prog 31:=by unfold CN;kernel_rfl
theorem Dv:CN Tryz.prog 36:=by unfold CN;kernel_rfl
theorem Lk:CN Tryz.prog 37:=by unfold CN;kernel_rfl
theorem Ll:CN Tryz.prog 57:=by unfold CN;kernel_rfl
theorem UU:CN Tryz.prog 63:=by unfold CN;kernel_rfl
theorem UV:CN Tryz.prog 96:=by unfold CN;kernel_rfl
theorem N7:CN Tryz.prog 194:=by unfold CN;kernel_rfl
theorem I3:(Tryz.prog.info? 2).map (·.size)=some 1:=by kernel_rfl
theorem ZU:(Tryz.prog.info? 9).map (·.size)=some 1:=by kernel_rfl
theorem ZD:(Tryz.prog.info? 24).map (·.size)=some 1:=by kernel_rfl
theorem H8:(Tryz.prog.info? 27).map (·.size)=some 1:=by kernel_rfl
theorem Yy:(Tryz.prog.info? 31).map (·.size)=some 1:=by kernel_rfl
theorem TZ:(Tryz.prog.info? 36).map (·.size)=some 1:=by kernel_rfl
theorem Yz:(Tryz.prog.info? 37).map (·.size)=some 1:=by kernel_rfl
theorem YB:(Tryz.prog.info? 57).map (·.size)=some 1:=by kernel_rfl
theorem BD:TI Tryz.prog 2 1 (.int .i64 0) 8:=by unfold TI;kernel_rfl
theorem aC:TI Tryz.prog 5 1 (.int .u8 0) 1:=by unfold TI;kernel_rfl
theorem AV:TI Tryz.prog 27 1 (.slice none 0 0) 24:=by unfold TI;kernel_rfl
theorem u2:Tryz.prog.underlying 2=some (.int .i64):=by kernel_rfl
theorem u3:Tryz.prog.underlying 3=some (.int .i64):=by kernel_rfl
theorem u4:Tryz.prog.underlying 4=some (.bool):=by kernel_rfl
theorem u5:Tryz.prog.underlying 5=some (.int .u8):=by kernel_rfl
theorem u9:Tryz.prog.underlying 9=some (.string):=by kernel_rfl
theorem ZV:Tryz.prog.underlying 22=some (.slice 5):=by kernel_rfl
theorem Fq:Tryz.prog.underlying 24=some (.slice 33):=by kernel_rfl
theorem Bl:Tryz.prog.underlying 27=some (.slice 2):=by kernel_rfl
theorem CB:Tryz.prog.underlying 31=some (.slice 127):=by kernel_rfl
theorem IP:Tryz.prog.underlying 36=some (.slice 46):=by kernel_rfl
theorem T5:Tryz.prog.underlying 37=some (.slice 177):=by kernel_rfl
theorem Bs:Tryz.prog.underlying 57=some (.slice 27):=by kernel_rfl
theorem VO:Tryz.prog.underlying 63=some (.slice 196):=by kernel_rfl
theorem OR:Tryz.prog.underlying 194=some (.slice 278):=by kernel_rfl
theorem Df:Dt Tryz.prog 26 1=true:=by kernel_rfl
theorem VP:(Tryz.prog.info? 26).map (·.zero)=some (some (.agg #[.slice none 0 0])):=by kernel_rfl
theorem BA:EZ Tryz.prog 26 0 0=true:=by kernel_rfl
theorem Hu:Dt Tryz.prog 33 3=true:=by kernel_rfl
theorem U0:(Tryz.prog.info? 33).map (·.zero)=some (some (.agg #[.string ByteArray.empty,.int .i64 0,.slice none 0 0])):=by kernel_rfl
theorem C9:TI Tryz.prog 33 3 (.agg #[.string ByteArray.empty,.int .i64 0,.slice none 0 0]) 48:=by unfold TI;kernel_rfl
theorem G8:EZ Tryz.prog 33 0 0=true:=by kernel_rfl
theorem Ct:EZ Tryz.prog 33 1 1=true:=by kernel_rfl
theorem BQ:EZ Tryz.prog 33 2 2=true:=by kernel_rfl
theorem E8:Dt Tryz.prog 39 4=true:=by kernel_rfl
theorem U1:(Tryz.prog.info? 39).map (·.zero)=some (some (.agg #[.int .i64 0,.slice none 0 0,.slice none 0 0,.slice none 0 0])):=by kernel_rfl
theorem Ga:EZ Tryz.prog 39 0 0=true:=by kernel_rfl
theorem Cb:EZ Tryz.prog 39 1 1=true:=by kernel_rfl
theorem GQ:EZ Tryz.prog 39 2 2=true:=by kernel_rfl
theorem Em:EZ Tryz.prog 39 3 3=true:=by kernel_rfl
theorem DE:Dt Tryz.prog 46 4=true:=by kernel_rfl
theorem OS:(Tryz.prog.info? 46).map (·.zero)=some (some (.agg #[.int .i64 0,.int .i64 0,.int .i64 0,.int .i64 0])):=by kernel_rfl
theorem EM:TI Tryz.prog 46 4 (.agg #[.int .i64 0,.int .i64 0,.int .i64 0,.int .i64 0]) 32:=by unfold TI;kernel_rfl
theorem GR:EZ Tryz.prog 46 0 0=true:=by kernel_rfl
theorem Bt:EZ Tryz.prog 46 1 1=true:=by kernel_rfl
theorem Bu:EZ Tryz.prog 46 2 2=true:=by kernel_rfl
theorem Cy:EZ Tryz.prog 46 3 3=true:=by kernel_rfl
theorem Ol:Dt Tryz.prog 65 1=true:=by kernel_rfl
theorem Sq:EZ Tryz.prog 65 0 0=true:=by kernel_rfl
theorem PY:EZ Tryz.prog 104 0 0=true:=by kernel_rfl
theorem FU:EZ Tryz.prog 104 1 1=true:=by kernel_rfl
theorem DK:EZ Tryz.prog 104 2 5=true:=by kernel_rfl
theorem N8:EZ Tryz.prog 104 3 6=true:=by kernel_rfl
theorem Fl:EZ Tryz.prog 104 4 7=true:=by kernel_rfl
theorem Bx:Dt Tryz.prog 127 5=true:=by kernel_rfl
theorem K9:(Tryz.prog.info? 127).map (·.zero)=some (some (.agg #[.int .i64 0,.int .i64 0,.int .i64 0,.int .i64 0,.slice none 0 0])):=by kernel_rfl
theorem Bf:TI Tryz.prog 127 5 (.agg #[.int .i64 0,.int .i64 0,.int .i64 0,.int .i64 0,.slice none 0 0]) 56:=by unfold TI;kernel_rfl
theorem BC:EZ Tryz.prog 127 0 0=true:=by kernel_rfl
theorem Bw:EZ Tryz.prog 127 1 1=true:=by kernel_rfl
theorem Cn:EZ Tryz.prog 127 2 2=true:=by kernel_rfl
theorem CC:EZ Tryz.prog 127 3 3=true:=by kernel_rfl
theorem B8:EZ Tryz.prog 127 4 4=true:=by kernel_rfl
theorem U2:EZ Tryz.prog 166 0 0=true:=by kernel_rfl
theorem N9:EZ Tryz.prog 166 1 1=true:=by kernel_rfl
theorem Ky:EZ Tryz.prog 166 2 2=true:=by kernel_rfl
theorem GS:EZ Tryz.prog 166 3 3=true:=by kernel_rfl
theorem Ss:Dt Tryz.prog 177 2=true:=by kernel_rfl
theorem YC:(Tryz.prog.info? 177).map (·.zero)=some (some (.agg #[.int .i64 0,.bool false])):=by kernel_rfl
theorem JE:TI Tryz.prog 177 2 (.agg #[.int .i64 0,.bool false]) 16:=by unfold TI;kernel_rfl
theorem PZ:EZ Tryz.prog 177 0 0=true:=by kernel_rfl
theorem St:Dt Tryz.prog 196 3=true:=by kernel_rfl
theorem Su:TI Tryz.prog 196 3 (.agg #[.string ByteArray.empty,.int .i64 0,.slice none 0 0]) 48:=by unfold TI;kernel_rfl
theorem Q0:EZ Tryz.prog 196 0 0=true:=by kernel_rfl
theorem U3:EZ Tryz.prog 196 1 1=true:=by kernel_rfl
theorem Q3:EZ Tryz.prog 196 2 2=true:=by kernel_rfl
theorem U4:EZ Tryz.prog 234 0 0=true:=by kernel_rfl
theorem FV:EZ Tryz.prog 234 1 1=true:=by kernel_rfl
theorem HY:EZ Tryz.prog 234 2 5=true:=by kernel_rfl
theorem OT:Dt Tryz.prog 248 2=true:=by kernel_rfl
theorem U5:EZ Tryz.prog 248 0 0=true:=by kernel_rfl
theorem U6:EZ Tryz.prog 248 1 1=true:=by kernel_rfl
theorem Q4:EZ Tryz.prog 259 0 0=true:=by kernel_rfl
theorem U7:EZ Tryz.prog 259 1 1=true:=by kernel_rfl
theorem Kz:EZ Tryz.prog 259 2 2=true:=by kernel_rfl
theorem GT:EZ Tryz.prog 259 3 3=true:=by kernel_rfl
theorem Sv:Dt Tryz.prog 278 5=true:=by kernel_rfl
theorem Sw:TI Tryz.prog 278 5 (.agg #[.int .i64 0,.int .i64 0,.int .i64 0,.int .i64 0,.slice none 0 0]) 56:=by unfold TI;kernel_rfl
theorem U8:EZ Tryz.prog 278 0 0=true:=by kernel_rfl
theorem U9:EZ Tryz.prog 278 1 1=true:=by kernel_rfl
theorem Ua:EZ Tryz.prog 278 2 2=true:=by kernel_rfl
theorem Ub:EZ Tryz.prog 278 3 3=true:=by kernel_rfl
theorem Q5:EZ Tryz.prog 278 4 4=true:=by kernel_rfl
section
set_option maxHeartbeats 4000000
set_option maxRecDepth 100000
attribute [local irreducible] LW
theorem B4 (w:World)(n:Int)(low:Int)(high:Int)(_hn:Bk n)(_hlow:Bk low)(_hhigh:Bk high)  :
  Calls Tryz.prog 66 #[zI n,zI low,zI high] w (fun e w'=>e=.returned (.bool (decide (low≤n) && decide (n≤high)))∧w'=w):=by
 refine As [zI n,zI low,zI high] 15 Tryz.func66 Z Z sM ?_
 have a0:w=w:=rfl
 refine ZO Z<|ZN [0,0,0,0,0,0,0,0,0] Z<|Ad 2 Z ?_
 by_cases a1:low≤n
 ·exact CU true Z Z (A5 a1) Aa<|Ad 3 Z<|Fw (decide (n≤high)) Z Z Z (Ag (e:=10) Z Z Z)<|Ac 2 Z<|A1<|Af [6] Z (.bool<|decide (n≤high)) Z ⟨AL (by simp[*]),a0⟩
 exact CU false Z Z (A6 a1) Aa<|Ac 6 Z<|A1<|Af [6] Z (.bool false) Z ⟨AL (by simp[*]),a0⟩
theorem B3 (w:World)(n:Int)(low:Int)(high:Int)(_hn:Bk n)(_hlow:Bk low)(_hhigh:Bk high)  :
  Calls Tryz.prog 94 #[zI n,zI low,zI high] w (fun e w'=>e=.returned (.bool (decide (low≤n) && decide (n≤high)))∧w'=w):=by
 refine As [zI n,zI low,zI high] 15 Tryz.func94 Z Z sM ?_
 have a0:w=w:=rfl
 refine ZO Z<|ZN [0,0,0,0,0,0,0,0,0] Z<|Ad 2 Z ?_
 by_cases a1:low≤n
 ·exact CU true Z Z (A5 a1) Aa<|Ad 3 Z<|Fw (decide (n≤high)) Z Z Z (Ag (e:=10) Z Z Z)<|Ac 2 Z<|A1<|Af [6] Z (.bool<|decide (n≤high)) Z ⟨AL (by simp[*]),a0⟩
 exact CU false Z Z (A6 a1) Aa<|Ac 6 Z<|A1<|Af [6] Z (.bool false) Z ⟨AL (by simp[*]),a0⟩
theorem CP (w:World)(n:Int)(_hn:Bk n)  :
  Calls Tryz.prog 214 #[zI n] w (fun e w'=>e=.returned (zI (md n))∧w'=w):=by
 refine As [zI n] 7 Tryz.func214 Z Z sM ?_
 have a0:w=w:=rfl
 exact ZO Z<|ZN [0,0,0,0,0] Z<|Ad 1 Z<|EE (n.tmod 1000003) Z Z (by decide) Z Aa<|AQ (wr ((n.tmod 1000003)+((1000003:Nat):Int))) Z Z Z Aa<|EE ((wr ((n.tmod 1000003)+((1000003:Nat):Int))).tmod 1000003) Z Z (by decide) Z Aa<|Ac 1 Z<|A1<|Af [2] Z (zI<|(wr ((n.tmod 1000003)+((1000003:Nat):Int))).tmod 1000003) Z ⟨AS<|Vj n,a0⟩
theorem Hv (w:World)(a:Int)(b:Int)(_ha:Bk a)(_hb:Bk b)  :
  Calls Tryz.prog 176 #[zI a,zI b] w (fun e w'=>e=.returned (zI (md (a+b)))∧w'=w):=by
 refine As [zI a,zI b] 11 Tryz.func176 Z Z sM ?_
 have a0:w=w:=rfl
 exact ZO Z<|ZN [0,0,0,0,0,0,0] Z<|Ad 1 Z<|AB 214 [] [] [zI a] Z Z Mz Aa (zI<|md a) (fun wq=>CP wq _ _ha)<|Ad 1 Z<|AB 214 [] [] [zI b] Z Z Mz Aa (zI<|md b) (fun wq=>CP wq _ _hb)<|AQ (wr ((md a)+(md b))) Z Z Z Aa<|EE ((wr ((md a)+(md b))).tmod 1000003) Z Z (by decide) Z Aa<|Ac 1 Z<|A1<|Af [4] Z (zI<|(wr ((md a)+(md b))).tmod 1000003) Z ⟨AS<|Pi a b,a0⟩
theorem Jh (w:World)(a:Int)(b:Int)(_ha:Bk a)(_hb:Bk b)  :
  Calls Tryz.prog 237 #[zI a,zI b] w (fun e w'=>e=.returned (zI (md (a*b)))∧w'=w):=by
 refine As [zI a,zI b] 11 Tryz.func237 Z Z sM ?_
 have a0:w=w:=rfl
 exact ZO Z<|ZN [0,0,0,0,0,0,0] Z<|Ad 1 Z<|AB 214 [] [] [zI a] Z Z Mz Aa (zI<|md a) (fun wq=>CP wq _ _ha)<|Ad 1 Z<|AB 214 [] [] [zI b] Z Z Mz Aa (zI<|md b) (fun wq=>CP wq _ _hb)<|IW (wr ((md a)*(md b))) Z Z Z Aa<|EE ((wr ((md a)*(md b))).tmod 1000003) Z Z (by decide) Z Aa<|Ac 1 Z<|A1<|Af [4] Z (zI<|(wr ((md a)*(md b))).tmod 1000003) Z ⟨AS<|NM a b,a0⟩
theorem GU (w:World)(a:Int)(b:Int)(_ha:Bk a)(_hb:Bk b)  :
  Calls Tryz.prog 213 #[zI a,zI b] w (fun e w'=>e=.returned (zI (md (a-b)))∧w'=w):=by
 refine As [zI a,zI b] 10 Tryz.func213 Z Z sM ?_
 have a0:w=w:=rfl
 exact ZO Z<|ZN [0,0,0,0,0,0] Z<|Ad 2 Z<|AB 214 [] [] [zI b] Z Z Mz Aa (zI<|md b) (fun wq=>CP wq _ _hb)<|Bi (wr (((1000003:Nat):Int)-(md b))) Z Z Z Aa<|AB 176 [] [] [zI a,zI<|wr (((1000003:Nat):Int)-(md b))] Z Z Sj Aa (zI<|md (a+(wr (((1000003:Nat):Int)-(md b))))) (fun wq=>Hv wq _ _ _ha<|MD _)<|Ac 1 Z<|A1<|Af [4] Z (zI<|md (a+(wr (((1000003:Nat):Int)-(md b))))) Z ⟨AS<|QW a b,a0⟩
theorem VQ (n:Int)(h:n.tmod 1000003<((0:Nat):Int)):wr (n.tmod 1000003+((1000003:Nat):Int))=md n:=by
  have h1:=C6 n;have h2:=Fz n;have h3:=C6 (-n);have h4:=Fz (-n)
  rw[tm n]at h ⊢
  split at h
  · omega
  · rename_i h0
    rw[if_neg h0,FS zO (by omega)]
    have e1:md (-(md (-n))+((1000003:Nat):Int))=md (-(md (-n))):=Te _
    rw[OC,Int.neg_neg,Pg zO (by omega)]at e1
    exact e1
theorem VR (n:Int)(h:¬n.tmod 1000003<((0:Nat):Int)):n.tmod 1000003=md n:=by
  have h1:=C6 n;have h2:=Fz n;have h3:=C6 (-n);have h4:=Fz (-n)
  rw[tm n]at h ⊢
  split
  · rfl
  · rename_i h0
    rw[if_neg h0]at h
    have e0:md (-n)=0:=by omega
    have e1:=OC (-n)
    rw[e0,Int.neg_neg]at e1
    rw[e0,← e1]
    rfl
theorem Sx {p:Prop}(h:p:=by first|exact AS (VQ n (by assumption))|exact AS (VR n (by assumption))):p:=h
theorem Cu (w:World)(n:Int)(_hn:Bk n)  :
  Calls Tryz.prog 124 #[zI n] w (fun e w'=>e=.returned (zI (md n))∧w'=w):=by
 refine As [zI n] 11 Tryz.func124 Z Z sM ?_
 have a0:w=w:=rfl
 refine ZO Z<|ZN [0,0,0] Z<|Ad 1 Z<|EE (n.tmod 1000003) Z Z (by decide) Z Aa<|Ac 1 Z<|A0<|ZN [0,0] Z<|Ad 1 Z ?_
 by_cases a1:n.tmod 1000003<((0:Nat):Int)
 ·exact AE true Z Z (A5 a1) Aa<|Aj<|Ah Z<|Ab _ [0,0,0] Z<|Ad 1 Z<|AQ (wr ((n.tmod 1000003)+((1000003:Nat):Int))) Z Z Z Aa<|Ac 1 Z<|ZN [0,0] Z<|Ac 2 Z<|A1<|Af [2] Z (zI<|wr ((n.tmod 1000003)+((1000003:Nat):Int))) Z ⟨Sx,a0⟩
 exact AE false Z Z (A6 a1) Aa<|Aj<|Ai Z<|A2<|ZN [0,0] Z<|Ac 2 Z<|A1<|Af [2] Z (zI<|n.tmod 1000003) Z ⟨Sx,a0⟩
theorem FW (w:World)(a:Int)(b:Int)(_ha:Bk a)(_hb:Bk b)  :
  Calls Tryz.prog 64 #[zI a,zI b] w (fun e w'=>e=.returned (zI (md (a+b)))∧w'=w):=by
 refine As [zI a,zI b] 11 Tryz.func64 Z Z sM ?_
 have a0:w=w:=rfl
 exact ZO Z<|ZN [0,0,0,0,0,0,0] Z<|Ad 1 Z<|AB 124 [] [] [zI a] Z Z Lh Aa (zI<|md a) (fun wq=>Cu wq _ _ha)<|Ad 1 Z<|AB 124 [] [] [zI b] Z Z Lh Aa (zI<|md b) (fun wq=>Cu wq _ _hb)<|AQ (wr ((md a)+(md b))) Z Z Z Aa<|EE ((wr ((md a)+(md b))).tmod 1000003) Z Z (by decide) Z Aa<|Ac 1 Z<|A1<|Af [4] Z (zI<|(wr ((md a)+(md b))).tmod 1000003) Z ⟨AS<|Pi a b,a0⟩
theorem Co (w:World)(a:Int)(b:Int)(_ha:Bk a)(_hb:Bk b)  :
  Calls Tryz.prog 63 #[zI a,zI b] w (fun e w'=>e=.returned (zI (md (a*b)))∧w'=w):=by
 refine As [zI a,zI b] 11 Tryz.func63 Z Z sM ?_
 have a0:w=w:=rfl
 exact ZO Z<|ZN [0,0,0,0,0,0,0] Z<|Ad 1 Z<|AB 124 [] [] [zI a] Z Z Lh Aa (zI<|md a) (fun wq=>Cu wq _ _ha)<|Ad 1 Z<|AB 124 [] [] [zI b] Z Z Lh Aa (zI<|md b) (fun wq=>Cu wq _ _hb)<|IW (wr ((md a)*(md b))) Z Z Z Aa<|EE ((wr ((md a)*(md b))).tmod 1000003) Z Z (by decide) Z Aa<|Ac 1 Z<|A1<|Af [4] Z (zI<|(wr ((md a)*(md b))).tmod 1000003) Z ⟨AS<|NM a b,a0⟩
theorem LV (w:World)(a:Int)(_ha:Bk a)(hneg:0≤a) :
  Calls Tryz.prog 245 #[zI a] w (fun e w'=>e=.returned (zI (md (-a)))∧w'=w):=by
 refine As [zI a] 6 Tryz.func245 Z Z sM ?_
 have a0:w=w:=rfl
 exact ZO Z<|ZN [0,0,0,0] Z<|Ad 1 Z<|X3 (wr (-a)) Z Z Aa<|AB 124 [] [] [zI<|wr (-a)] Z Z Lh Aa (zI<|md<|wr (-a)) (fun wq=>Cu wq _<|MD _)<|Ac 1 Z<|A1<|Af [2] Z (zI<|md<|wr (-a)) Z ⟨AS (by rw[FS oM oM]),a0⟩
theorem H3 (w:World)(a:Int)(b:Int)(_ha:Bk a)(_hb:Bk b)(hs:-9223372036854775808≤a-b∧a-b≤9223372036854775807) :
  Calls Tryz.prog 236 #[zI a,zI b] w (fun e w'=>e=.returned (zI (md (a-b)))∧w'=w):=by
 refine As [zI a,zI b] 9 Tryz.func236 Z Z sM ?_
 have a0:w=w:=rfl
 exact ZO Z<|ZN [0,0,0,0,0] Z<|Ad 2 Z<|Bi (wr (a-b)) Z Z Z Aa<|AB 124 [] [] [zI<|wr (a-b)] Z Z Lh Aa (zI<|md<|wr (a-b)) (fun wq=>Cu wq _<|MD _)<|Ac 1 Z<|A1<|Af [4] Z (zI<|md<|wr (a-b)) Z ⟨AS (by rw[FS hs.1 hs.2]),a0⟩
theorem Na {p:Prop}(h:p:=by exact⟨zO,by first|exact Vm hI.2 oM (by assumption)|exact Tg hI.2 oM (by assumption)⟩):p:=h
theorem Nb (w:World)(a:Int)(n:Int)(_ha:Bk a)(_hn:Bk n)  :
  Calls Tryz.prog 254 #[zI a,zI n] w (fun e w'=>e=.returned (zI (pw a n))∧w'=w):=by
 refine As [zI a,zI n] 25 Tryz.func254 Z Z sM ?_
 have a0:w=w:=rfl
 refine ZO Z<|A0<|ZN [0,0] Z<|Ad 1 Z ?_
 by_cases a2:n<((0:Nat):Int)
 ·exact AE true Z Z (A5 a2) Aa<|Aj<|Ah Z<|ZO Z<|A1<|Ao<|Af [4] Z (zI ((0:Nat):Int)) Z ⟨AS<|QY (by assumption),a0⟩
 refine AE false Z Z (A6 a2) Aa<|Aj<|Ai Z<|A2<|ZO Z<|ZN [0,0,0] Z<|Ad 1 Z<|AB 124 [] [] [zI a] Z Z Lh Aa (zI<|md a) (fun wq=>Cu wq _ _ha)<|Ac 1 Z<|A0<|A3 ?_
 refine AT (S:=Int×Int×Int) (fun⟨m,x,b⟩=>([(1,zI m),(5,zI x),(6,zI b)])) (fun⟨m,x,b⟩ W=>W=w∧(0≤m∧md (x*b ^ m.toNat)=md (a ^ n.toNat))∧m≤9223372036854775807∧(0≤x∧x<1000003)∧(0≤b∧b<1000003)) (fun⟨m,x,b⟩=>m.toNat) (n,((1:Nat):Int),md a) ⟨rfl,rfl,rfl,trivial⟩ ⟨a0,(by exact⟨zO,NN a n.toNat⟩),oM,oM,(by exact Cr _)⟩ ?_
 clear a0
 rintro⟨m,x,b⟩ ρ3 w3 ⟨a1,hI,hm,hx,hb⟩
 refine A0<|ZN [0,0] Z<|Ad 1 Z ?_
 by_cases a3:((0:Nat):Int)<m
 ·refine BU true Z Z (A5 a3) Aa<|Aj<|Ah Z<|A2<|A3<|A0<|ZN [0,0,0] Z<|Ad 1 Z<|EE (m % 2) Z Z (by decide) (ZQ hI.1) Aa ?_
  by_cases a4:m % 2=((1:Nat):Int)
  ·refine Ap true Z Z (A5 a4) Aa<|Aj<|Ah Z<|Ab _ [0,0,0,0] Z<|Ad 2 Z<|AB 63 [] [] [zI x,zI b] Z Z N6 Aa (zI<|md (x*b)) (fun wq=>Co wq _ _ oM oM)<|Ac 1 Z<|ZN [0,0,0,0] Z<|Ad 2 Z<|AB 63 [] [] [zI b,zI b] Z Z N6 Aa (zI<|md (b*b)) (fun wq=>Co wq _ _ oM oM)<|Ac 1 Z<|Ab _ [0,0,0] Z<|Ad 1 Z<|NE (m / 2) Z Z (by decide) (YZ hI.1 hm) Aa<|Ac 1 Z ?_
   exact⟨(m / 2,md (x*b),md (b*b)),_,rfl,zR,⟨a1,Na,oM,(by first|exact hx|exact Cr _),(by exact Cr _)⟩,zD⟩
  exact Ap false Z Z (A6 a4) Aa<|Aj<|Ai Z<|A2<|ZN [0,0,0,0] Z<|Ad 2 Z<|AB 63 [] [] [zI b,zI b] Z Z N6 Aa (zI<|md (b*b)) (fun wq=>Co wq _ _ oM oM)<|Ac 1 Z<|Ab _ [0,0,0] Z<|Ad 1 Z<|NE (m / 2) Z Z (by decide) (YZ hI.1 hm) Aa<|Ac 1 Z ⟨(m / 2,x,md (b*b)),_,rfl,zR,⟨a1,Na,oM,(by first|exact hx|exact Cr _),(by exact Cr _)⟩,zD⟩
 exact BU false Z Z (A6 a3) Aa<|Aj<|Ai Z<|A4<|Ay<|Ay<|At<|ZN [0,0] Z<|Ac 2 Z<|A1<|Af [4] Z (zI x) Z ⟨AS<|QX hI.2 hI.1 (by assumption) (by assumption) hx,a1⟩
theorem Nc (w:World)(a:Int)(n:Int)(_ha:Bk a)(_hn:Bk n)  :
  Calls Tryz.prog 238 #[zI a,zI n] w (fun e w'=>e=.returned (zI (pw a n))∧w'=w):=by
 refine As [zI a,zI n] 27 Tryz.func238 Z Z sM ?_
 have a0:w=w:=rfl
 refine ZO Z<|A0<|ZN [0,0] Z<|Ad 1 Z ?_
 by_cases a2:n<((0:Nat):Int)
 ·exact AE true Z Z (A5 a2) Aa<|Aj<|Ah Z<|ZO Z<|A1<|Ao<|Af [4] Z (zI ((0:Nat):Int)) Z ⟨AS<|QY (by assumption),a0⟩
 refine AE false Z Z (A6 a2) Aa<|Aj<|Ai Z<|A2<|ZO Z<|A0<|ZN [0,0,0] Z<|Ad 1 Z<|AB 214 [] [] [zI a] Z Z Mz Aa (zI<|md a) (fun wq=>CP wq _ _ha)<|Ac 1 Z<|A3 ?_
 refine AT (S:=Int×Int×Int) (fun⟨m,x,b⟩=>([(1,zI m),(5,zI x),(6,zI b)])) (fun⟨m,x,b⟩ W=>W=w∧(0≤m∧md (x*b ^ m.toNat)=md (a ^ n.toNat))∧m≤9223372036854775807∧(0≤x∧x<1000003)∧(0≤b∧b<1000003)) (fun⟨m,x,b⟩=>m.toNat) (n,((1:Nat):Int),md a) ⟨rfl,rfl,rfl,trivial⟩ ⟨a0,(by exact⟨zO,NN a n.toNat⟩),oM,oM,(by exact Cr _)⟩ ?_
 clear a0
 rintro⟨m,x,b⟩ ρ3 w3 ⟨a1,hI,hm,hx,hb⟩
 refine A0<|ZN [0,0] Z<|Ad 1 Z ?_
 by_cases a3:((0:Nat):Int)<m
 ·refine BU true Z Z (A5 a3) Aa<|Aj<|Ah Z<|A2<|A0<|A3<|A0<|ZN [0,0,0] Z<|Ad 1 Z<|EE (m % 2) Z Z (by decide) (ZQ hI.1) Aa ?_
  by_cases a4:m % 2=((1:Nat):Int)
  ·refine Ap true Z Z (A5 a4) Aa<|Aj<|Ah Z<|Ab _ [0,0,0,0,0] Z<|Ad 2 Z<|IW (wr (x*b)) Z Z Z Aa<|EE (md (x*b)) Z Z (by decide) (NO hx hb) Aa<|Ac 1 Z<|Ab _ [0,0,0,0,0] Z<|Ad 2 Z<|IW (wr (b*b)) Z Z Z Aa<|EE (md (b*b)) Z Z (by decide) (NO hb hb) Aa<|Ac 1 Z<|Ab _ [0,0,0] Z<|Ad 1 Z<|NE (m / 2) Z Z (by decide) (YZ hI.1 hm) Aa<|Ac 1 Z ?_
   exact⟨(m / 2,md (x*b),md (b*b)),_,rfl,zR,⟨a1,Na,oM,(by first|exact hx|exact Cr _),(by exact Cr _)⟩,zD⟩
  exact Ap false Z Z (A6 a4) Aa<|Aj<|Ai Z<|A2<|Ab _ [0,0,0,0,0] Z<|Ad 2 Z<|IW (wr (b*b)) Z Z Z Aa<|EE (md (b*b)) Z Z (by decide) (NO hb hb) Aa<|Ac 1 Z<|Ab _ [0,0,0] Z<|Ad 1 Z<|NE (m / 2) Z Z (by decide) (YZ hI.1 hm) Aa<|Ac 1 Z ⟨(m / 2,x,md (b*b)),_,rfl,zR,⟨a1,Na,oM,(by first|exact hx|exact Cr _),(by exact Cr _)⟩,zD⟩
 exact BU false Z Z (A6 a3) Aa<|Aj<|Ai Z<|A4<|Ay<|Ay<|At<|ZN [0,0] Z<|Ac 2 Z<|A1<|Af [4] Z (zI x) Z ⟨AS<|QX hI.2 hI.1 (by assumption) (by assumption) hx,a1⟩
theorem Id (w:World)(a:Int)(_ha:Bk a)  :
  Calls Tryz.prog 235 #[zI a] w (fun e w'=>e=.returned (zI (inv a))∧w'=w):=by
 refine As [zI a] 5 Tryz.func235 Z Z sM ?_
 have a0:w=w:=rfl
 exact ZO Z<|ZN [0,0,0] Z<|Ad 1 Z<|AB 254 [] [] [zI a,zI ((1000001:Nat):Int)] Z Z Yw Aa (zI<|pw a ((1000001:Nat):Int)) (fun wq=>Nb wq _ _ _ha oM)<|Ac 1 Z<|A1<|Af [2] Z (zI<|pw a ((1000001:Nat):Int)) Z ⟨rfl,a0⟩
theorem Hw (w:World)(a:Int)(_ha:Bk a)  :
  Calls Tryz.prog 212 #[zI a] w (fun e w'=>e=.returned (zI (inv a))∧w'=w):=by
 refine As [zI a] 5 Tryz.func212 Z Z sM ?_
 have a0:w=w:=rfl
 exact ZO Z<|ZN [0,0,0] Z<|Ad 1 Z<|AB 238 [] [] [zI a,zI ((1000001:Nat):Int)] Z Z Yn Aa (zI<|pw a ((1000001:Nat):Int)) (fun wq=>Nc wq _ _ _ha oM)<|Ac 1 Z<|A1<|Af [2] Z (zI<|pw a ((1000001:Nat):Int)) Z ⟨rfl,a0⟩
theorem ET (w:World)(n:Int)(_hn:Bk n)  :
  Calls Tryz.prog 117 #[zI n] w (fun e w'=>e=.returned (.bool (HZ n))∧w'=w):=by
 refine As [zI n] 5 Tryz.func117 Z Z sM ?_
 have a0:w=w:=rfl
 exact ZO Z<|ZN [0,0,0] Z<|Ad 1 Z<|AB 66 [] [] [zI n,zI ((0:Nat):Int),zI ((1000002:Nat):Int)] Z Z EL Aa (.bool (decide (((0:Nat):Int)≤n) && decide (n≤((1000002:Nat):Int)))) (fun wq=>B4 wq _ _ _ _hn oM oM)<|Ac 1 Z<|A1<|Af [2] Z (.bool (decide (((0:Nat):Int)≤n) && decide (n≤((1000002:Nat):Int)))) Z ⟨AL (by unfold HZ;rfl),a0⟩
theorem En (w:World)(n:Int)(_hn:Bk n)  :
  Calls Tryz.prog 166 #[zI n] w (fun e w'=>e=.returned (.bool (HZ n))∧w'=w):=by
 refine As [zI n] 5 Tryz.func166 Z Z sM ?_
 have a0:w=w:=rfl
 exact ZO Z<|ZN [0,0,0] Z<|Ad 1 Z<|AB 94 [] [] [zI n,zI ((0:Nat):Int),zI ((1000002:Nat):Int)] Z Z E7 Aa (.bool (decide (((0:Nat):Int)≤n) && decide (n≤((1000002:Nat):Int)))) (fun wq=>B3 wq _ _ _ _hn oM oM)<|Ac 1 Z<|A1<|Af [2] Z (.bool (decide (((0:Nat):Int)≤n) && decide (n≤((1000002:Nat):Int)))) Z ⟨AL (by unfold HZ;rfl),a0⟩
theorem I4 (w:World)(n:Int)(_hn:Bk n)  :
  Calls Tryz.prog 116 #[zI n] w (fun e w'=>e=.returned (.bool (!HZ n))∧AF w w'):=by
 refine As [zI n] 6 Tryz.func116 Z Z sM ?_
 have a0:AF w w:=AF.refl w
 exact ZO Z<|ZN [0,0,0,0] Z<|Ad 1 Z<|AB 117 [] [] [zI n] Z Z Sf Aa (.bool<|HZ n) (fun wq=>ET wq _ _hn)<|Bd (!(HZ n)) Z Z Aa<|Ac 1 Z<|A1<|Af [2] Z (.bool (!(HZ n))) Z ⟨rfl,a0⟩
def Qw {α:Type}(p:α→Bool)(l:List α):Int:=if l.any p then((l.findIdx p:Nat):Int)else -1
theorem Sy {α:Type}{p:α→Bool}{l:List α}{k:Nat}(d:α)(h:∀j,j<k→p (l.getD j d)=false)(hk:k<l.length)(hp:p (l.getD k d)=true):((k:Nat):Int)=Qw p l:=by
  have e:∀j,(hj:j<l.length)→l.getD j d=l[j]:=fun j hj=>by simp[hj]
  have h1:l.any p=true:=List.any_eq_true.2 ⟨l[k],List.getElem_mem hk,by rw[← e k hk];exact hp⟩
  have h2:l.findIdx p=k:=by
    rw[List.findIdx_eq hk]
    refine⟨by rw[← e k hk];exact hp,fun j hj=>?_⟩
    have:=h j hj
    rw[e j (by omega)]at this
    exact this
  unfold Qw;rw[if_pos h1,h2]
theorem UW {α:Type}{p:α→Bool}{l:List α}{k:Nat}(d:α)(h:∀j,j<k→p (l.getD j d)=false)(hk:l.length≤k):(-1:Int)=Qw p l:=by
  have h1:l.any p=false:=by
    rw[List.any_eq_false]
    intro x hx
    obtain⟨j,hj,rfl⟩:=List.getElem_of_mem hx
    have:=h j zO
    have e:l.getD j d=l[j]:=by simp[hj]
    rw[e]at this
    simp[this]
  unfold Qw;rw[h1];rfl
theorem UX {α:Type}(p:α→Bool)(l:List α):decide (((0:Nat):Int)≤Qw p l)=l.any p:=by
  unfold Qw
  split
  · rename_i h;rw[h];exact A5 zO
  · rename_i h;rw[Bool.not_eq_true]at h;rw[h];exact A6 zO
theorem Q6 {α:Type}{p:α→Bool}{l:List α}{k:Nat}{d:α}(h:∀j,j<k→p (l.getD j d)=false)(hp:p (l.getD k d)=false):∀j,j<k+1→p (l.getD j d)=false:=by
  intro j hj
  by_cases e:j=k
  · subst e;exact hp
  · exact h j zO
theorem DW (w:World) (va:Value) (a:Sr) (q:Nat) (qf qc:List Value) (p:Int→Bool) (ha:Rd (B5 rI) w.heap va a) (hcf_q:((Tryz.prog.funcs[q]?).map fun fn=>(fn.name != "runtime.NumGoroutine") && fn.body.isSome) = some true) (hp:∀ (x:Int),Bk x→∀ w1,AF w w1→Calls Tryz.prog q (qf++[Value.int .i64 x]++qc).toArray w1 (fun e w2=>e = .returned (.bool (p x))∧AF w1 w2))  :
  Calls Tryz.prog 168 #[va,.func (.func q) qf.toArray qc.toArray] w (fun e w'=>e = .returned (zI (Qw p a))∧AF w w'):=by
 refine As [va,.func (.func q) qf.toArray qc.toArray] 19 Tryz.func168 Z Z sM ?_
 have a3:AF w w:=AF.refl w
 have aa:=ha.lenle
 refine ZO Z<|A0<|ZN [0,0,0] Z<|Ad 1 Z<|AP (v:=va) Bl Z ha.isSl Aa<|Ac 1 Z<|A3 ?_
 refine AT (S:=Nat) (fun k=>([(8,zI ((k :Nat):Int)),(0,va),(1,.func (.func q) qf.toArray qc.toArray),(7,zI ((a.length :Nat):Int))])) (fun k W=>AF w W∧k≤a.length∧(∀ j,j < k→p (a.getD j 0) = false)) (fun k=>a.length - k) 0 ⟨rfl,rfl,rfl,rfl,trivial⟩ ⟨a3,sD,(by intro j hj; omega)⟩ ?_
 clear a3
 rintro k ρ1 w1 ⟨a1,a4,hq⟩
 have a7:w.heap.size≤w1.heap.size:=a1.size
 refine ZN [0] Z ?_
 by_cases a5:((k :Nat):Int) < ((a.length :Nat):Int)
 ·
  refine AE true Z Z (A5 a5) Aa<|Aj<|A0<|Ah Z<|A2<|A0<|A3<|ZN [0,0] Z<|Ac 2 Z<|ZN [0,0,0,0,2,3] Z<|Ad 3 Z<|Au (v:=va) k Bl BD Z Z ha.isSl Z sD Aa ?_
  refine Ae (p:=Aw va k 1) (.inr Z) (zI<|a.getD k 0) AC Z (Bc a1 (ha.getI sD).1) Aa ?_
  have a0:=hp (a.getD k 0) (ha.getI sD).2 _ a1
  refine Am q qf qc _ Z Z hcf_q Aa a0 ?_
  rintro e3 w3 ⟨rfl,a2⟩
  refine ⟨_,rfl,a2,?_⟩
  have a8:=a2.size
  have a6:=a1.trans a2
  cases a9:p (a.getD k 0)
  ·
   refine Aj<|Ai Z<|A2<|Ab _ [0,0] Z<|AQ ((k + 1 :Nat):Int) Z Z (Be oM sD) Aa<|Ac 1 Z ?_
   exact ⟨k + 1,_,rfl,zR,⟨a6,sD,(by exact Q6 hq (by assumption))⟩,by first | omega | (dsimp only; omega)⟩
  exact Aj<|Ah Z<|ZN [0,0] Z<|Ac 2 Z<|A1<|AH<|Ao<|Ao<|AH<|Ao<|Af [4] Z (zI ((k :Nat):Int)) Z ⟨AS<|Sy 0 hq oM (by assumption),a6⟩
 exact AE false Z Z (A6 a5) Aa<|Aj<|A0<|Ai Z<|A4<|Ay<|Ay<|At<|ZO Z<|A1<|Af [4] Z (zI (-1)) Z ⟨AS<|UW 0 hq oM,a1⟩
theorem Ci (w:World) (va:Value) (a:Sr) (q:Nat) (qf qc:List Value) (p:Int→Bool) (ha:Rd (B5 rI) w.heap va a) (hcf_q:((Tryz.prog.funcs[q]?).map fun fn=>(fn.name != "runtime.NumGoroutine") && fn.body.isSome) = some true) (hp:∀ (x:Int),Bk x→∀ w1,AF w w1→Calls Tryz.prog q (qf++[Value.int .i64 x]++qc).toArray w1 (fun e w2=>e = .returned (.bool (p x))∧AF w1 w2))  :
  Calls Tryz.prog 115 #[va,.func (.func q) qf.toArray qc.toArray] w (fun e w'=>e = .returned (.bool (a.any p))∧AF w w'):=by
 refine As [va,.func (.func q) qf.toArray qc.toArray] 9 Tryz.func115 Z Z sM ?_
 have a0:AF w w:=AF.refl w
 have a4:=ha.lenle
 refine ZO Z<|ZN [0,0,3,0,0] Z<|Ad 2 Z<|Am 168 [] [] [va,.func (.func q) qf.toArray qc.toArray] Z Z Y5 Aa (DW _ _ _ q qf qc p (ha.ext g1 a0) hcf_q fun x hx w1 hw=>hp x hx w1<|a0.trans hw) ?_
 rintro e1 w1 ⟨rfl,a1⟩
 refine ⟨_,rfl,a1,?_⟩
 have a2:=a1.size
 have a3:=a0.trans a1
 exact CU (decide (((0 :Nat):Int)≤Qw p a)) Z Z Z Aa<|Ac 1 Z<|A1<|Af [4] Z (.bool<|decide (((0 :Nat):Int)≤Qw p a)) Z ⟨AL<|UX p a,a3⟩
theorem BM (w:World)(va:Value)(a:Sr)(ha:Rd (B5 rI) w.heap va a)(hla:a.length≤1000000000000) :
  Calls Tryz.prog 79 #[va] w (fun e w'=>∃v0:Value,e=.returned (v0)∧AF w w'∧Fr (Bo rI 2) w.heap.size w'.heap.size w'.heap v0 a):=by
 refine As [va] 8 Tryz.func79 Z Z sM ?_
 have a1:AF w w:=AF.refl w
 have ac:=ha.lenle
 refine ZO Z<|A0<|ZN [0,0] Z<|Ad 1 Z ?_
 cases a2:Ov va
 ·refine QF (v:=va) false Bl Z Z ha.isSl a2 Aa<|Aj<|Ai Z<|A2<|ZN [3,0,4,0] Z (Cp (rI) AK Bl BD Aa fun v2 w2 a3 ab a5=>?_)
  have a6:=a3.size
  have a0:=a1.trans a3
  refine Ad 1 Z (Hf (v:=v2) (a:=va) Bl BD Z Z Z a5 a0.size (ha.ext g1 a0) sD (by unfold maxLen;first|omega|assumption|(simp;done)|(simp;omega)) Aa fun v3 w3 F3 a4 a7 a8=>?_)
  have a9:AF w w3:=a4.below a0 (fun c hc=>A8 (A7 _) (a7 c hc).1) a0.size
  have aa:=a4.size
  exact Ac 1 Z<|A1<|Af [2] Z v3 Z ⟨v3,rfl,a9,a8.up o1⟩
 refine QF (v:=va) true Bl Z Z ha.isSl a2 Aa<|Aj<|Ah Z<|ZO Z<|A1<|Ao ?_
 have hnil:a=[]:=ha.nil_of (by assumption)
 subst hnil
 exact Af [2] Z zN Z ⟨zN,rfl,a1,K3 _ _ _⟩
theorem Dg (w:World)(va:Value)(a:Sr)(count:Int)(ha:Rd (B5 rI) w.heap va a)(_hcount:Bk count)  :
  Calls Tryz.prog 57 #[va,zI count] w (fun e w'=>e=.returned (.bool (decide ((a.length:Int)=count) && B9 a))∧AF w w'):=by
 refine As [va,zI count] 14 Tryz.func57 Z Z sM ?_
 have a0:AF w w:=AF.refl w
 have a5:=ha.lenle
 refine ZO Z<|ZN [0,0,0,0,0,0,3,0,0,0] Z<|Ad 1 Z<|AP (v:=va) Bl Z ha.isSl Aa<|Ad 1 Z ?_
 by_cases a2:(a.length:Int)=count
 ·refine Ap true Z Z (A5 a2) Aa<|Ad 2 Z<|Am 115 [] [] [va,.func (.func 116) #[] #[]] Z Z UE (Ag (e:=9) Z Z Z) (Ci _ _ _ 116 [] [] (fun x=>!HZ x) (ha.ext g1 a0) XG fun x hx w1 hw=>I4 w1 x hx) ?_
  rintro e2 w2 ⟨rfl,a1⟩
  refine⟨_,rfl,a1,?_⟩
  have a3:=a1.size
  have a4:=a0.trans a1
  exact Bd (!(a.any fun x=>!HZ x)) Z Z (Ag (e:=9) Z Z Z)<|Ac 2 Z<|A1<|Af [4] Z (.bool (!(a.any fun x=>!HZ x))) Z ⟨AL (by first|(rw[Pj];simp[*];done)|simp[*]),a4⟩
 exact Ap false Z Z (A6 a2) Aa<|Ac 6 Z<|A1<|Af [4] Z (.bool false) Z ⟨AL (by first|(rw[Pj];simp[*];done)|simp[*]),a0⟩
theorem CD (w:World)(va:Value)(a:Sr)(ha:Rd (B5 rI) w.heap va a)  :
  Calls Tryz.prog 113 #[va] w (fun e w'=>e=.returned (.bool (B9 a))∧AF w w'):=by
 refine As [va] 16 Tryz.func113 Z Z sM ?_
 have a1:AF w w:=AF.refl w
 have a6:=ha.lenle
 refine ZO Z<|A0<|ZO Z<|A3<|AT (S:=Nat) (fun k=>([(3,zI (k:Int)),(0,va)])) (fun k W=>AF w W∧k≤a.length∧((a.take k).all HZ=true)) (fun k=>a.length-k) 0 ⟨rfl,rfl,trivial⟩ ⟨a1,sD,(by exact QZ _ _)⟩ ?_
 clear a1
 rintro k ρ1 w1 ⟨a0,a2,hq⟩
 have a5:w.heap.size≤w1.heap.size:=a0.size
 refine A0<|ZN [0,0,0,0] Z<|Ad 2 Z<|AP (v:=va) Bl Z ha.isSl Aa ?_
 by_cases a3:(k:Int)<(a.length:Int)
 ·refine AE true Z Z (A5 a3) Aa<|Aj<|Ah Z<|A2<|A0<|A3<|ZN [0,0,0,2,0,0] Z<|Ad 2 Z<|Au (v:=va) k Bl BD Z Z ha.isSl Z sD Aa ?_
  refine Ae (p:=Aw va k 1) (.inr Z) (zI<|a.getD k 0) AC Z (Bc a0 (ha.getI sD).1) Aa ?_
  refine AB 166 [] [] [zI<|a.getD k 0] Z Z Sh Aa (.bool<|HZ<|a.getD k 0) (fun wq=>En wq _ (ha.getI sD).2)<|Bd (!(HZ<|a.getD k 0)) Z Z Aa<|Aj ?_
  cases a4:(!(HZ (a.getD k 0)))
  ·refine Ai (by first|rfl|exact zW a4)<|A2<|Ab _ [0,0,0] Z<|Ad 1 Z<|AQ ((k+1:Nat):Int) Z Z (Be oM sD) Aa<|Ac 1 Z ?_
   exact⟨k+1,_,rfl,⟨rfl,rfl,trivial⟩,⟨a0,sD,(by exact NP 0 hq oM (by simpa using ‹(!HZ (a.getD k 0))=false›))⟩,zD⟩
  exact Ah (by first|rfl|exact zW a4)<|ZO Z<|A1<|AH<|Ao<|Ao<|AH<|Ao<|Af [2] Z (.bool false) Z ⟨AL (NR (k:=k) 0 oM (by simpa using ‹(!HZ (a.getD k 0))=true›)).symm,a0⟩
 exact AE false Z Z (A6 a3) Aa<|Aj<|Ai Z<|A4<|Ay<|Ay<|At<|ZO Z<|A1<|Af [2] Z (.bool true) Z ⟨AL (NS hq oM).symm,a0⟩
theorem BP (w:World)(va:Value)(a:Sr)(ha:Rd (B5 rI) w.heap va a)(hla:a.length≤1000000000000) :
  Calls Tryz.prog 83 #[va] w (fun e w'=>∃v0:Value,e=.returned (v0)∧AF w w'∧Fr (Bo rI 2) w.heap.size w'.heap.size w'.heap v0 a):=by
 refine As [va] 6 Tryz.func83 Z Z sM ?_
 have a3:AF w w:=AF.refl w
 have ab:=ha.lenle
 refine ZO Z<|ZN [3,0,4,0] Z (Cp (rI) AK Bl BD Aa fun v1 w1 a1 aa a4=>?_)
 have a5:=a1.size
 have a0:=a3.trans a1
 refine Ad 1 Z (Hf (v:=v1) (a:=va) Bl BD Z Z Z a4 a0.size (ha.ext g1 a0) sD (by unfold maxLen;first|omega|assumption|(simp;done)|(simp;omega)) Aa fun v2 w2 F2 a2 a6 a7=>?_)
 have a8:AF w w2:=a2.below a0 (fun c hc=>A8 (A7 _) (a6 c hc).1) a0.size
 have a9:=a2.size
 exact Ac 1 Z<|A1<|Af [2] Z v2 Z ⟨v2,rfl,a8,a7.up o1⟩
theorem D5 (w:World)(va:Value)(a:Sr)(vb:Value)(b:Sr)(ha:Rd (B5 rI) w.heap va a)(hb:Rd (B5 rI) w.heap vb b)  :
  Calls Tryz.prog 34 #[va,vb] w (fun e w'=>e=.returned (.bool (decide (a=b)))∧AF w w'):=by
 refine As [va,vb] 26 Tryz.func34 Z Z sM ?_
 have a1:AF w w:=AF.refl w
 have a7:=ha.lenle
 have a8:=hb.lenle
 refine ZO Z<|A0<|ZN [0,0,0,0,0] Z<|Ad 1 Z<|AP (v:=va) Bl Z ha.isSl Aa<|Ad 1 Z<|AP (v:=vb) Bl Z hb.isSl Aa ?_
 by_cases a2:(a.length:Int)≠(b.length:Int)
 ·exact AU true Z Z (A5 a2) Aa<|Aj<|Ah Z<|ZO Z<|A1<|Ao<|Af [4] Z (.bool false) Z ⟨AL (A6<|Ti oM).symm,a1⟩
 refine AU false Z Z (A6 a2) Aa<|Aj<|Ai Z<|A2<|A0<|ZO Z<|A3<|AT (S:=Nat) (fun k=>([(5,zI (k:Int)),(0,va),(1,vb)])) (fun k W=>AF w W∧k≤a.length∧(∀j,j<k→a.getD j 0=b.getD j 0)) (fun k=>a.length-k) 0 ⟨rfl,rfl,rfl,trivial⟩ ⟨a1,sD,(by intro j hj;omega)⟩ ?_
 clear a1
 rintro k ρ2 w2 ⟨a0,a3,hq⟩
 have a6:w.heap.size≤w2.heap.size:=a0.size
 refine A0<|ZN [0,0,0,0] Z<|Ad 2 Z<|AP (v:=va) Bl Z ha.isSl Aa ?_
 by_cases a4:(k:Int)<(a.length:Int)
 ·refine AE true Z Z (A5 a4) Aa<|Aj<|Ah Z<|A2<|A0<|A3<|A0<|AO _ [0,0,0,1,0,0,0,1,0] mixed (by kernel_rfl)<|Ad 2 Z<|Au (v:=va) k Bl BD Z Z ha.isSl Z sD Aa ?_
  refine Ae (p:=Aw va k 1) (.inl Z) (zI<|a.getD k 0) AC Z (Bc a0.drew (ha.getI sD).1) Aa<|Ad 2 Z ?_
  refine Au (v:=vb) k Bl BD Z Z hb.isSl Z sD Aa ?_
  refine Ae (p:=Aw vb k 1) (.inl Z) (zI<|b.getD k 0) AC Z (Bc a0.drew (hb.getI sD).1) Aa ?_
  by_cases a5:a.getD k 0≠b.getD k 0
  ·exact AU true Z Z (A5 a5) Aa<|Aj<|Ah Z<|ZO Z<|A1<|AH<|Ao<|Ao<|AH<|Ao<|Af [4] Z (.bool false) Z ⟨AL (A6<|R1 (d:=0) (k:=k) oM).symm,a0.drew⟩
  refine AU false Z Z (A6 a5) Aa<|Aj<|Ai Z<|A2<|Ab _ [0,0,0] Z<|Ad 1 Z<|AQ ((k+1:Nat):Int) Z Z (Be oM sD) Aa<|Ac 1 Z ?_
  exact⟨k+1,_,rfl,zR,⟨a0.drew,sD,(by exact R0 hq oM)⟩,zD⟩
 exact AE false Z Z (A6 a4) Aa<|Aj<|Ai Z<|A4<|Ay<|Ay<|At<|ZO Z<|A1<|Af [4] Z (.bool true) Z ⟨AL (A5<|KI hq oM oM).symm,a0⟩
theorem C1 (w:World)(va:Value)(a:Sr)(ha:Rd (B5 rI) w.heap va a)(hla:a.length≤1000000000000) :
  Calls Tryz.prog 33 #[va] w (fun e w'=>∃v0:Value,e=.returned (v0)∧AF w w'∧Fr (Bo rI 2) w.heap.size w'.heap.size w'.heap v0 a):=by
 refine As [va] 22 Tryz.func33 Z Z sM ?_
 have a4:AF w w:=AF.refl w
 have ah:=ha.lenle
 refine ZO Z<|ZN [0,0,3,0] Z<|Ad 1 Z<|AP (v:=va) Bl Z ha.isSl Aa (Fx (n:=a.length) Bl BD Z Z Z sD Aa fun v1 w1 a2 aa a5=>?_)
 have a3:=a2.size
 have a6:=a4.trans a2
 refine Ac 1 Z<|A0<|ZO Z<|A3<|AT (S:=Nat) (fun k=>([(4,zI (k:Int)),(0,va),(3,v1)])) (fun k W=>AF w W∧Fr (Bo rI 2) w.heap.size W.heap.size W.heap v1 (GJ k a<|List.replicate a.length 0)∧k≤a.length) (fun k=>a.length-k) 0 ⟨rfl,rfl,rfl,trivial⟩ ⟨a6,(by rw[FA];exact a5.up o1),sD⟩ ?_
 clear a4 a5 aa a2 a3 a6
 rintro k ρ2 w2 ⟨a1,a0,a7⟩
 have ab:w.heap.size≤w2.heap.size:=a1.size
 have hml:=GK k a (List.replicate a.length 0) sM
 rw[z5]at hml
 refine A0<|ZN [0,0,0,0] Z<|Ad 2 Z<|AP (v:=va) Bl Z ha.isSl Aa ?_
 by_cases a8:(k:Int)<(a.length:Int)
 ·refine AE true Z Z (A5 a8) Aa<|Aj<|Ah Z<|A2<|A0<|A3<|Ab _ [0,0,0,0,0,2,0,4] Z<|Ad 4 Z<|Au (v:=va) k Bl BD Z Z ha.isSl Z sD Aa ?_
  refine Ae (p:=Aw va k 1) (.inr Z) (zI<|a.getD k 0) AC Z (Bc a1 (ha.getI sD).1) Aa ?_
  refine Au (v:=v1) k Bl BD Z Z a0.isSl Z sD Aa ?_
  refine GG (v:=v1) (w:=w2) I3 Z Z (ha.getI sD).2 a0 sD Aa fun w4 F4 a9 ag ac ad=>?_
  have ae:AF w w4:=a9.below a1 (fun c hc=>A8 (A7 _) (ac c hc).1) a1.size
  have af:=a9.size
  refine Aj<|Ab _ [0,0,0] Z<|Ad 1 Z<|AQ ((k+1:Nat):Int) Z Z (Be oM sD) Aa<|Ac 1 Z ?_
  exact⟨k+1,_,rfl,zR,⟨ae,(by rw[← MK 0 sM (by simp;omega)];exact ad.up o1),sD⟩,zD⟩
 exact AE false Z Z (A6 a8) Aa<|Aj<|Ai Z<|A4<|Ay<|Ay<|At<|ZN [0,0] Z<|Ac 2 Z<|A1<|Af [2] Z v1 Z ⟨v1,rfl,a1,(by have h:=a0.up o1;rwa [HP sM (by simp;omega)]at h)⟩
theorem E9 (w:World)(va:Value)(a:Sr)(Fa:List Nat)(k:Int)(ha:Bo rI 2 w.heap va a Fa)(hna:Fa.Nodup)(_hk:Bk k)(hk:0≤k∧k+(a.length:Int)≤4611686018427387904) :
  Calls Tryz.prog 37 #[va,zI k] w (fun e w'=>e=.returned (zI (k+(a.length:Int)))∧AA Fa w w'∧Bo rI 2 w'.heap va (up a.length k) Fa):=by
 refine As [va,zI k] 19 Tryz.func37 Z Z sM ?_
 have a2:AA Fa w w:=AA.refl Fa w
 have aa:=ha.lenle
 unfold maxLen at aa
 refine ZO Z<|A0<|ZO Z<|A3 ?_
 refine AT (S:=Nat×Int) (fun⟨j,l⟩=>([(1,zI l),(5,zI (j:Int)),(0,va)])) (fun⟨j,l⟩ W=>AA Fa w W∧Bo rI 2 W.heap va (GJ j (up a.length k) a) Fa∧j≤a.length∧l=k+(j:Int)) (fun⟨j,l⟩=>a.length-j) (0,k) ⟨rfl,rfl,rfl,trivial⟩ ⟨a2,(by first|(rw[FA];exact ha)|(have h:=ha;rw[hl]at h;unfold up;rw[J1 Z oM];exact h)),sD,oM⟩ ?_
 clear a2
 rintro⟨j,l⟩ ρ1 w1 ⟨a1,a0,a3,hl⟩
 have a6:w.heap.size≤w1.heap.size:=a1.size
 have hml:=GK j (up a.length k) a<|Hh _ _
 refine A0<|ZN [0,0,0,0] Z<|Ad 2 Z<|AP (v:=va) Bl Z (a0.rd id).isSl Aa ?_
 by_cases a4:(j:Int)<(((GJ j (up a.length k) a).length:Nat):Int)
 ·refine AE true Z Z (A5 a4) Aa<|Aj<|Ah Z<|A2<|A0<|A3<|ZN [0,0,0,0,4] Z<|Ad 3 Z<|Au (v:=va) j Bl BD Z Z (a0.rd id).isSl Z sD Aa ?_
  refine V8 (v:=va) (w:=w1) I3 Z Z oM a0 hna sD Aa fun w3 a7 a9 a5=>?_
  have a8:AA Fa w w3:=a1.trans a7
  refine Aj<|Ab _ [0,0,0] Z<|Ad 1 Z<|AQ (l+((1:Nat):Int)) Z Z (CT sD sD) Aa<|Ac 1 Z ?_
  refine Ab _ [0,0,0] Z<|Ad 1 Z<|AQ ((j+1:Nat):Int) Z Z (Be oM sD) Aa<|Ac 1 Z ?_
  exact⟨(j+1,l+((1:Nat):Int)),_,rfl,zR,⟨a8,(by first|(rw[FA];exact a5)|(have h:=a5;rw[hl]at h;unfold up;rw[J1 Z oM];exact h)),sD,oM⟩,zD⟩
 exact AE false Z Z (A6 a4) Aa<|Aj<|Ai Z<|A4<|Ay<|Ay<|At<|ZN [0,0] Z<|Ac 2 Z<|A1<|Af [4] Z (zI l) Z ⟨AS (by rw[hl,show j=a.length from by omega]),a1,(by have h:=a0;rwa [HP (Hh _ _) oM]at h)⟩
theorem FX (w:World)(va:Value)(a:Sr)(k:Int)(ha:Rd (B5 rI) w.heap va a)(_hk:Bk k)(hk:0≤k∧k+(a.length:Int)≤4611686018427387904)(heq:∀i,i<a.length→a.getD i 0=k+(i:Int)) :
  Calls Tryz.prog 38 #[va,zI k] w (fun e w'=>e=.returned (zI (k+(a.length:Int)))∧AF w w'):=by
 refine As [va,zI k] 21 Tryz.func38 Z Z sM ?_
 have a1:AF w w:=AF.refl w
 have a6:=ha.lenle
 refine ZO Z<|A0<|ZO Z<|A3<|AT (S:=Nat×Int) (fun⟨j,l⟩=>([(1,zI l),(5,zI (j:Int)),(0,va)])) (fun⟨j,l⟩ W=>AF w W∧j≤a.length∧l=k+(j:Int)) (fun⟨j,l⟩=>a.length-j) (0,k) ⟨rfl,rfl,rfl,trivial⟩ ⟨a1,sD,oM⟩ ?_
 clear a1
 rintro⟨j,l⟩ ρ1 w1 ⟨a0,a2,hl⟩
 have a5:w.heap.size≤w1.heap.size:=a0.size
 refine A0<|ZN [0,0,0,0] Z<|Ad 2 Z<|AP (v:=va) Bl Z ha.isSl Aa ?_
 by_cases a3:(j:Int)<(a.length:Int)
 ·refine AE true Z Z (A5 a3) Aa<|Aj<|Ah Z<|A2<|A0<|A3<|A0<|ZN [0,0,0,2,0,0] Z<|Ad 2 Z<|Au (v:=va) j Bl BD Z Z ha.isSl Z sD Aa ?_
  refine Ae (p:=Aw va j 1) (.inr Z) (zI<|a.getD j 0) AC Z (Bc a0 (ha.getI sD).1) Aa<|Ad 1 Z ?_
  by_cases a4:a.getD j 0≠l
  ·exact absurd (by rw[heq j oM];omega) a4
  refine AU false Z Z (A6 a4) Aa<|Aj<|Ai Z<|A2<|Ab _ [0,0,0] Z<|Ad 1 Z ?_
  refine AQ (l+((1:Nat):Int)) Z Z (CT sD sD) Aa<|Ac 1 Z<|Ab _ [0,0,0] Z<|Ad 1 Z ?_
  refine AQ ((j+1:Nat):Int) Z Z (Be oM sD) Aa<|Ac 1 Z ?_
  exact⟨(j+1,l+((1:Nat):Int)),_,rfl,zR,⟨a0,sD,oM⟩,zD⟩
 exact AE false Z Z (A6 a3) Aa<|Aj<|Ai Z<|A4<|Ay<|Ay<|At<|ZN [0,0] Z<|Ac 2 Z<|A1<|Af [4] Z (zI l) Z ⟨AS (by rw[hl,show j=a.length from by omega]),a0⟩
theorem EU (w:World)(va:Value)(a:Sr)(y:Int)(ha:Rd (B5 rI) w.heap va a)(_hy:Bk y)(hla:a.length≤1000000000000) :
  Calls Tryz.prog 204 #[va,zI y] w (fun e w'=>∃v0:Value,e=.returned (v0)∧AF w w'∧Fr (Bo rI 2) w.heap.size w'.heap.size w'.heap v0 (Vq a y)):=by
 refine As [va,zI y] 24 Tryz.func204 Z Z sM ?_
 have a8:AF w w:=AF.refl w
 have an:=ha.lenle
 refine ZO Z<|ZN [3,0] Z (Cp (rI) AK Bl BD Aa fun v1 w1 a3 af a9=>?_)
 have a4:=a3.size
 have aa:=a8.trans a3
 refine Ac 1 Z<|A0<|ZO Z<|A3 ?_
 refine AT (S:=Nat×Value) (fun⟨k,vo⟩=>([(5,vo),(6,zI (k:Int)),(0,va),(1,zI y)])) (fun⟨k,vo⟩ W=>AF w W∧Fr (Bo rI 2) w.heap.size W.heap.size W.heap vo ((a.take k).map fun x=>md (x*y))∧k≤a.length) (fun⟨k,vo⟩=>a.length-k) (0,v1) ⟨rfl,rfl,rfl,rfl,trivial⟩ ⟨aa,a9.up o1,sD⟩ ?_
 clear a8 a9 af a3 a4 aa
 rintro⟨k,vo⟩ ρ2 w2 ⟨a2,a1,ab⟩
 have ag:w.heap.size≤w2.heap.size:=a2.size
 refine A0<|ZN [0,0,0,0] Z<|Ad 2 Z<|AP (v:=va) Bl Z ha.isSl Aa ?_
 by_cases ac:(k:Int)<(a.length:Int)
 ·refine AE true Z Z (A5 ac) Aa<|Aj<|Ah Z<|A2<|A0<|A3<|Ab _ [0,0,0,0,2,0,0,3,4,0] Z<|Ad 3 Z<|Au (v:=va) k Bl BD Z Z ha.isSl Z sD Aa ?_
  refine Ae (p:=Aw va k 1) (.inr Z) (zI<|a.getD k 0) AC Z (Bc a2 (ha.getI sD).1) Aa<|Ad 1 Z ?_
  refine AB 63 [] [] [zI<|a.getD k 0,zI y] Z Z N6 Aa (zI<|md ((a.getD k 0)*y)) (fun wq=>Co wq _ _ (ha.getI sD).2 _hy) (By (u:=zI<|md ((a.getD k 0)*y)) (B:=w2.heap.size) AK Bl BD Z Z (Mb w2.heap.size w2.heap.size _ _<|Ei _) (A7 _) Aa fun v5 w5 a5 al ad=>?_)
  have ah:=a5.size
  have a6:=a2.trans a5
  have a0:=a1.ext (o1) a5
  refine Hf (v:=vo) (a:=v5) Bl BD Z Z Z a0 a6.size ad.rd1 sD (by unfold maxLen;first|omega|assumption|(simp;done)|(simp;omega)) Aa fun v6 w6 F6 a7 ae ai=>?_
  have aj:AF w w6:=a7.below a6 (fun c hc=>A8 (A7 _) (ae c hc).1) a6.size
  have ak:=a7.size
  have am:=ad.chg (o1) a7 fun c hc=>zH<|ae c hc
  refine Ac 1 Z<|Ab _ [0,0,0] Z<|Ad 1 Z<|AQ ((k+1:Nat):Int) Z Z (Be oM sD) Aa<|Ac 1 Z ?_
  exact⟨(k+1,v6),_,rfl,zR,⟨aj,(by rw[Hg 0 oM];exact ai.up o1),sD⟩,zD⟩
 exact AE false Z Z (A6 ac) Aa<|Aj<|Ai Z<|A4<|Ay<|Ay<|At<|ZN [0,0] Z<|Ac 2 Z<|A1<|Af [4] Z vo Z ⟨vo,rfl,a2,(by have h:=a1.up o1;rwa [za oM]at h)⟩
def ZS (D:Nat):Prop:=∀(w:World) (d:Nat) (va:Value) (a:List Ex) (left:Int) (ha:RN [] (Cj 5 (H0 d)) w.heap va a) (_hleft:Bk left) (hL:0≤left∧left≤1048576) (hd:d≤D),Calls Tryz.prog 186 #[va,.int .i64 left] w (fun e w'=>e=.returned (.int .i64 (J8 (Ex.sizes a) left))∧AF w w')
theorem LX (w:World)(dex:Nat)(ve:Value)(ex:Ex)(left:Int)(hex:RX [] dex w.heap ve ex)(_hleft:Bk left)(hL:0≤left∧left≤1048576)(IH:ZS dex) :
  Calls Tryz.prog 228 #[(.agg #[(zI ex.kind),(zI ex.num),(zI ex.pick),(zI ex.count),ve]),zI left] w (fun e w'=>e=.returned (zI (J8 (Ex.sizes ex.kids) left))∧AF w w'):=by
 refine As [.agg #[zI ex.kind,zI ex.num,zI ex.pick,zI ex.count,ve],zI left] 12 Tryz.func228 Z Z sM ?_
 have a6:AF w w:=AF.refl w
 have aa:=hex.rn.lenle
 unfold maxLen at aa
 refine ZN [3,0] Z (Bj (cs:=#[zI ex.kind,zI ex.num,zI ex.pick,zI ex.count,ve]) Z Aa fun w1 a2 a9 a0=>?_)
 have a7:=a2.size
 have a3:=a6.trans a2
 replace a0:BX w1.heap w.heap.size [zI ex.kind,zI ex.num,zI ex.pick,zI ex.count,ve]:=a0
 refine Ac 1 Z<|ZN [0,2,0,3,0] Z<|Ak (p:=zP w.heap.size) 4 Q5 Z Z Aa<|Ae (p:=An (zP w.heap.size) 4) (.inr Z) ve N7 Z (a0.ldp (i:=4) sM) Aa<|Ad 1 Z<|Am 186 [] [] [ve,zI left] Z Z UI Aa (IH _ dex ve (ex.kids) _ (hex.rn.ext (Al<|Aq dex) a3) _hleft oM oM) ?_
 rintro e2 w2 ⟨rfl,a1⟩
 refine⟨_,rfl,a1,?_⟩
 have a8:=a1.size
 have a4:=a3.trans a1
 refine Ac 1 Z<|A0<|ZN [0,0] Z<|Ad 1 Z ?_
 by_cases a5:J8 (Ex.sizes ex.kids) left<((0:Nat):Int)
 ·exact AE true Z Z (A5 a5) Aa<|Aj<|Ah Z<|ZO Z<|A1<|Ao<|Af [4] Z (zI (-1)) Z ⟨(by have hn:=J9 (t:=Ex.sizes ex.kids) (x:=left) oM oM;exact AS (K7 oM)),a4⟩
 exact AE false Z Z (A6 a5) Aa<|Aj<|Ai Z<|A2<|ZN [0,0] Z<|Ac 2 Z<|A1<|Af [4] Z (zI<|J8 (Ex.sizes ex.kids) left) Z ⟨AS Z,a4⟩
theorem Lm (w:World)(da:Nat)(va:Value)(a:List Ex)(left:Int)(ha:RN [] (Cj 5 (H0 da)) w.heap va a)(_hleft:Bk left)(hL:0≤left∧left≤1048576) :
  Calls Tryz.prog 186 #[va,zI left] w (fun e w'=>e=.returned (zI (J8 (Ex.sizes a) left))∧AF w w'):=by
 induction da using Nat.strongRecOn generalizing w va a left
 rename_i da ih
 refine As [va,zI left] 27 Tryz.func186 Z Z sM ?_
 have a1:AF w w:=AF.refl w
 have ak:=ha.lenle
 unfold maxLen at ak
 have ad:=FE a 0
 refine ZO Z<|ZN [0,0,0,0,0] Z<|Ad 2 Z<|AP (v:=va) OR Z ha.isSl Aa<|Bi (left-(a.length:Int)) Z Z (CT oM oM) Aa<|Ac 1 Z<|A0<|ZN [0,0] Z<|Ad 1 Z ?_
 by_cases a5:left-(a.length:Int)<((0:Nat):Int)
 ·exact AE true Z Z (A5 a5) Aa<|Aj<|Ah Z<|ZO Z<|A1<|Ao<|Af [4] Z (zI (-1)) Z ⟨(by exact AS (K7 oM)),a1⟩
 refine AE false Z Z (A6 a5) Aa<|Aj<|Ai Z<|A2<|A0<|ZO Z<|A3 ?_
 refine AT (S:=Nat×Int) (fun⟨k,x⟩=>([(1,zI x),(5,zI (k:Int)),(0,va)])) (fun⟨k,x⟩ W=>AF w W∧k≤a.length∧x=left-(a.length:Int)-((Ex.sizes (a.take k):Nat):Int)+(k:Int)∧(0≤x∧x≤1048576)) (fun⟨k,x⟩=>a.length-k) (0,left-(a.length:Int)) ⟨rfl,rfl,rfl,trivial⟩ ⟨a1,sD,(by rw[List.take_zero,HN];omega),oM⟩ ?_
 clear a1
 rintro⟨k,x⟩ ρ2 w2 ⟨a0,a6,hx,a7⟩
 have ae:w.heap.size≤w2.heap.size:=a0.size
 refine A0<|ZN [0,0,0,0] Z<|Ad 2 Z<|AP (v:=va) OR Z ha.isSl Aa ?_
 by_cases a8:(k:Int)<(a.length:Int)
 ·refine AE true Z Z (A5 a8) Aa<|Aj<|Ah Z<|A2<|A0<|A3<|ZN [0,0,0,2,0,3,0] Z ?_
  have hst:=CW (l:=a) (k:=k) oM
  have hge:=FE a (k+1)
  have hsk:=Cd<|a.getD k Ex.zero
  refine Ad 2 Z<|Au (v:=va) k OR Sw Z Z ha.isSl Z sD Aa ?_
  obtain⟨cs4,af,ag⟩:=ha.get (Aq da) Ex.zero (k:=k) sD
  obtain⟨dd4,a2,aj,rfl,aa⟩:=RX.of af
  have a3:=aa.rn.lenle
  unfold maxLen at a3
  refine AJ (p:=Aw va k 5) (.inr Z) [zI<|(a.getD k Ex.zero).kind,zI<|(a.getD k Ex.zero).num,zI<|(a.getD k Ex.zero).pick,zI<|(a.getD k Ex.zero).count,a2] Sv Z (fun al ah=>ag al<|AA.of_ext []<|a0.trans ah) Z Aa<|Ad 1 Z<|Am 228 [] [] [.agg #[zI<|(a.getD k Ex.zero).kind,zI<|(a.getD k Ex.zero).num,zI<|(a.getD k Ex.zero).pick,zI<|(a.getD k Ex.zero).count,a2],zI x] Z Z Yj Aa (LX _ dd4 a2 (a.getD k Ex.zero) _ (aa.ext a0) oM oM (by intro w9 d9 v9 a9 l9 h1 h2 h3 h4;exact ih d9 oM w9 v9 a9 l9 h1 h2 h3)) ?_
  rintro e5 w5 ⟨rfl,a4⟩
  refine⟨_,rfl,a4,?_⟩
  have ai:=a4.size
  have ab:=a0.trans a4
  refine Ac 1 Z<|ZN [0,0] Z ?_
  have hzr:=MT (Ex.sizes (a.getD k Ex.zero).kids) (x:=x) oM
  refine Ad 1 Z ?_
  by_cases ac:J8 (Ex.sizes (a.getD k Ex.zero).kids) x<((0:Nat):Int)
  ·exact AE true Z Z (A5 ac) Aa<|Aj<|Ah Z<|ZO Z<|A1<|AH<|Ao<|Ao<|AH<|Ao<|Af [4] Z (zI (-1)) Z ⟨(by have hn:=J9 (t:=Ex.sizes (a.getD k Ex.zero).kids) (x:=x) oM oM;exact AS (K7 oM)),ab⟩
  refine AE false Z Z (A6 ac) Aa<|Aj<|Ai Z<|A2<|Ab _ [0,0,0] Z ?_
  have hzp:=Ku (t:=Ex.sizes (a.getD k Ex.zero).kids) (x:=x) oM
  refine Ad 1 Z<|AQ ((k+1:Nat):Int) Z Z (Be oM sD) Aa<|Ac 1 Z ?_
  exact⟨(k+1,J8 (Ex.sizes (a.getD k Ex.zero).kids) x),_,rfl,zR,⟨ab,sD,oM,oM⟩,zD⟩
 exact AE false Z Z (A6 a8) Aa<|Aj<|Ai Z<|A4<|Ay<|Ay<|At<|ZN [0,0] Z<|Ac 2 Z<|A1<|Af [4] Z (zI x) Z ⟨(by have hsa:=Jr (l:=a) (k:=k) oM;exact AS (Rw oM oM)),a0⟩
theorem LY (w:World)(dg:Nat)(vf:Value)(g:Fn)(left:Int)(hg:RF [] dg w.heap vf g)(_hleft:Bk left)(hL:0≤left∧left≤1048576)(hnm:g.name.size≤9223372036854775807) :
  Calls Tryz.prog 142 #[(.agg #[(.string g.name),(zI g.params),vf]),zI left] w (fun e w'=>e=.returned (zI (J8 g.sz left))∧AF w w'):=by
 refine As [.agg #[.string g.name,zI g.params,vf],zI left] 19 Tryz.func142 Z Z sM ?_
 have a7:AF w w:=AF.refl w
 have ab:=hg.rn.lenle
 unfold maxLen at ab
 have hgs:g.sz=g.name.size+Ex.sizes g.outs:=rfl
 refine ZN [3,0] Z (Bj (cs:=#[.string g.name,zI g.params,vf]) Z Aa fun w1 a3 aa a0=>?_)
 have a8:=a3.size
 have a1:=a7.trans a3
 replace a0:BX w1.heap w.heap.size [.string g.name,zI g.params,vf]:=a0
 refine Ac 1 Z<|ZN [0,0,2,0,0,0] Z<|Ad 1 Z<|Ak (p:=zP w.heap.size) 0 Q0 Z Z Aa<|Ae (p:=An (zP w.heap.size) 0) (.inr Z) (.string g.name) LU Z (a0.ldp (i:=0) sM) Aa<|Jp (s:=g.name) u9 Z Aa<|Bi (left-(g.name.size:Int)) Z Z (CT oM oM) Aa<|Ac 1 Z<|A0<|ZN [0,0] Z<|Ad 1 Z ?_
 by_cases a4:left-(g.name.size:Int)<((0:Nat):Int)
 ·exact AE true Z Z (A5 a4) Aa<|Aj<|Ah Z<|ZO Z<|A1<|Ao<|Af [4] Z (zI (-1)) Z ⟨(by exact AS (K7 oM)),a1⟩
 refine AE false Z Z (A6 a4) Aa<|Aj<|Ai Z<|A2<|ZN [0,2,0,3,0] Z<|Ak (p:=zP w.heap.size) 2 Q3 Z Z Aa<|Ae (p:=An (zP w.heap.size) 2) (.inr Z) vf N7 Z (a0.ldp (i:=2) sM) Aa<|Ad 1 Z<|Am 186 [] [] [vf,zI (left-(g.name.size:Int))] Z Z UI Aa (Lm _ dg vf (g.outs) _ (hg.rn.ext (Al<|Aq dg) a1) oM oM) ?_
 rintro e3 w3 ⟨rfl,a2⟩
 refine⟨_,rfl,a2,?_⟩
 have a9:=a2.size
 have a5:=a1.trans a2
 refine Ac 1 Z<|A0<|ZN [0,0] Z ?_
 have hzr:=MT (Ex.sizes g.outs) (x:=left-(g.name.size:Int)) oM
 refine Ad 1 Z ?_
 by_cases a6:J8 (Ex.sizes g.outs) (left-(g.name.size:Int))<((0:Nat):Int)
 ·exact AE true Z Z (A5 a6) Aa<|Aj<|Ah Z<|ZO Z<|A1<|Ao<|Af [4] Z (zI (-1)) Z ⟨(by have hn:=J9 (t:=Ex.sizes g.outs) (x:=left-(g.name.size:Int)) oM oM;exact AS (K7 oM)),a5⟩
 refine AE false Z Z (A6 a6) Aa<|Aj<|Ai Z<|A2<|ZN [0,0] Z ?_
 have hzp:=Ku (t:=Ex.sizes g.outs) (x:=left-(g.name.size:Int)) oM
 exact Ac 2 Z<|A1<|Af [4] Z (zI<|J8 (Ex.sizes g.outs) (left-(g.name.size:Int))) Z ⟨(by exact AS (Rw oM oM)),a5⟩
theorem Ln (w:World)(da:Nat)(va:Value)(a:List Fn)(left:Int)(ha:RP [] da w.heap va a)(_hleft:Bk left)(hL:0≤left∧left≤1048576)(hnm:∀k,k<a.length→(a.getD k Fn.zero).name.size≤9223372036854775807) :
  Calls Tryz.prog 87 #[va,zI left] w (fun e w'=>e=.returned (zI (J8 (MV a) left))∧AF w w'):=by
 refine As [va,zI left] 27 Tryz.func87 Z Z sM ?_
 have a1:AF w w:=AF.refl w
 have ah:=ha.lenle
 unfold maxLen at ah
 have hgs:MV a=a.length+Fn.szs a:=rfl
 refine ZO Z<|ZN [0,0,0,0,0] Z<|Ad 2 Z<|AP (v:=va) VO Z ha.isSl Aa<|Bi (left-(a.length:Int)) Z Z (CT oM oM) Aa<|Ac 1 Z<|A0<|ZN [0,0] Z<|Ad 1 Z ?_
 by_cases a6:left-(a.length:Int)<((0:Nat):Int)
 ·exact AE true Z Z (A5 a6) Aa<|Aj<|Ah Z<|ZO Z<|A1<|Ao<|Af [4] Z (zI (-1)) Z ⟨(by exact AS (K7 oM)),a1⟩
 refine AE false Z Z (A6 a6) Aa<|Aj<|Ai Z<|A2<|A0<|ZO Z<|A3 ?_
 refine AT (S:=Nat×Int) (fun⟨k,x⟩=>([(1,zI x),(5,zI (k:Int)),(0,va)])) (fun⟨k,x⟩ W=>AF w W∧k≤a.length∧x=left-(a.length:Int)-((Fn.szs (a.take k):Nat):Int)∧(0≤x∧x≤1048576)) (fun⟨k,x⟩=>a.length-k) (0,left-(a.length:Int)) ⟨rfl,rfl,rfl,trivial⟩ ⟨a1,sD,(by rw[List.take_zero,MU];omega),oM⟩ ?_
 clear a1
 rintro⟨k,x⟩ ρ2 w2 ⟨a0,a7,hx,a8⟩
 have ac:w.heap.size≤w2.heap.size:=a0.size
 refine A0<|ZN [0,0,0,0] Z<|Ad 2 Z<|AP (v:=va) VO Z ha.isSl Aa ?_
 by_cases a9:(k:Int)<(a.length:Int)
 ·refine AE true Z Z (A5 a9) Aa<|Aj<|Ah Z<|A2<|A0<|A3<|ZN [0,0,0,2,0,3,0] Z ?_
  have hst:=L6 (l:=a) (k:=k) oM
  have hge:=Hq a (k+1)
  refine Ad 2 Z<|Au (v:=va) k VO Su Z Z ha.isSl Z sD Aa ?_
  obtain⟨cs4,ad,ae⟩:=ha.get (Ax da) Fn.zero (k:=k) sD
  obtain⟨a2,rfl,a3⟩:=RF.of ad
  have a4:=a3.rn.lenle
  unfold maxLen at a4
  refine AJ (p:=Aw va k 3) (.inr Z) [.string<|(a.getD k Fn.zero).name,zI<|(a.getD k Fn.zero).params,a2] St Z (fun ai af=>ae ai<|AA.of_ext []<|a0.trans af) Z Aa<|Ad 1 Z<|Am 142 [] [] [.agg #[.string<|(a.getD k Fn.zero).name,zI<|(a.getD k Fn.zero).params,a2],zI x] Z Z XV Aa (LY _ da a2 (a.getD k Fn.zero) _ ⟨a3.rng,a3.rn.ext (Al<|Aq da) a0⟩ oM oM (by exact hnm k oM)) ?_
  rintro e5 w5 ⟨rfl,a5⟩
  refine⟨_,rfl,a5,?_⟩
  have ag:=a5.size
  have aa:=a0.trans a5
  refine Ac 1 Z<|ZN [0,0] Z ?_
  have hzr:=MT (a.getD k Fn.zero).sz (x:=x) oM
  refine Ad 1 Z ?_
  by_cases ab:J8 (a.getD k Fn.zero).sz x<((0:Nat):Int)
  ·exact AE true Z Z (A5 ab) Aa<|Aj<|Ah Z<|ZO Z<|A1<|AH<|Ao<|Ao<|AH<|Ao<|Af [4] Z (zI (-1)) Z ⟨(by have hn:=J9 (t:=(a.getD k Fn.zero).sz) (x:=x) oM oM;exact AS (K7 oM)),aa⟩
  refine AE false Z Z (A6 ab) Aa<|Aj<|Ai Z<|A2<|Ab _ [0,0,0] Z ?_
  have hzp:=Ku (t:=(a.getD k Fn.zero).sz) (x:=x) oM
  refine Ad 1 Z<|AQ ((k+1:Nat):Int) Z Z (Be oM sD) Aa<|Ac 1 Z ?_
  exact⟨(k+1,J8 (a.getD k Fn.zero).sz x),_,rfl,zR,⟨aa,sD,oM,oM⟩,zD⟩
 exact AE false Z Z (A6 a9) Aa<|Aj<|Ai Z<|A4<|Ay<|Ay<|At<|ZN [0,0] Z<|Ac 2 Z<|A1<|Af [4] Z (zI x) Z ⟨(by rw[za (show a.length≤k by omega)]at hx;exact AS (Rw oM oM)),a0⟩
theorem JF (w:World)(dp:Nat)(vp:Value)(p:List Fn)(left:Int)(hp:RP [] dp w.heap vp p)(_hleft:Bk left)(hL:0≤left∧left≤1048576)(hnm:∀k,k<p.length→(p.getD k Fn.zero).name.size≤9223372036854775807) :
  Calls Tryz.prog 31 #[(.agg #[vp]),zI left] w (fun e w'=>e=.returned (zI (J8 (MV p) left))∧AF w w'):=by
 refine As [.agg #[vp],zI left] 12 Tryz.func31 Z Z sM ?_
 have a6:AF w w:=AF.refl w
 have aa:=hp.lenle
 unfold maxLen at aa
 refine ZN [3,0] Z (Bj (cs:=#[vp]) Z Aa fun w1 a2 a9 a0=>?_)
 have a7:=a2.size
 have a3:=a6.trans a2
 replace a0:BX w1.heap w.heap.size [vp]:=a0
 refine Ac 1 Z<|ZN [0,2,0,3,0] Z<|Ak (p:=zP w.heap.size) 0 Sq Z Z Aa<|Ae (p:=An (zP w.heap.size) 0) (.inr Z) vp UU Z (a0.ldp (i:=0) sM) Aa<|Ad 1 Z<|Am 87 [] [] [vp,zI left] Z Z Zy Aa (Ln _ dp vp (p) _ (hp.ext (Al<|Ax dp) a3) _hleft oM hnm) ?_
 rintro e2 w2 ⟨rfl,a1⟩
 refine⟨_,rfl,a1,?_⟩
 have a8:=a1.size
 have a4:=a3.trans a1
 refine Ac 1 Z<|A0<|ZN [0,0] Z<|Ad 1 Z ?_
 by_cases a5:J8 (MV p) left<((0:Nat):Int)
 ·exact AE true Z Z (A5 a5) Aa<|Aj<|Ah Z<|ZO Z<|A1<|Ao<|Af [4] Z (zI (-1)) Z ⟨(by have hn:=J9 (t:=MV p) (x:=left) oM oM;exact AS (K7 oM)),a4⟩
 exact AE false Z Z (A6 a5) Aa<|Aj<|Ai Z<|A2<|ZN [0,0] Z<|Ac 2 Z<|A1<|Af [4] Z (zI<|J8 (MV p) left) Z ⟨AS Z,a4⟩
def QS (D:Nat):Prop:=∀(w:World) (d:Nat) (va:Value) (a:List Ex) (d':Nat) (vb:Value) (b:List Ex) (ha:RN [] (Cj 5 (H0 d)) w.heap va a) (hb:RN [] (Cj 5 (H0 d')) w.heap vb b) (hab:b=a) (hd:d≤D),Calls Tryz.prog 188 #[va,vb] w (fun e w'=>e=.returned (.bool true)∧AF w w')
theorem Gb {p:Prop}(h:p:=by first|exact AL Z|(exfalso;omega)|(exfalso;simp_all;done)):p:=h
theorem LZ (w:World)(da:Nat)(va:Value)(a:Ex)(db:Nat)(vb:Value)(b:Ex)(ha:RX [] da w.heap va a)(hb:RX [] db w.heap vb b)(hab:b=a)(IH:QS da) :
  Calls Tryz.prog 230 #[(.agg #[(zI a.kind),(zI a.num),(zI a.pick),(zI a.count),va]),(.agg #[(zI b.kind),(zI b.num),(zI b.pick),(zI b.count),vb])] w (fun e w'=>e=.returned (.bool true)∧AF w w'):=by
 refine As [.agg #[zI a.kind,zI a.num,zI a.pick,zI a.count,va],.agg #[zI b.kind,zI b.num,zI b.pick,zI b.count,vb]] 31 Tryz.func230 Z Z sM ?_
 have ab:AF w w:=AF.refl w
 have ao:=ha.rn.lenle
 unfold maxLen at ao
 have ap:=hb.rn.lenle
 unfold maxLen at ap
 have ah:b.kind=a.kind:=by rw[hab]
 have ai:b.num=a.num:=by rw[hab]
 have aj:b.pick=a.pick:=by rw[hab]
 have ak:b.count=a.count:=by rw[hab]
 refine ZN [3,3,0] Z (Bj (cs:=#[zI a.kind,zI a.num,zI a.pick,zI a.count,va]) Z Aa fun w1 a6 al a3=>?_)
 have ac:=a6.size
 have ad:=ab.trans a6
 replace a3:BX w1.heap w.heap.size [zI a.kind,zI a.num,zI a.pick,zI a.count,va]:=a3
 have am:=a3.lt
 refine Bj (cs:=#[zI b.kind,zI b.num,zI b.pick,zI b.count,vb]) Z Aa fun w2 a4 an a1=>?_
 have ae:=a4.size
 have a2:=ad.trans a4
 have a0:=a3.ext a4
 replace a1:BX w2.heap w1.heap.size [zI b.kind,zI b.num,zI b.pick,zI b.count,vb]:=a1
 refine Ac 1 Z<|A0<|ZN [0,2,0,2,0] Z<|Ak (p:=zP w.heap.size) 0 BC Z Z Aa<|Ae (p:=An (zP w.heap.size) 0) (.inr Z) (zI a.kind) AC Z (a0.ldp (i:=0) sM) Aa<|Ak (p:=zP w1.heap.size) 0 BC Z Z Aa<|Ae (p:=An (zP w1.heap.size) 0) (.inr Z) (zI b.kind) AC Z (a1.ldp (i:=0) sM) Aa ?_
 by_cases a7:a.kind≠b.kind
 ·exact AU true Z Z (A5 a7) Aa<|Aj<|Ah Z<|ZO Z<|A1<|Ao<|Af [4] Z (.bool false) Z ⟨Gb,a2⟩
 refine AU false Z Z (A6 a7) Aa<|Aj<|Ai Z<|A2<|A0<|ZN [0,2,0,2,0] Z<|Ak (p:=zP w.heap.size) 1 Bw Z Z Aa<|Ae (p:=An (zP w.heap.size) 1) (.inr Z) (zI a.num) AC Z (a0.ldp (i:=1) sM) Aa<|Ak (p:=zP w1.heap.size) 1 Bw Z Z Aa<|Ae (p:=An (zP w1.heap.size) 1) (.inr Z) (zI b.num) AC Z (a1.ldp (i:=1) sM) Aa ?_
 by_cases a8:a.num≠b.num
 ·exact AU true Z Z (A5 a8) Aa<|Aj<|Ah Z<|ZO Z<|A1<|Ao<|Af [4] Z (.bool false) Z ⟨Gb,a2⟩
 refine AU false Z Z (A6 a8) Aa<|Aj<|Ai Z<|A2<|A0<|ZN [0,2,0,2,0] Z<|Ak (p:=zP w.heap.size) 2 Cn Z Z Aa<|Ae (p:=An (zP w.heap.size) 2) (.inr Z) (zI a.pick) AC Z (a0.ldp (i:=2) sM) Aa<|Ak (p:=zP w1.heap.size) 2 Cn Z Z Aa<|Ae (p:=An (zP w1.heap.size) 2) (.inr Z) (zI b.pick) AC Z (a1.ldp (i:=2) sM) Aa ?_
 by_cases a9:a.pick≠b.pick
 ·exact AU true Z Z (A5 a9) Aa<|Aj<|Ah Z<|ZO Z<|A1<|Ao<|Af [4] Z (.bool false) Z ⟨Gb,a2⟩
 refine AU false Z Z (A6 a9) Aa<|Aj<|Ai Z<|A2<|A0<|ZN [0,2,0,2,0] Z<|Ak (p:=zP w.heap.size) 3 CC Z Z Aa<|Ae (p:=An (zP w.heap.size) 3) (.inr Z) (zI a.count) AC Z (a0.ldp (i:=3) sM) Aa<|Ak (p:=zP w1.heap.size) 3 CC Z Z Aa<|Ae (p:=An (zP w1.heap.size) 3) (.inr Z) (zI b.count) AC Z (a1.ldp (i:=3) sM) Aa ?_
 by_cases aa:a.count≠b.count
 ·exact AU true Z Z (A5 aa) Aa<|Aj<|Ah Z<|ZO Z<|A1<|Ao<|Af [4] Z (.bool false) Z ⟨Gb,a2⟩
 refine AU false Z Z (A6 aa) Aa<|Aj<|Ai Z<|A2<|A0<|ZN [0,2,0,2,3,0] Z<|Ak (p:=zP w.heap.size) 4 B8 Z Z Aa<|Ae (p:=An (zP w.heap.size) 4) (.inr Z) va Ba Z (a0.ldp (i:=4) sM) Aa<|Ak (p:=zP w1.heap.size) 4 B8 Z Z Aa<|Ae (p:=An (zP w1.heap.size) 4) (.inr Z) vb Ba Z (a1.ldp (i:=4) sM) Aa ?_
 refine Am 188 [] [] [va,vb] Z Z UK Aa (IH _ da va (a.kids) db vb (b.kids) (ha.rn.ext (Al<|Aq da) a2) (hb.rn.ext (Al<|Aq db) a2) (by rw[hab]) oM) ?_
 rintro e8 w8 ⟨rfl,a5⟩
 refine⟨_,rfl,a5,?_⟩
 have af:=a5.size
 have ag:=a2.trans a5
 exact Bd false Z Z Aa<|Aj<|Ai Z<|A2<|ZO Z<|A1<|Af [4] Z (.bool true) Z ⟨Gb,ag⟩
theorem Lo (w:World)(da:Nat)(va:Value)(a:List Ex)(db:Nat)(vb:Value)(b:List Ex)(ha:RN [] (Cj 5 (H0 da)) w.heap va a)(hb:RN [] (Cj 5 (H0 db)) w.heap vb b)(hab:b=a) :
  Calls Tryz.prog 188 #[va,vb] w (fun e w'=>e=.returned (.bool true)∧AF w w'):=by
 induction da using Nat.strongRecOn generalizing w va a db vb b
 rename_i da ih
 refine As [va,vb] 27 Tryz.func188 Z Z sM ?_
 have a2:AF w w:=AF.refl w
 have ao:=ha.lenle
 unfold maxLen at ao
 have ap:=hb.lenle
 unfold maxLen at ap
 have al:b.length=a.length:=by rw[hab]
 refine ZO Z<|A0<|ZN [0,0,0,0,0] Z<|Ad 1 Z<|AP (v:=va) CB Z ha.isSl Aa<|Ad 1 Z<|AP (v:=vb) CB Z hb.isSl Aa ?_
 by_cases a8:(a.length:Int)≠(b.length:Int)
 ·exact AU true Z Z (A5 a8) Aa<|Aj<|Ah Z<|ZO Z<|A1<|Ao<|Af [4] Z (.bool false) Z ⟨(by first|exact AL Z|(exfalso;omega)|(exfalso;simp_all;done)),a2⟩
 refine AU false Z Z (A6 a8) Aa<|Aj<|Ai Z<|A2<|A0<|ZO Z<|A3<|AT (S:=Nat) (fun k=>([(5,zI (k:Int)),(0,va),(1,vb)])) (fun k W=>AF w W∧k≤a.length) (fun k=>a.length-k) 0 ⟨rfl,rfl,rfl,trivial⟩ ⟨a2,sD⟩ ?_
 clear a2
 rintro k ρ2 w2 ⟨a0,aa⟩
 have ae:w.heap.size≤w2.heap.size:=a0.size
 refine A0<|ZN [0,0,0,0] Z<|Ad 2 Z<|AP (v:=va) CB Z ha.isSl Aa ?_
 by_cases ab:(k:Int)<(a.length:Int)
 ·refine AE true Z Z (A5 ab) Aa<|Aj<|Ah Z<|A2<|A0<|A3<|A0<|AO _ [0,0,0,1,0,0,0,1,3,0] mixed (by kernel_rfl)<|Ad 2 Z<|Au (v:=va) k CB Bf Z Z ha.isSl Z sD Aa ?_
  obtain⟨cs4,af,ag⟩:=ha.get (Aq da) Ex.zero (k:=k) sD
  obtain⟨dd4,a3,am,rfl,ac⟩:=RX.of af
  have a4:=ac.rn.lenle
  unfold maxLen at a4
  refine AJ (p:=Aw va k 5) (.inl Z) [zI<|(a.getD k Ex.zero).kind,zI<|(a.getD k Ex.zero).num,zI<|(a.getD k Ex.zero).pick,zI<|(a.getD k Ex.zero).count,a3] Bx Z (fun aq a5=>ag aq<|AA.of_ext []<|a0.drew.trans a5) Z Aa<|Ad 2 Z<|Au (v:=vb) k CB Bf Z Z hb.isSl Z sD Aa ?_
  obtain⟨cs5,ah,ai⟩:=hb.get (Aq db) Ex.zero (k:=k) sD
  obtain⟨dd5,a6,an,rfl,ad⟩:=RX.of ah
  have a7:=ad.rn.lenle
  unfold maxLen at a7
  refine AJ (p:=Aw vb k 5) (.inl Z) [zI<|(b.getD k Ex.zero).kind,zI<|(b.getD k Ex.zero).num,zI<|(b.getD k Ex.zero).pick,zI<|(b.getD k Ex.zero).count,a6] Bx Z (fun aq a5=>ai aq<|AA.of_ext []<|a0.drew.trans a5) Z Aa ?_
  refine Am 230 [] [] [.agg #[zI<|(a.getD k Ex.zero).kind,zI<|(a.getD k Ex.zero).num,zI<|(a.getD k Ex.zero).pick,zI<|(a.getD k Ex.zero).count,a3],.agg #[zI<|(b.getD k Ex.zero).kind,zI<|(b.getD k Ex.zero).num,zI<|(b.getD k Ex.zero).pick,zI<|(b.getD k Ex.zero).count,a6]] Z Z Yl Aa (LZ _ dd4 a3 (a.getD k Ex.zero) dd5 a6 (b.getD k Ex.zero) (ac.ext a0.drew) (ad.ext a0.drew) (by rw[hab]) (by intro w9 d9 v9 a9 e9 u9 b9 h1 h2 h3 h4;exact ih d9 oM w9 v9 a9 e9 u9 b9 h1 h2 h3)) ?_
  rintro e6 w6 ⟨rfl,a1⟩
  refine⟨_,rfl,a1,?_⟩
  replace a1:=a1.of_drew
  have aj:=a1.size
  have ak:=a0.trans a1
  refine Bd false Z Z Aa<|Aj<|Ai Z<|A2<|Ab _ [0,0,0] Z<|Ad 1 Z<|AQ ((k+1:Nat):Int) Z Z (Be oM sD) Aa<|Ac 1 Z ?_
  exact⟨k+1,_,rfl,zR,⟨ak,sD⟩,zD⟩
 exact AE false Z Z (A6 ab) Aa<|Aj<|Ai Z<|A4<|Ay<|Ay<|At<|ZO Z<|A1<|Af [4] Z (.bool true) Z ⟨(by first|exact AL Z|(exfalso;omega)|(exfalso;simp_all;done)),a0⟩
theorem Qq (s:ByteArray):Gi s s=true:=by unfold Gi;simp
theorem M0 (w:World)(da:Nat)(va:Value)(a:Fn)(db:Nat)(vb:Value)(b:Fn)(ha:RF [] da w.heap va a)(hb:RF [] db w.heap vb b)(hab:b=a) :
  Calls Tryz.prog 144 #[(.agg #[(.string a.name),(zI a.params),va]),(.agg #[(.string b.name),(zI b.params),vb])] w (fun e w'=>e=.returned (.bool true)∧AF w w'):=by
 refine As [.agg #[.string a.name,zI a.params,va],.agg #[.string b.name,zI b.params,vb]] 21 Tryz.func144 Z Z sM ?_
 have a9:AF w w:=AF.refl w
 have ak:=ha.rn.lenle
 unfold maxLen at ak
 have al:=hb.rn.lenle
 unfold maxLen at al
 have af:b.params=a.params:=by rw[hab]
 have ag:Gi a.name b.name=true:=by rw[hab];exact Qq _
 refine ZN [3,3,0] Z (Bj (cs:=#[.string a.name,zI a.params,va]) Z Aa fun w1 a6 ah a3=>?_)
 have aa:=a6.size
 have ab:=a9.trans a6
 replace a3:BX w1.heap w.heap.size [.string a.name,zI a.params,va]:=a3
 have ai:=a3.lt
 refine Bj (cs:=#[.string b.name,zI b.params,vb]) Z Aa fun w2 a4 aj a1=>?_
 have ac:=a4.size
 have a2:=ab.trans a4
 have a0:=a3.ext a4
 replace a1:BX w2.heap w1.heap.size [.string b.name,zI b.params,vb]:=a1
 refine Ac 1 Z<|A0<|ZN [0,2,0,2,0] Z<|Ak (p:=zP w.heap.size) 0 G8 Z Z Aa<|Ae (p:=An (zP w.heap.size) 0) (.inr Z) (.string a.name) LU Z (a0.ldp (i:=0) sM) Aa<|Ak (p:=zP w1.heap.size) 0 G8 Z Z Aa<|Ae (p:=An (zP w1.heap.size) 0) (.inr Z) (.string b.name) LU Z (a1.ldp (i:=0) sM) Aa ?_
 cases a7:(!Gi a.name b.name)
 ·refine QK false u9 Z Z a7 Aa<|Aj<|Ai Z<|A2<|A0<|ZN [0,2,0,2,0] Z<|Ak (p:=zP w.heap.size) 1 Ct Z Z Aa<|Ae (p:=An (zP w.heap.size) 1) (.inr Z) (zI a.params) AC Z (a0.ldp (i:=1) sM) Aa<|Ak (p:=zP w1.heap.size) 1 Ct Z Z Aa<|Ae (p:=An (zP w1.heap.size) 1) (.inr Z) (zI b.params) AC Z (a1.ldp (i:=1) sM) Aa ?_
  by_cases a8:a.params≠b.params
  ·exact AU true Z Z (A5 a8) Aa<|Aj<|Ah Z<|ZO Z<|A1<|Ao<|Af [4] Z (.bool false) Z ⟨Gb,a2⟩
  refine AU false Z Z (A6 a8) Aa<|Aj<|Ai Z<|A2<|A0<|ZN [0,2,0,2,3,0] Z<|Ak (p:=zP w.heap.size) 2 BQ Z Z Aa<|Ae (p:=An (zP w.heap.size) 2) (.inr Z) va Ba Z (a0.ldp (i:=2) sM) Aa<|Ak (p:=zP w1.heap.size) 2 BQ Z Z Aa<|Ae (p:=An (zP w1.heap.size) 2) (.inr Z) vb Ba Z (a1.ldp (i:=2) sM) Aa<|Am 188 [] [] [va,vb] Z Z UK Aa (Lo _ da va (a.outs) db vb (b.outs) (ha.rn.ext (Al<|Aq da) a2) (hb.rn.ext (Al<|Aq db) a2) (by rw[hab])) ?_
  rintro e6 w6 ⟨rfl,a5⟩
  refine⟨_,rfl,a5,?_⟩
  have ad:=a5.size
  have ae:=a2.trans a5
  exact Bd false Z Z Aa<|Aj<|Ai Z<|A2<|ZO Z<|A1<|Af [4] Z (.bool true) Z ⟨Gb,ae⟩
 exact QK true u9 Z Z a7 Aa<|Aj<|Ah Z<|ZO Z<|A1<|Ao<|Af [4] Z (.bool false) Z ⟨Gb,a2⟩
theorem Lp (w:World)(da:Nat)(va:Value)(a:List Fn)(db:Nat)(vb:Value)(b:List Fn)(ha:RP [] da w.heap va a)(hb:RP [] db w.heap vb b)(hab:b=a) :
  Calls Tryz.prog 89 #[va,vb] w (fun e w'=>e=.returned (.bool true)∧AF w w'):=by
 refine As [va,vb] 27 Tryz.func89 Z Z sM ?_
 have a2:AF w w:=AF.refl w
 have al:=ha.lenle
 unfold maxLen at al
 have am:=hb.lenle
 unfold maxLen at am
 have ak:b.length=a.length:=by rw[hab]
 refine ZO Z<|A0<|ZN [0,0,0,0,0] Z<|Ad 1 Z<|AP (v:=va) Fq Z ha.isSl Aa<|Ad 1 Z<|AP (v:=vb) Fq Z hb.isSl Aa ?_
 by_cases aa:(a.length:Int)≠(b.length:Int)
 ·exact AU true Z Z (A5 aa) Aa<|Aj<|Ah Z<|ZO Z<|A1<|Ao<|Af [4] Z (.bool false) Z ⟨Gb,a2⟩
 refine AU false Z Z (A6 aa) Aa<|Aj<|Ai Z<|A2<|A0<|ZO Z<|A3<|AT (S:=Nat) (fun k=>([(5,zI (k:Int)),(0,va),(1,vb)])) (fun k W=>AF w W∧k≤a.length) (fun k=>a.length-k) 0 ⟨rfl,rfl,rfl,trivial⟩ ⟨a2,sD⟩ ?_
 clear a2
 rintro k ρ2 w2 ⟨a0,ab⟩
 have ad:w.heap.size≤w2.heap.size:=a0.size
 refine A0<|ZN [0,0,0,0] Z<|Ad 2 Z<|AP (v:=va) Fq Z ha.isSl Aa ?_
 by_cases ac:(k:Int)<(a.length:Int)
 ·refine AE true Z Z (A5 ac) Aa<|Aj<|Ah Z<|A2<|A0<|A3<|A0<|AO _ [0,0,0,1,0,0,0,1,3,0] mixed (by kernel_rfl)<|Ad 2 Z<|Au (v:=va) k Fq C9 Z Z ha.isSl Z sD Aa ?_
  obtain⟨cs4,ae,af⟩:=ha.get (Ax da) Fn.zero (k:=k) sD
  obtain⟨a3,rfl,a4⟩:=RF.of ae
  have a5:=a4.rn.lenle
  unfold maxLen at a5
  refine AJ (p:=Aw va k 3) (.inl Z) [.string<|(a.getD k Fn.zero).name,zI<|(a.getD k Fn.zero).params,a3] Hu Z (fun an a6=>af an<|AA.of_ext []<|a0.drew.trans a6) Z Aa<|Ad 2 Z<|Au (v:=vb) k Fq C9 Z Z hb.isSl Z sD Aa ?_
  obtain⟨cs5,ag,ah⟩:=hb.get (Ax db) Fn.zero (k:=k) sD
  obtain⟨a7,rfl,a8⟩:=RF.of ag
  have a9:=a8.rn.lenle
  unfold maxLen at a9
  refine AJ (p:=Aw vb k 3) (.inl Z) [.string<|(b.getD k Fn.zero).name,zI<|(b.getD k Fn.zero).params,a7] Hu Z (fun an a6=>ah an<|AA.of_ext []<|a0.drew.trans a6) Z Aa<|Am 144 [] [] [.agg #[.string<|(a.getD k Fn.zero).name,zI<|(a.getD k Fn.zero).params,a3],.agg #[.string<|(b.getD k Fn.zero).name,zI<|(b.getD k Fn.zero).params,a7]] Z Z XX Aa (M0 _ da a3 (a.getD k Fn.zero) db a7 (b.getD k Fn.zero) ⟨a4.rng,a4.rn.ext (Al<|Aq da) a0.drew⟩ ⟨a8.rng,a8.rn.ext (Al<|Aq db) a0.drew⟩ (by rw[hab])) ?_
  rintro e6 w6 ⟨rfl,a1⟩
  refine⟨_,rfl,a1,?_⟩
  replace a1:=a1.of_drew
  have ai:=a1.size
  have aj:=a0.trans a1
  refine Bd false Z Z Aa<|Aj<|Ai Z<|A2<|Ab _ [0,0,0] Z<|Ad 1 Z<|AQ ((k+1:Nat):Int) Z Z (Be oM sD) Aa<|Ac 1 Z ?_
  exact⟨k+1,_,rfl,zR,⟨aj,sD⟩,zD⟩
 exact AE false Z Z (A6 ac) Aa<|Aj<|Ai Z<|A4<|Ay<|Ay<|At<|ZO Z<|A1<|Af [4] Z (.bool true) Z ⟨Gb,a0⟩
theorem JG (w:World)(da:Nat)(va:Value)(a:List Fn)(db:Nat)(vb:Value)(b:List Fn)(ha:RP [] da w.heap va a)(hb:RP [] db w.heap vb b)(hab:b=a) :
  Calls Tryz.prog 35 #[(.agg #[va]),(.agg #[vb])] w (fun e w'=>e=.returned (.bool true)∧AF w w'):=by
 refine As [.agg #[va],.agg #[vb]] 11 Tryz.func35 Z Z sM ?_
 have a7:AF w w:=AF.refl w
 have ag:=ha.lenle
 unfold maxLen at ag
 have ah:=hb.lenle
 unfold maxLen at ah
 refine ZN [3,3,0] Z (Bj (cs:=#[va]) Z Aa fun w1 a6 ad a1=>?_)
 have a8:=a6.size
 have a9:=a7.trans a6
 replace a1:BX w1.heap w.heap.size [va]:=a1
 have ae:=a1.lt
 refine Bj (cs:=#[vb]) Z Aa fun w2 a2 af a3=>?_
 have aa:=a2.size
 have a4:=a9.trans a2
 have a0:=a1.ext a2
 replace a3:BX w2.heap w1.heap.size [vb]:=a3
 refine Ac 1 Z<|A0<|ZN [0,2,0,2,3,0] Z<|Ak (p:=zP w.heap.size) 0 BA Z Z Aa<|Ae (p:=An (zP w.heap.size) 0) (.inr Z) va C5 Z (a0.ldp (i:=0) sM) Aa<|Ak (p:=zP w1.heap.size) 0 BA Z Z Aa<|Ae (p:=An (zP w1.heap.size) 0) (.inr Z) vb C5 Z (a3.ldp (i:=0) sM) Aa<|Am 89 [] [] [va,vb] Z Z ZA Aa (Lp _ da va (a) db vb (b) (ha.ext (Al<|Ax da) a4) (hb.ext (Al<|Ax db) a4) hab) ?_
 rintro e4 w4 ⟨rfl,a5⟩
 refine⟨_,rfl,a5,?_⟩
 have ab:=a5.size
 have ac:=a4.trans a5
 exact Bd false Z Z Aa<|Aj<|Ai Z<|A2<|ZO Z<|A1<|Af [4] Z (.bool true) Z ⟨(by first|exact AL Z|(exfalso;omega)|(exfalso;simp_all;done)),ac⟩
end
end Go.Proofs.YtjnbnlniafmblaaGreat
