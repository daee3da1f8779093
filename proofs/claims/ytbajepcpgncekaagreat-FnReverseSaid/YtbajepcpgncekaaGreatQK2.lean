/- Nb, Nc, Nd, Ne, Gd, Ge, Gu, Gv, Gw, Gx, Nf, Ng, Nh, Ni, Nk, Nl, Gf, Gg, Gj, Gk, Gh, Gl, Gm, Gr, Gq, Gp, Gs, Gy, Gz, Ha, Hb, Hc, Hd, Hf, Hg, Hh, Hi, Hj, Hn, Hv, Hw, T, Sa, Sb, Sf: texts of this claim, joined; what the claim does not come to is left out. -/
import Derived.Test.YtbajepcpgncekaaGreatQK1
import Derived.Test.YtbajepcpgncekaaGreatProg
set_option linter.unusedVariables false
set_option linter.unusedSimpArgs false
namespace Go.Proofs.YtbajepcpgncekaaGreat
open Go Go.RowKit
abbrev Sr:=List Int
def cst (n:Nat)(x:Int):Sr:=(List.replicate n 0).set 0 x
inductive Rs (α:Type) where
 |ok (x:α) (s:Nat)
 |err (c:Int)
structure Ca where
 one:Nat→Nat→List Sr→Nat→Rs Sr
 all:Nat→List Sr→Nat→Rs (List Sr)
def Rs.bind {α β:Type}(r:Rs α)(f:α→Nat→Rs β):Rs β:=match r with
 |.ok x s=>f x s
 |.err c=>.err c
theorem Rs.bind_ok {α β:Type}(x:α)(s:Nat)(f:α→Nat→Rs β):(Rs.ok x s).bind f=f x s:=rfl
theorem Rs.bind_err {α β:Type}(c:Int)(f:α→Nat→Rs β):(Rs.err c:Rs α).bind f=.err c:=rfl
theorem Rs.bind_assoc {α β γ:Type}(r:Rs α)(f:α→Nat→Rs β)(h:β→Nat→Rs γ):(r.bind f).bind h=r.bind fun x s=>(f x s).bind h:=by cases r <;> rfl
def Hr (f:List Sr→Nat→Rs (List Sr)):Nat→List Sr→Nat→Rs (List Sr)
 |0,a,s=>.ok a s
 |k+1,a,s=>(Hr f k a s).bind f
def K7 (k:Int)(xs:List Sr)(t:Nat):Rs Sr :=
 if k=3 then .ok (DF (xs.getD 0 []) (xs.getD 1 [])) t
 else if k=4 then .ok (EE (xs.getD 0 []) (xs.getD 1 [])) t
 else if k=5 then .ok (C5 (xs.getD 0 []) (xs.getD 1 [])) t
 else if k=7 then .ok (Ci (xs.getD 0 []) 1000002) t
 else if (xs.getD 1 []).getD 0 0=0 then .err 6 else .ok (BP (xs.getD 0 []) (xs.getD 1 [])) t
mutual
def Cf (n:Nat)(C:Ca):Ex→List Sr→Nat→Rs Sr
 |.mk k num pick cnt l,env,s =>
  if 3000≤s then .err 7
  else if k=1 then .ok (cst n num) (s+1)
  else if k=2 then .ok (env.getD num.toNat []) (s+1)
  else if k=8 then(HQ n C l 0 env (s+1)).bind fun x t=>if x.getD 0 0=0 then HQ n C l 1 env t else HQ n C l 2 env t
  else if k=9 then(HQ n C l 0 env (s+1)).bind fun x t=>HQ n C l 1 (env++[x]) t
  else(D9 n C l env (s+1)).bind fun xs t =>
   if k=10 then C.one num.toNat pick.toNat xs t
   else if k=11 then(Hr (C.all num.toNat) cnt.toNat xs t).bind fun ys u=>.ok (ys.getD pick.toNat []) u
   else K7 k xs t
def HQ (n:Nat)(C:Ca):List Ex→Nat→List Sr→Nat→Rs Sr
 |[],_,_,_=>.err 0
 |e::_,0,env,s=>Cf n C e env s
 |_::l,j+1,env,s=>HQ n C l j env s
def D9 (n:Nat)(C:Ca):List Ex→List Sr→Nat→Rs (List Sr)
 |[],_,s=>.ok [] s
 |e::l,env,s=>(Cf n C e env s).bind fun x t=>(D9 n C l env t).bind fun xs u=>.ok (x::xs) u
end
theorem Dj (n:Nat)(C:Ca)(env:List Sr)(s:Nat):∀(l:List Ex)(j:Nat),j<l.length→HQ n C l j env s=Cf n C (l.getD j Ex.zero) env s
 |[],j,h=>by simp at h
 |e::l,0,_=>by rw[HQ];rfl
 |e::l,j+1,h=>by rw[HQ,Dj n C env s l j (by simpa using h)];simp
theorem Nk (n:Nat)(C:Ca)(env:List Sr)(e:Ex):∀(l:List Ex)(s:Nat),D9 n C (l++[e]) env s=(D9 n C l env s).bind fun xs t=>(Cf n C e env t).bind fun x u=>.ok (xs++[x]) u
 |[],s=>by
  rw[zl,D9,D9]
  simp only[Rs.bind_ok]
  cases Cf n C e env s <;> simp only[Rs.bind_ok,Rs.bind_err,D9] <;> rfl
 |a::l,s=>by
  rw[List.cons_append,D9,D9]
  cases Cf n C a env s with
  |err c=>rfl
  |ok x t =>
   simp only[Rs.bind_ok]
   rw[Nk n C env e l t]
   simp only[Rs.bind_assoc]
   cases D9 n C l env t with
   |err c=>rfl
   |ok xs u =>
    simp only[Rs.bind_ok]
    cases Cf n C e env u <;> rfl
theorem QW {n:Nat}{C:Ca}{env:List Sr}{s:Nat}{l:List Ex}{k:Nat}(hk:k<l.length):D9 n C (l.take (k+1)) env s=(D9 n C (l.take k) env s).bind fun xs t=>(Cf n C (l.getD k Ex.zero) env t).bind fun x u=>.ok (xs++[x]) u:=by
 rw[List.take_succ_eq_append_getElem hk,Nk]
 simp[hk]
theorem Eu (n:Nat)(C:Ca)(e:Ex)(env:List Sr)(s:Nat):Cf n C e env s =
  if 3000≤s then .err 7
  else if e.kind=1 then .ok (cst n e.num) (s+1)
  else if e.kind=2 then .ok (env.getD e.num.toNat []) (s+1)
  else if e.kind=8 then(HQ n C e.kids 0 env (s+1)).bind fun x t=>if x.getD 0 0=0 then HQ n C e.kids 1 env t else HQ n C e.kids 2 env t
  else if e.kind=9 then(HQ n C e.kids 0 env (s+1)).bind fun x t=>HQ n C e.kids 1 (env++[x]) t
  else(D9 n C e.kids env (s+1)).bind fun xs t =>
   if e.kind=10 then C.one e.num.toNat e.pick.toNat xs t
   else if e.kind=11 then(Hr (C.all e.num.toNat) e.count.toNat xs t).bind fun ys u=>.ok (ys.getD e.pick.toNat []) u
   else K7 e.kind xs t:=by cases e;rw[Cf];rfl
def E4 (p:List Fn)(n:Nat):Nat→Ca
 |0=>⟨fun _ _ _ _=>.err 0,fun _ _ _=>.err 0⟩
 |k+1=>⟨fun f j a s=>if f=k then Cf n (E4 p n k) ((p.getD k Fn.zero).outs.getD j Ex.zero) a s else(E4 p n k).one f j a s,
   fun f a s=>if f=k then D9 n (E4 p n k) (p.getD k Fn.zero).outs a s else(E4 p n k).all f a s⟩
theorem Mo {p:List Fn}{n f j:Nat}{a:List Sr}{s:Nat}:∀ {F:Nat},f<F→(E4 p n F).one f j a s=Cf n (E4 p n f) ((p.getD f Fn.zero).outs.getD j Ex.zero) a s
 |0,h=>by omega
 |F+1,h=>by
  show(if f=F then _ else _)=_
  split
  ·rename_i e;rw[e]
  ·exact Mo zO
theorem Hs {p:List Fn}{n f:Nat}{a:List Sr}{s:Nat}:∀ {F:Nat},f<F→(E4 p n F).all f a s=D9 n (E4 p n f) (p.getD f Fn.zero).outs a s
 |0,h=>by omega
 |F+1,h=>by
  show(if f=F then _ else _)=_
  split
  ·rename_i e;rw[e]
  ·exact Hs zO
def ev (p:List Fn)(n f:Nat)(a:List Sr):Rs (List Sr):=D9 n (E4 p n f) (p.getD f Fn.zero).outs a 0
def go {α:Type}(c:Int)(r:Rs α):Rs α:=if c=0 then r else .err c
theorem Cr {α:Type}(r:Rs α):go 0 r=r:=rfl
theorem Da {α:Type}{c:Int}(h:c≠0)(r:Rs α):go c r=.err c:=if_neg h
def C0 (n:Nat)(env:List Sr):Prop:=∀k,k<env.length→Cb n (env.getD k [])
def AH {α:Type}(r:Rs α)(x:α)(s:Nat)(c:Int):Prop:=match r with
 |.ok y t=>x=y∧s=t∧c=0
 |.err d=>c=d∧d≠0
theorem AH.ok {α:Type}{r:Rs α}{x:α}{s:Nat}(h:AH r x s 0):r=.ok x s:=by
 cases r with
 |ok y t=>obtain⟨rfl,rfl,_⟩:=h;rfl
 |err d=>exact absurd h.1.symm h.2
theorem AH.err {α:Type}{r:Rs α}{x:α}{s:Nat}{c:Int}(h:AH r x s c)(hc:c≠0):r=.err c:=by
 cases r with
 |ok y t=>exact absurd h.2.2 hc
 |err d=>rw[h.1]
theorem AH.mk_ok {α:Type}{r:Rs α}{x:α}{s:Nat}(h:r=.ok x s):AH r x s 0:=by subst h;exact⟨rfl,rfl,rfl⟩
theorem AH.mk_err {α:Type}{r:Rs α}{x:α}{s:Nat}{c:Int}(h:r=.err c)(hc:c≠0):AH r x s c:=by subst h;exact⟨rfl,hc⟩
theorem AH.bindE {α β:Type}{r:Rs α}{x:α}{s:Nat}{c:Int}(h:AH r x s c)(hc:c≠0){f:α→Nat→Rs β}:r.bind f=.err c:=by rw[h.err hc];rfl
theorem AH.bindO {α β:Type}{r:Rs α}{x:α}{s:Nat}(h:AH r x s 0){f:α→Nat→Rs β}:r.bind f=f x s:=by rw[h.ok];rfl
theorem K8 (n:Nat)(x:Int):(cst n x).length=n:=by simp[cst]
theorem H5 (n:Nat):B2 (List.replicate n 0)=true:=by
 unfold B2
 rw[zm]
 intro y hy
 rw[List.eq_of_mem_replicate hy];decide
theorem DM {n:Nat}{x:Int}(h:HP x=true):Cb n (cst n x):=by
 refine⟨K8 n x,?_⟩
 unfold cst B2
 rw[zm]
 intro y hy
 rcases List.mem_or_eq_of_mem_set hy with hy|rfl
 ·rw[List.eq_of_mem_replicate hy];decide
 ·exact h
theorem C0.snoc {n:Nat}{env:List Sr}{x:Sr}(h:C0 n env)(hx:Cb n x):C0 n (env++[x]):=by
 intro k hk
 rw[z4,zd]at hk
 by_cases e:k<env.length
 ·rw[GM e];exact h k e
 ·have:k=env.length:=by omega
  rw[GY this];exact hx
section
structure HE (p:List Fn):Prop where
 par:∀k,k<p.length→0≤(p.getD k Fn.zero).params∧(p.getD k Fn.zero).params≤12
 outs:∀k,k<p.length→1≤(p.getD k Fn.zero).outs.length∧(p.getD k Fn.zero).outs.length≤12
 deep:∀k,k<p.length→∀j,j<(p.getD k Fn.zero).outs.length→((p.getD k Fn.zero).outs.getD j Ex.zero).deep≤60
 wf:∀k,k<p.length→∀j,j<(p.getD k Fn.zero).outs.length→wf p ((k:Nat):Int) ((p.getD k Fn.zero).outs.getD j Ex.zero) (p.getD k Fn.zero).params=true
theorem BJ {x a b:Int}:GS x a b=true↔a≤x∧x≤b:=by unfold GS;simp
theorem CN {p:List Fn}{F vars:Int}{e:Ex}(h:Gl p F vars e=true) :
  (e.kind=1∨e.kind=2∨e.kind=3∨e.kind=4∨e.kind=5∨e.kind=6∨e.kind=7∨e.kind=8∨e.kind=9∨e.kind=10∨e.kind=11) ∧
  (e.kind=2→0≤e.num∧e.num≤vars-1)∧(e.kind=3∨e.kind=4∨e.kind=5∨e.kind=6∨e.kind=9→e.kids.length=2)∧(e.kind=7→e.kids.length=1)∧(e.kind=8→e.kids.length=3) ∧
  (e.kind=10∨e.kind=11→0≤e.num∧e.num≤F-1∧(e.kids.length:Int)=(p.getD e.num.toNat Fn.zero).params∧0≤e.pick∧e.pick≤((p.getD e.num.toNat Fn.zero).outs.length:Int)-1) ∧
  (e.kind=11→((p.getD e.num.toNat Fn.zero).outs.length:Int)=(p.getD e.num.toNat Fn.zero).params∧0≤e.count∧e.count≤8)∧(e.kind=1→0≤e.num∧e.num<1000003):=by
 unfold Gl at h
 split at h
 ·simp only[z7,decide_eq_true_eq,Ce]at h;omega
 ·split at h
  ·simp only[z7,decide_eq_true_eq,BJ]at h;omega
  ·split at h
   ·simp only[z7,decide_eq_true_eq]at h;omega
   ·split at h
    ·simp only[z7,decide_eq_true_eq]at h;omega
    ·split at h
     ·simp only[z7,decide_eq_true_eq]at h;omega
     ·split at h
      ·simp only[z7,decide_eq_true_eq,BJ]at h
       obtain⟨h1,h2,h3,h4⟩:=h
       split at h4
       ·simp only[decide_eq_true_eq]at h4;omega
       ·simp only[z7,decide_eq_true_eq,BJ]at h4;omega
      ·cases h
theorem CB {p:List Fn}{F vars:Int}{e:Ex}(h:wf p F e vars=true):Gl p F vars e=true:=by
 rw[LS,z7]at h;exact h.1
theorem U0 {p:List Fn}{F vars:Int}{e:Ex}(h:wf p F e vars=true){j:Nat}(hj:j<e.kids.length):wf p F (e.kids.getD j Ex.zero) (if e.kind=9∧j=1 then vars+1 else vars)=true:=by
 rw[LS,z7]at h
 have:=(K3 p F _ vars e.kids 0).1 h.2 j hj
 rw[Nat.zero_add]at this
 simpa only[decide_eq_true_eq]using this
theorem Dz {p:List Fn}{F vars:Int}{e:Ex}(h:wf p F e vars=true){j:Nat}(hj:j<e.kids.length)(hn:¬(e.kind=9∧j=1)):wf p F (e.kids.getD j Ex.zero) vars=true:=by
 have:=U0 h hj
 rwa [if_neg hn]at this
theorem Je {p:List Fn}{F vars:Int}{e:Ex}(h:wf p F e vars=true)(hj:1<e.kids.length)(hk:e.kind=9):wf p F (e.kids.getD 1 Ex.zero) (vars+1)=true:=by
 have:=U0 h hj
 rwa [if_pos ⟨hk,rfl⟩]at this
section
variable {p:List Fn} {F:Nat} {vars:Int} {e:Ex}
theorem O4 (h:wf p ((F:Nat):Int) e vars=true)(hk:e.kind=1):0≤e.num∧e.num<1000003:=(CN (CB h)).2.2.2.2.2.2.2 hk
theorem O5 (h:wf p ((F:Nat):Int) e vars=true)(hk:e.kind=2):0≤e.num∧e.num≤vars-1:=(CN (CB h)).2.1 hk
theorem QX (h:wf p ((F:Nat):Int) e vars=true)(hk:e.kind=8):e.kids.length=3:=(CN (CB h)).2.2.2.2.1 hk
theorem O6 (h:wf p ((F:Nat):Int) e vars=true)(hk:e.kind=9):e.kids.length=2:=(CN (CB h)).2.2.1 zO
theorem O7 (h:wf p ((F:Nat):Int) e vars=true)(hk:e.kind=7):e.kids.length=1:=(CN (CB h)).2.2.2.1 hk
theorem Jf (h:wf p ((F:Nat):Int) e vars=true)(hk:e.kind=3∨e.kind=4∨e.kind=5∨e.kind=6):e.kids.length=2:=(CN (CB h)).2.2.1 zO
theorem Ht (h:wf p ((F:Nat):Int) e vars=true)(hk:e.kind=10∨e.kind=11):(0≤e.num∧e.num≤((F:Nat):Int)-1)∧(e.kids.length:Int)=(p.getD e.num.toNat Fn.zero).params∧(0≤e.pick∧e.pick≤((p.getD e.num.toNat Fn.zero).outs.length:Int)-1):=by
 have:=(CN (CB h)).2.2.2.2.2.1 hk
 exact⟨⟨this.1,this.2.1⟩,this.2.2.1,this.2.2.2⟩
theorem Mp (h:wf p ((F:Nat):Int) e vars=true)(hk:e.kind=11):((p.getD e.num.toNat Fn.zero).outs.length:Int)=(p.getD e.num.toNat Fn.zero).params∧(0≤e.count∧e.count≤8):=(CN (CB h)).2.2.2.2.2.2.1 hk
theorem Vj (h:wf p ((F:Nat):Int) e vars=true)(hk:(e.kind≠1∧e.kind≠2∧e.kind≠8∧e.kind≠9)∧(e.kind≠10∧e.kind≠11∧e.kind≠3∧e.kind≠4∧e.kind≠5∧e.kind≠7)):e.kind=6:=by
 have:=(CN (CB h)).1
 omega
theorem Vk (h:wf p ((F:Nat):Int) e vars=true)(hk:(e.kind≠1∧e.kind≠2∧e.kind≠7∧e.kind≠8)∧(e.kind≠9∧e.kind≠10∧e.kind≠11)):e.kind=3∨e.kind=4∨e.kind=5∨e.kind=6:=by
 have:=(CN (CB h)).1
 omega
theorem QY (h:wf p ((F:Nat):Int) e vars=true)(hv:HE p)(hF:F≤p.length):e.kids.length≤12:=by
 have hq:=CN<|CB h
 by_cases h10:e.kind=10∨e.kind=11
 ·have h1:=Ht h h10
  have:=hv.par e.num.toNat zO
  omega
 ·have h1:=hq.1;have h2:=hq.2.2.1;have h3:=hq.2.2.2.1;have h4:=hq.2.2.2.2.1
  by_cases hl:e.kind=1∨e.kind=2
  ·have h5:=CB h
   unfold Gl at h5
   rcases hl with hl|hl
   ·rw[if_pos hl]at h5;simp only[z7,decide_eq_true_eq]at h5;omega
   ·rw[if_neg zO,if_pos hl]at h5;simp only[z7,decide_eq_true_eq]at h5;omega
  ·omega
end
section
variable {n:Nat} {C:Ca} {e:Ex} {env:List Sr} {s s1 s2:Nat} {c c1 c2:Int} {x y:Sr} {xs ys:List Sr}
theorem Dm (hc:c≠0){r:Rs Sr}:AH (go c r) x s c:=AH.mk_err (Da hc r) hc
theorem Cw (hc:c=0)(hs:s=3000):AH (go c (Cf n C e env s)) x s1 7:=by
 subst hc;rw[Cr,Eu,if_pos (by omega)];exact AH.mk_err rfl (by decide)
theorem Ec (hc:c=0)(hs:s+1≤3000)(hk:e.kind=1):AH (go c (Cf n C e env s)) (cst n e.num) (s+1) c:=by
 subst hc;rw[Cr,Eu,if_neg zO,if_pos hk];exact AH.mk_ok rfl
theorem Ed (hc:c=0)(hs:s+1≤3000)(hk:e.kind=2):AH (go c (Cf n C e env s)) (env.getD e.num.toNat []) (s+1) c:=by
 subst hc;rw[Cr,Eu,if_neg zO,if_neg zO,if_pos hk];exact AH.mk_ok rfl
theorem Ee (hc:c=0)(hs:s+1≤3000)(hk:e.kind=8)(hl:e.kids.length=3)(h1:AH (go c (Cf n C (e.kids.getD 0 Ex.zero) env (s+1))) x s1 c1)(hx:x.getD 0 0=0)
  (h2:AH (go c1 (Cf n C (e.kids.getD 1 Ex.zero) env s1)) y s2 c2):AH (go c (Cf n C e env s)) y s2 c2:=by
 subst hc
 rw[Cr,Eu,if_neg zO,if_neg zO,if_neg zO,if_pos hk,Dj _ _ _ _ _ _ (by omega)]
 rw[Cr]at h1
 by_cases h0:c1=0
 ·subst h0;rw[h1.bindO,if_pos hx,Dj _ _ _ _ _ _ (by omega)];exact h2
 ·rw[h1.bindE h0];rw[Da h0]at h2;exact h2
theorem Ef (hc:c=0)(hs:s+1≤3000)(hk:e.kind=8)(hl:e.kids.length=3)(h1:AH (go c (Cf n C (e.kids.getD 0 Ex.zero) env (s+1))) x s1 c1)(hx:¬x.getD 0 0=0)
  (h2:AH (go c1 (Cf n C (e.kids.getD 2 Ex.zero) env s1)) y s2 c2):AH (go c (Cf n C e env s)) y s2 c2:=by
 subst hc
 rw[Cr,Eu,if_neg zO,if_neg zO,if_neg zO,if_pos hk,Dj _ _ _ _ _ _ (by omega)]
 rw[Cr]at h1
 by_cases h0:c1=0
 ·subst h0;rw[h1.bindO,if_neg hx,Dj _ _ _ _ _ _ (by omega)];exact h2
 ·rw[h1.bindE h0];rw[Da h0]at h2;exact h2
theorem Eg (hc:c=0)(hs:s+1≤3000)(hk:e.kind=9)(hl:e.kids.length=2)(h1:AH (go c (Cf n C (e.kids.getD 0 Ex.zero) env (s+1))) x s1 c1)
  (h2:AH (go c1 (Cf n C (e.kids.getD 1 Ex.zero) (env++[x]) s1)) y s2 c2):AH (go c (Cf n C e env s)) y s2 c2:=by
 subst hc
 rw[Cr,Eu,if_neg zO,if_neg zO,if_neg zO,if_neg zO,if_pos hk,Dj _ _ _ _ _ _ (by omega)]
 rw[Cr]at h1
 by_cases h0:c1=0
 ·subst h0;rw[h1.bindO,Dj _ _ _ _ _ _ (by omega)];exact h2
 ·rw[h1.bindE h0];rw[Da h0]at h2;exact h2
theorem H6 (hs : s + 1 ≤ 3000) (h1 : e.kind ≠ 1) (h2 : e.kind ≠ 2) (h8 : e.kind ≠ 8) (h9 : e.kind ≠ 9) : Cf n C e env s = (D9 n C e.kids env (s + 1)).bind fun xs t =>
      if e.kind = 10 then C.one e.num.toNat e.pick.toNat xs t
      else if e.kind = 11 then (Hr (C.all e.num.toNat) e.count.toNat xs t).bind fun ys u=>.ok (ys.getD e.pick.toNat []) u
      else K7 e.kind xs t:=by
  rw [Eu,if_neg zO,if_neg h1,if_neg h2,if_neg h8,if_neg h9]
theorem CV (hc:c=0)(hs:s+1≤3000)(h1:e.kind≠1)(h2:e.kind≠2)(h8:e.kind≠8)(h9:e.kind≠9)(hr:AH (go c (D9 n C e.kids env (s+1))) xs s1 c1)(hc1:c1≠0):AH (go c (Cf n C e env s)) x s2 c1:=by
 subst hc
 rw[Cr]at hr ⊢
 rw[H6 hs h1 h2 h8 h9,hr.bindE hc1];exact AH.mk_err rfl hc1
theorem DN {p:List Fn}{F:Nat}(hc:c=0)(hs:s+1≤3000)(hk:e.kind=10)(hF:e.num.toNat<F)(hr:AH (go c (D9 n (E4 p n F) e.kids env (s+1))) xs s1 c1)(hc1:c1=0)
  (h2:AH (go c1 (Cf n (E4 p n e.num.toNat) ((p.getD e.num.toNat Fn.zero).outs.getD e.pick.toNat Ex.zero) xs s1)) y s2 c2):AH (go c (Cf n (E4 p n F) e env s)) y s2 c2:=by
 subst hc;subst hc1
 rw[Cr]at hr h2 ⊢
 rw[H6 hs zO zO zO zO,hr.bindO,if_pos hk,Mo hF];exact h2
theorem DO {p:List Fn}{F:Nat}(hc:c=0)(hs:s+1≤3000)(hk:e.kind=11)(hF:e.num.toNat<F)(hr:AH (go c (D9 n (E4 p n F) e.kids env (s+1))) xs s1 c1)(hc1:c1=0)
  (h2:AH (Hr (fun a t=>D9 n (E4 p n e.num.toNat) (p.getD e.num.toNat Fn.zero).outs a t) e.count.toNat xs s1) ys s2 c2):AH (go c (Cf n (E4 p n F) e env s)) (ys.getD e.pick.toNat []) s2 c2:=by
 subst hc;subst hc1
 rw[Cr]at hr ⊢
 rw[H6 hs zO zO zO zO,hr.bindO,if_neg zO,if_pos hk]
 have hl:(E4 p n F).all e.num.toNat=fun a t=>D9 n (E4 p n e.num.toNat) (p.getD e.num.toNat Fn.zero).outs a t:=funext fun a=>funext fun t=>Hs hF
 rw[hl]
 by_cases h0:c2=0
 ·subst h0;rw[h2.bindO];exact AH.mk_ok rfl
 ·rw[h2.bindE h0];exact AH.mk_err rfl h0
theorem Ba (hc:c=0)(hs:s+1≤3000)(h1:e.kind≠1)(h2:e.kind≠2)(h8:e.kind≠8)(h9:e.kind≠9)(h10:e.kind≠10)(h11:e.kind≠11)(hr:AH (go c (D9 n C e.kids env (s+1))) xs s1 c1)(hc1:c1=0)
  (h:AH (K7 e.kind xs s1) y s2 c2):AH (go c (Cf n C e env s)) y s2 c2:=by
 subst hc;subst hc1
 rw[Cr]at hr ⊢
 rw[H6 hs h1 h2 h8 h9,hr.bindO,if_neg h10,if_neg h11];exact h
theorem FC {k:Int}(hk:k=3):AH (K7 k xs s) (DF (xs.getD 0 []) (xs.getD 1 [])) s 0:=by subst hk;exact AH.mk_ok rfl
theorem FD {k:Int}(hk:k=4):AH (K7 k xs s) (EE (xs.getD 0 []) (xs.getD 1 [])) s 0:=by subst hk;exact AH.mk_ok rfl
theorem FE {k:Int}(hk:k=5):AH (K7 k xs s) (C5 (xs.getD 0 []) (xs.getD 1 [])) s 0:=by subst hk;exact AH.mk_ok rfl
theorem FF {k:Int}(hk:k=7):AH (K7 k xs s) (Ci (xs.getD 0 []) 1000002) s 0:=by subst hk;exact AH.mk_ok rfl
theorem Eh {k:Int}(hk:k=6)(hz:(xs.getD 1 []).getD 0 0=0):AH (K7 k xs s) x s1 6:=by
 subst hk
 have:K7 6 xs s=.err 6:=by
  show(if (xs.getD 1 []).getD 0 0=0 then _ else _)=_
  rw[if_pos hz]
 exact AH.mk_err this (by decide)
theorem FG {k:Int}(hk:k=6)(hz:¬(xs.getD 1 []).getD 0 0=0):AH (K7 k xs s) (BP (xs.getD 0 []) (xs.getD 1 [])) s 0:=by
 subst hk
 have:K7 6 xs s=.ok (BP (xs.getD 0 []) (xs.getD 1 [])) s:=by
  show(if (xs.getD 1 []).getD 0 0=0 then _ else _)=_
  rw[if_neg hz]
 exact AH.mk_ok this
theorem FW {l:List Ex}{k:Nat}(hk:k<l.length)(h:AH (go c (D9 n C (l.take k) env s)) xs s1 c1)(h2:AH (go c1 (Cf n C (l.getD k Ex.zero) env s1)) x s2 c2) :
  AH (go c (D9 n C (l.take (k+1)) env s)) (xs++[x]) s2 c2:=by
 by_cases hc:c=0
 ·subst hc
  rw[Cr]at h ⊢
  rw[QW hk]
  by_cases h0:c1=0
  ·subst h0
   rw[Cr]at h2
   rw[h.bindO]
   by_cases h3:c2=0
   ·subst h3;rw[h2.bindO];exact AH.mk_ok rfl
   ·rw[h2.bindE h3];exact AH.mk_err rfl h3
  ·rw[h.bindE h0];rw[Da h0]at h2;exact AH.mk_err (by rw[h2.1]) (by rw[h2.1];exact h2.2)
 ·rw[Da hc]at h ⊢
  have hc1:c1≠0:=by rw[h.1];exact hc
  rw[Da hc1]at h2
  exact AH.mk_err (by rw[h2.1,h.1]) (by rw[h2.1];exact hc1)
theorem Ta {f:List Sr→Nat→Rs (List Sr)}{k:Nat}(h:AH (Hr f k xs s) ys s1 c1)(hc:c1=0){zs:List Sr}(h2:AH (go c1 (f ys s1)) zs s2 c2):AH (Hr f (k+1) xs s) zs s2 c2:=by
 subst hc
 show AH ((Hr f k xs s).bind f) _ _ _
 rw[h.bindO];rw[Cr]at h2;exact h2
theorem P9 {f:List Sr→Nat→Rs (List Sr)} {d:Int}:∀ {m k:Nat},Hr f k xs s = .err d→k≤m→Hr f m xs s = .err d
  | 0, k, h, hk => by have : k = 0 := by omega
                      subst this; exact h
  | m + 1,k,h,hk=>by
    by_cases e:k = m + 1
    · subst e; exact h
    · show (Hr f m xs s).bind f = _
      rw [P9 h (by omega)]; rfl
theorem DP {f:List Sr→Nat→Rs (List Sr)}{k m:Nat}(h:AH (Hr f k xs s) ys s1 c1)(hk:k≤m)(hs:k=m∨c1≠0):AH (Hr f m xs s) ys s1 c1:=by
 by_cases hc:c1=0
 ·rcases hs with rfl|hh
  ·exact h
  ·exact absurd hc hh
 ·exact AH.mk_err (P9 (h.err hc) hk) hc
end
theorem FX (n:Nat)(C:Ca)(l:List Ex)(env:List Sr)(s:Nat)(c:Int):AH (go c (D9 n C (l.take 0) env s)) [] s c:=by
 rw[List.take_zero,D9]
 by_cases h:c=0
 ·subst h;exact AH.mk_ok rfl
 ·exact AH.mk_err (Da h _) h
theorem FY {n:Nat}{a b:Sr}(ha:Cb n a):Cb n (DF a b):=⟨by unfold DF;rw[Eb];exact ha.1,H2 _ _⟩
theorem Kv {n:Nat}{a b:Sr}(ha:Cb n a):Cb n (EE a b):=⟨by rw[H1];exact ha.1,H3 _ _⟩
theorem FZ {n:Nat}{a b:Sr}(ha:Cb n a):Cb n (C5 a b):=⟨by unfold C5;rw[Eb];exact ha.1,ES _ _⟩
theorem ET {n:Nat}{a b:Sr}(ha:Cb n a):Cb n (BP a b):=⟨by rw[DL];exact ha.1,Eo _ _⟩
theorem Kw {n:Nat}{a:Sr}{y:Int}(ha:Cb n a):Cb n (Ci a y):=⟨by unfold Ci;rw[Eb];exact ha.1,Ep _ _⟩
end
section
def J6 (p:List Fn)(n f:Nat)(a:List Sr):List Sr:=match ev p n f a with
 |.ok xs _=>xs
 |.err _=>[]
def Mq (p:List Fn)(n f:Nat)(a:List Sr):Nat:=match ev p n f a with
 |.ok _ s=>s
 |.err _=>0
def HR (p:List Fn)(n f:Nat)(a:List Sr):Int:=match ev p n f a with
 |.ok _ _=>0
 |.err c=>c
section
variable {p:List Fn} {n f s:Nat} {a x:List Sr} {c:Int}
theorem Kx (h:AH (go 0 (D9 n (E4 p n f) (p.getD f Fn.zero).outs a 0)) x s c)(hc:c=0):ev p n f a=.ok x s:=by subst hc;exact h.ok
theorem I8 (h:AH (go 0 (D9 n (E4 p n f) (p.getD f Fn.zero).outs a 0)) x s c)(hc:c≠0):ev p n f a=.err c:=h.err hc
theorem Ky (h:ev p n f a=.ok x s):J6 p n f a=x:=by unfold J6;rw[h]
theorem QZ (h:ev p n f a=.ok x s):Mq p n f a=s:=by unfold Mq;rw[h]
theorem Nl (h:ev p n f a=.ok x s):HR p n f a=0:=by unfold HR;rw[h]
theorem R0 (h:ev p n f a=.err c):J6 p n f a=[]:=by unfold J6;rw[h]
theorem R1 (h:ev p n f a=.err c):Mq p n f a=0:=by unfold Mq;rw[h]
theorem JI (h:ev p n f a=.err c):HR p n f a=c:=by unfold HR;rw[h]
end
structure R2 (p:List Fn)(n f:Nat)(a:List Sr):Prop where
 code:0≤HR p n f a∧HR p n f a≤9
 steps:Mq p n f a≤3000
 len:HR p n f a=0→(J6 p n f a).length=(p.getD f Fn.zero).outs.length
 ser:C0 n (J6 p n f a)
 non:HR p n f a≠0→J6 p n f a=[]
theorem R2.mk' {p:List Fn}{n f s:Nat}{a x:List Sr}{c:Int}(h:AH (go 0 (D9 n (E4 p n f) (p.getD f Fn.zero).outs a 0)) x s c)(hc:0≤c∧c≤9)(hs:s≤3000)(hl:x.length=(p.getD f Fn.zero).outs.length)(hx:C0 n x):R2 p n f a:=by
 by_cases h0:c=0
 ·have e:=Kx h h0
  exact⟨by rw[Nl e];omega,by rw[QZ e];exact hs,fun _=>by rw[Ky e];exact hl,by rw[Ky e];exact hx,fun hh=>absurd (Nl e) hh⟩
 ·have e:=I8 h h0
  exact⟨by rw[JI e];exact hc,by rw[R1 e];omega,fun hh=>absurd (by rw[← hh,JI e]) h0,by rw[R0 e];intro k hk;simp at hk,fun _=>R0 e⟩
end
def U1 (s:ByteArray)(i:Nat):Bool:=(decide (97≤J5 s i) && decide (J5 s i≤122)) || (decide (i≠0) && (decide (48≤J5 s i) && decide (J5 s i≤57)))
def Kz (s:ByteArray):Bool:=(decide (1≤s.size) && decide (s.size≤12)) && (List.range s.size).all (U1 s)
def Lq (p:List Fn)(e:Ex)(vars funcs:Int):Bool :=
 GS vars 0 412 && (GS funcs 0 ((p.length:Nat):Int) && (decide (e.size≤400) && (decide (e.deep≤60) && wf p funcs e vars)))
def Q3 (p:List Fn)(k:Nat):Bool:=!((p.take k).any fun g=>I6 g.name (p.getD k Fn.zero).name)
def JJ (p:List Fn)(k:Nat):Bool :=
 (Kz (p.getD k Fn.zero).name && Q3 p k) && ((GS (p.getD k Fn.zero).params 0 12 && GS (((p.getD k Fn.zero).outs.length:Nat):Int) 1 12) &&
  ((List.range (p.getD k Fn.zero).outs.length).all (fun j=>Lq p ((p.getD k Fn.zero).outs.getD j Ex.zero) (p.getD k Fn.zero).params ((k:Nat):Int)) && decide (Ex.sizes (p.getD k Fn.zero).outs≤400)))
def Jg (p:List Fn):Bool:=decide (p.length≤16) && (List.range p.length).all (JJ p)
def Qh (p:List Fn):Prop:=∀k,k<p.length→Ex.sizes (p.getD k Fn.zero).outs≤2000000∧(p.getD k Fn.zero).outs.length≤2000000∧(p.getD k Fn.zero).name.size≤2000000
theorem DE {f:Nat→Bool}{k:Nat}(h:(List.range k).all f=true)(hk:f k=true):(List.range (k+1)).all f=true:=by
 rw[List.range_succ,List.all_append,h];simp[hk]
theorem Jh {f:Nat→Bool}{k n:Nat}(hk:k<n)(h:f k=false):(List.range n).all f=false:=by
 rw[List.all_eq_false]
 exact⟨k,List.mem_range.2 hk,by simp[h]⟩
theorem Pa {f:Nat→Bool}{k n:Nat}(h:(List.range n).all f=true)(hk:k<n):f k=true:=zm.1 h k (List.mem_range.2 hk)
theorem Vl {p:List Fn}(h:Jg p=true){k:Nat}(hk:k<p.length):JJ p k=true:=by
 unfold Jg at h
 rw[z7]at h
 exact Pa h.2 hk
theorem K9 {p:List Fn}(h:Jg p=true):HE p:=by
 have h1:∀k,k<p.length→(0≤(p.getD k Fn.zero).params∧(p.getD k Fn.zero).params≤12)∧(1≤(p.getD k Fn.zero).outs.length∧(p.getD k Fn.zero).outs.length≤12) ∧
   ∀j,j<(p.getD k Fn.zero).outs.length→Lq p ((p.getD k Fn.zero).outs.getD j Ex.zero) (p.getD k Fn.zero).params ((k:Nat):Int)=true:=by
  intro k hk
  have:=Vl h hk
  unfold JJ at this
  simp only[z7,BJ]at this
  exact⟨this.2.1.1,zO,fun j hj=>Pa this.2.2.1 hj⟩
 have h2:∀k,k<p.length→∀j,j<(p.getD k Fn.zero).outs.length→((p.getD k Fn.zero).outs.getD j Ex.zero).deep≤60∧wf p ((k:Nat):Int) ((p.getD k Fn.zero).outs.getD j Ex.zero) (p.getD k Fn.zero).params=true:=by
  intro k hk j hj
  have:=(h1 k hk).2.2 j hj
  unfold Lq at this
  simp only[z7,decide_eq_true_eq]at this
  exact⟨this.2.2.2.1,this.2.2.2.2⟩
 exact⟨fun k hk=>(h1 k hk).1,fun k hk=>(h1 k hk).2.1,fun k hk j hj=>(h2 k hk j hj).1,fun k hk j hj=>(h2 k hk j hj).2⟩
section
mutual
def Xg:Ex→Bool
 |.mk k _ _ _ l=>(decide (k≠6) && decide (k≠8)) && NT l
def NT:List Ex→Bool
 |[]=>true
 |e::l=>Xg e && NT l
end
theorem O8 (k n q c:Int)(l:List Ex):Xg (.mk k n q c l)=((decide (k≠6) && decide (k≠8)) && NT l):=by rw[Xg]
theorem Nm (l:List Ex)(e:Ex):NT (l++[e])=(NT l && Xg e):=by
 induction l with
 |nil=>rw[zl,NT,NT];simp[NT]
 |cons a l ih=>rw[List.cons_append,NT,NT,ih,Bool.and_assoc]
def LY:Nat→Int
 |0=>1
 |d+1=>1+4*LY d
def Hu:Nat→Nat
 |0=>30
 |d+1=>50+4*Hu d
def Vm:Nat→Int→Int
 |0,_=>0
 |n+1,k=>Vm n k+k
def Q4:Nat→Nat→Nat
 |0,_=>0
 |n+1,k=>Q4 n k+k
theorem Hv:∀d,1≤LY d
 |0=>by decide
 |d+1=>by have:=Hv d;show 1≤1+4*LY d;omega
theorem U2 {d:Nat}(h:1≤d):LY d=1+4*LY (d-1):=by
 obtain⟨d,rfl⟩:∃k,d=k+1:=⟨d-1,zO⟩
 rfl
theorem Xq {d:Nat}(h:1≤d):Hu d=50+4*Hu (d-1):=by
 obtain⟨d,rfl⟩:∃k,d=k+1:=⟨d-1,zO⟩
 rfl
theorem O9:∀d,30≤Hu d
 |0=>by decide
 |d+1=>by show 30≤50+4*Hu d;omega
theorem Nn {i:Nat}{k:Int}(hk:0≤k)(hi:i≤4):0≤Vm i k∧Vm i k≤4*k:=by
 rcases i with _|_|_|_|_|i
 all_goals first|(exfalso;omega)|(simp only[Vm];omega)
theorem LZ {i k:Nat}(hi:i≤4):Q4 i k≤4*k:=by
 rcases i with _|_|_|_|_|i
 all_goals first|(exfalso;omega)|(simp only[Q4];omega)
structure Pb (p:List Fn)(funcs vars:Int)(pl:Bool)(d:Nat)(l0 l1:Int)(ex:Ex):Prop where
 wf:wf p funcs ex vars=true
 sz:(ex.size:Int)+4*max l1 1≤1+4*max l0 1
 dp:ex.deep≤d+1
 pl:pl=true→Xg ex=true
 lo:l0-LY d≤l1∧l1≤l0-1
structure Oa (p:List Fn)(vars:Int)(ex:Ex):Prop where
 wf:∀funcs,wf p funcs ex vars=true
 sz:ex.size=1
 dp:ex.deep=1
 pl:Xg ex=true
structure Xr (p:List Fn):Prop where
 len:p.length≤1000
 par:∀k,k<p.length→0≤(p.getD k Fn.zero).params∧(p.getD k Fn.zero).params≤4
 outs:∀k,k<p.length→1≤(p.getD k Fn.zero).outs.length∧(p.getD k Fn.zero).outs.length≤12
theorem Oa.num {p:List Fn}{vars n:Int}(h:0≤n∧n<1000003):Oa p vars (.mk 1 n 0 0 []) :=
 ⟨fun funcs=>by
  rw[Mj rfl];unfold Gl Dy
  simp[Ex.kind,Ex.pick,Ex.count,Ex.kids,Ex.num,Ce];omega,by rw[Ex.size,Ex.sizes],by rw[Ex.deep,Ex.deeps],by rw[O8];rfl⟩
theorem Oa.var {p:List Fn}{vars n:Int}(h:0≤n∧n<vars):Oa p vars (.mk 2 n 0 0 []) :=
 ⟨fun funcs=>by
  rw[Mj rfl];unfold Gl Dy
  simp[Ex.kind,Ex.pick,Ex.count,Ex.kids,Ex.num,BJ];omega,by rw[Ex.size,Ex.sizes],by rw[Ex.deep,Ex.deeps],by rw[O8];rfl⟩
theorem Oa.ok {p:List Fn}{vars funcs l0:Int}{ex:Ex}{pl:Bool}(h:Oa p vars ex)(d:Nat):Pb p funcs vars pl d l0 (l0-1) ex:=by
 have:=Hv d
 exact⟨h.wf funcs,by rw[h.sz];omega,by rw[h.dp];omega,fun _=>h.pl,zO⟩
def kn (k:Int):Int:=if k=1∨k=2 then 0 else if k=3∨k=4∨k=5∨k=6∨k=9 then 2 else if k=7 then 1 else if k=8 then 3 else -1
structure Pc (p:List Fn)(funcs vars:Int)(pl:Bool)(k:Int)(d:Nat)(l0 l1:Int)(xs:List Ex)(i:Nat):Prop where
 len:xs.length=i
 wf:∀j,j<i→wf p funcs (xs.getD j Ex.zero) (if k=9∧j=1 then vars+1 else vars)=true
 sz:(Ex.sizes xs:Int)+4*max l1 1≤i+4*max l0 1
 dp:Ex.deeps xs≤d
 pl:pl=true→NT xs=true
 lo:l0-Vm i (LY (d-1))≤l1∧l1≤l0
theorem Pc.nil (p:List Fn)(funcs vars:Int)(pl:Bool)(k:Int)(d:Nat)(l0:Int):Pc p funcs vars pl k d l0 l0 [] 0 :=
 ⟨rfl,fun j hj=>by omega,by rw[Ex.sizes];omega,by rw[Ex.deeps];omega,fun _=>by rw[NT],by show l0-0≤l0∧l0≤l0;omega⟩
theorem Pc.snoc {p:List Fn}{funcs vars own:Int}{pl:Bool}{k:Int}{d:Nat}{l0 l1 l2:Int}{xs:List Ex}{i:Nat}{x:Ex}(h:Pc p funcs vars pl k d l0 l1 xs i)(hd:1≤d)
  (ho:own=if k=9∧i=1 then vars+1 else vars) (hx:Pb p funcs own pl (d-1) l1 l2 x):Pc p funcs vars pl k d l0 l2 (xs++[x]) (i+1):=by
 have hlen:=h.len
 refine⟨by simp[hlen],fun j hj=>?_,?_,?_,fun hp=>?_,?_⟩
 ·by_cases e:j=i
  ·subst e
   rw[← hlen,GY rfl,hlen,← ho];exact hx.wf
  ·rw[GM (by omega)];exact h.wf j zO
 ·have h1:=h.sz;have h2:=hx.sz
  rw[I3];omega
 ·have h1:=h.dp;have h2:=hx.dp
  rw[I4];omega
 ·rw[Nm,h.pl hp,hx.pl hp];rfl
 ·have h1:=h.lo;have h2:=hx.lo
  have h3:Vm (i+1) (LY (d-1))=Vm i (LY (d-1))+LY (d-1):=rfl
  omega
theorem Pc.node {p:List Fn}{funcs vars:Int}{pl:Bool}{k num pick cnt:Int}{d i:Nat}{l0 l1:Int}{xs:List Ex}(h:Pc p funcs vars pl k d (l0-1) l1 xs i)(hd:1≤d)(hi:i≤4)(hl:2≤l0)
  (hp:pl=true→k≠6∧k≠8) (hw:Gl p funcs vars (.mk k num pick cnt xs)=true):Pb p funcs vars pl d l0 l1 (.mk k num pick cnt xs):=by
 have hn:=U2 hd
 have ht:=Nn (k:=LY (d-1)) (by have:=Hv (d-1);omega) hi
 have h1:=h.lo;have h2:=h.sz
 refine⟨(Mk hw fun j hj=>?_).symm,?_,?_,fun hq=>?_,zO⟩
 ·exact h.wf j (by rw[← h.len];exact hj)
 ·rw[Ex.size];omega
 ·rw[Ex.deep];have:=h.dp;omega
 ·rw[O8,h.pl hq,A5 (hp hq).1,A5 (hp hq).2];rfl
theorem Vn {p:List Fn}{funcs vars k:Int}{xs:List Ex}(hk:k=3∨k=4∨k=5∨k=6∨k=7∨k=8∨k=9)(hl:((xs.length:Nat):Int)=kn k):Gl p funcs vars (.mk k 0 0 0 xs)=true:=by
 have h2:k=3∨k=4∨k=5∨k=6∨k=9→xs.length=2:=fun h=>by
  have:kn k=2:=by unfold kn;rw[if_neg zO,if_pos (by omega)]
  omega
 have h1:k=7→xs.length=1:=fun h=>by
  have:kn k=1:=by unfold kn;rw[if_neg zO,if_neg zO,if_pos h]
  omega
 have h3:k=8→xs.length=3:=fun h=>by
  have:kn k=3:=by unfold kn;rw[if_neg zO,if_neg zO,if_neg zO,if_pos h]
  omega
 unfold Gl Dy
 rcases hk with rfl|rfl|rfl|rfl|rfl|rfl|rfl
 ·simp[Ex.kind,Ex.pick,Ex.count,Ex.kids,Ex.num,h2]
 ·simp[Ex.kind,Ex.pick,Ex.count,Ex.kids,Ex.num,h2]
 ·simp[Ex.kind,Ex.pick,Ex.count,Ex.kids,Ex.num,h2]
 ·simp[Ex.kind,Ex.pick,Ex.count,Ex.kids,Ex.num,h2]
 ·simp[Ex.kind,Ex.pick,Ex.count,Ex.kids,Ex.num,h1]
 ·simp[Ex.kind,Ex.pick,Ex.count,Ex.kids,Ex.num,h3]
 ·simp[Ex.kind,Ex.pick,Ex.count,Ex.kids,Ex.num,h2]
theorem Vo {p:List Fn}{funcs vars k num pick cnt:Int}{xs:List Ex}(hk:(k=10∧cnt=0)∨(k=11∧((p.getD num.toNat Fn.zero).outs.length:Int)=(p.getD num.toNat Fn.zero).params∧0≤cnt∧cnt≤8))
  (hn:0≤num∧num<funcs) (hl:((xs.length:Nat):Int)=(p.getD num.toNat Fn.zero).params) (hq:0≤pick∧pick<((p.getD num.toNat Fn.zero).outs.length:Int)):Gl p funcs vars (.mk k num pick cnt xs)=true:=by
 have h1:GS num 0 (funcs-1)=true:=BJ.2 zO
 have h2:GS pick 0 (((p.getD num.toNat Fn.zero).outs.length:Int)-1)=true:=BJ.2 zO
 have h6:decide ((xs.length:Int)=(p.getD num.toNat Fn.zero).params)=true:=A5 hl
 unfold Gl
 rcases hk with⟨rfl,rfl⟩|⟨rfl,h3,h4⟩
 ·show(GS num 0 (funcs-1) && (decide ((xs.length:Int)=(p.getD num.toNat Fn.zero).params) && (GS pick 0 (((p.getD num.toNat Fn.zero).outs.length:Int)-1) && decide ((0:Int)=0))))=true
  rw[h1,h2,h6];rfl
 ·have h5:GS cnt 0 8=true:=BJ.2 h4
  show(GS num 0 (funcs-1) && (decide ((xs.length:Int)=(p.getD num.toNat Fn.zero).params) && (GS pick 0 (((p.getD num.toNat Fn.zero).outs.length:Int)-1) && (decide (((p.getD num.toNat Fn.zero).outs.length:Int)=(p.getD num.toNat Fn.zero).params) && GS cnt 0 8))))=true
  rw[h1,h2,h5,h6,A5 h3];rfl
theorem KA {a b c k:Int}{l:List Ex}(h1:-9223372036854775808≤a∧a≤9223372036854775807)(h2:-9223372036854775808≤b∧b≤9223372036854775807)(h3:-9223372036854775808≤c∧c≤9223372036854775807)(h4:-9223372036854775808≤k∧k≤9223372036854775807):SS (.mk a b c k l):=⟨h1,h2,h3,h4⟩
theorem Do {a b c:Nat}(h:c∈[a,b]):c=a∨c=b:=by simpa using h
theorem FH {a b:Nat}:∀x∈[a],x∈[a,b]:=fun x hx=>by rw[A9 hx];exact z0 ..
theorem Vp {a b:Nat}:∀x∈[b],x∈[a,b]:=fun x hx=>by rw[A9 hx];exact z3 _ (z0 ..)
theorem As.new2 {F:List Nat}{g g':Nat}{a b c:World}(h:As F a b)(k:As [g,g'] b c)(hg:g∈F)(hg':a.heap.size≤g'):As F a c :=
 ⟨k.os.trans h.os,k.tape.trans h.tape,k.output.trans h.output,A8 h.size k.size,fun i hi hm=>(k.block i (Nat.lt_of_lt_of_le hi h.size) fun hq=>by
  rcases Do hq with rfl|rfl
  ·exact hm hg
  ·omega).trans (h.block i hi hm)⟩
theorem RN.of_frF2 {e e':TypeId}{d B U:Nat}{H:Array Obj}{v:Value}{S:List Nat}{xs:List Fn}(h:Fr (EI 3 (Qg e d) e') B U H v xs)(hS:∀b∈S,b<B∨U≤b):RP S d H v xs:=by
 obtain⟨F,h,_,hF⟩:=h
 exact⟨F,(h.rd (AZ e d)).imp fun h=>QE e h,fun b hb hm=>by have:=hF b hb;have:=hS b hm;omega⟩
theorem PY.mk1 {e:TypeId}{d B U:Nat}{H:Array Obj}{v:Value}{x:Ex}(hd:1≤d)(hr:SS x)(h:Fr (EI 5 (OR e (d-1)) e) B U H v x.kids):PY (OR e d) B U H (EP x v) x:=by
 obtain⟨d,rfl⟩:∃k,d=k+1:=⟨d-1,zO⟩
 obtain⟨G,h1,h2,h3⟩:=h
 exact⟨G,⟨v,rfl,hr,h1⟩,h2,h3⟩
theorem PY.mkF {e:TypeId}{d B U:Nat}{H:Array Obj}{v:Value}{x:Fn}(hr:Bt x.params)(h:Fr (EI 5 (OR e d) e) B U H v x.outs):PY (Qg e d) B U H (EQ x v) x:=by
 obtain⟨G,h1,h2,h3⟩:=h
 exact⟨G,⟨v,rfl,hr,h1⟩,h2,h3⟩
theorem Zf {k:Int}(h:k=1∨k=2):kn k=0:=by unfold kn;rw[if_pos h]
theorem Zg {k:Int}(h:k=3∨k=4∨k=5∨k=6∨k=9):kn k=2:=by unfold kn;rw[if_neg zO,if_pos h]
theorem Zh {k:Int}(h:k=7):kn k=1:=by unfold kn;rw[if_neg zO,if_neg zO,if_pos h]
theorem Zi {k:Int}(h:k=8):kn k=3:=by unfold kn;rw[if_neg zO,if_neg zO,if_neg zO,if_pos h]
theorem Zj {k:Int}(h1:¬k=1)(h2:¬k=2)(h3:¬k=3)(h4:¬k=4)(h5:¬k=5)(h6:¬k=6)(h7:¬k=7)(h8:¬k=8)(h9:¬k=9):kn k = -1:=by unfold kn;rw[if_neg zO,if_neg zO,if_neg zO,if_neg (by omega)]
theorem Zk {k:Int}(h:k=3∨k=4∨k=5∨k=6∨k=7∨k=8∨k=9):1≤kn k∧kn k≤3:=by
 rcases h with rfl|rfl|rfl|rfl|rfl|rfl|rfl <;> decide
theorem R3 {d:Nat}(h:d≤8):LY d≤100000:=by
 have:∀k:Fin 9,LY k.val≤100000:=by decide
 exact this ⟨d,zO⟩
theorem Oa.okc {p:List Fn}{vars funcs l0:Int}{ex:Ex}{pl:Bool}(h:Oa p vars ex)(d:Nat):Pb p funcs vars pl d (l0+1) l0 ex:=by
 have h:=h.ok (funcs:=funcs) (pl:=pl) (l0:=l0+1) d
 rwa [show l0+1-1=l0 from by omega]at h
theorem Pb.up1 {p:List Fn}{vars funcs l0 l1:Int}{ex:Ex}{pl:Bool}{d:Nat}(h:Pb p funcs vars pl d (l0-1+1) l1 ex):Pb p funcs vars pl d l0 l1 ex:=by rwa [show l0-1+1=l0 from by omega]at h
theorem Pc.node1 {p:List Fn}{funcs vars:Int}{pl:Bool}{k num pick cnt:Int}{d i:Nat}{l0 l1:Int}{xs:List Ex}(h:Pc p funcs vars pl k d l0 l1 xs i)(hd:1≤d)(hi:i≤4)(hl:1≤l0)
  (hp:pl=true→k≠6∧k≠8) (hw:Gl p funcs vars (.mk k num pick cnt xs)=true):Pb p funcs vars pl d (l0+1) l1 (.mk k num pick cnt xs) :=
 Pc.node (by rwa [show l0+1-1=l0 from by omega]) hd hi zO hp hw
namespace Jx
variable [J:JR] {P:Program} {ops:Array Oper} {w0:World} {Q:Act→World→Prop}
theorem j1 {o:Oper}{os:List Oper}{ks:List Nat}{a:Act}{w:World}(h:_root_.Go.Proofs.YtbajepcpgncekaaGreat.LW P ops w0 (fun a w=>LW P ops w0 Q os ks a w) [o] [0] a w):LW P ops w0 Q (o::os) (0::ks) a w:=by
 simp only[_root_.Go.Proofs.YtbajepcpgncekaaGreat.LW]at h
 simp only[LW]
 split
 ·rename_i hw
  rw[if_pos hw]at h
  unfold _root_.Go.Proofs.YtbajepcpgncekaaGreat.Bx at h
  unfold Bx
  rw[if_pos (by decide)]at h
  rw[if_pos (by decide)]
  obtain⟨v,h1,h2⟩:=h
  exact⟨v,fun w' _=>h1 w' trivial,h2⟩
 ·rename_i hw
  rw[if_neg hw]at h
  exact h
theorem Tb:∀ {os:List Oper}{ks:List Nat}{a:Act}{w:World}(_:ks.all (fun k=>k == 0 || k == 3 || k == 4)=true)(_:_root_.Go.Proofs.YtbajepcpgncekaaGreat.LW P ops w0 Q os ks a w),LW P ops w0 Q os ks a w
 |[],_,_,_,_,h=>h
 |_::_,[],_,_,_,h=>h.elim
 |o::os,k::ks,a,w,hk,h=>by
  simp only[List.all_cons,z7]at hk
  simp only[_root_.Go.Proofs.YtbajepcpgncekaaGreat.LW]at h
  simp only[LW]
  split
  ·rename_i hw
   rw[if_pos hw]at h
   unfold _root_.Go.Proofs.YtbajepcpgncekaaGreat.Bx at h
   unfold Bx
   split at h
   ·rename_i h2
    rw[if_pos h2]
    have:k=0:=by
     have:=hk.1
     simp only[Bool.or_eq_true,beq_iff_eq]at this
     omega
    subst this
    obtain⟨v,h1,h3⟩:=h
    exact⟨v,fun w' _=>h1 w' trivial,Tb hk.2 h3⟩
   ·rename_i h2
    rw[if_neg h2]
    split at h
    ·rename_i h3
     rw[if_pos h3]
     exact Oper.wp_mono (fun a w hh=>⟨J.ext hh.1,Tb hk.2 hh.2⟩) h
    ·rename_i h3
     rw[if_neg h3]
     exact Oper.wp_mono (fun a w hh=>Tb hk.2 hh) h
  ·rename_i hw
   rw[if_neg hw]at h
   exact Tb hk.2 h
end Jx
end
section
theorem R4 {α:Type}{l:List α}{k:Nat}{d:α}(h:k<l.length):l.getD k d∈l:=by
 rw[List.getD_eq_getElem?_getD,List.getElem?_eq_getElem h,Option.getD_some];exact List.getElem_mem h
theorem Vq {a:Int}(h:-9223372036854775808≤a∧a≤9223372036854775807):Bt a:=h
def IJ (n:Nat):ByteArray:=⟨#[UInt8.ofNat (48+n)]⟩
def Mr:List ByteArray:=[⟨#[102]⟩,⟨#[103]⟩,⟨#[115,116,101,112]⟩,⟨#[104,50]⟩,⟨#[99]⟩]
theorem Vr {n:Int}(h0:0≤n)(h1:n<10):(⟨#[UInt8.ofNat (IntKind.u8.wrap (((48:Nat):Int)+n)).toNat]⟩:ByteArray)=IJ n.toNat:=by
 obtain⟨k,rfl⟩:∃k:Nat,n=k:=⟨n.toNat,zO⟩
 have:∀k:Fin 10,(⟨#[UInt8.ofNat (IntKind.u8.wrap (((48:Nat):Int)+((k.val:Nat):Int))).toNat]⟩:ByteArray)=IJ k.val:=by decide +kernel
 exact this ⟨k,zO⟩
theorem R5 (n:Nat):(IJ n).size=1:=rfl
theorem Q5:∀s∈Mr,s.size≤4:=by decide +kernel
theorem Tc:∀s∈Mr,∀i:Fin 10,Kz (s++IJ i.val)=true:=by decide +kernel
theorem Td:∀s∈Mr,∀t∈Mr,∀i j:Fin 10,i.val≠j.val→I6 (s++IJ i.val) (t++IJ j.val)=false:=by decide +kernel
section str
variable {P:Program} {ops:Array Oper} {w0:World} {Q:Act→World→Prop} {os:List Oper} {ks:List Nat} {N:Nat} {ρ:Nat→Value} {w:World}
 {d:Nat} {ty:TypeId} {pos:String} {aft:Array Edge} {g:Option (Nat×Bool)} {t e:TypeId}
theorem Te {st dt:TypeId}{x:Operand}{v:Value}{n:Int}{B U:Nat}(hs:P.underlying st=some (.slice e))(he:P.underlying e=some (.int .u8))(hd:P.underlying dt=some .string)(hx:Bn N ρ x=v)(hv:Fr (Bi rV e) B U w.heap v [.int .u8 n])
  (hu:Up ops N ρ ⟨some d,.convert st dt x,ty,pos,aft,g⟩) (h:LW P ops w0 Q os ks (mk N (CA ρ d (.string ⟨#[UInt8.ofNat n.toNat]⟩))) w) :
  LW P ops w0 Q (⟨some d,.convert st dt x,ty,pos,aft,g⟩::os) (2::ks) (mk N ρ) w:=by
 obtain⟨F,hv,_,_⟩:=hv
 rcases hv with⟨_,hc,_⟩|⟨us,b,cap,cur,F',hels,rfl,hg,q1,q2,q3,q4,rfl⟩
 ·cases hc
 ·obtain⟨rfl,rfl⟩:=Fq hels
  refine Cp (by decide) rfl hu _ (fun w' hcl=>?_) h
  have hcl:AG w w':=hcl
  have hcb:w'.heap[b]? = w.heap[b]?:=hcl.heap (getElem?_lt hg)
  have hlc:=run_loadCells_list (P:=P) w' ⟨b,0,none⟩ [.int .u8 n] (fun j u hj=>by
   rw[EO,BA]
   simp only[BM,hcb,hg]
   have hj0:j=0:=by have:=(List.getElem?_eq_some_iff.1 hj).1;simpa using this
   subst hj0
   have e1:cur.toList[0]? = some (.int .u8 n):=by
    have:(cur.toList.take 1)[0]? = some (.int .u8 n):=by rw[show cur.toList.take 1=[.int .u8 n]from q4];rfl
    rwa [List.getElem?_take,if_pos (by decide)]at this
   have e2:u=.int .u8 n:=by simpa using hj.symm
   rw[e2]
   simpa using e1)
  have hb:=run_bytesToString (P:=P) w' ⟨b,0,none⟩ 1 cap [n] (by simpa using hlc)
  have hr:=run_convert_bytes_string (P:=P) w' st dt e (some ⟨b,0,none⟩) 1 cap hs he hd
  simp only[execOp,hx,zd,Sem.run_bind,hr,hb,Result.andThen_ok,Sem.run_pure]
  rfl
theorem Tf {b:Nat}{z u0 u1 u2 u3:Value}(ht:P.underlying t=some (.slice e))(hi:TI P e 1 z b)(h0:u0.cells=#[u0])(h1:u1.cells=#[u1])(h2:u2.cells=#[u2])(h3:u3.cells=#[u3])(hz:z.cells=#[z]) :
  (Instr.buildSlice t 4 #[(0,u0),(1,u1),(2,u2),(3,u3)]).run P w=.ok (.slice (some ⟨w.heap.size,0,none⟩) 4 4) (w.alloc (.cells #[u0,u1,u2,u3] e)):=by
 obtain⟨i,q1,q2,q3,q4⟩:=hi.get
 simp[Instr.buildSlice,run_underlying ht,sizeOf,typeInfo,zeroValue,q1,q2,q3,Instr.fill,newRow,h0,h1,h2,h3,hz,ID,List.range_succ]
theorem Vs {α:Type}{E:Bo α}(hE:BS E){ys:List α}{b:Nat}{z u0 u1 u2 u3:Value}{x0 x1 x2 x3:Operand}(ht:P.underlying t=some (.slice e))(hi:TI P e 1 z b)(hz:z.cells=#[z])
  (hx0:Bn N ρ x0=u0) (hx1:Bn N ρ x1=u1) (hx2:Bn N ρ x2=u2) (hx3:Bn N ρ x3=u3) (hl:ys.length=4) (hels:els E w.heap [u0,u1,u2,u3] ys [])
  (hu:Up ops N ρ ⟨some d,.buildSlice t 4 #[(0,x0),(1,x1),(2,x2),(3,x3)],ty,pos,aft,g⟩)
  (h:∀v w1,AG w w1→w1.heap.size=w.heap.size+1→Fr (Bi E e) w.heap.size w1.heap.size w1.heap v ys→LW P ops w0 Q os ks (mk N (CA ρ d v)) w1) :
  LW P ops w0 Q (⟨some d,.buildSlice t 4 #[(0,x0),(1,x1),(2,x2),(3,x3)],ty,pos,aft,g⟩::os) (3::ks) (mk N ρ) w:=by
 have hc:=hels.cells1 hE
 have hr:=Tf (P:=P) (w:=w) ht hi (hc u0 (by simp)).1 (hc u1 (by simp)).1 (hc u2 (by simp)).1 (hc u3 (by simp)).1 hz
 have hrun:(execOp (Bn N ρ) ⟨some d,.buildSlice t 4 #[(0,x0),(1,x1),(2,x2),(3,x3)],ty,pos,aft,g⟩).run P w=.ok (.value (.slice (some ⟨w.heap.size,0,none⟩) 4 4)) (w.alloc (.cells #[u0,u1,u2,u3] e)):=by
  simp only[execOp,zc,zf,zh,Sem.run_bind,hx0,hx1,hx2,hx3,hr,Result.andThen_ok,Sem.run_pure]
 refine IC rfl hu _ _ hrun (By _ _)<|h _ _ (By _ _) (by simp) ?_
 have hn:=Gg (e:=e) (w:=w) hE (us:=[u0,u1,u2,u3]) (xs:=ys) (F:=[]) (cur:=#[u0,u1,u2,u3]) hels (by simp[maxLen]) (by rw[hl];rfl) (by rw[hl];simp)
 rw[hl]at hn
 refine⟨_,hn,?_,fun c hc=>?_⟩
 ·rw[List.nodup_cons]
  exact⟨fun hm=>(by cases hm),zk⟩
 ·rcases ze.1 hc with rfl|hc
  ·exact⟨A7 _,by simp⟩
  ·cases hc
end str
theorem Xs {H:Array Obj}{u0 u1 u2 u3:Value}(h0:u0.cells=#[u0]∧u0.oneCell'=true)(h1:u1.cells=#[u1]∧u1.oneCell'=true)(h2:u2.cells=#[u2]∧u2.oneCell'=true)(h3:u3.cells=#[u3]∧u3.oneCell'=true):els rV H [u0,u1,u2,u3] [u0,u1,u2,u3] [] :=
 Kr fun u hu=>by
  simp only[ze,z2,or_false]at hu
  rcases hu with rfl|rfl|rfl|rfl <;> assumption
theorem Tg {p q:List Fn}{F v:Int}{e:Ex}(hF:F≤((p.length:Nat):Int)):Gl (p++q) F v e=Gl p F v e:=by
 by_cases h:GS e.num 0 (F-1)=true
 ·have h1:=BJ.1 h
  have h2:(p++q).getD e.num.toNat Fn.zero=p.getD e.num.toNat Fn.zero:=GM zO
  unfold Gl
  rw[h2]
 ·unfold Gl
  simp only[Bool.not_eq_true]at h
  simp[h]
mutual
theorem Ob {p q:List Fn}{F:Int}(hF:F≤((p.length:Nat):Int)):∀(e:Ex)(v:Int),wf (p++q) F e v=wf p F e v
 |.mk k n c d l,v=>by rw[wf,wf,Tg hF,Pd hF l]
theorem Pd {p q:List Fn}{F:Int}(hF:F≤((p.length:Nat):Int)):∀(l:List Ex)(b:Bool)(i:Nat)(v:Int),OZ (p++q) F b i l v=OZ p F b i l v
 |[],_,_,_=>by rw[OZ,OZ]
 |e::l,b,i,v=>by rw[OZ,OZ,Ob hF e,Pd hF l]
end
structure Li (p:List Fn)(pl:Bool):Prop where
 len:p.length≤12
 par:∀k,k<p.length→1≤(p.getD k Fn.zero).params∧(p.getD k Fn.zero).params≤3
 outs:∀k,k<p.length→1≤(p.getD k Fn.zero).outs.length∧(p.getD k Fn.zero).outs.length≤3
 wf:∀k,k<p.length→∀j,j<(p.getD k Fn.zero).outs.length→wf p ((k:Nat):Int) ((p.getD k Fn.zero).outs.getD j Ex.zero) (p.getD k Fn.zero).params=true
 dp:∀k,k<p.length→Ex.deeps (p.getD k Fn.zero).outs≤6
 sz:∀k,k<p.length→Ex.sizes (p.getD k Fn.zero).outs≤400
 pl:pl=true→∀k,k<p.length→NT (p.getD k Fn.zero).outs=true
 nm:∀k,k<p.length→Kz (p.getD k Fn.zero).name=true
 nw:∀k,k<p.length→Q3 p k=true
theorem Li.nil (pl:Bool):Li [] pl:=by
 constructor
 ·simp
 all_goals first|(intro _ k hk;simp at hk)|(intro k hk;simp at hk)
theorem Li.gpr {p:List Fn}{pl:Bool}(h:Li p pl):Xr p :=
 ⟨by have:=h.len;omega,fun k hk=>by have:=h.par k hk;omega,fun k hk=>by have:=h.outs k hk;omega⟩
theorem Li.snoc {p:List Fn}{pl:Bool}{f:Fn}(h:Li p pl)(hl:p.length≤11)(hp:1≤f.params∧f.params≤3)(ho:1≤f.outs.length∧f.outs.length≤3)
  (hw:∀j,j<f.outs.length→Go.Proofs.YtbajepcpgncekaaGreat.wf p ((p.length:Nat):Int) (f.outs.getD j Ex.zero) f.params=true) (hd:Ex.deeps f.outs≤6) (hs:Ex.sizes f.outs≤400) (hpl:pl=true→NT f.outs=true)
  (hn:Kz f.name=true) (hnw:∀k,k<p.length→I6 (p.getD k Fn.zero).name f.name=false):Li (p++[f]) pl:=by
 have e:∀k,k<(p++[f]).length→(k<p.length∧(p++[f]).getD k Fn.zero=p.getD k Fn.zero)∨(k=p.length∧(p++[f]).getD k Fn.zero=f):=fun k hk=>by
  rw[z4,zd]at hk
  by_cases h:k<p.length
  ·exact .inl ⟨h,GM h⟩
  ·exact .inr ⟨zO,GY zO⟩
 refine⟨by rw[z4,zd];omega,?_,?_,?_,?_,?_,?_,?_,?_⟩
 ·intro k hk;rcases e k hk with⟨h1,h2⟩|⟨h1,h2⟩ <;> rw[h2]
  ·exact h.par k h1
  ·exact hp
 ·intro k hk;rcases e k hk with⟨h1,h2⟩|⟨h1,h2⟩ <;> rw[h2]
  ·exact h.outs k h1
  ·exact ho
 ·intro k hk;rcases e k hk with⟨h1,h2⟩|⟨h1,h2⟩ <;> rw[h2]
  ·intro j hj;rw[Ob (by omega)];exact h.wf k h1 j hj
  ·intro j hj;subst h1;rw[Ob (by omega)];exact hw j hj
 ·intro k hk;rcases e k hk with⟨h1,h2⟩|⟨h1,h2⟩ <;> rw[h2]
  ·exact h.dp k h1
  ·exact hd
 ·intro k hk;rcases e k hk with⟨h1,h2⟩|⟨h1,h2⟩ <;> rw[h2]
  ·exact h.sz k h1
  ·exact hs
 ·intro hq k hk;rcases e k hk with⟨h1,h2⟩|⟨h1,h2⟩ <;> rw[h2]
  ·exact h.pl hq k h1
  ·exact hpl hq
 ·intro k hk;rcases e k hk with⟨h1,h2⟩|⟨h1,h2⟩ <;> rw[h2]
  ·exact h.nm k h1
  ·exact hn
 ·intro k hk
  rcases e k hk with⟨h1,h2⟩|⟨h1,h2⟩
  ·have:=h.nw k h1
   unfold Q3 at this ⊢
   rwa [h2,List.take_append_of_le_length (by omega)]
  ·unfold Q3
   rw[h2,h1,List.take_left]
   simp only[Bool.not_eq_true',List.any_eq_false]
   intro g hg
   obtain⟨i,hi,rfl⟩:=List.mem_iff_getElem.1 hg
   have:=hnw i hi
   rw[List.getD_eq_getElem?_getD,List.getElem?_eq_getElem hi,Option.getD_some]at this
   simp[this]
theorem Li.ok {p:List Fn}{pl:Bool}(h:Li p pl):Jg p=true:=by
 unfold Jg
 rw[z7]
 refine⟨A5 (by have:=h.len;omega),zm.2 fun k hk=>?_⟩
 rw[List.mem_range]at hk
 have h1:=h.par k hk;have h2:=h.outs k hk;have h3:=h.sz k hk;have h4:=h.dp k hk
 unfold JJ
 rw[h.nm k hk,h.nw k hk,BJ.2 zO,BJ.2 zO,A5 h3]
 simp only[Bool.true_and,Bool.and_true]
 refine zm.2 fun j hj=>?_
 rw[List.mem_range]at hj
 have h5:=Ks hj;have h6:=D7 hj
 unfold Lq
 rw[BJ.2 zO,BJ.2 zO,A5 zO,A5 zO,h.wf k hk j hj]
 rfl
structure R6 (p:List Fn)(vars:Int)(pl:Bool)(xs:List Ex)(i:Nat):Prop where
 len:xs.length=i
 wf:∀j,j<i→wf p ((p.length:Nat):Int) (xs.getD j Ex.zero) vars=true
 dp:Ex.deeps xs≤6
 sz:Ex.sizes xs≤i*117
 pl:pl=true→NT xs=true
theorem R6.nil (p:List Fn)(vars:Int)(pl:Bool):R6 p vars pl [] 0:=⟨rfl,fun j hj=>by omega,by rw[Ex.deeps];omega,by rw[Ex.sizes];omega,fun _=>by rw[NT]⟩
theorem R6.snoc {p:List Fn}{funcs vars:Int}{pl:Bool}{xs:List Ex}{i d:Nat}{l0 l1:Int}{x:Ex}(h:R6 p vars pl xs i)(hf:funcs=((p.length:Nat):Int))(hd:d≤5)(hl:l0≤30)(hx:Pb p funcs vars pl d l0 l1 x):R6 p vars pl (xs++[x]) (i+1):=by
 have hlen:=h.len
 subst hf
 refine⟨by simp[hlen],fun j hj=>?_,?_,?_,fun hp=>?_⟩
 ·by_cases e:j=i
  ·subst e
   rw[GY hlen.symm];exact hx.wf
  ·rw[GM (by omega)];exact h.wf j zO
 ·have h1:=h.dp;have h2:=hx.dp
  rw[I4];omega
 ·have h1:=h.sz;have h2:=hx.sz
  rw[I3];omega
 ·rw[Nm,h.pl hp,hx.pl hp];rfl
def Dn (p:List Fn):Prop:=∀k,k<p.length→∃s∈Mr,(p.getD k Fn.zero).name=s++IJ k
theorem Dn.nil:Dn []:=fun k hk=>by simp at hk
theorem Dn.snoc {p:List Fn}{f:Fn}{s:ByteArray}(h:Dn p)(hs:s∈Mr)(hf:f.name=s++IJ p.length):Dn (p++[f]):=fun k hk=>by
 rw[z4,zd]at hk
 by_cases e:k<p.length
 ·rw[GM e];exact h k e
 ·rw[GY zO,show k=p.length from by omega];exact⟨s,hs,hf⟩
theorem R6.fn {p:List Fn}{pl:Bool}{f:Fn}{s:ByteArray}{i:Nat}(h:Li p pl)(hd:Dn p)(hl:p.length≤9)(hp:1≤f.params∧f.params≤3)(hi:1≤i∧i≤3)(ho:R6 p f.params pl f.outs i)
  (hs:s∈Mr) (hf:f.name=s++IJ p.length):Li (p++[f]) pl∧Dn (p++[f]) :=
 ⟨h.snoc zO hp (by rw[ho.len];exact hi) (fun j hj=>ho.wf j (by rw[← ho.len];exact hj)) ho.dp (by have:=ho.sz;omega) ho.pl (by rw[hf];exact Tc s hs ⟨p.length,zO⟩) (fun k hk=>by
  obtain⟨t,ht,e⟩:=hd k hk
  rw[e,hf]
  exact Td t ht s hs ⟨k,zO⟩ ⟨p.length,zO⟩ (by show k≠p.length;omega)),hd.snoc hs hf⟩
theorem R7 {x:ByteArray}(h:Value.string x∈[Value.string ⟨#[102]⟩,.string ⟨#[103]⟩,.string ⟨#[115,116,101,112]⟩,.string ⟨#[104,50]⟩]):x∈Mr:=by
 simp only[ze,z2,or_false,Value.string.injEq]at h
 rcases h with h|h|h|h <;> subst h <;> simp[Mr]
theorem Zl:Hu 5=47770:=by decide
theorem Zm:LY 5=1365:=by decide
theorem Li.npl {p:List Fn}{pl:Bool}(h:Li p pl):Li p false:=⟨h.len,h.par,h.outs,h.wf,h.dp,h.sz,fun h=>absurd h (by decide),h.nm,h.nw⟩
section res
variable {P:Program} {N:Nat} {ρ:Nat→Value} {w:World}
theorem R8:∀(l:List Nat),(((l.map ResultVar.tmp).mapM (m:=Sem) fun
  |.tmp t=>pure ((mk N ρ).tmps.getD t undef)
  |.cell a t=>do loadVar t (← asAddr ((mk N ρ).tmps.getD a undef)))).run P w=.ok (l.map fun t=>Bn N ρ (.tmp t)) w:=by
 intro l
 induction l with
 |nil=>rfl
 |cons t l ih =>
  simp only[zf,List.mapM_cons,Sem.run_bind,Sem.run_pure,Result.andThen_ok,JX]at ih ⊢
  rw[ih]
  rfl
theorem Ji {fn:Func}{R:Ending→World→Prop}{k s b t0:Nat}{ts:List Nat}{ty:TypeId}{cs:List Value}(vs:List Value)(hr:fn.results=(ResultVar.cell k ty::((t0::ts).map ResultVar.tmp)).toArray)(ha:Em P ty s=true)(hv:Bn N ρ (.tmp k)=.pointer (some ⟨b,0,none⟩))(hb:BX w.heap b cs)(hl:cs.length=s)
  (hvs:((t0::ts).map fun t=>Bn N ρ (.tmp t))=vs) (h:R (.returned (.tuple (.agg cs.toArray::vs).toArray)) w):bodyPost P fn R .ret (mk N ρ) w:=by
 subst hvs
 refine⟨rfl,_,?_,h⟩
 have hld:=IE (P:=P) ha (LD.of_box hb) hl
 have hg:(mk N ρ).tmps.getD k undef=.pointer (some ⟨b,0,none⟩):=by rw[JX,hv]
 have hi:(asAddr (.pointer (some ⟨b,0,none⟩))).run P w=.ok ⟨b,0,none⟩ w:=rfl
 have key:=R8 (P:=P) (N:=N) (ρ:=ρ) (w:=w) (t0::ts)
 unfold results
 rw[hr]
 simp only[List.mapM_toArray,Sem.run_bind,Sem.run_map]
 have hfull:(((ResultVar.cell k ty::((t0::ts).map ResultVar.tmp)).mapM (m:=Sem) fun
  |.tmp t=>pure ((mk N ρ).tmps.getD t undef)
  |.cell a t=>do loadVar t (← asAddr ((mk N ρ).tmps.getD a undef)))).run P w=.ok (.agg cs.toArray::((t0::ts).map fun t=>Bn N ρ (.tmp t))) w:=by
  rw[List.mapM_cons]
  simp only[Sem.run_bind,Sem.run_pure,hg,hi,hld,Result.andThen_ok]
  rw[key]
  rfl
 refine (congrArg (fun r=>(Result.andThen (Result.andThen r fun a w'=>Result.ok a.toArray w') fun a w'=>Result.ok (if h:a.size=1 then a[0]else Value.tuple a) w')) hfull).trans ?_
 simp only[Result.andThen_ok]
 rfl
end res
end
section
set_option linter.unusedSectionVars false
namespace Jx
section
variable [J:JR] {P:Program} {ops:Array Oper} {md:Region.Mode} {kd bs:Nat→Nat} {w0:World} {Q:Act→World→Prop}
theorem Ka {Q':Act→World→Prop}(h:∀a w,Q a w→Q' a w):∀(l:List Nat)(a:Act)(w:World),LI P ops kd w0 Q l a w→LI P ops kd w0 Q' l a w
 |[],a,w,hh=>h a w hh
 |i::l,a,w,hh=>by
  simp only[LI]at hh ⊢
  cases hoi:ops[i]? with
  |none=>rw[hoi]at hh;exact hh.elim
  |some o =>
   rw[hoi]at hh
   simp only at hh ⊢
   split
   ·rename_i hw
    rw[if_pos hw]at hh
    exact hh.mono fun a w=>Ka h l a w
   ·rename_i hw
    rw[if_neg hw]at hh
    exact Ka h l _ _ hh
theorem KB (s:List Nat):∀(l:List Nat)(a:Act)(w:World),LI P ops kd w0 (LI P ops kd w0 Q s) l a w→LI P ops kd w0 Q (l++s) a w
 |[],a,w,hh=>hh
 |i::l,a,w,hh=>by
  simp only[LI,List.cons_append]at hh ⊢
  cases hoi:ops[i]? with
  |none=>rw[hoi]at hh;exact hh.elim
  |some o =>
   rw[hoi]at hh
   simp only at hh ⊢
   split
   ·rename_i hw
    rw[if_pos hw]at hh
    exact hh.mono fun a w=>KB s l a w
   ·rename_i hw
    rw[if_neg hw]at hh
    exact KB s l _ _ hh
theorem DA {Q':Act→World→Prop}(hQ:∀a w,Q a w→Q' a w):∀(l:List Nat)(os:List Oper)(ks:List Nat)(a:Act)(w:World),Mt ops kd l os ks→LW P ops w0 Q os ks a w→LI P ops kd w0 Q' l a w
 |[],[],_,a,w,_,h=>by simpa [LI]using hQ a w (by simpa [LW]using h)
 |x::l,o::os,k::ks,a,w,⟨h0,hk,hM⟩,h=>by
  have hr:∀a w,LW P ops w0 Q os ks a w→LI P ops kd w0 Q' l a w:=fun a w hh=>DA hQ l os ks a w hM hh
  simp only[LI,h0,LW]at h ⊢
  split
  ·rename_i hw
   rw[if_pos hw]at h
   rw[hk]
   exact h.mono hr
  ·rename_i hw
   rw[if_neg hw]at h
   exact hr _ _ h
 |[],_::_,_,_,_,h,_=>h.elim
 |_::_,[],_,_,_,h,_=>h.elim
 |_::_,_::_,[],_,_,h,_=>h.elim
structure Oc (ops:Array Oper)(kd bs:Nat→Nat)(w0:World)(L0 S:List Nat)(n:Nat)(l:List Nat)(listed:Array Bool)(w:World):Prop where
 sub:l.Sublist L0
 len:l.length+S.length=n
 mem:∀i,i∈l++S↔listed.getD i true=false
 sz:listed.size=ops.size
 clo:J7 bs listed
 inv:N0 kd w0 w (l++S)
 nd:(l++S).Nodup
variable {L0:List Nat}
theorem Th {l:List Nat}(hp:l.Pairwise (fun x y=>4≤kd x→kd y≠1)):N1 kd l:=by
 intro l1 i l2 hl hk j hj
 subst hl
 exact List.rel_of_pairwise_cons (List.pairwise_append.1 hp).2.1 hj hk
theorem KC (hsel:∀(j:Nat)(o:Oper) cs b,ops[j]? = some o→o.op≠.select cs b)(hS:LG md ops bs)
  (hlex:∀j oj,ops[j]? = some oj→∀e∈oj.after,Region.binds md e=true→e.on<j) {s:List Nat} (hp:(L0++s).Pairwise (E0 md ops kd bs)) (h14:(L0++s).Pairwise (fun x y=>4≤kd x→kd y≠1))
  (n:Nat) (l:List Nat) (listed:Array Bool) (a:Act) (w:World) (hC:Oc ops kd bs w0 L0 s n l listed w) (h:LI P ops kd w0 (LI P ops kd w0 Q s) l a w):wpAny P md ops (NQ Q) n listed a w :=
 EH hsel hS hlex n (l++s) listed a w (by rw[z4];exact hC.len) (hp.sublist (List.Sublist.append_right hC.sub s)) hC.nd hC.sz hC.mem hC.clo
  (Th (h14.sublist (List.Sublist.append_right hC.sub s))) hC.inv (KB s l a w h)
theorem Jj (hsel:∀ (j:Nat) (o:Oper) cs b,ops[j]? = some o→o.op≠.select cs b) (hS:LG md ops bs)
  (hlex:∀ j oj,ops[j]? = some oj→∀ e∈oj.after,Region.binds md e = true→e.on < j)
  {h1 h2:Nat} {S1 S2:List Nat} {Q1 Q2:Act→World→Prop} (hperm:(h1 :: S1).Perm (h2 :: S2)) (hk1:kd h1 = 3) (hk2:kd h2 = 3)
  (hl:∀ x∈L0,kd x≤2) (hL:L0.Pairwise (E0 md ops kd bs)) (hf1:∀ x∈L0,E0 md ops kd bs x h1) (hf2:∀ x∈L0,E0 md ops kd bs x h2)
  (hz:∀ z∈S1,z = h2∨(bs z).testBit h1 = true∨(bs z).testBit h2 = true)
  (hord:(L0++h1 :: S1).Pairwise (fun x y=>∀ ox,ops[x]? = some ox→∀ e∈ox.after,Region.binds md e = true→e.on≠y))
  (rec1:∀ n l listed a w,Oc ops kd bs w0 L0 S1 n l listed w→LI P ops kd w0 Q1 l a w→wpAny P md ops (NQ Q) n listed a w)
  (rec2:∀ n l listed a w,Oc ops kd bs w0 L0 S2 n l listed w→LI P ops kd w0 Q2 l a w→wpAny P md ops (NQ Q) n listed a w) :
  ∀ (n:Nat) (l:List Nat) (listed:Array Bool) (a:Act) (w:World),Oc ops kd bs w0 L0 (h1 :: S1) n l listed w→LI P ops kd w0 (fun a w=>LI P ops kd w0 Q1 [h1] a w∧LI P ops kd w0 Q2 [h2] a w) l a w→wpAny P md ops (NQ Q) n listed a w
 | 0,l,listed,a,w,hC,h=>by have:=hC.len; simp at this
 | n + 1,l,listed,a,w,hC,h=>by
  have hm2:∀ i,i∈l++h1 :: S1↔i∈l++h2 :: S2:=fun i=>by
   simp only [zi]; rw [hperm.mem_iff]
  have hun_of:∀ i∈l++h1 :: S1,listed.getD i true = false:=fun i hi=>(hC.mem i).1 hi
  -- a place that makes memory is taken
  have heavy:∀ (x:Nat) (T:List Nat) (Qx:Act→World→Prop),kd x = 3→(h1 :: S1).Perm (x :: T)→(∀ y∈L0,E0 md ops kd bs y x)→LI P ops kd w0 Qx (l++[x]) a w →
    (∀ l' a' w' listed',Oc ops kd bs w0 L0 T n l' listed' w'→LI P ops kd w0 Qx l' a' w'→wpAny P md ops (NQ Q) n listed' a' w') →
    ∀ (ox:Oper),ops[x]? = some ox→(∀ e∈ox.after,Region.binds md e = true→listed.getD e.on false = true)→wpOp P ops (NQ Q) x (wpAny P md ops (NQ Q) n (listed.setIfInBounds x true)) a w:=by
   intro x T Qx hkx hpx hfx hLx hrec ox hox hall
   have hbits:=E9 hS hC.clo hox hall
   have hxm:x∈l++h1 :: S1:=z1 _ (hpx.mem_iff.2 (z0 ..))
   have hxu:=hun_of x hxm
   have hfree:=Fl (kd:=kd) (l1:=l) hox (fun y hy=>(hfx y<|hC.sub.subset hy).1) (fun y hy=>hun_of y<|z8 _ hy) hbits
   have hsz:=CE hxu
   have hnd2:(l++x :: T).Nodup:=(List.Perm.append_left l hpx).nodup_iff.1 hC.nd
   have hxl:x∉l++T:=by
    have h1:=List.nodup_append.1 hnd2
    intro hmem
    rcases zi.1 hmem with hh | hh
    ·exact h1.2.2 x hh x (z0 ..) rfl
    ·exact (List.nodup_cons.1 h1.2.1).1 hh
   have hmT:∀ i,i∈l++x :: T↔listed.getD i true = false:=fun i=>by
    rw [← hC.mem i]; simp only [zi]; rw [hpx.mem_iff]
   have hcond:∀ w',(AG w w')→Oc ops kd bs w0 L0 T n l (listed.setIfInBounds x true) w':=fun w' hE =>
    ⟨hC.sub,by have:=hC.len; have:=hpx.length_eq; simp at *; omega,Hp hmT hxl hsz,by simpa using hC.sz,Ge hC.clo hbits,
     fun ⟨j,hj,hkj⟩=>(hC.inv ⟨j,by
      rcases zi.1 hj with hh | hh
      ·exact z8 _ hh
      ·exact z1 _ (hpx.mem_iff.2 (z3 _ hh)),hkj⟩).trans hE,
     hnd2.sublist (List.Sublist.append_left (List.sublist_cons_self _ _) _)⟩
   obtain ⟨g1,g2⟩:=JE (Q:=Qx) hsel hox zO l [] a w hfree (by simpa using hLx)
   unfold wpOp
   rw [hox]
   by_cases hw:Region.wanted ox (yielded ops a.tmps) = true
   ·simp only [hw,if_true]
    exact .inl<|Oper.wp_mono (fun a' w' hK=>hrec l a' w' _ (hcond w'<|hK.1 hkx) (by simpa using hK.2))<|Iy<|g1 hw
   ·simp only [hw,Bool.false_eq_true,if_false]
    exact hrec l _ w _ (hcond w<|AG.refl w) (by simpa using g2 (by simpa using hw))
  refine ⟨fun h0=>?_,fun i hi=>?_⟩
  ·exfalso
   have hready:∀ (x:Nat) (t:List Nat),l++h1 :: S1 = x :: t→False:=fun x t ht=>by
    have hs:(x :: t).Pairwise (fun x y=>∀ ox,ops[x]? = some ox→∀ e∈ox.after,Region.binds md e = true→e.on≠y):=ht ▸ hord.sublist (List.Sublist.append_right hC.sub _)
    have:=HX (md:=md) (i:=x) (l:=t) hC.sz (fun y=>ht ▸ hC.mem y) hlex (fun y hy ox hox=>(List.pairwise_cons.1 hs).1 y hy ox hox)
    rw [h0] at this
    cases this
   cases l with
   | nil=>exact hready _ _ rfl
   | cons x l=>exact hready x (l++h1 :: S1) rfl
  ·obtain ⟨hun,oi,hoi,hall⟩:=mem_ready.1 hi
   have hmem:=(hC.mem i).2 hun
   have hbits:=E9 hS hC.clo hoi hall
   by_cases hil:i∈l
   ·obtain ⟨l1,l2,rfl⟩:=List.append_of_mem hil
    have hpi:∀ x∈l1,E0 md ops kd bs x i:=fun x hx=>(List.pairwise_append.1 (hL.sublist hC.sub)).2.2 x hx i (z0 ..)
    have hfree:=Fl (kd:=kd) (l1:=l1) hoi (fun x hx=>(hpi x hx).1) (fun x hx=>hun_of x (by simp [hx])) hbits
    have hk:kd i≤2:=hl i (hC.sub.subset (by simp))
    have hsub0:(l1++l2).Sublist (l1++i :: l2):=List.Sublist.append_left (List.sublist_cons_self _ _) _
    have hnd1:(l1++i :: (l2++h1 :: S1)).Nodup:=by have:=hC.nd; rwa [List.append_assoc,List.cons_append] at this
    have hnot:i∉l1++(l2++h1 :: S1):=by
     have h1:=List.nodup_append.1 hnd1
     intro hmem
     rcases zi.1 hmem with hh | hh
     ·exact h1.2.2 i hh i (z0 ..) rfl
     ·exact (List.nodup_cons.1 h1.2.1).1 hh
    have hm1:∀ x,x∈l1++i :: (l2++h1 :: S1)↔listed.getD x true = false:=fun x=>by
     have:=hC.mem x; rwa [List.append_assoc,List.cons_append] at this
    have hcond:Oc ops kd bs w0 L0 (h1 :: S1) n (l1++l2) (listed.setIfInBounds i true) w :=
     ⟨hsub0.trans hC.sub,by have:=hC.len; simp at *; omega,fun x=>by rw [List.append_assoc]; exact Hp hm1 hnot (CE hun) x,by simpa using hC.sz,Ge hC.clo hbits,
      fun ⟨j,hj,hkj⟩=>hC.inv ⟨j,by
       rcases zi.1 hj with hh | hh
       ·exact z8 _<|hsub0.subset hh
       ·exact z1 _ hh,hkj⟩,
      hC.nd.sublist (List.Sublist.append_right hsub0 _)⟩
    obtain ⟨v,hv,hL'⟩:=HO hsel hoi hk l1 l2 a w hfree (fun h1=>hC.inv ⟨i,by simp,h1⟩) h
    unfold wpOp
    rw [hoi]
    have rec_:=fun a' hh=>Jj hsel hS hlex hperm hk1 hk2 hl hL hf1 hf2 hz hord rec1 rec2 n (l1++l2) (listed.setIfInBounds i true) a' w hcond hh
    rcases hv with ⟨hw,hy⟩ | ⟨hw,rfl⟩
    ·simp only [hw,if_true]
     exact .inl<|Iz (hy w (Cl.self fun h1=>hC.inv ⟨i,by simp,h1⟩))<|rec_ _ hL'
    ·simp only [hw,Bool.false_eq_true,if_false]
     exact rec_ _ hL'
   ·have hiS:i∈h1 :: S1:=(zi.1 hmem).resolve_left hil
    have h12:i = h1∨i = h2:=by
     rcases ze.1 hiS with hh | hh
     ·exact .inl hh
     ·rcases hz i hh with hh | hh | hh
      ·exact .inr hh
      ·have q1:=hbits h1 hh
       have q2:=Dv<|hun_of h1 (by simp)
       rw [q1] at q2; cases q2
      ·have q1:=hbits h2 hh
       have q2:=Dv<|hun_of h2 ((hm2 h2).2 (by simp))
       rw [q1] at q2; cases q2
    rcases h12 with rfl | rfl
    ·exact heavy i S1 Q1 hk1 (List.Perm.refl _) hf1 (KB [i] l a w<|Ka (fun _ _ hh=>hh.1) l a w h) (fun l' a' w' li hc hh=>rec1 n l' li a' w' hc hh) oi hoi hall
    ·exact heavy i S2 Q2 hk2 hperm hf2 (KB [i] l a w<|Ka (fun _ _ hh=>hh.2) l a w h) (fun l' a' w' li hc hh=>rec2 n l' li a' w' hc hh) oi hoi hall
theorem Ms (x:Nat)(l:List Nat)(a:Act)(w:World)(hh:LI P ops kd w0 Q (x::l) a w):LI P ops kd w0 (LI P ops kd w0 Q l) [x] a w:=by
 simp only[LI]at hh ⊢
 cases hoi:ops[x]? with
 |none=>rw[hoi]at hh;exact hh.elim
 |some o =>
  rw[hoi]at hh
  simp only at hh ⊢
  split
  ·rename_i hw
   rw[if_pos hw]at hh
   exact hh.mono fun a w h=>h
  ·rename_i hw
   rw[if_neg hw]at hh
   exact hh
end
def Pe (ops:Array Oper)(x y:Nat):Bool:=match ops[x]? with|some ox=>ox.after.all fun e=>!Region.binds .any e || e.on != y|none=>true
def Xt (os:List Oper)(ks:List Nat)(L0:List Nat)(h1 g1:Nat)(r1:List Nat)(g2:Nat)(r2:List Nat)(h2:Nat)(r3:List Nat):Bool :=
  let ops:=os.toArray
  let b:=(Region.before ops).toList
  Region.noSelect ops &&
  (os.zipIdx.all fun(o,j) =>
    (o.after.all fun e=>!Region.binds .any e || decide (e.on<j)) &&
    (let m:=o.after.foldl (fun s e=>if Region.binds .any e then s ||| 2 ^ e.on ||| b.getD e.on 0 else s) 0
     (b.getD j 0 == m))) &&
  (decide (ks.getD h1 0=3) && (decide (ks.getD h2 0=3) && (decide (ks.getD g1 0=3) && decide (ks.getD g2 0=3)))) &&
  (L0.all fun x=>decide (ks.getD x 0≤2)) &&
  PU (GV ops ks b) L0 &&
  (L0.all fun x=>GV ops ks b x h1 && (GV ops ks b x h2 && (GV ops ks b x g1 && GV ops ks b x g2))) &&
  ((h1::g1::r1).isPerm (h2::r3) && (g1::r1).isPerm (g2::r2)) &&
  ((g1::r1).all fun z=>decide (z=h2) || ((b.getD z 0).testBit h1 || (b.getD z 0).testBit h2)) &&
  (r1.all fun z=>decide (z=g2) || ((b.getD z 0).testBit g1 || (b.getD z 0).testBit g2)) &&
  (PU (Pe ops) (L0++h1::g1::r1)) &&
  (PU (GV ops ks b) (L0++r1) && (PU (GV ops ks b) (L0++r2) && PU (GV ops ks b) (L0++r3))) &&
  (PU (fun x y=>!(decide (4≤ks.getD x 0)) || ks.getD y 0 != 1) (L0++r1) && (PU (fun x y=>!(decide (4≤ks.getD x 0)) || ks.getD y 0 != 1) (L0++r2) && PU (fun x y=>!(decide (4≤ks.getD x 0)) || ks.getD y 0 != 1) (L0++r3))) &&
  (decide ((L0++h1::g1::r1).length=os.length) && (decide (L0++h1::g1::r1).Nodup && ((L0++h1::g1::r1).all (fun x=>decide (x<os.length)) && (List.range os.length).all fun x=>(L0++h1::g1::r1).contains x)))
section
variable [J:JR] {P:Program}
theorem Xu {id:Nat}{Q:Exit→Act→World→Prop}{a:Act}{w:World}(os:List Oper)(ks:List Nat)(L0:List Nat)(h1 g1:Nat)(r1:List Nat)(g2:Nat)(r2:List Nat)(h2:Nat)(r3:List Nat)
  (oL:List Oper) (kL:List Nat) (oh1 og1:Oper) (o1:List Oper) (k1:List Nat) (og2:Oper) (o2:List Oper) (k2:List Nat) (oh2:Oper) (o3:List Oper) (k3:List Nat) (hm:P.follows .mixedOrders=true) (hB:Xt os ks L0 h1 g1 r1 g2 r2 h2 r3=true)
  (hML:Mt os.toArray (fun i=>ks.getD i 0) L0 oL kL) (hMh:Mt os.toArray (fun i=>ks.getD i 0) [h1] [oh1] [3]) (hM1:Mt os.toArray (fun i=>ks.getD i 0) (g1::r1) (og1::o1) (3::k1)) (hM2:Mt os.toArray (fun i=>ks.getD i 0) (g2::r2) (og2::o2) (3::k2)) (hM3:Mt os.toArray (fun i=>ks.getD i 0) (h2::r3) (oh2::o3) (3::k3))
  (h:LW P os.toArray w.drew (fun a' w'=>LW P os.toArray w.drew (fun a'' w''=>LW P os.toArray w.drew (fun a w=>Q .normal a w) (og1::o1) (3::k1) a'' w''∧LW P os.toArray w.drew (fun a w=>Q .normal a w) (og2::o2) (3::k2) a'' w'') [oh1] [3] a' w' ∧
   LW P os.toArray w.drew (fun a w=>Q .normal a w) (oh2::o3) (3::k3) a' w') oL kL a w.drew):(Code.region id os.toArray true).wp P Q a w:=by
 refine wp_region_any hm ?_
 simp only[Xt,z7,decide_eq_true_eq]at hB
 obtain⟨⟨⟨⟨⟨⟨⟨⟨⟨⟨⟨⟨hsel,hpl⟩,hk1,hk2,hk3,hk4⟩,hl⟩,hpL⟩,hpx⟩,hpe1,hpe2⟩,hz1⟩,hz2⟩,hord⟩,hb1,hb2,hb3⟩,hn1,hn2,hn3⟩,hln,hnd,hlt,hct⟩:=hB
 have hz:∀ {j:Nat} {o:Oper},os.toArray[j]? = some o→(o,j)∈os.zipIdx:=by
  intro j o ho
  rw[List.mem_zipIdx_iff_getElem?]
  simpa using ho
 have hall:∀j oj,os.toArray[j]? = some oj→_:=fun j oj hj=>zm.1 hpl _ (hz hj)
 have hlex:∀j oj,os.toArray[j]? = some oj→∀e∈oj.after,Region.binds .any e=true→e.on<j:=by
  intro j oj hj e he hb
  have h1:=(z7 _ _ ▸ hall j oj hj:_∧_).1
  have h2:=(Array.all_eq_true_iff_forall_mem.1 h1) e he
  simpa [hb]using h2
 have hS:LG .any os.toArray (fun j=>(Region.before os.toArray).toList.getD j 0):=by
  intro j oj hj i hb
  have h3:=(z7 _ _ ▸ hall j oj hj:_∧_).2
  have h5:(Region.before os.toArray).toList.getD j 0=oj.after.foldl (fun s e=>if Region.binds .any e then s ||| 2 ^ e.on ||| (Region.before os.toArray).toList.getD e.on 0 else s) 0:=by simpa using h3
  dsimp only at hb
  rw[h5,← Array.foldl_toList]at hb
  rcases Gf _ _ _ _ hb with hb|⟨e,he,hbb,hh⟩
  ·simp at hb
  ·exact⟨e,Array.mem_toList_iff.1 he,hbb,hh⟩
 have hmem:∀x,x∈L0++h1::g1::r1↔x<os.length:=fun x=>by
  constructor
  ·intro hx;exact of_decide_eq_true (zm.1 hlt x hx)
  ·intro hx
   have:=zm.1 hct x (List.mem_range.2 hx)
   simpa using this
 have hse:=Region.noSelect_spec hsel
 have P2:∀ {l:List Nat},PU (GV os.toArray ks (Region.before os.toArray).toList) l=true→l.Pairwise (E0 .any os.toArray (fun i=>ks.getD i 0) (fun j=>(Region.before os.toArray).toList.getD j 0)):=fun h=>IB (fun x y hh=>EJ hh) h
 have N2:∀ {l:List Nat},PU (fun x y=>!(decide (4≤ks.getD x 0)) || ks.getD y 0 != 1) l=true→l.Pairwise (fun x y=>4≤ks.getD x 0→ks.getD y 0≠1):=fun h=>IB (fun x y hxy h4=>by
  rcases Bool.or_eq_true_iff.1 hxy with hh|hh
  ·simp only[Bool.not_eq_true',decide_eq_false_iff_not]at hh;exact absurd h4 hh
  ·simpa using hh) h
 have hL2:∀x∈L0,ks.getD x 0≤2:=fun x hx=>of_decide_eq_true (zm.1 hl x hx)
 have hx4:∀x∈L0,_:=fun x hx=>zm.1 hpx x hx
 simp only[z7]at hx4
 have hordP:(L0++h1::g1::r1).Pairwise (fun x y=>∀ox,os.toArray[x]? = some ox→∀e∈ox.after,Region.binds .any e=true→e.on≠y):=IB (fun x y hh ox hox e he hb=>by
  unfold Pe at hh
  rw[hox]at hh
  have:=(Array.all_eq_true_iff_forall_mem.1 hh) e he
  simpa [hb]using this) hord
 have hord2:(L0++g1::r1).Pairwise (fun x y=>∀ox,os.toArray[x]? = some ox→∀e∈ox.after,Region.binds .any e=true→e.on≠y):=hordP.sublist (List.Sublist.append_left (List.sublist_cons_self _ _) _)
 have zz1:∀z∈g1::r1,z=h2∨((Region.before os.toArray).toList.getD z 0).testBit h1=true∨((Region.before os.toArray).toList.getD z 0).testBit h2=true:=fun z hz=>by
  have:=zm.1 hz1 z hz
  simpa only[Bool.or_eq_true,decide_eq_true_eq]using this
 have zz2:∀z∈r1,z=g2∨((Region.before os.toArray).toList.getD z 0).testBit g1=true∨((Region.before os.toArray).toList.getD z 0).testBit g2=true:=fun z hz=>by
  have:=zm.1 hz2 z hz
  simpa only[Bool.or_eq_true,decide_eq_true_eq]using this
 have base1:=KC (P:=P) (w0:=w.drew) (Q:=fun a w=>Q .normal a w) hse hS hlex (P2 hb1)<|N2 hn1
 have base2:=KC (P:=P) (w0:=w.drew) (Q:=fun a w=>Q .normal a w) hse hS hlex (P2 hb2)<|N2 hn2
 have base3:=KC (P:=P) (w0:=w.drew) (Q:=fun a w=>Q .normal a w) hse hS hlex (P2 hb3)<|N2 hn3
 have inner:=Jj (P:=P) (w0:=w.drew) (Q:=fun a w=>Q .normal a w) hse hS hlex (h1:=g1) (h2:=g2) (S1:=r1) (S2:=r2) (List.isPerm_iff.1 hpe2) hk3 hk4 hL2 (P2 hpL) (fun x hx=>EJ (hx4 x hx).2.2.1) (fun x hx=>EJ (hx4 x hx).2.2.2) zz2 hord2 base1 base2
 have outer:=Jj (P:=P) (w0:=w.drew) (Q:=fun a w=>Q .normal a w) hse hS hlex (h1:=h1) (h2:=h2) (S1:=g1::r1) (S2:=r3) (List.isPerm_iff.1 hpe1) hk1 hk2 hL2 (P2 hpL) (fun x hx=>EJ (hx4 x hx).1) (fun x hx=>EJ (hx4 x hx).2.1) zz1 hordP inner base3
 have key:=outer os.length L0 (Array.replicate os.length false) a w.drew ⟨List.Sublist.refl _,by rw[← hln,z4],fun x=>?_,by simp,?_,fun _=>AG.refl _,hnd⟩ ?_
 ·have:=HY _ _ _ _ key
  simpa using this
 ·rw[hmem]
  constructor
  ·intro hx;simp[hx]
  ·intro hh
   rcases Nat.lt_or_ge x os.length with h'|h'
   ·exact h'
   ·simp[Array.getElem?_eq_none (show(Array.replicate os.length false).size≤x by simpa using h')]at hh
 ·intro i hi
  rcases Nat.lt_or_ge i os.length with h'|h'
  ·simp[h']at hi
  ·simp[Array.getElem?_eq_none (show(Array.replicate os.length false).size≤i by simpa using h')]at hi
 ·refine DA (fun a w hh=>⟨?_,?_⟩) _ _ _ _ _ hML h
  ·exact DA (fun a w hh=>⟨Ms _ _ _ _<|DA (fun _ _ h=>h) _ _ _ _ _ hM1 hh.1,Ms _ _ _ _<|DA (fun _ _ h=>h) _ _ _ _ _ hM2 hh.2⟩) _ _ _ _ _ hMh hh.1
  ·exact Ms _ _ _ _<|DA (fun _ _ h=>h) _ _ _ _ _ hM3 hh.2
theorem aM {ops:Array Oper}{w0:World}{Q:Act→World→Prop}{o:Oper}{os:List Oper}{ks:List Nat}{a:Act}{w:World}(h:_root_.Go.Proofs.YtbajepcpgncekaaGreat.LW P ops w0 (fun a' w'=>AG w w'∧LW P ops w0 Q os ks a' w') [o] [4] a w):LW P ops w0 Q (o::os) (3::ks) a w:=by
 simp only[_root_.Go.Proofs.YtbajepcpgncekaaGreat.LW]at h
 simp only[LW]
 split
 ·rename_i hw
  rw[if_pos hw]at h
  unfold _root_.Go.Proofs.YtbajepcpgncekaaGreat.Bx at h
  unfold Bx
  rw[if_neg (by decide),if_neg (by decide)]at h
  rw[if_neg (by decide),if_pos rfl]
  exact h
 ·rename_i hw
  rw[if_neg hw]at h
  exact h.2
theorem Zn {ops:Array Oper}{w0:World}{Q:Act→World→Prop}{o:Oper}{os:List Oper}{ks:List Nat}{a:Act}{w:World}(h:_root_.Go.Proofs.YtbajepcpgncekaaGreat.LW P ops w0 (fun a' w'=>LW P ops w0 Q os ks a' w') [o] [3] a w):LW P ops w0 Q (o::os) (3::ks) a w:=by
 simp only[_root_.Go.Proofs.YtbajepcpgncekaaGreat.LW]at h
 simp only[LW]
 split
 ·rename_i hw
  rw[if_pos hw]at h
  unfold _root_.Go.Proofs.YtbajepcpgncekaaGreat.Bx at h
  unfold Bx
  rw[if_neg (by decide),if_pos rfl]at h
  rw[if_neg (by decide),if_pos rfl]
  exact Oper.wp_mono (fun a w hh=>⟨J.ext hh.1,hh.2⟩) h
 ·rename_i hw
  rw[if_neg hw]at h
  exact h
end
end Jx
end
section
structure AD where
 op:Int
 a:Int
 b:Int
 num:Int
def AD.zero:AD:=⟨0,0,0,0⟩
structure I9 where
 reg:Int
 z:Bool
def I9.zero:I9:=⟨0,false⟩
structure Tp where
 code:List AD
 grd:List I9
 vals:List Int
def Z8 (x:AD):List Value:=[.int .i64 x.op,.int .i64 x.a,.int .i64 x.b,.int .i64 x.num]
def Z9 (x:I9):List Value:=[.int .i64 x.reg,.bool x.z]
def R9 (x:AD):Prop:=Bt x.op∧Bt x.a∧Bt x.b∧Bt x.num
def No:BT AD:=fun _ cs x F=>cs=Z8 x∧R9 x∧F=[]
def Np:BT I9:=fun _ cs x F=>cs=Z9 x∧Bt x.reg∧F=[]
theorem B4:Cq 4 No where
 len:=fun h=>by rw[h.1];rfl
 one:=fun h u hu=>by
  rw[h.1]at hu
  simp only[Z8,ze,z2,or_false]at hu
  rcases hu with rfl|rfl|rfl|rfl <;> exact⟨rfl,rfl⟩
 lt:=fun h b hb=>by rw[h.2.2]at hb;cases hb
 stable:=fun h _=>h
theorem Bd:Cq 2 Np where
 len:=fun h=>by rw[h.1];rfl
 one:=fun h u hu=>by
  rw[h.1]at hu
  simp only[Z9,ze,z2,or_false]at hu
  rcases hu with rfl|rfl <;> exact⟨rfl,rfl⟩
 lt:=fun h b hb=>by rw[h.2.2]at hb;cases hb
 stable:=fun h _=>h
theorem Ra {B U:Nat}{H:Array Obj}{x:AD}(h:R9 x):PY No B U H (Z8 x) x:=⟨[],⟨rfl,h,rfl⟩,zk,fun b hb=>by cases hb⟩
theorem Vt {B U:Nat}{H:Array Obj}{x:I9}(h:Bt x.reg):PY Np B U H (Z9 x) x:=⟨[],⟨rfl,h,rfl⟩,zk,fun b hb=>by cases hb⟩
section ops
variable {P:Program} {ops:Array Oper} {w0:World} {Q:Act→World→Prop} {os:List Oper} {ks:List Nat} {N:Nat} {ρ:Nat→Value} {w:World}
 {d:Nat} {ty:TypeId} {pos:String} {aft:Array Edge} {g:Option (Nat×Bool)} {t e:TypeId} {z:Value} {b s:Nat}
theorem Mu {α:Type}{E:BT α}(hE:Cq s E){x y:Operand}{v a:Value}{xs:List α}{y0:α}{B T B' U':Nat}{F:List Nat}(ht:P.underlying t=some (.slice e))(hi:TI P e s z b)(hz:z.cells.size=s)(hs:0<s)(hx:Bn N ρ x=v)(hy:Bn N ρ y=a)(hv:Ow (EI s E e) B T w.heap v xs F)
  (ha:Fr (EI s E e) B' U' w.heap a [y0]) (hT:T≤B') (hB:B≤B') (hBw:B≤w.heap.size) (hbytes:(xs.length+1)*b≤140737488355328) (hmx:xs.length+1≤maxLen) (hu:Up ops N ρ ⟨some d,.call ⟨.builtin .append,#[x,y],#[t,t]⟩,ty,pos,aft,g⟩)
  (h:∀v1 w1 F1,As F w w1→Ow (EI s E e) B w1.heap.size w1.heap v1 (xs++[y0]) F1→(∀c∈F1,c∈F∨(B'≤c∧c<U')∨w.heap.size≤c)→LW P ops w0 Q os ks (mk N (CA ρ d v1)) w1) :
  LW P ops w0 Q (⟨some d,.call ⟨.builtin .append,#[x,y],#[t,t]⟩,ty,pos,aft,g⟩::os) (4::ks) (mk N ρ) w:=by
 obtain⟨v1,w1,F0,r1,⟨F1,r2,r3,r4⟩,r5,r6⟩:=Na (P:=P) (ty:=ty) hE ht hi hz hs (S:=fun b=>b∈F) (T:=fun b=>B'≤b∧b<U') ⟨F,hv.own,hv.nodup,fun _ h=>h⟩ ha (fun b h1 h2=>by have:=hv.high b h1;omega) hbytes hmx
 have hh:∀c∈F1,c∈F∨(B'≤c∧c<U')∨w.heap.size≤c:=fun c hc=>by
  rcases r4 c hc with h|h|h
  ·exact .inl h
  ·exact .inr<|.inl h
  ·exact .inr<|.inr<|Nat.le_of_eq h.symm
 exact HZ rfl hu v1 w1 (by simp only[execOp,resolve,invoke,builtin,zc,zf,zh,Sem.run_bind,Sem.run_pure,Result.andThen_ok,hx,hy,r1])
  (h v1 w1 F1 (r5.sub r6) ⟨r2,r3,fun c hc=>by
   rcases hh c hc with h|h|h
   ·exact hv.low c h
   ·omega
   ·omega,fun c hc=>(At hE).lt r2 c hc⟩ hh)
theorem KD {x y:Operand}{v a:Value}{xs ys:List Int}{B T:Nat}{F:List Nat}(ht:P.underlying t=some (.slice e))(hi:TI P e 1 z b)(hz:z.cells=#[z])(hx:Bn N ρ x=v)(hy:Bn N ρ y=a)(hv:Ow (Bi rI e) B T w.heap v xs F)
  (ha:Rd (AX rI) w.heap a ys) (hB:B≤w.heap.size) (hbytes:(xs.length+ys.length)*b≤140737488355328) (hmx:xs.length+ys.length≤maxLen) (hu:Up ops N ρ ⟨some d,.call ⟨.builtin .append,#[x,y],#[t,t]⟩,ty,pos,aft,g⟩)
  (h:∀v1 w1 F1,As F w w1→Ow (Bi rI e) B w1.heap.size w1.heap v1 (xs++ys) F1→(∀c∈F1,c∈F∨w.heap.size≤c)→LW P ops w0 Q os ks (mk N (CA ρ d v1)) w1) :
  LW P ops w0 Q (⟨some d,.call ⟨.builtin .append,#[x,y],#[t,t]⟩,ty,pos,aft,g⟩::os) (4::ks) (mk N ρ) w:=by
 obtain⟨G,g1⟩:=ha
 have hG:G.drop 1=[]:=by
  rcases g1 with⟨_,_,_,_,rfl⟩|⟨us,g,off,cap,cur,e',fr,G',hels,_,_,_,_,rfl⟩
  ·rfl
  ·exact Gi hels
 obtain⟨v',w',F',r1,r2,r3,r4,r5⟩:=Gh (P:=P) (ty:=ty) AK ht hi hz hv.own hv.nodup g1 rfl hbytes hmx (fun c hc=>by rw[hG]at hc;cases hc) (by rw[hG];exact zk)
 have hh:∀c∈F',c∈F∨w.heap.size≤c:=fun c hc=>by
  rcases r4 c hc with h|h|h
  ·exact .inl h
  ·rw[hG]at h;cases h
  ·exact .inr<|Nat.le_of_eq h.symm
 exact HZ rfl hu v' w' (by simp only[execOp,resolve,invoke,builtin,zc,zf,zh,Sem.run_bind,Sem.run_pure,Result.andThen_ok,hx,hy,r1])
  (h v' w' F' (r5.sub fun c hc=>zj hc) ⟨r2,r3,fun c hc=>by
   rcases hh c hc with h|h
   ·exact hv.low c h
   ·omega,fun c hc=>(Bb AK).lt r2 c hc⟩ hh)
theorem Ti {x y:Operand} {v a u:Value} {xs:List Int} {r:Int} {S:List Nat} {B' U':Nat} (ht:P.underlying t = some (.slice e)) (hi:TI P e 1 z b) (hz:z.cells = #[z]) (hx:Bn N ρ x = DD v) (hy:Bn N ρ y = a)
  (hv:RN S (AX rI) w.heap v xs) (ha:Fr (Bi rV e) B' U' w.heap a [u]) (hr:RN S rI w.heap u r) (hS:∀ c∈S,c < w.heap.size) (hbytes:(xs.length + 1) * b≤140737488355328) (hmx:xs.length + 1≤maxLen)
  (hu:Up ops N ρ ⟨some d,.call ⟨.builtin .append,#[x,y],#[t,t]⟩,ty,pos,aft,g⟩)
  (h:∀ v1 w1,AG w w1→RN S (AX rI) w1.heap v1 (xs++[r])→C8 v1→LW P ops w0 Q os ks (mk N (CA ρ d v1)) w1) :
  LW P ops w0 Q (⟨some d,.call ⟨.builtin .append,#[x,y],#[t,t]⟩,ty,pos,aft,g⟩ :: os) (4 :: ks) (mk N ρ) w:=by
 obtain ⟨G,g1',g2',g3'⟩:=ha
 obtain ⟨K,k1,k2⟩:=hv
 obtain ⟨R,r1,r2⟩:=hr
 obtain ⟨i,h1,h2,h3,h4⟩:=hi.get
 subst h4
 have hone:=AK.one r1
 rcases g1' with ⟨_,hc,_⟩ | ⟨asq,ga,capa,cura,Fa,helsa,hav,hga,qa1,qa2,qa3,qa4,rfl⟩
 ·cases hc
 ·obtain ⟨hq,hFa⟩:=Fq helsa
  subst hq
  subst hav
  have hnews:∀ j q,[u][j]? = some q→w.cell? ((⟨ga,0,none⟩:Addr).add j) = some q:=by
   intro j q hj
   rw [EO,BA]
   simp only [BM,hga]
   rw [← qa4,List.getElem?_take] at hj
   split at hj
   ·simpa using hj
   ·cases hj
  have made:∀ (w1:World) (ous:List Value) (K0:List Nat) (rest:Nat),w1.heap = w.heap→w1.os = w.os→w1.tape = w.tape→w1.output = w.output→els rI w.heap ous xs K0→(∀ c∈K0,c∈K)→xs.length + 1 + rest≤maxLen →
    AG w (w1.alloc (.cells (ous.toArray++[u].toArray++Builtin.zeroCells z.cells rest) e))∧RN S (AX rI) (w1.alloc (.cells (ous.toArray++[u].toArray++Builtin.zeroCells z.cells rest) e)).heap (.slice (some ⟨w.heap.size,0,none⟩) (xs.length + 1) (xs.length + 1 + rest)) (xs++[r]):=by
   intro w1 ous K0 rest hh ho htp hop hou hsub hmax
   have hE:AG w (w1.alloc (.cells (ous.toArray++[u].toArray++Builtin.zeroCells z.cells rest) e)):=by
    refine ⟨ho,htp,hop,?_,fun k hk=>?_⟩
    ·show w.heap.size≤(w1.heap.push _).size
     rw [hh]; simp
    ·have:=Below.heap_alloc w1 (.cells (ous.toArray++[u].toArray++Builtin.zeroCells z.cells rest) e) k (by rw [hh]; exact hk)
     rw [this,hh]
   refine ⟨hE,w.heap.size :: (K0++R),.inr ⟨ous++[u],w.heap.size,0,xs.length + 1 + rest,(ous.toArray++[u].toArray++Builtin.zeroCells z.cells rest),e,(0,0),K0++R,?_,by simp,?_,?_,by simp; omega,rfl⟩,?_⟩
   ·refine els.stable AK (hou.append (show els rI w.heap [u] [r] R from ⟨R,[],by simp,r1,rfl⟩)) fun c hc=>hE.heap ?_
    exact (hou.append (show els rI w.heap [u] [r] R from ⟨R,[],by simp,r1,rfl⟩)).lt AK c hc
   ·have:=heap_alloc_new w1 (.cells (ous.toArray++[u].toArray++Builtin.zeroCells z.cells rest) e)
    rw [hh] at this; exact this
   ·have hl:=hou.length
    simp only [Array.toList_append,List.drop_zero]
    rw [show (xs++[r]).length = (ous++[u]).length from by simp [hl]]
    exact List.take_left
   ·intro c hc hm
    rcases ze.1 hc with rfl | hc
    ·have:=hS _ hm; omega
    ·rcases zi.1 hc with hc | hc
     ·exact k2 c (hsub c hc) hm
     ·exact r2 c hc hm
  have hone1:[u].length = [u].length * i.size:=by rw [h3,Nat.mul_one]
  rcases k1 with ⟨a0,cap0,rfl,rfl,rfl⟩ | ⟨ous,gv,off,cap,cur,e',fr,K',hels,rfl,hg,hw,_,rfl⟩
  ·-- nothing so far
   cases a0 with
   | none =>
    have hrr:=run_append_nil (P:=P) w t ty e i z ht h1 h2 ⟨ga,0,none⟩ 1 capa [u] hone1 hnews (by decide) (by decide) (by simp at hbytes; omega)
    have hge:=grownCap_ge w 1 0 e
    have hgm:=grownCap_le_maxLen w 1 0 e (by simpa using hmx)
    obtain ⟨q1,q2⟩:=made w.drew [] [] (grownCap w 1 0 e - 1) rfl rfl rfl rfl rfl (fun c hc=>by cases hc) (by simp; omega)
    refine HZ rfl hu _ _ (by simp only [execOp,resolve,invoke,builtin,zc,zf,zh,Sem.run_bind,Sem.run_pure,Result.andThen_ok,hx,hy,DD]; rw [show [u].length = 1 from rfl,hrr]; rfl)<|h _ _ ?_ ?_ ?_
    ·simpa using q1
    ·have ea:(([]:List Int).length + 1 + (grownCap w 1 0 e - 1)) = grownCap w 1 0 e:=by simp; omega
     rw [ea] at q2
     simpa using q2
    ·exact hge
   | some a1 =>
    have hrr:=run_append_grow (P:=P) w t ty e i z ht h1 h2 a1 0 0 [] (by rw [h3]; rfl) (by intro j q hj; cases hj) ⟨ga,0,none⟩ 1 capa [u] hone1 hnews zO (by decide)<|growslice_fits zO (by simpa using hbytes)
    have hge:=grownCap_ge w (0 + 1) 0 e
    have hgm:=grownCap_le_maxLen w (0 + 1) 0 e (by simpa using hmx)
    obtain ⟨q1,q2⟩:=made w.drew [] [] (grownCap w (0 + 1) 0 e - (0 + 1)) rfl rfl rfl rfl rfl (fun c hc=>by cases hc) (by show 0 + 1 + (grownCap w (0 + 1) 0 e - (0 + 1))≤maxLen; omega)
    refine HZ rfl hu _ _ (by simp only [execOp,resolve,invoke,builtin,zc,zf,zh,Sem.run_bind,Sem.run_pure,Result.andThen_ok,hx,hy,DD]; rw [show [u].length = 1 from rfl,hrr]; rfl)<|h _ _ q1 ?_ ?_
    rotate_left
    ·exact hge
    have ea:(([]:List Int).length + 1 + (grownCap w (0 + 1) 0 e - (0 + 1))) = grownCap w (0 + 1) 0 e:=by show 0 + 1 + (grownCap w (0 + 1) 0 e - (0 + 1)) = _; omega
    rw [ea] at q2
    simpa using q2
  ·have holds:∀ j q,ous[j]? = some q→w.cell? ((⟨gv,off,none⟩:Addr).add j) = some q:=by
    intro j q hj
    rw [EO,BA]
    simp only [BM,hg]
    rw [← hw,List.getElem?_take] at hj
    split at hj
    ·rw [List.getElem?_drop] at hj; simpa using hj
    ·cases hj
   have hrr:=run_append_grow (P:=P) w t ty e i z ht h1 h2 ⟨gv,off,none⟩ xs.length xs.length ous (by rw [h3,hels.length]; omega) holds ⟨ga,0,none⟩ 1 capa [u] hone1 hnews zO (by simp only [maxLen] at hmx; omega)<|growslice_fits zO hbytes
   have hge:=grownCap_ge w (xs.length + 1) xs.length e
   have hgm:=grownCap_le_maxLen w (xs.length + 1) xs.length e hmx
   obtain ⟨q1,q2⟩:=made w.drew ous K' (grownCap w (xs.length + 1) xs.length e - (xs.length + 1)) rfl rfl rfl rfl hels (fun c hc=>z3 _ hc) zO
   refine HZ rfl hu _ _ (by simp only [execOp,resolve,invoke,builtin,zc,zf,zh,Sem.run_bind,Sem.run_pure,Result.andThen_ok,hx,hy,DD]; rw [show [u].length = 1 from rfl,hrr]; rfl)<|h _ _ q1 ?_ ?_
   rotate_left
   ·exact hge
   have ea:(xs.length + 1 + (grownCap w (xs.length + 1) xs.length e - (xs.length + 1))) = grownCap w (xs.length + 1) xs.length e:=by omega
   rw [ea] at q2
   exact q2
end ops
def Cj (t1 t2 t3:TypeId)(S:List Nat)(g:Nat)(H:Array Obj)(vc vg vv:Value)(T:Tp):Prop :=
 ∃Fc Fg Fv,Ow (EI 4 No t1) 0 H.size H vc T.code Fc∧Ow (EI 2 Np t2) 0 H.size H vg T.grd Fg∧Ow (Bi rI t3) 0 H.size H vv T.vals Fv ∧
  ((∀b∈Fc,b∉Fg)∧(∀b∈Fc,b∉Fv)∧(∀b∈Fg,b∉Fv))∧(g∉Fc∧g∉Fg∧g∉Fv)∧(∀b∈Fc,b∈S)∧(∀b∈Fg,b∈S)∧(∀b∈Fv,b∈S)
section rcm
variable {t1 t2 t3:TypeId} {S S':List Nat} {g:Nat} {w w':World} {vc vg vv:Value} {T:Tp}
theorem Ow.chgS {α:Type}{E:Bo α}(hE:BS E){B:Nat}{v:Value}{x:α}{F G:List Nat}(h:Ow E B w.heap.size w.heap v x F)(c:As G w w')(hG:∀b∈G,b∉F):Ow E B w'.heap.size w'.heap v x F:=(h.keep hE c hG).up c.size
theorem Cj.ext (h:Cj t1 t2 t3 S g w.heap vc vg vv T)(k:AG w w'):Cj t1 t2 t3 S g w'.heap vc vg vv T:=by
 obtain⟨Fc,Fg,Fv,h1,h2,h3,h4⟩:=h
 exact⟨Fc,Fg,Fv,(h1.ext (At B4) k).up k.size,(h2.ext (At Bd) k).up k.size,(h3.ext (Bb AK) k).up k.size,h4⟩
theorem Cj.chg (h:Cj t1 t2 t3 S g w.heap vc vg vv T)(k:As [g] w w'):Cj t1 t2 t3 S g w'.heap vc vg vv T:=by
 obtain⟨Fc,Fg,Fv,h1,h2,h3,h4,h5,h6⟩:=h
 exact⟨Fc,Fg,Fv,h1.chgS (At B4) k fun b hb hm=>by rw[A9 hb]at hm;exact h5.1 hm,h2.chgS (At Bd) k fun b hb hm=>by rw[A9 hb]at hm;exact h5.2.1 hm,
  h3.chgS (Bb AK) k fun b hb hm=>by rw[A9 hb]at hm;exact h5.2.2 hm,h4,h5,h6⟩
theorem Cj.chgO {F:List Nat}(h:Cj t1 t2 t3 S g w.heap vc vg vv T)(k:As F w w')(hF:∀b∈F,b∉S):Cj t1 t2 t3 S g w'.heap vc vg vv T:=by
 obtain⟨Fc,Fg,Fv,h1,h2,h3,h4,h5,h6⟩:=h
 exact⟨Fc,Fg,Fv,h1.chgS (At B4) k fun b hb hm=>hF b hb (h6.1 b hm),h2.chgS (At Bd) k fun b hb hm=>hF b hb (h6.2.1 b hm),
  h3.chgS (Bb AK) k fun b hb hm=>hF b hb (h6.2.2 b hm),h4,h5,h6⟩
theorem Cj.rdv (h:Cj t1 t2 t3 S g w.heap vc vg vv T):Rd (AX rI) w.heap vv T.vals:=by
 obtain⟨Fc,Fg,Fv,h1,h2,h3,_⟩:=h
 exact h3.fr.rd1
theorem Cj.slv (h:Cj t1 t2 t3 S g w.heap vc vg vv T):El vv T.vals.length:=by
 obtain⟨Fc,Fg,Fv,h1,h2,h3,_⟩:=h
 exact h3.fr.isSl
theorem Cj.slc (h:Cj t1 t2 t3 S g w.heap vc vg vv T):El vc T.code.length:=by
 obtain⟨Fc,Fg,Fv,h1,h2,h3,_⟩:=h
 exact h1.own.isSl
theorem Cj.slg (h:Cj t1 t2 t3 S g w.heap vc vg vv T):El vg T.grd.length:=by
 obtain⟨Fc,Fg,Fv,h1,h2,h3,_⟩:=h
 exact h2.own.isSl
end rcm
def Qi (t1 t2 t3:TypeId)(S:List Nat)(g:Nat)(H:Array Obj)(vp:Value)(ip:Int)(T:Tp)(s:Nat)(c:Int):Prop :=
 ∃vc vg vv,BX H g [vp,.int .i64 ip,vc,vg,.slice none 0 0,vv,.int .i64 ((s:Nat):Int),.int .i64 c]∧Cj t1 t2 t3 S g H vc vg vv T
theorem RN.stp {α:Type}{E:Bo α}(hE:BS E){S S':List Nat}{w w':World}{v:Value}{x:α}(h:RN S E w.heap v x)(c:As S w w')(hs:∀b∈S',b∈S∨w.heap.size≤b):RN S' E w'.heap v x:=by
 obtain⟨F,h1,h2⟩:=h
 refine⟨F,hE.stable h1 fun b hb=>c.block b (hE.lt h1 b hb) (h2 b hb),fun b hb hm=>?_⟩
 rcases hs b hm with hh|hh
 ·exact h2 b hb hh
 ·have:=hE.lt h1 b hb;omega
theorem As.stp {S S':List Nat}{a b c:World}(h:As S a b)(k:As S' b c)(hs:∀x∈S',x∈S∨a.heap.size≤x):As S a c :=
 ⟨k.os.trans h.os,k.tape.trans h.tape,k.output.trans h.output,A8 h.size k.size,fun i hi hm=>(k.block i (Nat.lt_of_lt_of_le hi h.size) fun hh=>by
  rcases hs i hh with h9|h9
  ·exact hm h9
  ·omega).trans (h.block i hi hm)⟩
theorem Od {S S' S'':List Nat}{n m:Nat}(h:∀b∈S',b∈S∨n≤b)(k:∀b∈S'',b∈S'∨m≤b)(hn:n≤m):∀b∈S'',b∈S∨n≤b:=fun b hb=>by
 rcases k b hb with hh|hh
 ·exact h b hh
 ·exact .inr zO
end
section
def Tp.put (T:Tp)(c:AD)(v:Int):Tp:=⟨T.code++[c],T.grd,T.vals++[v]⟩
def Tp.guard (T:Tp)(r:Int)(z:Bool):Tp:=⟨T.code,T.grd++[⟨r,z⟩],T.vals⟩
def Tp.at (T:Tp)(r:Int):Int:=T.vals.getD r.toNat 0
abbrev RI:=Int×Tp
abbrev RL:=List Int×Tp
structure Cg where
 one:Nat→Nat→List Int→Nat→Tp→Rs RI
 all:Nat→List Int→Nat→Tp→Rs RL
def Ia (f:List Int→Nat→Tp→Rs RL):Nat→List Int→Nat→Tp→Rs RL
 |0,a,s,T=>.ok (a,T) s
 |k+1,a,s,T=>(Ia f k a s T).bind fun x t=>f x.1 t x.2
def GN (k x y:Int):Int:=if k=3 then md (x+y)else if k=4 then md (x-y)else if k=5 then md (x*y)else if k=7 then md (0-x)else md (x*inv y)
def Jk (k:Int)(xs:List Int):AD:=⟨k,xs.getD 0 0,if k=7 then 0 else xs.getD 1 0,0⟩
def Rb (k:Int)(xs:List Int)(t:Nat)(T:Tp):Rs RI :=
 if k≠3∧k≠4∧k≠5∧k≠7∧T.at (Jk k xs).b=0 then .err 6
 else .ok (((T.vals.length:Nat):Int),T.put (Jk k xs) (GN k (T.at (Jk k xs).a) (T.at (Jk k xs).b))) t
mutual
def GF (C:Cg):Ex→List Int→Nat→Tp→Rs RI
 |.mk k num pick cnt l,env,s,T =>
  if 3000≤s then .err 7
  else if k=1 then .ok (((T.vals.length:Nat):Int),T.put ⟨2,0,0,num⟩ num) (s+1)
  else if k=2 then .ok (env.getD num.toNat 0,T) (s+1)
  else if k=8 then(Oe C l 0 env (s+1) T).bind fun x t=>if x.2.at x.1=0 then Oe C l 1 env t (x.2.guard x.1 true)else Oe C l 2 env t (x.2.guard x.1 false)
  else if k=9 then(Oe C l 0 env (s+1) T).bind fun x t=>Oe C l 1 (env++[x.1]) t x.2
  else(Hw C l env (s+1) T).bind fun xs t =>
   if k=10 then C.one num.toNat pick.toNat xs.1 t xs.2
   else if k=11 then(Ia (C.all num.toNat) cnt.toNat xs.1 t xs.2).bind fun ys u=>.ok (ys.1.getD pick.toNat 0,ys.2) u
   else Rb k xs.1 t xs.2
def Oe (C:Cg):List Ex→Nat→List Int→Nat→Tp→Rs RI
 |[],_,_,_,_=>.err 0
 |e::_,0,env,s,T=>GF C e env s T
 |_::l,j+1,env,s,T=>Oe C l j env s T
def Hw (C:Cg):List Ex→List Int→Nat→Tp→Rs RL
 |[],_,s,T=>.ok ([],T) s
 |e::l,env,s,T=>(GF C e env s T).bind fun x t=>(Hw C l env t x.2).bind fun xs u=>.ok (x.1::xs.1,xs.2) u
end
theorem EU (C:Cg)(env:List Int)(s:Nat)(T:Tp):∀(l:List Ex)(j:Nat),j<l.length→Oe C l j env s T=GF C (l.getD j Ex.zero) env s T
 |[],j,h=>by simp at h
 |e::l,0,_=>by rw[Oe];rfl
 |e::l,j+1,h=>by rw[Oe,EU C env s T l j (by simpa using h)];simp
theorem Nq (C:Cg)(env:List Int)(e:Ex):∀(l:List Ex)(s:Nat)(T:Tp),Hw C (l++[e]) env s T=(Hw C l env s T).bind fun xs t=>(GF C e env t xs.2).bind fun x u=>.ok (xs.1++[x.1],x.2) u
 |[],s,T=>by
  rw[zl,Hw,Hw]
  simp only[Rs.bind_ok]
  cases GF C e env s T <;> simp only[Rs.bind_ok,Rs.bind_err,Hw] <;> rfl
 |a::l,s,T=>by
  rw[List.cons_append,Hw,Hw]
  cases GF C a env s T with
  |err c=>rfl
  |ok x t =>
   simp only[Rs.bind_ok]
   rw[Nq C env e l t]
   simp only[Rs.bind_assoc]
   cases Hw C l env t x.2 with
   |err c=>rfl
   |ok xs u =>
    simp only[Rs.bind_ok]
    cases GF C e env u xs.2 <;> rfl
theorem Rc {C:Cg}{env:List Int}{s:Nat}{T:Tp}{l:List Ex}{k:Nat}(hk:k<l.length):Hw C (l.take (k+1)) env s T=(Hw C (l.take k) env s T).bind fun xs t=>(GF C (l.getD k Ex.zero) env t xs.2).bind fun x u=>.ok (xs.1++[x.1],x.2) u:=by
 rw[List.take_succ_eq_append_getElem hk,Nq]
 simp[hk]
theorem Gm (C:Cg)(e:Ex)(env:List Int)(s:Nat)(T:Tp):GF C e env s T =
  if 3000≤s then .err 7
  else if e.kind=1 then .ok (((T.vals.length:Nat):Int),T.put ⟨2,0,0,e.num⟩ e.num) (s+1)
  else if e.kind=2 then .ok (env.getD e.num.toNat 0,T) (s+1)
  else if e.kind=8 then(Oe C e.kids 0 env (s+1) T).bind fun x t=>if x.2.at x.1=0 then Oe C e.kids 1 env t (x.2.guard x.1 true)else Oe C e.kids 2 env t (x.2.guard x.1 false)
  else if e.kind=9 then(Oe C e.kids 0 env (s+1) T).bind fun x t=>Oe C e.kids 1 (env++[x.1]) t x.2
  else(Hw C e.kids env (s+1) T).bind fun xs t =>
   if e.kind=10 then C.one e.num.toNat e.pick.toNat xs.1 t xs.2
   else if e.kind=11 then(Ia (C.all e.num.toNat) e.count.toNat xs.1 t xs.2).bind fun ys u=>.ok (ys.1.getD e.pick.toNat 0,ys.2) u
   else Rb e.kind xs.1 t xs.2:=by cases e;rw[GF];rfl
def JP (p:List Fn):Nat→Cg
 |0=>⟨fun _ _ _ _ _=>.err 0,fun _ _ _ _=>.err 0⟩
 |k+1=>⟨fun f j a s T=>if f=k then GF (JP p k) ((p.getD k Fn.zero).outs.getD j Ex.zero) a s T else(JP p k).one f j a s T,
   fun f a s T=>if f=k then Hw (JP p k) (p.getD k Fn.zero).outs a s T else(JP p k).all f a s T⟩
theorem Pf {p:List Fn}{f j:Nat}{a:List Int}{s:Nat}{T:Tp}:∀ {F:Nat},f<F→(JP p F).one f j a s T=GF (JP p f) ((p.getD f Fn.zero).outs.getD j Ex.zero) a s T
 |0,h=>by omega
 |F+1,h=>by
  show(if f=F then _ else _)=_
  split
  ·rename_i e;rw[e]
  ·exact Pf zO
theorem Mv {p:List Fn}{f:Nat}{a:List Int}{s:Nat}{T:Tp}:∀ {F:Nat},f<F→(JP p F).all f a s T=Hw (JP p f) (p.getD f Fn.zero).outs a s T
 |0,h=>by omega
 |F+1,h=>by
  show(if f=F then _ else _)=_
  split
  ·rename_i e;rw[e]
  ·exact Mv zO
section
variable {C:Cg} {e:Ex} {env:List Int} {s s1 s2:Nat} {c c1 c2:Int} {T T1 T2:Tp} {x y:Int} {xs ys:List Int}
theorem Tj {α:Type}{r:Rs α}{x:α}(hc:c≠0):AH (go c r) x s c:=AH.mk_err (Da hc r) hc
theorem Q6 {x:RI}(hc:c=0)(hs:s=3000):AH (go c (GF C e env s T)) x s1 7:=by
 subst hc;rw[Cr,Gm,if_pos (by omega)];exact AH.mk_err rfl (by decide)
theorem Vu (hc:c=0)(hs:s+1≤3000)(hk:e.kind=1):AH (go c (GF C e env s T)) (((T.vals.length:Nat):Int),T.put ⟨2,0,0,e.num⟩ e.num) (s+1) c:=by
 subst hc;rw[Cr,Gm,if_neg zO,if_pos hk];exact AH.mk_ok rfl
theorem Vv (hc:c=0)(hs:s+1≤3000)(hk:e.kind=2):AH (go c (GF C e env s T)) (env.getD e.num.toNat 0,T) (s+1) c:=by
 subst hc;rw[Cr,Gm,if_neg zO,if_neg zO,if_pos hk];exact AH.mk_ok rfl
theorem Vw {z:RI}(hc:c=0)(hs:s+1≤3000)(hk:e.kind=8)(hl:e.kids.length=3)(h1:AH (go c (GF C (e.kids.getD 0 Ex.zero) env (s+1) T)) (x,T1) s1 c1)(hc1:c1≠0):AH (go c (GF C e env s T)) z s2 c1:=by
 subst hc
 rw[Cr]at h1
 rw[Cr,Gm,if_neg zO,if_neg zO,if_neg zO,if_pos hk,EU _ _ _ _ _ _ zO,h1.bindE hc1]
 exact AH.mk_err rfl hc1
theorem Vx (hc:c=0)(hs:s+1≤3000)(hk:e.kind=8)(hl:e.kids.length=3)(h1:AH (go c (GF C (e.kids.getD 0 Ex.zero) env (s+1) T)) (x,T1) s1 c1)(hc1:c1=0)(hx:T1.at x=0)
  (h2:AH (go c1 (GF C (e.kids.getD 1 Ex.zero) env s1 (T1.guard x (decide (T1.at x=0))))) (y,T2) s2 c2):AH (go c (GF C e env s T)) (y,T2) s2 c2:=by
 subst hc;subst hc1
 rw[Cr]at h1 h2
 rw[Cr,Gm,if_neg zO,if_neg zO,if_neg zO,if_pos hk,EU _ _ _ _ _ _ zO,h1.bindO]
 dsimp only
 rw[A5 hx]at h2
 rw[if_pos hx,EU _ _ _ _ _ _ (by omega)];exact h2
theorem Vy (hc:c=0)(hs:s+1≤3000)(hk:e.kind=8)(hl:e.kids.length=3)(h1:AH (go c (GF C (e.kids.getD 0 Ex.zero) env (s+1) T)) (x,T1) s1 c1)(hc1:c1=0)(hx:¬T1.at x=0)
  (h2:AH (go c1 (GF C (e.kids.getD 2 Ex.zero) env s1 (T1.guard x (decide (T1.at x=0))))) (y,T2) s2 c2):AH (go c (GF C e env s T)) (y,T2) s2 c2:=by
 subst hc;subst hc1
 rw[Cr]at h1 h2
 rw[Cr,Gm,if_neg zO,if_neg zO,if_neg zO,if_pos hk,EU _ _ _ _ _ _ zO,h1.bindO]
 dsimp only
 rw[A6 hx]at h2
 rw[if_neg hx,EU _ _ _ _ _ _ (by omega)];exact h2
theorem Vz (hc:c=0)(hs:s+1≤3000)(hk:e.kind=9)(hl:e.kids.length=2)(h1:AH (go c (GF C (e.kids.getD 0 Ex.zero) env (s+1) T)) (x,T1) s1 c1)
  (h2:AH (go c1 (GF C (e.kids.getD 1 Ex.zero) (env++[x]) s1 T1)) (y,T2) s2 c2):AH (go c (GF C e env s T)) (y,T2) s2 c2:=by
 subst hc
 rw[Cr,Gm,if_neg zO,if_neg zO,if_neg zO,if_neg zO,if_pos hk,EU _ _ _ _ _ _ (by omega)]
 rw[Cr]at h1
 by_cases h0:c1=0
 ·subst h0;rw[h1.bindO,EU _ _ _ _ _ _ (by omega)];exact h2
 ·rw[h1.bindE h0];rw[Da h0]at h2;exact h2
theorem IK (hs:s+1≤3000)(h1:e.kind≠1)(h2:e.kind≠2)(h8:e.kind≠8)(h9:e.kind≠9):GF C e env s T=(Hw C e.kids env (s+1) T).bind fun xs t =>
  if e.kind=10 then C.one e.num.toNat e.pick.toNat xs.1 t xs.2
   else if e.kind=11 then(Ia (C.all e.num.toNat) e.count.toNat xs.1 t xs.2).bind fun ys u=>.ok (ys.1.getD e.pick.toNat 0,ys.2) u
   else Rb e.kind xs.1 t xs.2:=by
 rw[Gm,if_neg zO,if_neg h1,if_neg h2,if_neg h8,if_neg h9]
theorem Re {z:RI}(hc:c=0)(hs:s+1≤3000)(h1:e.kind≠1)(h2:e.kind≠2)(h8:e.kind≠8)(h9:e.kind≠9)(hr:AH (go c (Hw C e.kids env (s+1) T)) (xs,T1) s1 c1)(hc1:c1≠0):AH (go c (GF C e env s T)) z s2 c1:=by
 subst hc
 rw[Cr]at hr ⊢
 rw[IK hs h1 h2 h8 h9,hr.bindE hc1];exact AH.mk_err rfl hc1
theorem Tk {p:List Fn}{F:Nat}(hc:c=0)(hs:s+1≤3000)(hk:e.kind=10)(hF:e.num.toNat<F)(hr:AH (go c (Hw (JP p F) e.kids env (s+1) T)) (xs,T1) s1 c1)(hc1:c1=0)
  (h2:AH (go c1 (GF (JP p e.num.toNat) ((p.getD e.num.toNat Fn.zero).outs.getD e.pick.toNat Ex.zero) xs s1 T1)) (y,T2) s2 c2):AH (go c (GF (JP p F) e env s T)) (y,T2) s2 c2:=by
 subst hc;subst hc1
 rw[Cr]at hr h2 ⊢
 rw[IK hs zO zO zO zO,hr.bindO,if_pos hk,Pf hF];exact h2
theorem Tl {p:List Fn}{F:Nat}(hc:c=0)(hs:s+1≤3000)(hk:e.kind=11)(hF:e.num.toNat<F)(hr:AH (go c (Hw (JP p F) e.kids env (s+1) T)) (xs,T1) s1 c1)(hc1:c1=0)
  (h2:AH (Ia (fun a t U=>Hw (JP p e.num.toNat) (p.getD e.num.toNat Fn.zero).outs a t U) e.count.toNat xs s1 T1) (ys,T2) s2 c2):AH (go c (GF (JP p F) e env s T)) (ys.getD e.pick.toNat 0,T2) s2 c2:=by
 subst hc;subst hc1
 rw[Cr]at hr ⊢
 rw[IK hs zO zO zO zO,hr.bindO,if_neg zO,if_pos hk]
 have hl:(JP p F).all e.num.toNat=fun a t U=>Hw (JP p e.num.toNat) (p.getD e.num.toNat Fn.zero).outs a t U:=funext fun a=>funext fun t=>funext fun U=>Mv hF
 rw[hl]
 by_cases h0:c2=0
 ·subst h0;rw[h2.bindO];exact AH.mk_ok rfl
 ·rw[h2.bindE h0];exact AH.mk_err rfl h0
theorem Xv {z:RI}(hc:c=0)(hs:s+1≤3000)(h1:e.kind≠1)(h2:e.kind≠2)(h8:e.kind≠8)(h9:e.kind≠9)(h10:e.kind≠10)(h11:e.kind≠11)(hr:AH (go c (Hw C e.kids env (s+1) T)) (xs,T1) s1 c1)(hc1:c1=0)
  (h:AH (go c1 (Rb e.kind xs s1 T1)) z s2 c2):AH (go c (GF C e env s T)) z s2 c2:=by
 subst hc;subst hc1
 rw[Cr]at hr h ⊢
 rw[IK hs h1 h2 h8 h9,hr.bindO,if_neg h10,if_neg h11];exact h
theorem Rf (C:Cg)(l:List Ex)(env:List Int)(s:Nat)(T:Tp)(c:Int):AH (go c (Hw C (l.take 0) env s T)) ([],T) s c:=by
 rw[List.take_zero,Hw]
 by_cases h:c=0
 ·subst h;exact AH.mk_ok rfl
 ·exact AH.mk_err (Da h _) h
theorem Tm {l:List Ex}{k:Nat}(hk:k<l.length)(h:AH (go c (Hw C (l.take k) env s T)) (xs,T1) s1 c1)(h2:AH (go c1 (GF C (l.getD k Ex.zero) env s1 T1)) (x,T2) s2 c2) :
  AH (go c (Hw C (l.take (k+1)) env s T)) (xs++[x],T2) s2 c2:=by
 by_cases hc:c=0
 ·subst hc
  rw[Cr]at h ⊢
  rw[Rc hk]
  by_cases h0:c1=0
  ·subst h0
   rw[Cr]at h2
   rw[h.bindO]
   by_cases h9:c2=0
   ·subst h9;rw[h2.bindO];exact AH.mk_ok rfl
   ·rw[h2.bindE h9];exact AH.mk_err rfl h9
  ·rw[h.bindE h0]
   rw[Da h0]at h2
   have:=h2.1
   exact AH.mk_err (by rw[this]) (this ▸ h0)
 ·rw[Da hc]at h ⊢
  have h3:=h.1
  subst h3
  rw[Da hc]at h2
  exact AH.mk_err (by rw[h2.1]) (h2.1 ▸ hc)
theorem VA {f:List Int→Nat→Tp→Rs RL}{k:Nat}(h:AH (Ia f k xs s T) (ys,T1) s1 c1)(hc:c1=0){zs:RL}(h2:AH (go c1 (f ys s1 T1)) zs s2 c2):AH (Ia f (k+1) xs s T) zs s2 c2:=by
 subst hc
 show AH ((Ia f k xs s T).bind _) _ _ _
 rw[h.bindO];rw[Cr]at h2;exact h2
theorem Nr {f:List Int→Nat→Tp→Rs RL}{d:Int}:∀ {m k:Nat},Ia f k xs s T=.err d→k≤m→Ia f m xs s T=.err d
 |0,k,h,hk=>by
  have:k=0:=by omega
  subst this;exact h
 |m+1,k,h,hk=>by
  by_cases e:k=m+1
  ·subst e;exact h
  ·show(Ia f m xs s T).bind _=_
   rw[Nr h (by omega)];rfl
theorem Tn {f:List Int→Nat→Tp→Rs RL}{k m:Nat}{zs:RL}(h:AH (Ia f k xs s T) zs s1 c1)(hk:k≤m)(hs:k=m∨c1≠0):AH (Ia f m xs s T) zs s1 c1:=by
 by_cases hc:c1=0
 ·rcases hs with rfl|hh
  ·exact h
  ·exact absurd hc hh
 ·exact AH.mk_err (Nr (h.err hc) hk) hc
end
def Jl (T:Tp)(s:Nat):Prop:=T.code.length=T.vals.length∧T.vals.length≤12+s∧T.grd.length≤s∧B2 T.vals=true
theorem Jl.put {T:Tp}{s:Nat}(h:Jl T s)(c:AD){v:Int}(hv:0≤v∧v<1000003):Jl (T.put c v) (s+1):=by
 obtain⟨h1,h2,h3,h4⟩:=h
 unfold Tp.put
 refine⟨by simp[h1],by simp;omega,by simp;omega,?_⟩
 unfold B2 at h4 ⊢
 rw[List.all_append,h4]
 simp[Ce.2 hv]
theorem Jl.guard {T:Tp}{s:Nat}(h:Jl T s)(r:Int)(z:Bool)(hg:T.grd.length+1≤s):Jl (T.guard r z) s:=by
 obtain⟨h1,h2,h3,h4⟩:=h
 exact⟨h1,h2,by show(T.grd++[_]).length≤s;simp;omega,h4⟩
theorem Jl.up {T:Tp}{s s':Nat}(h:Jl T s)(hs:s≤s'):Jl T s':=⟨h.1,by have:=h.2.1;omega,by have:=h.2.2.1;omega,h.2.2.2⟩
theorem Jl.dn {T:Tp}{s s':Nat}(h:Jl T s)(hv:T.vals.length≤12+s')(hg:T.grd.length≤s'):Jl T s':=⟨h.1,hv,hg,h.2.2.2⟩
theorem Jl.ln {T:Tp}{s:Nat}(h:Jl T s)(hs:s≤3000):T.code.length≤4000∧T.vals.length≤4000:=by have:=h.1;have:=h.2.1;omega
abbrev DW (k b:Int):Prop:=k≠3∧k≠4∧k≠5∧k≠7∧b=0
section
variable {k a b:Int}
theorem Rg (h:k=3):(if DW k b then 0 else GN k a b)=md (a+b)∧(!decide (DW k b))=true:=by subst h;exact⟨rfl,rfl⟩
theorem Rh (h:k=4):(if DW k b then 0 else GN k a b)=md (a-b)∧(!decide (DW k b))=true:=by subst h;exact⟨rfl,rfl⟩
theorem Ri (h:k=5):(if DW k b then 0 else GN k a b)=md (a*b)∧(!decide (DW k b))=true:=by subst h;exact⟨rfl,rfl⟩
theorem Rj (h:k=7):(if DW k b then 0 else GN k a b)=md (0-a)∧(!decide (DW k b))=true:=by subst h;exact⟨rfl,rfl⟩
theorem Pg (h:k≠3∧k≠4∧k≠5∧k≠7)(hb:b=0):(if DW k b then 0 else GN k a b)=0∧(!decide (DW k b))=false:=by
 have hz:DW k b:=⟨h.1,h.2.1,h.2.2.1,h.2.2.2,hb⟩
 rw[if_pos hz,A5 hz];exact⟨rfl,rfl⟩
theorem Rk (h:k≠3∧k≠4∧k≠5∧k≠7)(hb:b≠0):(if DW k b then 0 else GN k a b)=md (a*inv b)∧(!decide (DW k b))=true:=by
 have hz:¬DW k b:=fun h9=>hb h9.2.2.2.2
 rw[if_neg hz,A6 hz]
 refine⟨?_,rfl⟩
 unfold GN
 rw[if_neg h.1,if_neg h.2.1,if_neg h.2.2.1,if_neg h.2.2.2]
theorem Mw (k a b:Int):0≤GN k a b∧GN k a b<1000003:=by unfold GN;split <;> (try split) <;> (try split) <;> (try split) <;> exact BU _
end
theorem Ib {k:Int}{xs:List Int}{T:Tp}{t:Nat}(h:¬DW k (T.at (Jk k xs).b)):Rb k xs t T=.ok (((T.vals.length:Nat):Int),T.put (Jk k xs) (GN k (T.at (Jk k xs).a) (T.at (Jk k xs).b))) t:=if_neg h
theorem Ph {k:Int}{xs:List Int}{T:Tp}{t:Nat}(h:DW k (T.at (Jk k xs).b)):Rb k xs t T=.err 6:=if_pos h
theorem Xw {α:Type}{r:Rs α}{x:α}{s:Nat}{c c1:Int}(h:AH (go c r) x s c1)(h1:c1=0):c=0:=by
 by_cases hc:c=0
 ·exact hc
 ·rw[Da hc]at h
  have:=h.1
  omega
theorem Pi (k a b:Int):0≤(if DW k b then 0 else GN k a b)∧(if DW k b then 0 else GN k a b)<1000003:=by
 have:=Mw k a b
 split <;> omega
theorem Xx {Q:Prop} [Decidable Q] (h:(!(!decide Q))=true):Q:=by simpa using h
theorem Zo {Q:Prop} [Decidable Q] (h:(!(!decide Q))=false):¬Q:=by simpa using h
theorem Gn {k:Int}{xs:List Int}(h:k≠7):Jk k xs=⟨k,xs.getD 0 0,xs.getD 1 0,0⟩:=by unfold Jk;rw[if_neg h]
theorem Rm {k:Int}{xs:List Int}(h:k=7):Jk k xs=⟨k,xs.getD 0 0,0,0⟩:=by unfold Jk;rw[if_pos h]
theorem To {k c:Int}{xs:List Int}{T:Tp}{s s2:Nat}{z:RI}(hc:c=0)(h7:k≠7)(hz:DW k (T.vals.getD (xs.getD 1 0).toNat 0)):AH (go c (Rb k xs s T)) z s2 6:=by
 subst hc
 rw[Cr,Ph (by rw[Gn h7];exact hz)];exact AH.mk_err rfl (by decide)
theorem Tq {k c:Int}{xs:List Int}{T:Tp}{s:Nat}(hc:c=0)(h7:k≠7)(hz:¬DW k (T.vals.getD (xs.getD 1 0).toNat 0)) :
  AH (go c (Rb k xs s T)) (((T.vals.length:Nat):Int),T.put ⟨k,xs.getD 0 0,xs.getD 1 0,0⟩ (if DW k (T.vals.getD (xs.getD 1 0).toNat 0)then 0 else GN k (T.vals.getD (xs.getD 0 0).toNat 0) (T.vals.getD (xs.getD 1 0).toNat 0))) s c:=by
 subst hc
 rw[Cr,Ib (by rw[Gn h7];exact hz),Gn h7,if_neg hz];exact AH.mk_ok rfl
theorem Tr {k c:Int}{xs:List Int}{T:Tp}{s:Nat}{b:Int}(hc:c=0)(h7:k=7) :
  AH (go c (Rb k xs s T)) (((T.vals.length:Nat):Int),T.put ⟨k,xs.getD 0 0,0,0⟩ (if DW k b then 0 else GN k (T.vals.getD (xs.getD 0 0).toNat 0) b)) s c:=by
 subst hc
 subst h7
 rw[Cr,Ib (fun h=>h.2.2.2.1 rfl),Rm rfl,if_neg (fun h:DW 7 b=>h.2.2.2.1 rfl)];exact AH.mk_ok rfl
theorem U3 {k b:Int}(h:k=7):¬DW k b:=fun h9=>h9.2.2.2.1 h
def Jm (T:Tp)(env:List Int):Prop:=∀k,k<env.length→0≤env.getD k 0∧env.getD k 0<((T.vals.length:Nat):Int)
theorem Jm.mono {T T':Tp}{env:List Int}(h:Jm T env)(hl:T.vals.length≤T'.vals.length):Jm T' env:=fun k hk=>by have:=h k hk;omega
theorem Jm.snoc {T:Tp}{env:List Int}{r:Int}(h:Jm T env)(hr:0≤r∧r<((T.vals.length:Nat):Int)):Jm T (env++[r]):=fun k hk=>by
 rw[z4,zd]at hk
 rw[Xj]
 split
 ·exact hr
 ·exact h k zO
theorem Jm.nil (T:Tp):Jm T []:=fun k hk=>absurd hk (Nat.not_lt_zero k)
theorem Dr {Q:Nat→Prop}:∀b∈([]:List Nat),Q b:=fun b hb=>(by cases hb)
theorem As.drewL {F:List Nat}{a b:World}(h:As F a b):As F a.drew b:=⟨h.os,h.tape,h.output,h.size,h.block⟩
def Q7 {α:Type}(S:List Nat)(B:Nat)(E:Bo α)(H:Array Obj)(v:Value)(x:α):Prop:=∃F,E H v x F∧∀b∈F,b∉S∧B≤b
theorem Q7.rn {α:Type}{S:List Nat}{B:Nat}{E:Bo α}{H:Array Obj}{v:Value}{x:α}(h:Q7 S B E H v x):RN S E H v x:=by
 obtain⟨F,h1,h2⟩:=h
 exact⟨F,h1,fun b hb=>(h2 b hb).1⟩
theorem Q7.upd {α:Type}{S F:List Nat}{B:Nat}{E:Bo α}(hE:BS E){w w':World}{v:Value}{x:α}(h:Q7 S B E w.heap v x)(c:As F w w')(hF:∀b∈F,b∈S∨b<B):Q7 S B E w'.heap v x:=by
 obtain⟨G,h1,h2⟩:=h
 refine⟨G,hE.stable h1 fun b hb=>c.block b (hE.lt h1 b hb) fun hm=>?_,h2⟩
 rcases hF b hm with hh|hh
 ·exact (h2 b hb).1 hh
 ·have:=(h2 b hb).2;omega
theorem Q7.of_ow {e:TypeId}{B T:Nat}{H:Array Obj}{v:Value}{xs:List Int}{F S:List Nat}(h:Ow (Bi rI e) B T H v xs F)(hS:∀b∈F,b∉S):Q7 S B (AX rI) H v xs:=⟨F,h.own.rd id,fun b hb=>⟨hS b hb,h.low b hb⟩⟩
structure Fj (S S':List Nat)(w w':World):Prop where
 sub:∀b∈S,b∈S'
 new:∀b∈S',b∈S∨w.heap.size≤b
 lt:∀b∈S',b<w'.heap.size
 chg:As S w w'
section
variable {S S' S'':List Nat} {w w' w'':World} {g:Nat}
theorem Fj.refl (h:∀b∈S,b<w.heap.size):Fj S S w w:=⟨fun _ h=>h,fun _ h=>.inl h,h,As.refl S w⟩
theorem Fj.trans (h:Fj S S' w w')(k:Fj S' S'' w' w''):Fj S S'' w w'' :=
 ⟨fun b hb=>k.sub b (h.sub b hb),Od h.new k.new h.chg.size,k.lt,h.chg.stp k.chg h.new⟩
theorem Fj.ext (h:Fj S S' w w')(k:AG w' w''):Fj S S' w w'':=⟨h.sub,h.new,fun b hb=>Nat.lt_of_lt_of_le (h.lt b hb) k.size,h.chg.ext k⟩
theorem Fj.drew (h:Fj S S' w w'):Fj S S' w w'.drew:=⟨h.sub,h.new,h.lt,h.chg.drew⟩
theorem Fj.of_drew (h:Fj S S' w.drew w'):Fj S S' w w':=⟨h.sub,h.new,h.lt,h.chg.of_drew⟩
theorem Fj.set (h:Fj S S' w w')(hg:g∈S)(k:As [g] w' w''):Fj S S' w w'':=⟨h.sub,h.new,fun b hb=>Nat.lt_of_lt_of_le (h.lt b hb) k.size,h.chg.trans (k.sub (AS hg))⟩
theorem Fj.more {F:List Nat}(h:Fj S S' w w')(k:As F w' w'')(hF:∀b∈F,b∈S):Fj S S' w w'':=⟨h.sub,h.new,fun b hb=>Nat.lt_of_lt_of_le (h.lt b hb) k.size,h.chg.trans (k.sub hF)⟩
theorem Fj.fresh {F:List Nat}(h:Fj S S' w w')(k:As F w' w'')(hF:∀b∈F,w.heap.size≤b):Fj S S' w w'':=⟨h.sub,h.new,fun b hb=>Nat.lt_of_lt_of_le (h.lt b hb) k.size,h.chg.fresh k hF⟩
end
structure U4 (T T':Tp)(s0 s1:Nat)(c1:Int):Prop where
 bnd:Jl T' s1
 num:s1≤3000∧(0≤c1∧c1≤9)∧T.vals.length≤T'.vals.length∧T'.vals.length+s0≤T.vals.length+s1∧T'.grd.length+s0≤T.grd.length+s1
@[simp] theorem Gp (T:Tp)(c:AD)(v:Int):(T.put c v).vals.length=T.vals.length+1:=by simp[Tp.put]
@[simp] theorem Of (T:Tp)(c:AD)(v:Int):(T.put c v).code.length=T.code.length+1:=by simp[Tp.put]
@[simp] theorem Rn (T:Tp)(c:AD)(v:Int):(T.put c v).grd=T.grd:=rfl
@[simp] theorem Ns (T:Tp)(r:Int)(z:Bool):(T.guard r z).vals=T.vals:=rfl
@[simp] theorem Nt (T:Tp)(r:Int)(z:Bool):(T.guard r z).grd.length=T.grd.length+1:=by simp[Tp.guard]
theorem RN.of_ow {e:TypeId}{B T:Nat}{H:Array Obj}{v:Value}{xs:List Int}{F S:List Nat}(h:Ow (Bi rI e) B T H v xs F)(hS:∀b∈F,b∉S):RN S (AX rI) H v xs:=⟨F,h.own.rd id,hS⟩
theorem Cj.len {t1 t2 t3:TypeId}{S:List Nat}{g:Nat}{H:Array Obj}{vc vg vv:Value}{T:Tp}(h:Cj t1 t2 t3 S g H vc vg vv T):T.code.length≤maxLen∧T.grd.length≤maxLen∧T.vals.length≤maxLen:=by
 obtain⟨Fc,Fg,Fv,h1,h2,h3,_⟩:=h
 exact⟨h1.own.lenle,h2.own.lenle,h3.own.lenle⟩
end
section
def IL (a:List Int):Nat→Tp
 |0=>⟨[],[],[]⟩
 |k+1=>(IL a k).put ⟨1,0,0,((k:Nat):Int)⟩ (a.getD k 0)
def GG (k:Nat):List Int:=(List.range k).map fun i=>((i:Nat):Int)
@[simp] theorem G0 (k:Nat):(GG k).length=k:=by simp[GG]
theorem Og (k:Nat):GG (k+1)=GG k++[((k:Nat):Int)]:=by simp[GG,List.range_succ]
theorem Nu {k j:Nat}(h:j<k):(GG k).getD j 0=((j:Nat):Int):=by
 unfold GG
 rw[BZ (d:=0) (by simpa using h)]
 simp[h]
@[simp] theorem Jn (a:List Int):∀k,(IL a k).vals.length=k
 |0=>rfl
 |k+1=>by show((IL a k).put _ _).vals.length=_;rw[Gp,Jn a k]
@[simp] theorem Mx (a:List Int):∀k,(IL a k).code.length=k
 |0=>rfl
 |k+1=>by show((IL a k).put _ _).code.length=_;rw[Of,Mx a k]
theorem Ro (a:List Int):∀k,(IL a k).grd=[]
 |0=>rfl
 |k+1=>by show((IL a k).put _ _).grd=_;rw[Rn,Ro a k]
theorem Nv (a:List Int):∀k,k≤a.length→(IL a k).vals=a.take k
 |0,_=>rfl
 |k+1,h=>by
  show(IL a k).vals++[a.getD k 0]=_
  rw[Nv a k zO,CF 0 (by omega)]
theorem Xy {a:List Int}(hn:B2 a=true)(h:a.length≤12):Jl (IL a a.length) 0:=by
 refine⟨by simp,by simp;omega,by rw[Ro];simp,?_⟩
 rw[Nv a _ (A7 _),List.take_length];exact hn
theorem Xz (a:List Int)(k:Nat):Jm (IL a k) (GG k):=fun j hj=>by
 rw[G0]at hj
 rw[Nu hj,Jn];omega
def Q8 (p:List Fn)(f:Nat)(a:List Int):Rs RL:=Hw (JP p f) (p.getD f Fn.zero).outs (GG a.length) 0 (IL a a.length)
section rcm
variable {t1 t2 t3:TypeId} {S:List Nat} {g:Nat} {w w':World} {vc vg vv:Value} {T:Tp}
theorem Cj.nil:Cj t1 t2 t3 S g w.heap (.slice none 0 0) (.slice none 0 0) (.slice none 0 0) ⟨[],[],[]⟩ :=
 ⟨[],[],[],⟨.inl ⟨rfl,rfl,rfl⟩,zk,Dr,Dr⟩,⟨.inl ⟨rfl,rfl,rfl⟩,zk,Dr,Dr⟩,⟨.inl ⟨rfl,rfl,rfl⟩,zk,Dr,Dr⟩,
  ⟨Dr,Dr,Dr⟩,⟨z2,z2,z2⟩,Dr,Dr,Dr⟩
theorem As.toExt {F:List Nat}(h:As F w w')(hF:∀b∈F,w.heap.size≤b):AG w w':=⟨h.os,h.tape,h.output,h.size,fun k hk=>h.block k hk fun hm=>by have:=hF k hm;omega⟩
end rcm
def RG {α:Type}(T:Nat)(E:Bo α)(H:Array Obj)(v:Value)(x:α):Prop:=∃F,E H v x F∧∀b∈F,T≤b
theorem Q7.rg {α:Type}{S:List Nat}{B T:Nat}{E:Bo α}{H:Array Obj}{v:Value}{x:α}(h:Q7 S B E H v x)(hT:T≤B):RG T E H v x:=by
 obtain⟨F,h1,h2⟩:=h
 exact⟨F,h1,fun b hb=>A8 hT (h2 b hb).2⟩
theorem RG.rnG {α:Type}{T g:Nat}{E:Bo α}{w:World}{v:Value}{x:α}(hE:BS E)(h:RG T E w.heap v x)(hg:g<T∨w.heap.size≤g):RN [g] E w.heap v x:=by
 obtain⟨F,h1,h2⟩:=h
 refine⟨F,h1,fun b hb hm=>?_⟩
 rw[A9 hm]at hb
 have:=h2 g hb
 have:=hE.lt h1 g hb
 omega
theorem Cj.readsG {t1 t2 t3:TypeId}{S:List Nat}{g n:Nat}{w:World}{vc vg vv:Value}{T:Tp}(h:Cj t1 t2 t3 S g w.heap vc vg vv T)(hS:∀b∈S,n≤b):RG n (Dw 4 No) w.heap vc T.code∧RG n (Dw 2 Np) w.heap vg T.grd:=by
 obtain⟨Fc,Fg,Fv,h1,h2,h3,h4,h5,h6,h7,h8⟩:=h
 exact⟨⟨Fc,h1.own.rd B4,fun b hb=>hS b (h6 b hb)⟩,⟨Fg,h2.own.rd Bd,fun b hb=>hS b (h7 b hb)⟩⟩
theorem AH.go0 {α:Type}{r:Rs α}{x:α}{s:Nat}{c:Int}(h:AH (go ((0:Nat):Int) r) x s c):AH r x s c:=h
theorem LD.part {H:Array Obj}{g k:Nat}{cs ds:List Value}(h:BX H g cs)(hl:k+ds.length≤cs.length)(hd:∀i,i<ds.length→ds.getD i undef=cs.getD (k+i) undef):LD H (.pointer (some ⟨g,k,none⟩)) ds:=by
 obtain⟨e,h⟩:=h
 refine⟨g,k,rfl,fun i hi=>?_⟩
 simp only[BM,h]
 rw[hd i hi]
 simp[show k+i<cs.length by omega]
end
def G3 (p:List Fn)(f:Int):Int:=if Jg p=true then(if 0≤f∧f≤((p.length:Nat):Int)-1 then 0 else 2)else 1
theorem Pj {p:List Fn}{f:Int}(h:G3 p f=0):Jg p=true∧0≤f∧f<((p.length:Nat):Int):=by
 unfold G3 at h
 split at h
 ·split at h
  ·rename_i h1 h2;exact⟨h1,h2.1,zO⟩
  ·omega
 ·omega
theorem VB {n k:Nat}{s:Sr}(h:Cb n s)(hk:k<n):HP (s.getD k 0)=true:=by
 have hk':k<s.length:=by rw[h.1];exact hk
 have:=h.2
 unfold B2 at this
 have h2:=zm.1 this s[k]<|List.getElem_mem hk'
 rwa [show s.getD k 0=s[k]from by simp[hk']]
section
mutual
def HF:Ex→Int→Int
 |.mk _ _ _ _ l,x=>CY l (x-1)
def CY:List Ex→Int→Int
 |[],x=>x
 |e::l,x=>if 0≤x then CY l (HF e x)else x
end
theorem Ts (e:Ex)(x:Int):HF e x=CY e.kids (x-1):=by cases e;rw[HF];rfl
theorem KE {l:List Ex}{x:Int}(h:x<0):CY l x=x:=by
 cases l with
 |nil=>rw[CY]
 |cons e l=>rw[CY,if_neg (by omega)]
mutual
theorem KF:∀(e:Ex)(x:Int),0≤x→(HF e x=x-(e.size:Int)∧(e.size:Int)≤x)∨(HF e x = -1∧x<(e.size:Int))
 |.mk k n q c l,x,h=>by
  rw[HF,Ex.size]
  by_cases h0:x=0
  ·subst h0
   right
   rw[KE (by omega)]
   refine⟨zO,zO⟩
  ·rcases Hx l (x-1) (by omega)with h1|h1
   ·left;omega
   ·right;omega
theorem Hx:∀(l:List Ex)(x:Int),0≤x→(CY l x=x-(Ex.sizes l:Int)∧(Ex.sizes l:Int)≤x)∨(CY l x = -1∧x<(Ex.sizes l:Int))
 |[],x,h=>by rw[CY,Ex.sizes];left;omega
 |e::l,x,h=>by
  rw[CY,if_pos h,Ex.sizes]
  rcases KF e x h with h1|h1
  ·rw[h1.1]
   rcases Hx l (x-(e.size:Int)) (by omega)with h2|h2
   ·left;omega
   ·right;omega
  ·rw[h1.1,KE (by omega)]
   right;omega
end
theorem M0 (e:Ex):∀(l:List Ex)(x:Int),CY (l++[e]) x=if 0≤CY l x then HF e (CY l x)else CY l x
 |[],x=>by
  rw[zl,CY,CY]
  split
  ·rw[CY]
  ·rfl
 |a::l,x=>by
  rw[List.cons_append,CY,CY]
  by_cases h:0≤x
  ·rw[if_pos h,if_pos h,M0 e l]
  ·rw[if_neg h,if_neg h,if_neg h]
theorem M1 {l:List Ex}{k:Nat}(hk:k<l.length){x:Int}(h:0≤CY (l.take k) x):CY (l.take (k+1)) x=HF (l.getD k Ex.zero) (CY (l.take k) x):=by
 rw[List.take_succ_eq_append_getElem hk,M0,if_pos h]
 simp[hk]
theorem Nw:∀(l r:List Ex)(x:Int),CY l x<0→CY (l++r) x=CY l x
 |[],r,x,h=>by rw[CY]at h ⊢;rw[zl,KE h]
 |a::l,r,x,h=>by
  rw[CY]at h ⊢
  rw[List.cons_append,CY]
  split
  ·rename_i h0;rw[if_pos h0]at h;exact Nw l r _ h
  ·rfl
theorem M2 {l:List Ex}{k:Nat}{x:Int}(h:CY (l.take k) x<0):CY l x=CY (l.take k) x:=by
 have:=Nw (l.take k) (l.drop k) x h
 rwa [List.take_append_drop]at this
theorem Nx {e:Ex}{x:Int}(h:0≤x):-1≤HF e x∧HF e x≤x:=by
 rcases KF e x h with h1|h1 <;> omega
theorem Rp {e:Ex}{x:Int}(h:0≤x):0≤HF e x↔(e.size:Int)≤x:=by
 rcases KF e x h with h1|h1 <;> omega
def Q9 (k:Int):Int:=if k=1∨k=2 then 0 else if k=3∨k=4∨k=5∨k=6∨k=9 then 2 else if k=7 then 1 else if k=8 then 3 else -1
theorem My {p q:Prop} [Decidable p] [Decidable q] (h:p↔q):decide p=decide q:=decide_eq_decide.2 h
section
variable {p:List Fn} {F vars:Int} {e:Ex}
theorem Qa (h:Gl p F vars e=true)(h10:e.kind≠10)(h11:e.kind≠11):e.pick=0∧e.count=0∧Q9 e.kind=((e.kids.length:Nat):Int)∧(e.kind≠1→e.kind≠2→e.num=0):=by
 unfold Gl Dy at h
 unfold Q9
 split at h
 ·rename_i h1
  simp only[z7,decide_eq_true_eq]at h
  rw[if_pos (by omega)]
  exact⟨h.1.1,h.1.2,zO,fun hh=>absurd h1 hh⟩
 ·split at h
  ·rename_i h1
   simp only[z7,decide_eq_true_eq]at h
   rw[if_pos (by omega)]
   exact⟨h.1.1,h.1.2,zO,fun _ hh=>absurd h1 hh⟩
  ·split at h
   ·simp only[z7,decide_eq_true_eq]at h
    rw[if_neg zO,if_pos (by omega)]
    exact⟨h.1.1,h.1.2,zO,fun _ _=>h.2.1⟩
   ·split at h
    ·simp only[z7,decide_eq_true_eq]at h
     rw[if_neg zO,if_neg zO,if_pos (by omega)]
     exact⟨h.1.1,h.1.2,zO,fun _ _=>h.2.1⟩
    ·split at h
     ·simp only[z7,decide_eq_true_eq]at h
      rw[if_neg zO,if_neg zO,if_neg zO,if_pos (by omega)]
      exact⟨h.1.1,h.1.2,zO,fun _ _=>h.2.1⟩
     ·split at h
      ·omega
      ·cases h
theorem VC (h10:e.kind≠10)(h11:e.kind≠11)(h:Q9 e.kind≠((e.kids.length:Nat):Int)∨e.pick≠0∨e.count≠0):false=Gl p F vars e:=by
 cases hw:Gl p F vars e with
 |false=>rfl
 |true =>
  have:=Qa hw h10 h11
  omega
theorem Zp (hk:Q9 e.kind=((e.kids.length:Nat):Int))(h1:e.kind=1)(hp:e.pick=0)(hc:e.count=0):HP e.num=Gl p F vars e:=by
 have hl:e.kids.length=0:=by unfold Q9 at hk;rw[if_pos (by omega)]at hk;omega
 unfold Gl Dy
 rw[if_pos h1,A5 hp,A5 hc,A5 hl];rfl
theorem Zq (hk:Q9 e.kind=((e.kids.length:Nat):Int))(h1:e.kind=2)(hp:e.pick=0)(hc:e.count=0):(decide (((0:Nat):Int)≤e.num) && decide (e.num≤vars-1))=Gl p F vars e:=by
 have hl:e.kids.length=0:=by unfold Q9 at hk;rw[if_pos (by omega)]at hk;omega
 unfold Gl Dy GS
 rw[if_neg zO,if_pos h1,A5 hp,A5 hc,A5 hl];rfl
theorem Zr (hk:Q9 e.kind=((e.kids.length:Nat):Int))(h1:e.kind≠1)(h2:e.kind≠2)(h10:e.kind≠10)(h11:e.kind≠11)(hp:e.pick=0)(hc:e.count=0):decide (e.num=0)=Gl p F vars e:=by
 unfold Q9 at hk
 unfold Gl Dy
 rw[if_neg h1,if_neg h2,A5 hp,A5 hc]
 rw[if_neg (by omega)]at hk
 split at hk
 ·rename_i h3
  rw[if_pos h3,A5 (show e.kids.length=2 by omega)];simp
 ·rename_i h3
  rw[if_neg h3]
  split at hk
  ·rename_i h4
   rw[if_pos h4,A5 (show e.kids.length=1 by omega)];simp
  ·rename_i h4
   rw[if_neg h4]
   split at hk
   ·rename_i h5
    rw[if_pos h5,A5 (show e.kids.length=3 by omega)];simp
   ·omega
end
end
section
def JK (n:Nat)(C:Ca)(e:Ex)(env:List Sr)(s:Nat):Rs Sr:=(D9 n C e.kids env s).bind fun xs t =>
 if e.kind=10 then C.one e.num.toNat e.pick.toNat xs t else(Hr (C.all e.num.toNat) e.count.toNat xs t).bind fun ys u=>.ok (ys.getD e.pick.toNat []) u
section
variable {n:Nat} {C:Ca} {e:Ex} {env:List Sr} {s s1 s2:Nat} {c c1 c2:Int} {x y:Sr} {xs ys:List Sr}
theorem M3 (hc:c=0)(hs:s+1≤3000)(hk:e.kind=10∨e.kind=11)(h:AH (go c (JK n C e env (s+1))) y s2 c2):AH (go c (Cf n C e env s)) y s2 c2:=by
 subst hc
 rw[Cr]at h ⊢
 rw[H6 hs zO zO zO (by omega)]
 unfold JK at h
 cases hv:D9 n C e.kids env (s+1)with
 |err d=>rw[hv]at h;exact h
 |ok zs t =>
  rw[hv]at h
  rw[Rs.bind_ok]at h ⊢
  by_cases h10:e.kind=10
  ·rw[if_pos h10]at h ⊢;exact h
  ·rw[if_neg h10]at h;rw[if_neg h10,if_pos (by omega)];exact h
theorem Rq {α:Type}{r:Rs α}{v:α}(h:AH (go c r) v s1 c1)(hc:c≠0):c1=c:=by
 rw[Da hc]at h;exact h.1
theorem VD (hl:e.kids.length=1)(h:AH (go c (Cf n C (e.kids.getD 0 Ex.zero) env s)) x s1 c1):AH (go c (D9 n C e.kids env s)) [x] s1 c1:=by
 have h1:=FW (l:=e.kids) (k:=0) zO (FX n C e.kids env s c) h
 rwa [za (by omega)]at h1
theorem Jo (hl:e.kids.length=2)(h:AH (go c (Cf n C (e.kids.getD 0 Ex.zero) env s)) x s1 c1)(h2:AH (go c1 (Cf n C (e.kids.getD 1 Ex.zero) env s1)) y s2 c2):AH (go c (D9 n C e.kids env s)) [x,y] s2 c2:=by
 have h1:=FW (l:=e.kids) (k:=0) zO (FX n C e.kids env s c) h
 have h3:=FW (l:=e.kids) (k:=1) zO h1 h2
 rwa [za (by omega)]at h3
theorem Gq (hc:c=0)(hs:s+1≤3000)(hk:e.kind=3∨e.kind=4∨e.kind=5∨e.kind=6∨e.kind=7)(hr:AH (go c (D9 n C e.kids env (s+1))) xs s1 c1)
  (h:c1=0→AH (K7 e.kind xs s1) y s1 c2) (h0:c1≠0→c2=c1):AH (go c (Cf n C e env s)) y s1 c2:=by
 by_cases hc1:c1=0
 ·exact Ba hc hs zO zO zO zO zO zO hr hc1<|h hc1
 ·rw[h0 hc1];exact CV hc hs zO zO zO zO hr hc1
theorem Rr {p:List Fn}{F:Nat}(hk:e.kind=10)(hF:e.num.toNat<F)(hr:AH (go c (D9 n (E4 p n F) e.kids env s)) xs s1 c1)
  (h2:AH (go c1 (Cf n (E4 p n e.num.toNat) ((p.getD e.num.toNat Fn.zero).outs.getD e.pick.toNat Ex.zero) xs s1)) y s2 c2):AH (go c (JK n (E4 p n F) e env s)) y s2 c2:=by
 by_cases hc:c=0
 ·subst hc
  rw[Cr]at hr ⊢
  unfold JK
  by_cases hc1:c1=0
  ·subst hc1;rw[hr.bindO,if_pos hk,Mo hF];rw[Cr]at h2;exact h2
  ·rw[hr.bindE hc1];rw[Da hc1]at h2;exact h2
 ·have e1:=Rq hr hc
  subst e1
  rw[Da hc]at h2 ⊢;exact h2
theorem Rt {f:List Sr→Nat→Rs (List Sr)}{k:Nat}(h:AH (go c (Hr f k xs s)) ys s1 c1){zs:List Sr}(h2:AH (go c1 (f ys s1)) zs s2 c2):AH (go c (Hr f (k+1) xs s)) zs s2 c2:=by
 by_cases hc:c=0
 ·subst hc
  rw[Cr]at h ⊢
  show AH ((Hr f k xs s).bind f) _ _ _
  by_cases hc1:c1=0
  ·subst hc1;rw[h.bindO];rw[Cr]at h2;exact h2
  ·rw[h.bindE hc1];rw[Da hc1]at h2;exact h2
 ·have e1:=Rq h hc
  subst e1
  rw[Da hc]at h2 ⊢;exact h2
theorem Ru {f:List Sr→Nat→Rs (List Sr)}(hc:0=0):AH (go c (Hr f 0 xs s)) xs s c:=by
 by_cases h:c=0
 ·subst h;exact⟨rfl,rfl,rfl⟩
 ·exact AH.mk_err (Da h _) h
theorem Rv {p:List Fn}{F:Nat}(hk:e.kind≠10)(hF:e.num.toNat<F)(hr:AH (go c (D9 n (E4 p n F) e.kids env s)) xs s1 c1)
  (h2:AH (go c1 (Hr (fun a t=>D9 n (E4 p n e.num.toNat) (p.getD e.num.toNat Fn.zero).outs a t) e.count.toNat xs s1)) ys s2 c2):AH (go c (JK n (E4 p n F) e env s)) (ys.getD e.pick.toNat []) s2 c2:=by
 have hl:(E4 p n F).all e.num.toNat=fun a t=>D9 n (E4 p n e.num.toNat) (p.getD e.num.toNat Fn.zero).outs a t:=funext fun a=>funext fun t=>Hs hF
 by_cases hc:c=0
 ·subst hc
  rw[Cr]at hr ⊢
  unfold JK
  by_cases hc1:c1=0
  ·subst hc1
   rw[hr.bindO,if_neg hk,hl]
   rw[Cr]at h2
   by_cases h0:c2=0
   ·subst h0;rw[h2.bindO];exact AH.mk_ok rfl
   ·rw[h2.bindE h0];exact AH.mk_err rfl h0
  ·rw[hr.bindE hc1]
   rw[Da hc1]at h2
   exact AH.mk_err (by rw[h2.1]) (by rw[h2.1];exact hc1)
 ·have e1:=Rq hr hc
  subst e1
  rw[Da hc]at h2 ⊢
  exact AH.mk_err (by rw[h2.1]) (by rw[h2.1];exact hc)
end
end
section
def HS (p:List Fn)(f:Nat)(s:Sr):Int:=HR p 1 f (FB s)
def Tt (p:List Fn)(f:Nat)(s:Sr):Sr:=(J6 p 1 f (FB s)).map fun s=>s.getD 0 0
theorem IM {a:Sr}(h:B2 a=true):C0 1 (FB a):=by
 intro k hk
 unfold FB at hk ⊢
 rw[zg]at hk
 rw[List.getD_eq_getElem?_getD,List.getElem?_map,List.getElem?_eq_getElem hk]
 refine⟨rfl,?_⟩
 unfold B2 at h ⊢
 have:=zm.1 h _ (List.getElem_mem hk)
 simpa using this
theorem Oh {x:List Sr}{n:Nat}(h:C0 (n+1) x):B2 (x.map fun s=>s.getD 0 0)=true:=by
 unfold B2
 rw[zm]
 intro y hy
 obtain⟨s,hs,rfl⟩:=List.mem_map.1 hy
 obtain⟨k,hk,rfl⟩:=List.mem_iff_getElem.1 hs
 have h2:=h k hk
 rw[FV hk]at h2
 exact VB h2 zO
section
variable {p:List Fn} {f:Nat} {a s:Sr} {k n:Nat}
structure Za (p:List Fn)(f:Nat)(s:Sr):Prop where
 code:0≤HS p f s∧HS p f s≤9
 len:HS p f s=0→(Tt p f s).length=(p.getD f Fn.zero).outs.length
 num:B2 (Tt p f s)=true
 non:HS p f s≠0→Tt p f s=[]
theorem Za.mk' (h:R2 p 1 f (FB s)):Za p f s :=
 ⟨h.code,fun h0=>by unfold Tt;rw[zg];exact h.len h0,Oh h.ser,fun h0=>by unfold Tt;rw[h.non h0];rfl⟩
end
end
section
def Rs.map {α β:Type}(f:α→β)(r:Rs α):Rs β:=match r with
 |.ok x s=>.ok (f x) s
 |.err c=>.err c
abbrev De (m:Nat)(x:Sr):Sr:=x.take m
theorem Ds {m k:Nat}(x:Sr)(h:k<m):(De m x).getD k 0=x.getD k 0:=by
 simp only[De,List.getD_eq_getElem?_getD,List.getElem?_take,if_pos h]
theorem Kb {m:Nat}(l:Nat)(f g:Nat→Int)(h:∀k,k<m→f k=g k):IF (min m l) f=De m (IF l g):=by
 unfold IF De
 rw[← List.map_take,List.take_range]
 exact List.map_congr_left fun k hk=>h k (by have:=List.mem_range.1 hk;omega)
section
variable {m:Nat} (a b:Sr)
theorem IN:(De m a).length=min m a.length:=List.length_take ..
theorem Rw:DF (De m a) (De m b)=De m (DF a b):=by
 unfold DF;rw[IN]
 exact Kb _ _ _ fun k hk=>by rw[Ds a hk,Ds b hk]
theorem Rx:EE (De m a) (De m b)=De m (EE a b):=by
 unfold EE;rw[IN]
 exact Kb _ _ _ fun k hk=>by rw[Ds a hk,Ds b hk]
theorem Ry (y:Int):Ci (De m a) y=De m (Ci a y):=by
 unfold Ci;rw[IN]
 exact Kb _ _ _ fun k hk=>by rw[Ds a hk]
theorem Pk {k:Nat}(hk:k<m):∀i,i≤k+1→LU (De m a) (De m b) k i=LU a b k i
 |0,_=>rfl
 |i+1,h=>by
  show md (LU (De m a) (De m b) k i+(De m a).getD i 0*(De m b).getD (k-i) 0)=md (LU a b k i+a.getD i 0*b.getD (k-i) 0)
  rw[Pk hk i zO,Ds a zO,Ds b (by omega)]
theorem Rz:C5 (De m a) (De m b)=De m (C5 a b):=by
 unfold C5;rw[IN]
 exact Kb _ _ _ fun k hk=>Pk a b hk (k+1)<|A7 _
theorem Pl (o:Sr){k:Nat}(hk:k<m):∀i,i≤k→MX (De m a) (De m b) o k i=MX a b o k i
 |0,_=>Ds a hk
 |i+1,h=>by
  show md (MX (De m a) (De m b) o k i-o.getD i 0*(De m b).getD (k-i) 0)=md (MX a b o k i-o.getD i 0*b.getD (k-i) 0)
  rw[Pl o hk i zO,Ds b (by omega)]
theorem Pm (hm:1≤m):∀k,k≤m→I7 (De m a) (De m b) k=I7 a b k
 |0,_=>rfl
 |k+1,h=>by
  rw[I7,I7,Pm hm k zO,Pl a b _ zO k (A7 _),Ds b (by omega)]
theorem Ny:∀ (k j:Nat),j≤k→(I7 a b k).take j = I7 a b j
  | 0, j, h => by have : j = 0 := by omega
                  subst this; rfl
  | k + 1,j,h=>by
    by_cases e:j = k + 1
    · subst e; rw [za (by rw [Dq]; exact A7 _)]
    · rw [I7,List.take_append_of_le_length (by rw [Dq]; omega)]; exact Ny k j zO
theorem RA (hm:1≤m):BP (De m a) (De m b)=De m (BP a b):=by
 unfold BP;rw[IN,Pm a b hm _ (by omega)]
 show _=(I7 a b a.length).take m
 by_cases h:m≤a.length
 ·rw[Ny a b _ _ h,Nat.min_eq_left h]
 ·rw[za (by rw[Dq];omega),Nat.min_eq_right (by omega)]
end
theorem Tu {m n:Nat}(x:Int)(h:m≤n):cst m x=De m (cst n x):=by
 unfold cst De
 rw[List.take_set,List.take_replicate,Nat.min_eq_left h]
theorem Kc {m:Nat}(env:List Sr)(k:Nat):(env.map (De m)).getD k []=De m (env.getD k []):=by
 simp only[List.getD_eq_getElem?_getD,List.getElem?_map]
 cases env[k]? <;> simp[De]
structure Zs (m:Nat)(C C':Ca):Prop where
 one:∀f j xs t,C'.one f j (xs.map (De m)) t=(C.one f j xs t).map (De m)
 all:∀f xs t,C'.all f (xs.map (De m)) t=(C.all f xs t).map (List.map (De m))
theorem Tv {m:Nat}(hm:1≤m)(k:Int)(xs:List Sr)(t:Nat):K7 k (xs.map (De m)) t=(K7 k xs t).map (De m):=by
 unfold K7
 rw[Kc,Kc]
 split
 ·rw[Rw];rfl
 ·split
  ·rw[Rx];rfl
  ·split
   ·rw[Rz];rfl
   ·split
    ·rw[Ry];rfl
    ·rw[Ds _ (by omega)]
     split
     ·rfl
     ·rw[RA _ _ hm];rfl
section
variable {m n:Nat} {C C':Ca}
theorem Pn (hC:Zs m C C')(f:Nat):∀(k:Nat)(xs:List Sr)(t:Nat),Hr (C'.all f) k (xs.map (De m)) t=(Hr (C.all f) k xs t).map (List.map (De m))
 |0,xs,t=>rfl
 |k+1,xs,t=>by
  rw[Hr,Hr,Pn hC f k xs t]
  cases Hr (C.all f) k xs t with
  |err c=>rfl
  |ok ys u=>exact hC.all f ys u
theorem Kd:∀(l:List Ex),(∀e∈l,∀env s,Cf m C' e (env.map (De m)) s=(Cf n C e env s).map (De m))→∀env s,D9 m C' l (env.map (De m)) s=(D9 n C l env s).map (List.map (De m))
 |[],_,env,s=>by rw[D9,D9];rfl
 |e::l,h,env,s=>by
  rw[D9,D9,h e (z0 ..)]
  cases Cf n C e env s with
  |err c=>rfl
  |ok x t =>
   show(D9 m C' l (env.map (De m)) t).bind _=_
   rw[Kd l (fun e he=>h e (z3 _ he)) env t]
   simp only[Rs.bind_ok]
   cases D9 n C l env t <;> rfl
theorem Hy:∀(l:List Ex)(j:Nat),(∀e∈l,∀env s,Cf m C' e (env.map (De m)) s=(Cf n C e env s).map (De m))→∀env s,HQ m C' l j (env.map (De m)) s=(HQ n C l j env s).map (De m)
 |[],j,_,env,s=>by rw[HQ,HQ];rfl
 |e::l,0,h,env,s=>by rw[HQ,HQ];exact h e (z0 ..) env s
 |e::l,j+1,h,env,s=>by rw[HQ,HQ];exact Hy l j (fun e he=>h e (z3 _ he)) env s
theorem Jp:∀ {l:List Ex}{e:Ex},e∈l→e.size≤Ex.sizes l
 |[],_,h=>by cases h
 |a::l,e,h=>by
  rw[Ex.sizes]
  rcases ze.1 h with rfl|h
  ·omega
  ·have:=Jp h;omega
theorem Ke (hm:1≤m)(hmn:m≤n)(hC:Zs m C C'):∀(z:Nat)(e:Ex),e.size≤z→∀env s,Cf m C' e (env.map (De m)) s=(Cf n C e env s).map (De m)
 |0,e,h,_,_=>by have:=Cn e;omega
 |z+1,e,h,env,s=>by
  have hk:∀x∈e.kids,∀env s,Cf m C' x (env.map (De m)) s=(Cf n C x env s).map (De m):=fun x hx=>Ke hm hmn hC z x (by have:=Cn e;have:=Jp hx;omega)
  rw[Eu,Eu]
  split
  ·rfl
  ·split
   ·rw[Tu _ hmn];rfl
   ·split
    ·rw[Kc];rfl
    ·split
     ·rw[Hy _ 0 hk]
      cases HQ n C e.kids 0 env (s+1)with
      |err c=>rfl
      |ok x t =>
       show(if (De m x).getD 0 0=0 then _ else _)=((if x.getD 0 0=0 then _ else _:Rs Sr)).map (De m)
       rw[Ds _ (by omega)]
       split
       ·exact Hy _ 1 hk env t
       ·exact Hy _ 2 hk env t
     ·split
      ·rw[Hy _ 0 hk]
       cases HQ n C e.kids 0 env (s+1)with
       |err c=>rfl
       |ok x t =>
        show HQ m C' e.kids 1 (env.map (De m)++[De m x]) t=(HQ n C e.kids 1 (env++[x]) t).map (De m)
        rw[← Hy _ 1 hk,List.map_append];rfl
      ·rw[Kd _ hk]
       cases D9 n C e.kids env (s+1)with
       |err c=>rfl
       |ok xs t =>
        show(if e.kind=10 then _ else _)=((if e.kind=10 then _ else _:Rs Sr)).map (De m)
        split
        ·exact hC.one _ _ _ _
        ·split
         ·rw[Pn hC]
          cases Hr (C.all e.num.toNat) e.count.toNat xs t with
          |err c=>rfl
          |ok ys u=>show Rs.ok _ _=Rs.ok _ _;rw[Kc]
         ·exact Tv hm _ _ _
theorem Po (p:List Fn)(hm:1≤m)(hmn:m≤n):∀F,Zs m (E4 p n F) (E4 p m F)
 |0=>⟨fun _ _ _ _=>rfl,fun _ _ _=>rfl⟩
 |F+1=>by
  have ih:=Po p hm hmn F
  refine⟨fun f j xs t=>?_,fun f xs t=>?_⟩
  ·show(if f=F then _ else _)=((if f=F then _ else _:Rs Sr)).map (De m)
   split
   ·exact Ke hm hmn ih _ _ (A7 _) _ _
   ·exact ih.one f j xs t
  ·show(if f=F then _ else _)=((if f=F then _ else _:Rs (List Sr))).map (List.map (De m))
   split
   ·exact Kd _ (fun e _=>Ke hm hmn ih _ e<|A7 _) _ _
   ·exact ih.all f xs t
end
theorem VE (p:List Fn){m n:Nat}(hm:1≤m)(hmn:m≤n)(f:Nat)(a:List Sr):ev p m f (a.map (De m))=(ev p n f a).map (List.map (De m)) :=
 Kd _ (fun e _=>Ke hm hmn (Po p hm hmn f) _ e (A7 _)) _ _
theorem Tw (p:List Fn){m n:Nat}(hm:1≤m)(hmn:m≤n)(f:Nat)(a:List Sr):HR p m f (a.map (De m))=HR p n f a:=by
 unfold HR;rw[VE p hm hmn]
 cases ev p n f a <;> rfl
end
section
def VF (n:Nat)(r:Rs Sr):Prop:=match r with
 |.ok x s=>Cb n x∧s≤3000
 |.err c=>c=6∨c=7
def Zb (n m:Nat)(r:Rs (List Sr)):Prop:=match r with
 |.ok xs s=>xs.length=m∧C0 n xs∧s≤3000
 |.err c=>c=6∨c=7
structure Zt (p:List Fn)(n F:Nat)(C:Ca):Prop where
 one:∀f j xs t,f<F→j<(p.getD f Fn.zero).outs.length→C0 n xs→((xs.length:Nat):Int)=(p.getD f Fn.zero).params→t≤3000→VF n (C.one f j xs t)
 all:∀f xs t,f<F→C0 n xs→((xs.length:Nat):Int)=(p.getD f Fn.zero).params→t≤3000→Zb n (p.getD f Fn.zero).outs.length (C.all f xs t)
theorem C0.nil (n:Nat):C0 n []:=fun k hk=>by simp at hk
theorem C0.cons {n:Nat}{x:Sr}{xs:List Sr}(hx:Cb n x)(h:C0 n xs):C0 n (x::xs):=by
 intro k hk
 cases k with
 |zero=>exact hx
 |succ k=>exact h k (by simpa using hk)
theorem RB {n:Nat}{C:Ca}{env:List Sr}:∀(l:List Ex),(∀e∈l,∀s,s≤3000→VF n (Cf n C e env s))→∀s,s≤3000→Zb n l.length (D9 n C l env s)
 |[],_,s,hs=>by rw[D9];exact⟨rfl,C0.nil n,hs⟩
 |e::l,h,s,hs=>by
  rw[D9]
  have h1:=h e (z0 ..) s hs
  cases h2:Cf n C e env s with
  |err c=>rw[h2]at h1;exact h1
  |ok x t =>
   rw[h2]at h1
   have h3:=RB l (fun e he=>h e<|z3 _ he) t h1.2
   rw[Rs.bind_ok]
   cases h4:D9 n C l env t with
   |err c=>rw[h4]at h3;exact h3
   |ok xs u=>rw[h4]at h3;exact⟨by simp[h3.1],C0.cons h1.1 h3.2.1,h3.2.2⟩
theorem U5 {p:List Fn}{n F f:Nat}{C:Ca}(hC:Zt p n F C)(hf:f<F)(ho:(((p.getD f Fn.zero).outs.length:Nat):Int)=(p.getD f Fn.zero).params):∀(k:Nat)(xs:List Sr)(t:Nat),C0 n xs→xs.length=(p.getD f Fn.zero).outs.length→t≤3000→Zb n (p.getD f Fn.zero).outs.length (Hr (C.all f) k xs t)
 |0,xs,t,h1,h2,h3=>⟨h2,h1,h3⟩
 |k+1,xs,t,h1,h2,h3=>by
  have h:=U5 hC hf ho k xs t h1 h2 h3
  rw[Hr]
  cases h4:Hr (C.all f) k xs t with
  |err c=>rw[h4]at h;exact h
  |ok ys u=>rw[h4]at h;rw[Rs.bind_ok];exact hC.all f ys u hf h.2.1 (by rw[h.1];exact ho) h.2.2
theorem XA {n:Nat}{k:Int}{xs:List Sr}{t:Nat}(hx:C0 n xs)(h0:0<xs.length)(ht:t≤3000):VF n (K7 k xs t):=by
 have h1:=(hx 0 h0).1
 unfold K7
 split
 ·exact⟨⟨by rw[FT];exact h1,H2 _ _⟩,ht⟩
 ·split
  ·exact⟨⟨by rw[H1];exact h1,H3 _ _⟩,ht⟩
  ·split
   ·exact⟨⟨by rw[FS];exact h1,ES _ _⟩,ht⟩
   ·split
    ·exact⟨⟨by rw[FU];exact h1,Ep _ _⟩,ht⟩
    ·split
     ·exact .inl rfl
     ·exact⟨⟨by rw[DL];exact h1,Eo _ _⟩,ht⟩
theorem RC {p:List Fn}{n F:Nat}{C:Ca}(hC:Zt p n F C):∀(z:Nat)(e:Ex),e.size≤z→∀(env:List Sr)(s:Nat),wf p ((F:Nat):Int) e ((env.length:Nat):Int)=true→C0 n env→s≤3000→VF n (Cf n C e env s)
 |0,e,h,_,_,_,_,_=>by have:=Cn e;omega
 |z+1,e,h,env,s,hw,he,hs=>by
  obtain⟨w1,w2,w3,w4,w5,w6,w7,w8⟩:=CN (CB hw)
  have hz:∀j,j<e.kids.length→(e.kids.getD j Ex.zero).size≤z:=fun j hj=>by
   have h2:e.kids.getD j Ex.zero∈e.kids:=by rw[FV hj];exact List.getElem_mem hj
   have:=Cn e;have:=Jp h2;omega
  have hk:∀j,j<e.kids.length→¬(e.kind=9∧j=1)→∀t,t≤3000→VF n (HQ n C e.kids j env t):=fun j hj hn t ht=>by
   rw[Dj _ _ _ _ _ _ hj]
   exact RC hC z _ (hz j hj) env t (Dz hw hj hn) he ht
  rw[Eu]
  split
  ·exact .inr rfl
  ·rename_i hs3
   split
   ·rename_i h1;exact⟨DM (Ce.2 (w8 h1)),zO⟩
   ·split
    ·rename_i h1 h2;exact⟨he _ (by have:=w2 h2;omega),zO⟩
    ·split
     ·rename_i h1 h2 h8
      have h3:=w5 h8
      have hc:=hk 0 zO zO (s+1) zO
      cases h4:HQ n C e.kids 0 env (s+1)with
      |err c=>rw[h4]at hc;exact hc
      |ok x t =>
       rw[h4]at hc;rw[Rs.bind_ok]
       split
       ·exact hk 1 zO zO t hc.2
       ·exact hk 2 zO zO t hc.2
     ·split
      ·rename_i h1 h2 h8 h9
       have h3:=w3 zO
       have hc:=hk 0 zO zO (s+1) zO
       cases h4:HQ n C e.kids 0 env (s+1)with
       |err c=>rw[h4]at hc;exact hc
       |ok x t =>
        rw[h4]at hc;rw[Rs.bind_ok,Dj _ _ _ _ _ _ (show 1<e.kids.length by omega)]
        refine RC hC z _ (hz 1 zO) (env++[x]) t ?_ (he.snoc hc.1) hc.2
        have:=Je hw zO h9
        rw[z4,zd];exact this
      ·rename_i h1 h2 h8 h9
       have hc:=RB (n:=n) (C:=C) (env:=env) e.kids (fun x hx t ht=>by
        obtain⟨j,hj,rfl⟩:=List.mem_iff_getElem.1 hx
        have:=hk j hj zO t ht
        rwa [Dj _ _ _ _ _ _ hj,FV hj]at this) (s+1) zO
       cases h4:D9 n C e.kids env (s+1)with
       |err c=>rw[h4]at hc;exact hc
       |ok xs t =>
        rw[h4]at hc;rw[Rs.bind_ok]
        obtain⟨c1,c2,c3⟩:=hc
        split
        ·rename_i h10
         have h6:=w6<|.inl h10
         exact hC.one _ _ xs t zO zO c2 (by rw[c1];exact h6.2.2.1) c3
        ·split
         ·rename_i h11
          have h6:=w6 (.inr h11);have h7:=w7 h11
          have hl:=U5 hC (f:=e.num.toNat) zO h7.1 e.count.toNat xs t c2 zO c3
          cases h5:Hr (C.all e.num.toNat) e.count.toNat xs t with
          |err c=>rw[h5]at hl;exact hl
          |ok ys u=>rw[h5]at hl;exact⟨hl.2.1 _ (by rw[hl.1];omega),hl.2.2⟩
         ·refine XA c2 ?_ c3
          rw[c1]
          by_cases h7:e.kind=7
          ·rw[w4 h7];decide
          ·rw[w3 (by omega)];decide
theorem U6 {p:List Fn}(hv:HE p)(n:Nat):∀F,F≤p.length→Zt p n F (E4 p n F)
 |0,_=>⟨fun f j xs t h=>by omega,fun f xs t h=>by omega⟩
 |F+1,hF=>by
  have ih:=U6 hv n F zO
  have hO:∀j xs t,j<(p.getD F Fn.zero).outs.length→C0 n xs→((xs.length:Nat):Int)=(p.getD F Fn.zero).params→t≤3000→VF n (Cf n (E4 p n F) ((p.getD F Fn.zero).outs.getD j Ex.zero) xs t):=fun j xs t h2 h3 h4 h5 =>
   RC ih _ _ (A7 _) xs t (by rw[h4];exact hv.wf F zO j h2) h3 h5
  refine⟨fun f j xs t h1 h2 h3 h4 h5=>?_,fun f xs t h1 h3 h4 h5=>?_⟩
  ·show VF n (if f=F then _ else _)
   split
   ·rename_i e;subst e;exact hO j xs t h2 h3 h4 h5
   ·exact ih.one f j xs t zO h2 h3 h4 h5
  ·show Zb n _ (if f=F then _ else _)
   split
   ·rename_i e;subst e
    refine RB _ (fun e he s hs=>?_) t h5
    obtain⟨j,hj,rfl⟩:=List.mem_iff_getElem.1 he
    have:=hO j xs s hj h3 h4 hs
    rwa [FV hj]at this
   ·exact ih.all f xs t zO h3 h4 h5
theorem VG {y z:List Sr}(hl:y.length=z.length)(h:∀j,j<y.length→y.getD j []=z.getD j []):y=z :=
 List.ext_getElem hl fun j h1 h2=>by have:=h j h1;rwa [FV h1,FV h2]at this
section
variable {p:List Fn} {f o:Nat} {a:List Int}
theorem VH (s:Sr)(k:Nat)(x:Int)(j:Nat):(s.set k x).getD j 0=if j=k∧k<s.length then x else s.getD j 0:=by
 simp only[List.getD_eq_getElem?_getD,List.getElem?_set]
 by_cases e:k=j
 ·subst e
  by_cases h:k<s.length
  ·simp[h]
  ·simp[h,List.getElem?_eq_none (Nat.le_of_not_lt h)]
 ·rw[if_neg e,if_neg (by omega)]
end
end
theorem RD {s:ByteArray}(h:Kz s=true):s.size≤12:=by
 unfold Kz at h
 simp only[z7,decide_eq_true_eq]at h
 exact h.1.2
theorem Li.szp {p:List Fn}{pl:Bool}(h:Li p pl):Qh p:=fun k hk=>⟨by have:=h.sz k hk;omega,by have:=h.outs k hk;omega,by have:=RD (h.nm k hk);omega⟩
section
def IO (p:List Fn)(f:Int)(a:Sr):Int:=if G3 p f=0 then(if (decide (((a.length:Nat):Int)=(p.getD f.toNat Fn.zero).params) && B2 a)=true then 0 else 2)else G3 p f
def Oi (p:List Fn)(f:Int)(a:Sr):Int:=if IO p f a=0 then HS p f.toNat a else IO p f a
def Zu (p:List Fn)(f:Int)(a:Sr):Sr:=if IO p f a=0 then Tt p f.toNat a else []
def VI (p:List Fn)(f:Int)(a:Sr):Nat:=if IO p f a=0 then Mq p 1 f.toNat (FB a)else 0
section
variable {p:List Fn} {f:Int} {a:Sr}
theorem XB (h:IO p f a=0):Jg p=true∧(0≤f∧f<((p.length:Nat):Int))∧((a.length:Nat):Int)=(p.getD f.toNat Fn.zero).params∧B2 a=true:=by
 unfold IO at h
 split at h
 ·rename_i h1
  split at h
  ·rename_i h2
   rw[z7,decide_eq_true_eq]at h2
   obtain⟨q1,q2,q3⟩:=Pj h1
   exact⟨q1,⟨q2,q3⟩,h2.1,h2.2⟩
  ·omega
 ·rename_i h1;exact absurd h h1
theorem XC (h:G3 p f≠0):G3 p f=IO p f a:=by unfold IO;rw[if_neg h]
theorem XD (h:G3 p f=0)(h2:(decide (((a.length:Nat):Int)=(p.getD f.toNat Fn.zero).params) && B2 a)=false):2=IO p f a:=by unfold IO;rw[if_pos h,h2];rfl
theorem Zv (h:G3 p f=0)(h2:(decide (((a.length:Nat):Int)=(p.getD f.toNat Fn.zero).params) && B2 a)=true):0=IO p f a:=by unfold IO;rw[if_pos h,h2];rfl
theorem XE (h:IO p f a≠0):Oi p f a=IO p f a:=if_neg h
theorem XF (h:IO p f a≠0):Zu p f a=[]:=if_neg h
theorem XG (h:IO p f a≠0):VI p f a=0:=if_neg h
theorem RE (h:IO p f a=0):Oi p f a=HS p f.toNat a:=if_pos h
theorem XH (h:IO p f a=0):Zu p f a=Tt p f.toNat a:=if_pos h
theorem XI (h:IO p f a=0):VI p f a=Mq p 1 f.toNat (FB a):=if_pos h
end
end
section
def Hz {α:Type}(K:Nat)(R:(Nat→α)→α→Prop)(r:Nat→Rs α)(rz:Rs α):Prop:=match rz with
 |.ok z t=>∃x,(∀k,k<K→r k=.ok (x k) t)∧R x z
 |.err c=>∀k,k<K→r k=.err c
theorem Hz.congr {α:Type}{K:Nat}{R:(Nat→α)→α→Prop}{r r':Nat→Rs α}{rz:Rs α}(h:Hz K R r rz)(e:∀k,k<K→r' k=r k):Hz K R r' rz:=by
 cases rz with
 |ok z t=>obtain⟨x,h1,h2⟩:=h;exact⟨x,fun k hk=>(e k hk).trans (h1 k hk),h2⟩
 |err c=>exact fun k hk=>(e k hk).trans (h k hk)
theorem Hz.bind {α β:Type}{K:Nat}{R:(Nat→α)→α→Prop}{R':(Nat→β)→β→Prop}{r:Nat→Rs α}{rz:Rs α}{g:Nat→α→Nat→Rs β}{gz:α→Nat→Rs β}(h:Hz K R r rz)
  (hg:∀x z t,R x z→Hz K R' (fun k=>g k (x k) t) (gz z t)):Hz K R' (fun k=>(r k).bind (g k)) (rz.bind gz):=by
 cases rz with
 |ok z t =>
  obtain⟨x,h1,h2⟩:=h
  exact(hg x z t h2).congr fun k hk=>by rw[h1 k hk];rfl
 |err c=>exact fun k hk=>by show(r k).bind _=_;rw[h k hk];rfl
theorem Hz.ret {α:Type}{K:Nat}{R:(Nat→α)→α→Prop}{x:Nat→α}{z:α}{t:Nat}(h:R x z):Hz K R (fun k=>.ok (x k) t) (.ok z t):=⟨x,fun _ _=>rfl,h⟩
theorem Hz.fail {α:Type}{K:Nat}{R:(Nat→α)→α→Prop}{c:Int}:Hz K R (fun _=>.err c) (.err c):=fun _ _=>rfl
structure XJ (K:Nat)(n:Nat→Nat)(nz:Nat)(R:(Nat→Sr)→Sr→Prop):Prop where
 zero:∀x z,R x z→∀k,k<K→((x k).getD 0 0=0↔z.getD 0 0=0)
 cst:∀c,HP c=true→R (fun k=>cst (n k) c) (Go.Proofs.YtbajepcpgncekaaGreat.cst nz c)
 add:∀x z y w,R x z→R y w→R (fun k=>DF (x k) (y k)) (DF z w)
 red:∀x z y w,R x z→R y w→R (fun k=>EE (x k) (y k)) (EE z w)
 pro:∀x z y w,R x z→R y w→R (fun k=>C5 (x k) (y k)) (C5 z w)
 scl:∀x z,R x z→R (fun k=>Ci (x k) 1000002) (Ci z 1000002)
 quo:∀x z y w,R x z→R y w→w.getD 0 0≠0→R (fun k=>BP (x k) (y k)) (BP z w)
def Kf (K:Nat)(R:(Nat→Sr)→Sr→Prop)(m:Nat)(xs:Nat→List Sr)(zs:List Sr):Prop:=zs.length=m∧(∀k,k<K→(xs k).length=m)∧∀i,i<m→∃x,(∀k,k<K→(xs k).getD i []=x k)∧R x (zs.getD i [])
section
variable {K:Nat} {n:Nat→Nat} {nz:Nat} {R:(Nat→Sr)→Sr→Prop} {p:List Fn}
theorem Kf.nil:Kf K R 0 (fun _=>[]) []:=⟨rfl,fun _ _=>rfl,fun i hi=>by omega⟩
theorem Kf.cons {m:Nat}{x:Nat→Sr}{z:Sr}{xs:Nat→List Sr}{zs:List Sr}(h1:R x z)(h:Kf K R m xs zs):Kf K R (m+1) (fun k=>x k::xs k) (z::zs):=by
 refine⟨by rw[z9,h.1],fun k hk=>by rw[z9,h.2.1 k hk],fun i hi=>?_⟩
 cases i with
 |zero=>exact⟨x,fun _ _=>rfl,h1⟩
 |succ i =>
  obtain⟨y,h3,h4⟩:=h.2.2 i zO
  exact⟨y,fun k hk=>by simpa using h3 k hk,by simpa using h4⟩
theorem Kf.snoc {m:Nat}{x:Nat→Sr}{z:Sr}{xs:Nat→List Sr}{zs:List Sr}(h:Kf K R m xs zs)(h1:R x z):Kf K R (m+1) (fun k=>xs k++[x k]) (zs++[z]):=by
 refine⟨by simp[h.1],fun k hk=>by simp[h.2.1 k hk],fun i hi=>?_⟩
 by_cases e:i=m
 ·exact⟨x,fun k hk=>GY (by rw[h.2.1 k hk];exact e),by rw[GY (by rw[h.1];exact e)];exact h1⟩
 ·obtain⟨y,h3,h4⟩:=h.2.2 i zO
  exact⟨y,fun k hk=>by rw[GM (by rw[h.2.1 k hk];omega)];exact h3 k hk,by rw[GM (by rw[h.1];omega)];exact h4⟩
structure Zw (K:Nat)(R:(Nat→Sr)→Sr→Prop)(p:List Fn)(F:Nat)(C:Nat→Ca)(Cz:Ca):Prop where
 one:∀f j m xs zs t,f<F→j<(p.getD f Fn.zero).outs.length→Kf K R m xs zs→((m:Nat):Int)=(p.getD f Fn.zero).params→Hz K R (fun k=>(C k).one f j (xs k) t) (Cz.one f j zs t)
 all:∀f m xs zs t,f<F→Kf K R m xs zs→((m:Nat):Int)=(p.getD f Fn.zero).params→Hz K (Kf K R (p.getD f Fn.zero).outs.length) (fun k=>(C k).all f (xs k) t) (Cz.all f zs t)
theorem RH {C:Nat→Ca}{Cz:Ca}{env:Nat→List Sr}{ez:List Sr}:∀(l:List Ex),(∀e∈l,∀s,Hz K R (fun k=>Cf (n k) (C k) e (env k) s) (Cf nz Cz e ez s))→∀s,Hz K (Kf K R l.length) (fun k=>D9 (n k) (C k) l (env k) s) (D9 nz Cz l ez s)
 |[],_,s=>by
  simp only[D9]
  exact Hz.ret Kf.nil
 |e::l,h,s=>by
  simp only[D9]
  exact (h e (z0 ..) s).bind fun x z t hx=>(RH l (fun e he=>h e<|z3 _ he) t).bind fun xs zs u hxs=>Hz.ret<|hxs.cons hx
theorem U7 {F f:Nat}{C:Nat→Ca}{Cz:Ca}(hC:Zw K R p F C Cz)(hf:f<F)(ho:(((p.getD f Fn.zero).outs.length:Nat):Int)=(p.getD f Fn.zero).params):∀(c:Nat)(xs:Nat→List Sr)(zs:List Sr)(t:Nat),Kf K R (p.getD f Fn.zero).outs.length xs zs →
  Hz K (Kf K R (p.getD f Fn.zero).outs.length) (fun k=>Hr ((C k).all f) c (xs k) t) (Hr (Cz.all f) c zs t)
 |0,xs,zs,t,h=>Hz.ret h
 |c+1,xs,zs,t,h=>(U7 hC hf ho c xs zs t h).bind fun ys ws u hy=>hC.all f _ ys ws u hf hy ho
theorem Kf.at {m i:Nat}{xs:Nat→List Sr}{zs:List Sr}{t:Nat}(h:Kf K R m xs zs)(hi:i<m):Hz K R (fun k=>.ok ((xs k).getD i []) t) (.ok (zs.getD i []) t):=by
 obtain⟨x,h1,h2⟩:=h.2.2 i hi
 exact(Hz.ret h2).congr fun k hk=>by rw[h1 k hk]
theorem Kf.two {m t t':Nat}{xs:Nat→List Sr}{zs:List Sr}{o:Sr→Sr→Sr}(h:Kf K R m xs zs)(hm:2≤m)(ho:∀x z y w,R x z→R y w→R (fun k=>o (x k) (y k)) (o z w)) :
  Hz K R (fun k=>.ok (o ((xs k).getD 0 []) ((xs k).getD 1 [])) t) (.ok (o (zs.getD 0 []) (zs.getD 1 [])) t):=by
 obtain⟨x,h1,h2⟩:=h.2.2 0 zO
 obtain⟨y,h3,h4⟩:=h.2.2 1 zO
 exact(Hz.ret (ho x _ y _ h2 h4)).congr fun k hk=>by rw[h1 k hk,h3 k hk]
theorem XK (hR:XJ K n nz R){kd:Int}{m t:Nat}{xs:Nat→List Sr}{zs:List Sr}(h:Kf K R m xs zs)(h1:kd=7→1≤m)(h2:kd≠7→2≤m):Hz K R (fun k=>K7 kd (xs k) t) (K7 kd zs t):=by
 unfold K7
 by_cases k3:kd=3
 ·simp only[if_pos k3];exact h.two (t':=0) (h2 zO) hR.add
 simp only[if_neg k3]
 by_cases k4:kd=4
 ·simp only[if_pos k4];exact h.two (t':=0) (h2 zO) hR.red
 simp only[if_neg k4]
 by_cases k5:kd=5
 ·simp only[if_pos k5];exact h.two (t':=0) (h2 zO) hR.pro
 simp only[if_neg k5]
 by_cases k7:kd=7
 ·simp only[if_pos k7]
  obtain⟨x,q1,q2⟩:=h.2.2 0 (h1 k7)
  exact(Hz.ret (hR.scl x _ q2)).congr fun k hk=>by rw[q1 k hk]
 simp only[if_neg k7]
 obtain⟨x,q1,q2⟩:=h.2.2 0 (by have:=h2 k7;omega)
 obtain⟨y,q3,q4⟩:=h.2.2 1 (by have:=h2 k7;omega)
 have hz:=hR.zero y _ q4
 by_cases h0:(zs.getD 1 []).getD 0 0=0
 ·simp only[if_pos h0]
  exact fun k hk=>by
   show(if List.getD ((xs k).getD 1 []) 0 0=0 then _ else _)=_
   rw[q3 k hk,if_pos ((hz k hk).2 h0)]
 ·simp only[if_neg h0]
  exact(Hz.ret (hR.quo x _ y _ q2 q4 h0)).congr fun k hk=>by rw[q3 k hk,q1 k hk,if_neg fun h=>h0 ((hz k hk).1 h)]
theorem RJ (hR:XJ K n nz R){F:Nat}{C:Nat→Ca}{Cz:Ca}(hC:Zw K R p F C Cz):∀(z:Nat)(e:Ex),e.size≤z→∀(m:Nat)(env:Nat→List Sr)(ez:List Sr)(s:Nat),wf p ((F:Nat):Int) e ((m:Nat):Int)=true→Kf K R m env ez→Hz K R (fun k=>Cf (n k) (C k) e (env k) s) (Cf nz Cz e ez s)
 |0,e,h,_,_,_,_,_,_=>by have:=Cn e;omega
 |z+1,e,h,m,env,ez,s,hw,he=>by
  obtain⟨w1,w2,w3,w4,w5,w6,w7,w8⟩:=CN (CB hw)
  have hz:∀j,j<e.kids.length→(e.kids.getD j Ex.zero).size≤z:=fun j hj=>by
   have:=Cn e;have:=Ks hj;omega
  have hk:∀j,j<e.kids.length→¬(e.kind=9∧j=1)→∀t,Hz K R (fun k=>HQ (n k) (C k) e.kids j (env k) t) (HQ nz Cz e.kids j ez t):=fun j hj hn t=>by
   simp only[Dj _ _ _ _ _ _ hj]
   exact RJ hR hC z _ (hz j hj) m env ez t (Dz hw hj hn) he
  simp only[Eu]
  by_cases hs3:3000≤s
  ·simp only[if_pos hs3];exact Hz.fail
  simp only[if_neg hs3]
  by_cases k1:e.kind=1
  ·simp only[if_pos k1];exact Hz.ret (hR.cst _ (Ce.2 (w8 k1)))
  simp only[if_neg k1]
  by_cases k2:e.kind=2
  ·simp only[if_pos k2];exact he.at (by have:=w2 k2;omega)
  simp only[if_neg k2]
  by_cases k8:e.kind=8
  ·simp only[if_pos k8]
   have h3:=w5 k8
   refine (hk 0 zO zO (s+1)).bind fun x y t hx=>?_
   have hq:=hR.zero x y hx
   by_cases h0:y.getD 0 0=0
   ·simp only[if_pos h0]
    exact(hk 1 zO zO t).congr fun k hk=>by rw[if_pos ((hq k hk).2 h0)]
   ·simp only[if_neg h0]
    exact(hk 2 zO zO t).congr fun k hk=>by rw[if_neg fun h=>h0 ((hq k hk).1 h)]
  simp only[if_neg k8]
  by_cases k9:e.kind=9
  ·simp only[if_pos k9]
   have h3:=w3 zO
   refine (hk 0 zO zO (s+1)).bind fun x y t hx=>?_
   simp only[Dj _ _ _ _ _ _ (show 1<e.kids.length by omega)]
   refine RJ hR hC z _ (hz 1 zO) (m+1) (fun k=>env k++[x k]) (ez++[y]) t ?_<|he.snoc hx
   have:=Je hw zO k9
   rw[Int.natCast_add];exact this
  simp only[if_neg k9]
  have hc:=RH (n:=n) (C:=C) (nz:=nz) (Cz:=Cz) (env:=env) (ez:=ez) e.kids (fun x hx t=>by
   obtain⟨j,hj,rfl⟩:=List.mem_iff_getElem.1 hx
   have:=hk j hj zO t
   simp only[Dj _ _ _ _ _ _ hj,FV hj]at this
   exact this) (s+1)
  refine hc.bind fun xs zs t hx=>?_
  by_cases k10:e.kind=10
  ·simp only[if_pos k10]
   have h6:=w6<|.inl k10
   exact hC.one _ _ _ xs zs t zO zO hx (by exact h6.2.2.1)
  simp only[if_neg k10]
  by_cases k11:e.kind=11
  ·simp only[if_pos k11]
   have h6:=w6 (.inr k11);have h7:=w7 k11
   have hl:e.kids.length=(p.getD e.num.toNat Fn.zero).outs.length:=by omega
   rw[hl]at hx
   exact (U7 hC (f:=e.num.toNat) zO h7.1 e.count.toNat xs zs t hx).bind fun ys ws u hy=>hy.at zO
  simp only[if_neg k11]
  exact XK hR hx (fun h7=>by rw[w4 h7];decide) fun h7=>by rw[w3 (by omega)];decide
theorem U8 (hR:XJ K n nz R)(hv:HE p):∀F,F≤p.length→Zw K R p F (fun k=>E4 p (n k) F) (E4 p nz F)
 |0,_=>⟨fun f j m xs zs t h=>by omega,fun f m xs zs t h=>by omega⟩
 |F+1,hF=>by
  have ih:=U8 hR hv F zO
  have hO:∀j m xs zs t,j<(p.getD F Fn.zero).outs.length→Kf K R m xs zs→((m:Nat):Int)=(p.getD F Fn.zero).params→Hz K R (fun k=>Cf (n k) (E4 p (n k) F) ((p.getD F Fn.zero).outs.getD j Ex.zero) (xs k) t) (Cf nz (E4 p nz F) ((p.getD F Fn.zero).outs.getD j Ex.zero) zs t):=fun j m xs zs t h2 h3 h4 =>
   RJ hR ih _ _ (A7 _) m xs zs t (by rw[h4];exact hv.wf F zO j h2) h3
  refine⟨fun f j m xs zs t h1 h2 h3 h4=>?_,fun f m xs zs t h1 h3 h4=>?_⟩
  ·show Hz K R (fun k=>if f=F then _ else _) (if f=F then _ else _)
   by_cases e:f=F
   ·subst e;simp only[if_true];exact hO j m xs zs t h2 h3 h4
   ·simp only[if_neg e];exact ih.one f j m xs zs t zO h2 h3 h4
  ·show Hz K _ (fun k=>if f=F then _ else _) (if f=F then _ else _)
   by_cases e:f=F
   ·subst e;simp only[if_true]
    refine RH _ (fun e he s=>?_) t
    obtain⟨j,hj,rfl⟩:=List.mem_iff_getElem.1 he
    have:=hO j m xs zs s hj h3 h4
    rwa [FV hj]at this
   ·simp only[if_neg e];exact ih.all f m xs zs t zO h3 h4
theorem Zx (hR:XJ K n nz R)(hv:HE p){f m:Nat}{a:Nat→List Sr}{az:List Sr}(hf:f<p.length)(ha:Kf K R m a az)(hl:((m:Nat):Int)=(p.getD f Fn.zero).params) :
  Hz K (Kf K R (p.getD f Fn.zero).outs.length) (fun k=>ev p (n k) f (a k)) (ev p nz f az):=by
 have h:=(U8 hR hv (f+1) zO).all f m a az 0 zO ha hl
 simp only[Hs (show f<f+1 by omega)]at h
 exact h
end
end
def NU (f:Nat→Int):Nat→Int
 |0=>0
 |k+1=>NU f k+f k
theorem Kg {f g:Nat→Int}:∀K,(∀k,k<K→md (f k)=md (g k))→md (NU f K)=md (NU g K)
 |0,_=>rfl
 |K+1,h=>by
  show md (NU f K+f K)=md (NU g K+g K)
  rw[← DK,Kg K (fun k hk=>h k zO),h K zO,DK]
theorem Pp (A B:Int)(f g:Nat→Int):∀K,NU (fun k=>A*f k+B*g k) K=A*NU f K+B*NU g K
 |0=>by show(0:Int)=A*0+B*0;simp
 |K+1=>by
  show NU _ K+(A*f K+B*g K)=A*(NU f K+f K)+B*(NU g K+g K)
  rw[Pp A B f g K,Int.mul_add,Int.mul_add];omega
structure Rl (K:Nat)(c:Nat→Int)(x:Nat→Sr)(z:Sr):Prop where
 sz:Cb 2 z
 sx:∀k,k<K→Cb 2 (x k)
 v:∀k,k<K→(x k).getD 0 0=z.getD 0 0
 d:z.getD 1 0=md (NU (fun k=>c k*(x k).getD 1 0) K)
theorem Rl.op {K:Nat}{c:Nat→Int}{xa xb out:Nat→Sr}{za zb oz:Sr}{A B:Int}(ha:Rl K c xa za)(hb:Rl K c xb zb)(hz:Cb 2 oz)(hx:∀k,k<K→Cb 2 (out k))(hv:∀k,k<K→(out k).getD 0 0=oz.getD 0 0)
  (h1:oz.getD 1 0=md (A*za.getD 1 0+B*zb.getD 1 0)) (h2:∀k,k<K→(out k).getD 1 0=md (A*(xa k).getD 1 0+B*(xb k).getD 1 0)):Rl K c out oz:=by
 refine⟨hz,hx,hv,?_⟩
 rw[h1,ha.d,hb.d,← DK,ED,ED,DK,← Pp]
 refine Kg K fun k hk=>?_
 rw[h2 k hk,ED]
 congr 1
 rw[Int.mul_add,Int.mul_left_comm,Int.mul_left_comm B]
theorem M4 {a b:Sr}{k:Nat}(h:k<a.length):(DF a b).getD k 0=md (a.getD k 0+b.getD k 0):=C9 0 h
theorem Nz {a b:Sr}{k:Nat}(h:k<a.length):(EE a b).getD k 0=md (a.getD k 0-b.getD k 0):=C9 0 h
theorem M5 {a:Sr}{y:Int}{k:Nat}(h:k<a.length):(Ci a y).getD k 0=md (a.getD k 0*y):=C9 0 h
theorem KG {a b:Sr}(h:0<a.length):(C5 a b).getD 0 0=md (0+a.getD 0 0*b.getD 0 0):=C9 0 h
theorem U9 {a b:Sr}(h:1<a.length):(C5 a b).getD 1 0=md (md (0+a.getD 0 0*b.getD 1 0)+a.getD 1 0*b.getD 0 0):=C9 0 h
theorem NA {a b:Sr}(h:0<a.length):(BP a b).getD 0 0=md (a.getD 0 0*inv (b.getD 0 0)):=K4 h
theorem Ua {a b:Sr}(h:1<a.length):(BP a b).getD 1 0=md (md (a.getD 1 0-(BP a b).getD 0 0*b.getD 1 0)*inv (b.getD 0 0)):=K4 h
theorem Tx {n:Nat}{c:Int}(h:0<n):(cst n c).getD 0 0=c:=by
 obtain⟨n,rfl⟩:∃k,n=k+1:=⟨n-1,zO⟩
 unfold cst;rw[List.replicate_succ];rfl
theorem Ub (c:Int):(cst 2 c).getD 1 0=0:=rfl
theorem Rl.all (K:Nat)(c:Nat→Int):XJ K (fun _=>2) 2 (Rl K c) where
 zero:=fun x z h k hk=>by rw[h.v k hk]
 cst:=fun a ha=>⟨DM ha,fun _ _=>DM ha,fun _ _=>rfl,by
  have:∀K,NU (fun k=>c k*(Go.Proofs.YtbajepcpgncekaaGreat.cst 2 a).getD 1 0) K=0:=fun K=>by
   induction K with
   |zero=>rfl
   |succ K ih=>show NU _ K+c K*(Go.Proofs.YtbajepcpgncekaaGreat.cst 2 a).getD 1 0=0;rw[ih,Ub];simp
  rw[this,Ub];rfl⟩
 add:=fun x z y w hx hy=>Rl.op (A:=1) (B:=1) hx hy ⟨by rw[FT];exact hx.sz.1,H2 _ _⟩ (fun k hk=>⟨by rw[FT];exact(hx.sx k hk).1,H2 _ _⟩)
  (fun k hk=>by rw[M4 (by rw[(hx.sx k hk).1];decide),M4 (by rw[hx.sz.1];decide),hx.v k hk,hy.v k hk]) (by rw[M4 (by rw[hx.sz.1];decide),Int.one_mul,Int.one_mul]) (fun k hk=>by rw[M4 (by rw[(hx.sx k hk).1];decide),Int.one_mul,Int.one_mul])
 red:=fun x z y w hx hy=>Rl.op (A:=1) (B:=-1) hx hy ⟨by rw[H1];exact hx.sz.1,H3 _ _⟩ (fun k hk=>⟨by rw[H1];exact(hx.sx k hk).1,H3 _ _⟩)
  (fun k hk=>by rw[Nz (by rw[(hx.sx k hk).1];decide),Nz (by rw[hx.sz.1];decide),hx.v k hk,hy.v k hk]) (by rw[Nz (by rw[hx.sz.1];decide)];congr 1;omega) (fun k hk=>by rw[Nz (by rw[(hx.sx k hk).1];decide)];congr 1;omega)
 pro:=fun x z y w hx hy=>Rl.op (A:=w.getD 0 0) (B:=z.getD 0 0) hx hy ⟨by rw[FS];exact hx.sz.1,ES _ _⟩ (fun k hk=>⟨by rw[FS];exact(hx.sx k hk).1,ES _ _⟩)
  (fun k hk=>by rw[KG (by rw[(hx.sx k hk).1];decide),KG (by rw[hx.sz.1];decide),hx.v k hk,hy.v k hk])
  (by rw[U9 (by rw[hx.sz.1];decide),Mh,Int.zero_add,Int.add_comm,Int.mul_comm (z.getD 1 0)])
  (fun k hk=>by rw[U9 (by rw[(hx.sx k hk).1];decide),Mh,Int.zero_add,Int.add_comm,Int.mul_comm ((x k).getD 1 0),hx.v k hk,hy.v k hk])
 scl:=fun x z hx=>Rl.op (A:=1000002) (B:=0) hx hx ⟨by rw[FU];exact hx.sz.1,Ep _ _⟩ (fun k hk=>⟨by rw[FU];exact(hx.sx k hk).1,Ep _ _⟩)
  (fun k hk=>by rw[M5 (by rw[(hx.sx k hk).1];decide),M5 (by rw[hx.sz.1];decide),hx.v k hk]) (by rw[M5 (by rw[hx.sz.1];decide)];congr 1;omega) (fun k hk=>by rw[M5 (by rw[(hx.sx k hk).1];decide)];congr 1;omega)
 quo:=fun x z y w hx hy h0=>by
  have hq:∀k,k<K→(BP (x k) (y k)).getD 0 0=(BP z w).getD 0 0:=fun k hk=>by rw[NA (by rw[(hx.sx k hk).1];decide),NA (by rw[hx.sz.1];decide),hx.v k hk,hy.v k hk]
  have hf:∀a q b i:Int,md (md (a-q*b)*i)=md (i*a+(-(q*i))*b):=fun a q b i=>by
   rw[EC];congr 1
   rw[Int.sub_mul,Int.neg_mul,Int.mul_comm a i,Int.mul_assoc,Int.mul_assoc,Int.mul_comm b i];omega
  exact Rl.op (A:=inv (w.getD 0 0)) (B:=-((BP z w).getD 0 0*inv (w.getD 0 0))) hx hy ⟨by rw[DL];exact hx.sz.1,Eo _ _⟩ (fun k hk=>⟨by rw[DL];exact(hx.sx k hk).1,Eo _ _⟩) hq
   (by rw[Ua (by rw[hx.sz.1];decide),hf]) (fun k hk=>by rw[Ua (by rw[(hx.sx k hk).1];decide),hf,hq k hk,hy.v k hk])
structure XL (p:List Fn)(f pk:Int)(a b:List Int):Prop where
 dr:Li p false
 dn:Dn p
 len:1≤p.length∧p.length≤3
 fe:f=((p.length:Nat):Int)-1
 pk:0≤pk∧pk<(((p.getD f.toNat Fn.zero).outs.length:Nat):Int)
 la:((a.length:Nat):Int)=(p.getD f.toNat Fn.zero).params∧B2 a=true
 lb:((b.length:Nat):Int)=(p.getD f.toNat Fn.zero).params∧B2 b=true
theorem XM {p:List Fn}{f:Int}{a:Sr}(h:Jg p=true)(hf:0≤f∧f<((p.length:Nat):Int))(hl:((a.length:Nat):Int)=(p.getD f.toNat Fn.zero).params)(hn:B2 a=true):IO p f a=0:=by
 unfold IO G3
 rw[if_pos h,if_pos (by omega)]
 rw[if_pos]
 rw[z7,decide_eq_true_eq];exact⟨hl,hn⟩
theorem RK {p:List Fn}(hv:HE p){n f:Nat}{a:List Sr}(hf:f<p.length)(ha:C0 n a)(hl:((a.length:Nat):Int)=(p.getD f Fn.zero).params) :
  (∃x s,ev p n f a=.ok x s∧x.length=(p.getD f Fn.zero).outs.length∧C0 n x)∨ev p n f a=.err 6∨ev p n f a=.err 7:=by
 have h:=(U6 hv n (f+1) zO).all f a 0 zO ha hl zO
 rw[Hs (by omega)]at h
 have e:ev p n f a=D9 n (E4 p n f) (p.getD f Fn.zero).outs a 0:=rfl
 rw[← e]at h
 cases h2:ev p n f a with
 |err c =>
  rw[h2]at h;have h:c=6∨c=7:=h
  rcases h with rfl|rfl
  ·exact .inr<|.inl rfl
  ·exact .inr<|.inr rfl
 |ok xs s =>
  rw[h2]at h;have h:xs.length=_∧C0 n xs∧s≤3000:=h
  exact .inl ⟨xs,s,rfl,h.1,h.2.1⟩
def Cc (a d:List Int)(n:Nat):List Sr:=IF a.length fun i=>(cst n (a.getD i 0)).set 1 (d.getD i 0)
@[simp] theorem BK (a d:List Int)(n:Nat):(Cc a d n).length=a.length:=by simp[Cc]
theorem Ic {a d:List Int}{n k:Nat}(h:k<a.length):(Cc a d n).getD k []=(cst n (a.getD k 0)).set 1 (d.getD k 0):=C9 [] h
theorem Dt {a d:List Int}{n:Nat}(ha:B2 a=true)(hd:B2 d=true):C0 n (Cc a d n):=fun k hk=>by
 rw[BK]at hk
 rw[Ic hk]
 refine⟨by rw[z6,K8],?_⟩
 have h1:=DM (n:=n)<|Ce.2<|BY ha k
 unfold B2
 rw[zm]
 intro y hy
 rcases List.mem_or_eq_of_mem_set hy with hy|rfl
 ·have:=h1.2;unfold B2 at this;exact zm.1 this y hy
 ·exact Ce.2<|BY hd k
def Lj (p:List Fn)(f:Int)(a d:Sr):Int:=if G3 p f=0 then(if ((decide (((a.length:Nat):Int)=(p.getD f.toNat Fn.zero).params) && B2 a) && (decide (((d.length:Nat):Int)=(p.getD f.toNat Fn.zero).params) && B2 d))=true then 0 else 2)else G3 p f
theorem XN {p:List Fn}{f:Int}{a d:Sr}(h:Lj p f a d=0):Jg p=true∧(0≤f∧f<((p.length:Nat):Int))∧(((a.length:Nat):Int)=(p.getD f.toNat Fn.zero).params∧B2 a=true)∧((d.length:Nat):Int)=(p.getD f.toNat Fn.zero).params∧B2 d=true:=by
 unfold Lj at h
 split at h
 ·rename_i h1
  split at h
  ·rename_i h2
   simp only[z7,decide_eq_true_eq]at h2
   obtain⟨q1,q2,q3⟩:=Pj h1
   exact⟨q1,⟨q2,q3⟩,h2.1,h2.2⟩
  ·omega
 ·rename_i h1;exact absurd h h1
def GT (p:List Fn)(f:Nat)(a d:List Int):List Sr:=J6 p 2 f (Cc a d 2)
def MY (p:List Fn)(f:Nat)(a d:List Int):Int:=HR p 2 f (Cc a d 2)
theorem Ty {H:Array Obj}:Rd (AX rI) H (.slice none 0 0) []:=⟨[],.inl ⟨none,0,rfl,rfl,rfl⟩⟩
def Cs (n:Nat)(ps:List Int):Nat→List Int
 |0=>List.replicate n 0
 |j+1=>(Cs n ps j).set (ps.getD j 0).toNat (md ((Cs n ps j).getD (ps.getD j 0).toNat 0+1))
theorem IP (n:Nat)(ps:List Int):∀j,(Cs n ps j).length=n
 |0=>z5 ..
 |j+1=>by show(List.set _ _ _).length=n;rw[z6,IP n ps j]
theorem H7 (n:Nat)(ps:List Int):∀j,B2 (Cs n ps j)=true
 |0=>H5 n
 |j+1=>by
  have h:=H7 n ps j
  unfold B2 at h ⊢
  rw[zm]at h ⊢
  intro y hy
  rcases List.mem_or_eq_of_mem_set hy with hy|rfl
  ·exact h y hy
  ·exact Ce.2<|BU _
def Xh (p:List Fn)(f:Nat)(a:List Int)(i r:Nat):List Int:=IF i fun c=>((GT p f a (Cs a.length [((c:Nat):Int)] 1)).getD r []).getD 1 0
@[simp] theorem Pq (p:List Fn)(f:Nat)(a:List Int)(i r:Nat):(Xh p f a i r).length=i:=by simp[Xh]
def IQ (p:List Fn)(f:Nat)(a:List Int)(K i:Nat):List (List Int):=IF K (Xh p f a i)
@[simp] theorem Fw (p:List Fn)(f:Nat)(a:List Int)(K i:Nat):(IQ p f a K i).length=K:=by simp[IQ]
theorem VJ {p:List Fn}{f:Nat}{a:List Int}{K i r:Nat}(hr:r<K) :
  (FR r (IQ p f a K (i+1)) (IQ p f a K i)).set r ((FR r (IQ p f a K (i+1)) (IQ p f a K i)).getD r []++[((GT p f a (Cs a.length [((i:Nat):Int)] 1)).getD r []).getD 1 0])=FR (r+1) (IQ p f a K (i+1)) (IQ p f a K i):=by
 unfold IQ
 rw[O1 [] (by simp) (A7 _) (by simpa using hr),C9 [] hr,K1 (by simp) hr]
 congr 1
 exact (Ku i fun c=>((GT p f a<|Cs a.length [((c:Nat):Int)] 1).getD r []).getD 1 0).symm
theorem RM {p:List Fn}{f:Nat}{a:List Int}{K i r:Nat}(hr:r<K):((FR r (IQ p f a K (i+1)) (IQ p f a K i)).getD r []).length=i:=by
 unfold IQ
 rw[O1 [] (by simp) (A7 _) (by simpa using hr),C9 [] hr,Pq]
theorem VK (a d:List Int):(Cc a d 2).map (De 1)=FB a:=by
 refine VG (by rw[zg,BK];unfold FB;rw[zg]) fun k hk=>?_
 rw[zg,BK]at hk
 rw[BZ (d:=[]) (by rw[BK];exact hk),Ic hk]
 unfold FB
 rw[BZ (d:=0) hk]
 rfl
theorem VL (p:List Fn)(f:Nat)(a d:List Int):MY p f a d=HS p f a:=by
 unfold MY HS
 rw[← Tw p (A7 1) (show 1≤2 by decide),VK]
theorem Zy (p:List Fn)(f:Nat)(a:List Int)(K:Nat):IQ p f a K 0=List.replicate K []:=by
 refine VG (by simp) fun i hi=>?_
 rw[Fw]at hi
 unfold IQ
 rw[C9 [] hi,List.getD_eq_getElem?_getD,List.getElem?_replicate,if_pos hi];rfl
def eV (n k:Nat):List Int:=Cs n [((k:Nat):Int)] 1
theorem JL (n j:Nat):(List.replicate n (0:Int)).getD j 0=0:=by
 rw[List.getD_eq_getElem?_getD,List.getElem?_replicate];split <;> rfl
theorem VM {n k j:Nat}(hk:k<n):(eV n k).getD j 0=if k=j then 1 else 0:=by
 show((List.replicate n (0:Int)).set (((k:Nat):Int)).toNat (md ((List.replicate n (0:Int)).getD (((k:Nat):Int)).toNat 0+1))).getD j 0=_
 rw[Int.toNat_natCast,VH,z5,JL,JL]
 by_cases e:k=j
 ·subst e;rw[if_pos ⟨rfl,hk⟩,if_pos rfl];rfl
 ·rw[if_neg zO,if_neg e]
theorem VN (n k:Nat):B2 (eV n k)=true:=H7 _ _ _
def Id (a b:List Int)(k:Nat):Int:=md (sm k fun j=>a.getD j 0*b.getD j 0)
theorem Qb (a b:List Int)(k:Nat):md (Id a b k+md (a.getD k 0*b.getD k 0))=Id a b (k+1):=by
 unfold Id
 rw[DK];rfl
theorem RO {a d:List Int}{i:Nat}(h:i<a.length):((Cc a d 2).getD i []).getD 0 0=a.getD i 0:=by rw[Ic h];rfl
theorem Pr {a d:List Int}{i:Nat}(h:i<a.length):((Cc a d 2).getD i []).getD 1 0=d.getD i 0:=by rw[Ic h];rfl
theorem VO {p:List Fn}(hv:HE p){n f:Nat}{a:List Sr}(hf:f<p.length)(ha:C0 n a)(hl:((a.length:Nat):Int)=(p.getD f Fn.zero).params)(h0:HR p n f a=0):∃x t,ev p n f a=.ok x t∧x.length=(p.getD f Fn.zero).outs.length∧C0 n x:=by
 rcases RK hv hf ha hl with⟨x,s,h1,h2,h3⟩|h1|h1
 ·exact⟨x,s,h1,h2,h3⟩
 ·rw[JI h1]at h0;omega
 ·rw[JI h1]at h0;omega
theorem RQ {p:List Fn}{f:Nat}{a d:List Int}{K:Nat}{D:Nat→List Int}{c:Nat→Int}(hv:HE p)(hf:f<p.length)(hl:((a.length:Nat):Int)=(p.getD f Fn.zero).params)(hna:B2 a=true)(hnd:B2 d=true)
  (hD:∀k,k<K→B2 (D k)=true) (hc:∀i,i<a.length→d.getD i 0=md (NU (fun k=>c k*(D k).getD i 0) K)) (h0:HS p f a=0) {r:Nat} (hr:r<(p.getD f Fn.zero).outs.length) :
  ((GT p f a d).getD r []).getD 1 0=md (NU (fun k=>c k*((GT p f a (D k)).getD r []).getD 1 0) K):=by
 have h:=Zx (Rl.all K c) hv (m:=a.length) (a:=fun k=>Cc a (D k) 2) (az:=Cc a d 2) hf
  ⟨BK _ _ _,fun k _=>BK _ _ _,fun i hi=>⟨fun k=>(Cc a (D k) 2).getD i [],fun _ _=>rfl,
   ⟨Dt hna hnd i (by rw[BK];exact hi),fun k hk=>Dt hna (hD k hk) i (by rw[BK];exact hi),fun k _=>by rw[RO hi,RO hi],by
    rw[Pr hi,hc i hi]
    refine Kg K fun k _=>?_
    rw[Pr hi]⟩⟩⟩ hl
 have hdc:HR p 2 f (Cc a d 2)=0:=(VL p f a d).trans h0
 obtain⟨z,t,he,_,_⟩:=VO hv hf (Dt (n:=2) hna hnd) (by rw[BK];exact hl) hdc
 rw[he]at h
 obtain⟨x,h1,h2⟩:=h
 obtain⟨y,h3,h4⟩:=h2.2.2 r hr
 unfold GT
 rw[Ky he,h4.d]
 refine Kg K fun k hk=>?_
 rw[← h3 k hk,Ky (h1 k hk)]
structure aW (p:List Fn)(f:Nat)(a:List Int):Prop where
 v:HE p
 lt:f<p.length
 l:((a.length:Nat):Int)=(p.getD f Fn.zero).params
 n:B2 a=true
 z:HS p f a=0
theorem VP {N:Nat}{a b:Sr}(ha:Cb N a):EN N (D8 (DF a b)) (fun k=>D8 a k+D8 b k):=fun k hk=>by
 show md ((DF a b).getD k 0)=_
 rw[M4 (by rw[ha.1];exact hk),En];rfl
theorem Zz {N:Nat}{a:Sr}{y:Int}(ha:Cb N a):EN N (D8 (Ci a y)) (fun k=>y*D8 a k):=fun k hk=>by
 show md ((Ci a y).getD k 0)=_
 rw[M5 (by rw[ha.1];exact hk),En,Int.mul_comm];rfl
theorem EN.add {N:Nat}{f f' g g':Nat→Int}(hf:EN N f f')(hg:EN N g g'):EN N (fun k=>f k+g k) (fun k=>f' k+g' k):=fun k hk=>by rw[← DK,hf k hk,hg k hk,DK]
section
section str
variable {P:Program} {ops:Array Oper} {w0:World} {Q:Act→World→Prop} {os:List Oper} {ks:List Nat} {N:Nat} {ρ:Nat→Value} {w:World}
 {d:Nat} {ty:TypeId} {pos:String} {aft:Array Edge} {g:Option (Nat×Bool)} {t e:TypeId}
theorem Uc {α:Type}{E:Bo α}(hE:BS E){ys:List α}{b:Nat}{z u0 u1:Value}{x0 x1:Operand}(ht:P.underlying t=some (.slice e))(hi:TI P e 1 z b)(hz:z.cells=#[z])
  (hx0:Bn N ρ x0=u0) (hx1:Bn N ρ x1=u1) (hl:ys.length=2) (hels:els E w.heap [u0,u1] ys [])
  (hu:Up ops N ρ ⟨some d,.buildSlice t 2 #[(0,x0),(1,x1)],ty,pos,aft,g⟩)
  (h:∀v w1,AG w w1→w1.heap.size=w.heap.size+1→Fr (Bi E e) w.heap.size w1.heap.size w1.heap v ys→LW P ops w0 Q os ks (mk N (CA ρ d v)) w1) :
  LW P ops w0 Q (⟨some d,.buildSlice t 2 #[(0,x0),(1,x1)],ty,pos,aft,g⟩::os) (3::ks) (mk N ρ) w:=by
 have hc:=hels.cells1 hE
 have hr:=SW (P:=P) (w:=w) ht hi (hc u0 (by simp)).1 (hc u1 (by simp)).1 hz
 have hrun:(execOp (Bn N ρ) ⟨some d,.buildSlice t 2 #[(0,x0),(1,x1)],ty,pos,aft,g⟩).run P w=.ok (.value (.slice (some ⟨w.heap.size,0,none⟩) 2 2)) (w.alloc (.cells #[u0,u1] e)):=by
  simp only[execOp,zc,zf,zh,Sem.run_bind,hx0,hx1,hr,Result.andThen_ok,Sem.run_pure]
 refine IC rfl hu _ _ hrun (By _ _)<|h _ _ (By _ _) (by simp) ?_
 have hn:=Gg (e:=e) (w:=w) hE (us:=[u0,u1]) (xs:=ys) (F:=[]) (cur:=#[u0,u1]) hels (by simp[maxLen]) (by rw[hl];rfl) (by rw[hl];simp)
 rw[hl]at hn
 refine⟨_,hn,?_,fun c hc=>?_⟩
 ·rw[List.nodup_cons]
  exact⟨fun hm=>(by cases hm),zk⟩
 ·rcases ze.1 hc with rfl|hc
  ·exact⟨A7 _,by simp⟩
  ·cases hc
theorem VQ {x:Operand}{u:Value}(hx:Bn N ρ x=u)(hc:u.cells=#[u])(hu:Up ops N ρ ⟨some d,.box t x,ty,pos,aft,g⟩)
  (h:∀w1,AG w w1→w1.heap.size=w.heap.size+1→BX w1.heap w.heap.size [u]→LW P ops w0 Q os ks (mk N (CA ρ d (.pointer (some ⟨w.heap.size,0,none⟩)))) w1) :
  LW P ops w0 Q (⟨some d,.box t x,ty,pos,aft,g⟩::os) (3::ks) (mk N ρ) w:=by
 have hrun:(execOp (Bn N ρ) ⟨some d,.box t x,ty,pos,aft,g⟩).run P w=.ok (.value (.pointer (some ⟨w.heap.size,0,none⟩))) (w.alloc (.cells #[u] t)):=by
  simp[execOp,Instr.box,newVar,newRow,hx,hc]
 refine IC rfl hu _ _ hrun (By _ _)<|h _ (By _ _) (by simp) ⟨t,?_⟩
 have:=heap_alloc_new w (.cells #[u] t)
 simpa using this
end str
theorem XO {H:Array Obj}{a b:Int}(h0:-9223372036854775808≤a∧a≤9223372036854775807)(h1:-9223372036854775808≤b∧b≤9223372036854775807):els rI H [.int .i64 a,.int .i64 b] [a,b] [] :=
 ⟨[],[],rfl,⟨rfl,rfl,h0⟩,[],[],rfl,⟨rfl,rfl,h1⟩,rfl⟩
end
def dl (i:Nat)(j:Nat):Int:=if i=j then 1 else 0
structure Oj (m:Nat)(a:List Int)(X:List Sr):Prop where
 len:X.length=a.length
 ser:∀i,i<a.length→Cb m (X.getD i [])
 at0:∀i,i<a.length→(X.getD i []).getD 0 0=a.getD i 0
section
theorem NB {α:Type}{P:List α→Prop}(h0:P [])(h1:∀l c,P l→P (l++[c]))(l:List α):P l:=by
 have h:∀l:List α,P l.reverse:=fun l=>by
  induction l with
  |nil=>exact h0
  |cons c l ih=>rw[List.reverse_cons];exact h1 _ _ ih
 have:=h l.reverse
 rwa [List.reverse_reverse]at this
def EV (m:Nat)(A R:List Sr)(c:AD):Sr :=
 if c.op=1 then A.getD c.num.toNat []else if c.op=3 then DF (R.getD c.a.toNat []) (R.getD c.b.toNat [])else if c.op=4 then EE (R.getD c.a.toNat []) (R.getD c.b.toNat [])
 else if c.op=5 then C5 (R.getD c.a.toNat []) (R.getD c.b.toNat [])else if c.op=7 then Ci (R.getD c.a.toNat []) 1000002
 else if c.op=6 then BP (R.getD c.a.toNat []) (R.getD c.b.toNat [])else cst m c.num
def B5 (m:Nat)(A:List Sr)(cs:List AD):List Sr:=cs.foldl (fun R c=>R++[EV m A R c]) []
section
variable {m:Nat} {A:List Sr}
theorem G4 (cs:List AD)(c:AD):B5 m A (cs++[c])=B5 m A cs++[EV m A (B5 m A cs) c]:=by unfold B5;rw[List.foldl_append];rfl
@[simp] theorem BG (cs:List AD):(B5 m A cs).length=cs.length:=by
 induction cs using NB with
 |h0=>rfl
 |h1 l c ih=>rw[G4,z4,ih,z4];rfl
theorem KH (cs l:List AD){k:Nat}(hk:k<cs.length):(B5 m A (cs++l)).getD k []=(B5 m A cs).getD k []:=by
 induction l using NB with
 |h0=>rw[List.append_nil]
 |h1 l c ih=>rw[← List.append_assoc,G4,GM (by rw[BG,z4];omega),ih]
theorem M6 (cs:List AD)(c:AD):(B5 m A (cs++[c])).getD cs.length []=EV m A (B5 m A cs) c:=by rw[G4,GY (by rw[BG])]
end
def Es (ni k:Nat)(c:AD):Prop :=
 (c.op=1∧c.a=0∧c.b=0∧0≤c.num∧c.num<((ni:Nat):Int))∨(c.op=2∧c.a=0∧c.b=0∧0≤c.num∧c.num<1000003) ∨
 ((c.op=3∨c.op=4∨c.op=5∨c.op=6)∧(0≤c.a∧c.a<((k:Nat):Int))∧(0≤c.b∧c.b<((k:Nat):Int))∧c.num=0)∨(c.op=7∧(0≤c.a∧c.a<((k:Nat):Int))∧c.b=0∧c.num=0)
theorem Es.bin {ni k:Nat}{op a b:Int}(h:op=3∨op=4∨op=5∨op=6)(ha:0≤a∧a<((k:Nat):Int))(hb:0≤b∧b<((k:Nat):Int)):Es ni k ⟨op,a,b,0⟩:=.inr (.inr (.inl ⟨h,ha,hb,rfl⟩))
theorem Es.neg {ni k:Nat}{a:Int}(ha:0≤a∧a<((k:Nat):Int)):Es ni k ⟨7,a,0,0⟩:=.inr (.inr (.inr ⟨rfl,ha,rfl,rfl⟩))
structure Dg (m:Nat)(A:List Sr)(T:Tp):Prop where
 cl:T.code.length=T.vals.length
 ser:∀k,k<T.code.length→Cb m ((B5 m A T.code).getD k [])∧((B5 m A T.code).getD k []).getD 0 0=T.vals.getD k 0
 form:∀k,k<T.code.length→Es A.length k (T.code.getD k AD.zero)
 dv:∀k,k<T.code.length→(T.code.getD k AD.zero).op=6→T.at (T.code.getD k AD.zero).b≠0
 gd:∀k,k<T.grd.length→(0≤(T.grd.getD k I9.zero).reg∧(T.grd.getD k I9.zero).reg<((T.vals.length:Nat):Int))∧(T.grd.getD k I9.zero).z=decide (T.at (T.grd.getD k I9.zero).reg=0)
def TE (T T':Tp):Prop:=(∃l,T'.code=T.code++l)∧∃l,T'.vals=T.vals++l
theorem TE.refl (T:Tp):TE T T:=⟨⟨[],by simp⟩,[],by simp⟩
theorem TE.trans {T T' T'':Tp}(h:TE T T')(k:TE T' T''):TE T T'':=by
 obtain⟨⟨l,h1⟩,l2,h2⟩:=h
 obtain⟨⟨l3,h3⟩,l4,h4⟩:=k
 exact⟨⟨l++l3,by rw[h3,h1,List.append_assoc]⟩,l2++l4,by rw[h4,h2,List.append_assoc]⟩
theorem TE.put (T:Tp)(c:AD)(v:Int):TE T (T.put c v):=⟨⟨[c],rfl⟩,[v],rfl⟩
theorem TE.guard (T:Tp)(r:Int)(z:Bool):TE T (T.guard r z):=⟨⟨[],by simp[Tp.guard]⟩,[],by simp[Tp.guard]⟩
section
variable {m:Nat} {A:List Sr} {T T':Tp}
theorem TE.reg (h:TE T T'){k:Nat}(hk:k<T.code.length):(B5 m A T'.code).getD k []=(B5 m A T.code).getD k []:=by
 obtain⟨⟨l,h1⟩,_⟩:=h
 rw[h1,KH _ _ hk]
theorem TE.at (h:TE T T'){r:Int}(hr:0≤r∧r<((T.vals.length:Nat):Int)):T'.at r=T.at r:=by
 obtain⟨_,l,h1⟩:=h
 unfold Tp.at
 rw[h1,GM (by omega)]
theorem TE.len (h:TE T T'):T.code.length≤T'.code.length∧T.vals.length≤T'.vals.length:=by
 obtain⟨⟨l,h1⟩,l2,h2⟩:=h
 rw[h1,h2,z4,z4];omega
def MZ (m:Nat)(A:List Sr)(T:Tp)(r:Int)(z:Sr):Prop:=(0≤r∧r<((T.vals.length:Nat):Int))∧z=(B5 m A T.code).getD r.toNat []
def M7 (m:Nat)(A:List Sr)(n:Nat)(T:Tp)(rs:List Int)(zs:List Sr):Prop:=rs.length=n∧zs.length=n∧∀i,i<n→MZ m A T (rs.getD i 0) (zs.getD i [])
theorem MZ.mono {r:Int}{z:Sr}(hc:T.code.length=T.vals.length)(h:MZ m A T r z)(k:TE T T'):MZ m A T' r z:=by
 have:=k.len
 exact⟨by have:=h.1;omega,by rw[k.reg (by have:=h.1;omega)];exact h.2⟩
theorem M7.mono {n:Nat}{rs:List Int}{zs:List Sr}(hc:T.code.length=T.vals.length)(h:M7 m A n T rs zs)(k:TE T T'):M7 m A n T' rs zs:=⟨h.1,h.2.1,fun i hi=>(h.2.2 i hi).mono hc k⟩
theorem M7.snoc {n:Nat}{rs:List Int}{zs:List Sr}{r:Int}{z:Sr}(h:M7 m A n T rs zs)(h1:MZ m A T r z):M7 m A (n+1) T (rs++[r]) (zs++[z]):=by
 refine⟨by simp[h.1],by simp[h.2.1],fun i hi=>?_⟩
 by_cases e:i=n
 ·rw[GY (by rw[h.1];exact e),GY (by rw[h.2.1];exact e)];exact h1
 ·rw[GM (by rw[h.1];omega),GM (by rw[h.2.1];omega)];exact h.2.2 i zO
theorem MZ.at (hI:Dg m A T){r:Int}{z:Sr}(h:MZ m A T r z):Cb m z∧z.getD 0 0=T.at r:=by
 have:=hI.ser r.toNat (by rw[hI.cl];have:=h.1;omega)
 rw[h.2];exact this
def HA {α β:Type}(m:Nat)(A:List Sr)(T:Tp)(R:Tp→α→β→Prop)(r:Rs (α×Tp))(rz:Rs β):Prop:=match r with
 |.ok x t=>∃z,rz=.ok z t∧Dg m A x.2∧TE T x.2∧R x.2 x.1 z
 |.err c=>rz=.err c
theorem HA.bind {α β α' β':Type}{R:Tp→α→β→Prop}{R':Tp→α'→β'→Prop}{r:Rs (α×Tp)}{rz:Rs β}{g:α×Tp→Nat→Rs (α'×Tp)}{gz:β→Nat→Rs β'}(h:HA m A T R r rz)
  (hg:∀x T' z t,Dg m A T'→TE T T'→R T' x z→HA m A T' R' (g (x,T') t) (gz z t)):HA m A T R' (r.bind g) (rz.bind gz):=by
 cases r with
 |err c=>have h9:rz=.err c:=h;subst h9;exact rfl
 |ok x t =>
  obtain⟨z,h1,h2,h3,h4⟩:=h
  subst h1
  have h5:=hg x.1 x.2 z t h2 h3 h4
  rw[Rs.bind_ok,Rs.bind_ok]
  cases hr:g x t with
  |err c=>rw[hr]at h5;exact h5
  |ok y u =>
   rw[hr]at h5
   obtain⟨v,q1,q2,q3,q4⟩:=h5
   exact⟨v,q1,q2,h3.trans q3,q4⟩
theorem HA.ret {α β:Type}{R:Tp→α→β→Prop}{x:α}{z:β}{t:Nat}(hI:Dg m A T')(hE:TE T T')(h:R T' x z):HA m A T R (.ok (x,T') t) (.ok z t):=⟨z,rfl,hI,hE,h⟩
theorem Dg.put (h:Dg m A T){c:AD}{v:Int}(hs:Cb m (EV m A (B5 m A T.code) c))(hv:(EV m A (B5 m A T.code) c).getD 0 0=v)(hf:Es A.length T.code.length c)(hd:c.op=6→T.at c.b≠0):Dg m A (T.put c v):=by
 have hE:=TE.put T c v
 have hcl:=h.cl
 have key:∀k,k<(T.put c v).code.length→k<T.code.length∨k=T.code.length:=fun k hk=>by rw[Of]at hk;omega
 have cg:∀k,k<T.code.length→(T.put c v).code.getD k AD.zero=T.code.getD k AD.zero:=fun k hk=>GM hk
 have cn:(T.put c v).code.getD T.code.length AD.zero=c:=GY rfl
 refine⟨by rw[Of,Gp,hcl],fun k hk=>?_,fun k hk=>?_,fun k hk h6=>?_,fun k hk=>?_⟩
 ·rcases key k hk with hk|rfl
  ·rw[hE.reg hk,show(T.put c v).vals.getD k 0=T.vals.getD k 0 from GM (by omega)];exact h.ser k hk
  ·rw[show(B5 m A (T.put c v).code).getD T.code.length []=_ from M6 _ _,show(T.put c v).vals.getD T.code.length 0=v from GY hcl];exact⟨hs,hv⟩
 ·rcases key k hk with hk|rfl
  ·rw[cg k hk];exact h.form k hk
  ·rw[cn];exact hf
 ·rcases key k hk with hk|rfl
  ·rw[cg k hk]at h6 ⊢
   have:=h.form k hk
   unfold Es at this
   rw[hE.at (by omega)];exact h.dv k hk h6
  ·rw[cn]at h6 ⊢
   unfold Es at hf
   rw[hE.at (by omega)];exact hd h6
 ·have:=h.gd k hk
  rw[Rn]at hk ⊢
  refine⟨by rw[Gp];omega,?_⟩
  rw[hE.at this.1];exact this.2
theorem Dg.guard (h:Dg m A T){r:Int}(hr:0≤r∧r<((T.vals.length:Nat):Int)):Dg m A (T.guard r (decide (T.at r=0))):=by
 refine⟨h.cl,h.ser,h.form,h.dv,fun k hk=>?_⟩
 rw[Nt]at hk
 by_cases e:k<T.grd.length
 ·rw[show(T.guard r (decide (T.at r=0))).grd.getD k I9.zero=T.grd.getD k I9.zero from GM e];exact h.gd k e
 ·rw[show(T.guard r (decide (T.at r=0))).grd.getD k I9.zero=⟨r,decide (T.at r=0)⟩from GY (by omega)];exact⟨hr,rfl⟩
theorem HA.put {R:Tp→Int→Sr→Prop}{c:AD}{v:Int}{z:Sr}{t:Nat}(h:Dg m A T)(hz:EV m A (B5 m A T.code) c=z)(hs:Cb m z)(hv:z.getD 0 0=v)(hf:Es A.length T.code.length c)(hd:c.op=6→T.at c.b≠0)
  (hR:∀T' r z,MZ m A T' r z→R T' r z):HA m A T R (.ok (((T.vals.length:Nat):Int),T.put c v) t) (.ok z t):=by
 subst hz
 refine HA.ret (h.put hs hv hf hd) (TE.put T c v)<|hR _ _ _ ⟨by rw[Gp];omega,?_⟩
 rw[Int.toNat_natCast,← h.cl];exact(M6 _ _).symm
theorem XP (hm:1≤m)(h:Dg m A T){k:Int}{n t:Nat}{rs:List Int}{zs:List Sr}(hr:M7 m A n T rs zs)(hk:3≤k∧k≤7)(h1:k=7→1≤n)(h2:k≠7→2≤n):HA m A T (MZ m A) (Rb k rs t T) (K7 k zs t):=by
 have hn1:1≤n:=by by_cases e:k=7;exact h1 e;have:=h2 e;omega
 have ha:=hr.2.2 0 zO
 have hA:=ha.at h
 have hal:=hA.1.1
 have hac:=ha.1
 have hcl:=h.cl
 have fin:∀T' r z,MZ m A T' r z→MZ m A T' r z:=fun _ _ _ h=>h
 by_cases k7:k=7
 ·subst k7
  rw[Ib (U3 rfl),Rm rfl]
  refine HA.put h ?_ ⟨(FU _ _).trans hal,Ep _ _⟩ ?_ (Es.neg zO) (fun h6=>absurd (show(7:Int)=6 from h6) (by decide)) fin
  ·rw[ha.2];rfl
  ·rw[M5 zO,hA.2]
   show md (T.at (rs.getD 0 0)*1000002)=md (0-T.at (rs.getD 0 0))
   unfold md;omega
 have hb:=hr.2.2 1<|h2 k7
 have hB:=hb.at h
 have hbl:=hB.1.1
 have hbc:=hb.1
 by_cases k3:k=3
 ·subst k3
  rw[Ib (fun h=>h.1 rfl),Gn (by decide)]
  refine HA.put h ?_ ⟨(FT _ _).trans hal,H2 _ _⟩ ?_ (Es.bin (.inl rfl) zO zO) (fun h6=>absurd (show(3:Int)=6 from h6) (by decide)) fin
  ·rw[ha.2,hb.2];rfl
  ·rw[M4 zO,hA.2,hB.2];rfl
 by_cases k4:k=4
 ·subst k4
  rw[Ib (fun h=>h.2.1 rfl),Gn (by decide)]
  refine HA.put h ?_ ⟨(H1 _ _).trans hal,H3 _ _⟩ ?_ (Es.bin (.inr<|.inl rfl) zO zO) (fun h6=>absurd (show(4:Int)=6 from h6) (by decide)) fin
  ·rw[ha.2,hb.2];rfl
  ·rw[Nz zO,hA.2,hB.2];rfl
 by_cases k5:k=5
 ·subst k5
  rw[Ib (fun h=>h.2.2.1 rfl),Gn (by decide)]
  refine HA.put h ?_ ⟨(FS _ _).trans hal,ES _ _⟩ ?_ (Es.bin (.inr<|.inr<|.inl rfl) zO zO) (fun h6=>absurd (show(5:Int)=6 from h6) (by decide)) fin
  ·rw[ha.2,hb.2];rfl
  ·rw[KG zO,hA.2,hB.2,Int.zero_add];rfl
 have k6:k=6:=by omega
 subst k6
 by_cases hz:T.at (rs.getD 1 0)=0
 ·rw[Ph (by rw[Gn (by decide)];exact⟨by decide,by decide,by decide,by decide,hz⟩)]
  show K7 6 zs t=.err 6
  show(if (zs.getD 1 []).getD 0 0=0 then _ else _)=_
  rw[if_pos (by rw[hB.2];exact hz)]
 ·rw[Ib (by rw[Gn (by decide)];exact fun h9=>hz h9.2.2.2.2),Gn (by decide)]
  have e:K7 6 zs t=.ok (BP (zs.getD 0 []) (zs.getD 1 [])) t:=by
   show(if (zs.getD 1 []).getD 0 0=0 then _ else _)=_
   rw[if_neg (by rw[hB.2];exact hz)]
  rw[e]
  refine HA.put h ?_ ⟨(DL _ _).trans hal,Eo _ _⟩ ?_ (Es.bin (.inr<|.inr<|.inr rfl) zO zO) (fun _=>hz) fin
  ·rw[ha.2,hb.2];rfl
  ·rw[NA zO,hA.2,hB.2];rfl
end
structure ZA (m:Nat)(A:List Sr)(p:List Fn)(F:Nat)(G:Cg)(C:Ca):Prop where
 one:∀f j n T rs zs t,f<F→j<(p.getD f Fn.zero).outs.length→Dg m A T→M7 m A n T rs zs→((n:Nat):Int)=(p.getD f Fn.zero).params→HA m A T (MZ m A) (G.one f j rs t T) (C.one f j zs t)
 all:∀f n T rs zs t,f<F→Dg m A T→M7 m A n T rs zs→((n:Nat):Int)=(p.getD f Fn.zero).params→HA m A T (M7 m A (p.getD f Fn.zero).outs.length) (G.all f rs t T) (C.all f zs t)
section
variable {m:Nat} {A:List Sr} {p:List Fn}
theorem RR {G:Cg}{C:Ca}{env:List Int}{ez:List Sr}{n:Nat}:∀(l:List Ex),(∀e∈l,∀s T,Dg m A T→M7 m A n T env ez→HA m A T (MZ m A) (GF G e env s T) (Cf m C e ez s))→∀s T,Dg m A T→M7 m A n T env ez→HA m A T (M7 m A l.length) (Hw G l env s T) (D9 m C l ez s)
 |[],_,s,T,hI,he=>by
  rw[Hw,D9]
  exact HA.ret hI (TE.refl T) ⟨rfl,rfl,fun i hi=>absurd hi<|Nat.not_lt_zero i⟩
 |e::l,h,s,T,hI,he=>by
  rw[Hw,D9]
  refine (h e (by simp) s T hI he).bind fun x T1 z t h1 h2 h3=>?_
  refine (RR l (fun e' he'=>h e' (by simp[he'])) t T1 h1<|he.mono hI.cl h2).bind fun xs T2 zs u q1 q2 q3=>?_
  refine HA.ret q1 (TE.refl T2) ⟨by simp[q3.1],by simp[q3.2.1],fun i hi=>?_⟩
  cases i with
  |zero=>exact h3.mono h1.cl q2
  |succ i=>exact q3.2.2 i (by simpa using hi)
theorem RS {F f:Nat}{G:Cg}{C:Ca}(hC:ZA m A p F G C)(hf:f<F)(ho:(((p.getD f Fn.zero).outs.length:Nat):Int)=(p.getD f Fn.zero).params):∀(c:Nat)(rs:List Int)(zs:List Sr)(t:Nat)(T:Tp),Dg m A T→M7 m A (p.getD f Fn.zero).outs.length T rs zs →
  HA m A T (M7 m A (p.getD f Fn.zero).outs.length) (Ia (G.all f) c rs t T) (Hr (C.all f) c zs t)
 |0,rs,zs,t,T,hI,h=>HA.ret hI (TE.refl T) h
 |c+1,rs,zs,t,T,hI,h=>(RS hC hf ho c rs zs t T hI h).bind fun x T1 z u h1 h2 h3=>hC.all f _ T1 x z u hf h1 h3 ho
theorem RU (hm:1≤m){F:Nat}{G:Cg}{C:Ca}(hC:ZA m A p F G C):∀(z:Nat)(e:Ex),e.size≤z→∀(n:Nat)(env:List Int)(ez:List Sr)(s:Nat)(T:Tp),wf p ((F:Nat):Int) e ((n:Nat):Int)=true→Dg m A T→M7 m A n T env ez →
  HA m A T (MZ m A) (GF G e env s T) (Cf m C e ez s)
 |0,e,h,_,_,_,_,_,_,_,_=>by have:=Cn e;omega
 |z+1,e,h,n,env,ez,s,T,hw,hI,he=>by
  obtain⟨w1,w2,w3,w4,w5,w6,w7,w8⟩:=CN (CB hw)
  have hz:∀j,j<e.kids.length→(e.kids.getD j Ex.zero).size≤z:=fun j hj=>by
   have:=Cn e;have:=Ks hj;omega
  have hk:∀j,j<e.kids.length→¬(e.kind=9∧j=1)→∀t T',Dg m A T'→M7 m A n T' env ez→HA m A T' (MZ m A) (Oe G e.kids j env t T') (HQ m C e.kids j ez t):=fun j hj hn t T' h1 h2=>by
   rw[EU _ _ _ _ _ _ hj,Dj _ _ _ _ _ _ hj]
   exact RU hm hC z _ (hz j hj) n env ez t T' (Dz hw hj hn) h1 h2
  rw[Gm,Eu]
  by_cases hs3:3000≤s
  ·rw[if_pos hs3,if_pos hs3];exact rfl
  rw[if_neg hs3,if_neg hs3]
  by_cases k1:e.kind=1
  ·rw[if_pos k1,if_pos k1]
   have:=w8 k1
   exact HA.put hI rfl (DM<|Ce.2 this) (Tx hm) (.inr<|.inl ⟨rfl,rfl,rfl,this⟩) (fun h6=>absurd (show(2:Int)=6 from h6) (by decide)) fun _ _ _ h=>h
  rw[if_neg k1,if_neg k1]
  by_cases k2:e.kind=2
  ·rw[if_pos k2,if_pos k2]
   exact HA.ret hI (TE.refl T)<|he.2.2 _ (by have:=w2 k2;omega)
  rw[if_neg k2,if_neg k2]
  by_cases k8:e.kind=8
  ·rw[if_pos k8,if_pos k8]
   have h3:=w5 k8
   refine (hk 0 zO zO (s+1) T hI he).bind fun x T1 y t h1 h2 hx=>?_
   have hq:=(hx.at h1).2
   have he1:=he.mono hI.cl h2
   dsimp only
   have fin:∀ {r:Rs RI} {rz:Rs Sr} {b:Bool},HA m A (T1.guard x b) (MZ m A) r rz→HA m A T1 (MZ m A) r rz:=fun {r rz b} hh=>by
    cases r with
    |err c=>exact hh
    |ok v u=>obtain⟨q,a1,a2,a3,a4⟩:=hh;exact⟨q,a1,a2,(TE.guard T1 x b).trans a3,a4⟩
   have hg:=h1.guard hx.1
   by_cases h0:T1.at x=0
   ·rw[if_pos h0,if_pos (by rw[hq];exact h0)]
    rw[A5 h0]at hg
    exact fin<|hk 1 zO zO t _ hg<|he1.mono h1.cl<|TE.guard T1 x true
   ·rw[if_neg h0,if_neg (by rw[hq];exact h0)]
    rw[A6 h0]at hg
    exact fin<|hk 2 zO zO t _ hg<|he1.mono h1.cl<|TE.guard T1 x false
  rw[if_neg k8,if_neg k8]
  by_cases k9:e.kind=9
  ·rw[if_pos k9,if_pos k9]
   have h3:=w3 zO
   refine (hk 0 zO zO (s+1) T hI he).bind fun x T1 y t h1 h2 hx=>?_
   dsimp only
   rw[EU _ _ _ _ _ _ (show 1<e.kids.length by omega),Dj _ _ _ _ _ _ (show 1<e.kids.length by omega)]
   refine RU hm hC z _ (hz 1 zO) (n+1) (env++[x]) (ez++[y]) t T1 ?_ h1<|(he.mono hI.cl h2).snoc hx
   have:=Je hw zO k9
   rw[Int.natCast_add];exact this
  rw[if_neg k9,if_neg k9]
  have hc:=RR (G:=G) (C:=C) (env:=env) (ez:=ez) (n:=n) e.kids (fun x hx t T' h1 h2=>by
   obtain⟨j,hj,rfl⟩:=List.mem_iff_getElem.1 hx
   have:=hk j hj zO t T' h1 h2
   rw[EU _ _ _ _ _ _ hj,Dj _ _ _ _ _ _ hj,FV hj]at this
   exact this) (s+1) T hI he
  refine hc.bind fun xs T1 zs t h1 h2 hx=>?_
  dsimp only
  by_cases k10:e.kind=10
  ·rw[if_pos k10,if_pos k10]
   have h6:=w6<|.inl k10
   exact hC.one _ _ _ T1 xs zs t zO zO h1 hx (by exact h6.2.2.1)
  rw[if_neg k10,if_neg k10]
  by_cases k11:e.kind=11
  ·rw[if_pos k11,if_pos k11]
   have h6:=w6 (.inr k11);have h7:=w7 k11
   have hl:e.kids.length=(p.getD e.num.toNat Fn.zero).outs.length:=by omega
   rw[hl]at hx
   refine (RS hC (f:=e.num.toNat) zO h7.1 e.count.toNat xs zs t T1 h1 hx).bind fun ys T2 ws u q1 q2 q3=>?_
   exact HA.ret q1 (TE.refl T2)<|q3.2.2 _ zO
  rw[if_neg k11,if_neg k11]
  exact XP hm h1 hx zO (fun h7=>by rw[w4 h7];decide) fun h7=>by rw[w3 (by omega)];decide
theorem Ud (hm:1≤m)(hv:HE p):∀F,F≤p.length→ZA m A p F (JP p F) (E4 p m F)
 |0,_=>⟨fun f j n T rs zs t h=>by omega,fun f n T rs zs t h=>by omega⟩
 |F+1,hF=>by
  have ih:=Ud hm hv F zO
  have hO:∀j n T rs zs t,j<(p.getD F Fn.zero).outs.length→Dg m A T→M7 m A n T rs zs→((n:Nat):Int)=(p.getD F Fn.zero).params→HA m A T (MZ m A) (GF (JP p F) ((p.getD F Fn.zero).outs.getD j Ex.zero) rs t T) (Cf m (E4 p m F) ((p.getD F Fn.zero).outs.getD j Ex.zero) zs t):=fun j n T rs zs t h2 h1 h3 h4 =>
   RU hm ih _ _ (A7 _) n rs zs t T (by rw[h4];exact hv.wf F zO j h2) h1 h3
  refine⟨fun f j n T rs zs t h1 h2 h0 h3 h4=>?_,fun f n T rs zs t h1 h0 h3 h4=>?_⟩
  ·show HA m A T _ (if f=F then _ else _) (if f=F then _ else _)
   by_cases e:f=F
   ·subst e;rw[if_pos rfl,if_pos rfl];exact hO j n T rs zs t h2 h0 h3 h4
   ·rw[if_neg e,if_neg e];exact ih.one f j n T rs zs t zO h2 h0 h3 h4
  ·show HA m A T _ (if f=F then _ else _) (if f=F then _ else _)
   by_cases e:f=F
   ·subst e;rw[if_pos rfl,if_pos rfl]
    refine RR (n:=n) _ (fun e he s T' h5 h6=>?_) t T h0 h3
    obtain⟨j,hj,rfl⟩:=List.mem_iff_getElem.1 he
    have:=hO j n T' rs zs s hj h5 h6 h4
    rwa [FV hj]at this
   ·rw[if_neg e,if_neg e];exact ih.all f n T rs zs t zO h0 h3 h4
theorem Ue {a:List Int}(hn:B2 a=true)(hA:Oj m a A):∀k,k≤a.length→Dg m A (IL a k)
 |0,_=>⟨rfl,fun k hk=>absurd hk (Nat.not_lt_zero k),fun k hk=>absurd hk (Nat.not_lt_zero k),fun k hk=>absurd hk (Nat.not_lt_zero k),fun k hk=>absurd hk (Nat.not_lt_zero k)⟩
 |k+1,h=>by
  have e:EV m A (B5 m A (IL a k).code) ⟨1,0,0,((k:Nat):Int)⟩=A.getD k []:=by
   show A.getD (((k:Nat):Int)).toNat []=_
   rw[Int.toNat_natCast]
  refine (Ue hn hA k zO).put ?_ ?_ (.inl ⟨rfl,rfl,rfl,Int.natCast_nonneg k,by rw[hA.len];exact Int.ofNat_lt.2 h⟩) fun h6=>absurd (show(1:Int)=6 from h6) (by decide)
  ·rw[e];exact hA.ser k h
  ·rw[e];exact hA.at0 k h
theorem XQ {a:List Int}(hA:Oj m a A):M7 m A a.length (IL a a.length) (GG a.length) A:=by
 have hr:∀k,k≤a.length→∀j,j<k→(B5 m A (IL a k).code).getD j []=A.getD j []:=fun k=>by
  induction k with
  |zero=>exact fun _ j hj=>absurd hj (Nat.not_lt_zero j)
  |succ k ih =>
   intro hk j hj
   show(B5 m A ((IL a k).code++[_])).getD j []=_
   rw[G4]
   by_cases e:j=k
   ·rw[GY (by rw[BG,Mx];exact e),e]
    show A.getD (((k:Nat):Int)).toNat []=_
    rw[Int.toNat_natCast]
   ·rw[GM (by rw[BG,Mx];omega)];exact ih zO j zO
 refine⟨G0 _,hA.len,fun i hi=>?_⟩
 rw[Nu hi]
 exact⟨by rw[Jn];omega,by rw[Int.toNat_natCast,hr _ (A7 _) i hi]⟩
theorem RV {a:List Int}{f:Nat}(hm:1≤m)(hv:HE p)(hf:f<p.length)(hn:B2 a=true)(hA:Oj m a A)(hl:((a.length:Nat):Int)=(p.getD f Fn.zero).params) :
  HA m A (IL a a.length) (M7 m A (p.getD f Fn.zero).outs.length) (Q8 p f a) (ev p m f A):=by
 have h:=(Ud (A:=A) hm hv (f+1) zO).all f a.length (IL a a.length) (GG a.length) A 0 zO (Ue hn hA _<|A7 _) (XQ hA) hl
 rw[Mv (show f<f+1 by omega),Hs (show f<f+1 by omega)]at h
 exact h
theorem NC {a:List Int}{f:Nat}(hm:1≤m)(hv:HE p)(hf:f<p.length)(hn:B2 a=true)(hA:Oj m a A)(hl:((a.length:Nat):Int)=(p.getD f Fn.zero).params){xs:List Int}{T:Tp}{s:Nat}{c:Int}(h:AH (Q8 p f a) (xs,T) s c):HR p m f A=c:=by
 have hT:=RV hm hv hf hn hA hl
 cases hr:Q8 p f a with
 |err d =>
  rw[hr]at h hT
  have h9:ev p m f A=.err d:=hT
  rw[JI h9];exact h.1.symm
 |ok x t =>
  rw[hr]at h hT
  obtain⟨z,h1,_⟩:=hT
  rw[Nl h1];exact h.2.2.symm
theorem RW {a:List Int}{f:Nat}(hm:1≤m)(hv:HE p)(hf:f<p.length)(hn:B2 a=true)(hA:Oj m a A)(hl:((a.length:Nat):Int)=(p.getD f Fn.zero).params){xs:List Int}{T:Tp}{s:Nat}{c:Int}(h:AH (Q8 p f a) (xs,T) s c)(hc:c=0) :
  Dg m A T∧J6 p m f A=xs.map fun r=>(B5 m A T.code).getD r.toNat []:=by
 have hT:=RV hm hv hf hn hA hl
 subst hc
 have hr:=h.ok
 rw[hr]at hT
 obtain⟨z,h1,h2,h3,h4⟩:=hT
 refine⟨h2,?_⟩
 rw[Ky h1]
 refine VG (by rw[h4.2.1,zg,h4.1]) fun i hi=>?_
 rw[h4.2.1]at hi
 rw[BZ (d:=0) (by rw[h4.1];exact hi)]
 exact (h4.2.2 i hi).2
end
end
section
def KI (m:Nat)(A:List Sr)(cs:List AD)(k:Nat):Prop:=∀j,j<k→(cs.getD j AD.zero).op=6→((B5 m A (cs.take j)).getD (cs.getD j AD.zero).b.toNat []).getD 0 0≠0
section
variable {m k:Nat} {A R:List Sr} {cs:List AD} {c:AD}
theorem Dh (hk:k<cs.length):B5 m A (cs.take (k+1))=B5 m A (cs.take k)++[EV m A (B5 m A (cs.take k)) (cs.getD k AD.zero)]:=by
 rw[CF AD.zero hk,G4]
theorem Mz (h:c.op=1):EV m A R c=A.getD c.num.toNat []:=if_pos h
theorem KJ (h:c.op=3):EV m A R c=DF (R.getD c.a.toNat []) (R.getD c.b.toNat []):=by unfold EV;rw[if_neg zO,if_pos h]
theorem KK (h:c.op=4):EV m A R c=EE (R.getD c.a.toNat []) (R.getD c.b.toNat []):=by unfold EV;rw[if_neg zO,if_neg zO,if_pos h]
theorem KL (h:c.op=5):EV m A R c=C5 (R.getD c.a.toNat []) (R.getD c.b.toNat []):=by unfold EV;rw[if_neg zO,if_neg zO,if_neg zO,if_pos h]
theorem KM (h:c.op=7):EV m A R c=Ci (R.getD c.a.toNat []) 1000002:=by unfold EV;rw[if_neg zO,if_neg zO,if_neg zO,if_neg zO,if_pos h]
theorem KN (h:c.op=6):EV m A R c=BP (R.getD c.a.toNat []) (R.getD c.b.toNat []):=by unfold EV;rw[if_neg zO,if_neg zO,if_neg zO,if_neg zO,if_neg zO,if_pos h]
theorem KO (h:c.op≠1∧c.op≠3∧c.op≠4∧c.op≠5∧c.op≠7∧c.op≠6):EV m A R c=cst m c.num:=by
 unfold EV;rw[if_neg h.1,if_neg h.2.1,if_neg h.2.2.1,if_neg h.2.2.2.1,if_neg h.2.2.2.2.1,if_neg h.2.2.2.2.2]
theorem RY (hA:C0 m A)(hR:C0 m R)(hl:R.length=k)(h:Es A.length k c):Cb m (EV m A R c):=by
 have hg:∀x:Int,0≤x→x<((k:Nat):Int)→Cb m (R.getD x.toNat []):=fun x h0 h1=>hR _ zO
 rcases h with⟨h1,_,_,h2,h3⟩|⟨h1,_,_,h2,h3⟩|⟨h1,h2,h3,_⟩|⟨h1,h2,_⟩
 ·rw[Mz h1];exact hA _ zO
 ·rw[KO (by omega)];exact DM (Ce.2 ⟨h2,h3⟩)
 ·have ha:=hg c.a h2.1 h2.2
  rcases h1 with h1|h1|h1|h1
  ·rw[KJ h1];exact FY ha
  ·rw[KK h1];exact Kv ha
  ·rw[KL h1];exact FZ ha
  ·rw[KN h1];exact ET ha
 ·rw[KM h1];exact Kw (hg c.a h2.1 h2.2)
theorem Tz (h:C0 m (B5 m A (cs.take k)))(hA:C0 m A)(hf:Es A.length k (cs.getD k AD.zero))(hk:k<cs.length):C0 m (B5 m A (cs.take (k+1))):=by
 rw[Dh hk]
 exact C0.snoc h<|RY hA h (by rw[BG,List.length_take];omega) hf
theorem VR:KI m A cs 0:=fun j hj=>absurd hj (Nat.not_lt_zero j)
theorem TA (h:KI m A cs k)(hk:(cs.getD k AD.zero).op≠6):KI m A cs (k+1):=fun j hj h6=>by
 by_cases e:j=k
 ·subst e;exact absurd h6 hk
 ·exact h j zO h6
theorem TB (h:KI m A cs k)(hk:((B5 m A (cs.take k)).getD (cs.getD k AD.zero).b.toNat []).getD 0 0≠0):KI m A cs (k+1):=fun j hj h6=>by
 by_cases e:j=k
 ·subst e;exact hk
 ·exact h j zO h6
theorem RZ {n:Nat}(hk:k<n)(h6:(cs.getD k AD.zero).op=6)(hz:((B5 m A (cs.take k)).getD (cs.getD k AD.zero).b.toNat []).getD 0 0=0):¬KI m A cs n:=fun h=>h k hk h6 hz
end
theorem Dg.nz {m:Nat}{A:List Sr}{T:Tp}(h:Dg m A T):KI m A T.code T.code.length:=fun j hj h6=>by
 have hf:=h.form j hj
 have hd:=h.dv j hj h6
 unfold Es at hf
 have hb:(T.code.getD j AD.zero).b.toNat<j:=by omega
 have hs:=(h.ser (T.code.getD j AD.zero).b.toNat zO).2
 have e:(B5 m A (T.code.take j)).getD (T.code.getD j AD.zero).b.toNat []=(B5 m A T.code).getD (T.code.getD j AD.zero).b.toNat []:=by
  have h9:=KH (m:=m) (A:=A) (T.code.take j) (T.code.drop j) (k:=(T.code.getD j AD.zero).b.toNat) (by rw[List.length_take];omega)
  rw[List.take_append_drop]at h9
  exact h9.symm
 rw[e,hs]
 exact hd
section io
variable {ni k:Nat} {c:AD}
theorem Es.i1 (h:Es ni k c)(h1:c.op=1):(0≤c.num∧c.num<((ni:Nat):Int)):=by unfold Es at h;omega
theorem Es.i2 (h:Es ni k c)(h1:3≤c.op∧c.op≤6):(0≤c.a∧c.a<((k:Nat):Int))∧(0≤c.b∧c.b<((k:Nat):Int)):=by unfold Es at h;omega
theorem Es.i7 (h:Es ni k c)(h1:c.op=7):(0≤c.a∧c.a<((k:Nat):Int)):=by unfold Es at h;omega
end io
theorem MA {S:List Nat}{H:Array Obj}{cs:List Value}{x:AD}(h:RN S No H cs x):cs=Z8 x∧R9 x:=by
 obtain⟨F,h,_⟩:=h
 exact⟨h.1,h.2.1⟩
theorem VS {S:List Nat}{H:Array Obj}{cs:List Value}{x:I9}(h:RN S Np H cs x):cs=Z9 x∧Bt x.reg:=by
 obtain⟨F,h,_⟩:=h
 exact⟨h.1,h.2.1⟩
def VT (m:Nat)(A:List Sr)(cs:List AD)(c:Int):Prop:=(c=0∧KI m A cs cs.length)∨(c=6∧¬KI m A cs cs.length)
end
section
def EF (B:List Sr)(r:Int)(s:Sr):List Sr:=B.set r.toNat (DF (B.getD r.toNat []) s)
def M8 (cs:List AD)(R:List Sr)(k:Nat)(B:List Sr):List Sr :=
 if (cs.getD k AD.zero).op=3 then EF (EF B (cs.getD k AD.zero).a (B.getD k [])) (cs.getD k AD.zero).b (B.getD k [])
 else if (cs.getD k AD.zero).op=4 then EF (EF B (cs.getD k AD.zero).a (B.getD k [])) (cs.getD k AD.zero).b (Ci (B.getD k []) 1000002)
 else if (cs.getD k AD.zero).op=5 then EF (EF B (cs.getD k AD.zero).a (C5 (B.getD k []) (R.getD (cs.getD k AD.zero).b.toNat []))) (cs.getD k AD.zero).b (C5 (B.getD k []) (R.getD (cs.getD k AD.zero).a.toNat []))
 else if (cs.getD k AD.zero).op=6 then EF (EF B (cs.getD k AD.zero).a (BP (B.getD k []) (R.getD (cs.getD k AD.zero).b.toNat []))) (cs.getD k AD.zero).b (Ci (C5 (BP (B.getD k []) (R.getD (cs.getD k AD.zero).b.toNat [])) (R.getD k [])) 1000002)
 else if (cs.getD k AD.zero).op=7 then EF B (cs.getD k AD.zero).a (Ci (B.getD k []) 1000002)else B
def Qj (cs:List AD)(R:List Sr):Nat→List Sr→List Sr
 |0,B=>B
 |k+1,B=>Qj cs R k (M8 cs R k B)
def Lk (os:List Int)(ws:List Int):Nat→List Sr→List Sr
 |0,B=>B
 |k+1,B=>(Lk os ws k B).set (os.getD k 0).toNat (((Lk os ws k B).getD (os.getD k 0).toNat []).set 0 (md (((Lk os ws k B).getD (os.getD k 0).toNat []).getD 0 0+ws.getD k 0)))
def IR (R:List Sr):List Sr:=R.map fun s=>List.replicate s.length 0
def IS (cs:List AD)(R:List Sr)(os ws:List Int):List Sr:=Qj cs R cs.length (Lk os ws os.length (IR R))
section
variable {m:Nat} {cs:List AD} {R B:List Sr} {os ws:List Int}
theorem Gr (h:C0 m R):C0 m (IR R):=fun k hk=>by
 have hk':k<R.length:=by unfold IR at hk;simpa using hk
 have e:(IR R).getD k []=List.replicate (R.getD k []).length 0:=by unfold IR;simp[List.getD_eq_getElem?_getD,List.getElem?_map,hk']
 rw[e]
 exact⟨by rw[z5];exact(h k hk').1,H5 _⟩
@[simp] theorem CO:(IR R).length=R.length:=by simp[IR]
@[simp] theorem DQ (k:Nat):(Lk os ws k B).length=B.length:=by
 induction k with
 |zero=>rfl
 |succ k ih=>show((Lk os ws k B).set _ _).length=_;rw[z6,ih]
theorem C0.set {k:Nat}{s:Sr}(h:C0 m B)(hs:Cb m s):C0 m (B.set k s):=fun j hj=>by
 rw[z6]at hj
 by_cases e:j=k
 ·rw[e,Dk _ _ _ _ _ zO,if_pos rfl];exact hs
 ·rw[show(B.set k s).getD j []=B.getD j []from by rw[List.getD_eq_getElem?_getD,List.getElem?_set_ne (fun h=>e h.symm),← List.getD_eq_getElem?_getD]];exact h j hj
theorem Jq {s:Sr}{y:Int}(h:B2 s=true)(hy:0≤y∧y<1000003):B2 (s.set 0 y)=true:=by
 cases s with
 |nil=>rfl
 |cons x s =>
  rw[List.set_cons_zero]
  unfold B2 at h ⊢
  rw[List.all_cons]at h ⊢
  have:=Bool.and_eq_true_iff.1 h
  rw[this.2,Bool.and_true]
  exact Ce.2 hy
theorem HB (h:C0 m B)(ho:∀k,k<os.length→(os.getD k 0).toNat<B.length):∀k,k≤os.length→C0 m (Lk os ws k B)
 |0,_=>h
 |k+1,hk=>by
  have ih:=HB h ho k zO
  have h9:=ih (os.getD k 0).toNat (by rw[DQ];exact ho k zO)
  exact ih.set ⟨by rw[z6];exact h9.1,Jq h9.2<|BU _⟩
@[simp] theorem BL {r:Int}{s:Sr}:(EF B r s).length=B.length:=by unfold EF;rw[z6]
theorem CP {r:Int}{s:Sr}(h:C0 m B)(hr:r.toNat<B.length):C0 m (EF B r s):=h.set (FY (h _ hr))
theorem Kh (k:Nat):(M8 cs R k B).length=B.length:=by
 unfold M8
 split
 ·rw[BL,BL]
 ·split
  ·rw[BL,BL]
  ·split
   ·rw[BL,BL]
   ·split
    ·rw[BL,BL]
    ·split
     ·rw[BL]
     ·rfl
theorem Gs {ni k:Nat}(h:C0 m B)(hk:k≤B.length)(hf:Es ni k (cs.getD k AD.zero)):C0 m (M8 cs R k B):=by
 have h2:=fun h9=>hf.i2 h9
 have h7:=fun h9=>hf.i7 h9
 unfold M8
 split
 ·have:=h2 (by omega);exact CP (CP h zO) (by rw[BL];omega)
 ·split
  ·have:=h2 (by omega);exact CP (CP h zO) (by rw[BL];omega)
  ·split
   ·have:=h2 (by omega);exact CP (CP h zO) (by rw[BL];omega)
   ·split
    ·have:=h2 (by omega);exact CP (CP h zO) (by rw[BL];omega)
    ·split
     ·have:=h7 (by omega);exact CP h zO
     ·exact h
theorem Ps:∀(n:Nat)(B:List Sr),(Qj cs R n B).length=B.length
 |0,_=>rfl
 |n+1,B=>by show(Qj cs R n _).length=_;rw[Ps n,Kh]
theorem Pt {ni:Nat}(hf:∀k,k<cs.length→Es ni k (cs.getD k AD.zero)):∀(n:Nat)(B:List Sr),n≤cs.length→n≤B.length→C0 m B→C0 m (Qj cs R n B)
 |0,_,_,_,h=>h
 |n+1,B,hn,hb,h=>Pt hf n _ zO (by rw[Kh];omega) (Gs h zO (hf n zO))
theorem ND {k:Nat}(h:(cs.getD k AD.zero).op=3):M8 cs R k B=EF (EF B (cs.getD k AD.zero).a (B.getD k [])) (cs.getD k AD.zero).b (B.getD k []):=if_pos h
theorem NE {k:Nat}(h:(cs.getD k AD.zero).op=4):M8 cs R k B=EF (EF B (cs.getD k AD.zero).a (B.getD k [])) (cs.getD k AD.zero).b (Ci (B.getD k []) 1000002):=by unfold M8;rw[if_neg zO,if_pos h]
theorem NF {k:Nat}(h:(cs.getD k AD.zero).op=5):M8 cs R k B=EF (EF B (cs.getD k AD.zero).a (C5 (B.getD k []) (R.getD (cs.getD k AD.zero).b.toNat []))) (cs.getD k AD.zero).b (C5 (B.getD k []) (R.getD (cs.getD k AD.zero).a.toNat [])):=by unfold M8;rw[if_neg zO,if_neg zO,if_pos h]
theorem NG {k:Nat}(h:(cs.getD k AD.zero).op=6):M8 cs R k B=EF (EF B (cs.getD k AD.zero).a (BP (B.getD k []) (R.getD (cs.getD k AD.zero).b.toNat []))) (cs.getD k AD.zero).b (Ci (C5 (BP (B.getD k []) (R.getD (cs.getD k AD.zero).b.toNat [])) (R.getD k [])) 1000002):=by
 unfold M8;rw[if_neg zO,if_neg zO,if_neg zO,if_pos h]
theorem NH {k:Nat}(h:(cs.getD k AD.zero).op=7):M8 cs R k B=EF B (cs.getD k AD.zero).a (Ci (B.getD k []) 1000002):=by unfold M8;rw[if_neg zO,if_neg zO,if_neg zO,if_neg zO,if_pos h]
theorem NI {k:Nat}(h:(cs.getD k AD.zero).op<3∨7<(cs.getD k AD.zero).op):M8 cs R k B=B:=by unfold M8;rw[if_neg zO,if_neg zO,if_neg zO,if_neg zO,if_neg (by omega)]
theorem G5 {n k:Nat}{D B':List Sr}(h:Qj cs R n B=D)(hn:n=k+1)(hi:M8 cs R k B=B'):Qj cs R k B'=D:=by
 subst hn
 rw[← hi];exact h
end
theorem MB {e:TypeId}{H:Array Obj}{v:Value}{us:List Value}{F:List Nat}(h:Bi rV e H v us F)(hl:0<us.length):∃g cap,F=[g]∧v=.slice (some ⟨g,0,none⟩) us.length cap∧∀k,k<us.length→GE H (Ax v k 1)=some (us.getD k undef):=by
 rcases h with⟨_,rfl,_⟩|⟨vs,g,cap,cur,F',hels,rfl,hg,r1,r2,r3,r4,rfl⟩
 ·simp at hl
 ·obtain⟨rfl,rfl⟩:=Fq hels
  refine⟨g,cap,rfl,rfl,fun k hk=>?_⟩
  have hu:vs[k]? = some (vs.getD k undef):=by simp[List.getD_eq_getElem?_getD,hk]
  rw[EB]
  simp only[GE,BM,hg,Nat.zero_add]
  rw[← r4,List.getElem?_take,if_pos hk]at hu
  rw[r4]at hu
  simpa using hu
section
variable {e:TypeId} {B:Nat} {w w':World} {v:Value} {xs:List (List Int)} {us:List Value} {F:List Nat}
theorem GR.getF {S:List Nat}{H:Array Obj}(h:GR e S B H v xs us F){k:Nat}(hk:k<xs.length):∃u,GE H (Ax v k 1)=some u∧RN (S++F) (AX rI) H u (xs.getD k []):=by
 obtain⟨g,cap,_,_,h3⟩:=MB h.own (by rw[h.len];omega)
 exact⟨_,h3 k (by rw[h.len];exact hk),h.els k hk⟩
theorem GR.ofFr {S:List Nat}{e1:TypeId}{U:Nat}{H:Array Obj}(h:Fr (Bi (Bi rI e1) e) B U H v xs)(hS:∀b∈S,b<B):∃us F,GR e S B H v xs us F∧∀b∈F,b<U:=by
 obtain⟨F,h1,h2,h3⟩:=h
 rcases h1 with⟨rfl,rfl,rfl⟩|⟨us,g,cap,cur,F',hels,rfl,hg,r1,r2,r3,r4,rfl⟩
 ·exact⟨[],[],⟨.inl ⟨rfl,rfl,rfl⟩,zk,(fun b hb=>absurd hb z2),rfl,(fun k hk=>absurd hk (Nat.not_lt_zero k))⟩,(fun b hb=>absurd hb z2)⟩
 ·have hl:=hels.length
  have hn:=List.nodup_cons.1 h2
  refine⟨us,[g],⟨.inr ⟨us,g,cap,cur,[],Kr (hels.cells1 o1),by rw[hl],hg,zO,r2,r3,by rw[hl];exact r4,rfl⟩,by simp,fun b hb=>?_,hl,fun k hk=>?_⟩,fun b hb=>?_⟩
  ·have:=h3 b (by rw[A9 hb];exact z0 ..);omega
  ·obtain⟨u,G,hu,q1,q2,q3,_⟩:=hels.at_ (k:=k) [] hk hn.2
   have e1:us.getD k undef=u:=by simp[List.getD_eq_getElem?_getD,hu]
   rw[e1]
   exact⟨G,q1.rd id,fun b hb hm=>by
    have hb':=q3 b hb
    rcases zi.1 hm with hm|hm
    ·have h8:=hS b hm
     have h9:=(h3 b<|z3 _ hb').1
     omega
    ·rw[A9 hm]at hb'
     exact hn.1 hb'⟩
  ·exact (h3 b (by rw[A9 hb];exact z0 ..)).2
end
section ops
variable {P:Program} {ops:Array Oper} {w0:World} {Q:Act→World→Prop} {os:List Oper} {ks:List Nat} {N:Nat} {ρ:Nat→Value} {w:World}
 {d:Nat} {ty:TypeId} {pos:String} {aft:Array Edge} {g:Option (Nat×Bool)} {t e:TypeId} {z:Value} {b:Nat}
theorem S0 {S:List Nat}{st:TypeId}{x y:Operand}{v u:Value}{xs:List (List Int)}{r:List Int}{us:List Value}{F:List Nat}{B j:Nat}(hst:(P.info? st).map (·.size)=some 1)(hx:Bn N ρ x=Ax v j 1)(hy:Bn N ρ y=u)
  (hv:GR e S B w.heap v xs us F) (hr:RN (S++F) (AX rI) w.heap u r) (hj:j<xs.length) (hu:Up ops N ρ ⟨none,.store st x y,ty,pos,aft,g⟩)
  (h:∀w1,As F w w1→w1.heap.size=w.heap.size→GR e S B w1.heap v (xs.set j r) (us.set j u) F→LW P ops w0 Q os ks (mk N ρ) w1) :
  LW P ops w0 Q (⟨none,.store st x y,ty,pos,aft,g⟩::os) (4::ks) (mk N ρ) w:=by
 obtain⟨g0,cap,hF,hvv,_⟩:=MB hv.own (by rw[hv.len];omega)
 have hone:=hr.one1 g1
 obtain⟨w1,F',q1,q2,q3,q4,q5,q6⟩:=OM (P:=P) Bs hst hv.own hv.nd (by rw[hv.len];exact hj) (u:=u) (y:=u) (G:=[]) ⟨rfl,rfl,hone.1,hone.2⟩ zk (fun b hb=>by cases hb)
 obtain⟨g2,cap2,hF2,hvv2,_⟩:=MB q2 (by rw[z6,hv.len];omega)
 have hg:g2=g0:=by
  rw[hvv]at hvv2
  injection hvv2 with h1 _ _
  injection h1 with h1
  injection h1 with h1 _ _
  exact h1.symm
 have hFF:F'=F:=by rw[hF2,hF,hg]
 subst hFF
 have hc:As F' w w1:=q5.sub fun x hx=>zj hx
 refine PW rfl hu w1 (EM hx hy q1)<|h w1 hc q6 ⟨q2,hv.nd,hv.low,by rw[z6,z6];exact hv.len,fun k hk=>?_⟩
 rw[z6]at hk
 have hku:k<us.length:=by rw[hv.len];exact hk
 rw[Dk _ _ _ _ _ (by rw[hv.len];exact hj),Dk _ _ _ _ _ hj]
 have hcS:As (S++F') w w1:=hc.sub fun b hb=>z1 _ hb
 by_cases ek:k=j
 ·rw[if_pos ek,if_pos ek];exact hr.chg g1 hcS
 ·rw[if_neg ek,if_neg ek]
  exact (hv.els k hk).chg g1 hcS
theorem TC {st e':TypeId}{x y:Operand}{v u:Value}{n:Int}{xs:List (List Int)}{B T r j:Nat}{F:List Nat}(hst:(P.info? st).map (·.size)=some 1)(hx:Bn N ρ x=Ax u j 1)(hy:Bn N ρ y=.int .i64 n)(hn:-9223372036854775808≤n∧n≤9223372036854775807)
  (hv:Ow (Bi (Bi rI e) e') B T w.heap v xs F) (hr:r<xs.length) (hl:GE w.heap (Ax v r 1)=some u) (hj:j<(xs.getD r []).length) (hu:Up ops N ρ ⟨none,.store st x y,ty,pos,aft,g⟩)
  (h:∀w1 G,As G w w1→w1.heap.size=w.heap.size→(∀c∈G,c∈F)→Ow (Bi (Bi rI e) e') B T w1.heap v (xs.set r ((xs.getD r []).set j n)) F→LW P ops w0 Q os ks (mk N ρ) w1) :
  LW P ops w0 Q (⟨none,.store st x y,ty,pos,aft,g⟩::os) (4::ks) (mk N ρ) w:=by
 obtain⟨hown,hnd,hlow,hhigh⟩:=hv
 rcases hown with⟨_,rfl,_⟩|⟨us,g0,cap,cur,F',hels,rfl,hg,r1,r2,r3,r4,rfl⟩
 ·simp at hr
 ·have hc:=List.nodup_cons.1 hnd
  obtain⟨u',G,q0,q1,q2,q3,q4⟩:=hels.at_ (k:=r) [] hr hc.2
  have hlen:=hels.length
  have hu':u'=u:=by
   rw[EB]at hl
   simp only[GE,BM,hg,Nat.zero_add]at hl
   rw[← r4,List.getElem?_take,if_pos hr]at q0
   have:some u'=some u:=by rw[← q0,← hl];simp
   exact Option.some.inj this
  subst hu'
  obtain⟨w1,p1,p2,p3,p4⟩:=Qu (P:=P) hst q1 q2 hj hn
  have hgG:g0∉G:=fun hm=>hc.1 (q3 g0 hm)
  refine PW rfl hu w1 (EM hx hy p1)<|h w1 G p3 p4 (fun c hm=>z3 _<|q3 c hm) ⟨.inr ⟨us,g0,cap,cur,F',?_,by rw[z6],?_,by rw[z6];exact r1,r2,r3,by rw[z6];exact r4,rfl⟩,hnd,hlow,hhigh⟩
  ·exact q4 (fun hE hC=>o1.stable hE fun b hb=>p3.block b (o1.lt hE b hb) (hC b hb).2) p2
  ·have hlt:g0<w.heap.size:=(Array.getElem?_eq_some_iff.1 hg).1
   rw[p3.block g0 hlt hgG];exact hg
end ops
section
variable {e1 e:TypeId} {B T:Nat} {w:World} {v:Value} {xs:List (List Int)} {F:List Nat}
theorem Ow.rowO (h:Ow (Bi (Bi rI e1) e) B T w.heap v xs F){k:Nat}(hk:k<xs.length):∃u,GE w.heap (Ax v k 1)=some u∧Rd (AX rI) w.heap u (xs.getD k []):=by
 obtain⟨u,G,q0,q1,_⟩:=h.fr.row o1 [] hk
 exact⟨u,q0,G,q1.rd id⟩
theorem Ow.slO {H:Array Obj}(h:Ow (Bi (Bi rI e1) e) B T H v xs F):El v xs.length:=(Bi.rd id h.own:AX (Bi rI e1) H v xs F).isSl
theorem GR.ofOw {S:List Nat}(h:Ow (Bi (Bi rI e1) e) B T w.heap v xs F)(hS:∀b∈S,b<B):∃us F',GR e S B w.heap v xs us F'∧∀b∈F',b∈F:=by
 obtain⟨h1,h2,h3,h4⟩:=h
 rcases h1 with⟨rfl,rfl,rfl⟩|⟨us,g,cap,cur,F',hels,rfl,hg,r1,r2,r3,r4,rfl⟩
 ·exact⟨[],[],⟨.inl ⟨rfl,rfl,rfl⟩,zk,(fun b hb=>absurd hb z2),rfl,(fun k hk=>absurd hk (Nat.not_lt_zero k))⟩,(fun b hb=>absurd hb z2)⟩
 ·have hl:=hels.length
  have hn:=List.nodup_cons.1 h2
  refine⟨us,[g],⟨.inr ⟨us,g,cap,cur,[],Kr (hels.cells1 o1),by rw[hl],hg,zO,r2,r3,by rw[hl];exact r4,rfl⟩,by simp,fun b hb=>?_,hl,fun k hk=>?_⟩,fun b hb=>?_⟩
  ·exact h3 b (by rw[A9 hb];exact z0 ..)
  ·obtain⟨u,G,hu,q1,q2,q3,_⟩:=hels.at_ (k:=k) [] hk hn.2
   have e1:us.getD k undef=u:=by simp[List.getD_eq_getElem?_getD,hu]
   rw[e1]
   exact⟨G,q1.rd id,fun b hb hm=>by
    have hb':=q3 b hb
    rcases zi.1 hm with hm|hm
    ·have h8:=hS b hm
     have h9:=h3 b<|z3 _ hb'
     omega
    ·rw[A9 hm]at hb'
     exact hn.1 hb'⟩
  ·rw[A9 hb];exact z0 ..
end
theorem S3 {R:List Sr}{k:Nat}(hk:k<R.length):IR (R.take k)++[List.replicate (R.getD k []).length 0]=IR (R.take (k+1)):=by
 unfold IR
 rw[CF [] hk,List.map_append];rfl
end
section
def Qc (cs:List AD)(L:List Sr):Nat→List Sr→List Sr
 |0,B=>B
 |k+1,B=>if (cs.getD k AD.zero).op=1 then EF (Qc cs L k B) (cs.getD k AD.zero).num (L.getD k [])else Qc cs L k B
def TD (ni m:Nat)(cs:List AD)(L:List Sr):List Sr:=Qc cs L cs.length (List.replicate ni (List.replicate m 0))
section
variable {m ni:Nat} {cs:List AD} {L B:List Sr}
theorem KP {k:Nat}(h:(cs.getD k AD.zero).op=1):Qc cs L (k+1) B=EF (Qc cs L k B) (cs.getD k AD.zero).num (L.getD k []):=if_pos h
theorem KQ {k:Nat}(h:(cs.getD k AD.zero).op≠1):Qc cs L (k+1) B=Qc cs L k B:=if_neg h
@[simp] theorem HC (k:Nat):(Qc cs L k B).length=B.length:=by
 induction k with
 |zero=>rfl
 |succ k ih =>
  by_cases h:(cs.getD k AD.zero).op=1
  ·rw[KP h,BL,ih]
  ·rw[KQ h,ih]
theorem IT (m ni:Nat):C0 m (List.replicate ni (List.replicate m 0)):=fun k hk=>by
 rw[z5]at hk
 have e:(List.replicate ni (List.replicate m (0:Int))).getD k []=List.replicate m 0:=by simp[List.getD_eq_getElem?_getD,hk]
 rw[e]
 exact⟨z5,H5 _⟩
theorem Ki (hf:∀k,k<cs.length→Es B.length k (cs.getD k AD.zero))(h:C0 m B):∀k,k≤cs.length→C0 m (Qc cs L k B)
 |0,_=>h
 |k+1,hk=>by
  have ih:=Ki hf h k zO
  by_cases h1:(cs.getD k AD.zero).op=1
  ·rw[KP h1]
   have:=(hf k zO).i1 h1
   exact CP ih (by rw[HC];omega)
  ·rw[KQ h1];exact ih
theorem Pu (hf:∀k,k<cs.length→Es ni k (cs.getD k AD.zero)):C0 m (TD ni m cs L):=Ki (fun k hk=>by rw[z5];exact hf k hk) (IT m ni) _ (A7 _)
@[simp] theorem Pv:(TD ni m cs L).length=ni:=by unfold TD;rw[HC,z5]
end
end
def Ok (L:List Sr)(ps:List Int):List Sr:=ps.map fun i=>L.getD i.toNat []
theorem S4 {L:List Sr}{ps:List Int}{k:Nat}(hk:k<ps.length):Ok L (ps.take (k+1))=Ok L (ps.take k)++[L.getD (ps.getD k 0).toNat []]:=by
 unfold Ok
 rw[CF 0 hk,List.map_append];rfl
section
def DG (A:List Sr):List Int:=A.map fun s=>s.getD 0 0
section
variable {m:Nat} {A:List Sr} {T:Tp} {xs:List Int}
@[simp] theorem DR:(DG A).length=A.length:=by simp[DG]
theorem Qd (h:C0 m A):Oj m (DG A) A:=⟨DR.symm,fun i hi=>h i (by rw[DR]at hi;exact hi),fun i hi=>by
 rw[DR]at hi
 unfold DG
 rw[BZ (d:=[]) hi]⟩
theorem Dg.regs (h:Dg m A T):C0 m (B5 m A T.code):=fun k hk=>(h.ser k (by rw[BG]at hk;exact hk)).1
theorem Dg.outs (h:Dg m A T)(hE:Jm T xs):∀k,k<xs.length→0≤xs.getD k 0∧xs.getD k 0<((T.code.length:Nat):Int):=fun k hk=>by have:=hE k hk;have:=h.cl;omega
theorem Dg.adj (h:Dg m A T)(hE:Jm T xs){ws:List Int}:C0 m (IS T.code (Go.Proofs.YtbajepcpgncekaaGreat.B5 m A T.code) xs ws):=by
 have ho:=h.outs hE
 refine Pt (ni:=A.length) h.form _ _ (A7 _) (by rw[DQ,CO,BG];exact A7 _)<|HB (Gr h.regs) (fun q hq=>?_) _<|A7 _
 have:=ho q hq
 rw[CO,BG];omega
theorem S5 {cs:List AD}{R:List Sr}{os ws:List Int}:(IS cs R os ws).length=R.length:=by unfold IS;rw[Ps,DQ,CO]
end
end
section
section
variable {m:Nat} {a b c:Sr}
theorem Pw (ha:Cb m a){k:Nat}(hk:k<m):(DF a b).getD k 0=md (a.getD k 0+b.getD k 0):=by unfold DF;exact C9 _ (by rw[ha.1];exact hk)
theorem Px (ha:Cb m a){y:Int}{k:Nat}(hk:k<m):(Ci a y).getD k 0=md (a.getD k 0*y):=by unfold Ci;exact C9 _ (by rw[ha.1];exact hk)
end
end
section
theorem ZB {f:Nat→Int}:∀ {n:Nat},(∀i,i<n→f i=0)→sm n f=0
 |0,_=>rfl
 |n+1,h=>by unfold sm;rw[ZB (n:=n) fun i hi=>h i zO,h n (by omega)];rfl
section
variable {N N':Nat} {f f' g g':Nat→Int} {a b:Sr}
theorem EN.mono (h:EN N f g)(hN:N'≤N):EN N' f g:=fun k hk=>h k zO
theorem EN.neg (hf:EN N f f'):EN N (fun k=>- f k) (fun k=>- f' k):=fun k hk=>by rw[← Jd,hf k hk,Jd]
theorem EN.eq (h:∀k,k<N→f k=g k):EN N f g:=fun k hk=>by rw[h k hk]
theorem S6 (ha:Cb N a):EN N (D8 (Ci a 1000002)) (fun k=>- D8 a k):=EN.trans (Zz (y:=1000002) ha) fun k _=>by
 show md (1000002*D8 a k)=md (- D8 a k)
 unfold md;omega
def Lo (r:Nat)(f:Nat→Int):Prop:=EN r f JO
theorem Lo.mono {r r':Nat}(h:Lo r f)(hr:r'≤r):Lo r' f:=EN.mono h hr
theorem Lo.of {r:Nat}(h:EN r f g)(hg:Lo r g):Lo r f:=EN.trans h hg
theorem Lo.add {r:Nat}(h:Lo r f)(hg:Lo r g):Lo r fun k=>f k+g k:=(EN.add h hg).trans fun k _=>rfl
theorem Lo.sub {r:Nat}(h:Lo r f)(hg:Lo r g):Lo r fun k=>f k-g k:=(EN.sub h hg).trans fun k _=>rfl
theorem Lo.neg {r:Nat}(h:Lo r f):Lo r fun k=>- f k:=fun k hk=>by
 have:=h k hk
 show md (- f k)=md 0
 rw[← Jd,this];rfl
theorem Lo.cvl {r:Nat}(h:Lo r f)(g:Nat→Int):Lo r (cv f g):=(EN.cv h (EN.rfl' g)).trans fun k _=>by rw[Fu];rfl
theorem Lo.cvr {r:Nat}(g:Nat→Int)(h:Lo r f):Lo r (cv g f):=fun k hk=>by rw[Df];exact h.cvl g k hk
theorem Lo.cv2 {r s:Nat}(h:Lo r f)(hg:Lo s g):Lo (r+s) (cv f g):=fun k hk=>by
 rw[JH]
 have e:md (sm (k+1) fun i=>f i*g (k-i))=md (sm (k+1) fun _=>0):=LX fun i hi=>by
  by_cases h1:i<r
  ·rw[← CX,h i h1]
   show md (md 0*_)=_
   rw[EC,Int.zero_mul]
  ·rw[← CX,hg (k-i) (by omega)]
   show md (_*md 0)=_
   rw[ED,Int.mul_zero]
 rw[e,ZB fun _ _=>rfl];rfl
theorem IU (f g g':Nat→Int)(k:Nat):cv f (fun i=>g i-g' i) k=cv f g k-cv f g' k:=by rw[Df,P8,Df g,Df g']
theorem Py (f g:Nat→Int)(k:Nat):cv f (fun i=>- g i) k = - cv f g k:=by
 have e:(fun i=>- g i)=fun i=>(-1)*g i:=funext fun i=>by omega
 rw[e,Ni];omega
theorem MC (f g:Nat→Int)(k:Nat):cv (fun i=>- f i) g k = - cv f g k:=by rw[Df,Py,Df]
theorem Lo.div {r:Nat}(hd:∃e:Int,md (g 0*e)=1)(h:Lo r (cv f g)):Lo r f:=O3 hd (h.trans fun k _=>by rw[Fu];rfl)
end
section
variable {N m n:Nat} {B:List Sr} {v v':Nat→Nat→Int}
theorem Ol {f g:Nat→Int}{i:Nat}:∀ {n:Nat},i<n→(∀j,j<n→j≠i→f j=g j)→sm n f=sm n g+(f i-g i)
 |0,h,_=>absurd h (Nat.not_lt_zero i)
 |n+1,hi,h=>by
  show sm n f+f n=sm n g+g n+_
  by_cases e:i=n
  ·subst e
   rw[Dl fun j hj=>h j zO (by omega)];omega
  ·rw[Ol (n:=n) zO fun j hj he=>h j zO he,h n zO (fun h=>e h.symm)];omega
theorem XR {i:Nat}(hi:i<n)(h:∀j,j<n→j≠i→v j=v' j)(t:Nat):Gd n v B t=Gd n v' B t+(cv (D8 (B.getD i [])) (v i) t-cv (D8 (B.getD i [])) (v' i) t):=by
 unfold Gd
 exact Ol (f:=fun j=>cv (D8 (B.getD j [])) (v j) t) (g:=fun j=>cv (D8 (B.getD j [])) (v' j) t) hi fun j hj he=>by rw[h j hj he]
theorem Pz {i:Nat}{s:Sr}{d:Nat→Int}(hi:i<n)(hb:i<B.length)(h:EN N (D8 s) fun t=>D8 (B.getD i []) t+d t):EN N (Gd n v (B.set i s)) fun t=>Gd n v B t+cv d (v i) t:=fun t ht=>by
 have e:Gd n v (B.set i s) t=Gd n v B t+(cv (D8 s) (v i) t-cv (D8 (B.getD i [])) (v i) t):=by
  unfold Gd
  have:=Ol (f:=fun j=>cv (D8 ((B.set i s).getD j [])) (v j) t) (g:=fun j=>cv (D8 (B.getD j [])) (v j) t) hi fun j hj he=>by rw[Dk _ _ _ _ _ hb,if_neg he]
  rw[this,Dk _ _ _ _ _ hb,if_pos rfl]
 have h2:md (cv (D8 s) (v i) t)=md (cv (D8 (B.getD i [])) (v i) t+cv d (v i) t):=by
  rw[EN.cv h (EN.rfl' (v i)) t ht,K5]
 show md _=md (Gd n v B t+cv d (v i) t)
 rw[e,← Ft,← FA,h2,FA,Ft]
 congr 1;omega
theorem Kj {r:Int}{s:Sr}(hB:C0 m B)(hN:N≤m)(hr:r.toNat<n)(hb:r.toNat<B.length):EN N (Gd n v (EF B r s)) fun t=>Gd n v B t+cv (D8 s) (v r.toNat) t :=
 Pz hr hb (EN.mono (VP (hB _ hb)) hN)
theorem NJ (h:∀j,j<n→∀t,D8 (B.getD j []) t=0)(t:Nat):Gd n v B t=0:=by
 unfold Gd
 refine ZB fun j hj=>?_
 rw[show D8 (B.getD j [])=JO from funext fun t=>h j hj t,Fu]
end
structure XS (N:Nat)(cs:List AD)(R:List Sr)(z D:Nat→Nat→Int):Prop where
 t1:∀k,k<cs.length→(cs.getD k AD.zero).op=1→EN N (D k) (z (cs.getD k AD.zero).num.toNat)
 t2:∀k,k<cs.length→(cs.getD k AD.zero).op=2→EN N (D k) JO
 t3:∀k,k<cs.length→(cs.getD k AD.zero).op=3→EN N (D k) fun t=>D (cs.getD k AD.zero).a.toNat t+D (cs.getD k AD.zero).b.toNat t
 t4:∀k,k<cs.length→(cs.getD k AD.zero).op=4→EN N (D k) fun t=>D (cs.getD k AD.zero).a.toNat t-D (cs.getD k AD.zero).b.toNat t
 t5:∀k,k<cs.length→(cs.getD k AD.zero).op=5→EN N (D k) fun t=>cv (D8 (R.getD (cs.getD k AD.zero).b.toNat [])) (D (cs.getD k AD.zero).a.toNat) t+cv (D8 (R.getD (cs.getD k AD.zero).a.toNat [])) (D (cs.getD k AD.zero).b.toNat) t
 t6:∀k,k<cs.length→(cs.getD k AD.zero).op=6→EN N (cv (D8 (R.getD (cs.getD k AD.zero).b.toNat [])) (D k)) fun t=>D (cs.getD k AD.zero).a.toNat t-cv (D8 (R.getD k [])) (D (cs.getD k AD.zero).b.toNat) t
 t7:∀k,k<cs.length→(cs.getD k AD.zero).op=7→EN N (D k) fun t=>- D (cs.getD k AD.zero).a.toNat t
def Eq (cs:List AD)(D:Nat→Nat→Int)(n k:Nat):Nat→Int:=if k<n∨(cs.getD k AD.zero).op=1 then D k else JO
section
variable {N m ni:Nat} {cs:List AD} {R B:List Sr} {z D:Nat→Nat→Int} {os ws:List Int}
theorem Gt {n k:Nat}(h:k<n):Eq cs D n k=D k:=if_pos (.inl h)
theorem S7 {n k:Nat}(h:(cs.getD k AD.zero).op=1):Eq cs D n k=D k:=if_pos (.inr h)
theorem Uf {n k:Nat}(h:n≤k)(h1:(cs.getD k AD.zero).op≠1):Eq cs D n k=JO:=if_neg zO
theorem XT (hT:XS N cs R z D)(hN:N≤m)(hR:C0 m R)(hRl:R.length=cs.length)(hB:C0 m B)(hl:B.length=cs.length){k:Nat}(hk:k<cs.length)(hf:Es ni k (cs.getD k AD.zero))
  (hd:(cs.getD k AD.zero).op=6→(R.getD (cs.getD k AD.zero).b.toNat []).getD 0 0≠0) :
  EN N (Gd cs.length (Eq cs D k) (M8 cs R k B)) (Gd cs.length (Eq cs D (k+1)) B):=by
 have hBk:=hB k zO
 by_cases h1:(cs.getD k AD.zero).op=1
 ·rw[NI (by omega)]
  have e:Gd cs.length (Eq cs D k) B=Gd cs.length (Eq cs D (k+1)) B:=funext fun t=>by
   unfold Gd
   refine Dl fun j hj=>?_
   by_cases e:j=k
   ·subst e;rw[S7 h1,S7 h1]
   ·by_cases e2:j<k
    ·rw[Gt e2,Gt (by omega)]
    ·unfold Eq
     by_cases e3:(cs.getD j AD.zero).op=1
     ·rw[if_pos (.inr e3),if_pos (.inr e3)]
     ·rw[if_neg zO,if_neg (by omega)]
  rw[e];exact EN.rfl' _
 have hup:Gd cs.length (Eq cs D (k+1)) B=fun t=>Gd cs.length (Eq cs D k) B t+cv (D8 (B.getD k [])) (D k) t:=funext fun t=>by
  rw[XR (v:=Eq cs D (k+1)) (v':=Eq cs D k) hk (fun j hj he=>?_) t,Gt (Nat.lt_succ_self k),Uf (A7 k) h1,Df _ JO,Fu]
  ·omega
  ·by_cases e2:j<k
   ·rw[Gt e2,Gt (by omega)]
   ·unfold Eq
    by_cases e3:(cs.getD j AD.zero).op=1
    ·rw[if_pos (.inr e3),if_pos (.inr e3)]
    ·rw[if_neg zO,if_neg (by omega)]
 rw[hup]
 have two:∀ {ra rb:Int} {sa sb:Sr},ra.toNat<k→rb.toNat<k→EN N (fun t=>cv (D8 sa) (D ra.toNat) t+cv (D8 sb) (D rb.toNat) t) (cv (D8 (B.getD k [])) (D k)) →
   EN N (Gd cs.length (Eq cs D k) (EF (EF B ra sa) rb sb)) fun t=>Gd cs.length (Eq cs D k) B t+cv (D8 (B.getD k [])) (D k) t:=fun {ra rb sa sb} ha hb h=>by
  have q1:=Kj (v:=Eq cs D k) (s:=sa) (n:=cs.length) hB hN (r:=ra) zO zO
  have q2:=Kj (v:=Eq cs D k) (s:=sb) (n:=cs.length) (CP (s:=sa) hB (r:=ra) zO) hN (r:=rb) zO (by rw[BL];omega)
  rw[Gt ha]at q1
  rw[Gt hb]at q2
  refine q2.trans<|EN.trans (EN.add q1<|EN.rfl' _) ?_
  refine EN.trans (EN.eq fun t _=>?_)<|EN.add (EN.rfl'<|Gd cs.length (Eq cs D k) B) h
  exact Int.add_assoc _ _ _
 have b2:=fun h=>hf.i2 h
 have b7:=fun h=>hf.i7 h
 by_cases h3:(cs.getD k AD.zero).op=3
 ·rw[ND h3]
  have:=b2 zO
  refine two zO zO ?_
  refine EN.trans (EN.eq fun t _=>?_)<|EN.cv (EN.rfl' _) (hT.t3 k hk h3).symm
  rw[K6]
 by_cases h4:(cs.getD k AD.zero).op=4
 ·rw[NE h4]
  have:=b2 zO
  refine two zO zO ?_
  refine EN.trans (EN.add (EN.rfl' _)<|EN.cv (EN.mono (S6 hBk) hN)<|EN.rfl' _) ?_
  refine EN.trans (EN.eq fun t _=>?_)<|EN.cv (EN.rfl' _) (hT.t4 k hk h4).symm
  rw[IU,MC];omega
 by_cases h5:(cs.getD k AD.zero).op=5
 ·rw[NF h5]
  have:=b2 zO
  refine two zO zO ?_
  refine EN.trans (EN.add (EN.cv (EN.mono (QU hBk) hN)<|EN.rfl' _)<|EN.cv (EN.mono (QU hBk) hN)<|EN.rfl' _) ?_
  refine EN.trans (EN.eq fun t _=>?_)<|EN.cv (EN.rfl' _) (hT.t5 k hk h5).symm
  rw[K6,H4,H4]
 by_cases h6:(cs.getD k AD.zero).op=6
 ·rw[NG h6]
  have:=b2 zO
  have hRb:=hR (cs.getD k AD.zero).b.toNat zO
  refine two zO zO ?_
  have hq:=Vi hBk hRb<|hd h6
  refine EN.trans (EN.add (EN.rfl' _)<|EN.cv (EN.mono (EN.trans (S6<|FZ<|ET hBk)<|EN.neg<|QU<|ET hBk) hN)<|EN.rfl' _) ?_
  refine EN.trans ?_<|EN.cv (EN.mono hq hN)<|EN.rfl' _
  refine EN.trans ?_<|EN.trans (EN.cv (EN.rfl'<|D8<|BP (B.getD k [])<|R.getD (cs.getD k AD.zero).b.toNat []) (hT.t6 k hk h6).symm) (EN.eq fun t _=>(H4 _ _ _ t).symm)
  refine EN.eq fun t _=>?_
  rw[MC,IU,H4];omega
 by_cases h7:(cs.getD k AD.zero).op=7
 ·rw[NH h7]
  have:=b7 h7
  have q1:=Kj (v:=Eq cs D k) (s:=Ci (B.getD k []) 1000002) (n:=cs.length) hB hN (r:=(cs.getD k AD.zero).a) zO zO
  rw[Gt (by omega)]at q1
  refine q1.trans<|EN.add (EN.rfl' _) ?_
  refine EN.trans (EN.cv (EN.mono (S6 hBk) hN)<|EN.rfl' _)<|EN.trans (EN.eq fun t _=>?_)<|EN.cv (EN.rfl' _) (hT.t7 k hk h7).symm
  rw[Py,MC]
 have h2:(cs.getD k AD.zero).op=2:=by unfold Es at hf;omega
 rw[NI (by omega)]
 refine EN.trans (EN.eq fun t _=>?_)<|EN.add (EN.rfl' _)<|EN.cv (EN.rfl' _) (hT.t2 k hk h2).symm
 rw[Df,Fu,Int.add_zero]
theorem Ug (hT:XS N cs R z D)(hN:N≤m)(hR:C0 m R)(hRl:R.length=cs.length)(hf:∀k,k<cs.length→Es ni k (cs.getD k AD.zero))
  (hd:∀k,k<cs.length→(cs.getD k AD.zero).op=6→(R.getD (cs.getD k AD.zero).b.toNat []).getD 0 0≠0) :
  ∀(n:Nat) (B:List Sr),n≤cs.length→C0 m B→B.length=cs.length→EN N (Gd cs.length (Eq cs D 0) (Qj cs R n B)) (Gd cs.length (Eq cs D n) B)
 |0,B,_,_,_=>EN.rfl' _
 |n+1,B,hn,hB,hl=>by
  show EN N (Gd cs.length (Eq cs D 0) (Qj cs R n (M8 cs R n B))) _
  exact (Ug hT hN hR hRl hf hd n _ zO (Gs hB zO<|hf n zO) (by rw[Kh,hl])).trans<|XT hT hN hR hRl hB hl zO (hf n zO)<|hd n zO
theorem PB {L B0:List Sr}(hT:XS N cs R z D)(hN:N≤m)(hB:C0 m B0)(hl:B0.length=ni)(hf:∀k,k<cs.length→Es ni k (cs.getD k AD.zero)) :
  ∀n,n≤cs.length→EN N (Gd ni z (Qc cs L n B0)) fun t=>Gd ni z B0 t+sm n fun k=>cv (D8 (L.getD k [])) (Eq cs D 0 k) t
 |0,_=>fun t _=>by show _=md (_+0);rw[Int.add_zero];rfl
 |n+1,hn=>by
  have ih:=PB (L:=L) hT hN hB hl hf n zO
  by_cases h1:(cs.getD n AD.zero).op=1
  ·rw[KP h1]
   have hi:=(hf n zO).i1 h1
   refine (Kj (Ki (fun k hk=>by rw[hl];exact hf k hk) hB n zO) hN zO (by rw[HC];omega)).trans ?_
   refine (EN.add ih<|EN.cv (EN.rfl' _) (hT.t1 n zO h1).symm).trans (EN.eq fun t _=>?_)
   show _=Gd ni z B0 t+(sm n _+cv (D8 (L.getD n [])) (Eq cs D 0 n) t)
   rw[S7 h1,Int.add_assoc]
  ·rw[KQ h1]
   refine ih.trans (EN.eq fun t _=>?_)
   show _=Gd ni z B0 t+(sm n _+cv (D8 (L.getD n [])) (Eq cs D 0 n) t)
   rw[Uf (Nat.zero_le n) h1,Df _ JO,Fu,Int.add_zero]
theorem S8 {m:Nat}(t:Nat):D8 (List.replicate m 0) t=0:=JL m t
theorem Uh (hB:C0 m B)(hm:1≤m){n:Nat}(hn:n≤B.length):∀k,k≤os.length→(∀i,i<os.length→(os.getD i 0).toNat<n) →
  EN N (Gd n D (Lk os ws k B)) fun t=>Gd n D B t+sm k fun i=>ws.getD i 0*D (os.getD i 0).toNat t
 |0,_,_=>fun t _=>by show _=md (_+0);rw[Int.add_zero];rfl
 |k+1,hk,ho=>by
  have ih:=Uh hB hm hn k zO ho
  have h9:=ho k zO
  have hs:=HB (ws:=ws) hB (fun i hi=>by have:=ho i hi;omega) k zO (os.getD k 0).toNat (by rw[DQ];omega)
  refine (Pz (B:=Lk os ws k B) (s:=((Lk os ws k B).getD (os.getD k 0).toNat []).set 0<|md (((Lk os ws k B).getD (os.getD k 0).toNat []).getD 0 0+ws.getD k 0)) (d:=fun t=>ws.getD k 0*Q0 t) h9 (by rw[DQ];omega) fun t _=>?_).trans ?_
  ·unfold D8
   rw[Dk _ _ _ _ _ (by rw[hs.1];omega)]
   unfold Q0
   by_cases e:t=0
   ·subst e
    show _=md (_+ws.getD k 0*(if (0:Nat)=0 then 1 else 0))
    rw[if_pos rfl,if_pos rfl,En,Int.mul_one]
   ·show _=md (_+ws.getD k 0*(if t=0 then 1 else 0))
    rw[if_neg e,if_neg e,Int.mul_zero,Int.add_zero]
  ·refine (EN.add ih<|EN.rfl' _).trans (EN.eq fun t _=>?_)
   show _=_+(sm k _+_)
   rw[II,Vh,Int.add_assoc]
theorem TF (hT:XS N cs R z D)(hN:N≤m)(hm:1≤m)(hR:C0 m R)(hRl:R.length=cs.length)(hf:∀k,k<cs.length→Es ni k (cs.getD k AD.zero))
  (hd:∀k,k<cs.length→(cs.getD k AD.zero).op=6→(R.getD (cs.getD k AD.zero).b.toNat []).getD 0 0≠0) (ho:∀i,i<os.length→(os.getD i 0).toNat<cs.length) :
  EN N (Gd ni z (TD ni m cs (IS cs R os ws))) fun t=>sm os.length fun i=>ws.getD i 0*D (os.getD i 0).toNat t:=by
 have h1:=PB (L:=IS cs R os ws) (B0:=List.replicate ni<|List.replicate m 0) hT hN (IT m ni) z5 hf cs.length<|A7 _
 have hw:C0 m (Lk os ws os.length (IR R)):=HB (Gr hR) (fun q hq=>by rw[CO,hRl];exact ho q hq) _ (A7 _)
 have h2:=Ug hT hN hR hRl hf hd cs.length (Lk os ws os.length<|IR R) (A7 _) hw (by rw[DQ,CO,hRl])
 have h3:=Uh (N:=N) (D:=D) (os:=os) (ws:=ws) (Gr hR) hm (n:=cs.length) (by rw[CO,hRl];exact A7 _) os.length (A7 _) ho
 have e1:∀t,Gd ni z (List.replicate ni (List.replicate m 0)) t=0:=NJ fun j hj t=>by
  rw[show(List.replicate ni (List.replicate m (0:Int))).getD j []=List.replicate m 0 from by simp[List.getD_eq_getElem?_getD,hj]];exact S8 t
 have e2:∀t,Gd cs.length D (IR R) t=0:=NJ fun j hj t=>by
  rw[show(IR R).getD j []=List.replicate (R.getD j []).length 0 from by unfold IR;rw[BZ (d:=[]) (by omega)]];exact S8 t
 have e3:Gd cs.length (Eq cs D cs.length) (Lk os ws os.length (IR R))=Gd cs.length D (Lk os ws os.length (IR R)):=funext fun t=>by
  unfold Gd
  exact Dl fun j hj=>by rw[Gt hj]
 rw[e3]at h2
 refine h1.trans<|EN.trans (EN.eq fun t _=>?_)<|EN.trans h2<|h3.trans (EN.eq fun t _=>?_)
 ·rw[e1,Int.zero_add];rfl
 ·rw[e2,Int.zero_add]
end
end
section
def CL (A A':List Sr)(j:Nat):Nat→Int:=fun t=>D8 (A'.getD j []) t-D8 (A.getD j []) t
section
variable {m r N k j:Nat} {A A':List Sr} {T:Tp} {cs:List AD}
theorem FI (hk:k≤cs.length)(hj:j<k):(B5 m A (cs.take k)).getD j []=(B5 m A cs).getD j []:=by
 have:=KH (m:=m) (A:=A) (cs.take k) (cs.drop k) (k:=j) (by rw[List.length_take];omega)
 rw[List.take_append_drop]at this
 exact this.symm
theorem Ie (hk:k<cs.length):(B5 m A cs).getD k []=EV m A (B5 m A (cs.take k)) (cs.getD k AD.zero):=by
 rw[← FI (show k+1≤cs.length from hk) (Nat.lt_succ_self k),Dh hk,GY (by rw[BG,List.length_take];omega)]
theorem Dg.r1 (h:Dg m A T)(hk:k<T.code.length)(h1:(T.code.getD k AD.zero).op=1):(Go.Proofs.YtbajepcpgncekaaGreat.B5 m A T.code).getD k []=A.getD (T.code.getD k AD.zero).num.toNat []:=by rw[Ie hk,Mz h1]
theorem Dg.r2 (h:Dg m A T)(hk:k<T.code.length)(h1:(T.code.getD k AD.zero).op=2):(Go.Proofs.YtbajepcpgncekaaGreat.B5 m A T.code).getD k []=cst m (T.code.getD k AD.zero).num:=by rw[Ie hk,KO (by omega)]
theorem Dg.r3 (h:Dg m A T)(hk:k<T.code.length)(h1:(T.code.getD k AD.zero).op=3):(Go.Proofs.YtbajepcpgncekaaGreat.B5 m A T.code).getD k []=DF ((Go.Proofs.YtbajepcpgncekaaGreat.B5 m A T.code).getD (T.code.getD k AD.zero).a.toNat []) ((Go.Proofs.YtbajepcpgncekaaGreat.B5 m A T.code).getD (T.code.getD k AD.zero).b.toNat []):=by
 have:=(h.form k hk).i2 zO
 rw[Ie hk,KJ h1,FI zO zO,FI zO (by omega)]
theorem Dg.r4 (h:Dg m A T)(hk:k<T.code.length)(h1:(T.code.getD k AD.zero).op=4):(Go.Proofs.YtbajepcpgncekaaGreat.B5 m A T.code).getD k []=EE ((Go.Proofs.YtbajepcpgncekaaGreat.B5 m A T.code).getD (T.code.getD k AD.zero).a.toNat []) ((Go.Proofs.YtbajepcpgncekaaGreat.B5 m A T.code).getD (T.code.getD k AD.zero).b.toNat []):=by
 have:=(h.form k hk).i2 zO
 rw[Ie hk,KK h1,FI zO zO,FI zO (by omega)]
theorem Dg.r5 (h:Dg m A T)(hk:k<T.code.length)(h1:(T.code.getD k AD.zero).op=5):(Go.Proofs.YtbajepcpgncekaaGreat.B5 m A T.code).getD k []=C5 ((Go.Proofs.YtbajepcpgncekaaGreat.B5 m A T.code).getD (T.code.getD k AD.zero).a.toNat []) ((Go.Proofs.YtbajepcpgncekaaGreat.B5 m A T.code).getD (T.code.getD k AD.zero).b.toNat []):=by
 have:=(h.form k hk).i2 zO
 rw[Ie hk,KL h1,FI zO zO,FI zO (by omega)]
theorem Dg.r6 (h:Dg m A T)(hk:k<T.code.length)(h1:(T.code.getD k AD.zero).op=6):(Go.Proofs.YtbajepcpgncekaaGreat.B5 m A T.code).getD k []=BP ((Go.Proofs.YtbajepcpgncekaaGreat.B5 m A T.code).getD (T.code.getD k AD.zero).a.toNat []) ((Go.Proofs.YtbajepcpgncekaaGreat.B5 m A T.code).getD (T.code.getD k AD.zero).b.toNat []):=by
 have:=(h.form k hk).i2 zO
 rw[Ie hk,KN h1,FI zO zO,FI zO (by omega)]
theorem Dg.r7 (h:Dg m A T)(hk:k<T.code.length)(h1:(T.code.getD k AD.zero).op=7):(Go.Proofs.YtbajepcpgncekaaGreat.B5 m A T.code).getD k []=Ci ((Go.Proofs.YtbajepcpgncekaaGreat.B5 m A T.code).getD (T.code.getD k AD.zero).a.toNat []) 1000002:=by
 have:=(h.form k hk).i7 h1
 rw[Ie hk,KM h1,FI zO (by omega)]
theorem Dg.rz (h:Dg m A T)(hk:k<T.code.length)(h1:(T.code.getD k AD.zero).op=6):((Go.Proofs.YtbajepcpgncekaaGreat.B5 m A T.code).getD (T.code.getD k AD.zero).b.toNat []).getD 0 0≠0:=by
 have:=(h.form k hk).i2 zO
 rw[(h.ser (T.code.getD k AD.zero).b.toNat zO).2]
 exact h.dv k hk h1
theorem Sa (f g:Nat→Int):f=fun t=>g t+(f t-g t):=funext fun t=>by omega
theorem Sb (v w v' w':Nat→Int)(t:Nat):cv v' w' t-cv v w t=cv w (fun t=>v' t-v t) t+cv v (fun t=>w' t-w t) t+cv (fun t=>v' t-v t) (fun t=>w' t-w t) t:=by
 rw[P8,IU,IU,IU,Df w,Df w];omega
theorem Ui (h:Dg m A T)(h':Dg m A' T)(hk:k<T.code.length)(h1:(T.code.getD k AD.zero).op=1):CL (B5 m A T.code) (B5 m A' T.code) k=CL A A' (T.code.getD k AD.zero).num.toNat:=by
 unfold CL;rw[h.r1 hk h1,h'.r1 hk h1]
theorem Uj (h:Dg m A T)(h':Dg m A' T)(hk:k<T.code.length)(h1:(T.code.getD k AD.zero).op=2):EN N (CL (B5 m A T.code) (B5 m A' T.code) k) JO:=EN.eq fun t _=>by
 unfold CL;rw[h.r2 hk h1,h'.r2 hk h1,Int.sub_self];rfl
theorem Uk (h:Dg m A T)(h':Dg m A' T)(hk:k<T.code.length)(h1:(T.code.getD k AD.zero).op=3) :
  EN m (CL (B5 m A T.code) (B5 m A' T.code) k) fun t=>CL (B5 m A T.code) (B5 m A' T.code) (T.code.getD k AD.zero).a.toNat t+CL (B5 m A T.code) (B5 m A' T.code) (T.code.getD k AD.zero).b.toNat t:=by
 have hb:=(h.form k hk).i2 zO
 unfold CL;rw[h.r3 hk h1,h'.r3 hk h1]
 exact (EN.sub (VP (h'.ser _ zO).1) (VP (h.ser _ zO).1)).trans (EN.eq fun t _=>by omega)
theorem Ul (h:Dg m A T)(h':Dg m A' T)(hk:k<T.code.length)(h1:(T.code.getD k AD.zero).op=4) :
  EN m (CL (B5 m A T.code) (B5 m A' T.code) k) fun t=>CL (B5 m A T.code) (B5 m A' T.code) (T.code.getD k AD.zero).a.toNat t-CL (B5 m A T.code) (B5 m A' T.code) (T.code.getD k AD.zero).b.toNat t:=by
 have hb:=(h.form k hk).i2 zO
 unfold CL;rw[h.r4 hk h1,h'.r4 hk h1]
 exact (EN.sub (Xp (h'.ser _ zO).1) (Xp (h.ser _ zO).1)).trans (EN.eq fun t _=>by omega)
theorem Um (h:Dg m A T)(h':Dg m A' T)(hk:k<T.code.length)(h1:(T.code.getD k AD.zero).op=7) :
  EN m (CL (B5 m A T.code) (B5 m A' T.code) k) fun t=>- CL (B5 m A T.code) (B5 m A' T.code) (T.code.getD k AD.zero).a.toNat t:=by
 have hb:=(h.form k hk).i7 h1
 unfold CL;rw[h.r7 hk h1,h'.r7 hk h1]
 exact (EN.sub (S6 (h'.ser _ zO).1) (S6 (h.ser _ zO).1)).trans (EN.eq fun t _=>by omega)
theorem Un (h:Dg m A T)(h':Dg m A' T)(hk:k<T.code.length)(h1:(T.code.getD k AD.zero).op=5) :
  EN m (CL (B5 m A T.code) (B5 m A' T.code) k) fun t=>cv (D8 ((B5 m A T.code).getD (T.code.getD k AD.zero).b.toNat [])) (CL (B5 m A T.code) (B5 m A' T.code) (T.code.getD k AD.zero).a.toNat) t
   + cv (D8 ((B5 m A T.code).getD (T.code.getD k AD.zero).a.toNat [])) (CL (B5 m A T.code) (B5 m A' T.code) (T.code.getD k AD.zero).b.toNat) t
   + cv (CL (B5 m A T.code) (B5 m A' T.code) (T.code.getD k AD.zero).a.toNat) (CL (B5 m A T.code) (B5 m A' T.code) (T.code.getD k AD.zero).b.toNat) t:=by
 have hb:=(h.form k hk).i2 zO
 unfold CL;rw[h.r5 hk h1,h'.r5 hk h1]
 exact (EN.sub (QU (h'.ser _ zO).1) (QU (h.ser _ zO).1)).trans (EN.eq fun t _=>Sb _ _ _ _ t)
theorem Uo (h:Dg m A T)(h':Dg m A' T)(hk:k<T.code.length)(h1:(T.code.getD k AD.zero).op=6) :
  EN m (CL (B5 m A T.code) (B5 m A' T.code) (T.code.getD k AD.zero).a.toNat) fun t=>cv (D8 ((B5 m A T.code).getD (T.code.getD k AD.zero).b.toNat [])) (CL (B5 m A T.code) (B5 m A' T.code) k) t
   + cv (D8 ((B5 m A T.code).getD k [])) (CL (B5 m A T.code) (B5 m A' T.code) (T.code.getD k AD.zero).b.toNat) t
   + cv (CL (B5 m A T.code) (B5 m A' T.code) k) (CL (B5 m A T.code) (B5 m A' T.code) (T.code.getD k AD.zero).b.toNat) t:=by
 have hb:=(h.form k hk).i2 zO
 have q:=Vi (h.ser (T.code.getD k AD.zero).a.toNat zO).1 (h.ser (T.code.getD k AD.zero).b.toNat zO).1 (h.rz hk h1)
 have q':=Vi (h'.ser (T.code.getD k AD.zero).a.toNat zO).1 (h'.ser (T.code.getD k AD.zero).b.toNat zO).1 (h'.rz hk h1)
 rw[← h.r6 hk h1]at q
 rw[← h'.r6 hk h1]at q'
 exact (EN.sub q'.symm q.symm).trans (EN.eq fun t _=>Sb _ _ _ _ t)
theorem Sc (h:Dg m A T)(h':Dg m A' T)(hr:r≤m)(hz:∀j,j<A.length→Lo r (CL A A' j)):∀n k,k<n→k<T.code.length→Lo r (CL (B5 m A T.code) (B5 m A' T.code) k)
 |0,k,hk,_=>absurd hk (Nat.not_lt_zero k)
 |n+1,k,hn,hk=>by
  have ih:=Sc h h' hr hz n
  have hf:=h.form k hk
  have b2:=fun h=>hf.i2 h
  have b7:=fun h=>hf.i7 h
  by_cases h1:(T.code.getD k AD.zero).op=1
  ·rw[Ui h h' hk h1];have:=hf.i1 h1;exact hz _ zO
  by_cases h2:(T.code.getD k AD.zero).op=2
  ·exact Uj h h' hk h2
  by_cases h3:(T.code.getD k AD.zero).op=3
  ·have:=b2 zO
   exact Lo.of (EN.mono (Uk h h' hk h3) hr)<|(ih _ zO zO).add<|ih _ zO zO
  by_cases h4:(T.code.getD k AD.zero).op=4
  ·have:=b2 zO
   exact Lo.of (EN.mono (Ul h h' hk h4) hr)<|(ih _ zO zO).sub<|ih _ zO zO
  by_cases h5:(T.code.getD k AD.zero).op=5
  ·have:=b2 zO
   exact Lo.of (EN.mono (Un h h' hk h5) hr)<|((Lo.cvr _<|ih _ zO zO).add<|Lo.cvr _<|ih _ zO zO).add<|(ih _ zO zO).cvl _
  by_cases h6:(T.code.getD k AD.zero).op=6
  ·have:=b2 zO
   have ha:=ih (T.code.getD k AD.zero).a.toNat zO zO
   have hb:=ih (T.code.getD k AD.zero).b.toNat zO zO
   have e:=EN.mono (Uo h h' hk h6) hr
   refine Lo.div (g:=D8<|(B5 m A' T.code).getD (T.code.getD k AD.zero).b.toNat []) (T8 (h'.ser (T.code.getD k AD.zero).b.toNat zO).1 (h'.rz hk h6)) ?_
   refine Lo.of (g:=fun t=>CL (B5 m A T.code) (B5 m A' T.code) (T.code.getD k AD.zero).a.toNat t-cv (D8<|(B5 m A T.code).getD k []) (CL (B5 m A T.code) (B5 m A' T.code) (T.code.getD k AD.zero).b.toNat) t) ?_<|ha.sub<|hb.cvr _
   refine EN.trans (EN.eq fun t _=>?_)<|EN.sub e.symm<|EN.rfl' _
   rw[Sa (D8 ((B5 m A' T.code).getD (T.code.getD k AD.zero).b.toNat [])) (D8 ((B5 m A T.code).getD (T.code.getD k AD.zero).b.toNat [])),K6,Df _ (D8 ((B5 m A T.code).getD (T.code.getD k AD.zero).b.toNat []))]
   show _+cv _ (CL _ _ _) t=_
   omega
  have h7:(T.code.getD k AD.zero).op=7:=by unfold Es at hf;omega
  have:=b7 h7
  exact Lo.of (EN.mono (Um h h' hk h7) hr) (ih _ zO zO).neg
theorem TG (h:Dg m A T)(h':Dg m A' T)(hr:r≤m)(hz:∀j,j<A.length→Lo r (CL A A' j))(hN:N≤m)(h2:N≤r+r):XS N T.code (B5 m A T.code) (CL A A') (CL (B5 m A T.code) (B5 m A' T.code)):=by
 have lo:=fun k (hk:k<T.code.length)=>Sc h h' hr hz (k+1) k (Nat.lt_succ_self k) hk
 refine⟨fun k hk h1=>by rw[Ui h h' hk h1];exact EN.rfl' _,fun k hk h1=>Uj h h' hk h1,fun k hk h1=>EN.mono (Uk h h' hk h1) hN,fun k hk h1=>EN.mono (Ul h h' hk h1) hN,fun k hk h1=>?_,fun k hk h1=>?_,fun k hk h1=>EN.mono (Um h h' hk h1) hN⟩
 ·have:=(h.form k hk).i2 zO
  refine (EN.mono (Un h h' hk h1) hN).trans ?_
  refine (EN.add (EN.rfl' _)<|Lo.mono (Lo.cv2 (lo _ zO)<|lo _ zO) h2).trans (EN.eq fun t _=>?_)
  exact Int.add_zero _
 ·have:=(h.form k hk).i2 zO
  refine (EN.sub (EN.mono (Uo h h' hk h1) hN) (EN.rfl' _) |>.trans ?_).symm
  refine (EN.sub (EN.add (EN.rfl' _)<|Lo.mono (Lo.cv2 (lo k hk)<|lo _ zO) h2)<|EN.rfl' _).trans (EN.eq fun t _=>?_)
  show _+_+(0:Int)-_=_
  omega
end
end
section
section
variable {m n r N k:Nat}
theorem VU {u:Nat→Nat→Int}{row:List Sr}(h:∀j,j<n→Lo k (u j)):md (Gd n u row k)=md (sm n fun j=>D8 (row.getD j []) 0*u j k):=by
 unfold Gd
 refine LX fun j hj=>?_
 cases k with
 |zero=>rfl
 |succ k =>
  show md (D8 (row.getD j []) 0*u j (k+1)+cv (fun i=>D8 (row.getD j []) (i+1)) (u j) k)=_
  have:=Lo.cvr (fun i=>D8 (row.getD j []) (i+1)) (h j hj) k (Nat.lt_succ_self k)
  rw[← Ft,this]
  show md (_+md 0)=_
  rw[Ft,Int.add_zero]
variable {a:List Int} {J0:List (List Int)} {G:List Sr→List Sr} {J:List Sr→List (List Sr)} {y y' yS g:List Sr}
theorem ZC (hy:C0 m y)(hy':C0 m y')(hm:1≤m)(h:DG y=DG y'){j:Nat}(hj:j<y.length):Lo 1 (CL y y' j):=fun k hk=>by
 have e:k=0:=by omega
 subst e
 have hl:y'.length=y.length:=by rw[← DR (A:=y'),← h,DR]
 have h1:(DG y).getD j 0=(DG y').getD j 0:=by rw[h]
 unfold DG at h1
 rw[BZ (d:=[]) hj,BZ (d:=[]) (by omega)]at h1
 show md ((y'.getD j []).getD 0 0-(y.getD j []).getD 0 0)=_
 rw[h1,Int.sub_self];rfl
end
end
section
structure HH (m m':Nat)(B B':List Sr):Prop where
 s:C0 m B
 s':C0 m' B'
 l:B.length=B'.length
 h:∀k,(B.getD k []).getD 0 0=(B'.getD k []).getD 0 0
section
variable {m m' ni k i:Nat} {B B' R R':List Sr} {s s':Sr} {cs:List AD} {r:Int} {os ws:List Int}
theorem PC (l:List Sr)(i:Nat)(x:Sr)(j:Nat):(l.set i x).getD j []=if j=i∧i<l.length then x else l.getD j []:=by
 by_cases h:i<l.length
 ·rw[Dk _ _ _ _ _ h]
  by_cases e:j=i
  ·rw[if_pos e,if_pos ⟨e,h⟩]
  ·rw[if_neg e,if_neg fun h=>e h.1]
 ·rw[List.set_eq_of_length_le zO,if_neg fun h9=>h h9.2]
theorem HH.set (h:HH m m' B B')(hs:Cb m s)(hs':Cb m' s')(e:s.getD 0 0=s'.getD 0 0):HH m m' (B.set i s) (B'.set i s'):=by
 refine⟨h.s.set hs,h.s'.set hs',by rw[z6,z6,h.l],fun k=>?_⟩
 rw[PC,PC,h.l]
 split
 ·exact e
 ·exact h.h k
theorem HH.adP (hm:1≤m)(hm':1≤m')(h:HH m m' B B')(hr:r.toNat<B.length)(e:s.getD 0 0=s'.getD 0 0):HH m m' (EF B r s) (Go.Proofs.YtbajepcpgncekaaGreat.EF B' r s'):=by
 have h1:=h.s r.toNat hr
 have h2:=h.s' r.toNat (by rw[← h.l];exact hr)
 refine h.set (FY h1) (FY h2) ?_
 rw[Pw h1 zO,Pw h2 zO,h.h,e]
theorem HH.adI (hm:1≤m)(hm':1≤m')(h:HH m m' B B')(hR:HH m m' R R')(hk:k<B.length)(hf:Es ni k (cs.getD k AD.zero)):HH m m' (M8 cs R k B) (Go.Proofs.YtbajepcpgncekaaGreat.M8 cs R' k B'):=by
 have b2:=fun h=>hf.i2 h
 have b7:=fun h=>hf.i7 h
 have h1:=h.s k hk
 have h2:=h.s' k (by rw[← h.l];exact hk)
 have hp:∀q,(C5 (B.getD k []) (R.getD q [])).getD 0 0=(C5 (B'.getD k []) (R'.getD q [])).getD 0 0:=fun q=>by
  rw[KG (by rw[h1.1];omega),KG (by rw[h2.1];omega),h.h,hR.h]
 have hq:∀q,(BP (B.getD k []) (R.getD q [])).getD 0 0=(BP (B'.getD k []) (R'.getD q [])).getD 0 0:=fun q=>by
  rw[NA (by rw[h1.1];omega),NA (by rw[h2.1];omega),h.h,hR.h]
 have hn:∀ {s s':Sr},Cb m s→Cb m' s'→s.getD 0 0=s'.getD 0 0→(Ci s 1000002).getD 0 0=(Ci s' 1000002).getD 0 0:=fun hs hs' e=>by
  rw[Px hs zO,Px hs' zO,e]
 by_cases h3:(cs.getD k AD.zero).op=3
 ·rw[ND h3,ND h3]
  have:=b2 zO
  exact (h.adP hm hm' zO<|h.h k).adP hm hm' (by rw[BL];omega)<|h.h k
 by_cases h4:(cs.getD k AD.zero).op=4
 ·rw[NE h4,NE h4]
  have:=b2 zO
  exact (h.adP hm hm' zO<|h.h k).adP hm hm' (by rw[BL];omega)<|hn h1 h2<|h.h k
 by_cases h5:(cs.getD k AD.zero).op=5
 ·rw[NF h5,NF h5]
  have:=b2 zO
  exact (h.adP hm hm' zO<|hp _).adP hm hm' (by rw[BL];omega)<|hp _
 by_cases h6:(cs.getD k AD.zero).op=6
 ·rw[NG h6,NG h6]
  have:=b2 zO
  refine (h.adP hm hm' zO<|hq _).adP hm hm' (by rw[BL];omega)<|hn (FZ<|ET h1) (FZ<|ET h2) ?_
  rw[KG (by rw[DL,h1.1];omega),KG (by rw[DL,h2.1];omega),hq,hR.h]
 by_cases h7:(cs.getD k AD.zero).op=7
 ·rw[NH h7,NH h7]
  have:=b7 h7
  exact h.adP hm hm' zO<|hn h1 h2<|h.h k
 have:(cs.getD k AD.zero).op<3∨7<(cs.getD k AD.zero).op:=by omega
 rw[NI this,NI this];exact h
theorem HH.adA (hm:1≤m)(hm':1≤m')(hR:HH m m' R R')(hf:∀k,k<cs.length→Es ni k (cs.getD k AD.zero)):∀(n:Nat)(B B':List Sr),n≤cs.length→n≤B.length→HH m m' B B'→HH m m' (Qj cs R n B) (Go.Proofs.YtbajepcpgncekaaGreat.Qj cs R' n B')
 |0,_,_,_,_,h=>h
 |n+1,B,B',hn,hb,h=>HH.adA hm hm' hR hf n _ _ zO (by rw[Kh];omega) (h.adI hm hm' hR zO (hf n zO))
theorem HH.wgt (hm:1≤m)(hm':1≤m')(h:HH m m' B B')(ho:∀k,k<os.length→(os.getD k 0).toNat<B.length):∀k,k≤os.length→HH m m' (Lk os ws k B) (Go.Proofs.YtbajepcpgncekaaGreat.Lk os ws k B')
 |0,_=>h
 |k+1,hk=>by
  have ih:=HH.wgt hm hm' h ho k zO
  have h1:=ih.s (os.getD k 0).toNat (by rw[DQ];exact ho k zO)
  have h2:=ih.s' (os.getD k 0).toNat (by rw[DQ,← h.l];exact ho k zO)
  refine ih.set ⟨by rw[z6];exact h1.1,Jq h1.2<|BU _⟩ ⟨by rw[z6];exact h2.1,Jq h2.2<|BU _⟩ ?_
  rw[Dk _ _ _ _ _ (by rw[h1.1];omega),Dk _ _ _ _ _ (by rw[h2.1];omega),if_pos rfl,if_pos rfl,ih.h]
theorem Uq (k:Nat):((IR R).getD k []).getD 0 0=0:=by
 by_cases h:k<R.length
 ·rw[show(IR R).getD k []=List.replicate (R.getD k []).length 0 from by unfold IR;rw[BZ (d:=[]) h]];exact JL _ 0
 ·rw[show(IR R).getD k []=[]from by rw[List.getD_eq_getElem?_getD,List.getElem?_eq_none (by rw[CO];omega)];rfl];rfl
theorem HH.zrs (h:HH m m' R R'):HH m m' (IR R) (Go.Proofs.YtbajepcpgncekaaGreat.IR R'):=⟨Gr h.s,Gr h.s',by rw[CO,CO,h.l],fun k=>by rw[Uq,Uq]⟩
theorem HH.byN {L L':List Sr}(hm:1≤m)(hm':1≤m')(hL:HH m m' L L')(h:HH m m' B B')(hf:∀k,k<cs.length→Es B.length k (cs.getD k AD.zero)):∀k,k≤cs.length→HH m m' (Qc cs L k B) (Go.Proofs.YtbajepcpgncekaaGreat.Qc cs L' k B')
 |0,_=>h
 |k+1,hk=>by
  have ih:=HH.byN hm hm' hL h hf k zO
  by_cases h1:(cs.getD k AD.zero).op=1
  ·rw[KP h1,KP h1]
   have:=(hf k zO).i1 h1
   exact ih.adP hm hm' (by rw[HC];omega)<|hL.h k
  ·rw[KQ h1,KQ h1];exact ih
theorem HH.rep (m m' ni:Nat):HH m m' (List.replicate ni (List.replicate m 0)) (List.replicate ni (List.replicate m' 0)):=by
 refine⟨IT _ _,IT _ _,by simp,fun k=>?_⟩
 by_cases h:k<ni
 ·rw[show(List.replicate ni (List.replicate m (0:Int))).getD k []=List.replicate m 0 from by simp[List.getD_eq_getElem?_getD,h],show(List.replicate ni (List.replicate m' (0:Int))).getD k []=List.replicate m' 0 from by simp[List.getD_eq_getElem?_getD,h],JL,JL]
 ·rw[show(List.replicate ni (List.replicate m (0:Int))).getD k []=[]from by simp[List.getD_eq_getElem?_getD,h],show(List.replicate ni (List.replicate m' (0:Int))).getD k []=[]from by simp[List.getD_eq_getElem?_getD,h]]
end
section
variable {p:List Fn} {f m r N i j s:Nat} {a:List Int} {A A':List Sr} {xs:List Int} {T:Tp}
structure Ll (p:List Fn)(f:Nat)(a:List Int)(xs:List Int)(T:Tp):Prop where
 v:HE p
 lt:f<p.length
 l:((a.length:Nat):Int)=(p.getD f Fn.zero).params
 n:B2 a=true
 r:∃s,AH (Q8 p f a) (xs,T) s 0
theorem Kk (hA:C0 m A)(h:DG A=a):Oj m a A:=by rw[← h];exact Qd hA
theorem Ll.tp (h:Ll p f a xs T)(hm:1≤m)(hA:C0 m A)(hf:DG A=a):Dg m A T∧(J6 p m f A=xs.map fun r=>(B5 m A T.code).getD r.toNat [])∧HR p m f A=0:=by
 obtain⟨s,hs⟩:=h.r
 have h1:=RW hm h.v h.lt h.n (Kk hA hf) h.l hs rfl
 exact⟨h1.1,h1.2,NC hm h.v h.lt h.n (Kk hA hf) h.l hs⟩
theorem KR (a:List Int):DG (FB a)=a:=by
 unfold DG FB
 rw[List.map_map]
 exact List.map_id'' (fun _=>rfl) a
theorem Ll.en (h:Ll p f a xs T):xs.length=(p.getD f Fn.zero).outs.length∧Jm T xs:=by
 obtain⟨s,hs⟩:=h.r
 have hT:=RV (A7 1) h.v h.lt h.n (Kk (IM h.n)<|KR a) h.l
 rw[hs.ok]at hT
 obtain⟨z,h1,h2,h3,h4⟩:=hT
 exact⟨h4.1,fun k hk=>(h4.2.2 k (by rw[h4.1]at hk;exact hk)).1⟩
theorem Ll.at (h:Ll p f a xs T):aW p f a:=⟨h.v,h.lt,h.l,h.n,(h.tp (A7 1) (IM h.n) (KR a)).2.2⟩
theorem Ll.vals (h:Ll p f a xs T)(hm:1≤m)(hA:C0 m A)(hf:DG A=a)(hi:i<xs.length):(J6 p m f A).getD i []=(B5 m A T.code).getD (xs.getD i 0).toNat []:=by
 rw[(h.tp hm hA hf).2.1,BZ (d:=0) hi]
theorem Ei (a d:List Int):DG (Cc a d 2)=a:=by
 refine List.ext_getElem (by simp) fun k h1 h2=>?_
 rw[← FV (d:=(0:Int)) h1,← FV (d:=(0:Int)) h2]
 unfold DG
 rw[BZ (d:=[]) (by rw[BK];exact h2),RO h2]
end
end
section
def Kl (m:Nat)(T:Tp)(xs ws:List Int)(A:List Sr):List Sr:=TD A.length m T.code (IS T.code (B5 m A T.code) xs ws)
section
variable {p:List Fn} {f m m' i:Nat} {a d:List Int} {A A':List Sr} {xs ws:List Int} {T:Tp}
@[simp] theorem IV:(Kl m T xs ws A).length=A.length:=Pv
theorem Sd (hm:1≤m)(hm':1≤m')(h:Dg m A T)(h':Dg m' A' T)(hl:A.length=A'.length)(hE:Jm T xs)(ws:List Int):HH m m' (Kl m T xs ws A) (Kl m' T xs ws A'):=by
 have hR:HH m m' (B5 m A T.code) (B5 m' A' T.code):=⟨h.regs,h'.regs,by rw[BG,BG],fun k=>by
  by_cases hk:k<T.code.length
  ·rw[(h.ser k hk).2,(h'.ser k hk).2]
  ·rw[show(B5 m A T.code).getD k []=[]from by rw[List.getD_eq_getElem?_getD,List.getElem?_eq_none (by rw[BG];omega)];rfl,show(B5 m' A' T.code).getD k []=[]from by rw[List.getD_eq_getElem?_getD,List.getElem?_eq_none (by rw[BG];omega)];rfl]⟩
 have hx:=h.outs hE
 unfold Kl TD
 rw[← hl]
 refine HH.byN hm hm' ?_ (HH.rep m m' _) (fun k hk=>by rw[z5];exact h.form k hk) _<|A7 _
 unfold IS
 refine HH.adA hm hm' hR h.form _ _ _ (A7 _) (by rw[DQ,CO,BG];exact A7 _)<|hR.zrs.wgt hm hm' (fun q hq=>?_) _<|A7 _
 rw[CO,BG]
 have:=hx q hq
 omega
theorem Ll.bk_ser (h:Ll p f a xs T)(hm:1≤m)(hA:C0 m A)(hf:DG A=a)(ws:List Int):C0 m (Kl m T xs ws A):=by
 unfold Kl
 exact Pu (h.tp hm hA hf).1.form
theorem Ll.rev (h:Ll p f a xs T)(hm:1≤m)(hA:C0 m A)(hf:DG A=a)(hnd:B2 d=true) :
  md (sm a.length fun k=>((Kl m T xs ws A).getD k []).getD 0 0*d.getD k 0)=md (sm xs.length fun i=>ws.getD i 0*((GT p f a d).getD i []).getD 1 0):=by
 have hn0:B2 (List.replicate a.length 0)=true:=H5 _
 have s0:C0 2 (Cc a (List.replicate a.length 0) 2):=Dt h.n hn0
 have s1:C0 2 (Cc a d 2):=Dt h.n hnd
 have hl:A.length=a.length:=by rw[← hf,DR]
 have t0:=h.tp (m:=2) (by decide) s0<|Ei _ _
 have t1:=h.tp (m:=2) (by decide) s1<|Ei _ _
 have hh:=Sd hm (by decide:1≤2) (h.tp hm hA hf).1 t0.1 (by rw[BK,hl]) h.en.2 ws
 have ho:∀q,q<a.length→Lo 1 (CL (Cc a (List.replicate a.length 0) 2) (Cc a d 2) q):=fun q hq=>ZC s0 s1 (by decide) (by rw[Ei,Ei]) (by rw[BK];exact hq)
 have hx:=t0.1.outs h.en.2
 have ht:=TF (m:=2) (ni:=a.length) (os:=xs) (ws:=ws) (TG (r:=1) (N:=2) t0.1 t1.1 (by decide) (fun q hq=>ho q (by rw[BK]at hq;exact hq)) (by decide) (by decide)) (by decide) (by decide) t0.1.regs (BG _) (fun k hk=>by have:=t0.1.form k hk;rw[BK]at this;exact this) (fun k hk h6=>t0.1.rz hk h6) (fun q hq=>by have:=hx q hq;omega) 1 (by decide)
 rw[VU (k:=1) ho]at ht
 have e0:(Kl 2 T xs ws (Cc a (List.replicate a.length 0) 2))=TD a.length 2 T.code (IS T.code (B5 2 (Cc a (List.replicate a.length 0) 2) T.code) xs ws):=by unfold Kl;rw[BK]
 rw[← e0]at ht
 have e1:(sm a.length fun q=>D8 ((Kl 2 T xs ws (Cc a (List.replicate a.length 0) 2)).getD q []) 0*CL (Cc a (List.replicate a.length 0) 2) (Cc a d 2) q 1)=sm a.length fun k=>((Kl m T xs ws A).getD k []).getD 0 0*d.getD k 0:=Dl fun q hq=>by
  unfold CL
  rw[show D8 ((Cc a d 2).getD q []) 1=_ from Pr hq,show D8 ((Cc a (List.replicate a.length 0) 2).getD q []) 1=_ from Pr hq,JL,Int.sub_zero,hh.h q];rfl
 rw[e1]at ht
 rw[ht]
 have hat:=h.at
 refine LX fun i hi=>?_
 have hz:=RQ (K:=0) (d:=List.replicate a.length 0) (D:=fun _=>[]) (c:=fun _=>0) h.v h.lt h.l h.n hn0 (fun k hk=>absurd hk<|Nat.not_lt_zero k) (fun i hi=>by rw[JL];rfl) hat.z (r:=i) (by rw[← h.en.1];exact hi)
 have hz':((J6 p 2 f (Cc a (List.replicate a.length 0) 2)).getD i []).getD 1 0=0:=hz
 unfold CL
 rw[← h.vals (by decide) s0 (Ei _ _) hi,← h.vals (by decide) s1 (Ei _ _) hi]
 rw[show D8 ((J6 p 2 f (Cc a (List.replicate a.length 0) 2)).getD i []) 1=0 from hz',Int.sub_zero];rfl
theorem Ll.rev_col (h:Ll p f a xs T)(hm:1≤m)(hA:C0 m A)(hf:DG A=a){k:Nat}(hk:k<a.length) :
  ((Kl m T xs ws A).getD k []).getD 0 0=md (sm xs.length fun i=>ws.getD i 0*((GT p f a (eV a.length k)).getD i []).getD 1 0):=by
 have hl:A.length=a.length:=by rw[← hf,DR]
 rw[← h.rev hm hA hf (VN a.length k)]
 have e:(sm a.length fun q=>((Kl m T xs ws A).getD q []).getD 0 0*(eV a.length k).getD q 0)=sm a.length fun q=>if k=q then((Kl m T xs ws A).getD q []).getD 0 0 else 0:=Dl fun q _=>by
  rw[VM hk]
  split
  ·rw[Int.mul_one]
  ·rw[Int.mul_zero]
 rw[e,Nj k (fun q=>((Kl m T xs ws A).getD q []).getD 0 0),if_pos hk]
 have:=BY ((h.bk_ser hm hA hf ws) k (by rw[IV,hl];exact hk)).2 0
 exact (OT this.1 this.2).symm
end
end
section
structure XU (ni:Nat)(T:Tp)(o:List Int):Prop where
 nb:ni≤12
 cl:T.code.length≤3200
 gl:T.grd.length≤3200
 form:∀k,k<T.code.length→Es ni k (T.code.getD k AD.zero)
 gd:∀k,k<T.grd.length→0≤(T.grd.getD k I9.zero).reg∧(T.grd.getD k I9.zero).reg<((T.code.length:Nat):Int)
 ol:1≤o.length∧o.length≤12
 out:∀k,k<o.length→0≤o.getD k 0∧o.getD k 0<((T.code.length:Nat):Int)
theorem XU.pos {ni:Nat}{T:Tp}{o:List Int}(h:XU ni T o):0<T.code.length:=by
 have:=h.out 0 (by have:=h.ol;omega)
 omega
theorem XU.any {ni:Nat}{T:Tp}{o:List Int}(h:XU ni T o):(o.any fun x=>!(decide (0≤x) && decide (x≤((T.code.length:Nat):Int)-1)))=false:=by
 rw[List.any_eq_false]
 intro x hx
 obtain⟨j,hj,rfl⟩:=List.mem_iff_getElem.1 hx
 have h9:=h.out j hj
 rw[List.getD_eq_getElem?_getD,List.getElem?_eq_getElem hj,Option.getD_some]at h9
 rw[A5 h9.1,A5 (show o[j]≤((T.code.length:Nat):Int)-1 by omega)]
 decide
structure Qe (a:List Int)(T:Tp)(o:List Int):Prop where
 k:XU a.length T o
 n:B2 a=true
 e:Jm T o
 i:∀d,B2 d=true→Dg 2 (Cc a d 2) T
section
variable {p:List Fn} {f:Nat} {a d xs ws:List Int} {T:Tp} {s:Nat}
theorem Ll.tpr (h:Ll p f a xs T)(hB:Jl T s)(hs:s≤3000):Qe a T xs:=by
 have hi:∀d,B2 d=true→Dg 2 (Cc a d 2) T:=fun d hd=>(h.tp (m:=2) (by decide) (Dt h.n hd) (Ei _ _)).1
 have h0:=hi _<|H5 a.length
 obtain⟨b1,b2,b3,b4⟩:=hB
 have hp:=h.v.par f h.lt
 have ho:=h.v.outs f h.lt
 have hl:=h.l
 have he:=h.en
 refine⟨⟨zO,zO,zO,fun k hk=>?_,fun k hk=>?_,by rw[he.1];exact ho,h0.outs he.2⟩,h.n,he.2,hi⟩
 ·have:=h0.form k hk
  rwa [BK]at this
 ·have:=(h0.gd k hk).1
  omega
theorem TH {k:Nat}(hk:k<a.length):(Cc a d 2).getD k []=[a.getD k 0,d.getD k 0]:=by rw[Ic hk];rfl
def MD (A:List Sr):List Int:=A.map fun s=>s.getD 1 0
@[simp] theorem NK {A:List Sr}:(MD A).length=A.length:=zg ..
theorem Qe.reg (h:Qe a T xs)(hd:B2 d=true):C0 2 (B5 2 (Cc a d 2) T.code):=(h.i d hd).regs
theorem Qe.adj (h:Qe a T xs)(hd:B2 d=true):C0 2 (IS T.code (B5 2 (Cc a d 2) T.code) xs ws):=(h.i d hd).adj h.e
theorem Qe.nz (h:Qe a T xs)(hd:B2 d=true):KI 2 (Cc a d 2) T.code T.code.length:=(h.i d hd).nz
end
section ops
variable {P:Program} {ops:Array Oper} {w0:World} {Q:Act→World→Prop} {os:List Oper} {ks:List Nat} {N:Nat} {ρ:Nat→Value} {w:World}
 {d:Nat} {ty:TypeId} {pos:String} {aft:Array Edge} {g:Option (Nat×Bool)} {t e:TypeId} {z:Value} {b:Nat}
theorem PD {y0 y1:Operand}{u0 u1:Value}{x0 x1:List Int}(ht:P.underlying t=some (.slice e))(hi:TI P e 1 z b)(hz:z.cells=#[z])
  (h0:Bn N ρ y0=u0) (h1:Bn N ρ y1=u1) (r0:RN [] (AX rI) w.heap u0 x0) (r1:RN [] (AX rI) w.heap u1 x1)
  (hu:Up ops N ρ ⟨some d,.buildSlice t 2 #[(0,y0),(1,y1)],ty,pos,aft,g⟩)
  (h:∀v w1,AG w w1→w1.heap.size=w.heap.size+1→RN [] (AX (AX rI)) w1.heap v [x0,x1]→C8 v→LW P ops w0 Q os ks (mk N (CA ρ d v)) w1) :
  LW P ops w0 Q (⟨some d,.buildSlice t 2 #[(0,y0),(1,y1)],ty,pos,aft,g⟩::os) (3::ks) (mk N ρ) w:=by
 have c0:=r0.one1 g1
 have c1:=r1.one1 g1
 refine Uc (ys:=[u0,u1]) Bs ht hi hz h0 h1 rfl (Kr fun u hu=>?_) hu fun v w1 hE hs hF=>?_
 ·simp only[ze,z2,or_false]at hu
  rcases hu with rfl|rfl
  ·exact c0
  ·exact c1
 ·have hcap:=hF.cap
  obtain⟨F,f1,f2,f3⟩:=hF
  have hB:GR e [] w.heap.size w1.heap v [x0,x1] [u0,u1] F:=by
   refine⟨f1,f2,fun b hb=>(f3 b hb).1,rfl,fun k hk=>?_⟩
   have key:∀ {v0:Value} {x:List Int},RN [] (AX rI) w.heap v0 x→RN ([]++F) (AX rI) w1.heap v0 x:=by
    rintro v0 x ⟨K,k1,k2⟩
    have hlt:=g1.lt k1
    exact⟨K,g1.stable k1 fun c hc=>hE.heap (hlt c hc),fun c hc hm=>by have:=hlt c hc;have:=f3 c (by simpa using hm);omega⟩
   match k with
   |0=>exact key r0
   |1=>exact key r1
   |k+2=>simp at hk;omega
  exact h v w1 hE hs (hB.done fun b hb=>absurd hb z2) hcap
theorem HD {x y:Operand}{v a:Value}{xs ys:List Int}{B T B' U':Nat}{F:List Nat}(ht:P.underlying t=some (.slice e))(hi:TI P e 1 z b)(hz:z.cells=#[z])(hx:Bn N ρ x=v)(hy:Bn N ρ y=a)(hv:Ow (Bi rI e) B T w.heap v xs F)
  (ha:Fr (Bi rI e) B' U' w.heap a ys) (hT:T≤w.heap.size) (hBB:B≤B') (hBw:B'≤w.heap.size) (hbytes:(xs.length+ys.length)*b≤140737488355328) (hmx:xs.length+ys.length≤maxLen) (hu:Up ops N ρ ⟨some d,.call ⟨.builtin .append,#[x,y],#[t,t]⟩,ty,pos,aft,g⟩)
  (h:∀v1 w1 F1,As (F.take 1) w w1→Ow (Bi rI e) B w1.heap.size w1.heap v1 (xs++ys) F1→(∀c∈F1,c∈F∨w.heap.size≤c)→LW P ops w0 Q os ks (mk N (CA ρ d v1)) w1) :
  LW P ops w0 Q (⟨some d,.call ⟨.builtin .append,#[x,y],#[t,t]⟩,ty,pos,aft,g⟩::os) (4::ks) (mk N ρ) w:=by
 obtain⟨h1,h2,h3,h4⟩:=hv
 obtain⟨G,g1',g2',g3'⟩:=ha
 have hG1:G.drop 1=[]:=by
  rcases g1' with⟨_,_,rfl⟩|⟨vs,gb,cap,cur,F',hels,_,_,_,_,_,_,rfl⟩
  ·rfl
  ·rw[Gi hels];rfl
 obtain⟨v',w',F',r1,r2,r3,r4,r5⟩:=Gh (P:=P) (ty:=ty) AK ht hi hz h1 h2 (g1'.rd id) rfl hbytes hmx (by rw[hG1];intro c hc;cases hc) (by rw[hG1];exact zk)
 rw[hG1]at r4
 refine HZ rfl hu v' w' (by simp only[execOp,resolve,invoke,builtin,zc,zf,zh,Sem.run_bind,Sem.run_pure,Result.andThen_ok,hx,hy,r1]) (h v' w' F' r5 ⟨r2,r3,fun c hc=>?_,fun c hc=>(Bb AK).lt r2 c hc⟩ fun c hc=>?_)
 ·rcases r4 c hc with hh|hh|hh
  ·exact h3 c hh
  ·cases hh
  ·omega
 ·rcases r4 c hc with hh|hh|hh
  ·exact .inl hh
  ·cases hh
  ·exact .inr zO
end ops
end
section
section
variable {p:List Fn} {f i k:Nat} {a d e xs ws:List Int} {T:Tp}
theorem Se (h:Ll p f a xs T)(hd:B2 d=true):Ok (B5 2 (Cc a d 2) T.code) xs=GT p f a d:=((h.tp (m:=2) (by decide) (Dt h.n hd) (Ei _ _)).2.1).symm
theorem Ll.rv_col (h:Ll p f a xs T){K:Nat}(hK:K=xs.length)(hw:ws.length=xs.length)(hk:k<a.length) :
  (DG (Kl 2 T xs ws (Cc a a 2))).getD k 0=Id ws ((IQ p f a K a.length).map fun r=>r.getD k 0) ws.length:=by
 unfold DG
 rw[BZ (d:=[]) (by rw[IV,BK];exact hk),h.rev_col (by decide) (Dt h.n h.n) (Ei _ _) hk]
 unfold Id
 rw[hw]
 refine congrArg md (Dl fun i hi=>?_)
 rw[BZ (d:=[]) (by rw[Fw,hK];exact hi),show(IQ p f a K a.length).getD i []=Xh p f a a.length i from C9 [] zO,show(Xh p f a a.length i).getD k 0=_ from C9 0 hk]
 rfl
theorem Ll.rv_dual (h:Ll p f a xs T)(hw:ws.length=xs.length)(hd:B2 d=true) :
  Id ws (MD (GT p f a d)) ws.length=Id (DG (Kl 2 T xs ws (Cc a a 2))) d (DG (Kl 2 T xs ws (Cc a a 2))).length:=by
 have hl:(DG (Kl 2 T xs ws (Cc a a 2))).length=a.length:=by rw[DR,IV,BK]
 have hlen:(GT p f a d).length=xs.length:=by rw[← Se h hd];unfold Ok;rw[zg]
 have h1:=h.rev (ws:=ws) (d:=d) (m:=2) (by decide) (Dt h.n h.n) (Ei _ _) hd
 unfold Id
 rw[hl,hw]
 have e1:(sm xs.length fun j=>ws.getD j 0*(MD (GT p f a d)).getD j 0)=sm xs.length fun i=>ws.getD i 0*((GT p f a d).getD i []).getD 1 0:=Dl fun i hi=>by
  unfold MD;rw[BZ (d:=[]) (by rw[hlen];exact hi)]
 have e2:(sm a.length fun j=>(DG (Kl 2 T xs ws (Cc a a 2))).getD j 0*d.getD j 0)=sm a.length fun k=>((Kl 2 T xs ws (Cc a a 2)).getD k []).getD 0 0*d.getD k 0:=Dl fun k hk=>by
  unfold DG;rw[BZ (d:=[]) (by rw[IV,BK];exact hk)]
 rw[e1,e2];exact h1.symm
end
end
theorem mixed:Tryz.prog.follows .mixedOrders=true:=by kernel_rfl
abbrev BQ (k:Nat):Prop:=((Tryz.prog.funcs[k]?).map fun fn=>(fn.name != "runtime.NumGoroutine") && fn.body.isSome) = some true
theorem BR {k:Nat} (h:((Tryz.prog.funcs[k]?).map fun fn=>(fn.name != "runtime.NumGoroutine") && fn.body.isSome) = some true):BQ k:=h
theorem ZD:BQ 12:=BR (by kernel_rfl)
theorem ZE:BQ 21:=BR (by kernel_rfl)
theorem ZF:BQ 23:=BR (by kernel_rfl)
theorem ZG:BQ 26:=BR (by kernel_rfl)
theorem ZH:BQ 27:=BR (by kernel_rfl)
theorem ZI:BQ 28:=BR (by kernel_rfl)
theorem ZJ:BQ 29:=BR (by kernel_rfl)
theorem ZK:BQ 30:=BR (by kernel_rfl)
theorem ZL:BQ 31:=BR (by kernel_rfl)
theorem ZM:BQ 32:=BR (by kernel_rfl)
theorem VV:BQ 33:=BR (by kernel_rfl)
theorem VW:BQ 50:=BR (by kernel_rfl)
theorem XV:BQ 66:=BR (by kernel_rfl)
theorem ZN:BQ 67:=BR (by kernel_rfl)
theorem H8:BQ 68:=BR (by kernel_rfl)
theorem VX:BQ 69:=BR (by kernel_rfl)
theorem IW:BQ 74:=BR (by kernel_rfl)
theorem ZO:BQ 75:=BR (by kernel_rfl)
theorem VY:BQ 79:=BR (by kernel_rfl)
theorem Sf:BQ 86:=BR (by kernel_rfl)
theorem ZP:BQ 97:=BR (by kernel_rfl)
theorem ZQ:BQ 98:=BR (by kernel_rfl)
theorem ZR:BQ 99:=BR (by kernel_rfl)
theorem Ur:BQ 100:=BR (by kernel_rfl)
theorem PE:BQ 101:=BR (by kernel_rfl)
theorem Sg:BQ 102:=BR (by kernel_rfl)
theorem XW:BQ 103:=BR (by kernel_rfl)
theorem XX:BQ 104:=BR (by kernel_rfl)
theorem XY:BQ 105:=BR (by kernel_rfl)
theorem Us:BQ 106:=BR (by kernel_rfl)
theorem XZ:BQ 107:=BR (by kernel_rfl)
theorem Ut:BQ 108:=BR (by kernel_rfl)
theorem Uu:BQ 109:=BR (by kernel_rfl)
theorem Uv:BQ 110:=BR (by kernel_rfl)
theorem Y0:BQ 111:=BR (by kernel_rfl)
theorem JM:BQ 112:=BR (by kernel_rfl)
theorem Y1:BQ 116:=BR (by kernel_rfl)
theorem CT:BQ 117:=BR (by kernel_rfl)
theorem NL:BQ 122:=BR (by kernel_rfl)
theorem Y2:BQ 123:=BR (by kernel_rfl)
theorem NM:BQ 124:=BR (by kernel_rfl)
theorem Y3:BQ 130:=BR (by kernel_rfl)
theorem M9:BQ 132:=BR (by kernel_rfl)
theorem Y4:BQ 133:=BR (by kernel_rfl)
theorem Y5:BQ 137:=BR (by kernel_rfl)
theorem Y6:BQ 138:=BR (by kernel_rfl)
theorem Y7:BQ 142:=BR (by kernel_rfl)
theorem Uw:BQ 145:=BR (by kernel_rfl)
theorem Y8:BQ 150:=BR (by kernel_rfl)
theorem Ux:BQ 151:=BR (by kernel_rfl)
theorem Sh:BQ 152:=BR (by kernel_rfl)
theorem Y9:BQ 156:=BR (by kernel_rfl)
theorem Ya:BQ 157:=BR (by kernel_rfl)
theorem Uy:BQ 158:=BR (by kernel_rfl)
theorem Yb:BQ 163:=BR (by kernel_rfl)
theorem Uz:BQ 165:=BR (by kernel_rfl)
theorem UA:BQ 168:=BR (by kernel_rfl)
theorem Yc:BQ 169:=BR (by kernel_rfl)
theorem Si:BQ 170:=BR (by kernel_rfl)
theorem Sj:BQ 177:=BR (by kernel_rfl)
theorem UB:BQ 178:=BR (by kernel_rfl)
theorem NN:BQ 179:=BR (by kernel_rfl)
theorem KS:BQ 181:=BR (by kernel_rfl)
theorem UC:BQ 182:=BR (by kernel_rfl)
theorem Yd:BQ 183:=BR (by kernel_rfl)
theorem Ye:BQ 184:=BR (by kernel_rfl)
theorem NO:BQ 185:=BR (by kernel_rfl)
theorem Yf:BQ 186:=BR (by kernel_rfl)
theorem Ma:BQ 187:=BR (by kernel_rfl)
theorem UD:BQ 190:=BR (by kernel_rfl)
theorem Sk:BQ 191:=BR (by kernel_rfl)
theorem Yg:BQ 192:=BR (by kernel_rfl)
theorem Yh:BQ 193:=BR (by kernel_rfl)
theorem PF:BQ 196:=BR (by kernel_rfl)
theorem Yi:BQ 197:=BR (by kernel_rfl)
theorem UE:BQ 198:=BR (by kernel_rfl)
theorem Yj:BQ 201:=BR (by kernel_rfl)
theorem Yk:BQ 203:=BR (by kernel_rfl)
theorem Yl:BQ 204:=BR (by kernel_rfl)
theorem Ym:BQ 205:=BR (by kernel_rfl)
theorem Sl:BQ 206:=BR (by kernel_rfl)
theorem Yn:BQ 207:=BR (by kernel_rfl)
theorem Sm:BQ 210:=BR (by kernel_rfl)
theorem Yo:BQ 214:=BR (by kernel_rfl)
theorem UF:BQ 220:=BR (by kernel_rfl)
theorem H9:BQ 221:=BR (by kernel_rfl)
theorem Yp:BQ 223:=BR (by kernel_rfl)
theorem Yq:BQ 224:=BR (by kernel_rfl)
theorem Yr:BQ 225:=BR (by kernel_rfl)
theorem UG:BQ 226:=BR (by kernel_rfl)
theorem Ys:BQ 228:=BR (by kernel_rfl)
theorem Yt:BQ 229:=BR (by kernel_rfl)
theorem Sn:BQ 230:=BR (by kernel_rfl)
theorem IX:BQ 231:=BR (by kernel_rfl)
theorem Mb:BQ 232:=BR (by kernel_rfl)
theorem Yu:BQ 235:=BR (by kernel_rfl)
theorem UH:BQ 236:=BR (by kernel_rfl)
theorem PG:BQ 237:=BR (by kernel_rfl)
theorem Yw:BQ 238:=BR (by kernel_rfl)
theorem So:BQ 239:=BR (by kernel_rfl)
theorem Yx:BQ 240:=BR (by kernel_rfl)
theorem KT:BQ 241:=BR (by kernel_rfl)
theorem PH:BQ 250:=BR (by kernel_rfl)
theorem Yy:BQ 251:=BR (by kernel_rfl)
theorem UI:BQ 252:=BR (by kernel_rfl)
theorem UJ:BQ 253:=BR (by kernel_rfl)
theorem Yz:BQ 254:=BR (by kernel_rfl)
theorem YB:BQ 255:=BR (by kernel_rfl)
theorem YC:BQ 256:=BR (by kernel_rfl)
theorem YD:BQ 257:=BR (by kernel_rfl)
theorem UK:BQ 258:=BR (by kernel_rfl)
theorem YE:BQ 270:=BR (by kernel_rfl)
theorem UL:BQ 271:=BR (by kernel_rfl)
theorem PI:BQ 272:=BR (by kernel_rfl)
theorem NP:BQ 273:=BR (by kernel_rfl)
theorem YF:BQ 274:=BR (by kernel_rfl)
theorem YG:BQ 286:=BR (by kernel_rfl)
theorem YH:BQ 287:=BR (by kernel_rfl)
theorem AC:C4 Tryz.prog 2:=by unfold C4;kernel_rfl
theorem KU:C4 Tryz.prog 3:=by unfold C4;kernel_rfl
theorem ZS:C4 Tryz.prog 4:=by unfold C4;kernel_rfl
theorem ZT:C4 Tryz.prog 5:=by unfold C4;kernel_rfl
theorem Om:C4 Tryz.prog 9:=by unfold C4;kernel_rfl
theorem PJ:C4 Tryz.prog 22:=by unfold C4;kernel_rfl
theorem C2:C4 Tryz.prog 24:=by unfold C4;kernel_rfl
theorem Bk:C4 Tryz.prog 27:=by unfold C4;kernel_rfl
theorem KV:C4 Tryz.prog 30:=by unfold C4;kernel_rfl
theorem Bf:C4 Tryz.prog 47:=by unfold C4;kernel_rfl
theorem JN:C4 Tryz.prog 52:=by unfold C4;kernel_rfl
theorem Sp:C4 Tryz.prog 53:=by unfold C4;kernel_rfl
theorem HT:C4 Tryz.prog 91:=by unfold C4;kernel_rfl
theorem UM:C4 Tryz.prog 97:=by unfold C4;kernel_rfl
theorem ME:C4 Tryz.prog 178:=by unfold C4;kernel_rfl
theorem GH:(Tryz.prog.info? 2).map (·.size)=some 1:=by kernel_rfl
theorem aN:(Tryz.prog.info? 3).map (·.size)=some 1:=by kernel_rfl
theorem ZU:(Tryz.prog.info? 24).map (·.size)=some 1:=by kernel_rfl
theorem On:(Tryz.prog.info? 27).map (·.size)=some 1:=by kernel_rfl
theorem YI:(Tryz.prog.info? 30).map (·.size)=some 1:=by kernel_rfl
theorem Sq:(Tryz.prog.info? 47).map (·.size)=some 1:=by kernel_rfl
theorem VZ:(Tryz.prog.info? 52).map (·.size)=some 1:=by kernel_rfl
theorem ZV:(Tryz.prog.info? 53).map (·.size)=some 1:=by kernel_rfl
theorem UN:(Tryz.prog.info? 178).map (·.size)=some 1:=by kernel_rfl
theorem Bz:TI Tryz.prog 2 1 (.int .i64 0) 8:=by unfold TI;kernel_rfl
theorem aO:TI Tryz.prog 5 1 (.int .u8 0) 1:=by unfold TI;kernel_rfl
theorem aP:TI Tryz.prog 9 1 (.string ByteArray.empty) 16:=by unfold TI;kernel_rfl
theorem B9:TI Tryz.prog 27 1 (.slice none 0 0) 24:=by unfold TI;kernel_rfl
theorem u2:Tryz.prog.underlying 2=some (.int .i64):=by kernel_rfl
theorem u3:Tryz.prog.underlying 3=some (.int .i64):=by kernel_rfl
theorem u4:Tryz.prog.underlying 4=some (.bool):=by kernel_rfl
theorem u5:Tryz.prog.underlying 5=some (.int .u8):=by kernel_rfl
theorem u9:Tryz.prog.underlying 9=some (.string):=by kernel_rfl
theorem Qk:Tryz.prog.underlying 22=some (.slice 5):=by kernel_rfl
theorem GI:Tryz.prog.underlying 24=some (.slice 49):=by kernel_rfl
theorem Bj:Tryz.prog.underlying 27=some (.slice 2):=by kernel_rfl
theorem BH:Tryz.prog.underlying 30=some (.slice 27):=by kernel_rfl
theorem CZ:Tryz.prog.underlying 47=some (.slice 153):=by kernel_rfl
theorem Oo:Tryz.prog.underlying 52=some (.slice 69):=by kernel_rfl
theorem YJ:Tryz.prog.underlying 53=some (.slice 208):=by kernel_rfl
theorem X0:Tryz.prog.underlying 148=some (.slice 9):=by kernel_rfl
theorem TJ:Tryz.prog.underlying 178=some (.int .u64):=by kernel_rfl
theorem CG:Em Tryz.prog 26 1=true:=by kernel_rfl
theorem Qf:(Tryz.prog.info? 26).map (·.zero)=some (some (.agg #[.slice none 0 0])):=by kernel_rfl
theorem BC:FN Tryz.prog 26 0 0=true:=by kernel_rfl
theorem KW:Em Tryz.prog 49 3=true:=by kernel_rfl
theorem X1:(Tryz.prog.info? 49).map (·.zero)=some (some (.agg #[.string ByteArray.empty,.int .i64 0,.slice none 0 0])):=by kernel_rfl
theorem Cy:TI Tryz.prog 49 3 (.agg #[.string ByteArray.empty,.int .i64 0,.slice none 0 0]) 48:=by unfold TI;kernel_rfl
theorem Jr:FN Tryz.prog 49 0 0=true:=by kernel_rfl
theorem Ck:FN Tryz.prog 49 1 1=true:=by kernel_rfl
theorem BV:FN Tryz.prog 49 2 2=true:=by kernel_rfl
theorem DY:Em Tryz.prog 55 4=true:=by kernel_rfl
theorem YK:(Tryz.prog.info? 55).map (·.zero)=some (some (.agg #[.int .i64 0,.slice none 0 0,.slice none 0 0,.slice none 0 0])):=by kernel_rfl
theorem MF:FN Tryz.prog 55 0 0=true:=by kernel_rfl
theorem EW:FN Tryz.prog 55 1 1=true:=by kernel_rfl
theorem MG:FN Tryz.prog 55 2 2=true:=by kernel_rfl
theorem Js:FN Tryz.prog 55 3 3=true:=by kernel_rfl
theorem EX:Em Tryz.prog 69 4=true:=by kernel_rfl
theorem Ss:(Tryz.prog.info? 69).map (·.zero)=some (some (.agg #[.int .i64 0,.int .i64 0,.int .i64 0,.int .i64 0])):=by kernel_rfl
theorem IY:TI Tryz.prog 69 4 (.agg #[.int .i64 0,.int .i64 0,.int .i64 0,.int .i64 0]) 32:=by unfold TI;kernel_rfl
theorem KX:FN Tryz.prog 69 0 0=true:=by kernel_rfl
theorem CH:FN Tryz.prog 69 1 1=true:=by kernel_rfl
theorem Cx:FN Tryz.prog 69 2 2=true:=by kernel_rfl
theorem EY:FN Tryz.prog 69 3 3=true:=by kernel_rfl
theorem PK:FN Tryz.prog 129 0 0=true:=by kernel_rfl
theorem Fx:FN Tryz.prog 129 1 1=true:=by kernel_rfl
theorem Du:FN Tryz.prog 129 2 5=true:=by kernel_rfl
theorem MH:FN Tryz.prog 129 3 6=true:=by kernel_rfl
theorem EG:FN Tryz.prog 129 4 7=true:=by kernel_rfl
theorem Ej:FN Tryz.prog 151 0 0=true:=by kernel_rfl
theorem TK:FN Tryz.prog 151 1 1=true:=by kernel_rfl
theorem MI:FN Tryz.prog 151 2 2=true:=by kernel_rfl
theorem TL:FN Tryz.prog 151 3 3=true:=by kernel_rfl
theorem B6:Em Tryz.prog 153 5=true:=by kernel_rfl
theorem Ha:(Tryz.prog.info? 153).map (·.zero)=some (some (.agg #[.int .i64 0,.int .i64 0,.int .i64 0,.int .i64 0,.slice none 0 0])):=by kernel_rfl
theorem Bm:TI Tryz.prog 153 5 (.agg #[.int .i64 0,.int .i64 0,.int .i64 0,.int .i64 0,.slice none 0 0]) 56:=by unfold TI;kernel_rfl
theorem Bg:FN Tryz.prog 153 0 0=true:=by kernel_rfl
theorem BE:FN Tryz.prog 153 1 1=true:=by kernel_rfl
theorem D3:FN Tryz.prog 153 2 2=true:=by kernel_rfl
theorem Di:FN Tryz.prog 153 3 3=true:=by kernel_rfl
theorem B8:FN Tryz.prog 153 4 4=true:=by kernel_rfl
theorem TM:FN Tryz.prog 187 0 0=true:=by kernel_rfl
theorem MJ:FN Tryz.prog 187 1 1=true:=by kernel_rfl
theorem Km:FN Tryz.prog 187 2 2=true:=by kernel_rfl
theorem Gu:FN Tryz.prog 187 3 3=true:=by kernel_rfl
theorem St:Em Tryz.prog 208 2=true:=by kernel_rfl
theorem YL:(Tryz.prog.info? 208).map (·.zero)=some (some (.agg #[.int .i64 0,.bool false])):=by kernel_rfl
theorem Oq:TI Tryz.prog 208 2 (.agg #[.int .i64 0,.bool false]) 16:=by unfold TI;kernel_rfl
theorem TN:FN Tryz.prog 208 0 0=true:=by kernel_rfl
theorem PL:FN Tryz.prog 225 0 0=true:=by kernel_rfl
theorem TO:FN Tryz.prog 225 1 1=true:=by kernel_rfl
theorem Kn:FN Tryz.prog 225 2 2=true:=by kernel_rfl
theorem Gv:FN Tryz.prog 225 3 3=true:=by kernel_rfl
theorem Or:Em Tryz.prog 249 2=true:=by kernel_rfl
theorem TP:FN Tryz.prog 249 0 0=true:=by kernel_rfl
theorem TQ:FN Tryz.prog 249 1 1=true:=by kernel_rfl
section
set_option maxHeartbeats 4000000
set_option maxRecDepth 100000
attribute [local irreducible] LW
theorem AV (w:World)(n:Int)(low:Int)(high:Int)(_hn:Bt n)(_hlow:Bt low)(_hhigh:Bt high)  :
  Calls Tryz.prog 117 #[zI n,zI low,zI high] w (fun e w'=>e=.returned (.bool (decide (low≤n) && decide (n≤high)))∧w'=w):=by
 refine Ap [zI n,zI low,zI high] 15 Tryz.func117 Z Z sM ?_
 have a0:w=w:=rfl
 refine aI Z<|aH [0,0,0,0,0,0,0,0,0] Z<|Ad 2 Z ?_
 by_cases a1:low≤n
 ·exact Fp true Z Z (A5 a1) Aa<|Ad 3 Z<|DJ (decide (n≤high)) Z Z Z (Ae (e:=10) Z Z Z)<|Ac 2 Z<|A1<|Af [6] Z (.bool<|decide (n≤high)) Z ⟨AJ (by simp[*]),a0⟩
 exact Fp false Z Z (A6 a1) Aa<|Ac 6 Z<|A1<|Af [6] Z (.bool false) Z ⟨AJ (by simp[*]),a0⟩
theorem Bv (w:World)(n:Int)(low:Int)(high:Int)(_hn:Bt n)(_hlow:Bt low)(_hhigh:Bt high)  :
  Calls Tryz.prog 74 #[zI n,zI low,zI high] w (fun e w'=>e=.returned (.bool (decide (low≤n) && decide (n≤high)))∧w'=w):=by
 refine Ap [zI n,zI low,zI high] 15 Tryz.func74 Z Z sM ?_
 have a0:w=w:=rfl
 refine aI Z<|aH [0,0,0,0,0,0,0,0,0] Z<|Ad 2 Z ?_
 by_cases a1:low≤n
 ·exact Fp true Z Z (A5 a1) Aa<|Ad 3 Z<|DJ (decide (n≤high)) Z Z Z (Ae (e:=10) Z Z Z)<|Ac 2 Z<|A1<|Af [6] Z (.bool<|decide (n≤high)) Z ⟨AJ (by simp[*]),a0⟩
 exact Fp false Z Z (A6 a1) Aa<|Ac 6 Z<|A1<|Af [6] Z (.bool false) Z ⟨AJ (by simp[*]),a0⟩
theorem CI (w:World)(n:Int)(_hn:Bt n)  :
  Calls Tryz.prog 232 #[zI n] w (fun e w'=>e=.returned (zI (md n))∧w'=w):=by
 refine Ap [zI n] 7 Tryz.func232 Z Z sM ?_
 have a0:w=w:=rfl
 exact aI Z<|aH [0,0,0,0,0] Z<|Ad 1 Z<|DB (n.tmod 1000003) Z Z (by decide) Z Aa<|AN (wr ((n.tmod 1000003)+((1000003:Nat):Int))) Z Z Z Aa<|DB ((wr ((n.tmod 1000003)+((1000003:Nat):Int))).tmod 1000003) Z Z (by decide) Z Aa<|Ac 1 Z<|A1<|Af [2] Z (zI<|(wr ((n.tmod 1000003)+((1000003:Nat):Int))).tmod 1000003) Z ⟨B1<|Va n,a0⟩
theorem Hb (w:World)(a:Int)(b:Int)(_ha:Bt a)(_hb:Bt b)  :
  Calls Tryz.prog 230 #[zI a,zI b] w (fun e w'=>e=.returned (zI (md (a+b)))∧w'=w):=by
 refine Ap [zI a,zI b] 11 Tryz.func230 Z Z sM ?_
 have a0:w=w:=rfl
 exact aI Z<|aH [0,0,0,0,0,0,0] Z<|Ad 1 Z<|AA 232 [] [] [zI a] Z Z Mb Aa (zI<|md a) (fun wq=>CI wq _ _ha)<|Ad 1 Z<|AA 232 [] [] [zI b] Z Z Mb Aa (zI<|md b) (fun wq=>CI wq _ _hb)<|AN (wr ((md a)+(md b))) Z Z Z Aa<|DB ((wr ((md a)+(md b))).tmod 1000003) Z Z (by decide) Z Aa<|Ac 1 Z<|A1<|Af [4] Z (zI<|(wr ((md a)+(md b))).tmod 1000003) Z ⟨B1<|OV a b,a0⟩
theorem IZ (w:World)(a:Int)(b:Int)(_ha:Bt a)(_hb:Bt b)  :
  Calls Tryz.prog 190 #[zI a,zI b] w (fun e w'=>e=.returned (zI (md (a*b)))∧w'=w):=by
 refine Ap [zI a,zI b] 11 Tryz.func190 Z Z sM ?_
 have a0:w=w:=rfl
 exact aI Z<|aH [0,0,0,0,0,0,0] Z<|Ad 1 Z<|AA 232 [] [] [zI a] Z Z Mb Aa (zI<|md a) (fun wq=>CI wq _ _ha)<|Ad 1 Z<|AA 232 [] [] [zI b] Z Z Mb Aa (zI<|md b) (fun wq=>CI wq _ _hb)<|Fm (wr ((md a)*(md b))) Z Z Z Aa<|DB ((wr ((md a)*(md b))).tmod 1000003) Z Z (by decide) Z Aa<|Ac 1 Z<|A1<|Af [4] Z (zI<|(wr ((md a)*(md b))).tmod 1000003) Z ⟨B1<|Nb a b,a0⟩
theorem Gw (w:World)(a:Int)(b:Int)(_ha:Bt a)(_hb:Bt b)  :
  Calls Tryz.prog 191 #[zI a,zI b] w (fun e w'=>e=.returned (zI (md (a-b)))∧w'=w):=by
 refine Ap [zI a,zI b] 10 Tryz.func191 Z Z sM ?_
 have a0:w=w:=rfl
 exact aI Z<|aH [0,0,0,0,0,0] Z<|Ad 2 Z<|AA 232 [] [] [zI b] Z Z Mb Aa (zI<|md b) (fun wq=>CI wq _ _hb)<|BB (wr (((1000003:Nat):Int)-(md b))) Z Z Z Aa<|AA 230 [] [] [zI a,zI<|wr (((1000003:Nat):Int)-(md b))] Z Z Sn Aa (zI<|md (a+(wr (((1000003:Nat):Int)-(md b))))) (fun wq=>Hb wq _ _ _ha<|NW _)<|Ac 1 Z<|A1<|Af [4] Z (zI<|md (a+(wr (((1000003:Nat):Int)-(md b))))) Z ⟨B1<|QI a b,a0⟩
theorem X2 (n:Int)(h:n.tmod 1000003<((0:Nat):Int)):wr (n.tmod 1000003+((1000003:Nat):Int))=md n:=by
  have h1:=C1 n;have h2:=ER n;have h3:=C1 (-n);have h4:=ER (-n)
  rw[tm n]at h ⊢
  split at h
  · omega
  · rename_i h0
    rw[if_neg h0,FQ zO (by omega)]
    have e1:md (-(md (-n))+((1000003:Nat):Int))=md (-(md (-n))):=QH _
    rw[Jd,Int.neg_neg,OT zO (by omega)]at e1
    exact e1
theorem X3 (n:Int)(h:¬n.tmod 1000003<((0:Nat):Int)):n.tmod 1000003=md n:=by
  have h1:=C1 n;have h2:=ER n;have h3:=C1 (-n);have h4:=ER (-n)
  rw[tm n]at h ⊢
  split
  · rfl
  · rename_i h0
    rw[if_neg h0]at h
    have e0:md (-n)=0:=by omega
    have e1:=Jd (-n)
    rw[e0,Int.neg_neg]at e1
    rw[e0,← e1]
    rfl
theorem Su {p:Prop}(h:p:=by first|exact B1 (X2 n (by assumption))|exact B1 (X3 n (by assumption))):p:=h
theorem CJ (w:World)(n:Int)(_hn:Bt n)  :
  Calls Tryz.prog 132 #[zI n] w (fun e w'=>e=.returned (zI (md n))∧w'=w):=by
 refine Ap [zI n] 11 Tryz.func132 Z Z sM ?_
 have a0:w=w:=rfl
 refine aI Z<|aH [0,0,0] Z<|Ad 1 Z<|DB (n.tmod 1000003) Z Z (by decide) Z Aa<|Ac 1 Z<|A0<|aH [0,0] Z<|Ad 1 Z ?_
 by_cases a1:n.tmod 1000003<((0:Nat):Int)
 ·exact AE true Z Z (A5 a1) Aa<|Aj<|Ag Z<|Ab _ [0,0,0] Z<|Ad 1 Z<|AN (wr ((n.tmod 1000003)+((1000003:Nat):Int))) Z Z Z Aa<|Ac 1 Z<|aH [0,0] Z<|Ac 2 Z<|A1<|Af [2] Z (zI<|wr ((n.tmod 1000003)+((1000003:Nat):Int))) Z ⟨Su,a0⟩
 exact AE false Z Z (A6 a1) Aa<|Aj<|Ai Z<|A2<|aH [0,0] Z<|Ac 2 Z<|A1<|Af [2] Z (zI<|n.tmod 1000003) Z ⟨Su,a0⟩
theorem Hc (w:World)(a:Int)(b:Int)(_ha:Bt a)(_hb:Bt b)  :
  Calls Tryz.prog 50 #[zI a,zI b] w (fun e w'=>e=.returned (zI (md (a+b)))∧w'=w):=by
 refine Ap [zI a,zI b] 11 Tryz.func50 Z Z sM ?_
 have a0:w=w:=rfl
 exact aI Z<|aH [0,0,0,0,0,0,0] Z<|Ad 1 Z<|AA 132 [] [] [zI a] Z Z M9 Aa (zI<|md a) (fun wq=>CJ wq _ _ha)<|Ad 1 Z<|AA 132 [] [] [zI b] Z Z M9 Aa (zI<|md b) (fun wq=>CJ wq _ _hb)<|AN (wr ((md a)+(md b))) Z Z Z Aa<|DB ((wr ((md a)+(md b))).tmod 1000003) Z Z (by decide) Z Aa<|Ac 1 Z<|A1<|Af [4] Z (zI<|(wr ((md a)+(md b))).tmod 1000003) Z ⟨B1<|OV a b,a0⟩
theorem Ct (w:World)(a:Int)(b:Int)(_ha:Bt a)(_hb:Bt b)  :
  Calls Tryz.prog 112 #[zI a,zI b] w (fun e w'=>e=.returned (zI (md (a*b)))∧w'=w):=by
 refine Ap [zI a,zI b] 11 Tryz.func112 Z Z sM ?_
 have a0:w=w:=rfl
 exact aI Z<|aH [0,0,0,0,0,0,0] Z<|Ad 1 Z<|AA 132 [] [] [zI a] Z Z M9 Aa (zI<|md a) (fun wq=>CJ wq _ _ha)<|Ad 1 Z<|AA 132 [] [] [zI b] Z Z M9 Aa (zI<|md b) (fun wq=>CJ wq _ _hb)<|Fm (wr ((md a)*(md b))) Z Z Z Aa<|DB ((wr ((md a)*(md b))).tmod 1000003) Z Z (by decide) Z Aa<|Ac 1 Z<|A1<|Af [4] Z (zI<|(wr ((md a)*(md b))).tmod 1000003) Z ⟨B1<|Nb a b,a0⟩
theorem JQ (w:World)(a:Int)(b:Int)(_ha:Bt a)(_hb:Bt b)(hs:-9223372036854775808≤a-b∧a-b≤9223372036854775807) :
  Calls Tryz.prog 223 #[zI a,zI b] w (fun e w'=>e=.returned (zI (md (a-b)))∧w'=w):=by
 refine Ap [zI a,zI b] 9 Tryz.func223 Z Z sM ?_
 have a0:w=w:=rfl
 exact aI Z<|aH [0,0,0,0,0] Z<|Ad 2 Z<|BB (wr (a-b)) Z Z Z Aa<|AA 132 [] [] [zI<|wr (a-b)] Z Z M9 Aa (zI<|md<|wr (a-b)) (fun wq=>CJ wq _<|NW _)<|Ac 1 Z<|A1<|Af [4] Z (zI<|md<|wr (a-b)) Z ⟨B1 (by rw[FQ hs.1 hs.2]),a0⟩
theorem MK {p:Prop}(h:p:=by exact⟨zO,by first|exact Vd hI.2 oM (by assumption)|exact T0 hI.2 oM (by assumption)⟩):p:=h
theorem ML (w:World)(a:Int)(n:Int)(_ha:Bt a)(_hn:Bt n)  :
  Calls Tryz.prog 224 #[zI a,zI n] w (fun e w'=>e=.returned (zI (pw a n))∧w'=w):=by
 refine Ap [zI a,zI n] 25 Tryz.func224 Z Z sM ?_
 have a0:w=w:=rfl
 refine aI Z<|A0<|aH [0,0] Z<|Ad 1 Z ?_
 by_cases a2:n<((0:Nat):Int)
 ·exact AE true Z Z (A5 a2) Aa<|Aj<|Ag Z<|aI Z<|A1<|Am<|Af [4] Z (zI ((0:Nat):Int)) Z ⟨B1<|QK (by assumption),a0⟩
 refine AE false Z Z (A6 a2) Aa<|Aj<|Ai Z<|A2<|aI Z<|aH [0,0,0] Z<|Ad 1 Z<|AA 132 [] [] [zI a] Z Z M9 Aa (zI<|md a) (fun wq=>CJ wq _ _ha)<|Ac 1 Z<|A0<|A3 ?_
 refine AW (S:=Int×Int×Int) (fun⟨m,x,b⟩=>([(1,zI m),(5,zI x),(6,zI b)])) (fun⟨m,x,b⟩ W=>W=w∧(0≤m∧md (x*b ^ m.toNat)=md (a ^ n.toNat))∧m≤9223372036854775807∧(0≤x∧x<1000003)∧(0≤b∧b<1000003)) (fun⟨m,x,b⟩=>m.toNat) (n,((1:Nat):Int),md a) ⟨rfl,rfl,rfl,trivial⟩ ⟨a0,(by exact⟨zO,Nc a n.toNat⟩),oM,oM,(by exact BU _)⟩ ?_
 clear a0
 rintro⟨m,x,b⟩ ρ3 w3 ⟨a1,hI,hm,hx,hb⟩
 refine A0<|aH [0,0] Z<|Ad 1 Z ?_
 by_cases a3:((0:Nat):Int)<m
 ·refine BN true Z Z (A5 a3) Aa<|Aj<|Ag Z<|A2<|A3<|A0<|aH [0,0,0] Z<|Ad 1 Z<|DB (m % 2) Z Z (by decide) (aL hI.1) Aa ?_
  by_cases a4:m % 2=((1:Nat):Int)
  ·refine Al true Z Z (A5 a4) Aa<|Aj<|Ag Z<|Ab _ [0,0,0,0] Z<|Ad 2 Z<|AA 112 [] [] [zI x,zI b] Z Z JM Aa (zI<|md (x*b)) (fun wq=>Ct wq _ _ oM oM)<|Ac 1 Z<|aH [0,0,0,0] Z<|Ad 2 Z<|AA 112 [] [] [zI b,zI b] Z Z JM Aa (zI<|md (b*b)) (fun wq=>Ct wq _ _ oM oM)<|Ac 1 Z<|Ab _ [0,0,0] Z<|Ad 1 Z<|OK (m / 2) Z Z (by decide) (Z7 hI.1 hm) Aa<|Ac 1 Z ?_
   exact⟨(m / 2,md (x*b),md (b*b)),_,rfl,zR,⟨a1,MK,oM,(by first|exact hx|exact BU _),(by exact BU _)⟩,zD⟩
  exact Al false Z Z (A6 a4) Aa<|Aj<|Ai Z<|A2<|aH [0,0,0,0] Z<|Ad 2 Z<|AA 112 [] [] [zI b,zI b] Z Z JM Aa (zI<|md (b*b)) (fun wq=>Ct wq _ _ oM oM)<|Ac 1 Z<|Ab _ [0,0,0] Z<|Ad 1 Z<|OK (m / 2) Z Z (by decide) (Z7 hI.1 hm) Aa<|Ac 1 Z ⟨(m / 2,x,md (b*b)),_,rfl,zR,⟨a1,MK,oM,(by first|exact hx|exact BU _),(by exact BU _)⟩,zD⟩
 exact BN false Z Z (A6 a3) Aa<|Aj<|Ai Z<|A4<|Av<|Av<|Aq<|aH [0,0] Z<|Ac 2 Z<|A1<|Af [4] Z (zI x) Z ⟨B1<|QJ hI.2 hI.1 (by assumption) (by assumption) hx,a1⟩
theorem MM (w:World)(a:Int)(n:Int)(_ha:Bt a)(_hn:Bt n)  :
  Calls Tryz.prog 257 #[zI a,zI n] w (fun e w'=>e=.returned (zI (pw a n))∧w'=w):=by
 refine Ap [zI a,zI n] 27 Tryz.func257 Z Z sM ?_
 have a0:w=w:=rfl
 refine aI Z<|A0<|aH [0,0] Z<|Ad 1 Z ?_
 by_cases a2:n<((0:Nat):Int)
 ·exact AE true Z Z (A5 a2) Aa<|Aj<|Ag Z<|aI Z<|A1<|Am<|Af [4] Z (zI ((0:Nat):Int)) Z ⟨B1<|QK (by assumption),a0⟩
 refine AE false Z Z (A6 a2) Aa<|Aj<|Ai Z<|A2<|aI Z<|A0<|aH [0,0,0] Z<|Ad 1 Z<|AA 232 [] [] [zI a] Z Z Mb Aa (zI<|md a) (fun wq=>CI wq _ _ha)<|Ac 1 Z<|A3 ?_
 refine AW (S:=Int×Int×Int) (fun⟨m,x,b⟩=>([(1,zI m),(5,zI x),(6,zI b)])) (fun⟨m,x,b⟩ W=>W=w∧(0≤m∧md (x*b ^ m.toNat)=md (a ^ n.toNat))∧m≤9223372036854775807∧(0≤x∧x<1000003)∧(0≤b∧b<1000003)) (fun⟨m,x,b⟩=>m.toNat) (n,((1:Nat):Int),md a) ⟨rfl,rfl,rfl,trivial⟩ ⟨a0,(by exact⟨zO,Nc a n.toNat⟩),oM,oM,(by exact BU _)⟩ ?_
 clear a0
 rintro⟨m,x,b⟩ ρ3 w3 ⟨a1,hI,hm,hx,hb⟩
 refine A0<|aH [0,0] Z<|Ad 1 Z ?_
 by_cases a3:((0:Nat):Int)<m
 ·refine BN true Z Z (A5 a3) Aa<|Aj<|Ag Z<|A2<|A0<|A3<|A0<|aH [0,0,0] Z<|Ad 1 Z<|DB (m % 2) Z Z (by decide) (aL hI.1) Aa ?_
  by_cases a4:m % 2=((1:Nat):Int)
  ·refine Al true Z Z (A5 a4) Aa<|Aj<|Ag Z<|Ab _ [0,0,0,0,0] Z<|Ad 2 Z<|Fm (wr (x*b)) Z Z Z Aa<|DB (md (x*b)) Z Z (by decide) (Nd hx hb) Aa<|Ac 1 Z<|Ab _ [0,0,0,0,0] Z<|Ad 2 Z<|Fm (wr (b*b)) Z Z Z Aa<|DB (md (b*b)) Z Z (by decide) (Nd hb hb) Aa<|Ac 1 Z<|Ab _ [0,0,0] Z<|Ad 1 Z<|OK (m / 2) Z Z (by decide) (Z7 hI.1 hm) Aa<|Ac 1 Z ?_
   exact⟨(m / 2,md (x*b),md (b*b)),_,rfl,zR,⟨a1,MK,oM,(by first|exact hx|exact BU _),(by exact BU _)⟩,zD⟩
  exact Al false Z Z (A6 a4) Aa<|Aj<|Ai Z<|A2<|Ab _ [0,0,0,0,0] Z<|Ad 2 Z<|Fm (wr (b*b)) Z Z Z Aa<|DB (md (b*b)) Z Z (by decide) (Nd hb hb) Aa<|Ac 1 Z<|Ab _ [0,0,0] Z<|Ad 1 Z<|OK (m / 2) Z Z (by decide) (Z7 hI.1 hm) Aa<|Ac 1 Z ⟨(m / 2,x,md (b*b)),_,rfl,zR,⟨a1,MK,oM,(by first|exact hx|exact BU _),(by exact BU _)⟩,zD⟩
 exact BN false Z Z (A6 a3) Aa<|Aj<|Ai Z<|A4<|Av<|Av<|Aq<|aH [0,0] Z<|Ac 2 Z<|A1<|Af [4] Z (zI x) Z ⟨B1<|QJ hI.2 hI.1 (by assumption) (by assumption) hx,a1⟩
theorem Lr (w:World)(a:Int)(_ha:Bt a)  :
  Calls Tryz.prog 163 #[zI a] w (fun e w'=>e=.returned (zI (inv a))∧w'=w):=by
 refine Ap [zI a] 5 Tryz.func163 Z Z sM ?_
 have a0:w=w:=rfl
 exact aI Z<|aH [0,0,0] Z<|Ad 1 Z<|AA 224 [] [] [zI a,zI ((1000001:Nat):Int)] Z Z Yq Aa (zI<|pw a ((1000001:Nat):Int)) (fun wq=>ML wq _ _ _ha oM)<|Ac 1 Z<|A1<|Af [2] Z (zI<|pw a ((1000001:Nat):Int)) Z ⟨rfl,a0⟩
theorem Hd (w:World)(a:Int)(_ha:Bt a)  :
  Calls Tryz.prog 226 #[zI a] w (fun e w'=>e=.returned (zI (inv a))∧w'=w):=by
 refine Ap [zI a] 5 Tryz.func226 Z Z sM ?_
 have a0:w=w:=rfl
 exact aI Z<|aH [0,0,0] Z<|Ad 1 Z<|AA 257 [] [] [zI a,zI ((1000001:Nat):Int)] Z Z YD Aa (zI<|pw a ((1000001:Nat):Int)) (fun wq=>MM wq _ _ _ha oM)<|Ac 1 Z<|A1<|Af [2] Z (zI<|pw a ((1000001:Nat):Int)) Z ⟨rfl,a0⟩
theorem Ev (w:World)(n:Int)(_hn:Bt n)  :
  Calls Tryz.prog 170 #[zI n] w (fun e w'=>e=.returned (.bool (HP n))∧w'=w):=by
 refine Ap [zI n] 5 Tryz.func170 Z Z sM ?_
 have a0:w=w:=rfl
 exact aI Z<|aH [0,0,0] Z<|Ad 1 Z<|AA 117 [] [] [zI n,zI ((0:Nat):Int),zI ((1000002:Nat):Int)] Z Z CT Aa (.bool (decide (((0:Nat):Int)≤n) && decide (n≤((1000002:Nat):Int)))) (fun wq=>AV wq _ _ _ _hn oM oM)<|Ac 1 Z<|A1<|Af [2] Z (.bool (decide (((0:Nat):Int)≤n) && decide (n≤((1000002:Nat):Int)))) Z ⟨AJ (by unfold HP;rfl),a0⟩
theorem G6 (w:World)(n:Int)(_hn:Bt n)  :
  Calls Tryz.prog 220 #[zI n] w (fun e w'=>e=.returned (.bool (HP n))∧w'=w):=by
 refine Ap [zI n] 5 Tryz.func220 Z Z sM ?_
 have a0:w=w:=rfl
 exact aI Z<|aH [0,0,0] Z<|Ad 1 Z<|AA 74 [] [] [zI n,zI ((0:Nat):Int),zI ((1000002:Nat):Int)] Z Z IW Aa (.bool (decide (((0:Nat):Int)≤n) && decide (n≤((1000002:Nat):Int)))) (fun wq=>Bv wq _ _ _ _hn oM oM)<|Ac 1 Z<|A1<|Af [2] Z (.bool (decide (((0:Nat):Int)≤n) && decide (n≤((1000002:Nat):Int)))) Z ⟨AJ (by unfold HP;rfl),a0⟩
theorem HG (w:World)(n:Int)(_hn:Bt n)  :
  Calls Tryz.prog 169 #[zI n] w (fun e w'=>e=.returned (.bool (!HP n))∧AG w w'):=by
 refine Ap [zI n] 6 Tryz.func169 Z Z sM ?_
 have a0:AG w w:=AG.refl w
 exact aI Z<|aH [0,0,0,0] Z<|Ad 1 Z<|AA 170 [] [] [zI n] Z Z Si Aa (.bool<|HP n) (fun wq=>Ev wq _ _hn)<|Br (!(HP n)) Z Z Aa<|Ac 1 Z<|A1<|Af [2] Z (.bool (!(HP n))) Z ⟨rfl,a0⟩
def Ql {α:Type}(p:α→Bool)(l:List α):Int:=if l.any p then((l.findIdx p:Nat):Int)else -1
theorem Sv {α:Type}{p:α→Bool}{l:List α}{k:Nat}(d:α)(h:∀j,j<k→p (l.getD j d)=false)(hk:k<l.length)(hp:p (l.getD k d)=true):((k:Nat):Int)=Ql p l:=by
  have e:∀j,(hj:j<l.length)→l.getD j d=l[j]:=fun j hj=>by simp[hj]
  have h1:l.any p=true:=List.any_eq_true.2 ⟨l[k],List.getElem_mem hk,by rw[← e k hk];exact hp⟩
  have h2:l.findIdx p=k:=by
    rw[List.findIdx_eq hk]
    refine⟨by rw[← e k hk];exact hp,fun j hj=>?_⟩
    have:=h j hj
    rw[e j (by omega)]at this
    exact this
  unfold Ql;rw[if_pos h1,h2]
theorem UO {α:Type}{p:α→Bool}{l:List α}{k:Nat}(d:α)(h:∀j,j<k→p (l.getD j d)=false)(hk:l.length≤k):(-1:Int)=Ql p l:=by
  have h1:l.any p=false:=by
    rw[List.any_eq_false]
    intro x hx
    obtain⟨j,hj,rfl⟩:=List.getElem_of_mem hx
    have:=h j zO
    have e:l.getD j d=l[j]:=by simp[hj]
    rw[e]at this
    simp[this]
  unfold Ql;rw[h1];rfl
theorem UP {α:Type}(p:α→Bool)(l:List α):decide (((0:Nat):Int)≤Ql p l)=l.any p:=by
  unfold Ql
  split
  · rename_i h;rw[h];exact A5 zO
  · rename_i h;rw[Bool.not_eq_true]at h;rw[h];exact A6 zO
theorem PM {α:Type}{p:α→Bool}{l:List α}{k:Nat}{d:α}(h:∀j,j<k→p (l.getD j d)=false)(hp:p (l.getD k d)=false):∀j,j<k+1→p (l.getD j d)=false:=by
  intro j hj
  by_cases e:j=k
  · subst e;exact hp
  · exact h j zO
theorem DH (w:World) (va:Value) (a:Sr) (q:Nat) (qf qc:List Value) (p:Int→Bool) (ha:Rd (AX rI) w.heap va a) (hcf_q:((Tryz.prog.funcs[q]?).map fun fn=>(fn.name != "runtime.NumGoroutine") && fn.body.isSome) = some true) (hp:∀ (x:Int),Bt x→∀ w1,AG w w1→Calls Tryz.prog q (qf++[Value.int .i64 x]++qc).toArray w1 (fun e w2=>e = .returned (.bool (p x))∧AG w1 w2))  :
  Calls Tryz.prog 225 #[va,.func (.func q) qf.toArray qc.toArray] w (fun e w'=>e = .returned (zI (Ql p a))∧AG w w'):=by
 refine Ap [va,.func (.func q) qf.toArray qc.toArray] 19 Tryz.func225 Z Z sM ?_
 have a3:AG w w:=AG.refl w
 have aa:=ha.lenle
 refine aI Z<|A0<|aH [0,0,0] Z<|Ad 1 Z<|AO (v:=va) Bj Z ha.isSl Aa<|Ac 1 Z<|A3 ?_
 refine AW (S:=Nat) (fun k=>([(8,zI ((k :Nat):Int)),(0,va),(1,.func (.func q) qf.toArray qc.toArray),(7,zI ((a.length :Nat):Int))])) (fun k W=>AG w W∧k≤a.length∧(∀ j,j < k→p (a.getD j 0) = false)) (fun k=>a.length - k) 0 ⟨rfl,rfl,rfl,rfl,trivial⟩ ⟨a3,sD,(by intro j hj; omega)⟩ ?_
 clear a3
 rintro k ρ1 w1 ⟨a1,a4,hq⟩
 have a7:w.heap.size≤w1.heap.size:=a1.size
 refine aH [0] Z ?_
 by_cases a5:((k :Nat):Int) < ((a.length :Nat):Int)
 ·
  refine AE true Z Z (A5 a5) Aa<|Aj<|A0<|Ag Z<|A2<|A0<|A3<|aH [0,0] Z<|Ac 2 Z<|aH [0,0,0,0,2,3] Z<|Ad 3 Z<|Az (v:=va) k Bj Bz Z Z ha.isSl Z sD Aa ?_
  refine Ah (p:=Ax va k 1) (.inr Z) (zI<|a.getD k 0) AC Z (Bc a1 (ha.getI sD).1) Aa ?_
  have a0:=hp (a.getD k 0) (ha.getI sD).2 _ a1
  refine Au q qf qc _ Z Z hcf_q Aa a0 ?_
  rintro e3 w3 ⟨rfl,a2⟩
  refine ⟨_,rfl,a2,?_⟩
  have a8:=a2.size
  have a6:=a1.trans a2
  cases a9:p (a.getD k 0)
  ·
   refine Aj<|Ai Z<|A2<|Ab _ [0,0] Z<|AN ((k + 1 :Nat):Int) Z Z (Be oM sD) Aa<|Ac 1 Z ?_
   exact ⟨k + 1,_,rfl,zR,⟨a6,sD,(by exact PM hq (by assumption))⟩,by first | omega | (dsimp only; omega)⟩
  
  exact Aj<|Ag Z<|aH [0,0] Z<|Ac 2 Z<|A1<|AF<|Am<|Am<|AF<|Am<|Af [4] Z (zI ((k :Nat):Int)) Z ⟨B1<|Sv 0 hq oM (by assumption),a6⟩
 
 exact AE false Z Z (A6 a5) Aa<|Aj<|A0<|Ai Z<|A4<|Av<|Av<|Aq<|aI Z<|A1<|Af [4] Z (zI (-1)) Z ⟨B1<|UO 0 hq oM,a1⟩
theorem C6 (w:World) (va:Value) (a:Sr) (q:Nat) (qf qc:List Value) (p:Int→Bool) (ha:Rd (AX rI) w.heap va a) (hcf_q:((Tryz.prog.funcs[q]?).map fun fn=>(fn.name != "runtime.NumGoroutine") && fn.body.isSome) = some true) (hp:∀ (x:Int),Bt x→∀ w1,AG w w1→Calls Tryz.prog q (qf++[Value.int .i64 x]++qc).toArray w1 (fun e w2=>e = .returned (.bool (p x))∧AG w1 w2))  :
  Calls Tryz.prog 168 #[va,.func (.func q) qf.toArray qc.toArray] w (fun e w'=>e = .returned (.bool (a.any p))∧AG w w'):=by
 refine Ap [va,.func (.func q) qf.toArray qc.toArray] 9 Tryz.func168 Z Z sM ?_
 have a0:AG w w:=AG.refl w
 have a4:=ha.lenle
 refine aI Z<|aH [0,0,3,0,0] Z<|Ad 2 Z<|Au 225 [] [] [va,.func (.func q) qf.toArray qc.toArray] Z Z Yr Aa (DH _ _ _ q qf qc p (ha.ext g1 a0) hcf_q fun x hx w1 hw=>hp x hx w1<|a0.trans hw) ?_
 rintro e1 w1 ⟨rfl,a1⟩
 refine ⟨_,rfl,a1,?_⟩
 have a2:=a1.size
 have a3:=a0.trans a1
 exact Fp (decide (((0 :Nat):Int)≤Ql p a)) Z Z Z Aa<|Ac 1 Z<|A1<|Af [4] Z (.bool<|decide (((0 :Nat):Int)≤Ql p a)) Z ⟨AJ<|UP p a,a3⟩
theorem Er (w:World)(va:Value)(a:Sr)(ha:Rd (AX rI) w.heap va a)(hla:a.length≤1000000000000) :
  Calls Tryz.prog 130 #[va] w (fun e w'=>∃v0:Value,e=.returned (v0)∧AG w w'∧Fr (Bi rI 2) w.heap.size w'.heap.size w'.heap v0 a):=by
 refine Ap [va] 8 Tryz.func130 Z Z sM ?_
 have a1:AG w w:=AG.refl w
 have ac:=ha.lenle
 refine aI Z<|A0<|aH [0,0] Z<|Ad 1 Z ?_
 cases a2:NX va
 ·refine Qt (v:=va) false Bj Z Z ha.isSl a2 Aa<|Aj<|Ai Z<|A2<|aH [3,0,4,0] Z (Ch (rI) AK Bj Bz Aa fun v2 w2 a3 ab a5=>?_)
  have a6:=a3.size
  have a0:=a1.trans a3
  refine Ad 1 Z (Fy (v:=v2) (a:=va) Bj Bz Z Z Z a5 a0.size (ha.ext g1 a0) sD (by unfold maxLen;first|omega|assumption|(simp;done)|(simp;omega)) Aa fun v3 w3 F3 a4 a7 a8=>?_)
  have a9:AG w w3:=a4.below a0 (fun c hc=>A8 (A7 _) (a7 c hc).1) a0.size
  have aa:=a4.size
  exact Ac 1 Z<|A1<|Af [2] Z v3 Z ⟨v3,rfl,a9,a8.up o1⟩
 refine Qt (v:=va) true Bj Z Z ha.isSl a2 Aa<|Aj<|Ag Z<|aI Z<|A1<|Am ?_
 have hnil:a=[]:=ha.nil_of (by assumption)
 subst hnil
 exact Af [2] Z zN Z ⟨zN,rfl,a1,N4 _ _ _⟩
theorem Cu (w:World)(va:Value)(a:Sr)(count:Int)(ha:Rd (AX rI) w.heap va a)(_hcount:Bt count)  :
  Calls Tryz.prog 86 #[va,zI count] w (fun e w'=>e=.returned (.bool (decide ((a.length:Int)=count) && B2 a))∧AG w w'):=by
 refine Ap [va,zI count] 14 Tryz.func86 Z Z sM ?_
 have a0:AG w w:=AG.refl w
 have a5:=ha.lenle
 refine aI Z<|aH [0,0,0,0,0,0,3,0,0,0] Z<|Ad 1 Z<|AO (v:=va) Bj Z ha.isSl Aa<|Ad 1 Z ?_
 by_cases a2:(a.length:Int)=count
 ·refine Al true Z Z (A5 a2) Aa<|Ad 2 Z<|Au 168 [] [] [va,.func (.func 169) #[] #[]] Z Z UA (Ae (e:=9) Z Z Z) (C6 _ _ _ 169 [] [] (fun x=>!HP x) (ha.ext g1 a0) Yc fun x hx w1 hw=>HG w1 x hx) ?_
  rintro e2 w2 ⟨rfl,a1⟩
  refine⟨_,rfl,a1,?_⟩
  have a3:=a1.size
  have a4:=a0.trans a1
  exact Br (!(a.any fun x=>!HP x)) Z Z (Ae (e:=9) Z Z Z)<|Ac 2 Z<|A1<|Af [4] Z (.bool (!(a.any fun x=>!HP x))) Z ⟨AJ (by first|(rw[OY];simp[*];done)|simp[*]),a4⟩
 exact Al false Z Z (A6 a2) Aa<|Ac 6 Z<|A1<|Af [4] Z (.bool false) Z ⟨AJ (by first|(rw[OY];simp[*];done)|simp[*]),a0⟩
theorem J1 (w:World)(va:Value)(a:Sr)(ha:Rd (AX rI) w.heap va a)  :
  Calls Tryz.prog 157 #[va] w (fun e w'=>e=.returned (.bool (B2 a))∧AG w w'):=by
 refine Ap [va] 16 Tryz.func157 Z Z sM ?_
 have a1:AG w w:=AG.refl w
 have a6:=ha.lenle
 refine aI Z<|A0<|aI Z<|A3<|AW (S:=Nat) (fun k=>([(3,zI (k:Int)),(0,va)])) (fun k W=>AG w W∧k≤a.length∧((a.take k).all HP=true)) (fun k=>a.length-k) 0 ⟨rfl,rfl,trivial⟩ ⟨a1,sD,(by exact QL _ _)⟩ ?_
 clear a1
 rintro k ρ1 w1 ⟨a0,a2,hq⟩
 have a5:w.heap.size≤w1.heap.size:=a0.size
 refine A0<|aH [0,0,0,0] Z<|Ad 2 Z<|AO (v:=va) Bj Z ha.isSl Aa ?_
 by_cases a3:(k:Int)<(a.length:Int)
 ·refine AE true Z Z (A5 a3) Aa<|Aj<|Ag Z<|A2<|A0<|A3<|aH [0,0,0,2,0,0] Z<|Ad 2 Z<|Az (v:=va) k Bj Bz Z Z ha.isSl Z sD Aa ?_
  refine Ah (p:=Ax va k 1) (.inr Z) (zI<|a.getD k 0) AC Z (Bc a0 (ha.getI sD).1) Aa ?_
  refine AA 220 [] [] [zI<|a.getD k 0] Z Z UF Aa (.bool<|HP<|a.getD k 0) (fun wq=>G6 wq _ (ha.getI sD).2)<|Br (!(HP<|a.getD k 0)) Z Z Aa<|Aj ?_
  cases a4:(!(HP (a.getD k 0)))
  ·refine Ai (by first|rfl|exact zW a4)<|A2<|Ab _ [0,0,0] Z<|Ad 1 Z<|AN ((k+1:Nat):Int) Z Z (Be oM sD) Aa<|Ac 1 Z ?_
   exact⟨k+1,_,rfl,⟨rfl,rfl,trivial⟩,⟨a0,sD,(by exact Nf 0 hq oM (by simpa using ‹(!HP (a.getD k 0))=false›))⟩,zD⟩
  exact Ag (by first|rfl|exact zW a4)<|aI Z<|A1<|AF<|Am<|Am<|AF<|Am<|Af [2] Z (.bool false) Z ⟨AJ (Ng (k:=k) 0 oM (by simpa using ‹(!HP (a.getD k 0))=true›)).symm,a0⟩
 exact AE false Z Z (A6 a3) Aa<|Aj<|Ai Z<|A4<|Av<|Av<|Aq<|aI Z<|A1<|Af [2] Z (.bool true) Z ⟨AJ (Nh hq oM).symm,a0⟩
theorem GJ (w:World)(va:Value)(a:Sr)(y:Int)(ha:Rd (AX rI) w.heap va a)(_hy:Bt y)(hla:a.length≤1000000000000) :
  Calls Tryz.prog 165 #[va,zI y] w (fun e w'=>∃v0:Value,e=.returned (v0)∧AG w w'∧Fr (Bi rI 2) w.heap.size w'.heap.size w'.heap v0 (scl a y)):=by
 refine Ap [va,zI y] 24 Tryz.func165 Z Z sM ?_
 have a8:AG w w:=AG.refl w
 have an:=ha.lenle
 refine aI Z<|aH [3,0] Z (Ch (rI) AK Bj Bz Aa fun v1 w1 a3 af a9=>?_)
 have a4:=a3.size
 have aa:=a8.trans a3
 refine Ac 1 Z<|A0<|aI Z<|A3 ?_
 refine AW (S:=Nat×Value) (fun⟨k,vo⟩=>([(5,vo),(6,zI (k:Int)),(0,va),(1,zI y)])) (fun⟨k,vo⟩ W=>AG w W∧Fr (Bi rI 2) w.heap.size W.heap.size W.heap vo ((a.take k).map fun x=>md (x*y))∧k≤a.length) (fun⟨k,vo⟩=>a.length-k) (0,v1) ⟨rfl,rfl,rfl,rfl,trivial⟩ ⟨aa,a9.up o1,sD⟩ ?_
 clear a8 a9 af a3 a4 aa
 rintro⟨k,vo⟩ ρ2 w2 ⟨a2,a1,ab⟩
 have ag:w.heap.size≤w2.heap.size:=a2.size
 refine A0<|aH [0,0,0,0] Z<|Ad 2 Z<|AO (v:=va) Bj Z ha.isSl Aa ?_
 by_cases ac:(k:Int)<(a.length:Int)
 ·refine AE true Z Z (A5 ac) Aa<|Aj<|Ag Z<|A2<|A0<|A3<|Ab _ [0,0,0,0,2,0,0,3,4,0] Z<|Ad 3 Z<|Az (v:=va) k Bj Bz Z Z ha.isSl Z sD Aa ?_
  refine Ah (p:=Ax va k 1) (.inr Z) (zI<|a.getD k 0) AC Z (Bc a2 (ha.getI sD).1) Aa<|Ad 1 Z ?_
  refine AA 112 [] [] [zI<|a.getD k 0,zI y] Z Z JM Aa (zI<|md ((a.getD k 0)*y)) (fun wq=>Ct wq _ _ (ha.getI sD).2 _hy) (BI (u:=zI<|md ((a.getD k 0)*y)) (B:=w2.heap.size) AK Bj Bz Z Z (Lh w2.heap.size w2.heap.size _ _<|E3 _) (A7 _) Aa fun v5 w5 a5 al ad=>?_)
  have ah:=a5.size
  have a6:=a2.trans a5
  have a0:=a1.ext (o1) a5
  refine Fy (v:=vo) (a:=v5) Bj Bz Z Z Z a0 a6.size ad.rd1 sD (by unfold maxLen;first|omega|assumption|(simp;done)|(simp;omega)) Aa fun v6 w6 F6 a7 ae ai=>?_
  have aj:AG w w6:=a7.below a6 (fun c hc=>A8 (A7 _) (ae c hc).1) a6.size
  have ak:=a7.size
  have am:=ad.chg (o1) a7 fun c hc=>zH<|ae c hc
  refine Ac 1 Z<|Ab _ [0,0,0] Z<|Ad 1 Z<|AN ((k+1:Nat):Int) Z Z (Be oM sD) Aa<|Ac 1 Z ?_
  exact⟨(k+1,v6),_,rfl,zR,⟨aj,(by rw[CS 0 oM];exact ai.up o1),sD⟩,zD⟩
 exact AE false Z Z (A6 ac) Aa<|Aj<|Ai Z<|A4<|Av<|Av<|Aq<|aH [0,0] Z<|Ac 2 Z<|A1<|Af [4] Z vo Z ⟨vo,rfl,a2,(by have h:=a1.up o1;rwa [za oM]at h)⟩
end
end Go.Proofs.YtbajepcpgncekaaGreat
