/- Nd, Ne, Gd, Ge, Gu, Gv, Gw, Gx, Nf, Ng, Nh, Ni, Nl, Gf, Gg, Gk, Gh, Gl, Gm, Gq, Gp, Gs, Gy, Gz, Ha, Hb, Hd, Hf, Hh, Hi, Hj, Hn, Hv, Jr, Jf, Je, Jg, Jh, Ji, Js, Jt, T, Sa, Sb, Sf, Sk, Va, Vb: texts of this claim, joined; what the claim does not come to is left out. -/
import Derived.Test.YtemfgblmfahllaaGreatQE1
import Derived.Test.YtemfgblmfahllaaGreatProg
set_option linter.unusedVariables false
set_option linter.unusedSimpArgs false
namespace Go.Proofs.YtemfgblmfahllaaGreat
open Go Go.RowKit
section
def Rl (p:List Fn)(n f:Nat)(a:List Sr):List Sr:=match ev p n f a with
 |.ok xs _=>xs
 |.err _=>[]
def NP (p:List Fn)(n f:Nat)(a:List Sr):Nat:=match ev p n f a with
 |.ok _ s=>s
 |.err _=>0
def PU (p:List Fn)(n f:Nat)(a:List Sr):Int:=match ev p n f a with
 |.ok _ _=>0
 |.err c=>c
section
variable {p:List Fn} {n f s:Nat} {a x:List Sr} {c:Int}
theorem NR (h:AN (go 0 (Eh n (Gz p n f) (p.getD f Fn.zero).outs a 0)) x s c)(hc:c=0):ev p n f a=.ok x s:=by subst hc;exact h.ok
theorem KV (h:AN (go 0 (Eh n (Gz p n f) (p.getD f Fn.zero).outs a 0)) x s c)(hc:c≠0):ev p n f a=.err c:=h.err hc
theorem NS (h:ev p n f a=.ok x s):Rl p n f a=x:=by unfold Rl;rw[h]
theorem T7 (h:ev p n f a=.ok x s):NP p n f a=s:=by unfold NP;rw[h]
theorem NT (h:ev p n f a=.ok x s):PU p n f a=0:=by unfold PU;rw[h]
theorem T8 (h:ev p n f a=.err c):Rl p n f a=[]:=by unfold Rl;rw[h]
theorem Ta (h:ev p n f a=.err c):NP p n f a=0:=by unfold NP;rw[h]
theorem LV (h:ev p n f a=.err c):PU p n f a=c:=by unfold PU;rw[h]
end
structure Y6 (p:List Fn)(n f:Nat)(a:List Sr):Prop where
 code:0≤PU p n f a∧PU p n f a≤9
 steps:NP p n f a≤3000
 len:PU p n f a=0→(Rl p n f a).length=(p.getD f Fn.zero).outs.length
 ser:CB n (Rl p n f a)
 non:PU p n f a≠0→Rl p n f a=[]
theorem Y6.mk' {p:List Fn}{n f s:Nat}{a x:List Sr}{c:Int}(h:AN (go 0 (Eh n (Gz p n f) (p.getD f Fn.zero).outs a 0)) x s c)(hc:0≤c∧c≤9)(hs:s≤3000)(hl:x.length=(p.getD f Fn.zero).outs.length)(hx:CB n x):Y6 p n f a:=by
 by_cases h0:c=0
 ·have e:=NR h h0
  exact⟨by rw[NT e];omega,by rw[T7 e];exact hs,fun _=>by rw[NS e];exact hl,by rw[NS e];exact hx,fun hh=>absurd (NT e) hh⟩
 ·have e:=KV h h0
  exact⟨by rw[LV e];exact hc,by rw[Ta e];omega,fun hh=>absurd (by rw[← hh,LV e]) h0,by rw[T8 e];intro k hk;simp at hk,fun _=>T8 e⟩
end
def Tb (s:ByteArray)(i:Nat):Bool:=(decide (97≤HZ s i) && decide (HZ s i≤122)) || (decide (i≠0) && (decide (48≤HZ s i) && decide (HZ s i≤57)))
def Jc (s:ByteArray):Bool:=(decide (1≤s.size) && decide (s.size≤12)) && (List.range s.size).all (Tb s)
def JW (p:List Fn)(e:Ex)(vars funcs:Int):Bool :=
 FE vars 0 412 && (FE funcs 0 ((p.length:Nat):Int) && (decide (e.size≤400) && (decide (e.deep≤60) && wf p funcs e vars)))
def OL (p:List Fn)(k:Nat):Bool:=!((p.take k).any fun g=>GR g.name (p.getD k Fn.zero).name)
def Iq (p:List Fn)(k:Nat):Bool :=
 (Jc (p.getD k Fn.zero).name && OL p k) && ((FE (p.getD k Fn.zero).params 0 12 && FE (((p.getD k Fn.zero).outs.length:Nat):Int) 1 12) &&
  ((List.range (p.getD k Fn.zero).outs.length).all (fun j=>JW p ((p.getD k Fn.zero).outs.getD j Ex.zero) (p.getD k Fn.zero).params ((k:Nat):Int)) && decide (Ex.sizes (p.getD k Fn.zero).outs≤400)))
def Iw (p:List Fn):Bool:=decide (p.length≤16) && (List.range p.length).all (Iq p)
def RZ (p:List Fn):Prop:=∀k,k<p.length→Ex.sizes (p.getD k Fn.zero).outs≤2000000∧(p.getD k Fn.zero).outs.length≤2000000∧(p.getD k Fn.zero).name.size≤2000000
theorem D7 {f:Nat→Bool}{k:Nat}(h:(List.range k).all f=true)(hk:f k=true):(List.range (k+1)).all f=true:=by
 rw[List.range_succ,List.all_append,h];simp[hk]
theorem I6 {f:Nat→Bool}{k n:Nat}(hk:k<n)(h:f k=false):(List.range n).all f=false:=by
 rw[List.all_eq_false]
 exact⟨k,List.mem_range.2 hk,by simp[h]⟩
theorem NU {f:Nat→Bool}{k n:Nat}(h:(List.range n).all f=true)(hk:k<n):f k=true:=zm.1 h k (List.mem_range.2 hk)
theorem Uo {p:List Fn}(h:Iw p=true){k:Nat}(hk:k<p.length):Iq p k=true:=by
 unfold Iw at h
 rw[z7]at h
 exact NU h.2 hk
theorem KW {p:List Fn}(h:Iw p=true):Lv p:=by
 have h1:∀k,k<p.length→(0≤(p.getD k Fn.zero).params∧(p.getD k Fn.zero).params≤12)∧(1≤(p.getD k Fn.zero).outs.length∧(p.getD k Fn.zero).outs.length≤12) ∧
   ∀j,j<(p.getD k Fn.zero).outs.length→JW p ((p.getD k Fn.zero).outs.getD j Ex.zero) (p.getD k Fn.zero).params ((k:Nat):Int)=true:=by
  intro k hk
  have:=Uo h hk
  unfold Iq at this
  simp only[z7,BE]at this
  exact⟨this.2.1.1,zO,fun j hj=>NU this.2.2.1 hj⟩
 have h2:∀k,k<p.length→∀j,j<(p.getD k Fn.zero).outs.length→((p.getD k Fn.zero).outs.getD j Ex.zero).deep≤60∧wf p ((k:Nat):Int) ((p.getD k Fn.zero).outs.getD j Ex.zero) (p.getD k Fn.zero).params=true:=by
  intro k hk j hj
  have:=(h1 k hk).2.2 j hj
  unfold JW at this
  simp only[z7,decide_eq_true_eq]at this
  exact⟨this.2.2.2.1,this.2.2.2.2⟩
 exact⟨fun k hk=>(h1 k hk).1,fun k hk=>(h1 k hk).2.1,fun k hk j hj=>(h2 k hk j hj).1,fun k hk j hj=>(h2 k hk j hj).2⟩
section
mutual
def Vg:Ex→Bool
 |.mk k _ _ _ l=>(decide (k≠6) && decide (k≠8)) && Mu l
def Mu:List Ex→Bool
 |[]=>true
 |e::l=>Vg e && Mu l
end
theorem MK (k n q c:Int)(l:List Ex):Vg (.mk k n q c l)=((decide (k≠6) && decide (k≠8)) && Mu l):=by rw[Vg]
theorem LX (l:List Ex)(e:Ex):Mu (l++[e])=(Mu l && Vg e):=by
 induction l with
 |nil=>rw[zl,Mu,Mu];simp[Mu]
 |cons a l ih=>rw[List.cons_append,Mu,Mu,ih,Bool.and_assoc]
def Kp:Nat→Int
 |0=>1
 |d+1=>1+4*Kp d
def Ge:Nat→Nat
 |0=>30
 |d+1=>50+4*Ge d
def Uq:Nat→Int→Int
 |0,_=>0
 |n+1,k=>Uq n k+k
def OM:Nat→Nat→Nat
 |0,_=>0
 |n+1,k=>OM n k+k
theorem Gf:∀d,1≤Kp d
 |0=>by decide
 |d+1=>by have:=Gf d;show 1≤1+4*Kp d;omega
theorem Tc {d:Nat}(h:1≤d):Kp d=1+4*Kp (d-1):=by
 obtain⟨d,rfl⟩:∃k,d=k+1:=⟨d-1,zO⟩
 rfl
theorem Vq {d:Nat}(h:1≤d):Ge d=50+4*Ge (d-1):=by
 obtain⟨d,rfl⟩:∃k,d=k+1:=⟨d-1,zO⟩
 rfl
theorem ML:∀d,30≤Ge d
 |0=>by decide
 |d+1=>by show 30≤50+4*Ge d;omega
theorem LY {i:Nat}{k:Int}(hk:0≤k)(hi:i≤4):0≤Uq i k∧Uq i k≤4*k:=by
 rcases i with _|_|_|_|_|i
 all_goals first|(exfalso;omega)|(simp only[Uq];omega)
theorem Kq {i k:Nat}(hi:i≤4):OM i k≤4*k:=by
 rcases i with _|_|_|_|_|i
 all_goals first|(exfalso;omega)|(simp only[OM];omega)
structure NV (p:List Fn)(funcs vars:Int)(pl:Bool)(d:Nat)(l0 l1:Int)(ex:Ex):Prop where
 wf:wf p funcs ex vars=true
 sz:(ex.size:Int)+4*max l1 1≤1+4*max l0 1
 dp:ex.deep≤d+1
 pl:pl=true→Vg ex=true
 lo:l0-Kp d≤l1∧l1≤l0-1
structure MM (p:List Fn)(vars:Int)(ex:Ex):Prop where
 wf:∀funcs,wf p funcs ex vars=true
 sz:ex.size=1
 dp:ex.deep=1
 pl:Vg ex=true
structure Vr (p:List Fn):Prop where
 len:p.length≤1000
 par:∀k,k<p.length→0≤(p.getD k Fn.zero).params∧(p.getD k Fn.zero).params≤4
 outs:∀k,k<p.length→1≤(p.getD k Fn.zero).outs.length∧(p.getD k Fn.zero).outs.length≤12
theorem MM.num {p:List Fn}{vars n:Int}(h:0≤n∧n<1000003):MM p vars (.mk 1 n 0 0 []) :=
 ⟨fun funcs=>by
  rw[KR rfl];unfold EU D0
  simp[Ex.kind,Ex.pick,Ex.count,Ex.kids,Ex.num,Ch];omega,by rw[Ex.size,Ex.sizes],by rw[Ex.deep,Ex.deeps],by rw[MK];rfl⟩
theorem MM.var {p:List Fn}{vars n:Int}(h:0≤n∧n<vars):MM p vars (.mk 2 n 0 0 []) :=
 ⟨fun funcs=>by
  rw[KR rfl];unfold EU D0
  simp[Ex.kind,Ex.pick,Ex.count,Ex.kids,Ex.num,BE];omega,by rw[Ex.size,Ex.sizes],by rw[Ex.deep,Ex.deeps],by rw[MK];rfl⟩
theorem MM.ok {p:List Fn}{vars funcs l0:Int}{ex:Ex}{pl:Bool}(h:MM p vars ex)(d:Nat):NV p funcs vars pl d l0 (l0-1) ex:=by
 have:=Gf d
 exact⟨h.wf funcs,by rw[h.sz];omega,by rw[h.dp];omega,fun _=>h.pl,zO⟩
def kn (k:Int):Int:=if k=1∨k=2 then 0 else if k=3∨k=4∨k=5∨k=6∨k=9 then 2 else if k=7 then 1 else if k=8 then 3 else -1
structure NW (p:List Fn)(funcs vars:Int)(pl:Bool)(k:Int)(d:Nat)(l0 l1:Int)(xs:List Ex)(i:Nat):Prop where
 len:xs.length=i
 wf:∀j,j<i→wf p funcs (xs.getD j Ex.zero) (if k=9∧j=1 then vars+1 else vars)=true
 sz:(Ex.sizes xs:Int)+4*max l1 1≤i+4*max l0 1
 dp:Ex.deeps xs≤d
 pl:pl=true→Mu xs=true
 lo:l0-Uq i (Kp (d-1))≤l1∧l1≤l0
theorem NW.nil (p:List Fn)(funcs vars:Int)(pl:Bool)(k:Int)(d:Nat)(l0:Int):NW p funcs vars pl k d l0 l0 [] 0 :=
 ⟨rfl,fun j hj=>by omega,by rw[Ex.sizes];omega,by rw[Ex.deeps];omega,fun _=>by rw[Mu],by show l0-0≤l0∧l0≤l0;omega⟩
theorem NW.snoc {p:List Fn}{funcs vars own:Int}{pl:Bool}{k:Int}{d:Nat}{l0 l1 l2:Int}{xs:List Ex}{i:Nat}{x:Ex}(h:NW p funcs vars pl k d l0 l1 xs i)(hd:1≤d)
  (ho:own=if k=9∧i=1 then vars+1 else vars) (hx:NV p funcs own pl (d-1) l1 l2 x):NW p funcs vars pl k d l0 l2 (xs++[x]) (i+1):=by
 have hlen:=h.len
 refine⟨by simp[hlen],fun j hj=>?_,?_,?_,fun hp=>?_,?_⟩
 ·by_cases e:j=i
  ·subst e
   rw[← hlen,GQ rfl,hlen,← ho];exact hx.wf
  ·rw[Gl (by omega)];exact h.wf j zO
 ·have h1:=h.sz;have h2:=hx.sz
  rw[GN];omega
 ·have h1:=h.dp;have h2:=hx.dp
  rw[GO];omega
 ·rw[LX,h.pl hp,hx.pl hp];rfl
 ·have h1:=h.lo;have h2:=hx.lo
  have h3:Uq (i+1) (Kp (d-1))=Uq i (Kp (d-1))+Kp (d-1):=rfl
  omega
theorem NW.node {p:List Fn}{funcs vars:Int}{pl:Bool}{k num pick cnt:Int}{d i:Nat}{l0 l1:Int}{xs:List Ex}(h:NW p funcs vars pl k d (l0-1) l1 xs i)(hd:1≤d)(hi:i≤4)(hl:2≤l0)
  (hp:pl=true→k≠6∧k≠8) (hw:EU p funcs vars (.mk k num pick cnt xs)=true):NV p funcs vars pl d l0 l1 (.mk k num pick cnt xs):=by
 have hn:=Tc hd
 have ht:=LY (k:=Kp (d-1)) (by have:=Gf (d-1);omega) hi
 have h1:=h.lo;have h2:=h.sz
 refine⟨(KS hw fun j hj=>?_).symm,?_,?_,fun hq=>?_,zO⟩
 ·exact h.wf j (by rw[← h.len];exact hj)
 ·rw[Ex.size];omega
 ·rw[Ex.deep];have:=h.dp;omega
 ·rw[MK,h.pl hq,A5 (hp hq).1,A5 (hp hq).2];rfl
theorem Ur {p:List Fn}{funcs vars k:Int}{xs:List Ex}(hk:k=3∨k=4∨k=5∨k=6∨k=7∨k=8∨k=9)(hl:((xs.length:Nat):Int)=kn k):EU p funcs vars (.mk k 0 0 0 xs)=true:=by
 have h2:k=3∨k=4∨k=5∨k=6∨k=9→xs.length=2:=fun h=>by
  have:kn k=2:=by unfold kn;rw[if_neg zO,if_pos (by omega)]
  omega
 have h1:k=7→xs.length=1:=fun h=>by
  have:kn k=1:=by unfold kn;rw[if_neg zO,if_neg zO,if_pos h]
  omega
 have h3:k=8→xs.length=3:=fun h=>by
  have:kn k=3:=by unfold kn;rw[if_neg zO,if_neg zO,if_neg zO,if_pos h]
  omega
 unfold EU D0
 rcases hk with rfl|rfl|rfl|rfl|rfl|rfl|rfl
 ·simp[Ex.kind,Ex.pick,Ex.count,Ex.kids,Ex.num,h2]
 ·simp[Ex.kind,Ex.pick,Ex.count,Ex.kids,Ex.num,h2]
 ·simp[Ex.kind,Ex.pick,Ex.count,Ex.kids,Ex.num,h2]
 ·simp[Ex.kind,Ex.pick,Ex.count,Ex.kids,Ex.num,h2]
 ·simp[Ex.kind,Ex.pick,Ex.count,Ex.kids,Ex.num,h1]
 ·simp[Ex.kind,Ex.pick,Ex.count,Ex.kids,Ex.num,h3]
 ·simp[Ex.kind,Ex.pick,Ex.count,Ex.kids,Ex.num,h2]
theorem Us {p:List Fn}{funcs vars k num pick cnt:Int}{xs:List Ex}(hk:(k=10∧cnt=0)∨(k=11∧((p.getD num.toNat Fn.zero).outs.length:Int)=(p.getD num.toNat Fn.zero).params∧0≤cnt∧cnt≤8))
  (hn:0≤num∧num<funcs) (hl:((xs.length:Nat):Int)=(p.getD num.toNat Fn.zero).params) (hq:0≤pick∧pick<((p.getD num.toNat Fn.zero).outs.length:Int)):EU p funcs vars (.mk k num pick cnt xs)=true:=by
 have h1:FE num 0 (funcs-1)=true:=BE.2 zO
 have h2:FE pick 0 (((p.getD num.toNat Fn.zero).outs.length:Int)-1)=true:=BE.2 zO
 have h6:decide ((xs.length:Int)=(p.getD num.toNat Fn.zero).params)=true:=A5 hl
 unfold EU
 rcases hk with⟨rfl,rfl⟩|⟨rfl,h3,h4⟩
 ·show(FE num 0 (funcs-1) && (decide ((xs.length:Int)=(p.getD num.toNat Fn.zero).params) && (FE pick 0 (((p.getD num.toNat Fn.zero).outs.length:Int)-1) && decide ((0:Int)=0))))=true
  rw[h1,h2,h6];rfl
 ·have h5:FE cnt 0 8=true:=BE.2 h4
  show(FE num 0 (funcs-1) && (decide ((xs.length:Int)=(p.getD num.toNat Fn.zero).params) && (FE pick 0 (((p.getD num.toNat Fn.zero).outs.length:Int)-1) && (decide (((p.getD num.toNat Fn.zero).outs.length:Int)=(p.getD num.toNat Fn.zero).params) && FE cnt 0 8))))=true
  rw[h1,h2,h5,h6,A5 h3];rfl
theorem Jd {a b c k:Int}{l:List Ex}(h1:-9223372036854775808≤a∧a≤9223372036854775807)(h2:-9223372036854775808≤b∧b≤9223372036854775807)(h3:-9223372036854775808≤c∧c≤9223372036854775807)(h4:-9223372036854775808≤k∧k≤9223372036854775807):Rk (.mk a b c k l):=⟨h1,h2,h3,h4⟩
theorem CS {a b c:Nat}(h:c∈[a,b]):c=a∨c=b:=by simpa using h
theorem Eo {a b:Nat}:∀x∈[a],x∈[a,b]:=fun x hx=>by rw[A9 hx];exact z0 ..
theorem Ut {a b:Nat}:∀x∈[b],x∈[a,b]:=fun x hx=>by rw[A9 hx];exact z3 _ (z0 ..)
theorem At.new2 {F:List Nat}{g g':Nat}{a b c:World}(h:At F a b)(k:At [g,g'] b c)(hg:g∈F)(hg':a.heap.size≤g'):At F a c :=
 ⟨k.os.trans h.os,k.tape.trans h.tape,k.output.trans h.output,A8 h.size k.size,fun i hi hm=>(k.block i (Nat.lt_of_lt_of_le hi h.size) fun hq=>by
  rcases CS hq with rfl|rfl
  ·exact hm hg
  ·omega).trans (h.block i hi hm)⟩
theorem RN.of_frF2 {e e':TypeId}{d B U:Nat}{H:Array Obj}{v:Value}{S:List Nat}{xs:List Fn}(h:Fr (DZ 3 (Pk e d) e') B U H v xs)(hS:∀b∈S,b<B∨U≤b):RP S d H v xs:=by
 obtain⟨F,h,_,hF⟩:=h
 exact⟨F,(h.rd (B1 e d)).imp fun h=>Pl e h,fun b hb hm=>by have:=hF b hb;have:=hS b hm;omega⟩
theorem OI.mk1 {e:TypeId}{d B U:Nat}{H:Array Obj}{v:Value}{x:Ex}(hd:1≤d)(hr:Rk x)(h:Fr (DZ 5 (Nx e (d-1)) e) B U H v x.kids):OI (Nx e d) B U H (Ef x v) x:=by
 obtain⟨d,rfl⟩:∃k,d=k+1:=⟨d-1,zO⟩
 obtain⟨G,h1,h2,h3⟩:=h
 exact⟨G,⟨v,rfl,hr,h1⟩,h2,h3⟩
theorem OI.mkF {e:TypeId}{d B U:Nat}{H:Array Obj}{v:Value}{x:Fn}(hr:Bn x.params)(h:Fr (DZ 5 (Nx e d) e) B U H v x.outs):OI (Pk e d) B U H (Eg x v) x:=by
 obtain⟨G,h1,h2,h3⟩:=h
 exact⟨G,⟨v,rfl,hr,h1⟩,h2,h3⟩
theorem Yd {k:Int}(h:k=1∨k=2):kn k=0:=by unfold kn;rw[if_pos h]
theorem Ye {k:Int}(h:k=3∨k=4∨k=5∨k=6∨k=9):kn k=2:=by unfold kn;rw[if_neg zO,if_pos h]
theorem Yf {k:Int}(h:k=7):kn k=1:=by unfold kn;rw[if_neg zO,if_neg zO,if_pos h]
theorem Yg {k:Int}(h:k=8):kn k=3:=by unfold kn;rw[if_neg zO,if_neg zO,if_neg zO,if_pos h]
theorem Yh {k:Int}(h1:¬k=1)(h2:¬k=2)(h3:¬k=3)(h4:¬k=4)(h5:¬k=5)(h6:¬k=6)(h7:¬k=7)(h8:¬k=8)(h9:¬k=9):kn k = -1:=by unfold kn;rw[if_neg zO,if_neg zO,if_neg zO,if_neg (by omega)]
theorem Yi {k:Int}(h:k=3∨k=4∨k=5∨k=6∨k=7∨k=8∨k=9):1≤kn k∧kn k≤3:=by
 rcases h with rfl|rfl|rfl|rfl|rfl|rfl|rfl <;> decide
theorem PV {d:Nat}(h:d≤8):Kp d≤100000:=by
 have:∀k:Fin 9,Kp k.val≤100000:=by decide
 exact this ⟨d,zO⟩
theorem MM.okc {p:List Fn}{vars funcs l0:Int}{ex:Ex}{pl:Bool}(h:MM p vars ex)(d:Nat):NV p funcs vars pl d (l0+1) l0 ex:=by
 have h:=h.ok (funcs:=funcs) (pl:=pl) (l0:=l0+1) d
 rwa [show l0+1-1=l0 from by omega]at h
theorem NV.up1 {p:List Fn}{vars funcs l0 l1:Int}{ex:Ex}{pl:Bool}{d:Nat}(h:NV p funcs vars pl d (l0-1+1) l1 ex):NV p funcs vars pl d l0 l1 ex:=by rwa [show l0-1+1=l0 from by omega]at h
theorem NW.node1 {p:List Fn}{funcs vars:Int}{pl:Bool}{k num pick cnt:Int}{d i:Nat}{l0 l1:Int}{xs:List Ex}(h:NW p funcs vars pl k d l0 l1 xs i)(hd:1≤d)(hi:i≤4)(hl:1≤l0)
  (hp:pl=true→k≠6∧k≠8) (hw:EU p funcs vars (.mk k num pick cnt xs)=true):NV p funcs vars pl d (l0+1) l1 (.mk k num pick cnt xs) :=
 NW.node (by rwa [show l0+1-1=l0 from by omega]) hd hi zO hp hw
namespace Jx
variable [J:JR] {P:Program} {ops:Array Oper} {w0:World} {Q:Act→World→Prop}
theorem j1 {o:Oper}{os:List Oper}{ks:List Nat}{a:Act}{w:World}(h:_root_.Go.Proofs.YtemfgblmfahllaaGreat.LW P ops w0 (fun a w=>LW P ops w0 Q os ks a w) [o] [0] a w):LW P ops w0 Q (o::os) (0::ks) a w:=by
 simp only[_root_.Go.Proofs.YtemfgblmfahllaaGreat.LW]at h
 simp only[LW]
 split
 ·rename_i hw
  rw[if_pos hw]at h
  unfold _root_.Go.Proofs.YtemfgblmfahllaaGreat.Bu at h
  unfold Bu
  rw[if_pos (by decide)]at h
  rw[if_pos (by decide)]
  obtain⟨v,h1,h2⟩:=h
  exact⟨v,fun w' _=>h1 w' trivial,h2⟩
 ·rename_i hw
  rw[if_neg hw]at h
  exact h
theorem S0:∀ {os:List Oper}{ks:List Nat}{a:Act}{w:World}(_:ks.all (fun k=>k == 0 || k == 3 || k == 4)=true)(_:_root_.Go.Proofs.YtemfgblmfahllaaGreat.LW P ops w0 Q os ks a w),LW P ops w0 Q os ks a w
 |[],_,_,_,_,h=>h
 |_::_,[],_,_,_,h=>h.elim
 |o::os,k::ks,a,w,hk,h=>by
  simp only[List.all_cons,z7]at hk
  simp only[_root_.Go.Proofs.YtemfgblmfahllaaGreat.LW]at h
  simp only[LW]
  split
  ·rename_i hw
   rw[if_pos hw]at h
   unfold _root_.Go.Proofs.YtemfgblmfahllaaGreat.Bu at h
   unfold Bu
   split at h
   ·rename_i h2
    rw[if_pos h2]
    have:k=0:=by
     have:=hk.1
     simp only[Bool.or_eq_true,beq_iff_eq]at this
     omega
    subst this
    obtain⟨v,h1,h3⟩:=h
    exact⟨v,fun w' _=>h1 w' trivial,S0 hk.2 h3⟩
   ·rename_i h2
    rw[if_neg h2]
    split at h
    ·rename_i h3
     rw[if_pos h3]
     exact Oper.wp_mono (fun a w hh=>⟨J.ext hh.1,S0 hk.2 hh.2⟩) h
    ·rename_i h3
     rw[if_neg h3]
     exact Oper.wp_mono (fun a w hh=>S0 hk.2 hh) h
  ·rename_i hw
   rw[if_neg hw]at h
   exact S0 hk.2 h
end Jx
end
section
theorem PW {α:Type}{l:List α}{k:Nat}{d:α}(h:k<l.length):l.getD k d∈l:=by
 rw[List.getD_eq_getElem?_getD,List.getElem?_eq_getElem h,Option.getD_some];exact List.getElem_mem h
theorem Uu {a:Int}(h:-9223372036854775808≤a∧a≤9223372036854775807):Bn a:=h
def HD (n:Nat):ByteArray:=⟨#[UInt8.ofNat (48+n)]⟩
def KX:List ByteArray:=[⟨#[102]⟩,⟨#[103]⟩,⟨#[115,116,101,112]⟩,⟨#[104,50]⟩,⟨#[99]⟩]
theorem Uv {n:Int}(h0:0≤n)(h1:n<10):(⟨#[UInt8.ofNat (IntKind.u8.wrap (((48:Nat):Int)+n)).toNat]⟩:ByteArray)=HD n.toNat:=by
 obtain⟨k,rfl⟩:∃k:Nat,n=k:=⟨n.toNat,zO⟩
 have:∀k:Fin 10,(⟨#[UInt8.ofNat (IntKind.u8.wrap (((48:Nat):Int)+((k.val:Nat):Int))).toNat]⟩:ByteArray)=HD k.val:=by decide +kernel
 exact this ⟨k,zO⟩
theorem PX (n:Nat):(HD n).size=1:=rfl
theorem ON:∀s∈KX,s.size≤4:=by decide +kernel
theorem S3:∀s∈KX,∀i:Fin 10,Jc (s++HD i.val)=true:=by decide +kernel
theorem S4:∀s∈KX,∀t∈KX,∀i j:Fin 10,i.val≠j.val→GR (s++HD i.val) (t++HD j.val)=false:=by decide +kernel
section str
variable {P:Program} {ops:Array Oper} {w0:World} {Q:Act→World→Prop} {os:List Oper} {ks:List Nat} {N:Nat} {ρ:Nat→Value} {w:World}
 {d:Nat} {ty:TypeId} {pos:String} {aft:Array Edge} {g:Option (Nat×Bool)} {t e:TypeId}
theorem S5 {st dt:TypeId}{x:Operand}{v:Value}{n:Int}{B U:Nat}(hs:P.underlying st=some (.slice e))(he:P.underlying e=some (.int .u8))(hd:P.underlying dt=some .string)(hx:Be N ρ x=v)(hv:Fr (B8 rV e) B U w.heap v [.int .u8 n])
  (hu:Up ops N ρ ⟨some d,.convert st dt x,ty,pos,aft,g⟩) (h:LW P ops w0 Q os ks (mk N (C2 ρ d (.string ⟨#[UInt8.ofNat n.toNat]⟩))) w) :
  LW P ops w0 Q (⟨some d,.convert st dt x,ty,pos,aft,g⟩::os) (2::ks) (mk N ρ) w:=by
 obtain⟨F,hv,_,_⟩:=hv
 rcases hv with⟨_,hc,_⟩|⟨us,b,cap,cur,F',hels,rfl,hg,q1,q2,q3,q4,rfl⟩
 ·cases hc
 ·obtain⟨rfl,rfl⟩:=ES hels
  refine Cf (by decide) rfl hu _ (fun w' hcl=>?_) h
  have hcl:AE w w':=hcl
  have hcb:w'.heap[b]? = w.heap[b]?:=hcl.heap (getElem?_lt hg)
  have hlc:=run_loadCells_list (P:=P) w' ⟨b,0,none⟩ [.int .u8 n] (fun j u hj=>by
   rw[GM,BP]
   simp only[BR,hcb,hg]
   have hj0:j=0:=by have:=(List.getElem?_eq_some_iff.1 hj).1;simpa using this
   subst hj0
   have e1:cur.toList[0]? = some (.int .u8 n):=by
    have:(cur.toList.take 1)[0]? = some (.int .u8 n):=by rw[show cur.toList.take 1=[.int .u8 n]from q4];rfl
    rwa [List.getElem?_take,if_pos (by decide)]at this
   have e2:u=.int .u8 n:=by simpa using hj.symm
   rw[e2]
   simpa using e1)
  have hb:=run_bytesToString (P:=P) w' ⟨b,0,none⟩ 1 cap [n] (by simpa using hlc)
  have hr:=run_convert_bytes_string (P:=P) w' st dt e (some ⟨b,0,none⟩) 1 cap hs he hd
  simp only[execOp,hx,zd,Sem.run_bind,hr,hb,Result.andThen_ok,Sem.run_pure]
  rfl
theorem S6 {b:Nat}{z u0 u1 u2 u3:Value}(ht:P.underlying t=some (.slice e))(hi:TI P e 1 z b)(h0:u0.cells=#[u0])(h1:u1.cells=#[u1])(h2:u2.cells=#[u2])(h3:u3.cells=#[u3])(hz:z.cells=#[z]) :
  (Instr.buildSlice t 4 #[(0,u0),(1,u1),(2,u2),(3,u3)]).run P w=.ok (.slice (some ⟨w.heap.size,0,none⟩) 4 4) (w.alloc (.cells #[u0,u1,u2,u3] e)):=by
 obtain⟨i,q1,q2,q3,q4⟩:=hi.get
 simp[Instr.buildSlice,run_underlying ht,sizeOf,typeInfo,zeroValue,q1,q2,q3,Instr.fill,newRow,h0,h1,h2,h3,hz,Hq,List.range_succ]
theorem Uw {α:Type}{E:Bf α}(hE:BF E){ys:List α}{b:Nat}{z u0 u1 u2 u3:Value}{x0 x1 x2 x3:Operand}(ht:P.underlying t=some (.slice e))(hi:TI P e 1 z b)(hz:z.cells=#[z])
  (hx0:Be N ρ x0=u0) (hx1:Be N ρ x1=u1) (hx2:Be N ρ x2=u2) (hx3:Be N ρ x3=u3) (hl:ys.length=4) (hels:els E w.heap [u0,u1,u2,u3] ys [])
  (hu:Up ops N ρ ⟨some d,.buildSlice t 4 #[(0,x0),(1,x1),(2,x2),(3,x3)],ty,pos,aft,g⟩)
  (h:∀v w1,AE w w1→w1.heap.size=w.heap.size+1→Fr (B8 E e) w.heap.size w1.heap.size w1.heap v ys→LW P ops w0 Q os ks (mk N (C2 ρ d v)) w1) :
  LW P ops w0 Q (⟨some d,.buildSlice t 4 #[(0,x0),(1,x1),(2,x2),(3,x3)],ty,pos,aft,g⟩::os) (3::ks) (mk N ρ) w:=by
 have hc:=hels.cells1 hE
 have hr:=S6 (P:=P) (w:=w) ht hi (hc u0 (by simp)).1 (hc u1 (by simp)).1 (hc u2 (by simp)).1 (hc u3 (by simp)).1 hz
 have hrun:(execOp (Be N ρ) ⟨some d,.buildSlice t 4 #[(0,x0),(1,x1),(2,x2),(3,x3)],ty,pos,aft,g⟩).run P w=.ok (.value (.slice (some ⟨w.heap.size,0,none⟩) 4 4)) (w.alloc (.cells #[u0,u1,u2,u3] e)):=by
  simp only[execOp,zc,zf,zh,Sem.run_bind,hx0,hx1,hx2,hx3,hr,Result.andThen_ok,Sem.run_pure]
 refine Ho rfl hu _ _ hrun (Bh _ _)<|h _ _ (Bh _ _) (by simp) ?_
 have hn:=Ee (e:=e) (w:=w) hE (us:=[u0,u1,u2,u3]) (xs:=ys) (F:=[]) (cur:=#[u0,u1,u2,u3]) hels (by simp[maxLen]) (by rw[hl];rfl) (by rw[hl];simp)
 rw[hl]at hn
 refine⟨_,hn,?_,fun c hc=>?_⟩
 ·rw[List.nodup_cons]
  exact⟨fun hm=>(by cases hm),zk⟩
 ·rcases ze.1 hc with rfl|hc
  ·exact⟨A7 _,by simp⟩
  ·cases hc
end str
theorem Vs {H:Array Obj}{u0 u1 u2 u3:Value}(h0:u0.cells=#[u0]∧u0.oneCell'=true)(h1:u1.cells=#[u1]∧u1.oneCell'=true)(h2:u2.cells=#[u2]∧u2.oneCell'=true)(h3:u3.cells=#[u3]∧u3.oneCell'=true):els rV H [u0,u1,u2,u3] [u0,u1,u2,u3] [] :=
 J2 fun u hu=>by
  simp only[ze,z2,or_false]at hu
  rcases hu with rfl|rfl|rfl|rfl <;> assumption
theorem S7 {p q:List Fn}{F v:Int}{e:Ex}(hF:F≤((p.length:Nat):Int)):EU (p++q) F v e=EU p F v e:=by
 by_cases h:FE e.num 0 (F-1)=true
 ·have h1:=BE.1 h
  have h2:(p++q).getD e.num.toNat Fn.zero=p.getD e.num.toNat Fn.zero:=Gl zO
  unfold EU
  rw[h2]
 ·unfold EU
  simp only[Bool.not_eq_true]at h
  simp[h]
mutual
theorem MN {p q:List Fn}{F:Int}(hF:F≤((p.length:Nat):Int)):∀(e:Ex)(v:Int),wf (p++q) F e v=wf p F e v
 |.mk k n c d l,v=>by rw[wf,wf,S7 hF,NX hF l]
theorem NX {p q:List Fn}{F:Int}(hF:F≤((p.length:Nat):Int)):∀(l:List Ex)(b:Bool)(i:Nat)(v:Int),NH (p++q) F b i l v=NH p F b i l v
 |[],_,_,_=>by rw[NH,NH]
 |e::l,b,i,v=>by rw[NH,NH,MN hF e,NX hF l]
end
structure JQ (p:List Fn)(pl:Bool):Prop where
 len:p.length≤12
 par:∀k,k<p.length→1≤(p.getD k Fn.zero).params∧(p.getD k Fn.zero).params≤3
 outs:∀k,k<p.length→1≤(p.getD k Fn.zero).outs.length∧(p.getD k Fn.zero).outs.length≤3
 wf:∀k,k<p.length→∀j,j<(p.getD k Fn.zero).outs.length→wf p ((k:Nat):Int) ((p.getD k Fn.zero).outs.getD j Ex.zero) (p.getD k Fn.zero).params=true
 dp:∀k,k<p.length→Ex.deeps (p.getD k Fn.zero).outs≤6
 sz:∀k,k<p.length→Ex.sizes (p.getD k Fn.zero).outs≤400
 pl:pl=true→∀k,k<p.length→Mu (p.getD k Fn.zero).outs=true
 nm:∀k,k<p.length→Jc (p.getD k Fn.zero).name=true
 nw:∀k,k<p.length→OL p k=true
theorem JQ.nil (pl:Bool):JQ [] pl:=by
 constructor
 ·simp
 all_goals first|(intro _ k hk;simp at hk)|(intro k hk;simp at hk)
theorem JQ.gpr {p:List Fn}{pl:Bool}(h:JQ p pl):Vr p :=
 ⟨by have:=h.len;omega,fun k hk=>by have:=h.par k hk;omega,fun k hk=>by have:=h.outs k hk;omega⟩
theorem JQ.snoc {p:List Fn}{pl:Bool}{f:Fn}(h:JQ p pl)(hl:p.length≤11)(hp:1≤f.params∧f.params≤3)(ho:1≤f.outs.length∧f.outs.length≤3)
  (hw:∀j,j<f.outs.length→Go.Proofs.YtemfgblmfahllaaGreat.wf p ((p.length:Nat):Int) (f.outs.getD j Ex.zero) f.params=true) (hd:Ex.deeps f.outs≤6) (hs:Ex.sizes f.outs≤400) (hpl:pl=true→Mu f.outs=true)
  (hn:Jc f.name=true) (hnw:∀k,k<p.length→GR (p.getD k Fn.zero).name f.name=false):JQ (p++[f]) pl:=by
 have e:∀k,k<(p++[f]).length→(k<p.length∧(p++[f]).getD k Fn.zero=p.getD k Fn.zero)∨(k=p.length∧(p++[f]).getD k Fn.zero=f):=fun k hk=>by
  rw[z4,zd]at hk
  by_cases h:k<p.length
  ·exact .inl ⟨h,Gl h⟩
  ·exact .inr ⟨zO,GQ zO⟩
 refine⟨by rw[z4,zd];omega,?_,?_,?_,?_,?_,?_,?_,?_⟩
 ·intro k hk;rcases e k hk with⟨h1,h2⟩|⟨h1,h2⟩ <;> rw[h2]
  ·exact h.par k h1
  ·exact hp
 ·intro k hk;rcases e k hk with⟨h1,h2⟩|⟨h1,h2⟩ <;> rw[h2]
  ·exact h.outs k h1
  ·exact ho
 ·intro k hk;rcases e k hk with⟨h1,h2⟩|⟨h1,h2⟩ <;> rw[h2]
  ·intro j hj;rw[MN (by omega)];exact h.wf k h1 j hj
  ·intro j hj;subst h1;rw[MN (by omega)];exact hw j hj
 ·intro k hk;rcases e k hk with⟨h1,h2⟩|⟨h1,h2⟩ <;> rw[h2]
  ·exact h.dp k h1
  ·exact hd
 ·intro k hk;rcases e k hk with⟨h1,h2⟩|⟨h1,h2⟩ <;> rw[h2]
  ·exact h.sz k h1
  ·exact hs
 ·intro hq k hk;rcases e k hk with⟨h1,h2⟩|⟨h1,h2⟩ <;> rw[h2]
  ·exact h.pl hq k h1
  ·exact hpl hq
 ·intro k hk;rcases e k hk with⟨h1,h2⟩|⟨h1,h2⟩ <;> rw[h2]
  ·exact h.nm k h1
  ·exact hn
 ·intro k hk
  rcases e k hk with⟨h1,h2⟩|⟨h1,h2⟩
  ·have:=h.nw k h1
   unfold OL at this ⊢
   rwa [h2,List.take_append_of_le_length (by omega)]
  ·unfold OL
   rw[h2,h1,List.take_left]
   simp only[Bool.not_eq_true',List.any_eq_false]
   intro g hg
   obtain⟨i,hi,rfl⟩:=List.mem_iff_getElem.1 hg
   have:=hnw i hi
   rw[List.getD_eq_getElem?_getD,List.getElem?_eq_getElem hi,Option.getD_some]at this
   simp[this]
theorem JQ.ok {p:List Fn}{pl:Bool}(h:JQ p pl):Iw p=true:=by
 unfold Iw
 rw[z7]
 refine⟨A5 (by have:=h.len;omega),zm.2 fun k hk=>?_⟩
 rw[List.mem_range]at hk
 have h1:=h.par k hk;have h2:=h.outs k hk;have h3:=h.sz k hk;have h4:=h.dp k hk
 unfold Iq
 rw[h.nm k hk,h.nw k hk,BE.2 zO,BE.2 zO,A5 h3]
 simp only[Bool.true_and,Bool.and_true]
 refine zm.2 fun j hj=>?_
 rw[List.mem_range]at hj
 have h5:=LB hj;have h6:=DF hj
 unfold JW
 rw[BE.2 zO,BE.2 zO,A5 zO,A5 zO,h.wf k hk j hj]
 rfl
structure PY (p:List Fn)(vars:Int)(pl:Bool)(xs:List Ex)(i:Nat):Prop where
 len:xs.length=i
 wf:∀j,j<i→wf p ((p.length:Nat):Int) (xs.getD j Ex.zero) vars=true
 dp:Ex.deeps xs≤6
 sz:Ex.sizes xs≤i*117
 pl:pl=true→Mu xs=true
theorem PY.nil (p:List Fn)(vars:Int)(pl:Bool):PY p vars pl [] 0:=⟨rfl,fun j hj=>by omega,by rw[Ex.deeps];omega,by rw[Ex.sizes];omega,fun _=>by rw[Mu]⟩
theorem PY.snoc {p:List Fn}{funcs vars:Int}{pl:Bool}{xs:List Ex}{i d:Nat}{l0 l1:Int}{x:Ex}(h:PY p vars pl xs i)(hf:funcs=((p.length:Nat):Int))(hd:d≤5)(hl:l0≤30)(hx:NV p funcs vars pl d l0 l1 x):PY p vars pl (xs++[x]) (i+1):=by
 have hlen:=h.len
 subst hf
 refine⟨by simp[hlen],fun j hj=>?_,?_,?_,fun hp=>?_⟩
 ·by_cases e:j=i
  ·subst e
   rw[GQ hlen.symm];exact hx.wf
  ·rw[Gl (by omega)];exact h.wf j zO
 ·have h1:=h.dp;have h2:=hx.dp
  rw[GO];omega
 ·have h1:=h.sz;have h2:=hx.sz
  rw[GN];omega
 ·rw[LX,h.pl hp,hx.pl hp];rfl
def Dn (p:List Fn):Prop:=∀k,k<p.length→∃s∈KX,(p.getD k Fn.zero).name=s++HD k
theorem Dn.nil:Dn []:=fun k hk=>by simp at hk
theorem Dn.snoc {p:List Fn}{f:Fn}{s:ByteArray}(h:Dn p)(hs:s∈KX)(hf:f.name=s++HD p.length):Dn (p++[f]):=fun k hk=>by
 rw[z4,zd]at hk
 by_cases e:k<p.length
 ·rw[Gl e];exact h k e
 ·rw[GQ zO,show k=p.length from by omega];exact⟨s,hs,hf⟩
theorem PY.fn {p:List Fn}{pl:Bool}{f:Fn}{s:ByteArray}{i:Nat}(h:JQ p pl)(hd:Dn p)(hl:p.length≤9)(hp:1≤f.params∧f.params≤3)(hi:1≤i∧i≤3)(ho:PY p f.params pl f.outs i)
  (hs:s∈KX) (hf:f.name=s++HD p.length):JQ (p++[f]) pl∧Dn (p++[f]) :=
 ⟨h.snoc zO hp (by rw[ho.len];exact hi) (fun j hj=>ho.wf j (by rw[← ho.len];exact hj)) ho.dp (by have:=ho.sz;omega) ho.pl (by rw[hf];exact S3 s hs ⟨p.length,zO⟩) (fun k hk=>by
  obtain⟨t,ht,e⟩:=hd k hk
  rw[e,hf]
  exact S4 t ht s hs ⟨k,zO⟩ ⟨p.length,zO⟩ (by show k≠p.length;omega)),hd.snoc hs hf⟩
theorem PZ {x:ByteArray}(h:Value.string x∈[Value.string ⟨#[102]⟩,.string ⟨#[103]⟩,.string ⟨#[115,116,101,112]⟩,.string ⟨#[104,50]⟩]):x∈KX:=by
 simp only[ze,z2,or_false,Value.string.injEq]at h
 rcases h with h|h|h|h <;> subst h <;> simp[KX]
theorem Yj:Ge 5=47770:=by decide
theorem Yk:Kp 5=1365:=by decide
theorem JQ.npl {p:List Fn}{pl:Bool}(h:JQ p pl):JQ p false:=⟨h.len,h.par,h.outs,h.wf,h.dp,h.sz,fun h=>absurd h (by decide),h.nm,h.nw⟩
section res
variable {P:Program} {N:Nat} {ρ:Nat→Value} {w:World}
theorem Q0:∀(l:List Nat),(((l.map ResultVar.tmp).mapM (m:=Sem) fun
  |.tmp t=>pure ((mk N ρ).tmps.getD t undef)
  |.cell a t=>do loadVar t (← asAddr ((mk N ρ).tmps.getD a undef)))).run P w=.ok (l.map fun t=>Be N ρ (.tmp t)) w:=by
 intro l
 induction l with
 |nil=>rfl
 |cons t l ih =>
  simp only[zf,List.mapM_cons,Sem.run_bind,Sem.run_pure,Result.andThen_ok,II]at ih ⊢
  rw[ih]
  rfl
theorem I7 {fn:Func}{R:Ending→World→Prop}{k s b t0:Nat}{ts:List Nat}{ty:TypeId}{cs:List Value}(vs:List Value)(hr:fn.results=(ResultVar.cell k ty::((t0::ts).map ResultVar.tmp)).toArray)(ha:DE P ty s=true)(hv:Be N ρ (.tmp k)=.pointer (some ⟨b,0,none⟩))(hb:BX w.heap b cs)(hl:cs.length=s)
  (hvs:((t0::ts).map fun t=>Be N ρ (.tmp t))=vs) (h:R (.returned (.tuple (.agg cs.toArray::vs).toArray)) w):bodyPost P fn R .ret (mk N ρ) w:=by
 subst hvs
 refine⟨rfl,_,?_,h⟩
 have hld:=Hs (P:=P) ha (LD.of_box hb) hl
 have hg:(mk N ρ).tmps.getD k undef=.pointer (some ⟨b,0,none⟩):=by rw[II,hv]
 have hi:(asAddr (.pointer (some ⟨b,0,none⟩))).run P w=.ok ⟨b,0,none⟩ w:=rfl
 have key:=Q0 (P:=P) (N:=N) (ρ:=ρ) (w:=w) (t0::ts)
 unfold results
 rw[hr]
 simp only[List.mapM_toArray,Sem.run_bind,Sem.run_map]
 have hfull:(((ResultVar.cell k ty::((t0::ts).map ResultVar.tmp)).mapM (m:=Sem) fun
  |.tmp t=>pure ((mk N ρ).tmps.getD t undef)
  |.cell a t=>do loadVar t (← asAddr ((mk N ρ).tmps.getD a undef)))).run P w=.ok (.agg cs.toArray::((t0::ts).map fun t=>Be N ρ (.tmp t))) w:=by
  rw[List.mapM_cons]
  simp only[Sem.run_bind,Sem.run_pure,hg,hi,hld,Result.andThen_ok]
  rw[key]
  rfl
 refine (congrArg (fun r=>(Result.andThen (Result.andThen r fun a w'=>Result.ok a.toArray w') fun a w'=>Result.ok (if h:a.size=1 then a[0]else Value.tuple a) w')) hfull).trans ?_
 simp only[Result.andThen_ok]
 rfl
end res
end
section
set_option linter.unusedSectionVars false
namespace Jx
section
variable [J:JR] {P:Program} {ops:Array Oper} {md:Region.Mode} {kd bs:Nat→Nat} {w0:World} {Q:Act→World→Prop}
theorem IR {Q':Act→World→Prop}(h:∀a w,Q a w→Q' a w):∀(l:List Nat)(a:Act)(w:World),LI P ops kd w0 Q l a w→LI P ops kd w0 Q' l a w
 |[],a,w,hh=>h a w hh
 |i::l,a,w,hh=>by
  simp only[LI]at hh ⊢
  cases hoi:ops[i]? with
  |none=>rw[hoi]at hh;exact hh.elim
  |some o =>
   rw[hoi]at hh
   simp only at hh ⊢
   split
   ·rename_i hw
    rw[if_pos hw]at hh
    exact hh.mono fun a w=>IR h l a w
   ·rename_i hw
    rw[if_neg hw]at hh
    exact IR h l _ _ hh
theorem Je (s:List Nat):∀(l:List Nat)(a:Act)(w:World),LI P ops kd w0 (LI P ops kd w0 Q s) l a w→LI P ops kd w0 Q (l++s) a w
 |[],a,w,hh=>hh
 |i::l,a,w,hh=>by
  simp only[LI,List.cons_append]at hh ⊢
  cases hoi:ops[i]? with
  |none=>rw[hoi]at hh;exact hh.elim
  |some o =>
   rw[hoi]at hh
   simp only at hh ⊢
   split
   ·rename_i hw
    rw[if_pos hw]at hh
    exact hh.mono fun a w=>Je s l a w
   ·rename_i hw
    rw[if_neg hw]at hh
    exact Je s l _ _ hh
theorem D2 {Q':Act→World→Prop}(hQ:∀a w,Q a w→Q' a w):∀(l:List Nat)(os:List Oper)(ks:List Nat)(a:Act)(w:World),Mt ops kd l os ks→LW P ops w0 Q os ks a w→LI P ops kd w0 Q' l a w
 |[],[],_,a,w,_,h=>by simpa [LI]using hQ a w (by simpa [LW]using h)
 |x::l,o::os,k::ks,a,w,⟨h0,hk,hM⟩,h=>by
  have hr:∀a w,LW P ops w0 Q os ks a w→LI P ops kd w0 Q' l a w:=fun a w hh=>D2 hQ l os ks a w hM hh
  simp only[LI,h0,LW]at h ⊢
  split
  ·rename_i hw
   rw[if_pos hw]at h
   rw[hk]
   exact h.mono hr
  ·rename_i hw
   rw[if_neg hw]at h
   exact hr _ _ h
 |[],_::_,_,_,_,h,_=>h.elim
 |_::_,[],_,_,_,h,_=>h.elim
 |_::_,_::_,[],_,_,h,_=>h.elim
structure MO (ops:Array Oper)(kd bs:Nat→Nat)(w0:World)(L0 S:List Nat)(n:Nat)(l:List Nat)(listed:Array Bool)(w:World):Prop where
 sub:l.Sublist L0
 len:l.length+S.length=n
 mem:∀i,i∈l++S↔listed.getD i true=false
 sz:listed.size=ops.size
 clo:I2 bs listed
 inv:Lx kd w0 w (l++S)
 nd:(l++S).Nodup
variable {L0:List Nat}
theorem S8 {l:List Nat}(hp:l.Pairwise (fun x y=>4≤kd x→kd y≠1)):Ly kd l:=by
 intro l1 i l2 hl hk j hj
 subst hl
 exact List.rel_of_pairwise_cons (List.pairwise_append.1 hp).2.1 hj hk
theorem Jf (hsel:∀(j:Nat)(o:Oper) cs b,ops[j]? = some o→o.op≠.select cs b)(hS:Kc md ops bs)
  (hlex:∀j oj,ops[j]? = some oj→∀e∈oj.after,Region.binds md e=true→e.on<j) {s:List Nat} (hp:(L0++s).Pairwise (Dq md ops kd bs)) (h14:(L0++s).Pairwise (fun x y=>4≤kd x→kd y≠1))
  (n:Nat) (l:List Nat) (listed:Array Bool) (a:Act) (w:World) (hC:MO ops kd bs w0 L0 s n l listed w) (h:LI P ops kd w0 (LI P ops kd w0 Q s) l a w):wpAny P md ops (NQ Q) n listed a w :=
 DU hsel hS hlex n (l++s) listed a w (by rw[z4];exact hC.len) (hp.sublist (List.Sublist.append_right hC.sub s)) hC.nd hC.sz hC.mem hC.clo
  (S8 (h14.sublist (List.Sublist.append_right hC.sub s))) hC.inv (Je s l a w h)
theorem I8 (hsel:∀ (j:Nat) (o:Oper) cs b,ops[j]? = some o→o.op≠.select cs b) (hS:Kc md ops bs)
  (hlex:∀ j oj,ops[j]? = some oj→∀ e∈oj.after,Region.binds md e = true→e.on < j)
  {h1 h2:Nat} {S1 S2:List Nat} {Q1 Q2:Act→World→Prop} (hperm:(h1 :: S1).Perm (h2 :: S2)) (hk1:kd h1 = 3) (hk2:kd h2 = 3)
  (hl:∀ x∈L0,kd x≤2) (hL:L0.Pairwise (Dq md ops kd bs)) (hf1:∀ x∈L0,Dq md ops kd bs x h1) (hf2:∀ x∈L0,Dq md ops kd bs x h2)
  (hz:∀ z∈S1,z = h2∨(bs z).testBit h1 = true∨(bs z).testBit h2 = true)
  (hord:(L0++h1 :: S1).Pairwise (fun x y=>∀ ox,ops[x]? = some ox→∀ e∈ox.after,Region.binds md e = true→e.on≠y))
  (rec1:∀ n l listed a w,MO ops kd bs w0 L0 S1 n l listed w→LI P ops kd w0 Q1 l a w→wpAny P md ops (NQ Q) n listed a w)
  (rec2:∀ n l listed a w,MO ops kd bs w0 L0 S2 n l listed w→LI P ops kd w0 Q2 l a w→wpAny P md ops (NQ Q) n listed a w) :
  ∀ (n:Nat) (l:List Nat) (listed:Array Bool) (a:Act) (w:World),MO ops kd bs w0 L0 (h1 :: S1) n l listed w→LI P ops kd w0 (fun a w=>LI P ops kd w0 Q1 [h1] a w∧LI P ops kd w0 Q2 [h2] a w) l a w→wpAny P md ops (NQ Q) n listed a w
 | 0,l,listed,a,w,hC,h=>by have:=hC.len; simp at this
 | n + 1,l,listed,a,w,hC,h=>by
  have hm2:∀ i,i∈l++h1 :: S1↔i∈l++h2 :: S2:=fun i=>by
   simp only [zi]; rw [hperm.mem_iff]
  have hun_of:∀ i∈l++h1 :: S1,listed.getD i true = false:=fun i hi=>(hC.mem i).1 hi
  -- a place that makes memory is taken
  have heavy:∀ (x:Nat) (T:List Nat) (Qx:Act→World→Prop),kd x = 3→(h1 :: S1).Perm (x :: T)→(∀ y∈L0,Dq md ops kd bs y x)→LI P ops kd w0 Qx (l++[x]) a w →
    (∀ l' a' w' listed',MO ops kd bs w0 L0 T n l' listed' w'→LI P ops kd w0 Qx l' a' w'→wpAny P md ops (NQ Q) n listed' a' w') →
    ∀ (ox:Oper),ops[x]? = some ox→(∀ e∈ox.after,Region.binds md e = true→listed.getD e.on false = true)→wpOp P ops (NQ Q) x (wpAny P md ops (NQ Q) n (listed.setIfInBounds x true)) a w:=by
   intro x T Qx hkx hpx hfx hLx hrec ox hox hall
   have hbits:=Dz hS hC.clo hox hall
   have hxm:x∈l++h1 :: S1:=z1 _ (hpx.mem_iff.2 (z0 ..))
   have hxu:=hun_of x hxm
   have hfree:=Ec (kd:=kd) (l1:=l) hox (fun y hy=>(hfx y<|hC.sub.subset hy).1) (fun y hy=>hun_of y<|z8 _ hy) hbits
   have hsz:=Ck hxu
   have hnd2:(l++x :: T).Nodup:=(List.Perm.append_left l hpx).nodup_iff.1 hC.nd
   have hxl:x∉l++T:=by
    have h1:=List.nodup_append.1 hnd2
    intro hmem
    rcases zi.1 hmem with hh | hh
    ·exact h1.2.2 x hh x (z0 ..) rfl
    ·exact (List.nodup_cons.1 h1.2.1).1 hh
   have hmT:∀ i,i∈l++x :: T↔listed.getD i true = false:=fun i=>by
    rw [← hC.mem i]; simp only [zi]; rw [hpx.mem_iff]
   have hcond:∀ w',(AE w w')→MO ops kd bs w0 L0 T n l (listed.setIfInBounds x true) w':=fun w' hE =>
    ⟨hC.sub,by have:=hC.len; have:=hpx.length_eq; simp at *; omega,G8 hmT hxl hsz,by simpa using hC.sz,EM hC.clo hbits,
     fun ⟨j,hj,hkj⟩=>(hC.inv ⟨j,by
      rcases zi.1 hj with hh | hh
      ·exact z8 _ hh
      ·exact z1 _ (hpx.mem_iff.2 (z3 _ hh)),hkj⟩).trans hE,
     hnd2.sublist (List.Sublist.append_left (List.sublist_cons_self _ _) _)⟩
   obtain ⟨g1,g2⟩:=In (Q:=Qx) hsel hox zO l [] a w hfree (by simpa using hLx)
   unfold wpOp
   rw [hox]
   by_cases hw:Region.wanted ox (yielded ops a.tmps) = true
   ·simp only [hw,if_true]
    exact .inl<|Oper.wp_mono (fun a' w' hK=>hrec l a' w' _ (hcond w'<|hK.1 hkx) (by simpa using hK.2))<|Hk<|g1 hw
   ·simp only [hw,Bool.false_eq_true,if_false]
    exact hrec l _ w _ (hcond w<|AE.refl w) (by simpa using g2 (by simpa using hw))
  refine ⟨fun h0=>?_,fun i hi=>?_⟩
  ·exfalso
   have hready:∀ (x:Nat) (t:List Nat),l++h1 :: S1 = x :: t→False:=fun x t ht=>by
    have hs:(x :: t).Pairwise (fun x y=>∀ ox,ops[x]? = some ox→∀ e∈ox.after,Region.binds md e = true→e.on≠y):=ht ▸ hord.sublist (List.Sublist.append_right hC.sub _)
    have:=GH (md:=md) (i:=x) (l:=t) hC.sz (fun y=>ht ▸ hC.mem y) hlex (fun y hy ox hox=>(List.pairwise_cons.1 hs).1 y hy ox hox)
    rw [h0] at this
    cases this
   cases l with
   | nil=>exact hready _ _ rfl
   | cons x l=>exact hready x (l++h1 :: S1) rfl
  ·obtain ⟨hun,oi,hoi,hall⟩:=mem_ready.1 hi
   have hmem:=(hC.mem i).2 hun
   have hbits:=Dz hS hC.clo hoi hall
   by_cases hil:i∈l
   ·obtain ⟨l1,l2,rfl⟩:=List.append_of_mem hil
    have hpi:∀ x∈l1,Dq md ops kd bs x i:=fun x hx=>(List.pairwise_append.1 (hL.sublist hC.sub)).2.2 x hx i (z0 ..)
    have hfree:=Ec (kd:=kd) (l1:=l1) hoi (fun x hx=>(hpi x hx).1) (fun x hx=>hun_of x (by simp [hx])) hbits
    have hk:kd i≤2:=hl i (hC.sub.subset (by simp))
    have hsub0:(l1++l2).Sublist (l1++i :: l2):=List.Sublist.append_left (List.sublist_cons_self _ _) _
    have hnd1:(l1++i :: (l2++h1 :: S1)).Nodup:=by have:=hC.nd; rwa [List.append_assoc,List.cons_append] at this
    have hnot:i∉l1++(l2++h1 :: S1):=by
     have h1:=List.nodup_append.1 hnd1
     intro hmem
     rcases zi.1 hmem with hh | hh
     ·exact h1.2.2 i hh i (z0 ..) rfl
     ·exact (List.nodup_cons.1 h1.2.1).1 hh
    have hm1:∀ x,x∈l1++i :: (l2++h1 :: S1)↔listed.getD x true = false:=fun x=>by
     have:=hC.mem x; rwa [List.append_assoc,List.cons_append] at this
    have hcond:MO ops kd bs w0 L0 (h1 :: S1) n (l1++l2) (listed.setIfInBounds i true) w :=
     ⟨hsub0.trans hC.sub,by have:=hC.len; simp at *; omega,fun x=>by rw [List.append_assoc]; exact G8 hm1 hnot (Ck hun) x,by simpa using hC.sz,EM hC.clo hbits,
      fun ⟨j,hj,hkj⟩=>hC.inv ⟨j,by
       rcases zi.1 hj with hh | hh
       ·exact z8 _<|hsub0.subset hh
       ·exact z1 _ hh,hkj⟩,
      hC.nd.sublist (List.Sublist.append_right hsub0 _)⟩
    obtain ⟨v,hv,hL'⟩:=Gy hsel hoi hk l1 l2 a w hfree (fun h1=>hC.inv ⟨i,by simp,h1⟩) h
    unfold wpOp
    rw [hoi]
    have rec_:=fun a' hh=>I8 hsel hS hlex hperm hk1 hk2 hl hL hf1 hf2 hz hord rec1 rec2 n (l1++l2) (listed.setIfInBounds i true) a' w hcond hh
    rcases hv with ⟨hw,hy⟩ | ⟨hw,rfl⟩
    ·simp only [hw,if_true]
     exact .inl<|Hl (hy w (Cl.self fun h1=>hC.inv ⟨i,by simp,h1⟩))<|rec_ _ hL'
    ·simp only [hw,Bool.false_eq_true,if_false]
     exact rec_ _ hL'
   ·have hiS:i∈h1 :: S1:=(zi.1 hmem).resolve_left hil
    have h12:i = h1∨i = h2:=by
     rcases ze.1 hiS with hh | hh
     ·exact .inl hh
     ·rcases hz i hh with hh | hh | hh
      ·exact .inr hh
      ·have q1:=hbits h1 hh
       have q2:=CY<|hun_of h1 (by simp)
       rw [q1] at q2; cases q2
      ·have q1:=hbits h2 hh
       have q2:=CY<|hun_of h2 ((hm2 h2).2 (by simp))
       rw [q1] at q2; cases q2
    rcases h12 with rfl | rfl
    ·exact heavy i S1 Q1 hk1 (List.Perm.refl _) hf1 (Je [i] l a w<|IR (fun _ _ hh=>hh.1) l a w h) (fun l' a' w' li hc hh=>rec1 n l' li a' w' hc hh) oi hoi hall
    ·exact heavy i S2 Q2 hk2 hperm hf2 (Je [i] l a w<|IR (fun _ _ hh=>hh.2) l a w h) (fun l' a' w' li hc hh=>rec2 n l' li a' w' hc hh) oi hoi hall
theorem KY (x:Nat)(l:List Nat)(a:Act)(w:World)(hh:LI P ops kd w0 Q (x::l) a w):LI P ops kd w0 (LI P ops kd w0 Q l) [x] a w:=by
 simp only[LI]at hh ⊢
 cases hoi:ops[x]? with
 |none=>rw[hoi]at hh;exact hh.elim
 |some o =>
  rw[hoi]at hh
  simp only at hh ⊢
  split
  ·rename_i hw
   rw[if_pos hw]at hh
   exact hh.mono fun a w h=>h
  ·rename_i hw
   rw[if_neg hw]at hh
   exact hh
end
def NY (ops:Array Oper)(x y:Nat):Bool:=match ops[x]? with|some ox=>ox.after.all fun e=>!Region.binds .any e || e.on != y|none=>true
def Vt (os:List Oper)(ks:List Nat)(L0:List Nat)(h1 g1:Nat)(r1:List Nat)(g2:Nat)(r2:List Nat)(h2:Nat)(r3:List Nat):Bool :=
  let ops:=os.toArray
  let b:=(Region.before ops).toList
  Region.noSelect ops &&
  (os.zipIdx.all fun(o,j) =>
    (o.after.all fun e=>!Region.binds .any e || decide (e.on<j)) &&
    (let m:=o.after.foldl (fun s e=>if Region.binds .any e then s ||| 2 ^ e.on ||| b.getD e.on 0 else s) 0
     (b.getD j 0 == m))) &&
  (decide (ks.getD h1 0=3) && (decide (ks.getD h2 0=3) && (decide (ks.getD g1 0=3) && decide (ks.getD g2 0=3)))) &&
  (L0.all fun x=>decide (ks.getD x 0≤2)) &&
  OD (FG ops ks b) L0 &&
  (L0.all fun x=>FG ops ks b x h1 && (FG ops ks b x h2 && (FG ops ks b x g1 && FG ops ks b x g2))) &&
  ((h1::g1::r1).isPerm (h2::r3) && (g1::r1).isPerm (g2::r2)) &&
  ((g1::r1).all fun z=>decide (z=h2) || ((b.getD z 0).testBit h1 || (b.getD z 0).testBit h2)) &&
  (r1.all fun z=>decide (z=g2) || ((b.getD z 0).testBit g1 || (b.getD z 0).testBit g2)) &&
  (OD (NY ops) (L0++h1::g1::r1)) &&
  (OD (FG ops ks b) (L0++r1) && (OD (FG ops ks b) (L0++r2) && OD (FG ops ks b) (L0++r3))) &&
  (OD (fun x y=>!(decide (4≤ks.getD x 0)) || ks.getD y 0 != 1) (L0++r1) && (OD (fun x y=>!(decide (4≤ks.getD x 0)) || ks.getD y 0 != 1) (L0++r2) && OD (fun x y=>!(decide (4≤ks.getD x 0)) || ks.getD y 0 != 1) (L0++r3))) &&
  (decide ((L0++h1::g1::r1).length=os.length) && (decide (L0++h1::g1::r1).Nodup && ((L0++h1::g1::r1).all (fun x=>decide (x<os.length)) && (List.range os.length).all fun x=>(L0++h1::g1::r1).contains x)))
section
variable [J:JR] {P:Program}
theorem Vu {id:Nat}{Q:Exit→Act→World→Prop}{a:Act}{w:World}(os:List Oper)(ks:List Nat)(L0:List Nat)(h1 g1:Nat)(r1:List Nat)(g2:Nat)(r2:List Nat)(h2:Nat)(r3:List Nat)
  (oL:List Oper) (kL:List Nat) (oh1 og1:Oper) (o1:List Oper) (k1:List Nat) (og2:Oper) (o2:List Oper) (k2:List Nat) (oh2:Oper) (o3:List Oper) (k3:List Nat) (hm:P.follows .mixedOrders=true) (hB:Vt os ks L0 h1 g1 r1 g2 r2 h2 r3=true)
  (hML:Mt os.toArray (fun i=>ks.getD i 0) L0 oL kL) (hMh:Mt os.toArray (fun i=>ks.getD i 0) [h1] [oh1] [3]) (hM1:Mt os.toArray (fun i=>ks.getD i 0) (g1::r1) (og1::o1) (3::k1)) (hM2:Mt os.toArray (fun i=>ks.getD i 0) (g2::r2) (og2::o2) (3::k2)) (hM3:Mt os.toArray (fun i=>ks.getD i 0) (h2::r3) (oh2::o3) (3::k3))
  (h:LW P os.toArray w.drew (fun a' w'=>LW P os.toArray w.drew (fun a'' w''=>LW P os.toArray w.drew (fun a w=>Q .normal a w) (og1::o1) (3::k1) a'' w''∧LW P os.toArray w.drew (fun a w=>Q .normal a w) (og2::o2) (3::k2) a'' w'') [oh1] [3] a' w' ∧
   LW P os.toArray w.drew (fun a w=>Q .normal a w) (oh2::o3) (3::k3) a' w') oL kL a w.drew):(Code.region id os.toArray true).wp P Q a w:=by
 refine wp_region_any hm ?_
 simp only[Vt,z7,decide_eq_true_eq]at hB
 obtain⟨⟨⟨⟨⟨⟨⟨⟨⟨⟨⟨⟨hsel,hpl⟩,hk1,hk2,hk3,hk4⟩,hl⟩,hpL⟩,hpx⟩,hpe1,hpe2⟩,hz1⟩,hz2⟩,hord⟩,hb1,hb2,hb3⟩,hn1,hn2,hn3⟩,hln,hnd,hlt,hct⟩:=hB
 have hz:∀ {j:Nat} {o:Oper},os.toArray[j]? = some o→(o,j)∈os.zipIdx:=by
  intro j o ho
  rw[List.mem_zipIdx_iff_getElem?]
  simpa using ho
 have hall:∀j oj,os.toArray[j]? = some oj→_:=fun j oj hj=>zm.1 hpl _ (hz hj)
 have hlex:∀j oj,os.toArray[j]? = some oj→∀e∈oj.after,Region.binds .any e=true→e.on<j:=by
  intro j oj hj e he hb
  have h1:=(z7 _ _ ▸ hall j oj hj:_∧_).1
  have h2:=(Array.all_eq_true_iff_forall_mem.1 h1) e he
  simpa [hb]using h2
 have hS:Kc .any os.toArray (fun j=>(Region.before os.toArray).toList.getD j 0):=by
  intro j oj hj i hb
  have h3:=(z7 _ _ ▸ hall j oj hj:_∧_).2
  have h5:(Region.before os.toArray).toList.getD j 0=oj.after.foldl (fun s e=>if Region.binds .any e then s ||| 2 ^ e.on ||| (Region.before os.toArray).toList.getD e.on 0 else s) 0:=by simpa using h3
  dsimp only at hb
  rw[h5,← Array.foldl_toList]at hb
  rcases EN _ _ _ _ hb with hb|⟨e,he,hbb,hh⟩
  ·simp at hb
  ·exact⟨e,Array.mem_toList_iff.1 he,hbb,hh⟩
 have hmem:∀x,x∈L0++h1::g1::r1↔x<os.length:=fun x=>by
  constructor
  ·intro hx;exact of_decide_eq_true (zm.1 hlt x hx)
  ·intro hx
   have:=zm.1 hct x (List.mem_range.2 hx)
   simpa using this
 have hse:=Region.noSelect_spec hsel
 have P2:∀ {l:List Nat},OD (FG os.toArray ks (Region.before os.toArray).toList) l=true→l.Pairwise (Dq .any os.toArray (fun i=>ks.getD i 0) (fun j=>(Region.before os.toArray).toList.getD j 0)):=fun h=>Hn (fun x y hh=>DW hh) h
 have N2:∀ {l:List Nat},OD (fun x y=>!(decide (4≤ks.getD x 0)) || ks.getD y 0 != 1) l=true→l.Pairwise (fun x y=>4≤ks.getD x 0→ks.getD y 0≠1):=fun h=>Hn (fun x y hxy h4=>by
  rcases Bool.or_eq_true_iff.1 hxy with hh|hh
  ·simp only[Bool.not_eq_true',decide_eq_false_iff_not]at hh;exact absurd h4 hh
  ·simpa using hh) h
 have hL2:∀x∈L0,ks.getD x 0≤2:=fun x hx=>of_decide_eq_true (zm.1 hl x hx)
 have hx4:∀x∈L0,_:=fun x hx=>zm.1 hpx x hx
 simp only[z7]at hx4
 have hordP:(L0++h1::g1::r1).Pairwise (fun x y=>∀ox,os.toArray[x]? = some ox→∀e∈ox.after,Region.binds .any e=true→e.on≠y):=Hn (fun x y hh ox hox e he hb=>by
  unfold NY at hh
  rw[hox]at hh
  have:=(Array.all_eq_true_iff_forall_mem.1 hh) e he
  simpa [hb]using this) hord
 have hord2:(L0++g1::r1).Pairwise (fun x y=>∀ox,os.toArray[x]? = some ox→∀e∈ox.after,Region.binds .any e=true→e.on≠y):=hordP.sublist (List.Sublist.append_left (List.sublist_cons_self _ _) _)
 have zz1:∀z∈g1::r1,z=h2∨((Region.before os.toArray).toList.getD z 0).testBit h1=true∨((Region.before os.toArray).toList.getD z 0).testBit h2=true:=fun z hz=>by
  have:=zm.1 hz1 z hz
  simpa only[Bool.or_eq_true,decide_eq_true_eq]using this
 have zz2:∀z∈r1,z=g2∨((Region.before os.toArray).toList.getD z 0).testBit g1=true∨((Region.before os.toArray).toList.getD z 0).testBit g2=true:=fun z hz=>by
  have:=zm.1 hz2 z hz
  simpa only[Bool.or_eq_true,decide_eq_true_eq]using this
 have base1:=Jf (P:=P) (w0:=w.drew) (Q:=fun a w=>Q .normal a w) hse hS hlex (P2 hb1)<|N2 hn1
 have base2:=Jf (P:=P) (w0:=w.drew) (Q:=fun a w=>Q .normal a w) hse hS hlex (P2 hb2)<|N2 hn2
 have base3:=Jf (P:=P) (w0:=w.drew) (Q:=fun a w=>Q .normal a w) hse hS hlex (P2 hb3)<|N2 hn3
 have inner:=I8 (P:=P) (w0:=w.drew) (Q:=fun a w=>Q .normal a w) hse hS hlex (h1:=g1) (h2:=g2) (S1:=r1) (S2:=r2) (List.isPerm_iff.1 hpe2) hk3 hk4 hL2 (P2 hpL) (fun x hx=>DW (hx4 x hx).2.2.1) (fun x hx=>DW (hx4 x hx).2.2.2) zz2 hord2 base1 base2
 have outer:=I8 (P:=P) (w0:=w.drew) (Q:=fun a w=>Q .normal a w) hse hS hlex (h1:=h1) (h2:=h2) (S1:=g1::r1) (S2:=r3) (List.isPerm_iff.1 hpe1) hk1 hk2 hL2 (P2 hpL) (fun x hx=>DW (hx4 x hx).1) (fun x hx=>DW (hx4 x hx).2.1) zz1 hordP inner base3
 have key:=outer os.length L0 (Array.replicate os.length false) a w.drew ⟨List.Sublist.refl _,by rw[← hln,z4],fun x=>?_,by simp,?_,fun _=>AE.refl _,hnd⟩ ?_
 ·have:=GI _ _ _ _ key
  simpa using this
 ·rw[hmem]
  constructor
  ·intro hx;simp[hx]
  ·intro hh
   rcases Nat.lt_or_ge x os.length with h'|h'
   ·exact h'
   ·simp[Array.getElem?_eq_none (show(Array.replicate os.length false).size≤x by simpa using h')]at hh
 ·intro i hi
  rcases Nat.lt_or_ge i os.length with h'|h'
  ·simp[h']at hi
  ·simp[Array.getElem?_eq_none (show(Array.replicate os.length false).size≤i by simpa using h')]at hi
 ·refine D2 (fun a w hh=>⟨?_,?_⟩) _ _ _ _ _ hML h
  ·exact D2 (fun a w hh=>⟨KY _ _ _ _<|D2 (fun _ _ h=>h) _ _ _ _ _ hM1 hh.1,KY _ _ _ _<|D2 (fun _ _ h=>h) _ _ _ _ _ hM2 hh.2⟩) _ _ _ _ _ hMh hh.1
  ·exact KY _ _ _ _<|D2 (fun _ _ h=>h) _ _ _ _ _ hM3 hh.2
theorem Z6 {ops:Array Oper}{w0:World}{Q:Act→World→Prop}{o:Oper}{os:List Oper}{ks:List Nat}{a:Act}{w:World}(h:_root_.Go.Proofs.YtemfgblmfahllaaGreat.LW P ops w0 (fun a' w'=>AE w w'∧LW P ops w0 Q os ks a' w') [o] [4] a w):LW P ops w0 Q (o::os) (3::ks) a w:=by
 simp only[_root_.Go.Proofs.YtemfgblmfahllaaGreat.LW]at h
 simp only[LW]
 split
 ·rename_i hw
  rw[if_pos hw]at h
  unfold _root_.Go.Proofs.YtemfgblmfahllaaGreat.Bu at h
  unfold Bu
  rw[if_neg (by decide),if_neg (by decide)]at h
  rw[if_neg (by decide),if_pos rfl]
  exact h
 ·rename_i hw
  rw[if_neg hw]at h
  exact h.2
theorem Yl {ops:Array Oper}{w0:World}{Q:Act→World→Prop}{o:Oper}{os:List Oper}{ks:List Nat}{a:Act}{w:World}(h:_root_.Go.Proofs.YtemfgblmfahllaaGreat.LW P ops w0 (fun a' w'=>LW P ops w0 Q os ks a' w') [o] [3] a w):LW P ops w0 Q (o::os) (3::ks) a w:=by
 simp only[_root_.Go.Proofs.YtemfgblmfahllaaGreat.LW]at h
 simp only[LW]
 split
 ·rename_i hw
  rw[if_pos hw]at h
  unfold _root_.Go.Proofs.YtemfgblmfahllaaGreat.Bu at h
  unfold Bu
  rw[if_neg (by decide),if_pos rfl]at h
  rw[if_neg (by decide),if_pos rfl]
  exact Oper.wp_mono (fun a w hh=>⟨J.ext hh.1,hh.2⟩) h
 ·rename_i hw
  rw[if_neg hw]at h
  exact h
end
end Jx
end
section
structure Aw where
 op:Int
 a:Int
 b:Int
 num:Int
def Aw.zero:Aw:=⟨0,0,0,0⟩
structure GU where
 reg:Int
 z:Bool
def GU.zero:GU:=⟨0,false⟩
structure Tp where
 code:List Aw
 grd:List GU
 vals:List Int
def Rm (x:Aw):List Value:=[.int .i64 x.op,.int .i64 x.a,.int .i64 x.b,.int .i64 x.num]
def Y7 (x:GU):List Value:=[.int .i64 x.reg,.bool x.z]
def OO (x:Aw):Prop:=Bn x.op∧Bn x.a∧Bn x.b∧Bn x.num
def Ix:BL Aw:=fun _ cs x F=>cs=Rm x∧OO x∧F=[]
def Iy:BL GU:=fun _ cs x F=>cs=Y7 x∧Bn x.reg∧F=[]
theorem AL:C8 4 Ix where
 len:=fun h=>by rw[h.1];rfl
 one:=fun h u hu=>by
  rw[h.1]at hu
  simp only[Rm,ze,z2,or_false]at hu
  rcases hu with rfl|rfl|rfl|rfl <;> exact⟨rfl,rfl⟩
 lt:=fun h b hb=>by rw[h.2.2]at hb;cases hb
 stable:=fun h _=>h
theorem AT:C8 2 Iy where
 len:=fun h=>by rw[h.1];rfl
 one:=fun h u hu=>by
  rw[h.1]at hu
  simp only[Y7,ze,z2,or_false]at hu
  rcases hu with rfl|rfl <;> exact⟨rfl,rfl⟩
 lt:=fun h b hb=>by rw[h.2.2]at hb;cases hb
 stable:=fun h _=>h
theorem Q3 {B U:Nat}{H:Array Obj}{x:Aw}(h:OO x):OI Ix B U H (Rm x) x:=⟨[],⟨rfl,h,rfl⟩,zk,fun b hb=>by cases hb⟩
theorem Ux {B U:Nat}{H:Array Obj}{x:GU}(h:Bn x.reg):OI Iy B U H (Y7 x) x:=⟨[],⟨rfl,h,rfl⟩,zk,fun b hb=>by cases hb⟩
section ops
variable {P:Program} {ops:Array Oper} {w0:World} {Q:Act→World→Prop} {os:List Oper} {ks:List Nat} {N:Nat} {ρ:Nat→Value} {w:World}
 {d:Nat} {ty:TypeId} {pos:String} {aft:Array Edge} {g:Option (Nat×Bool)} {t e:TypeId} {z:Value} {b s:Nat}
theorem KZ {α:Type}{E:BL α}(hE:C8 s E){x y:Operand}{v a:Value}{xs:List α}{y0:α}{B T B' U':Nat}{F:List Nat}(ht:P.underlying t=some (.slice e))(hi:TI P e s z b)(hz:z.cells.size=s)(hs:0<s)(hx:Be N ρ x=v)(hy:Be N ρ y=a)(hv:Ow (DZ s E e) B T w.heap v xs F)
  (ha:Fr (DZ s E e) B' U' w.heap a [y0]) (hT:T≤B') (hB:B≤B') (hBw:B≤w.heap.size) (hbytes:(xs.length+1)*b≤140737488355328) (hmx:xs.length+1≤maxLen) (hu:Up ops N ρ ⟨some d,.call ⟨.builtin .append,#[x,y],#[t,t]⟩,ty,pos,aft,g⟩)
  (h:∀v1 w1 F1,At F w w1→Ow (DZ s E e) B w1.heap.size w1.heap v1 (xs++[y0]) F1→(∀c∈F1,c∈F∨(B'≤c∧c<U')∨w.heap.size≤c)→LW P ops w0 Q os ks (mk N (C2 ρ d v1)) w1) :
  LW P ops w0 Q (⟨some d,.call ⟨.builtin .append,#[x,y],#[t,t]⟩,ty,pos,aft,g⟩::os) (4::ks) (mk N ρ) w:=by
 obtain⟨v1,w1,F0,r1,⟨F1,r2,r3,r4⟩,r5,r6⟩:=LG (P:=P) (ty:=ty) hE ht hi hz hs (S:=fun b=>b∈F) (T:=fun b=>B'≤b∧b<U') ⟨F,hv.own,hv.nodup,fun _ h=>h⟩ ha (fun b h1 h2=>by have:=hv.high b h1;omega) hbytes hmx
 have hh:∀c∈F1,c∈F∨(B'≤c∧c<U')∨w.heap.size≤c:=fun c hc=>by
  rcases r4 c hc with h|h|h
  ·exact .inl h
  ·exact .inr<|.inl h
  ·exact .inr<|.inr<|Nat.le_of_eq h.symm
 exact Hp rfl hu v1 w1 (by simp only[execOp,resolve,invoke,builtin,zc,zf,zh,Sem.run_bind,Sem.run_pure,Result.andThen_ok,hx,hy,r1])
  (h v1 w1 F1 (r5.sub r6) ⟨r2,r3,fun c hc=>by
   rcases hh c hc with h|h|h
   ·exact hv.low c h
   ·omega
   ·omega,fun c hc=>(As hE).lt r2 c hc⟩ hh)
theorem Jg {x y:Operand}{v a:Value}{xs ys:List Int}{B T:Nat}{F:List Nat}(ht:P.underlying t=some (.slice e))(hi:TI P e 1 z b)(hz:z.cells=#[z])(hx:Be N ρ x=v)(hy:Be N ρ y=a)(hv:Ow (B8 rI e) B T w.heap v xs F)
  (ha:Rd (B4 rI) w.heap a ys) (hB:B≤w.heap.size) (hbytes:(xs.length+ys.length)*b≤140737488355328) (hmx:xs.length+ys.length≤maxLen) (hu:Up ops N ρ ⟨some d,.call ⟨.builtin .append,#[x,y],#[t,t]⟩,ty,pos,aft,g⟩)
  (h:∀v1 w1 F1,At F w w1→Ow (B8 rI e) B w1.heap.size w1.heap v1 (xs++ys) F1→(∀c∈F1,c∈F∨w.heap.size≤c)→LW P ops w0 Q os ks (mk N (C2 ρ d v1)) w1) :
  LW P ops w0 Q (⟨some d,.call ⟨.builtin .append,#[x,y],#[t,t]⟩,ty,pos,aft,g⟩::os) (4::ks) (mk N ρ) w:=by
 obtain⟨G,g1⟩:=ha
 have hG:G.drop 1=[]:=by
  rcases g1 with⟨_,_,_,_,rfl⟩|⟨us,g,off,cap,cur,e',fr,G',hels,_,_,_,_,rfl⟩
  ·rfl
  ·exact EQ hels
 obtain⟨v',w',F',r1,r2,r3,r4,r5⟩:=Ga (P:=P) (ty:=ty) AI ht hi hz hv.own hv.nodup g1 rfl hbytes hmx (fun c hc=>by rw[hG]at hc;cases hc) (by rw[hG];exact zk)
 have hh:∀c∈F',c∈F∨w.heap.size≤c:=fun c hc=>by
  rcases r4 c hc with h|h|h
  ·exact .inl h
  ·rw[hG]at h;cases h
  ·exact .inr<|Nat.le_of_eq h.symm
 exact Hp rfl hu v' w' (by simp only[execOp,resolve,invoke,builtin,zc,zf,zh,Sem.run_bind,Sem.run_pure,Result.andThen_ok,hx,hy,r1])
  (h v' w' F' (r5.sub fun c hc=>zj hc) ⟨r2,r3,fun c hc=>by
   rcases hh c hc with h|h
   ·exact hv.low c h
   ·omega,fun c hc=>(AY AI).lt r2 c hc⟩ hh)
theorem Sa {x y:Operand} {v a u:Value} {xs:List Int} {r:Int} {S:List Nat} {B' U':Nat} (ht:P.underlying t = some (.slice e)) (hi:TI P e 1 z b) (hz:z.cells = #[z]) (hx:Be N ρ x = Hr v) (hy:Be N ρ y = a)
  (hv:RN S (B4 rI) w.heap v xs) (ha:Fr (B8 rV e) B' U' w.heap a [u]) (hr:RN S rI w.heap u r) (hS:∀ c∈S,c < w.heap.size) (hbytes:(xs.length + 1) * b≤140737488355328) (hmx:xs.length + 1≤maxLen)
  (hu:Up ops N ρ ⟨some d,.call ⟨.builtin .append,#[x,y],#[t,t]⟩,ty,pos,aft,g⟩)
  (h:∀ v1 w1,AE w w1→RN S (B4 rI) w1.heap v1 (xs++[r])→CD v1→LW P ops w0 Q os ks (mk N (C2 ρ d v1)) w1) :
  LW P ops w0 Q (⟨some d,.call ⟨.builtin .append,#[x,y],#[t,t]⟩,ty,pos,aft,g⟩ :: os) (4 :: ks) (mk N ρ) w:=by
 obtain ⟨G,g1',g2',g3'⟩:=ha
 obtain ⟨K,k1,k2⟩:=hv
 obtain ⟨R,r1,r2⟩:=hr
 obtain ⟨i,h1,h2,h3,h4⟩:=hi.get
 subst h4
 have hone:=AI.one r1
 rcases g1' with ⟨_,hc,_⟩ | ⟨asq,ga,capa,cura,Fa,helsa,hav,hga,qa1,qa2,qa3,qa4,rfl⟩
 ·cases hc
 ·obtain ⟨hq,hFa⟩:=ES helsa
  subst hq
  subst hav
  have hnews:∀ j q,[u][j]? = some q→w.cell? ((⟨ga,0,none⟩:Addr).add j) = some q:=by
   intro j q hj
   rw [GM,BP]
   simp only [BR,hga]
   rw [← qa4,List.getElem?_take] at hj
   split at hj
   ·simpa using hj
   ·cases hj
  have made:∀ (w1:World) (ous:List Value) (K0:List Nat) (rest:Nat),w1.heap = w.heap→w1.os = w.os→w1.tape = w.tape→w1.output = w.output→els rI w.heap ous xs K0→(∀ c∈K0,c∈K)→xs.length + 1 + rest≤maxLen →
    AE w (w1.alloc (.cells (ous.toArray++[u].toArray++Builtin.zeroCells z.cells rest) e))∧RN S (B4 rI) (w1.alloc (.cells (ous.toArray++[u].toArray++Builtin.zeroCells z.cells rest) e)).heap (.slice (some ⟨w.heap.size,0,none⟩) (xs.length + 1) (xs.length + 1 + rest)) (xs++[r]):=by
   intro w1 ous K0 rest hh ho htp hop hou hsub hmax
   have hE:AE w (w1.alloc (.cells (ous.toArray++[u].toArray++Builtin.zeroCells z.cells rest) e)):=by
    refine ⟨ho,htp,hop,?_,fun k hk=>?_⟩
    ·show w.heap.size≤(w1.heap.push _).size
     rw [hh]; simp
    ·have:=Below.heap_alloc w1 (.cells (ous.toArray++[u].toArray++Builtin.zeroCells z.cells rest) e) k (by rw [hh]; exact hk)
     rw [this,hh]
   refine ⟨hE,w.heap.size :: (K0++R),.inr ⟨ous++[u],w.heap.size,0,xs.length + 1 + rest,(ous.toArray++[u].toArray++Builtin.zeroCells z.cells rest),e,(0,0),K0++R,?_,by simp,?_,?_,by simp; omega,rfl⟩,?_⟩
   ·refine els.stable AI (hou.append (show els rI w.heap [u] [r] R from ⟨R,[],by simp,r1,rfl⟩)) fun c hc=>hE.heap ?_
    exact (hou.append (show els rI w.heap [u] [r] R from ⟨R,[],by simp,r1,rfl⟩)).lt AI c hc
   ·have:=heap_alloc_new w1 (.cells (ous.toArray++[u].toArray++Builtin.zeroCells z.cells rest) e)
    rw [hh] at this; exact this
   ·have hl:=hou.length
    simp only [Array.toList_append,List.drop_zero]
    rw [show (xs++[r]).length = (ous++[u]).length from by simp [hl]]
    exact List.take_left
   ·intro c hc hm
    rcases ze.1 hc with rfl | hc
    ·have:=hS _ hm; omega
    ·rcases zi.1 hc with hc | hc
     ·exact k2 c (hsub c hc) hm
     ·exact r2 c hc hm
  have hone1:[u].length = [u].length * i.size:=by rw [h3,Nat.mul_one]
  rcases k1 with ⟨a0,cap0,rfl,rfl,rfl⟩ | ⟨ous,gv,off,cap,cur,e',fr,K',hels,rfl,hg,hw,_,rfl⟩
  ·-- nothing so far
   cases a0 with
   | none =>
    have hrr:=run_append_nil (P:=P) w t ty e i z ht h1 h2 ⟨ga,0,none⟩ 1 capa [u] hone1 hnews (by decide) (by decide) (by simp at hbytes; omega)
    have hge:=grownCap_ge w 1 0 e
    have hgm:=grownCap_le_maxLen w 1 0 e (by simpa using hmx)
    obtain ⟨q1,q2⟩:=made w.drew [] [] (grownCap w 1 0 e - 1) rfl rfl rfl rfl rfl (fun c hc=>by cases hc) (by simp; omega)
    refine Hp rfl hu _ _ (by simp only [execOp,resolve,invoke,builtin,zc,zf,zh,Sem.run_bind,Sem.run_pure,Result.andThen_ok,hx,hy,Hr]; rw [show [u].length = 1 from rfl,hrr]; rfl)<|h _ _ ?_ ?_ ?_
    ·simpa using q1
    ·have ea:(([]:List Int).length + 1 + (grownCap w 1 0 e - 1)) = grownCap w 1 0 e:=by simp; omega
     rw [ea] at q2
     simpa using q2
    ·exact hge
   | some a1 =>
    have hrr:=run_append_grow (P:=P) w t ty e i z ht h1 h2 a1 0 0 [] (by rw [h3]; rfl) (by intro j q hj; cases hj) ⟨ga,0,none⟩ 1 capa [u] hone1 hnews zO (by decide)<|growslice_fits zO (by simpa using hbytes)
    have hge:=grownCap_ge w (0 + 1) 0 e
    have hgm:=grownCap_le_maxLen w (0 + 1) 0 e (by simpa using hmx)
    obtain ⟨q1,q2⟩:=made w.drew [] [] (grownCap w (0 + 1) 0 e - (0 + 1)) rfl rfl rfl rfl rfl (fun c hc=>by cases hc) (by show 0 + 1 + (grownCap w (0 + 1) 0 e - (0 + 1))≤maxLen; omega)
    refine Hp rfl hu _ _ (by simp only [execOp,resolve,invoke,builtin,zc,zf,zh,Sem.run_bind,Sem.run_pure,Result.andThen_ok,hx,hy,Hr]; rw [show [u].length = 1 from rfl,hrr]; rfl)<|h _ _ q1 ?_ ?_
    rotate_left
    ·exact hge
    have ea:(([]:List Int).length + 1 + (grownCap w (0 + 1) 0 e - (0 + 1))) = grownCap w (0 + 1) 0 e:=by show 0 + 1 + (grownCap w (0 + 1) 0 e - (0 + 1)) = _; omega
    rw [ea] at q2
    simpa using q2
  ·have holds:∀ j q,ous[j]? = some q→w.cell? ((⟨gv,off,none⟩:Addr).add j) = some q:=by
    intro j q hj
    rw [GM,BP]
    simp only [BR,hg]
    rw [← hw,List.getElem?_take] at hj
    split at hj
    ·rw [List.getElem?_drop] at hj; simpa using hj
    ·cases hj
   have hrr:=run_append_grow (P:=P) w t ty e i z ht h1 h2 ⟨gv,off,none⟩ xs.length xs.length ous (by rw [h3,hels.length]; omega) holds ⟨ga,0,none⟩ 1 capa [u] hone1 hnews zO (by simp only [maxLen] at hmx; omega)<|growslice_fits zO hbytes
   have hge:=grownCap_ge w (xs.length + 1) xs.length e
   have hgm:=grownCap_le_maxLen w (xs.length + 1) xs.length e hmx
   obtain ⟨q1,q2⟩:=made w.drew ous K' (grownCap w (xs.length + 1) xs.length e - (xs.length + 1)) rfl rfl rfl rfl hels (fun c hc=>z3 _ hc) zO
   refine Hp rfl hu _ _ (by simp only [execOp,resolve,invoke,builtin,zc,zf,zh,Sem.run_bind,Sem.run_pure,Result.andThen_ok,hx,hy,Hr]; rw [show [u].length = 1 from rfl,hrr]; rfl)<|h _ _ q1 ?_ ?_
   rotate_left
   ·exact hge
   have ea:(xs.length + 1 + (grownCap w (xs.length + 1) xs.length e - (xs.length + 1))) = grownCap w (xs.length + 1) xs.length e:=by omega
   rw [ea] at q2
   exact q2
end ops
def C3 (t1 t2 t3:TypeId)(S:List Nat)(g:Nat)(H:Array Obj)(vc vg vv:Value)(T:Tp):Prop :=
 ∃Fc Fg Fv,Ow (DZ 4 Ix t1) 0 H.size H vc T.code Fc∧Ow (DZ 2 Iy t2) 0 H.size H vg T.grd Fg∧Ow (B8 rI t3) 0 H.size H vv T.vals Fv ∧
  ((∀b∈Fc,b∉Fg)∧(∀b∈Fc,b∉Fv)∧(∀b∈Fg,b∉Fv))∧(g∉Fc∧g∉Fg∧g∉Fv)∧(∀b∈Fc,b∈S)∧(∀b∈Fg,b∈S)∧(∀b∈Fv,b∈S)
section rcm
variable {t1 t2 t3:TypeId} {S S':List Nat} {g:Nat} {w w':World} {vc vg vv:Value} {T:Tp}
theorem Ow.chgS {α:Type}{E:Bf α}(hE:BF E){B:Nat}{v:Value}{x:α}{F G:List Nat}(h:Ow E B w.heap.size w.heap v x F)(c:At G w w')(hG:∀b∈G,b∉F):Ow E B w'.heap.size w'.heap v x F:=(h.keep hE c hG).up c.size
theorem C3.ext (h:C3 t1 t2 t3 S g w.heap vc vg vv T)(k:AE w w'):C3 t1 t2 t3 S g w'.heap vc vg vv T:=by
 obtain⟨Fc,Fg,Fv,h1,h2,h3,h4⟩:=h
 exact⟨Fc,Fg,Fv,(h1.ext (As AL) k).up k.size,(h2.ext (As AT) k).up k.size,(h3.ext (AY AI) k).up k.size,h4⟩
theorem C3.chg (h:C3 t1 t2 t3 S g w.heap vc vg vv T)(k:At [g] w w'):C3 t1 t2 t3 S g w'.heap vc vg vv T:=by
 obtain⟨Fc,Fg,Fv,h1,h2,h3,h4,h5,h6⟩:=h
 exact⟨Fc,Fg,Fv,h1.chgS (As AL) k fun b hb hm=>by rw[A9 hb]at hm;exact h5.1 hm,h2.chgS (As AT) k fun b hb hm=>by rw[A9 hb]at hm;exact h5.2.1 hm,
  h3.chgS (AY AI) k fun b hb hm=>by rw[A9 hb]at hm;exact h5.2.2 hm,h4,h5,h6⟩
theorem C3.chgO {F:List Nat}(h:C3 t1 t2 t3 S g w.heap vc vg vv T)(k:At F w w')(hF:∀b∈F,b∉S):C3 t1 t2 t3 S g w'.heap vc vg vv T:=by
 obtain⟨Fc,Fg,Fv,h1,h2,h3,h4,h5,h6⟩:=h
 exact⟨Fc,Fg,Fv,h1.chgS (As AL) k fun b hb hm=>hF b hb (h6.1 b hm),h2.chgS (As AT) k fun b hb hm=>hF b hb (h6.2.1 b hm),
  h3.chgS (AY AI) k fun b hb hm=>hF b hb (h6.2.2 b hm),h4,h5,h6⟩
theorem C3.rdv (h:C3 t1 t2 t3 S g w.heap vc vg vv T):Rd (B4 rI) w.heap vv T.vals:=by
 obtain⟨Fc,Fg,Fv,h1,h2,h3,_⟩:=h
 exact h3.fr.rd1
theorem C3.slv (h:C3 t1 t2 t3 S g w.heap vc vg vv T):Ek vv T.vals.length:=by
 obtain⟨Fc,Fg,Fv,h1,h2,h3,_⟩:=h
 exact h3.fr.isSl
theorem C3.slc (h:C3 t1 t2 t3 S g w.heap vc vg vv T):Ek vc T.code.length:=by
 obtain⟨Fc,Fg,Fv,h1,h2,h3,_⟩:=h
 exact h1.own.isSl
theorem C3.slg (h:C3 t1 t2 t3 S g w.heap vc vg vv T):Ek vg T.grd.length:=by
 obtain⟨Fc,Fg,Fv,h1,h2,h3,_⟩:=h
 exact h2.own.isSl
end rcm
def P6 (t1 t2 t3:TypeId)(S:List Nat)(g:Nat)(H:Array Obj)(vp:Value)(ip:Int)(T:Tp)(s:Nat)(c:Int):Prop :=
 ∃vc vg vv,BX H g [vp,.int .i64 ip,vc,vg,.slice none 0 0,vv,.int .i64 ((s:Nat):Int),.int .i64 c]∧C3 t1 t2 t3 S g H vc vg vv T
theorem RN.stp {α:Type}{E:Bf α}(hE:BF E){S S':List Nat}{w w':World}{v:Value}{x:α}(h:RN S E w.heap v x)(c:At S w w')(hs:∀b∈S',b∈S∨w.heap.size≤b):RN S' E w'.heap v x:=by
 obtain⟨F,h1,h2⟩:=h
 refine⟨F,hE.stable h1 fun b hb=>c.block b (hE.lt h1 b hb) (h2 b hb),fun b hb hm=>?_⟩
 rcases hs b hm with hh|hh
 ·exact h2 b hb hh
 ·have:=hE.lt h1 b hb;omega
theorem At.stp {S S':List Nat}{a b c:World}(h:At S a b)(k:At S' b c)(hs:∀x∈S',x∈S∨a.heap.size≤x):At S a c :=
 ⟨k.os.trans h.os,k.tape.trans h.tape,k.output.trans h.output,A8 h.size k.size,fun i hi hm=>(k.block i (Nat.lt_of_lt_of_le hi h.size) fun hh=>by
  rcases hs i hh with h9|h9
  ·exact hm h9
  ·omega).trans (h.block i hi hm)⟩
theorem MP {S S' S'':List Nat}{n m:Nat}(h:∀b∈S',b∈S∨n≤b)(k:∀b∈S'',b∈S'∨m≤b)(hn:n≤m):∀b∈S'',b∈S∨n≤b:=fun b hb=>by
 rcases k b hb with hh|hh
 ·exact h b hh
 ·exact .inr zO
end
section
def Tp.put (T:Tp)(c:Aw)(v:Int):Tp:=⟨T.code++[c],T.grd,T.vals++[v]⟩
def Tp.guard (T:Tp)(r:Int)(z:Bool):Tp:=⟨T.code,T.grd++[⟨r,z⟩],T.vals⟩
def Tp.at (T:Tp)(r:Int):Int:=T.vals.getD r.toNat 0
abbrev RI:=Int×Tp
abbrev RL:=List Int×Tp
structure Cg where
 one:Nat→Nat→List Int→Nat→Tp→Rs RI
 all:Nat→List Int→Nat→Tp→Rs RL
def GV (f:List Int→Nat→Tp→Rs RL):Nat→List Int→Nat→Tp→Rs RL
 |0,a,s,T=>.ok (a,T) s
 |k+1,a,s,T=>(GV f k a s T).bind fun x t=>f x.1 t x.2
def Fy (k x y:Int):Int:=if k=3 then md (x+y)else if k=4 then md (x-y)else if k=5 then md (x*y)else if k=7 then md (0-x)else md (x*inv y)
def I9 (k:Int)(xs:List Int):Aw:=⟨k,xs.getD 0 0,if k=7 then 0 else xs.getD 1 0,0⟩
def Q4 (k:Int)(xs:List Int)(t:Nat)(T:Tp):Rs RI :=
 if k≠3∧k≠4∧k≠5∧k≠7∧T.at (I9 k xs).b=0 then .err 6
 else .ok (((T.vals.length:Nat):Int),T.put (I9 k xs) (Fy k (T.at (I9 k xs).a) (T.at (I9 k xs).b))) t
mutual
def Fp (C:Cg):Ex→List Int→Nat→Tp→Rs RI
 |.mk k num pick cnt l,env,s,T =>
  if 3000≤s then .err 7
  else if k=1 then .ok (((T.vals.length:Nat):Int),T.put ⟨2,0,0,num⟩ num) (s+1)
  else if k=2 then .ok (env.getD num.toNat 0,T) (s+1)
  else if k=8 then(MQ C l 0 env (s+1) T).bind fun x t=>if x.2.at x.1=0 then MQ C l 1 env t (x.2.guard x.1 true)else MQ C l 2 env t (x.2.guard x.1 false)
  else if k=9 then(MQ C l 0 env (s+1) T).bind fun x t=>MQ C l 1 (env++[x.1]) t x.2
  else(Gg C l env (s+1) T).bind fun xs t =>
   if k=10 then C.one num.toNat pick.toNat xs.1 t xs.2
   else if k=11 then(GV (C.all num.toNat) cnt.toNat xs.1 t xs.2).bind fun ys u=>.ok (ys.1.getD pick.toNat 0,ys.2) u
   else Q4 k xs.1 t xs.2
def MQ (C:Cg):List Ex→Nat→List Int→Nat→Tp→Rs RI
 |[],_,_,_,_=>.err 0
 |e::_,0,env,s,T=>Fp C e env s T
 |_::l,j+1,env,s,T=>MQ C l j env s T
def Gg (C:Cg):List Ex→List Int→Nat→Tp→Rs RL
 |[],_,s,T=>.ok ([],T) s
 |e::l,env,s,T=>(Fp C e env s T).bind fun x t=>(Gg C l env t x.2).bind fun xs u=>.ok (x.1::xs.1,xs.2) u
end
theorem E2 (C:Cg)(env:List Int)(s:Nat)(T:Tp):∀(l:List Ex)(j:Nat),j<l.length→MQ C l j env s T=Fp C (l.getD j Ex.zero) env s T
 |[],j,h=>by simp at h
 |e::l,0,_=>by rw[MQ];rfl
 |e::l,j+1,h=>by rw[MQ,E2 C env s T l j (by simpa using h)];simp
theorem LZ (C:Cg)(env:List Int)(e:Ex):∀(l:List Ex)(s:Nat)(T:Tp),Gg C (l++[e]) env s T=(Gg C l env s T).bind fun xs t=>(Fp C e env t xs.2).bind fun x u=>.ok (xs.1++[x.1],x.2) u
 |[],s,T=>by
  rw[zl,Gg,Gg]
  simp only[Rs.bind_ok]
  cases Fp C e env s T <;> simp only[Rs.bind_ok,Rs.bind_err,Gg] <;> rfl
 |a::l,s,T=>by
  rw[List.cons_append,Gg,Gg]
  cases Fp C a env s T with
  |err c=>rfl
  |ok x t =>
   simp only[Rs.bind_ok]
   rw[LZ C env e l t]
   simp only[Rs.bind_assoc]
   cases Gg C l env t x.2 with
   |err c=>rfl
   |ok xs u =>
    simp only[Rs.bind_ok]
    cases Fp C e env u xs.2 <;> rfl
theorem Q5 {C:Cg}{env:List Int}{s:Nat}{T:Tp}{l:List Ex}{k:Nat}(hk:k<l.length):Gg C (l.take (k+1)) env s T=(Gg C (l.take k) env s T).bind fun xs t=>(Fp C (l.getD k Ex.zero) env t xs.2).bind fun x u=>.ok (xs.1++[x.1],x.2) u:=by
 rw[List.take_succ_eq_append_getElem hk,LZ]
 simp[hk]
theorem EV (C:Cg)(e:Ex)(env:List Int)(s:Nat)(T:Tp):Fp C e env s T =
  if 3000≤s then .err 7
  else if e.kind=1 then .ok (((T.vals.length:Nat):Int),T.put ⟨2,0,0,e.num⟩ e.num) (s+1)
  else if e.kind=2 then .ok (env.getD e.num.toNat 0,T) (s+1)
  else if e.kind=8 then(MQ C e.kids 0 env (s+1) T).bind fun x t=>if x.2.at x.1=0 then MQ C e.kids 1 env t (x.2.guard x.1 true)else MQ C e.kids 2 env t (x.2.guard x.1 false)
  else if e.kind=9 then(MQ C e.kids 0 env (s+1) T).bind fun x t=>MQ C e.kids 1 (env++[x.1]) t x.2
  else(Gg C e.kids env (s+1) T).bind fun xs t =>
   if e.kind=10 then C.one e.num.toNat e.pick.toNat xs.1 t xs.2
   else if e.kind=11 then(GV (C.all e.num.toNat) e.count.toNat xs.1 t xs.2).bind fun ys u=>.ok (ys.1.getD e.pick.toNat 0,ys.2) u
   else Q4 e.kind xs.1 t xs.2:=by cases e;rw[Fp];rfl
def Iz (p:List Fn):Nat→Cg
 |0=>⟨fun _ _ _ _ _=>.err 0,fun _ _ _ _=>.err 0⟩
 |k+1=>⟨fun f j a s T=>if f=k then Fp (Iz p k) ((p.getD k Fn.zero).outs.getD j Ex.zero) a s T else(Iz p k).one f j a s T,
   fun f a s T=>if f=k then Gg (Iz p k) (p.getD k Fn.zero).outs a s T else(Iz p k).all f a s T⟩
theorem NZ {p:List Fn}{f j:Nat}{a:List Int}{s:Nat}{T:Tp}:∀ {F:Nat},f<F→(Iz p F).one f j a s T=Fp (Iz p f) ((p.getD f Fn.zero).outs.getD j Ex.zero) a s T
 |0,h=>by omega
 |F+1,h=>by
  show(if f=F then _ else _)=_
  split
  ·rename_i e;rw[e]
  ·exact NZ zO
theorem L1 {p:List Fn}{f:Nat}{a:List Int}{s:Nat}{T:Tp}:∀ {F:Nat},f<F→(Iz p F).all f a s T=Gg (Iz p f) (p.getD f Fn.zero).outs a s T
 |0,h=>by omega
 |F+1,h=>by
  show(if f=F then _ else _)=_
  split
  ·rename_i e;rw[e]
  ·exact L1 zO
section
variable {C:Cg} {e:Ex} {env:List Int} {s s1 s2:Nat} {c c1 c2:Int} {T T1 T2:Tp} {x y:Int} {xs ys:List Int}
theorem Sb {α:Type}{r:Rs α}{x:α}(hc:c≠0):AN (go c r) x s c:=AN.mk_err (CM hc r) hc
theorem OP {x:RI}(hc:c=0)(hs:s=3000):AN (go c (Fp C e env s T)) x s1 7:=by
 subst hc;rw[Cn,EV,if_pos (by omega)];exact AN.mk_err rfl (by decide)
theorem Uy (hc:c=0)(hs:s+1≤3000)(hk:e.kind=1):AN (go c (Fp C e env s T)) (((T.vals.length:Nat):Int),T.put ⟨2,0,0,e.num⟩ e.num) (s+1) c:=by
 subst hc;rw[Cn,EV,if_neg zO,if_pos hk];exact AN.mk_ok rfl
theorem Uz (hc:c=0)(hs:s+1≤3000)(hk:e.kind=2):AN (go c (Fp C e env s T)) (env.getD e.num.toNat 0,T) (s+1) c:=by
 subst hc;rw[Cn,EV,if_neg zO,if_neg zO,if_pos hk];exact AN.mk_ok rfl
theorem UA {z:RI}(hc:c=0)(hs:s+1≤3000)(hk:e.kind=8)(hl:e.kids.length=3)(h1:AN (go c (Fp C (e.kids.getD 0 Ex.zero) env (s+1) T)) (x,T1) s1 c1)(hc1:c1≠0):AN (go c (Fp C e env s T)) z s2 c1:=by
 subst hc
 rw[Cn]at h1
 rw[Cn,EV,if_neg zO,if_neg zO,if_neg zO,if_pos hk,E2 _ _ _ _ _ _ zO,h1.bindE hc1]
 exact AN.mk_err rfl hc1
theorem UB (hc:c=0)(hs:s+1≤3000)(hk:e.kind=8)(hl:e.kids.length=3)(h1:AN (go c (Fp C (e.kids.getD 0 Ex.zero) env (s+1) T)) (x,T1) s1 c1)(hc1:c1=0)(hx:T1.at x=0)
  (h2:AN (go c1 (Fp C (e.kids.getD 1 Ex.zero) env s1 (T1.guard x (decide (T1.at x=0))))) (y,T2) s2 c2):AN (go c (Fp C e env s T)) (y,T2) s2 c2:=by
 subst hc;subst hc1
 rw[Cn]at h1 h2
 rw[Cn,EV,if_neg zO,if_neg zO,if_neg zO,if_pos hk,E2 _ _ _ _ _ _ zO,h1.bindO]
 dsimp only
 rw[A5 hx]at h2
 rw[if_pos hx,E2 _ _ _ _ _ _ (by omega)];exact h2
theorem UC (hc:c=0)(hs:s+1≤3000)(hk:e.kind=8)(hl:e.kids.length=3)(h1:AN (go c (Fp C (e.kids.getD 0 Ex.zero) env (s+1) T)) (x,T1) s1 c1)(hc1:c1=0)(hx:¬T1.at x=0)
  (h2:AN (go c1 (Fp C (e.kids.getD 2 Ex.zero) env s1 (T1.guard x (decide (T1.at x=0))))) (y,T2) s2 c2):AN (go c (Fp C e env s T)) (y,T2) s2 c2:=by
 subst hc;subst hc1
 rw[Cn]at h1 h2
 rw[Cn,EV,if_neg zO,if_neg zO,if_neg zO,if_pos hk,E2 _ _ _ _ _ _ zO,h1.bindO]
 dsimp only
 rw[A6 hx]at h2
 rw[if_neg hx,E2 _ _ _ _ _ _ (by omega)];exact h2
theorem UD (hc:c=0)(hs:s+1≤3000)(hk:e.kind=9)(hl:e.kids.length=2)(h1:AN (go c (Fp C (e.kids.getD 0 Ex.zero) env (s+1) T)) (x,T1) s1 c1)
  (h2:AN (go c1 (Fp C (e.kids.getD 1 Ex.zero) (env++[x]) s1 T1)) (y,T2) s2 c2):AN (go c (Fp C e env s T)) (y,T2) s2 c2:=by
 subst hc
 rw[Cn,EV,if_neg zO,if_neg zO,if_neg zO,if_neg zO,if_pos hk,E2 _ _ _ _ _ _ (by omega)]
 rw[Cn]at h1
 by_cases h0:c1=0
 ·subst h0;rw[h1.bindO,E2 _ _ _ _ _ _ (by omega)];exact h2
 ·rw[h1.bindE h0];rw[CM h0]at h2;exact h2
theorem HE (hs:s+1≤3000)(h1:e.kind≠1)(h2:e.kind≠2)(h8:e.kind≠8)(h9:e.kind≠9):Fp C e env s T=(Gg C e.kids env (s+1) T).bind fun xs t =>
  if e.kind=10 then C.one e.num.toNat e.pick.toNat xs.1 t xs.2
   else if e.kind=11 then(GV (C.all e.num.toNat) e.count.toNat xs.1 t xs.2).bind fun ys u=>.ok (ys.1.getD e.pick.toNat 0,ys.2) u
   else Q4 e.kind xs.1 t xs.2:=by
 rw[EV,if_neg zO,if_neg h1,if_neg h2,if_neg h8,if_neg h9]
theorem Q6 {z:RI}(hc:c=0)(hs:s+1≤3000)(h1:e.kind≠1)(h2:e.kind≠2)(h8:e.kind≠8)(h9:e.kind≠9)(hr:AN (go c (Gg C e.kids env (s+1) T)) (xs,T1) s1 c1)(hc1:c1≠0):AN (go c (Fp C e env s T)) z s2 c1:=by
 subst hc
 rw[Cn]at hr ⊢
 rw[HE hs h1 h2 h8 h9,hr.bindE hc1];exact AN.mk_err rfl hc1
theorem Sc {p:List Fn}{F:Nat}(hc:c=0)(hs:s+1≤3000)(hk:e.kind=10)(hF:e.num.toNat<F)(hr:AN (go c (Gg (Iz p F) e.kids env (s+1) T)) (xs,T1) s1 c1)(hc1:c1=0)
  (h2:AN (go c1 (Fp (Iz p e.num.toNat) ((p.getD e.num.toNat Fn.zero).outs.getD e.pick.toNat Ex.zero) xs s1 T1)) (y,T2) s2 c2):AN (go c (Fp (Iz p F) e env s T)) (y,T2) s2 c2:=by
 subst hc;subst hc1
 rw[Cn]at hr h2 ⊢
 rw[HE hs zO zO zO zO,hr.bindO,if_pos hk,NZ hF];exact h2
theorem Sd {p:List Fn}{F:Nat}(hc:c=0)(hs:s+1≤3000)(hk:e.kind=11)(hF:e.num.toNat<F)(hr:AN (go c (Gg (Iz p F) e.kids env (s+1) T)) (xs,T1) s1 c1)(hc1:c1=0)
  (h2:AN (GV (fun a t U=>Gg (Iz p e.num.toNat) (p.getD e.num.toNat Fn.zero).outs a t U) e.count.toNat xs s1 T1) (ys,T2) s2 c2):AN (go c (Fp (Iz p F) e env s T)) (ys.getD e.pick.toNat 0,T2) s2 c2:=by
 subst hc;subst hc1
 rw[Cn]at hr ⊢
 rw[HE hs zO zO zO zO,hr.bindO,if_neg zO,if_pos hk]
 have hl:(Iz p F).all e.num.toNat=fun a t U=>Gg (Iz p e.num.toNat) (p.getD e.num.toNat Fn.zero).outs a t U:=funext fun a=>funext fun t=>funext fun U=>L1 hF
 rw[hl]
 by_cases h0:c2=0
 ·subst h0;rw[h2.bindO];exact AN.mk_ok rfl
 ·rw[h2.bindE h0];exact AN.mk_err rfl h0
theorem Vv {z:RI}(hc:c=0)(hs:s+1≤3000)(h1:e.kind≠1)(h2:e.kind≠2)(h8:e.kind≠8)(h9:e.kind≠9)(h10:e.kind≠10)(h11:e.kind≠11)(hr:AN (go c (Gg C e.kids env (s+1) T)) (xs,T1) s1 c1)(hc1:c1=0)
  (h:AN (go c1 (Q4 e.kind xs s1 T1)) z s2 c2):AN (go c (Fp C e env s T)) z s2 c2:=by
 subst hc;subst hc1
 rw[Cn]at hr h ⊢
 rw[HE hs h1 h2 h8 h9,hr.bindO,if_neg h10,if_neg h11];exact h
theorem Q7 (C:Cg)(l:List Ex)(env:List Int)(s:Nat)(T:Tp)(c:Int):AN (go c (Gg C (l.take 0) env s T)) ([],T) s c:=by
 rw[List.take_zero,Gg]
 by_cases h:c=0
 ·subst h;exact AN.mk_ok rfl
 ·exact AN.mk_err (CM h _) h
theorem Se {l:List Ex}{k:Nat}(hk:k<l.length)(h:AN (go c (Gg C (l.take k) env s T)) (xs,T1) s1 c1)(h2:AN (go c1 (Fp C (l.getD k Ex.zero) env s1 T1)) (x,T2) s2 c2) :
  AN (go c (Gg C (l.take (k+1)) env s T)) (xs++[x],T2) s2 c2:=by
 by_cases hc:c=0
 ·subst hc
  rw[Cn]at h ⊢
  rw[Q5 hk]
  by_cases h0:c1=0
  ·subst h0
   rw[Cn]at h2
   rw[h.bindO]
   by_cases h9:c2=0
   ·subst h9;rw[h2.bindO];exact AN.mk_ok rfl
   ·rw[h2.bindE h9];exact AN.mk_err rfl h9
  ·rw[h.bindE h0]
   rw[CM h0]at h2
   have:=h2.1
   exact AN.mk_err (by rw[this]) (this ▸ h0)
 ·rw[CM hc]at h ⊢
  have h3:=h.1
  subst h3
  rw[CM hc]at h2
  exact AN.mk_err (by rw[h2.1]) (h2.1 ▸ hc)
theorem UE {f:List Int→Nat→Tp→Rs RL}{k:Nat}(h:AN (GV f k xs s T) (ys,T1) s1 c1)(hc:c1=0){zsq:RL}(h2:AN (go c1 (f ys s1 T1)) zsq s2 c2):AN (GV f (k+1) xs s T) zsq s2 c2:=by
 subst hc
 show AN ((GV f k xs s T).bind _) _ _ _
 rw[h.bindO];rw[Cn]at h2;exact h2
theorem M0 {f:List Int→Nat→Tp→Rs RL}{d:Int}:∀ {m k:Nat},GV f k xs s T=.err d→k≤m→GV f m xs s T=.err d
 |0,k,h,hk=>by
  have:k=0:=by omega
  subst this;exact h
 |m+1,k,h,hk=>by
  by_cases e:k=m+1
  ·subst e;exact h
  ·show(GV f m xs s T).bind _=_
   rw[M0 h (by omega)];rfl
theorem Sf {f:List Int→Nat→Tp→Rs RL}{k m:Nat}{zsq:RL}(h:AN (GV f k xs s T) zsq s1 c1)(hk:k≤m)(hs:k=m∨c1≠0):AN (GV f m xs s T) zsq s1 c1:=by
 by_cases hc:c1=0
 ·rcases hs with rfl|hh
  ·exact h
  ·exact absurd hc hh
 ·exact AN.mk_err (M0 (h.err hc) hk) hc
end
def Ia (T:Tp)(s:Nat):Prop:=T.code.length=T.vals.length∧T.vals.length≤12+s∧T.grd.length≤s∧B9 T.vals=true
theorem Ia.put {T:Tp}{s:Nat}(h:Ia T s)(c:Aw){v:Int}(hv:0≤v∧v<1000003):Ia (T.put c v) (s+1):=by
 obtain⟨h1,h2,h3,h4⟩:=h
 unfold Tp.put
 refine⟨by simp[h1],by simp;omega,by simp;omega,?_⟩
 unfold B9 at h4 ⊢
 rw[List.all_append,h4]
 simp[Ch.2 hv]
theorem Ia.guard {T:Tp}{s:Nat}(h:Ia T s)(r:Int)(z:Bool)(hg:T.grd.length+1≤s):Ia (T.guard r z) s:=by
 obtain⟨h1,h2,h3,h4⟩:=h
 exact⟨h1,h2,by show(T.grd++[_]).length≤s;simp;omega,h4⟩
theorem Ia.up {T:Tp}{s s':Nat}(h:Ia T s)(hs:s≤s'):Ia T s':=⟨h.1,by have:=h.2.1;omega,by have:=h.2.2.1;omega,h.2.2.2⟩
theorem Ia.dn {T:Tp}{s s':Nat}(h:Ia T s)(hv:T.vals.length≤12+s')(hg:T.grd.length≤s'):Ia T s':=⟨h.1,hv,hg,h.2.2.2⟩
theorem Ia.ln {T:Tp}{s:Nat}(h:Ia T s)(hs:s≤3000):T.code.length≤4000∧T.vals.length≤4000:=by have:=h.1;have:=h.2.1;omega
abbrev Dk (k b:Int):Prop:=k≠3∧k≠4∧k≠5∧k≠7∧b=0
section
variable {k a b:Int}
theorem Q8 (h:k=3):(if Dk k b then 0 else Fy k a b)=md (a+b)∧(!decide (Dk k b))=true:=by subst h;exact⟨rfl,rfl⟩
theorem Q9 (h:k=4):(if Dk k b then 0 else Fy k a b)=md (a-b)∧(!decide (Dk k b))=true:=by subst h;exact⟨rfl,rfl⟩
theorem Qa (h:k=5):(if Dk k b then 0 else Fy k a b)=md (a*b)∧(!decide (Dk k b))=true:=by subst h;exact⟨rfl,rfl⟩
theorem Qb (h:k=7):(if Dk k b then 0 else Fy k a b)=md (0-a)∧(!decide (Dk k b))=true:=by subst h;exact⟨rfl,rfl⟩
theorem O0 (h:k≠3∧k≠4∧k≠5∧k≠7)(hb:b=0):(if Dk k b then 0 else Fy k a b)=0∧(!decide (Dk k b))=false:=by
 have hz:Dk k b:=⟨h.1,h.2.1,h.2.2.1,h.2.2.2,hb⟩
 rw[if_pos hz,A5 hz];exact⟨rfl,rfl⟩
theorem Qc (h:k≠3∧k≠4∧k≠5∧k≠7)(hb:b≠0):(if Dk k b then 0 else Fy k a b)=md (a*inv b)∧(!decide (Dk k b))=true:=by
 have hz:¬Dk k b:=fun h9=>hb h9.2.2.2.2
 rw[if_neg hz,A6 hz]
 refine⟨?_,rfl⟩
 unfold Fy
 rw[if_neg h.1,if_neg h.2.1,if_neg h.2.2.1,if_neg h.2.2.2]
theorem L2 (k a b:Int):0≤Fy k a b∧Fy k a b<1000003:=by unfold Fy;split <;> (try split) <;> (try split) <;> (try split) <;> exact BT _
end
theorem GW {k:Int}{xs:List Int}{T:Tp}{t:Nat}(h:¬Dk k (T.at (I9 k xs).b)):Q4 k xs t T=.ok (((T.vals.length:Nat):Int),T.put (I9 k xs) (Fy k (T.at (I9 k xs).a) (T.at (I9 k xs).b))) t:=if_neg h
theorem O1 {k:Int}{xs:List Int}{T:Tp}{t:Nat}(h:Dk k (T.at (I9 k xs).b)):Q4 k xs t T=.err 6:=if_pos h
theorem Vw {α:Type}{r:Rs α}{x:α}{s:Nat}{c c1:Int}(h:AN (go c r) x s c1)(h1:c1=0):c=0:=by
 by_cases hc:c=0
 ·exact hc
 ·rw[CM hc]at h
  have:=h.1
  omega
theorem O2 (k a b:Int):0≤(if Dk k b then 0 else Fy k a b)∧(if Dk k b then 0 else Fy k a b)<1000003:=by
 have:=L2 k a b
 split <;> omega
theorem Vx {Q:Prop} [Decidable Q] (h:(!(!decide Q))=true):Q:=by simpa using h
theorem Ym {Q:Prop} [Decidable Q] (h:(!(!decide Q))=false):¬Q:=by simpa using h
theorem EW {k:Int}{xs:List Int}(h:k≠7):I9 k xs=⟨k,xs.getD 0 0,xs.getD 1 0,0⟩:=by unfold I9;rw[if_neg h]
theorem Qd {k:Int}{xs:List Int}(h:k=7):I9 k xs=⟨k,xs.getD 0 0,0,0⟩:=by unfold I9;rw[if_pos h]
theorem Sg {k c:Int}{xs:List Int}{T:Tp}{s s2:Nat}{z:RI}(hc:c=0)(h7:k≠7)(hz:Dk k (T.vals.getD (xs.getD 1 0).toNat 0)):AN (go c (Q4 k xs s T)) z s2 6:=by
 subst hc
 rw[Cn,O1 (by rw[EW h7];exact hz)];exact AN.mk_err rfl (by decide)
theorem Sh {k c:Int}{xs:List Int}{T:Tp}{s:Nat}(hc:c=0)(h7:k≠7)(hz:¬Dk k (T.vals.getD (xs.getD 1 0).toNat 0)) :
  AN (go c (Q4 k xs s T)) (((T.vals.length:Nat):Int),T.put ⟨k,xs.getD 0 0,xs.getD 1 0,0⟩ (if Dk k (T.vals.getD (xs.getD 1 0).toNat 0)then 0 else Fy k (T.vals.getD (xs.getD 0 0).toNat 0) (T.vals.getD (xs.getD 1 0).toNat 0))) s c:=by
 subst hc
 rw[Cn,GW (by rw[EW h7];exact hz),EW h7,if_neg hz];exact AN.mk_ok rfl
theorem Si {k c:Int}{xs:List Int}{T:Tp}{s:Nat}{b:Int}(hc:c=0)(h7:k=7) :
  AN (go c (Q4 k xs s T)) (((T.vals.length:Nat):Int),T.put ⟨k,xs.getD 0 0,0,0⟩ (if Dk k b then 0 else Fy k (T.vals.getD (xs.getD 0 0).toNat 0) b)) s c:=by
 subst hc
 subst h7
 rw[Cn,GW (fun h=>h.2.2.2.1 rfl),Qd rfl,if_neg (fun h:Dk 7 b=>h.2.2.2.1 rfl)];exact AN.mk_ok rfl
theorem Td {k b:Int}(h:k=7):¬Dk k b:=fun h9=>h9.2.2.2.1 h
def Ir (T:Tp)(env:List Int):Prop:=∀k,k<env.length→0≤env.getD k 0∧env.getD k 0<((T.vals.length:Nat):Int)
theorem Ir.mono {T T':Tp}{env:List Int}(h:Ir T env)(hl:T.vals.length≤T'.vals.length):Ir T' env:=fun k hk=>by have:=h k hk;omega
theorem Ir.snoc {T:Tp}{env:List Int}{r:Int}(h:Ir T env)(hr:0≤r∧r<((T.vals.length:Nat):Int)):Ir T (env++[r]):=fun k hk=>by
 rw[z4,zd]at hk
 rw[Vk]
 split
 ·exact hr
 ·exact h k zO
theorem Ir.nil (T:Tp):Ir T []:=fun k hk=>absurd hk (Nat.not_lt_zero k)
theorem CV {Q:Nat→Prop}:∀b∈([]:List Nat),Q b:=fun b hb=>(by cases hb)
theorem At.drewL {F:List Nat}{a b:World}(h:At F a b):At F a.drew b:=⟨h.os,h.tape,h.output,h.size,h.block⟩
def OQ {α:Type}(S:List Nat)(B:Nat)(E:Bf α)(H:Array Obj)(v:Value)(x:α):Prop:=∃F,E H v x F∧∀b∈F,b∉S∧B≤b
theorem OQ.rn {α:Type}{S:List Nat}{B:Nat}{E:Bf α}{H:Array Obj}{v:Value}{x:α}(h:OQ S B E H v x):RN S E H v x:=by
 obtain⟨F,h1,h2⟩:=h
 exact⟨F,h1,fun b hb=>(h2 b hb).1⟩
theorem OQ.upd {α:Type}{S F:List Nat}{B:Nat}{E:Bf α}(hE:BF E){w w':World}{v:Value}{x:α}(h:OQ S B E w.heap v x)(c:At F w w')(hF:∀b∈F,b∈S∨b<B):OQ S B E w'.heap v x:=by
 obtain⟨G,h1,h2⟩:=h
 refine⟨G,hE.stable h1 fun b hb=>c.block b (hE.lt h1 b hb) fun hm=>?_,h2⟩
 rcases hF b hm with hh|hh
 ·exact (h2 b hb).1 hh
 ·have:=(h2 b hb).2;omega
theorem OQ.of_ow {e:TypeId}{B T:Nat}{H:Array Obj}{v:Value}{xs:List Int}{F S:List Nat}(h:Ow (B8 rI e) B T H v xs F)(hS:∀b∈F,b∉S):OQ S B (B4 rI) H v xs:=⟨F,h.own.rd id,fun b hb=>⟨hS b hb,h.low b hb⟩⟩
structure E9 (S S':List Nat)(w w':World):Prop where
 sub:∀b∈S,b∈S'
 new:∀b∈S',b∈S∨w.heap.size≤b
 lt:∀b∈S',b<w'.heap.size
 chg:At S w w'
section
variable {S S' S'':List Nat} {w w' w'':World} {g:Nat}
theorem E9.refl (h:∀b∈S,b<w.heap.size):E9 S S w w:=⟨fun _ h=>h,fun _ h=>.inl h,h,At.refl S w⟩
theorem E9.trans (h:E9 S S' w w')(k:E9 S' S'' w' w''):E9 S S'' w w'' :=
 ⟨fun b hb=>k.sub b (h.sub b hb),MP h.new k.new h.chg.size,k.lt,h.chg.stp k.chg h.new⟩
theorem E9.ext (h:E9 S S' w w')(k:AE w' w''):E9 S S' w w'':=⟨h.sub,h.new,fun b hb=>Nat.lt_of_lt_of_le (h.lt b hb) k.size,h.chg.ext k⟩
theorem E9.drew (h:E9 S S' w w'):E9 S S' w w'.drew:=⟨h.sub,h.new,h.lt,h.chg.drew⟩
theorem E9.of_drew (h:E9 S S' w.drew w'):E9 S S' w w':=⟨h.sub,h.new,h.lt,h.chg.of_drew⟩
theorem E9.set (h:E9 S S' w w')(hg:g∈S)(k:At [g] w' w''):E9 S S' w w'':=⟨h.sub,h.new,fun b hb=>Nat.lt_of_lt_of_le (h.lt b hb) k.size,h.chg.trans (k.sub (B6 hg))⟩
theorem E9.more {F:List Nat}(h:E9 S S' w w')(k:At F w' w'')(hF:∀b∈F,b∈S):E9 S S' w w'':=⟨h.sub,h.new,fun b hb=>Nat.lt_of_lt_of_le (h.lt b hb) k.size,h.chg.trans (k.sub hF)⟩
theorem E9.fresh {F:List Nat}(h:E9 S S' w w')(k:At F w' w'')(hF:∀b∈F,w.heap.size≤b):E9 S S' w w'':=⟨h.sub,h.new,fun b hb=>Nat.lt_of_lt_of_le (h.lt b hb) k.size,h.chg.fresh k hF⟩
end
structure Te (T T':Tp)(s0 s1:Nat)(c1:Int):Prop where
 bnd:Ia T' s1
 num:s1≤3000∧(0≤c1∧c1≤9)∧T.vals.length≤T'.vals.length∧T'.vals.length+s0≤T.vals.length+s1∧T'.grd.length+s0≤T.grd.length+s1
@[simp] theorem EX (T:Tp)(c:Aw)(v:Int):(T.put c v).vals.length=T.vals.length+1:=by simp[Tp.put]
@[simp] theorem MR (T:Tp)(c:Aw)(v:Int):(T.put c v).code.length=T.code.length+1:=by simp[Tp.put]
@[simp] theorem Qe (T:Tp)(c:Aw)(v:Int):(T.put c v).grd=T.grd:=rfl
@[simp] theorem M1 (T:Tp)(r:Int)(z:Bool):(T.guard r z).vals=T.vals:=rfl
@[simp] theorem M2 (T:Tp)(r:Int)(z:Bool):(T.guard r z).grd.length=T.grd.length+1:=by simp[Tp.guard]
theorem RN.of_ow {e:TypeId}{B T:Nat}{H:Array Obj}{v:Value}{xs:List Int}{F S:List Nat}(h:Ow (B8 rI e) B T H v xs F)(hS:∀b∈F,b∉S):RN S (B4 rI) H v xs:=⟨F,h.own.rd id,hS⟩
theorem C3.len {t1 t2 t3:TypeId}{S:List Nat}{g:Nat}{H:Array Obj}{vc vg vv:Value}{T:Tp}(h:C3 t1 t2 t3 S g H vc vg vv T):T.code.length≤maxLen∧T.grd.length≤maxLen∧T.vals.length≤maxLen:=by
 obtain⟨Fc,Fg,Fv,h1,h2,h3,_⟩:=h
 exact⟨h1.own.lenle,h2.own.lenle,h3.own.lenle⟩
end
section
def HF (a:List Int):Nat→Tp
 |0=>⟨[],[],[]⟩
 |k+1=>(HF a k).put ⟨1,0,0,((k:Nat):Int)⟩ (a.getD k 0)
def Fq (k:Nat):List Int:=(List.range k).map fun i=>((i:Nat):Int)
@[simp] theorem EC (k:Nat):(Fq k).length=k:=by simp[Fq]
theorem MS (k:Nat):Fq (k+1)=Fq k++[((k:Nat):Int)]:=by simp[Fq,List.range_succ]
theorem M3 {k j:Nat}(h:j<k):(Fq k).getD j 0=((j:Nat):Int):=by
 unfold Fq
 rw[Cy (d:=0) (by simpa using h)]
 simp[h]
@[simp] theorem Ib (a:List Int):∀k,(HF a k).vals.length=k
 |0=>rfl
 |k+1=>by show((HF a k).put _ _).vals.length=_;rw[EX,Ib a k]
@[simp] theorem L3 (a:List Int):∀k,(HF a k).code.length=k
 |0=>rfl
 |k+1=>by show((HF a k).put _ _).code.length=_;rw[MR,L3 a k]
theorem Qf (a:List Int):∀k,(HF a k).grd=[]
 |0=>rfl
 |k+1=>by show((HF a k).put _ _).grd=_;rw[Qe,Qf a k]
theorem M4 (a:List Int):∀k,k≤a.length→(HF a k).vals=a.take k
 |0,_=>rfl
 |k+1,h=>by
  show(HF a k).vals++[a.getD k 0]=_
  rw[M4 a k zO,D6 0 (by omega)]
theorem Vy {a:List Int}(hn:B9 a=true)(h:a.length≤12):Ia (HF a a.length) 0:=by
 refine⟨by simp,by simp;omega,by rw[Qf];simp,?_⟩
 rw[M4 a _ (A7 _),List.take_length];exact hn
theorem Vz (a:List Int)(k:Nat):Ir (HF a k) (Fq k):=fun j hj=>by
 rw[EC]at hj
 rw[M3 hj,Ib];omega
def OR (p:List Fn)(f:Nat)(a:List Int):Rs RL:=Gg (Iz p f) (p.getD f Fn.zero).outs (Fq a.length) 0 (HF a a.length)
section rcm
variable {t1 t2 t3:TypeId} {S:List Nat} {g:Nat} {w w':World} {vc vg vv:Value} {T:Tp}
theorem C3.nil:C3 t1 t2 t3 S g w.heap (.slice none 0 0) (.slice none 0 0) (.slice none 0 0) ⟨[],[],[]⟩ :=
 ⟨[],[],[],⟨.inl ⟨rfl,rfl,rfl⟩,zk,CV,CV⟩,⟨.inl ⟨rfl,rfl,rfl⟩,zk,CV,CV⟩,⟨.inl ⟨rfl,rfl,rfl⟩,zk,CV,CV⟩,
  ⟨CV,CV,CV⟩,⟨z2,z2,z2⟩,CV,CV,CV⟩
theorem At.toExt {F:List Nat}(h:At F w w')(hF:∀b∈F,w.heap.size≤b):AE w w':=⟨h.os,h.tape,h.output,h.size,fun k hk=>h.block k hk fun hm=>by have:=hF k hm;omega⟩
end rcm
def RG {α:Type}(T:Nat)(E:Bf α)(H:Array Obj)(v:Value)(x:α):Prop:=∃F,E H v x F∧∀b∈F,T≤b
theorem OQ.rg {α:Type}{S:List Nat}{B T:Nat}{E:Bf α}{H:Array Obj}{v:Value}{x:α}(h:OQ S B E H v x)(hT:T≤B):RG T E H v x:=by
 obtain⟨F,h1,h2⟩:=h
 exact⟨F,h1,fun b hb=>A8 hT (h2 b hb).2⟩
theorem RG.rnG {α:Type}{T g:Nat}{E:Bf α}{w:World}{v:Value}{x:α}(hE:BF E)(h:RG T E w.heap v x)(hg:g<T∨w.heap.size≤g):RN [g] E w.heap v x:=by
 obtain⟨F,h1,h2⟩:=h
 refine⟨F,h1,fun b hb hm=>?_⟩
 rw[A9 hm]at hb
 have:=h2 g hb
 have:=hE.lt h1 g hb
 omega
theorem C3.readsG {t1 t2 t3:TypeId}{S:List Nat}{g n:Nat}{w:World}{vc vg vv:Value}{T:Tp}(h:C3 t1 t2 t3 S g w.heap vc vg vv T)(hS:∀b∈S,n≤b):RG n (Cx 4 Ix) w.heap vc T.code∧RG n (Cx 2 Iy) w.heap vg T.grd:=by
 obtain⟨Fc,Fg,Fv,h1,h2,h3,h4,h5,h6,h7,h8⟩:=h
 exact⟨⟨Fc,h1.own.rd AL,fun b hb=>hS b (h6 b hb)⟩,⟨Fg,h2.own.rd AT,fun b hb=>hS b (h7 b hb)⟩⟩
theorem AN.go0 {α:Type}{r:Rs α}{x:α}{s:Nat}{c:Int}(h:AN (go ((0:Nat):Int) r) x s c):AN r x s c:=h
theorem LD.part {H:Array Obj}{g k:Nat}{cs ds:List Value}(h:BX H g cs)(hl:k+ds.length≤cs.length)(hd:∀i,i<ds.length→ds.getD i undef=cs.getD (k+i) undef):LD H (.pointer (some ⟨g,k,none⟩)) ds:=by
 obtain⟨e,h⟩:=h
 refine⟨g,k,rfl,fun i hi=>?_⟩
 simp only[BR,h]
 rw[hd i hi]
 simp[show k+i<cs.length by omega]
end
def HG (p:List Fn)(f:Int):Int:=if Iw p=true then(if 0≤f∧f≤((p.length:Nat):Int)-1 then 0 else 2)else 1
theorem Tf {p:List Fn}{f:Int}(h:HG p f=0):Iw p=true∧0≤f∧f<((p.length:Nat):Int):=by
 unfold HG at h
 split at h
 ·split at h
  ·rename_i h1 h2;exact⟨h1,h2.1,zO⟩
  ·omega
 ·omega
theorem RN.ofOne {S:List Nat}{e:TypeId}{B U:Nat}{H:Array Obj}{v u:Value}{r:List Int}(h:Fr (B8 rV e) B U H v [u])(hr:RN S (B4 rI) H u r)(hS:∀b∈S,b<B):RN S (B4 (B4 rI)) H v [r]:=by
 obtain⟨F,h1,h2,h3⟩:=h
 obtain⟨G,g1',g2'⟩:=hr
 rcases h1 with⟨_,hc,_⟩|⟨us,g,cap,cur,F',hels,rfl,hg,q1,q2,q3,q4,rfl⟩
 ·cases hc
 ·obtain⟨rfl,rfl⟩:=ES hels
  refine⟨g::(G++[]),.inr ⟨[u],g,0,cap,cur,e,(0,0),G++[],⟨G,[],rfl,g1',rfl⟩,rfl,hg,by simpa using q4,by simp[maxLen],rfl⟩,fun b hb hm=>?_⟩
  rcases ze.1 hb with rfl|hb
  ·have:=(h3 b (z0 ..)).1;have:=hS b hm;omega
  ·rw[List.append_nil]at hb;exact g2' b hb hm
theorem Sj {e:TypeId}{B U:Nat}{H:Array Obj}{v u:Value}(h:Fr (B8 rV e) B U H v [u]):CD v:=h.cap
theorem Qg {n k:Nat}{s:Sr}(h:Ct n s)(hk:k<n):GT (s.getD k 0)=true:=by
 have hk':k<s.length:=by rw[h.1];exact hk
 have:=h.2
 unfold B9 at this
 have h2:=zm.1 this s[k]<|List.getElem_mem hk'
 rwa [show s.getD k 0=s[k]from by simp[hk']]
section
mutual
def Gm:Ex→Int→Int
 |.mk _ _ _ _ l,x=>CE l (x-1)
def CE:List Ex→Int→Int
 |[],x=>x
 |e::l,x=>if 0≤x then CE l (Gm e x)else x
end
theorem Sk (e:Ex)(x:Int):Gm e x=CE e.kids (x-1):=by cases e;rw[Gm];rfl
theorem Jh {l:List Ex}{x:Int}(h:x<0):CE l x=x:=by
 cases l with
 |nil=>rw[CE]
 |cons e l=>rw[CE,if_neg (by omega)]
mutual
theorem Ji:∀(e:Ex)(x:Int),0≤x→(Gm e x=x-(e.size:Int)∧(e.size:Int)≤x)∨(Gm e x = -1∧x<(e.size:Int))
 |.mk k n q c l,x,h=>by
  rw[Gm,Ex.size]
  by_cases h0:x=0
  ·subst h0
   right
   rw[Jh (by omega)]
   refine⟨zO,zO⟩
  ·rcases Gh l (x-1) (by omega)with h1|h1
   ·left;omega
   ·right;omega
theorem Gh:∀(l:List Ex)(x:Int),0≤x→(CE l x=x-(Ex.sizes l:Int)∧(Ex.sizes l:Int)≤x)∨(CE l x = -1∧x<(Ex.sizes l:Int))
 |[],x,h=>by rw[CE,Ex.sizes];left;omega
 |e::l,x,h=>by
  rw[CE,if_pos h,Ex.sizes]
  rcases Ji e x h with h1|h1
  ·rw[h1.1]
   rcases Gh l (x-(e.size:Int)) (by omega)with h2|h2
   ·left;omega
   ·right;omega
  ·rw[h1.1,Jh (by omega)]
   right;omega
end
theorem Kr (e:Ex):∀(l:List Ex)(x:Int),CE (l++[e]) x=if 0≤CE l x then Gm e (CE l x)else CE l x
 |[],x=>by
  rw[zl,CE,CE]
  split
  ·rw[CE]
  ·rfl
 |a::l,x=>by
  rw[List.cons_append,CE,CE]
  by_cases h:0≤x
  ·rw[if_pos h,if_pos h,Kr e l]
  ·rw[if_neg h,if_neg h,if_neg h]
theorem Ks {l:List Ex}{k:Nat}(hk:k<l.length){x:Int}(h:0≤CE (l.take k) x):CE (l.take (k+1)) x=Gm (l.getD k Ex.zero) (CE (l.take k) x):=by
 rw[List.take_succ_eq_append_getElem hk,Kr,if_pos h]
 simp[hk]
theorem M5:∀(l r:List Ex)(x:Int),CE l x<0→CE (l++r) x=CE l x
 |[],r,x,h=>by rw[CE]at h ⊢;rw[zl,Jh h]
 |a::l,r,x,h=>by
  rw[CE]at h ⊢
  rw[List.cons_append,CE]
  split
  ·rename_i h0;rw[if_pos h0]at h;exact M5 l r _ h
  ·rfl
theorem Kt {l:List Ex}{k:Nat}{x:Int}(h:CE (l.take k) x<0):CE l x=CE (l.take k) x:=by
 have:=M5 (l.take k) (l.drop k) x h
 rwa [List.take_append_drop]at this
theorem M6 {e:Ex}{x:Int}(h:0≤x):-1≤Gm e x∧Gm e x≤x:=by
 rcases Ji e x h with h1|h1 <;> omega
theorem Qh {e:Ex}{x:Int}(h:0≤x):0≤Gm e x↔(e.size:Int)≤x:=by
 rcases Ji e x h with h1|h1 <;> omega
def OS (k:Int):Int:=if k=1∨k=2 then 0 else if k=3∨k=4∨k=5∨k=6∨k=9 then 2 else if k=7 then 1 else if k=8 then 3 else -1
theorem L4 {p q:Prop} [Decidable p] [Decidable q] (h:p↔q):decide p=decide q:=decide_eq_decide.2 h
section
variable {p:List Fn} {F vars:Int} {e:Ex}
theorem OT (h:EU p F vars e=true)(h10:e.kind≠10)(h11:e.kind≠11):e.pick=0∧e.count=0∧OS e.kind=((e.kids.length:Nat):Int)∧(e.kind≠1→e.kind≠2→e.num=0):=by
 unfold EU D0 at h
 unfold OS
 split at h
 ·rename_i h1
  simp only[z7,decide_eq_true_eq]at h
  rw[if_pos (by omega)]
  exact⟨h.1.1,h.1.2,zO,fun hh=>absurd h1 hh⟩
 ·split at h
  ·rename_i h1
   simp only[z7,decide_eq_true_eq]at h
   rw[if_pos (by omega)]
   exact⟨h.1.1,h.1.2,zO,fun _ hh=>absurd h1 hh⟩
  ·split at h
   ·simp only[z7,decide_eq_true_eq]at h
    rw[if_neg zO,if_pos (by omega)]
    exact⟨h.1.1,h.1.2,zO,fun _ _=>h.2.1⟩
   ·split at h
    ·simp only[z7,decide_eq_true_eq]at h
     rw[if_neg zO,if_neg zO,if_pos (by omega)]
     exact⟨h.1.1,h.1.2,zO,fun _ _=>h.2.1⟩
    ·split at h
     ·simp only[z7,decide_eq_true_eq]at h
      rw[if_neg zO,if_neg zO,if_neg zO,if_pos (by omega)]
      exact⟨h.1.1,h.1.2,zO,fun _ _=>h.2.1⟩
     ·split at h
      ·omega
      ·cases h
theorem UF (h10:e.kind≠10)(h11:e.kind≠11)(h:OS e.kind≠((e.kids.length:Nat):Int)∨e.pick≠0∨e.count≠0):false=EU p F vars e:=by
 cases hw:EU p F vars e with
 |false=>rfl
 |true =>
  have:=OT hw h10 h11
  omega
theorem Yn (hk:OS e.kind=((e.kids.length:Nat):Int))(h1:e.kind=1)(hp:e.pick=0)(hc:e.count=0):GT e.num=EU p F vars e:=by
 have hl:e.kids.length=0:=by unfold OS at hk;rw[if_pos (by omega)]at hk;omega
 unfold EU D0
 rw[if_pos h1,A5 hp,A5 hc,A5 hl];rfl
theorem Yo (hk:OS e.kind=((e.kids.length:Nat):Int))(h1:e.kind=2)(hp:e.pick=0)(hc:e.count=0):(decide (((0:Nat):Int)≤e.num) && decide (e.num≤vars-1))=EU p F vars e:=by
 have hl:e.kids.length=0:=by unfold OS at hk;rw[if_pos (by omega)]at hk;omega
 unfold EU D0 FE
 rw[if_neg zO,if_pos h1,A5 hp,A5 hc,A5 hl];rfl
theorem Yp (hk:OS e.kind=((e.kids.length:Nat):Int))(h1:e.kind≠1)(h2:e.kind≠2)(h10:e.kind≠10)(h11:e.kind≠11)(hp:e.pick=0)(hc:e.count=0):decide (e.num=0)=EU p F vars e:=by
 unfold OS at hk
 unfold EU D0
 rw[if_neg h1,if_neg h2,A5 hp,A5 hc]
 rw[if_neg (by omega)]at hk
 split at hk
 ·rename_i h3
  rw[if_pos h3,A5 (show e.kids.length=2 by omega)];simp
 ·rename_i h3
  rw[if_neg h3]
  split at hk
  ·rename_i h4
   rw[if_pos h4,A5 (show e.kids.length=1 by omega)];simp
  ·rename_i h4
   rw[if_neg h4]
   split at hk
   ·rename_i h5
    rw[if_pos h5,A5 (show e.kids.length=3 by omega)];simp
   ·omega
end
end
section
def Is (n:Nat)(C:Ca)(e:Ex)(env:List Sr)(s:Nat):Rs Sr:=(Eh n C e.kids env s).bind fun xs t =>
 if e.kind=10 then C.one e.num.toNat e.pick.toNat xs t else(P5 (C.all e.num.toNat) e.count.toNat xs t).bind fun ys u=>.ok (ys.getD e.pick.toNat []) u
section
variable {n:Nat} {C:Ca} {e:Ex} {env:List Sr} {s s1 s2:Nat} {c c1 c2:Int} {x y:Sr} {xs ys:List Sr}
theorem Ku (hc:c=0)(hs:s+1≤3000)(hk:e.kind=10∨e.kind=11)(h:AN (go c (Is n C e env (s+1))) y s2 c2):AN (go c (Em n C e env s)) y s2 c2:=by
 subst hc
 rw[Cn]at h ⊢
 rw[J8 hs zO zO zO (by omega)]
 unfold Is at h
 cases hv:Eh n C e.kids env (s+1)with
 |err d=>rw[hv]at h;exact h
 |ok zsq t =>
  rw[hv]at h
  rw[Rs.bind_ok]at h ⊢
  by_cases h10:e.kind=10
  ·rw[if_pos h10]at h ⊢;exact h
  ·rw[if_neg h10]at h;rw[if_neg h10,if_pos (by omega)];exact h
theorem Qi {α:Type}{r:Rs α}{v:α}(h:AN (go c r) v s1 c1)(hc:c≠0):c1=c:=by
 rw[CM hc]at h;exact h.1
theorem UG (hl:e.kids.length=1)(h:AN (go c (Em n C (e.kids.getD 0 Ex.zero) env s)) x s1 c1):AN (go c (Eh n C e.kids env s)) [x] s1 c1:=by
 have h1:=FO (l:=e.kids) (k:=0) zO (Gd n C e.kids env s c) h
 rwa [za (by omega)]at h1
theorem Ic (hl:e.kids.length=2)(h:AN (go c (Em n C (e.kids.getD 0 Ex.zero) env s)) x s1 c1)(h2:AN (go c1 (Em n C (e.kids.getD 1 Ex.zero) env s1)) y s2 c2):AN (go c (Eh n C e.kids env s)) [x,y] s2 c2:=by
 have h1:=FO (l:=e.kids) (k:=0) zO (Gd n C e.kids env s c) h
 have h3:=FO (l:=e.kids) (k:=1) zO h1 h2
 rwa [za (by omega)]at h3
theorem EY (hc:c=0)(hs:s+1≤3000)(hk:e.kind=3∨e.kind=4∨e.kind=5∨e.kind=6∨e.kind=7)(hr:AN (go c (Eh n C e.kids env (s+1))) xs s1 c1)
  (h:c1=0→AN (Ms e.kind xs s1) y s1 c2) (h0:c1≠0→c2=c1):AN (go c (Em n C e env s)) y s1 c2:=by
 by_cases hc1:c1=0
 ·exact Ui hc hs zO zO zO zO zO zO hr hc1<|h hc1
 ·rw[h0 hc1];exact OK hc hs zO zO zO zO hr hc1
theorem Qj {p:List Fn}{F:Nat}(hk:e.kind=10)(hF:e.num.toNat<F)(hr:AN (go c (Eh n (Gz p n F) e.kids env s)) xs s1 c1)
  (h2:AN (go c1 (Em n (Gz p n e.num.toNat) ((p.getD e.num.toNat Fn.zero).outs.getD e.pick.toNat Ex.zero) xs s1)) y s2 c2):AN (go c (Is n (Gz p n F) e env s)) y s2 c2:=by
 by_cases hc:c=0
 ·subst hc
  rw[Cn]at hr ⊢
  unfold Is
  by_cases hc1:c1=0
  ·subst hc1;rw[hr.bindO,if_pos hk,NM hF];rw[Cn]at h2;exact h2
  ·rw[hr.bindE hc1];rw[CM hc1]at h2;exact h2
 ·have e1:=Qi hr hc
  subst e1
  rw[CM hc]at h2 ⊢;exact h2
theorem Qk {f:List Sr→Nat→Rs (List Sr)}{k:Nat}(h:AN (go c (P5 f k xs s)) ys s1 c1){zsq:List Sr}(h2:AN (go c1 (f ys s1)) zsq s2 c2):AN (go c (P5 f (k+1) xs s)) zsq s2 c2:=by
 by_cases hc:c=0
 ·subst hc
  rw[Cn]at h ⊢
  show AN ((P5 f k xs s).bind f) _ _ _
  by_cases hc1:c1=0
  ·subst hc1;rw[h.bindO];rw[Cn]at h2;exact h2
  ·rw[h.bindE hc1];rw[CM hc1]at h2;exact h2
 ·have e1:=Qi h hc
  subst e1
  rw[CM hc]at h2 ⊢;exact h2
theorem Ql {f:List Sr→Nat→Rs (List Sr)}(hc:0=0):AN (go c (P5 f 0 xs s)) xs s c:=by
 by_cases h:c=0
 ·subst h;exact⟨rfl,rfl,rfl⟩
 ·exact AN.mk_err (CM h _) h
theorem Qm {p:List Fn}{F:Nat}(hk:e.kind≠10)(hF:e.num.toNat<F)(hr:AN (go c (Eh n (Gz p n F) e.kids env s)) xs s1 c1)
  (h2:AN (go c1 (P5 (fun a t=>Eh n (Gz p n e.num.toNat) (p.getD e.num.toNat Fn.zero).outs a t) e.count.toNat xs s1)) ys s2 c2):AN (go c (Is n (Gz p n F) e env s)) (ys.getD e.pick.toNat []) s2 c2:=by
 have hl:(Gz p n F).all e.num.toNat=fun a t=>Eh n (Gz p n e.num.toNat) (p.getD e.num.toNat Fn.zero).outs a t:=funext fun a=>funext fun t=>KU hF
 by_cases hc:c=0
 ·subst hc
  rw[Cn]at hr ⊢
  unfold Is
  by_cases hc1:c1=0
  ·subst hc1
   rw[hr.bindO,if_neg hk,hl]
   rw[Cn]at h2
   by_cases h0:c2=0
   ·subst h0;rw[h2.bindO];exact AN.mk_ok rfl
   ·rw[h2.bindE h0];exact AN.mk_err rfl h0
  ·rw[hr.bindE hc1]
   rw[CM hc1]at h2
   exact AN.mk_err (by rw[h2.1]) (by rw[h2.1];exact hc1)
 ·have e1:=Qi hr hc
  subst e1
  rw[CM hc]at h2 ⊢
  exact AN.mk_err (by rw[h2.1]) (by rw[h2.1];exact hc)
end
end
section
def Mv (p:List Fn)(f:Nat)(s:Sr):Int:=PU p 1 f (D9 s)
def Sl (p:List Fn)(f:Nat)(s:Sr):Sr:=(Rl p 1 f (D9 s)).map fun s=>s.getD 0 0
theorem ED {a:Sr}(h:B9 a=true):CB 1 (D9 a):=by
 intro k hk
 unfold D9 at hk ⊢
 rw[zg]at hk
 rw[List.getD_eq_getElem?_getD,List.getElem?_map,List.getElem?_eq_getElem hk]
 refine⟨rfl,?_⟩
 unfold B9 at h ⊢
 have:=zm.1 h _ (List.getElem_mem hk)
 simpa using this
theorem MT {x:List Sr}{n:Nat}(h:CB (n+1) x):B9 (x.map fun s=>s.getD 0 0)=true:=by
 unfold B9
 rw[zm]
 intro y hy
 obtain⟨s,hs,rfl⟩:=List.mem_map.1 hy
 obtain⟨k,hk,rfl⟩:=List.mem_iff_getElem.1 hs
 have h2:=h k hk
 rw[HA hk]at h2
 exact Qg h2 zO
section
variable {p:List Fn} {f:Nat} {a s:Sr} {k n:Nat}
structure Y8 (p:List Fn)(f:Nat)(s:Sr):Prop where
 code:0≤Mv p f s∧Mv p f s≤9
 len:Mv p f s=0→(Sl p f s).length=(p.getD f Fn.zero).outs.length
 num:B9 (Sl p f s)=true
 non:Mv p f s≠0→Sl p f s=[]
theorem Y8.mk' (h:Y6 p 1 f (D9 s)):Y8 p f s :=
 ⟨h.code,fun h0=>by unfold Sl;rw[zg];exact h.len h0,MT h.ser,fun h0=>by unfold Sl;rw[h.non h0];rfl⟩
end
end
theorem VA {a b:Sr}(hl:a.length=b.length)(h:∀j,j<a.length→a.getD j 0=b.getD j 0):a=b :=
 List.ext_getElem hl fun j h1 h2=>by have:=h j h1;rwa [HA h1,HA h2]at this
theorem Yq {y z:List Sr}(hl:y.length=z.length)(h:∀j,j<y.length→y.getD j []=z.getD j []):y=z :=
 List.ext_getElem hl fun j h1 h2=>by have:=h j h1;rwa [HA h1,HA h2]at this
theorem Qn {s:ByteArray}(h:Jc s=true):s.size≤12:=by
 unfold Jc at h
 simp only[z7,decide_eq_true_eq]at h
 exact h.1.2
theorem JQ.szp {p:List Fn}{pl:Bool}(h:JQ p pl):RZ p:=fun k hk=>⟨by have:=h.sz k hk;omega,by have:=h.outs k hk;omega,by have:=Qn (h.nm k hk);omega⟩
section
def I0 (p:List Fn)(f:Int)(a:Sr):Int:=if HG p f=0 then(if (decide (((a.length:Nat):Int)=(p.getD f.toNat Fn.zero).params) && B9 a)=true then 0 else 2)else HG p f
def Rn (p:List Fn)(f:Int)(a:Sr):Int:=if I0 p f a=0 then Mv p f.toNat a else I0 p f a
def Yr (p:List Fn)(f:Int)(a:Sr):Sr:=if I0 p f a=0 then Sl p f.toNat a else []
def UH (p:List Fn)(f:Int)(a:Sr):Nat:=if I0 p f a=0 then NP p 1 f.toNat (D9 a)else 0
section
variable {p:List Fn} {f:Int} {a:Sr}
theorem VB (h:I0 p f a=0):Iw p=true∧(0≤f∧f<((p.length:Nat):Int))∧((a.length:Nat):Int)=(p.getD f.toNat Fn.zero).params∧B9 a=true:=by
 unfold I0 at h
 split at h
 ·rename_i h1
  split at h
  ·rename_i h2
   rw[z7,decide_eq_true_eq]at h2
   obtain⟨q1,q2,q3⟩:=Tf h1
   exact⟨q1,⟨q2,q3⟩,h2.1,h2.2⟩
  ·omega
 ·rename_i h1;exact absurd h h1
theorem VC (h:HG p f≠0):HG p f=I0 p f a:=by unfold I0;rw[if_neg h]
theorem VD (h:HG p f=0)(h2:(decide (((a.length:Nat):Int)=(p.getD f.toNat Fn.zero).params) && B9 a)=false):2=I0 p f a:=by unfold I0;rw[if_pos h,h2];rfl
theorem Ys (h:HG p f=0)(h2:(decide (((a.length:Nat):Int)=(p.getD f.toNat Fn.zero).params) && B9 a)=true):0=I0 p f a:=by unfold I0;rw[if_pos h,h2];rfl
theorem VE (h:I0 p f a≠0):Rn p f a=I0 p f a:=if_neg h
theorem VF (h:I0 p f a≠0):Yr p f a=[]:=if_neg h
theorem VG (h:I0 p f a≠0):UH p f a=0:=if_neg h
theorem Tg (h:I0 p f a=0):Rn p f a=Mv p f.toNat a:=if_pos h
theorem VH (h:I0 p f a=0):Yr p f a=Sl p f.toNat a:=if_pos h
theorem VI (h:I0 p f a=0):UH p f a=NP p 1 f.toNat (D9 a):=if_pos h
end
end
theorem VJ {a b:Sr}{k:Nat}(h:k<a.length):(Ea a b).getD k 0=md (a.getD k 0+b.getD k 0):=Dd 0 h
theorem VK {a b:Sr}{k:Nat}(h:k<a.length):(Hz a b).getD k 0=md (a.getD k 0-b.getD k 0):=Dd 0 h
theorem VL {a:Sr}{y:Int}{k:Nat}(h:k<a.length):(CQ a y).getD k 0=md (a.getD k 0*y):=Dd 0 h
theorem VM {a b:Sr}(h:0<a.length):(Cs a b).getD 0 0=md (0+a.getD 0 0*b.getD 0 0):=Dd 0 h
theorem VN {a b:Sr}(h:0<a.length):(Cm a b).getD 0 0=md (a.getD 0 0*inv (b.getD 0 0)):=KT h
theorem Sm {n:Nat}{c:Int}(h:0<n):(Lu n c).getD 0 0=c:=by
 obtain⟨n,rfl⟩:∃k,n=k+1:=⟨n-1,zO⟩
 unfold Lu;rw[List.replicate_succ];rfl
structure VO (p:List Fn)(f pk:Int)(a b:List Int):Prop where
 dr:JQ p false
 dn:Dn p
 len:1≤p.length∧p.length≤3
 fe:f=((p.length:Nat):Int)-1
 pk:0≤pk∧pk<(((p.getD f.toNat Fn.zero).outs.length:Nat):Int)
 la:((a.length:Nat):Int)=(p.getD f.toNat Fn.zero).params∧B9 a=true
 lb:((b.length:Nat):Int)=(p.getD f.toNat Fn.zero).params∧B9 b=true
theorem VP {p:List Fn}{f:Int}{a:Sr}(h:Iw p=true)(hf:0≤f∧f<((p.length:Nat):Int))(hl:((a.length:Nat):Int)=(p.getD f.toNat Fn.zero).params)(hn:B9 a=true):I0 p f a=0:=by
 unfold I0 HG
 rw[if_pos h,if_pos (by omega)]
 rw[if_pos]
 rw[z7,decide_eq_true_eq];exact⟨hl,hn⟩
def I1 (a d:List Int)(n:Nat):List Sr:=IL a.length fun i=>(Lu n (a.getD i 0)).set 1 (d.getD i 0)
@[simp] theorem DQ (a d:List Int)(n:Nat):(I1 a d n).length=a.length:=by simp[I1]
theorem MU {a d:List Int}{n k:Nat}(h:k<a.length):(I1 a d n).getD k []=(Lu n (a.getD k 0)).set 1 (d.getD k 0):=Dd [] h
theorem O3 {a d:List Int}{n:Nat}(ha:B9 a=true)(hd:B9 d=true):CB n (I1 a d n):=fun k hk=>by
 rw[DQ]at hk
 rw[MU hk]
 refine⟨by rw[z6,NN],?_⟩
 have h1:=Gc (n:=n)<|Ch.2<|C9 ha k
 unfold B9
 rw[zm]
 intro y hy
 rcases List.mem_or_eq_of_mem_set hy with hy|rfl
 ·have:=h1.2;unfold B9 at this;exact zm.1 this y hy
 ·exact Ch.2<|C9 hd k
theorem VQ {a d:List Int}{i:Nat}(h:i<a.length):((I1 a d 2).getD i []).getD 0 0=a.getD i 0:=by rw[MU h];rfl
section
section str
variable {P:Program} {ops:Array Oper} {w0:World} {Q:Act→World→Prop} {os:List Oper} {ks:List Nat} {N:Nat} {ρ:Nat→Value} {w:World}
 {d:Nat} {ty:TypeId} {pos:String} {aft:Array Edge} {g:Option (Nat×Bool)} {t e:TypeId}
theorem Qo {α:Type}{E:Bf α}(hE:BF E){ys:List α}{b:Nat}{z u0 u1:Value}{x0 x1:Operand}(ht:P.underlying t=some (.slice e))(hi:TI P e 1 z b)(hz:z.cells=#[z])
  (hx0:Be N ρ x0=u0) (hx1:Be N ρ x1=u1) (hl:ys.length=2) (hels:els E w.heap [u0,u1] ys [])
  (hu:Up ops N ρ ⟨some d,.buildSlice t 2 #[(0,x0),(1,x1)],ty,pos,aft,g⟩)
  (h:∀v w1,AE w w1→w1.heap.size=w.heap.size+1→Fr (B8 E e) w.heap.size w1.heap.size w1.heap v ys→LW P ops w0 Q os ks (mk N (C2 ρ d v)) w1) :
  LW P ops w0 Q (⟨some d,.buildSlice t 2 #[(0,x0),(1,x1)],ty,pos,aft,g⟩::os) (3::ks) (mk N ρ) w:=by
 have hc:=hels.cells1 hE
 have hr:=Ru (P:=P) (w:=w) ht hi (hc u0 (by simp)).1 (hc u1 (by simp)).1 hz
 have hrun:(execOp (Be N ρ) ⟨some d,.buildSlice t 2 #[(0,x0),(1,x1)],ty,pos,aft,g⟩).run P w=.ok (.value (.slice (some ⟨w.heap.size,0,none⟩) 2 2)) (w.alloc (.cells #[u0,u1] e)):=by
  simp only[execOp,zc,zf,zh,Sem.run_bind,hx0,hx1,hr,Result.andThen_ok,Sem.run_pure]
 refine Ho rfl hu _ _ hrun (Bh _ _)<|h _ _ (Bh _ _) (by simp) ?_
 have hn:=Ee (e:=e) (w:=w) hE (us:=[u0,u1]) (xs:=ys) (F:=[]) (cur:=#[u0,u1]) hels (by simp[maxLen]) (by rw[hl];rfl) (by rw[hl];simp)
 rw[hl]at hn
 refine⟨_,hn,?_,fun c hc=>?_⟩
 ·rw[List.nodup_cons]
  exact⟨fun hm=>(by cases hm),zk⟩
 ·rcases ze.1 hc with rfl|hc
  ·exact⟨A7 _,by simp⟩
  ·cases hc
theorem UI {x:Operand}{u:Value}(hx:Be N ρ x=u)(hc:u.cells=#[u])(hu:Up ops N ρ ⟨some d,.box t x,ty,pos,aft,g⟩)
  (h:∀w1,AE w w1→w1.heap.size=w.heap.size+1→BX w1.heap w.heap.size [u]→LW P ops w0 Q os ks (mk N (C2 ρ d (.pointer (some ⟨w.heap.size,0,none⟩)))) w1) :
  LW P ops w0 Q (⟨some d,.box t x,ty,pos,aft,g⟩::os) (3::ks) (mk N ρ) w:=by
 have hrun:(execOp (Be N ρ) ⟨some d,.box t x,ty,pos,aft,g⟩).run P w=.ok (.value (.pointer (some ⟨w.heap.size,0,none⟩))) (w.alloc (.cells #[u] t)):=by
  simp[execOp,Instr.box,newVar,newRow,hx,hc]
 refine Ho rfl hu _ _ hrun (Bh _ _)<|h _ (Bh _ _) (by simp) ⟨t,?_⟩
 have:=heap_alloc_new w (.cells #[u] t)
 simpa using this
end str
theorem Th {H:Array Obj}{a b:Int}(h0:-9223372036854775808≤a∧a≤9223372036854775807)(h1:-9223372036854775808≤b∧b≤9223372036854775807):els rI H [.int .i64 a,.int .i64 b] [a,b] [] :=
 ⟨[],[],rfl,⟨rfl,rfl,h0⟩,[],[],rfl,⟨rfl,rfl,h1⟩,rfl⟩
end
def dl (i:Nat)(j:Nat):Int:=if i=j then 1 else 0
structure MV (m:Nat)(a:List Int)(X:List Sr):Prop where
 len:X.length=a.length
 ser:∀i,i<a.length→Ct m (X.getD i [])
 at0:∀i,i<a.length→(X.getD i []).getD 0 0=a.getD i 0
section
theorem M7 {α:Type}{P:List α→Prop}(h0:P [])(h1:∀l c,P l→P (l++[c]))(l:List α):P l:=by
 have h:∀l:List α,P l.reverse:=fun l=>by
  induction l with
  |nil=>exact h0
  |cons c l ih=>rw[List.reverse_cons];exact h1 _ _ ih
 have:=h l.reverse
 rwa [List.reverse_reverse]at this
def E3 (m:Nat)(A R:List Sr)(c:Aw):Sr :=
 if c.op=1 then A.getD c.num.toNat []else if c.op=3 then Ea (R.getD c.a.toNat []) (R.getD c.b.toNat [])else if c.op=4 then Hz (R.getD c.a.toNat []) (R.getD c.b.toNat [])
 else if c.op=5 then Cs (R.getD c.a.toNat []) (R.getD c.b.toNat [])else if c.op=7 then CQ (R.getD c.a.toNat []) 1000002
 else if c.op=6 then Cm (R.getD c.a.toNat []) (R.getD c.b.toNat [])else Lu m c.num
def Bz (m:Nat)(A:List Sr)(cs:List Aw):List Sr:=cs.foldl (fun R c=>R++[E3 m A R c]) []
section
variable {m:Nat} {A:List Sr}
theorem EE (cs:List Aw)(c:Aw):Bz m A (cs++[c])=Bz m A cs++[E3 m A (Bz m A cs) c]:=by unfold Bz;rw[List.foldl_append];rfl
@[simp] theorem BD (cs:List Aw):(Bz m A cs).length=cs.length:=by
 induction cs using M7 with
 |h0=>rfl
 |h1 l c ih=>rw[EE,z4,ih,z4];rfl
theorem Jj (cs l:List Aw){k:Nat}(hk:k<cs.length):(Bz m A (cs++l)).getD k []=(Bz m A cs).getD k []:=by
 induction l using M7 with
 |h0=>rw[List.append_nil]
 |h1 l c ih=>rw[← List.append_assoc,EE,Gl (by rw[BD,z4];omega),ih]
theorem Kv (cs:List Aw)(c:Aw):(Bz m A (cs++[c])).getD cs.length []=E3 m A (Bz m A cs) c:=by rw[EE,GQ (by rw[BD])]
end
def Dj (ni k:Nat)(c:Aw):Prop :=
 (c.op=1∧c.a=0∧c.b=0∧0≤c.num∧c.num<((ni:Nat):Int))∨(c.op=2∧c.a=0∧c.b=0∧0≤c.num∧c.num<1000003) ∨
 ((c.op=3∨c.op=4∨c.op=5∨c.op=6)∧(0≤c.a∧c.a<((k:Nat):Int))∧(0≤c.b∧c.b<((k:Nat):Int))∧c.num=0)∨(c.op=7∧(0≤c.a∧c.a<((k:Nat):Int))∧c.b=0∧c.num=0)
theorem Dj.bin {ni k:Nat}{op a b:Int}(h:op=3∨op=4∨op=5∨op=6)(ha:0≤a∧a<((k:Nat):Int))(hb:0≤b∧b<((k:Nat):Int)):Dj ni k ⟨op,a,b,0⟩:=.inr (.inr (.inl ⟨h,ha,hb,rfl⟩))
theorem Dj.neg {ni k:Nat}{a:Int}(ha:0≤a∧a<((k:Nat):Int)):Dj ni k ⟨7,a,0,0⟩:=.inr (.inr (.inr ⟨rfl,ha,rfl,rfl⟩))
structure Gn (m:Nat)(A:List Sr)(T:Tp):Prop where
 cl:T.code.length=T.vals.length
 ser:∀k,k<T.code.length→Ct m ((Bz m A T.code).getD k [])∧((Bz m A T.code).getD k []).getD 0 0=T.vals.getD k 0
 form:∀k,k<T.code.length→Dj A.length k (T.code.getD k Aw.zero)
 dv:∀k,k<T.code.length→(T.code.getD k Aw.zero).op=6→T.at (T.code.getD k Aw.zero).b≠0
 gd:∀k,k<T.grd.length→(0≤(T.grd.getD k GU.zero).reg∧(T.grd.getD k GU.zero).reg<((T.vals.length:Nat):Int))∧(T.grd.getD k GU.zero).z=decide (T.at (T.grd.getD k GU.zero).reg=0)
def TE (T T':Tp):Prop:=(∃l,T'.code=T.code++l)∧∃l,T'.vals=T.vals++l
theorem TE.refl (T:Tp):TE T T:=⟨⟨[],by simp⟩,[],by simp⟩
theorem TE.trans {T T' T'':Tp}(h:TE T T')(k:TE T' T''):TE T T'':=by
 obtain⟨⟨l,h1⟩,l2,h2⟩:=h
 obtain⟨⟨l3,h3⟩,l4,h4⟩:=k
 exact⟨⟨l++l3,by rw[h3,h1,List.append_assoc]⟩,l2++l4,by rw[h4,h2,List.append_assoc]⟩
theorem TE.put (T:Tp)(c:Aw)(v:Int):TE T (T.put c v):=⟨⟨[c],rfl⟩,[v],rfl⟩
theorem TE.guard (T:Tp)(r:Int)(z:Bool):TE T (T.guard r z):=⟨⟨[],by simp[Tp.guard]⟩,[],by simp[Tp.guard]⟩
section
variable {m:Nat} {A:List Sr} {T T':Tp}
theorem TE.reg (h:TE T T'){k:Nat}(hk:k<T.code.length):(Bz m A T'.code).getD k []=(Bz m A T.code).getD k []:=by
 obtain⟨⟨l,h1⟩,_⟩:=h
 rw[h1,Jj _ _ hk]
theorem TE.at (h:TE T T'){r:Int}(hr:0≤r∧r<((T.vals.length:Nat):Int)):T'.at r=T.at r:=by
 obtain⟨_,l,h1⟩:=h
 unfold Tp.at
 rw[h1,Gl (by omega)]
theorem TE.len (h:TE T T'):T.code.length≤T'.code.length∧T.vals.length≤T'.vals.length:=by
 obtain⟨⟨l,h1⟩,l2,h2⟩:=h
 rw[h1,h2,z4,z4];omega
def Lw (m:Nat)(A:List Sr)(T:Tp)(r:Int)(z:Sr):Prop:=(0≤r∧r<((T.vals.length:Nat):Int))∧z=(Bz m A T.code).getD r.toNat []
def Kw (m:Nat)(A:List Sr)(n:Nat)(T:Tp)(rs:List Int)(zsq:List Sr):Prop:=rs.length=n∧zsq.length=n∧∀i,i<n→Lw m A T (rs.getD i 0) (zsq.getD i [])
theorem Lw.mono {r:Int}{z:Sr}(hc:T.code.length=T.vals.length)(h:Lw m A T r z)(k:TE T T'):Lw m A T' r z:=by
 have:=k.len
 exact⟨by have:=h.1;omega,by rw[k.reg (by have:=h.1;omega)];exact h.2⟩
theorem Kw.mono {n:Nat}{rs:List Int}{zsq:List Sr}(hc:T.code.length=T.vals.length)(h:Kw m A n T rs zsq)(k:TE T T'):Kw m A n T' rs zsq:=⟨h.1,h.2.1,fun i hi=>(h.2.2 i hi).mono hc k⟩
theorem Kw.snoc {n:Nat}{rs:List Int}{zsq:List Sr}{r:Int}{z:Sr}(h:Kw m A n T rs zsq)(h1:Lw m A T r z):Kw m A (n+1) T (rs++[r]) (zsq++[z]):=by
 refine⟨by simp[h.1],by simp[h.2.1],fun i hi=>?_⟩
 by_cases e:i=n
 ·rw[GQ (by rw[h.1];exact e),GQ (by rw[h.2.1];exact e)];exact h1
 ·rw[Gl (by rw[h.1];omega),Gl (by rw[h.2.1];omega)];exact h.2.2 i zO
theorem Lw.at (hI:Gn m A T){r:Int}{z:Sr}(h:Lw m A T r z):Ct m z∧z.getD 0 0=T.at r:=by
 have:=hI.ser r.toNat (by rw[hI.cl];have:=h.1;omega)
 rw[h.2];exact this
def Gi {α β:Type}(m:Nat)(A:List Sr)(T:Tp)(R:Tp→α→β→Prop)(r:Rs (α×Tp))(rz:Rs β):Prop:=match r with
 |.ok x t=>∃z,rz=.ok z t∧Gn m A x.2∧TE T x.2∧R x.2 x.1 z
 |.err c=>rz=.err c
theorem Gi.bind {α β α' β':Type}{R:Tp→α→β→Prop}{R':Tp→α'→β'→Prop}{r:Rs (α×Tp)}{rz:Rs β}{g:α×Tp→Nat→Rs (α'×Tp)}{gz:β→Nat→Rs β'}(h:Gi m A T R r rz)
  (hg:∀x T' z t,Gn m A T'→TE T T'→R T' x z→Gi m A T' R' (g (x,T') t) (gz z t)):Gi m A T R' (r.bind g) (rz.bind gz):=by
 cases r with
 |err c=>have h9:rz=.err c:=h;subst h9;exact rfl
 |ok x t =>
  obtain⟨z,h1,h2,h3,h4⟩:=h
  subst h1
  have h5:=hg x.1 x.2 z t h2 h3 h4
  rw[Rs.bind_ok,Rs.bind_ok]
  cases hr:g x t with
  |err c=>rw[hr]at h5;exact h5
  |ok y u =>
   rw[hr]at h5
   obtain⟨v,q1,q2,q3,q4⟩:=h5
   exact⟨v,q1,q2,h3.trans q3,q4⟩
theorem Gi.ret {α β:Type}{R:Tp→α→β→Prop}{x:α}{z:β}{t:Nat}(hI:Gn m A T')(hE:TE T T')(h:R T' x z):Gi m A T R (.ok (x,T') t) (.ok z t):=⟨z,rfl,hI,hE,h⟩
theorem Gn.put (h:Gn m A T){c:Aw}{v:Int}(hs:Ct m (E3 m A (Bz m A T.code) c))(hv:(E3 m A (Bz m A T.code) c).getD 0 0=v)(hf:Dj A.length T.code.length c)(hd:c.op=6→T.at c.b≠0):Gn m A (T.put c v):=by
 have hE:=TE.put T c v
 have hcl:=h.cl
 have key:∀k,k<(T.put c v).code.length→k<T.code.length∨k=T.code.length:=fun k hk=>by rw[MR]at hk;omega
 have cg:∀k,k<T.code.length→(T.put c v).code.getD k Aw.zero=T.code.getD k Aw.zero:=fun k hk=>Gl hk
 have cn:(T.put c v).code.getD T.code.length Aw.zero=c:=GQ rfl
 refine⟨by rw[MR,EX,hcl],fun k hk=>?_,fun k hk=>?_,fun k hk h6=>?_,fun k hk=>?_⟩
 ·rcases key k hk with hk|rfl
  ·rw[hE.reg hk,show(T.put c v).vals.getD k 0=T.vals.getD k 0 from Gl (by omega)];exact h.ser k hk
  ·rw[show(Bz m A (T.put c v).code).getD T.code.length []=_ from Kv _ _,show(T.put c v).vals.getD T.code.length 0=v from GQ hcl];exact⟨hs,hv⟩
 ·rcases key k hk with hk|rfl
  ·rw[cg k hk];exact h.form k hk
  ·rw[cn];exact hf
 ·rcases key k hk with hk|rfl
  ·rw[cg k hk]at h6 ⊢
   have:=h.form k hk
   unfold Dj at this
   rw[hE.at (by omega)];exact h.dv k hk h6
  ·rw[cn]at h6 ⊢
   unfold Dj at hf
   rw[hE.at (by omega)];exact hd h6
 ·have:=h.gd k hk
  rw[Qe]at hk ⊢
  refine⟨by rw[EX];omega,?_⟩
  rw[hE.at this.1];exact this.2
theorem Gn.guard (h:Gn m A T){r:Int}(hr:0≤r∧r<((T.vals.length:Nat):Int)):Gn m A (T.guard r (decide (T.at r=0))):=by
 refine⟨h.cl,h.ser,h.form,h.dv,fun k hk=>?_⟩
 rw[M2]at hk
 by_cases e:k<T.grd.length
 ·rw[show(T.guard r (decide (T.at r=0))).grd.getD k GU.zero=T.grd.getD k GU.zero from Gl e];exact h.gd k e
 ·rw[show(T.guard r (decide (T.at r=0))).grd.getD k GU.zero=⟨r,decide (T.at r=0)⟩from GQ (by omega)];exact⟨hr,rfl⟩
theorem Gi.put {R:Tp→Int→Sr→Prop}{c:Aw}{v:Int}{z:Sr}{t:Nat}(h:Gn m A T)(hz:E3 m A (Bz m A T.code) c=z)(hs:Ct m z)(hv:z.getD 0 0=v)(hf:Dj A.length T.code.length c)(hd:c.op=6→T.at c.b≠0)
  (hR:∀T' r z,Lw m A T' r z→R T' r z):Gi m A T R (.ok (((T.vals.length:Nat):Int),T.put c v) t) (.ok z t):=by
 subst hz
 refine Gi.ret (h.put hs hv hf hd) (TE.put T c v)<|hR _ _ _ ⟨by rw[EX];omega,?_⟩
 rw[Int.toNat_natCast,← h.cl];exact(Kv _ _).symm
theorem VR (hm:1≤m)(h:Gn m A T){k:Int}{n t:Nat}{rs:List Int}{zsq:List Sr}(hr:Kw m A n T rs zsq)(hk:3≤k∧k≤7)(h1:k=7→1≤n)(h2:k≠7→2≤n):Gi m A T (Lw m A) (Q4 k rs t T) (Ms k zsq t):=by
 have hn1:1≤n:=by by_cases e:k=7;exact h1 e;have:=h2 e;omega
 have ha:=hr.2.2 0 zO
 have hA:=ha.at h
 have hal:=hA.1.1
 have hac:=ha.1
 have hcl:=h.cl
 have fin:∀T' r z,Lw m A T' r z→Lw m A T' r z:=fun _ _ _ h=>h
 by_cases k7:k=7
 ·subst k7
  rw[GW (Td rfl),Qd rfl]
  refine Gi.put h ?_ ⟨(J7 _ _).trans hal,FL _ _⟩ ?_ (Dj.neg zO) (fun h6=>absurd (show(7:Int)=6 from h6) (by decide)) fin
  ·rw[ha.2];rfl
  ·rw[VL zO,hA.2]
   show md (T.at (rs.getD 0 0)*1000002)=md (0-T.at (rs.getD 0 0))
   unfold md;omega
 have hb:=hr.2.2 1<|h2 k7
 have hB:=hb.at h
 have hbl:=hB.1.1
 have hbc:=hb.1
 by_cases k3:k=3
 ·subst k3
  rw[GW (fun h=>h.1 rfl),EW (by decide)]
  refine Gi.put h ?_ ⟨(J6 _ _).trans hal,LP _ _⟩ ?_ (Dj.bin (.inl rfl) zO zO) (fun h6=>absurd (show(3:Int)=6 from h6) (by decide)) fin
  ·rw[ha.2,hb.2];rfl
  ·rw[VJ zO,hA.2,hB.2];rfl
 by_cases k4:k=4
 ·subst k4
  rw[GW (fun h=>h.2.1 rfl),EW (by decide)]
  refine Gi.put h ?_ ⟨(LO _ _).trans hal,LQ _ _⟩ ?_ (Dj.bin (.inr<|.inl rfl) zO zO) (fun h6=>absurd (show(4:Int)=6 from h6) (by decide)) fin
  ·rw[ha.2,hb.2];rfl
  ·rw[VK zO,hA.2,hB.2];rfl
 by_cases k5:k=5
 ·subst k5
  rw[GW (fun h=>h.2.2.1 rfl),EW (by decide)]
  refine Gi.put h ?_ ⟨(J4 _ _).trans hal,Hx _ _⟩ ?_ (Dj.bin (.inr<|.inr<|.inl rfl) zO zO) (fun h6=>absurd (show(5:Int)=6 from h6) (by decide)) fin
  ·rw[ha.2,hb.2];rfl
  ·rw[VM zO,hA.2,hB.2,Int.zero_add];rfl
 have k6:k=6:=by omega
 subst k6
 by_cases hz:T.at (rs.getD 1 0)=0
 ·rw[O1 (by rw[EW (by decide)];exact⟨by decide,by decide,by decide,by decide,hz⟩)]
  show Ms 6 zsq t=.err 6
  show(if (zsq.getD 1 []).getD 0 0=0 then _ else _)=_
  rw[if_pos (by rw[hB.2];exact hz)]
 ·rw[GW (by rw[EW (by decide)];exact fun h9=>hz h9.2.2.2.2),EW (by decide)]
  have e:Ms 6 zsq t=.ok (Cm (zsq.getD 0 []) (zsq.getD 1 [])) t:=by
   show(if (zsq.getD 1 []).getD 0 0=0 then _ else _)=_
   rw[if_neg (by rw[hB.2];exact hz)]
  rw[e]
  refine Gi.put h ?_ ⟨(Hy _ _).trans hal,FK _ _⟩ ?_ (Dj.bin (.inr<|.inr<|.inr rfl) zO zO) (fun _=>hz) fin
  ·rw[ha.2,hb.2];rfl
  ·rw[VN zO,hA.2,hB.2];rfl
end
structure Yt (m:Nat)(A:List Sr)(p:List Fn)(F:Nat)(G:Cg)(C:Ca):Prop where
 one:∀f j n T rs zsq t,f<F→j<(p.getD f Fn.zero).outs.length→Gn m A T→Kw m A n T rs zsq→((n:Nat):Int)=(p.getD f Fn.zero).params→Gi m A T (Lw m A) (G.one f j rs t T) (C.one f j zsq t)
 all:∀f n T rs zsq t,f<F→Gn m A T→Kw m A n T rs zsq→((n:Nat):Int)=(p.getD f Fn.zero).params→Gi m A T (Kw m A (p.getD f Fn.zero).outs.length) (G.all f rs t T) (C.all f zsq t)
section
variable {m:Nat} {A:List Sr} {p:List Fn}
theorem Qp {G:Cg}{C:Ca}{env:List Int}{ez:List Sr}{n:Nat}:∀(l:List Ex),(∀e∈l,∀s T,Gn m A T→Kw m A n T env ez→Gi m A T (Lw m A) (Fp G e env s T) (Em m C e ez s))→∀s T,Gn m A T→Kw m A n T env ez→Gi m A T (Kw m A l.length) (Gg G l env s T) (Eh m C l ez s)
 |[],_,s,T,hI,he=>by
  rw[Gg,Eh]
  exact Gi.ret hI (TE.refl T) ⟨rfl,rfl,fun i hi=>absurd hi<|Nat.not_lt_zero i⟩
 |e::l,h,s,T,hI,he=>by
  rw[Gg,Eh]
  refine (h e (by simp) s T hI he).bind fun x T1 z t h1 h2 h3=>?_
  refine (Qp l (fun e' he'=>h e' (by simp[he'])) t T1 h1<|he.mono hI.cl h2).bind fun xs T2 zsq u q1 q2 q3=>?_
  refine Gi.ret q1 (TE.refl T2) ⟨by simp[q3.1],by simp[q3.2.1],fun i hi=>?_⟩
  cases i with
  |zero=>exact h3.mono h1.cl q2
  |succ i=>exact q3.2.2 i (by simpa using hi)
theorem Qq {F f:Nat}{G:Cg}{C:Ca}(hC:Yt m A p F G C)(hf:f<F)(ho:(((p.getD f Fn.zero).outs.length:Nat):Int)=(p.getD f Fn.zero).params):∀(c:Nat)(rs:List Int)(zsq:List Sr)(t:Nat)(T:Tp),Gn m A T→Kw m A (p.getD f Fn.zero).outs.length T rs zsq →
  Gi m A T (Kw m A (p.getD f Fn.zero).outs.length) (GV (G.all f) c rs t T) (P5 (C.all f) c zsq t)
 |0,rs,zsq,t,T,hI,h=>Gi.ret hI (TE.refl T) h
 |c+1,rs,zsq,t,T,hI,h=>(Qq hC hf ho c rs zsq t T hI h).bind fun x T1 z u h1 h2 h3=>hC.all f _ T1 x z u hf h1 h3 ho
theorem Qr (hm:1≤m){F:Nat}{G:Cg}{C:Ca}(hC:Yt m A p F G C):∀(z:Nat)(e:Ex),e.size≤z→∀(n:Nat)(env:List Int)(ez:List Sr)(s:Nat)(T:Tp),wf p ((F:Nat):Int) e ((n:Nat):Int)=true→Gn m A T→Kw m A n T env ez →
  Gi m A T (Lw m A) (Fp G e env s T) (Em m C e ez s)
 |0,e,h,_,_,_,_,_,_,_,_=>by have:=DV e;omega
 |z+1,e,h,n,env,ez,s,T,hw,hI,he=>by
  obtain⟨w1,w2,w3,w4,w5,w6,w7,w8⟩:=CU (CO hw)
  have hz:∀j,j<e.kids.length→(e.kids.getD j Ex.zero).size≤z:=fun j hj=>by
   have:=DV e;have:=LB hj;omega
  have hk:∀j,j<e.kids.length→¬(e.kind=9∧j=1)→∀t T',Gn m A T'→Kw m A n T' env ez→Gi m A T' (Lw m A) (MQ G e.kids j env t T') (MH m C e.kids j ez t):=fun j hj hn t T' h1 h2=>by
   rw[E2 _ _ _ _ _ _ hj,En _ _ _ _ _ _ hj]
   exact Qr hm hC z _ (hz j hj) n env ez t T' (FN hw hj hn) h1 h2
  rw[EV,FM]
  by_cases hs3:3000≤s
  ·rw[if_pos hs3,if_pos hs3];exact rfl
  rw[if_neg hs3,if_neg hs3]
  by_cases k1:e.kind=1
  ·rw[if_pos k1,if_pos k1]
   have:=w8 k1
   exact Gi.put hI rfl (Gc<|Ch.2 this) (Sm hm) (.inr<|.inl ⟨rfl,rfl,rfl,this⟩) (fun h6=>absurd (show(2:Int)=6 from h6) (by decide)) fun _ _ _ h=>h
  rw[if_neg k1,if_neg k1]
  by_cases k2:e.kind=2
  ·rw[if_pos k2,if_pos k2]
   exact Gi.ret hI (TE.refl T)<|he.2.2 _ (by have:=w2 k2;omega)
  rw[if_neg k2,if_neg k2]
  by_cases k8:e.kind=8
  ·rw[if_pos k8,if_pos k8]
   have h3:=w5 k8
   refine (hk 0 zO zO (s+1) T hI he).bind fun x T1 y t h1 h2 hx=>?_
   have hq:=(hx.at h1).2
   have he1:=he.mono hI.cl h2
   dsimp only
   have fin:∀ {r:Rs RI} {rz:Rs Sr} {b:Bool},Gi m A (T1.guard x b) (Lw m A) r rz→Gi m A T1 (Lw m A) r rz:=fun {r rz b} hh=>by
    cases r with
    |err c=>exact hh
    |ok v u=>obtain⟨q,a1,a2,a3,a4⟩:=hh;exact⟨q,a1,a2,(TE.guard T1 x b).trans a3,a4⟩
   have hg:=h1.guard hx.1
   by_cases h0:T1.at x=0
   ·rw[if_pos h0,if_pos (by rw[hq];exact h0)]
    rw[A5 h0]at hg
    exact fin<|hk 1 zO zO t _ hg<|he1.mono h1.cl<|TE.guard T1 x true
   ·rw[if_neg h0,if_neg (by rw[hq];exact h0)]
    rw[A6 h0]at hg
    exact fin<|hk 2 zO zO t _ hg<|he1.mono h1.cl<|TE.guard T1 x false
  rw[if_neg k8,if_neg k8]
  by_cases k9:e.kind=9
  ·rw[if_pos k9,if_pos k9]
   have h3:=w3 zO
   refine (hk 0 zO zO (s+1) T hI he).bind fun x T1 y t h1 h2 hx=>?_
   dsimp only
   rw[E2 _ _ _ _ _ _ (show 1<e.kids.length by omega),En _ _ _ _ _ _ (show 1<e.kids.length by omega)]
   refine Qr hm hC z _ (hz 1 zO) (n+1) (env++[x]) (ez++[y]) t T1 ?_ h1<|(he.mono hI.cl h2).snoc hx
   have:=MI hw zO k9
   rw[Int.natCast_add];exact this
  rw[if_neg k9,if_neg k9]
  have hc:=Qp (G:=G) (C:=C) (env:=env) (ez:=ez) (n:=n) e.kids (fun x hx t T' h1 h2=>by
   obtain⟨j,hj,rfl⟩:=List.mem_iff_getElem.1 hx
   have:=hk j hj zO t T' h1 h2
   rw[E2 _ _ _ _ _ _ hj,En _ _ _ _ _ _ hj,HA hj]at this
   exact this) (s+1) T hI he
  refine hc.bind fun xs T1 zsq t h1 h2 hx=>?_
  dsimp only
  by_cases k10:e.kind=10
  ·rw[if_pos k10,if_pos k10]
   have h6:=w6<|.inl k10
   exact hC.one _ _ _ T1 xs zsq t zO zO h1 hx (by exact h6.2.2.1)
  rw[if_neg k10,if_neg k10]
  by_cases k11:e.kind=11
  ·rw[if_pos k11,if_pos k11]
   have h6:=w6 (.inr k11);have h7:=w7 k11
   have hl:e.kids.length=(p.getD e.num.toNat Fn.zero).outs.length:=by omega
   rw[hl]at hx
   refine (Qq hC (f:=e.num.toNat) zO h7.1 e.count.toNat xs zsq t T1 h1 hx).bind fun ys T2 ws u q1 q2 q3=>?_
   exact Gi.ret q1 (TE.refl T2)<|q3.2.2 _ zO
  rw[if_neg k11,if_neg k11]
  exact VR hm h1 hx zO (fun h7=>by rw[w4 h7];decide) fun h7=>by rw[w3 (by omega)];decide
theorem Ti (hm:1≤m)(hv:Lv p):∀F,F≤p.length→Yt m A p F (Iz p F) (Gz p m F)
 |0,_=>⟨fun f j n T rs zsq t h=>by omega,fun f n T rs zsq t h=>by omega⟩
 |F+1,hF=>by
  have ih:=Ti hm hv F zO
  have hO:∀j n T rs zsq t,j<(p.getD F Fn.zero).outs.length→Gn m A T→Kw m A n T rs zsq→((n:Nat):Int)=(p.getD F Fn.zero).params→Gi m A T (Lw m A) (Fp (Iz p F) ((p.getD F Fn.zero).outs.getD j Ex.zero) rs t T) (Em m (Gz p m F) ((p.getD F Fn.zero).outs.getD j Ex.zero) zsq t):=fun j n T rs zsq t h2 h1 h3 h4 =>
   Qr hm ih _ _ (A7 _) n rs zsq t T (by rw[h4];exact hv.wf F zO j h2) h1 h3
  refine⟨fun f j n T rs zsq t h1 h2 h0 h3 h4=>?_,fun f n T rs zsq t h1 h0 h3 h4=>?_⟩
  ·show Gi m A T _ (if f=F then _ else _) (if f=F then _ else _)
   by_cases e:f=F
   ·subst e;rw[if_pos rfl,if_pos rfl];exact hO j n T rs zsq t h2 h0 h3 h4
   ·rw[if_neg e,if_neg e];exact ih.one f j n T rs zsq t zO h2 h0 h3 h4
  ·show Gi m A T _ (if f=F then _ else _) (if f=F then _ else _)
   by_cases e:f=F
   ·subst e;rw[if_pos rfl,if_pos rfl]
    refine Qp (n:=n) _ (fun e he s T' h5 h6=>?_) t T h0 h3
    obtain⟨j,hj,rfl⟩:=List.mem_iff_getElem.1 he
    have:=hO j n T' rs zsq s hj h5 h6 h4
    rwa [HA hj]at this
   ·rw[if_neg e,if_neg e];exact ih.all f n T rs zsq t zO h0 h3 h4
theorem Tj {a:List Int}(hn:B9 a=true)(hA:MV m a A):∀k,k≤a.length→Gn m A (HF a k)
 |0,_=>⟨rfl,fun k hk=>absurd hk (Nat.not_lt_zero k),fun k hk=>absurd hk (Nat.not_lt_zero k),fun k hk=>absurd hk (Nat.not_lt_zero k),fun k hk=>absurd hk (Nat.not_lt_zero k)⟩
 |k+1,h=>by
  have e:E3 m A (Bz m A (HF a k).code) ⟨1,0,0,((k:Nat):Int)⟩=A.getD k []:=by
   show A.getD (((k:Nat):Int)).toNat []=_
   rw[Int.toNat_natCast]
  refine (Tj hn hA k zO).put ?_ ?_ (.inl ⟨rfl,rfl,rfl,Int.natCast_nonneg k,by rw[hA.len];exact Int.ofNat_lt.2 h⟩) fun h6=>absurd (show(1:Int)=6 from h6) (by decide)
  ·rw[e];exact hA.ser k h
  ·rw[e];exact hA.at0 k h
theorem VS {a:List Int}(hA:MV m a A):Kw m A a.length (HF a a.length) (Fq a.length) A:=by
 have hr:∀k,k≤a.length→∀j,j<k→(Bz m A (HF a k).code).getD j []=A.getD j []:=fun k=>by
  induction k with
  |zero=>exact fun _ j hj=>absurd hj (Nat.not_lt_zero j)
  |succ k ih =>
   intro hk j hj
   show(Bz m A ((HF a k).code++[_])).getD j []=_
   rw[EE]
   by_cases e:j=k
   ·rw[GQ (by rw[BD,L3];exact e),e]
    show A.getD (((k:Nat):Int)).toNat []=_
    rw[Int.toNat_natCast]
   ·rw[Gl (by rw[BD,L3];omega)];exact ih zO j zO
 refine⟨EC _,hA.len,fun i hi=>?_⟩
 rw[M3 hi]
 exact⟨by rw[Ib];omega,by rw[Int.toNat_natCast,hr _ (A7 _) i hi]⟩
theorem Qs {a:List Int}{f:Nat}(hm:1≤m)(hv:Lv p)(hf:f<p.length)(hn:B9 a=true)(hA:MV m a A)(hl:((a.length:Nat):Int)=(p.getD f Fn.zero).params) :
  Gi m A (HF a a.length) (Kw m A (p.getD f Fn.zero).outs.length) (OR p f a) (ev p m f A):=by
 have h:=(Ti (A:=A) hm hv (f+1) zO).all f a.length (HF a a.length) (Fq a.length) A 0 zO (Tj hn hA _<|A7 _) (VS hA) hl
 rw[L1 (show f<f+1 by omega),KU (show f<f+1 by omega)]at h
 exact h
theorem M8 {a:List Int}{f:Nat}(hm:1≤m)(hv:Lv p)(hf:f<p.length)(hn:B9 a=true)(hA:MV m a A)(hl:((a.length:Nat):Int)=(p.getD f Fn.zero).params){xs:List Int}{T:Tp}{s:Nat}{c:Int}(h:AN (OR p f a) (xs,T) s c):PU p m f A=c:=by
 have hT:=Qs hm hv hf hn hA hl
 cases hr:OR p f a with
 |err d =>
  rw[hr]at h hT
  have h9:ev p m f A=.err d:=hT
  rw[LV h9];exact h.1.symm
 |ok x t =>
  rw[hr]at h hT
  obtain⟨z,h1,_⟩:=hT
  rw[NT h1];exact h.2.2.symm
theorem Qt {a:List Int}{f:Nat}(hm:1≤m)(hv:Lv p)(hf:f<p.length)(hn:B9 a=true)(hA:MV m a A)(hl:((a.length:Nat):Int)=(p.getD f Fn.zero).params){xs:List Int}{T:Tp}{s:Nat}{c:Int}(h:AN (OR p f a) (xs,T) s c)(hc:c=0) :
  Gn m A T∧Rl p m f A=xs.map fun r=>(Bz m A T.code).getD r.toNat []:=by
 have hT:=Qs hm hv hf hn hA hl
 subst hc
 have hr:=h.ok
 rw[hr]at hT
 obtain⟨z,h1,h2,h3,h4⟩:=hT
 refine⟨h2,?_⟩
 rw[NS h1]
 refine Yq (by rw[h4.2.1,zg,h4.1]) fun i hi=>?_
 rw[h4.2.1]at hi
 rw[Cy (d:=0) (by rw[h4.1];exact hi)]
 exact (h4.2.2 i hi).2
end
end
section
def IA (m:Nat)(A:List Sr)(cs:List Aw)(k:Nat):Prop:=∀j,j<k→(cs.getD j Aw.zero).op=6→((Bz m A (cs.take j)).getD (cs.getD j Aw.zero).b.toNat []).getD 0 0≠0
section
variable {m k:Nat} {A R:List Sr} {cs:List Aw} {c:Aw}
theorem CP (hk:k<cs.length):Bz m A (cs.take (k+1))=Bz m A (cs.take k)++[E3 m A (Bz m A (cs.take k)) (cs.getD k Aw.zero)]:=by
 rw[D6 Aw.zero hk,EE]
theorem IS (h:c.op=1):E3 m A R c=A.getD c.num.toNat []:=if_pos h
theorem HH (h:c.op=3):E3 m A R c=Ea (R.getD c.a.toNat []) (R.getD c.b.toNat []):=by unfold E3;rw[if_neg zO,if_pos h]
theorem HI (h:c.op=4):E3 m A R c=Hz (R.getD c.a.toNat []) (R.getD c.b.toNat []):=by unfold E3;rw[if_neg zO,if_neg zO,if_pos h]
theorem HJ (h:c.op=5):E3 m A R c=Cs (R.getD c.a.toNat []) (R.getD c.b.toNat []):=by unfold E3;rw[if_neg zO,if_neg zO,if_neg zO,if_pos h]
theorem HK (h:c.op=7):E3 m A R c=CQ (R.getD c.a.toNat []) 1000002:=by unfold E3;rw[if_neg zO,if_neg zO,if_neg zO,if_neg zO,if_pos h]
theorem HL (h:c.op=6):E3 m A R c=Cm (R.getD c.a.toNat []) (R.getD c.b.toNat []):=by unfold E3;rw[if_neg zO,if_neg zO,if_neg zO,if_neg zO,if_neg zO,if_pos h]
theorem HM (h:c.op≠1∧c.op≠3∧c.op≠4∧c.op≠5∧c.op≠7∧c.op≠6):E3 m A R c=Lu m c.num:=by
 unfold E3;rw[if_neg h.1,if_neg h.2.1,if_neg h.2.2.1,if_neg h.2.2.2.1,if_neg h.2.2.2.2.1,if_neg h.2.2.2.2.2]
theorem Qu (hA:CB m A)(hR:CB m R)(hl:R.length=k)(h:Dj A.length k c):Ct m (E3 m A R c):=by
 have hg:∀x:Int,0≤x→x<((k:Nat):Int)→Ct m (R.getD x.toNat []):=fun x h0 h1=>hR _ zO
 rcases h with⟨h1,_,_,h2,h3⟩|⟨h1,_,_,h2,h3⟩|⟨h1,h2,h3,_⟩|⟨h1,h2,_⟩
 ·rw[IS h1];exact hA _ zO
 ·rw[HM (by omega)];exact Gc (Ch.2 ⟨h2,h3⟩)
 ·have ha:=hg c.a h2.1 h2.2
  rcases h1 with h1|h1|h1|h1
  ·rw[HH h1];exact HC ha
  ·rw[HI h1];exact LU ha
  ·rw[HJ h1];exact J9 ha
  ·rw[HL h1];exact Ja ha
 ·rw[HK h1];exact Jb (hg c.a h2.1 h2.2)
theorem O4 (h:CB m (Bz m A (cs.take k)))(hA:CB m A)(hf:Dj A.length k (cs.getD k Aw.zero))(hk:k<cs.length):CB m (Bz m A (cs.take (k+1))):=by
 rw[CP hk]
 exact CB.snoc h<|Qu hA h (by rw[BD,List.length_take];omega) hf
theorem UJ:IA m A cs 0:=fun j hj=>absurd hj (Nat.not_lt_zero j)
theorem Sn (h:IA m A cs k)(hk:(cs.getD k Aw.zero).op≠6):IA m A cs (k+1):=fun j hj h6=>by
 by_cases e:j=k
 ·subst e;exact absurd h6 hk
 ·exact h j zO h6
theorem So (h:IA m A cs k)(hk:((Bz m A (cs.take k)).getD (cs.getD k Aw.zero).b.toNat []).getD 0 0≠0):IA m A cs (k+1):=fun j hj h6=>by
 by_cases e:j=k
 ·subst e;exact hk
 ·exact h j zO h6
theorem Qv {n:Nat}(hk:k<n)(h6:(cs.getD k Aw.zero).op=6)(hz:((Bz m A (cs.take k)).getD (cs.getD k Aw.zero).b.toNat []).getD 0 0=0):¬IA m A cs n:=fun h=>h k hk h6 hz
end
theorem Gn.nz {m:Nat}{A:List Sr}{T:Tp}(h:Gn m A T):IA m A T.code T.code.length:=fun j hj h6=>by
 have hf:=h.form j hj
 have hd:=h.dv j hj h6
 unfold Dj at hf
 have hb:(T.code.getD j Aw.zero).b.toNat<j:=by omega
 have hs:=(h.ser (T.code.getD j Aw.zero).b.toNat zO).2
 have e:(Bz m A (T.code.take j)).getD (T.code.getD j Aw.zero).b.toNat []=(Bz m A T.code).getD (T.code.getD j Aw.zero).b.toNat []:=by
  have h9:=Jj (m:=m) (A:=A) (T.code.take j) (T.code.drop j) (k:=(T.code.getD j Aw.zero).b.toNat) (by rw[List.length_take];omega)
  rw[List.take_append_drop]at h9
  exact h9.symm
 rw[e,hs]
 exact hd
section io
variable {ni k:Nat} {c:Aw}
theorem Dj.i1 (h:Dj ni k c)(h1:c.op=1):(0≤c.num∧c.num<((ni:Nat):Int)):=by unfold Dj at h;omega
theorem Dj.i2 (h:Dj ni k c)(h1:3≤c.op∧c.op≤6):(0≤c.a∧c.a<((k:Nat):Int))∧(0≤c.b∧c.b<((k:Nat):Int)):=by unfold Dj at h;omega
theorem Dj.i7 (h:Dj ni k c)(h1:c.op=7):(0≤c.a∧c.a<((k:Nat):Int)):=by unfold Dj at h;omega
end io
theorem Ep {S:List Nat}{H:Array Obj}{cs:List Value}{x:Aw}(h:RN S Ix H cs x):cs=Rm x∧OO x:=by
 obtain⟨F,h,_⟩:=h
 exact⟨h.1,h.2.1⟩
theorem UK {S:List Nat}{H:Array Obj}{cs:List Value}{x:GU}(h:RN S Iy H cs x):cs=Y7 x∧Bn x.reg:=by
 obtain⟨F,h,_⟩:=h
 exact⟨h.1,h.2.1⟩
def MW (m:Nat)(A:List Sr)(cs:List Aw)(c:Int):Prop:=(c=0∧IA m A cs cs.length)∨(c=6∧¬IA m A cs cs.length)
end
section
def DI (B:List Sr)(r:Int)(s:Sr):List Sr:=B.set r.toNat (Ea (B.getD r.toNat []) s)
def Kx (cs:List Aw)(R:List Sr)(k:Nat)(B:List Sr):List Sr :=
 if (cs.getD k Aw.zero).op=3 then DI (DI B (cs.getD k Aw.zero).a (B.getD k [])) (cs.getD k Aw.zero).b (B.getD k [])
 else if (cs.getD k Aw.zero).op=4 then DI (DI B (cs.getD k Aw.zero).a (B.getD k [])) (cs.getD k Aw.zero).b (CQ (B.getD k []) 1000002)
 else if (cs.getD k Aw.zero).op=5 then DI (DI B (cs.getD k Aw.zero).a (Cs (B.getD k []) (R.getD (cs.getD k Aw.zero).b.toNat []))) (cs.getD k Aw.zero).b (Cs (B.getD k []) (R.getD (cs.getD k Aw.zero).a.toNat []))
 else if (cs.getD k Aw.zero).op=6 then DI (DI B (cs.getD k Aw.zero).a (Cm (B.getD k []) (R.getD (cs.getD k Aw.zero).b.toNat []))) (cs.getD k Aw.zero).b (CQ (Cs (Cm (B.getD k []) (R.getD (cs.getD k Aw.zero).b.toNat [])) (R.getD k [])) 1000002)
 else if (cs.getD k Aw.zero).op=7 then DI B (cs.getD k Aw.zero).a (CQ (B.getD k []) 1000002)else B
def Qw (cs:List Aw)(R:List Sr):Nat→List Sr→List Sr
 |0,B=>B
 |k+1,B=>Qw cs R k (Kx cs R k B)
def MX (os:List Int)(ws:List Int):Nat→List Sr→List Sr
 |0,B=>B
 |k+1,B=>(MX os ws k B).set (os.getD k 0).toNat (((MX os ws k B).getD (os.getD k 0).toNat []).set 0 (md (((MX os ws k B).getD (os.getD k 0).toNat []).getD 0 0+ws.getD k 0)))
def L5 (R:List Sr):List Sr:=R.map fun s=>List.replicate s.length 0
def FP (cs:List Aw)(R:List Sr)(os ws:List Int):List Sr:=Qw cs R cs.length (MX os ws os.length (L5 R))
section
variable {m:Nat} {cs:List Aw} {R B:List Sr} {os ws:List Int}
theorem IT (h:CB m R):CB m (L5 R):=fun k hk=>by
 have hk':k<R.length:=by unfold L5 at hk;simpa using hk
 have e:(L5 R).getD k []=List.replicate (R.getD k []).length 0:=by unfold L5;simp[List.getD_eq_getElem?_getD,List.getElem?_map,hk']
 rw[e]
 exact⟨by rw[z5];exact(h k hk').1,HB _⟩
@[simp] theorem DR:(L5 R).length=R.length:=by simp[L5]
@[simp] theorem Ei (k:Nat):(MX os ws k B).length=B.length:=by
 induction k with
 |zero=>rfl
 |succ k ih=>show((MX os ws k B).set _ _).length=_;rw[z6,ih]
theorem CB.set {k:Nat}{s:Sr}(h:CB m B)(hs:Ct m s):CB m (B.set k s):=fun j hj=>by
 rw[z6]at hj
 by_cases e:j=k
 ·rw[e,Hv _ _ _ _ _ zO,if_pos rfl];exact hs
 ·rw[show(B.set k s).getD j []=B.getD j []from by rw[List.getD_eq_getElem?_getD,List.getElem?_set_ne (fun h=>e h.symm),← List.getD_eq_getElem?_getD]];exact h j hj
theorem OU {s:Sr}{y:Int}(h:B9 s=true)(hy:0≤y∧y<1000003):B9 (s.set 0 y)=true:=by
 cases s with
 |nil=>rfl
 |cons x s =>
  rw[List.set_cons_zero]
  unfold B9 at h ⊢
  rw[List.all_cons]at h ⊢
  have:=Bool.and_eq_true_iff.1 h
  rw[this.2,Bool.and_true]
  exact Ch.2 hy
theorem HN (h:CB m B)(ho:∀k,k<os.length→(os.getD k 0).toNat<B.length):∀k,k≤os.length→CB m (MX os ws k B)
 |0,_=>h
 |k+1,hk=>by
  have ih:=HN h ho k zO
  have h9:=ih (os.getD k 0).toNat (by rw[Ei];exact ho k zO)
  exact ih.set ⟨by rw[z6];exact h9.1,OU h9.2<|BT _⟩
@[simp] theorem BY {r:Int}{s:Sr}:(DI B r s).length=B.length:=by unfold DI;rw[z6]
theorem CJ {r:Int}{s:Sr}(h:CB m B)(hr:r.toNat<B.length):CB m (DI B r s):=h.set (HC (h _ hr))
theorem HO (k:Nat):(Kx cs R k B).length=B.length:=by
 unfold Kx
 split
 ·rw[BY,BY]
 ·split
  ·rw[BY,BY]
  ·split
   ·rw[BY,BY]
   ·split
    ·rw[BY,BY]
    ·split
     ·rw[BY]
     ·rfl
theorem EZ {ni k:Nat}(h:CB m B)(hk:k≤B.length)(hf:Dj ni k (cs.getD k Aw.zero)):CB m (Kx cs R k B):=by
 have h2:=fun h9=>hf.i2 h9
 have h7:=fun h9=>hf.i7 h9
 unfold Kx
 split
 ·have:=h2 (by omega);exact CJ (CJ h zO) (by rw[BY];omega)
 ·split
  ·have:=h2 (by omega);exact CJ (CJ h zO) (by rw[BY];omega)
  ·split
   ·have:=h2 (by omega);exact CJ (CJ h zO) (by rw[BY];omega)
   ·split
    ·have:=h2 (by omega);exact CJ (CJ h zO) (by rw[BY];omega)
    ·split
     ·have:=h7 (by omega);exact CJ h zO
     ·exact h
theorem O5:∀(n:Nat)(B:List Sr),(Qw cs R n B).length=B.length
 |0,_=>rfl
 |n+1,B=>by show(Qw cs R n _).length=_;rw[O5 n,HO]
theorem O6 {ni:Nat}(hf:∀k,k<cs.length→Dj ni k (cs.getD k Aw.zero)):∀(n:Nat)(B:List Sr),n≤cs.length→n≤B.length→CB m B→CB m (Qw cs R n B)
 |0,_,_,_,h=>h
 |n+1,B,hn,hb,h=>O6 hf n _ zO (by rw[HO];omega) (EZ h zO (hf n zO))
theorem O7 {k:Nat}(h:(cs.getD k Aw.zero).op=3):Kx cs R k B=DI (DI B (cs.getD k Aw.zero).a (B.getD k [])) (cs.getD k Aw.zero).b (B.getD k []):=if_pos h
theorem O8 {k:Nat}(h:(cs.getD k Aw.zero).op=4):Kx cs R k B=DI (DI B (cs.getD k Aw.zero).a (B.getD k [])) (cs.getD k Aw.zero).b (CQ (B.getD k []) 1000002):=by unfold Kx;rw[if_neg zO,if_pos h]
theorem O9 {k:Nat}(h:(cs.getD k Aw.zero).op=5):Kx cs R k B=DI (DI B (cs.getD k Aw.zero).a (Cs (B.getD k []) (R.getD (cs.getD k Aw.zero).b.toNat []))) (cs.getD k Aw.zero).b (Cs (B.getD k []) (R.getD (cs.getD k Aw.zero).a.toNat [])):=by unfold Kx;rw[if_neg zO,if_neg zO,if_pos h]
theorem Oa {k:Nat}(h:(cs.getD k Aw.zero).op=6):Kx cs R k B=DI (DI B (cs.getD k Aw.zero).a (Cm (B.getD k []) (R.getD (cs.getD k Aw.zero).b.toNat []))) (cs.getD k Aw.zero).b (CQ (Cs (Cm (B.getD k []) (R.getD (cs.getD k Aw.zero).b.toNat [])) (R.getD k [])) 1000002):=by
 unfold Kx;rw[if_neg zO,if_neg zO,if_neg zO,if_pos h]
theorem Ob {k:Nat}(h:(cs.getD k Aw.zero).op=7):Kx cs R k B=DI B (cs.getD k Aw.zero).a (CQ (B.getD k []) 1000002):=by unfold Kx;rw[if_neg zO,if_neg zO,if_neg zO,if_neg zO,if_pos h]
theorem Qy {k:Nat}(h:(cs.getD k Aw.zero).op<3∨7<(cs.getD k Aw.zero).op):Kx cs R k B=B:=by unfold Kx;rw[if_neg zO,if_neg zO,if_neg zO,if_neg zO,if_neg (by omega)]
theorem EF {n k:Nat}{D B':List Sr}(h:Qw cs R n B=D)(hn:n=k+1)(hi:Kx cs R k B=B'):Qw cs R k B'=D:=by
 subst hn
 rw[← hi];exact h
end
theorem L6 {e:TypeId}{H:Array Obj}{v:Value}{us:List Value}{F:List Nat}(h:B8 rV e H v us F)(hl:0<us.length):∃g cap,F=[g]∧v=.slice (some ⟨g,0,none⟩) us.length cap∧∀k,k<us.length→Fx H (Ay v k 1)=some (us.getD k undef):=by
 rcases h with⟨_,rfl,_⟩|⟨vs,g,cap,cur,F',hels,rfl,hg,r1,r2,r3,r4,rfl⟩
 ·simp at hl
 ·obtain⟨rfl,rfl⟩:=ES hels
  refine⟨g,cap,rfl,rfl,fun k hk=>?_⟩
  have hu:vs[k]? = some (vs.getD k undef):=by simp[List.getD_eq_getElem?_getD,hk]
  rw[EO]
  simp only[Fx,BR,hg,Nat.zero_add]
  rw[← r4,List.getElem?_take,if_pos hk]at hu
  rw[r4]at hu
  simpa using hu
section
variable {e:TypeId} {B:Nat} {w w':World} {v:Value} {xs:List (List Int)} {us:List Value} {F:List Nat}
theorem Gb.getF {S:List Nat}{H:Array Obj}(h:Gb e S B H v xs us F){k:Nat}(hk:k<xs.length):∃u,Fx H (Ay v k 1)=some u∧RN (S++F) (B4 rI) H u (xs.getD k []):=by
 obtain⟨g,cap,_,_,h3⟩:=L6 h.own (by rw[h.len];omega)
 exact⟨_,h3 k (by rw[h.len];exact hk),h.els k hk⟩
theorem Gb.ofFr {S:List Nat}{e1:TypeId}{U:Nat}{H:Array Obj}(h:Fr (B8 (B8 rI e1) e) B U H v xs)(hS:∀b∈S,b<B):∃us F,Gb e S B H v xs us F∧∀b∈F,b<U:=by
 obtain⟨F,h1,h2,h3⟩:=h
 rcases h1 with⟨rfl,rfl,rfl⟩|⟨us,g,cap,cur,F',hels,rfl,hg,r1,r2,r3,r4,rfl⟩
 ·exact⟨[],[],⟨.inl ⟨rfl,rfl,rfl⟩,zk,(fun b hb=>absurd hb z2),rfl,(fun k hk=>absurd hk (Nat.not_lt_zero k))⟩,(fun b hb=>absurd hb z2)⟩
 ·have hl:=hels.length
  have hn:=List.nodup_cons.1 h2
  refine⟨us,[g],⟨.inr ⟨us,g,cap,cur,[],J2 (hels.cells1 o1),by rw[hl],hg,zO,r2,r3,by rw[hl];exact r4,rfl⟩,by simp,fun b hb=>?_,hl,fun k hk=>?_⟩,fun b hb=>?_⟩
  ·have:=h3 b (by rw[A9 hb];exact z0 ..);omega
  ·obtain⟨u,G,hu,q1,q2,q3,_⟩:=hels.at_ (k:=k) [] hk hn.2
   have e1:us.getD k undef=u:=by simp[List.getD_eq_getElem?_getD,hu]
   rw[e1]
   exact⟨G,q1.rd id,fun b hb hm=>by
    have hb':=q3 b hb
    rcases zi.1 hm with hm|hm
    ·have h8:=hS b hm
     have h9:=(h3 b<|z3 _ hb').1
     omega
    ·rw[A9 hm]at hb'
     exact hn.1 hb'⟩
  ·exact (h3 b (by rw[A9 hb];exact z0 ..)).2
end
section ops
variable {P:Program} {ops:Array Oper} {w0:World} {Q:Act→World→Prop} {os:List Oper} {ks:List Nat} {N:Nat} {ρ:Nat→Value} {w:World}
 {d:Nat} {ty:TypeId} {pos:String} {aft:Array Edge} {g:Option (Nat×Bool)} {t e:TypeId} {z:Value} {b:Nat}
theorem Qz {S:List Nat}{st:TypeId}{x y:Operand}{v u:Value}{xs:List (List Int)}{r:List Int}{us:List Value}{F:List Nat}{B j:Nat}(hst:(P.info? st).map (·.size)=some 1)(hx:Be N ρ x=Ay v j 1)(hy:Be N ρ y=u)
  (hv:Gb e S B w.heap v xs us F) (hr:RN (S++F) (B4 rI) w.heap u r) (hj:j<xs.length) (hu:Up ops N ρ ⟨none,.store st x y,ty,pos,aft,g⟩)
  (h:∀w1,At F w w1→w1.heap.size=w.heap.size→Gb e S B w1.heap v (xs.set j r) (us.set j u) F→LW P ops w0 Q os ks (mk N ρ) w1) :
  LW P ops w0 Q (⟨none,.store st x y,ty,pos,aft,g⟩::os) (4::ks) (mk N ρ) w:=by
 obtain⟨g0,cap,hF,hvv,_⟩:=L6 hv.own (by rw[hv.len];omega)
 have hone:=hr.one1 g1
 obtain⟨w1,F',q1,q2,q3,q4,q5,q6⟩:=KN (P:=P) BB hst hv.own hv.nd (by rw[hv.len];exact hj) (u:=u) (y:=u) (G:=[]) ⟨rfl,rfl,hone.1,hone.2⟩ zk (fun b hb=>by cases hb)
 obtain⟨g2,cap2,hF2,hvv2,_⟩:=L6 q2 (by rw[z6,hv.len];omega)
 have hg:g2=g0:=by
  rw[hvv]at hvv2
  injection hvv2 with h1 _ _
  injection h1 with h1
  injection h1 with h1 _ _
  exact h1.symm
 have hFF:F'=F:=by rw[hF2,hF,hg]
 subst hFF
 have hc:At F' w w1:=q5.sub fun x hx=>zj hx
 refine Mz rfl hu w1 (EP hx hy q1)<|h w1 hc q6 ⟨q2,hv.nd,hv.low,by rw[z6,z6];exact hv.len,fun k hk=>?_⟩
 rw[z6]at hk
 have hku:k<us.length:=by rw[hv.len];exact hk
 rw[Hv _ _ _ _ _ (by rw[hv.len];exact hj),Hv _ _ _ _ _ hj]
 have hcS:At (S++F') w w1:=hc.sub fun b hb=>z1 _ hb
 by_cases ek:k=j
 ·rw[if_pos ek,if_pos ek];exact hr.chg g1 hcS
 ·rw[if_neg ek,if_neg ek]
  exact (hv.els k hk).chg g1 hcS
theorem Sp {st e':TypeId}{x y:Operand}{v u:Value}{n:Int}{xs:List (List Int)}{B T r j:Nat}{F:List Nat}(hst:(P.info? st).map (·.size)=some 1)(hx:Be N ρ x=Ay u j 1)(hy:Be N ρ y=.int .i64 n)(hn:-9223372036854775808≤n∧n≤9223372036854775807)
  (hv:Ow (B8 (B8 rI e) e') B T w.heap v xs F) (hr:r<xs.length) (hl:Fx w.heap (Ay v r 1)=some u) (hj:j<(xs.getD r []).length) (hu:Up ops N ρ ⟨none,.store st x y,ty,pos,aft,g⟩)
  (h:∀w1 G,At G w w1→w1.heap.size=w.heap.size→(∀c∈G,c∈F)→Ow (B8 (B8 rI e) e') B T w1.heap v (xs.set r ((xs.getD r []).set j n)) F→LW P ops w0 Q os ks (mk N ρ) w1) :
  LW P ops w0 Q (⟨none,.store st x y,ty,pos,aft,g⟩::os) (4::ks) (mk N ρ) w:=by
 obtain⟨hown,hnd,hlow,hhigh⟩:=hv
 rcases hown with⟨_,rfl,_⟩|⟨us,g0,cap,cur,F',hels,rfl,hg,r1,r2,r3,r4,rfl⟩
 ·simp at hr
 ·have hc:=List.nodup_cons.1 hnd
  obtain⟨u',G,q0,q1,q2,q3,q4⟩:=hels.at_ (k:=r) [] hr hc.2
  have hlen:=hels.length
  have hu':u'=u:=by
   rw[EO]at hl
   simp only[Fx,BR,hg,Nat.zero_add]at hl
   rw[← r4,List.getElem?_take,if_pos hr]at q0
   have:some u'=some u:=by rw[← q0,← hl];simp
   exact Option.some.inj this
  subst hu'
  obtain⟨w1,p1,p2,p3,p4⟩:=Pf (P:=P) hst q1 q2 hj hn
  have hgG:g0∉G:=fun hm=>hc.1 (q3 g0 hm)
  refine Mz rfl hu w1 (EP hx hy p1)<|h w1 G p3 p4 (fun c hm=>z3 _<|q3 c hm) ⟨.inr ⟨us,g0,cap,cur,F',?_,by rw[z6],?_,by rw[z6];exact r1,r2,r3,by rw[z6];exact r4,rfl⟩,hnd,hlow,hhigh⟩
  ·exact q4 (fun hE hC=>o1.stable hE fun b hb=>p3.block b (o1.lt hE b hb) (hC b hb).2) p2
  ·have hlt:g0<w.heap.size:=(Array.getElem?_eq_some_iff.1 hg).1
   rw[p3.block g0 hlt hgG];exact hg
end ops
section
variable {e1 e:TypeId} {B T:Nat} {w:World} {v:Value} {xs:List (List Int)} {F:List Nat}
theorem Ow.rowO (h:Ow (B8 (B8 rI e1) e) B T w.heap v xs F){k:Nat}(hk:k<xs.length):∃u,Fx w.heap (Ay v k 1)=some u∧Rd (B4 rI) w.heap u (xs.getD k []):=by
 obtain⟨u,G,q0,q1,_⟩:=h.fr.row o1 [] hk
 exact⟨u,q0,G,q1.rd id⟩
theorem Ow.slO {H:Array Obj}(h:Ow (B8 (B8 rI e1) e) B T H v xs F):Ek v xs.length:=(B8.rd id h.own:B4 (B8 rI e1) H v xs F).isSl
theorem Gb.ofOw {S:List Nat}(h:Ow (B8 (B8 rI e1) e) B T w.heap v xs F)(hS:∀b∈S,b<B):∃us F',Gb e S B w.heap v xs us F'∧∀b∈F',b∈F:=by
 obtain⟨h1,h2,h3,h4⟩:=h
 rcases h1 with⟨rfl,rfl,rfl⟩|⟨us,g,cap,cur,F',hels,rfl,hg,r1,r2,r3,r4,rfl⟩
 ·exact⟨[],[],⟨.inl ⟨rfl,rfl,rfl⟩,zk,(fun b hb=>absurd hb z2),rfl,(fun k hk=>absurd hk (Nat.not_lt_zero k))⟩,(fun b hb=>absurd hb z2)⟩
 ·have hl:=hels.length
  have hn:=List.nodup_cons.1 h2
  refine⟨us,[g],⟨.inr ⟨us,g,cap,cur,[],J2 (hels.cells1 o1),by rw[hl],hg,zO,r2,r3,by rw[hl];exact r4,rfl⟩,by simp,fun b hb=>?_,hl,fun k hk=>?_⟩,fun b hb=>?_⟩
  ·exact h3 b (by rw[A9 hb];exact z0 ..)
  ·obtain⟨u,G,hu,q1,q2,q3,_⟩:=hels.at_ (k:=k) [] hk hn.2
   have e1:us.getD k undef=u:=by simp[List.getD_eq_getElem?_getD,hu]
   rw[e1]
   exact⟨G,q1.rd id,fun b hb hm=>by
    have hb':=q3 b hb
    rcases zi.1 hm with hm|hm
    ·have h8:=hS b hm
     have h9:=h3 b<|z3 _ hb'
     omega
    ·rw[A9 hm]at hb'
     exact hn.1 hb'⟩
  ·rw[A9 hb];exact z0 ..
end
theorem QA {R:List Sr}{k:Nat}(hk:k<R.length):L5 (R.take k)++[List.replicate (R.getD k []).length 0]=L5 (R.take (k+1)):=by
 unfold L5
 rw[D6 [] hk,List.map_append];rfl
end
section
def MY (cs:List Aw)(L:List Sr):Nat→List Sr→List Sr
 |0,B=>B
 |k+1,B=>if (cs.getD k Aw.zero).op=1 then DI (MY cs L k B) (cs.getD k Aw.zero).num (L.getD k [])else MY cs L k B
def Ro (ni m:Nat)(cs:List Aw)(L:List Sr):List Sr:=MY cs L cs.length (List.replicate ni (List.replicate m 0))
section
variable {m ni:Nat} {cs:List Aw} {L B:List Sr}
theorem Ky {k:Nat}(h:(cs.getD k Aw.zero).op=1):MY cs L (k+1) B=DI (MY cs L k B) (cs.getD k Aw.zero).num (L.getD k []):=if_pos h
theorem Kz {k:Nat}(h:(cs.getD k Aw.zero).op≠1):MY cs L (k+1) B=MY cs L k B:=if_neg h
@[simp] theorem Gj (k:Nat):(MY cs L k B).length=B.length:=by
 induction k with
 |zero=>rfl
 |succ k ih =>
  by_cases h:(cs.getD k Aw.zero).op=1
  ·rw[Ky h,BY,ih]
  ·rw[Kz h,ih]
theorem L7 (m ni:Nat):CB m (List.replicate ni (List.replicate m 0)):=fun k hk=>by
 rw[z5]at hk
 have e:(List.replicate ni (List.replicate m (0:Int))).getD k []=List.replicate m 0:=by simp[List.getD_eq_getElem?_getD,hk]
 rw[e]
 exact⟨z5,HB _⟩
theorem IU (hf:∀k,k<cs.length→Dj B.length k (cs.getD k Aw.zero))(h:CB m B):∀k,k≤cs.length→CB m (MY cs L k B)
 |0,_=>h
 |k+1,hk=>by
  have ih:=IU hf h k zO
  by_cases h1:(cs.getD k Aw.zero).op=1
  ·rw[Ky h1]
   have:=(hf k zO).i1 h1
   exact CJ ih (by rw[Gj];omega)
  ·rw[Kz h1];exact ih
theorem Sq (hf:∀k,k<cs.length→Dj ni k (cs.getD k Aw.zero)):CB m (Ro ni m cs L):=IU (fun k hk=>by rw[z5];exact hf k hk) (L7 m ni) _ (A7 _)
@[simp] theorem Oc:(Ro ni m cs L).length=ni:=by unfold Ro;rw[Gj,z5]
end
end
section
def Dl (A:List Sr):List Int:=A.map fun s=>s.getD 0 0
section
variable {m:Nat} {A:List Sr} {T:Tp} {xs:List Int}
@[simp] theorem EG:(Dl A).length=A.length:=by simp[Dl]
theorem OV (h:CB m A):MV m (Dl A) A:=⟨EG.symm,fun i hi=>h i (by rw[EG]at hi;exact hi),fun i hi=>by
 rw[EG]at hi
 unfold Dl
 rw[Cy (d:=[]) hi]⟩
theorem Gn.regs (h:Gn m A T):CB m (Bz m A T.code):=fun k hk=>(h.ser k (by rw[BD]at hk;exact hk)).1
theorem Gn.outs (h:Gn m A T)(hE:Ir T xs):∀k,k<xs.length→0≤xs.getD k 0∧xs.getD k 0<((T.code.length:Nat):Int):=fun k hk=>by have:=hE k hk;have:=h.cl;omega
theorem Gn.adj (h:Gn m A T)(hE:Ir T xs){ws:List Int}:CB m (FP T.code (Go.Proofs.YtemfgblmfahllaaGreat.Bz m A T.code) xs ws):=by
 have ho:=h.outs hE
 refine O6 (ni:=A.length) h.form _ _ (A7 _) (by rw[Ei,DR,BD];exact A7 _)<|HN (IT h.regs) (fun q hq=>?_) _<|A7 _
 have:=ho q hq
 rw[DR,BD];omega
theorem HP {cs:List Aw}{R:List Sr}{os ws:List Int}:(FP cs R os ws).length=R.length:=by unfold FP;rw[O5,Ei,DR]
end
end
section
theorem Ct.ext {m:Nat}{a b:Sr}(ha:Ct m a)(hb:Ct m b)(h:∀k,k<m→a.getD k 0=b.getD k 0):a=b:=by
 refine List.ext_getElem (by rw[ha.1,hb.1]) fun k h1 h2=>?_
 have:=h k (by rw[← ha.1];exact h1)
 simpa [List.getD_eq_getElem?_getD,h1,h2]using this
section
variable {m:Nat} {a b c:Sr}
theorem Ss (ha:Ct m a){k:Nat}(hk:k<m):(Cs a b).getD k 0=md (cv (fun i=>a.getD i 0) (fun i=>b.getD i 0) k):=RQ (by rw[ha.1];exact hk)
theorem Od (ha:Ct m a){k:Nat}(hk:k<m):(Ea a b).getD k 0=md (a.getD k 0+b.getD k 0):=by unfold Ea;exact Dd _ (by rw[ha.1];exact hk)
theorem St (ha:Ct m a){y:Int}{k:Nat}(hk:k<m):(CQ a y).getD k 0=md (a.getD k 0*y):=by unfold CQ;exact Dd _ (by rw[ha.1];exact hk)
end
end
section
section
variable {m r N k j:Nat} {A A':List Sr} {T:Tp} {cs:List Aw}
theorem MZ (hk:k≤cs.length)(hj:j<k):(Bz m A (cs.take k)).getD j []=(Bz m A cs).getD j []:=by
 have:=Jj (m:=m) (A:=A) (cs.take k) (cs.drop k) (k:=j) (by rw[List.length_take];omega)
 rw[List.take_append_drop]at this
 exact this.symm
theorem QB (hk:k<cs.length):(Bz m A cs).getD k []=E3 m A (Bz m A (cs.take k)) (cs.getD k Aw.zero):=by
 rw[← MZ (show k+1≤cs.length from hk) (Nat.lt_succ_self k),CP hk,GQ (by rw[BD,List.length_take];omega)]
end
end
section
section
variable {m n k:Nat} {a:List Int} {J0:List (List Int)} {G:List Sr→List Sr} {J:List Sr→List (List Sr)} {L:Nat→Nat→Int} {nx:Nat→List Sr→List Int} {Y:List Sr}
theorem OW {s:Sr}{y:Int}:∀ {k:Nat},B9 s=true→0≤y∧y<1000003→B9 (s.set k y)=true:=fun {k} h hy=>by
 unfold B9 at h ⊢
 rw[zm]at h ⊢
 intro x hx
 rcases List.mem_or_eq_of_mem_set hx with h1|h1
 ·exact h x h1
 ·subst h1;exact Ch.2 hy
end
end
section
section
variable {p:List Fn} {f m r N i j s:Nat} {a:List Int} {A A':List Sr} {xs:List Int} {T:Tp}
structure Su (p:List Fn)(f:Nat)(a:List Int)(xs:List Int)(T:Tp):Prop where
 v:Lv p
 lt:f<p.length
 l:((a.length:Nat):Int)=(p.getD f Fn.zero).params
 n:B9 a=true
 r:∃s,AN (OR p f a) (xs,T) s 0
theorem IV (hA:CB m A)(h:Dl A=a):MV m a A:=by rw[← h];exact OV hA
theorem Su.tp (h:Su p f a xs T)(hm:1≤m)(hA:CB m A)(hf:Dl A=a):Gn m A T∧(Rl p m f A=xs.map fun r=>(Bz m A T.code).getD r.toNat [])∧PU p m f A=0:=by
 obtain⟨s,hs⟩:=h.r
 have h1:=Qt hm h.v h.lt h.n (IV hA hf) h.l hs rfl
 exact⟨h1.1,h1.2,M8 hm h.v h.lt h.n (IV hA hf) h.l hs⟩
theorem Jk (a:List Int):Dl (D9 a)=a:=by
 unfold Dl D9
 rw[List.map_map]
 exact List.map_id'' (fun _=>rfl) a
theorem Su.en (h:Su p f a xs T):xs.length=(p.getD f Fn.zero).outs.length∧Ir T xs:=by
 obtain⟨s,hs⟩:=h.r
 have hT:=Qs (A7 1) h.v h.lt h.n (IV (ED h.n)<|Jk a) h.l
 rw[hs.ok]at hT
 obtain⟨z,h1,h2,h3,h4⟩:=hT
 exact⟨h4.1,fun k hk=>(h4.2.2 k (by rw[h4.1]at hk;exact hk)).1⟩
theorem Sv (a d:List Int):Dl (I1 a d 2)=a:=by
 refine List.ext_getElem (by simp) fun k h1 h2=>?_
 rw[← HA (d:=(0:Int)) h1,← HA (d:=(0:Int)) h2]
 unfold Dl
 rw[Cy (d:=[]) (by rw[DQ];exact h2),VQ h2]
end
end
section
def Tk (m:Nat)(T:Tp)(xs ws:List Int)(A:List Sr):List Sr:=Ro A.length m T.code (FP T.code (Bz m A T.code) xs ws)
section
variable {p:List Fn} {f m m' i:Nat} {a d:List Int} {A A':List Sr} {xs ws:List Int} {T:Tp}
@[simp] theorem Oe:(Tk m T xs ws A).length=A.length:=Oc
end
end
section
structure VT (ni:Nat)(T:Tp)(o:List Int):Prop where
 nb:ni≤12
 cl:T.code.length≤3200
 gl:T.grd.length≤3200
 form:∀k,k<T.code.length→Dj ni k (T.code.getD k Aw.zero)
 gd:∀k,k<T.grd.length→0≤(T.grd.getD k GU.zero).reg∧(T.grd.getD k GU.zero).reg<((T.code.length:Nat):Int)
 ol:1≤o.length∧o.length≤12
 out:∀k,k<o.length→0≤o.getD k 0∧o.getD k 0<((T.code.length:Nat):Int)
theorem VT.pos {ni:Nat}{T:Tp}{o:List Int}(h:VT ni T o):0<T.code.length:=by
 have:=h.out 0 (by have:=h.ol;omega)
 omega
theorem VT.any {ni:Nat}{T:Tp}{o:List Int}(h:VT ni T o):(o.any fun x=>!(decide (0≤x) && decide (x≤((T.code.length:Nat):Int)-1)))=false:=by
 rw[List.any_eq_false]
 intro x hx
 obtain⟨j,hj,rfl⟩:=List.mem_iff_getElem.1 hx
 have h9:=h.out j hj
 rw[List.getD_eq_getElem?_getD,List.getElem?_eq_getElem hj,Option.getD_some]at h9
 rw[A5 h9.1,A5 (show o[j]≤((T.code.length:Nat):Int)-1 by omega)]
 decide
structure JS (a:List Int)(T:Tp)(o:List Int):Prop where
 k:VT a.length T o
 n:B9 a=true
 e:Ir T o
 i:∀d,B9 d=true→Gn 2 (I1 a d 2) T
section
variable {p:List Fn} {f:Nat} {a d xs ws:List Int} {T:Tp} {s:Nat}
theorem Su.tpr (h:Su p f a xs T)(hB:Ia T s)(hs:s≤3000):JS a T xs:=by
 have hi:∀d,B9 d=true→Gn 2 (I1 a d 2) T:=fun d hd=>(h.tp (m:=2) (by decide) (O3 h.n hd) (Sv _ _)).1
 have h0:=hi _<|HB a.length
 obtain⟨b1,b2,b3,b4⟩:=hB
 have hp:=h.v.par f h.lt
 have ho:=h.v.outs f h.lt
 have hl:=h.l
 have he:=h.en
 refine⟨⟨zO,zO,zO,fun k hk=>?_,fun k hk=>?_,by rw[he.1];exact ho,h0.outs he.2⟩,h.n,he.2,hi⟩
 ·have:=h0.form k hk
  rwa [DQ]at this
 ·have:=(h0.gd k hk).1
  omega
theorem Sw {k:Nat}(hk:k<a.length):(I1 a d 2).getD k []=[a.getD k 0,d.getD k 0]:=by rw[MU hk];rfl
theorem JS.reg (h:JS a T xs)(hd:B9 d=true):CB 2 (Bz 2 (I1 a d 2) T.code):=(h.i d hd).regs
theorem JS.adj (h:JS a T xs)(hd:B9 d=true):CB 2 (FP T.code (Bz 2 (I1 a d 2) T.code) xs ws):=(h.i d hd).adj h.e
theorem JS.nz (h:JS a T xs)(hd:B9 d=true):IA 2 (I1 a d 2) T.code T.code.length:=(h.i d hd).nz
end
section ops
variable {P:Program} {ops:Array Oper} {w0:World} {Q:Act→World→Prop} {os:List Oper} {ks:List Nat} {N:Nat} {ρ:Nat→Value} {w:World}
 {d:Nat} {ty:TypeId} {pos:String} {aft:Array Edge} {g:Option (Nat×Bool)} {t e:TypeId} {z:Value} {b:Nat}
theorem Sx {y0 y1:Operand}{u0 u1:Value}{x0 x1:List Int}(ht:P.underlying t=some (.slice e))(hi:TI P e 1 z b)(hz:z.cells=#[z])
  (h0:Be N ρ y0=u0) (h1:Be N ρ y1=u1) (r0:RN [] (B4 rI) w.heap u0 x0) (r1:RN [] (B4 rI) w.heap u1 x1)
  (hu:Up ops N ρ ⟨some d,.buildSlice t 2 #[(0,y0),(1,y1)],ty,pos,aft,g⟩)
  (h:∀v w1,AE w w1→w1.heap.size=w.heap.size+1→RN [] (B4 (B4 rI)) w1.heap v [x0,x1]→CD v→LW P ops w0 Q os ks (mk N (C2 ρ d v)) w1) :
  LW P ops w0 Q (⟨some d,.buildSlice t 2 #[(0,y0),(1,y1)],ty,pos,aft,g⟩::os) (3::ks) (mk N ρ) w:=by
 have c0:=r0.one1 g1
 have c1:=r1.one1 g1
 refine Qo (ys:=[u0,u1]) BB ht hi hz h0 h1 rfl (J2 fun u hu=>?_) hu fun v w1 hE hs hF=>?_
 ·simp only[ze,z2,or_false]at hu
  rcases hu with rfl|rfl
  ·exact c0
  ·exact c1
 ·have hcap:=hF.cap
  obtain⟨F,f1,f2,f3⟩:=hF
  have hB:Gb e [] w.heap.size w1.heap v [x0,x1] [u0,u1] F:=by
   refine⟨f1,f2,fun b hb=>(f3 b hb).1,rfl,fun k hk=>?_⟩
   have key:∀ {v0:Value} {x:List Int},RN [] (B4 rI) w.heap v0 x→RN ([]++F) (B4 rI) w1.heap v0 x:=by
    rintro v0 x ⟨K,k1,k2⟩
    have hlt:=g1.lt k1
    exact⟨K,g1.stable k1 fun c hc=>hE.heap (hlt c hc),fun c hc hm=>by have:=hlt c hc;have:=f3 c (by simpa using hm);omega⟩
   match k with
   |0=>exact key r0
   |1=>exact key r1
   |k+2=>simp at hk;omega
  exact h v w1 hE hs (hB.done fun b hb=>absurd hb z2) hcap
end ops
end
section
def UL:Bf (List Int):=fun H v xs F=>∃g,v=.map (some g)∧F=[g]∧JU H g xs
theorem M9:BF UL where
 cells:=by rintro H v xs F ⟨g,rfl,_⟩;rfl
 one:=by rintro H v xs F ⟨g,rfl,_⟩;rfl
 lt:=by
  rintro H v xs F ⟨g,rfl,rfl,h⟩ b hb
  rw[A9 hb];exact h.lt
 stable:=by
  rintro H H' v xs F ⟨g,rfl,rfl,h⟩ hb
  obtain⟨es,k,h1,h2⟩:=h
  exact⟨g,rfl,rfl,es,k,by rw[hb g (by simp)];exact h1,h2⟩
def UM (g:Nat)(es:Array MapEntry)(ck:Nat):Bf (List Int×Nat):=fun H v x F =>
 ∃r since seen c0,v=.pointer (some ⟨r,0,none⟩)∧F=[r]∧(∀e∈es.toList,e.born<since)∧since≤c0∧c0≤ck∧H[r]? = some (.mapIter (some g) since seen c0)∧(leftOf es seen).size=x.2∧(∀y,y∈x.1↔∃e∈es.toList,e.key=.int .i64 y∧seen.contains e.born=true)
theorem HQ {g:Nat}{es:Array MapEntry}{ck:Nat}:BF (UM g es ck) where
 cells:=by rintro H v xs F ⟨r,s,q,c,rfl,_⟩;rfl
 one:=by rintro H v xs F ⟨r,s,q,c,rfl,_⟩;rfl
 lt:=by
  rintro H v xs F ⟨r,s,q,c,rfl,rfl,h1,h2,h3,h,_⟩ b hb
  rw[A9 hb];exact getElem?_lt h
 stable:=by
  rintro H H' v xs F ⟨r,s,q,c,rfl,rfl,h1,h2,h3,h4,h5⟩ hb
  exact⟨r,s,q,c,rfl,rfl,h1,h2,h3,by rw[hb r (by simp)];exact h4,h5⟩
def Rp (H:Array Obj)(g:Nat)(es:Array MapEntry)(ck:Nat)(xs:List Int):Prop:=H[g]? = some (.map es ck)∧es.toList.map (·.key)=xs.map (Value.int .i64)∧(∀x∈es.toList,x.born<ck)∧(es.toList.map (·.born)).Nodup∧(∀x∈xs,Bn x)
theorem UN {H:Array Obj}{v:Value}{xs:List Int}(h:Rd UL H v xs):∃g es ck,v=.map (some g)∧g<H.size∧Rp H g es ck xs:=by
 obtain⟨F,g,rfl,rfl,es,ck,h1,h2⟩:=h
 exact⟨g,es,ck,rfl,getElem?_lt h1,h1,h2⟩
theorem UO {H:Array Obj}{B U:Nat}{v:Value}{xs:List Int}(h:Fr UL B U H v xs):∃g es ck,v=.map (some g)∧g<H.size∧Rp H g es ck xs:=by
 obtain⟨F,h,_⟩:=h
 exact UN ⟨F,h⟩
theorem Rp.ext {w w':World}{g:Nat}{es:Array MapEntry}{ck:Nat}{xs:List Int}(h:Rp w.heap g es ck xs)(k:AE w w'):Rp w'.heap g es ck xs:=⟨by rw[k.heap (getElem?_lt h.1)];exact h.1,h.2⟩
def Y9 (b:Bool)(x v:Value):List Value:=if b=true then [.bool true,x,v]else [.bool false]
theorem VU (b:Bool)(x v:Value):(Y9 b x v)[0]? = some (.bool b):=by cases b <;> rfl
def Yu (H:Array Obj)(g:Nat)(es:Array MapEntry)(ck:Nat)(x:Int)(it val:Value):Prop:=∃r since seen e,it=.pointer (some ⟨r,0,none⟩)∧e∈es.toList∧e.key=.int .i64 x∧e.val=val∧H[r]? = some (.mapIter (some g) since (Array.push seen e.born) ck)
section ops
variable {P:Program} {ops:Array Oper} {w0:World} {Q:Act→World→Prop} {os:List Oper} {ks:List Nat} {N:Nat} {ρ:Nat→Value} {w:World}
 {d:Nat} {ty:TypeId} {pos:String} {aft:Array Edge} {gd:Option (Nat×Bool)} {t k e:TypeId} {B U g n ck:Nat} {xs ys:List Int} {a:Int} {v:Value} {es:Array MapEntry}
theorem Sy {x y z:Operand}(ht:P.underlying t=some (.map k e))(hk:P.underlying k=some (.int .i64))(hx:Be N ρ x=v)(hy:Be N ρ y=.int .i64 a)(hm:Fr UL B U w.heap v xs)(ha:Bn a)
  (hu:Up ops N ρ ⟨none,.mapUpdate t x y z,ty,pos,aft,gd⟩)
  (h:∀w1 F,At F w w1→w1.heap.size=w.heap.size→(∀c∈F,B≤c∧c<U)→Fr UL B U w1.heap v (Iv a xs)→LW P ops w0 Q os ks (mk N ρ) w1) :
  LW P ops w0 Q (⟨none,.mapUpdate t x y z,ty,pos,aft,gd⟩::os) (4::ks) (mk N ρ) w:=by
 obtain⟨F,⟨g,rfl,rfl,hM⟩,hn,hb⟩:=hm
 exact U7 ht hk hx hy hM ha hu fun w1 h1 h2 h3=>h w1 [g] h1 h2 hb ⟨[g],⟨g,rfl,rfl,h3⟩,hn,hb⟩
theorem UP (hu:Up ops N ρ ⟨some d,.makeMap t none,ty,pos,aft,gd⟩)
  (h:∀v w1,AE w w1→w1.heap.size=w.heap.size+1→Fr UL w.heap.size w1.heap.size w1.heap v []→LW P ops w0 Q os ks (mk N (C2 ρ d v)) w1) :
  LW P ops w0 Q (⟨some d,.makeMap t none,ty,pos,aft,gd⟩::os) (3::ks) (mk N ρ) w :=
 Vo hu fun w1 h1 h2 h3=>h _ w1 h1 h2 ⟨[w.heap.size],⟨_,rfl,rfl,h3⟩,by simp,fun b hb=>by rw[A9 hb];omega⟩
theorem QC {x:Operand}(ht:P.underlying t=some (.map k e))(hx:Be N ρ x=.map (some g))(hm:Rp w.heap g es ck xs)(hu:Up ops N ρ ⟨some d,.range t x,ty,pos,aft,gd⟩)
  (h:∀vit w1 n,AE w w1→w1.heap.size=w.heap.size+1→Fr (UM g es ck) w.heap.size w1.heap.size w1.heap vit ([],n)→n≤xs.length→LW P ops w0 Q os ks (mk N (C2 ρ d vit)) w1) :
  LW P ops w0 Q (⟨some d,.range t x,ty,pos,aft,gd⟩::os) (3::ks) (mk N ρ) w:=by
 refine Po ht hx ⟨es,ck,hm.1,hm.2⟩ hu fun w1 n h1 h2 h3=>?_
 obtain⟨es',ck',since,seen,c0,q1,q2,q3,q4,q4',q5,q6,q7,q8,q9⟩:=h3
 have hE:=(hm.ext h1).1
 rw[hE]at q1
 injection q1 with q1
 injection q1 with q1a q1b
 subst q1a;subst q1b
 exact h _ w1 n h1 h2 ⟨[w.heap.size],⟨_,since,seen,c0,rfl,rfl,q3,q4,q4',q7,q8,q9⟩,by simp,fun b hb=>by rw[A9 hb];omega⟩ (by
  have hl:es.size=xs.length:=by have:=congrArg List.length hm.2.1;simpa using this
  have:(leftOf es seen).size≤es.size:=by unfold leftOf;exact Array.size_filter_le ..
  omega)
theorem Sz {x:Operand}{F:List Nat}(hx:Be N ρ x=v)(hi:UM g es ck w.heap v (ys,n) F)(hm:Rp w.heap g es ck xs)(hgF:g∉F)(hu:Up ops N ρ ⟨some d,.next x false,ty,pos,aft,gd⟩)
  (h:∀(b:Bool) (y:Int) val w1 m,At F w w1→w1.heap.size=w.heap.size→Bn y→UM g es ck w1.heap v (if b=true then ys++[y]else ys,m) F→(b=true→m<n∧Yu w1.heap g es ck y v val)→(b=false→∀x,x∈ys↔x∈xs) →
   LW P ops w0 Q os ks (mk N (C2 ρ d (.tuple (Y9 b (.int .i64 y) val).toArray))) w1) :
  LW P ops w0 Q (⟨some d,.next x false,ty,pos,aft,gd⟩::os) (4::ks) (mk N ρ) w:=by
 obtain⟨r,since,seen,c0,rfl,rfl,q3,q4,q4',q7,q8,q9⟩:=hi
 have hgr:g≠r:=by simpa using hgF
 have hI:Pm w.heap r g xs ys n:=⟨es,ck,since,seen,c0,hm.1,hm.2.1,q3,q4,q4',hm.2.2.2.1,hm.2.2.2.2,q7,q8,q9⟩
 refine Ry hx hI hgr hu (fun h0=>?_) fun y val w1 m c1 c2 c3 c4 c5 c6 c7=>?_
 ·exact h false 0 (.bool false) w n (At.refl [r] w) rfl (by unfold Bn;omega) ⟨r,since,seen,c0,rfl,rfl,q3,q4,q4',q7,q8,q9⟩ (fun h=>by cases h) fun _=>h0
 ·have hg1:w1.heap[g]? = some (.map es ck):=by rw[c1.block g (getElem?_lt hm.1) (by simpa using hgr)];exact hm.1
  obtain⟨es',ck',since',seen',c0',p1,p2,p3,p4,p4',p5,p6,p7,p8,p9⟩:=c6
  rw[hg1]at p1
  injection p1 with p1
  injection p1 with p1a p1b
  subst p1a;subst p1b
  obtain⟨es',ck',since'',seen'',e',s1,s2,s3,s4,s5,s6⟩:=c7
  rw[hg1]at s1
  injection s1 with s1
  injection s1 with s1a s1b
  subst s1a;subst s1b
  exact h true y val w1 m c1 c2 c4 ⟨r,since',seen',c0',rfl,rfl,p3,p4,p4',p7,p8,p9⟩ (fun _=>⟨c5,r,since'',seen'',e',rfl,s3,s4,s5,s6⟩) fun h=>by cases h
theorem QD {x:Operand}{y:Int}{val:Value}(hx:Be N ρ x=v)(hi:Yu w.heap g es ck y v val)(hm:Rp w.heap g es ck xs)(hu:Up ops N ρ ⟨some d,.entry x,ty,pos,aft,gd⟩)
  (h:LW P ops w0 Q os ks (mk N (C2 ρ d (.tuple #[.int .i64 y,val]))) w):LW P ops w0 Q (⟨some d,.entry x,ty,pos,aft,gd⟩::os) (4::ks) (mk N ρ) w:=by
 obtain⟨r,since,seen,e,rfl,h1,h2,h3,h4⟩:=hi
 exact Pp hx ⟨es,ck,since,seen,e,hm.1,hm.2.2.2.1,h1,h2,h3,h4⟩ hu h
end ops
def Rq (vit:Value)(g:Nat)(es:Array MapEntry)(ck:Nat)(e:TypeId):Bf (List Int×List Int×Nat):=fun H v x F=>∃F1 F2,F=F1++F2∧B8 rI e H v x.1 F1∧UM g es ck H vit x.2 F2
theorem Jl {vit:Value}{g:Nat}{es:Array MapEntry}{ck:Nat}{e:TypeId}:BF (Rq vit g es ck e) where
 cells:=fun⟨_,_,_,h,_⟩=>(AY AI).cells h
 one:=fun⟨_,_,_,h,_⟩=>(AY AI).one h
 lt:=by
  rintro H v x F ⟨F1,F2,rfl,h1,h2⟩ b hb
  rcases zi.1 hb with hb|hb
  ·exact (AY AI).lt h1 b hb
  ·exact HQ.lt h2 b hb
 stable:=by
  rintro H H' v x F ⟨F1,F2,rfl,h1,h2⟩ hb
  exact⟨F1,F2,rfl,(AY AI).stable h1 fun b h=>hb b (z8 _ h),HQ.stable h2 fun b h=>hb b (z1 _ h)⟩
section Rq
variable {P:Program} {ops:Array Oper} {w0:World} {Q:Act→World→Prop} {os:List Oper} {ks:List Nat} {N:Nat} {ρ:Nat→Value} {w:World}
 {d:Nat} {ty:TypeId} {pos:String} {aft:Array Edge} {gd:Option (Nat×Bool)} {t e:TypeId} {z:Value} {b:Nat} {B U B' U' g n ck:Nat} {xs ys zsq:List Int} {v vit:Value} {es:Array MapEntry}
theorem UQ {H:Array Obj}{x:List Int×Nat}(h:Fr (B8 rI e) B U H v zsq)(hi:Fr (UM g es ck) B' U' H vit x)(h1:U≤B')(h2:B≤B')(h3:B'≤U'):Fr (Rq vit g es ck e) B U' H v (zsq,x):=by
 obtain⟨F1,a1,a2,a3⟩:=h
 obtain⟨F2,b1,b2,b3⟩:=hi
 refine⟨F1++F2,⟨F1,F2,rfl,a1,b1⟩,List.nodup_append.2 ⟨a2,b2,fun x hx y hy e=>?_⟩,fun c hc=>?_⟩
 ·have:=a3 x hx;have:=b3 y hy;omega
 ·rcases zi.1 hc with hc|hc
  ·have:=a3 c hc;omega
  ·have:=b3 c hc;omega
theorem UR {H:Array Obj}{x:List Int×Nat}(h:Fr (Rq vit g es ck e) B U H v (zsq,x)):Fr (B8 rI e) B U H v zsq:=by
 obtain⟨F,⟨F1,F2,rfl,h1,h2⟩,h3,h4⟩:=h
 exact⟨F1,h1,(List.nodup_append.1 h3).1,fun c hc=>h4 c (z8 _ hc)⟩
theorem SA {x:Operand}(hx:Be N ρ x=vit)(hi:Fr (Rq vit g es ck e) B U w.heap v (zsq,ys,n))(hm:Rp w.heap g es ck xs)(hgB:g<B)(hu:Up ops N ρ ⟨some d,.next x false,ty,pos,aft,gd⟩)
  (h:∀(b:Bool) (y:Int) val w1 m F,At F w w1→w1.heap.size=w.heap.size→(∀c∈F,B≤c∧c<U)→Bn y→Fr (Rq vit g es ck e) B U w1.heap v (zsq,if b=true then ys++[y]else ys,m)→(b=true→m<n∧Yu w1.heap g es ck y vit val)→(b=false→∀x,x∈ys↔x∈xs) →
   LW P ops w0 Q os ks (mk N (C2 ρ d (.tuple (Y9 b (.int .i64 y) val).toArray))) w1) :
  LW P ops w0 Q (⟨some d,.next x false,ty,pos,aft,gd⟩::os) (4::ks) (mk N ρ) w:=by
 obtain⟨F,⟨F1,F2,rfl,h1,h2⟩,h3,h4⟩:=hi
 have hd:=List.nodup_append.1 h3
 refine Sz hx h2 hm (fun hg=>by have:=h4 g (z1 _ hg);omega) hu fun b y val w1 m c1 c2 c3 c4 c5 c6=>?_
 exact h b y val w1 m F2 c1 c2 (fun c hc=>h4 c<|z1 _ hc) c3 ⟨F1++F2,⟨F1,F2,rfl,(AY AI).stable h1 fun c hc=>c1.block c ((AY AI).lt h1 c hc) fun hc2=>hd.2.2 c hc c hc2 rfl,c4⟩,h3,h4⟩ c5 c6
theorem US {x y:Operand}{a:Value}{qs:List Int}(ht:P.underlying t=some (.slice e))(hi:TI P e 1 z b)(hz:z.cells=#[z])(hx:Be N ρ x=v)(hy:Be N ρ y=a)(hv:Fr (Rq vit g es ck e) B U w.heap v (zsq,ys,n))
  (ha:Fr (B8 rI e) B' U' w.heap a qs) (hB:B≤w.heap.size) (hbytes:(zsq.length+qs.length)*b≤140737488355328) (hmx:zsq.length+qs.length≤maxLen) (hu:Up ops N ρ ⟨some d,.call ⟨.builtin .append,#[x,y],#[t,t]⟩,ty,pos,aft,gd⟩)
  (h:∀v1 w1 F,At F w w1→(∀c∈F,B≤c∧c<U)→Fr (Rq vit g es ck e) B w1.heap.size w1.heap v1 (zsq++qs,ys,n)→LW P ops w0 Q os ks (mk N (C2 ρ d v1)) w1) :
  LW P ops w0 Q (⟨some d,.call ⟨.builtin .append,#[x,y],#[t,t]⟩,ty,pos,aft,gd⟩::os) (4::ks) (mk N ρ) w:=by
 obtain⟨F,⟨F1,F2,rfl,h1,h2⟩,h3,h4⟩:=hv
 have hd:=List.nodup_append.1 h3
 obtain⟨G,g1',g2',g3'⟩:=ha
 have hG1:G.drop 1=[]:=by
  rcases g1' with⟨_,_,rfl⟩|⟨vs,gb,cap,cur,F',hels,_,_,_,_,_,_,rfl⟩
  ·rfl
  ·rw[EQ hels];rfl
 obtain⟨v',w',F',r1,r2,r3,r4,r5⟩:=Ga (P:=P) (ty:=ty) AI ht hi hz h1 hd.1 (g1'.rd id) rfl hbytes hmx (by rw[hG1];intro c hc;cases hc) (by rw[hG1];exact zk)
 rw[hG1]at r4
 have hF':∀c∈F',c∈F1∨w.heap.size≤c:=fun c hc=>by
  rcases r4 c hc with hh|hh|hh
  ·exact .inl hh
  ·cases hh
  ·exact .inr zO
 have hlt2:=fun c hc=>HQ.lt h2 c hc
 have hI:UM g es ck w'.heap vit (ys,n) F2:=HQ.stable h2 fun c hc=>r5.block c (hlt2 c hc) fun hm=>hd.2.2 c (zj hm) c hc rfl
 refine Hp rfl hu v' w' (by simp only[execOp,resolve,invoke,builtin,zc,zf,zh,Sem.run_bind,Sem.run_pure,Result.andThen_ok,hx,hy,r1])<|h v' w' _ r5 (fun c hc=>h4 c<|z8 _<|zj hc) ⟨F'++F2,⟨F',F2,rfl,r2,hI⟩,List.nodup_append.2 ⟨r3,hd.2.1,fun c hc c' hc' e=>?_⟩,fun c hc=>?_⟩
 ·subst e
  rcases hF' c hc with hh|hh
  ·exact hd.2.2 c hh c hc' rfl
  ·have:=hlt2 c hc';omega
 ·rcases zi.1 hc with hc|hc
  ·refine⟨?_,(AY AI).lt r2 c hc⟩
   rcases hF' c hc with hh|hh
   ·exact (h4 c<|z8 _ hh).1
   ·omega
  ·exact⟨(h4 c (z1 _ hc)).1,by have:=hlt2 c hc;have:=r5.size;omega⟩
end Rq
end
section
theorem oB {e:TypeId}:BF (B8 rB e):=AY KK
theorem Rd.getB {H:Array Obj}{v:Value}{xs:List Bool}{k:Nat}(h:Rd (B4 rB) H v xs)(hk:k<xs.length):Fx H (Ay v k 1)=some (.bool (xs.getD k false)):=by
 obtain⟨u,h1,F,h2,_⟩:=Rd.get false h hk
 rw[h1,h2]
theorem Fr.rdB {e:TypeId}{B U:Nat}{H:Array Obj}{v:Value}{xs:List Bool}(h:Fr (B8 rB e) B U H v xs):Rd (B4 rB) H v xs:=h.rd id
theorem Fr.getB {e:TypeId}{B U:Nat}{H:Array Obj}{v:Value}{xs:List Bool}{k:Nat}(h:Fr (B8 rB e) B U H v xs)(hk:k<xs.length):Fx H (Ay v k 1)=some (.bool (xs.getD k false)):=h.rdB.getB hk
section ops
variable {P:Program} {ops:Array Oper} {w0:World} {Q:Act→World→Prop} {os:List Oper} {ks:List Nat} {N:Nat} {ρ:Nat→Value} {w:World}
 {d:Nat} {ty:TypeId} {pos:String} {aft:Array Edge} {g:Option (Nat×Bool)} {t e:TypeId} {z:Value} {b:Nat}
theorem SB {x y:Operand}{n:Nat}{c:Int}(ht:P.underlying t=some (.slice e))(hi:TI P e 1 (.bool false) 1)(hx:Be N ρ x=.int .i64 c)(hy:Be N ρ y=.int .i64 c)(hc:c=(n:Int))(hn:n≤35184372088832)
  (hu:Up ops N ρ ⟨some d,.makeSlice t x y,ty,pos,aft,g⟩)
  (h:∀v w1,AE w w1→w1.heap.size=w.heap.size+1→Fr (B8 rB e) w.heap.size w1.heap.size w1.heap v (List.replicate n false)→LW P ops w0 Q os ks (mk N (C2 ρ d v)) w1) :
  LW P ops w0 Q (⟨some d,.makeSlice t x y,ty,pos,aft,g⟩::os) (3::ks) (mk N ρ) w:=by
 subst hc
 obtain⟨i,h1,h2,h3,h4⟩:=hi.get
 have hr:=run_make (P:=P) w t e i _ ht h1 h2 .i64 .i64 n n zO zO (by rw[h4];omega) zO
 have hrun:(execOp (Be N ρ) ⟨some d,.makeSlice t x y,ty,pos,aft,g⟩).run P w=.ok (.value (.slice (some ⟨w.heap.size,0,none⟩) n n)) (w.alloc (.cells (madeCells (Value.bool false).cells ((n:Int).toNat*i.size)) e)):=by
  simp only[execOp,Sem.run_bind,hx,hy,hr,Result.andThen_ok,Sem.run_pure,Int.toNat_natCast]
 refine Ho rfl hu _ _ hrun (Bh _ _)<|h _ _ (Bh _ _) (by simp) ?_
 have hels:∀n,els rB w.heap (List.replicate n (.bool false)) (List.replicate n false) []:=by
  intro n
  induction n with
  |zero=>rfl
  |succ n ih=>exact⟨[],[],rfl,⟨rfl,rfl⟩,ih⟩
 have hmc:(madeCells (Value.bool false).cells ((n:Int).toNat*i.size)).toList=List.replicate n (.bool false):=by
  rw[h3]
  simp only[Int.toNat_natCast,Nat.mul_one,madeCells,Value.cells]
  apply List.ext_getElem
  ·simp
  ·intro j q1 q2
   simp[Nat.mod_one]
 have hcs:(madeCells (Value.bool false).cells ((n:Int).toNat*i.size)).size=n:=by rw[size_madeCells,h3];simp
 have hn':=Ee (e:=e) (w:=w) KK (us:=List.replicate n (.bool false)) (xs:=List.replicate n false) (F:=[]) (cur:=madeCells (Value.bool false).cells ((n:Int).toNat*i.size)) (hels n) (by rw[hcs];simp only[maxLen];omega)
  (by rw[hmc,z5];exact za (by simp)) (by rw[hcs];simp)
 rw[hcs]at hn'
 simp only[z5]at hn'
 refine⟨_,by simpa using hn',by simp,fun c hc=>?_⟩
 simp at hc
 subst hc
 simp
theorem N0 {st:TypeId}{x y:Operand}{v:Value}{n:Bool}{xs:List Bool}{B U j:Nat}(hst:(P.info? st).map (·.size)=some 1)(hx:Be N ρ x=Ay v j 1)(hy:Be N ρ y=.bool n)
  (hv:Fr (B8 rB e) B U w.heap v xs) (hj:j<xs.length) (hu:Up ops N ρ ⟨none,.store st x y,ty,pos,aft,g⟩)
  (h:∀w1 F,At F w w1→w1.heap.size=w.heap.size→(∀c∈F,B≤c∧c<U)→Fr (B8 rB e) B U w1.heap v (xs.set j n)→LW P ops w0 Q os ks (mk N ρ) w1) :
  LW P ops w0 Q (⟨none,.store st x y,ty,pos,aft,g⟩::os) (4::ks) (mk N ρ) w:=by
 obtain⟨F,h1,h2,h3⟩:=hv
 obtain⟨w1,F',p1,p2,p3,p4,p5,p6⟩:=KN (P:=P) KK hst h1 h2 hj (u:=.bool n) (y:=n) (G:=[]) ⟨rfl,rfl⟩ zk (fun b hb=>by cases hb)
 have hrun:(execOp (Be N ρ) ⟨none,.store st x y,ty,pos,aft,g⟩).run P w=.ok .skip w1:=by
  simp only[execOp,hx,hy,Sem.run_bind,p1,Result.andThen_ok,Sem.run_pure]
 exact Mz rfl hu _ hrun<|h _ _ p5 p6 (fun c hc=>h3 c<|zj hc) ⟨F',p2,p3,fun c hc=>(p4 c hc).elim (fun hh=>h3 c hh) fun hh=>by cases hh⟩
end ops
end
section
open Classical in
noncomputable def GA (d:List Int)(cs:List Aw):Int:=if IA 1 (D9 d) cs cs.length then 0 else 6
theorem L8 {d:List Int}{cs:List Aw}{c:Int}(h:MW 1 (D9 d) cs c):c=GA d cs:=by
 unfold GA
 rcases h with⟨h1,h2⟩|⟨h1,h2⟩
 ·rw[if_pos h2,h1]
 ·rw[if_neg h2,h1]
noncomputable def Vh (d:List Int)(cs:List Aw):List Int:=if GA d cs=0 then Dl (Bz 1 (D9 d) cs)else []
theorem Ma {d:List Int}{cs:List Aw}(h:GA d cs=0):Vh d cs=Dl (Bz 1 (D9 d) cs):=if_pos h
theorem Tl {d:List Int}{cs:List Aw}(h:GA d cs≠0):Vh d cs=[]:=if_neg h
theorem KA {m:Nat}{A:List Sr}{cs:List Aw}(hA:CB m A)(hf:∀k,k<cs.length→Dj A.length k (cs.getD k Aw.zero)):∀k,k≤cs.length→CB m (Bz m A (cs.take k))
 |0,_=>by intro j hj;simp[Bz]at hj
 |k+1,hk=>O4 (KA hA hf k zO) hA (hf k zO) zO
theorem OX {m:Nat}{A:List Sr}{cs:List Aw}(hA:CB m A)(hf:∀k,k<cs.length→Dj A.length k (cs.getD k Aw.zero)):CB m (Bz m A cs):=by
 have:=KA hA hf cs.length (A7 _)
 rwa [List.take_length]at this
def UT (L:List Int)(ps:List Int):List Int:=ps.map fun k=>L.getD k.toNat 0
noncomputable def QE (d:List Int)(cs:List Aw)(o:List Int):List Int:=if GA d cs=0 then UT (Vh d cs) o else []
theorem Mb {d:List Int}{cs:List Aw}{o:List Int}(h:GA d cs=0):QE d cs o=UT (Vh d cs) o:=if_pos h
theorem Tm {d:List Int}{cs:List Aw}{o:List Int}(h:GA d cs≠0):QE d cs o=[]:=if_neg h
theorem SD {d:List Int}{cs:List Aw}(h:GA d cs=0):(Vh d cs).length=cs.length:=by rw[Ma h];unfold Dl;rw[zg,BD]
end
section
def Bv (c:Aw):List Int:=if 3≤c.op∧c.op≤6 then [c.a,c.b]else if c.op=7 then [c.a]else []
section
variable {e:TypeId} {B U:Nat} {H:Array Obj} {v:Value} {c:Aw} {l:List Int}
theorem N1 (h:(decide (((3:Nat):Int)≤c.op) && decide (c.op≤((6:Nat):Int)))=true)(hf:Fr (B8 rI e) B U H v [c.a,c.b]):Fr (B8 rI e) B U H v (Bv c):=by
 simp only[z7,decide_eq_true_eq]at h
 unfold Bv;rw[if_pos (by omega)];exact hf
theorem N3 (h:(decide (((3:Nat):Int)≤c.op) && decide (c.op≤((6:Nat):Int)))=false)(h7:c.op=((7:Nat):Int))(hf:Fr (B8 rI e) B U H v [c.a]):Fr (B8 rI e) B U H v (Bv c):=by
 unfold Bv;rw[if_neg zO,if_pos (by omega)];exact hf
theorem N4 (h:(decide (((3:Nat):Int)≤c.op) && decide (c.op≤((6:Nat):Int)))=false)(h7:¬c.op=((7:Nat):Int))(hf:Fr (B8 rI e) B U H v []):Fr (B8 rI e) B U H v (Bv c):=by
 simp only[Bool.and_eq_false_iff,decide_eq_false_iff_not]at h
 unfold Bv;rw[if_neg zO,if_neg (by omega)];exact hf
end
def JT (k:Nat)(l:List Bool)(rs:List Int):List Bool:=rs.foldl (fun l r=>l.set r.toNat (l.getD r.toNat false || l.getD k false)) l
def Mw (n:Nat)(rs:List Int):List Bool:=rs.foldl (fun l r=>l.set r.toNat true) (List.replicate n false)
def KB (cs:List Aw)(l:List Bool):Nat→List Bool
 |0=>l
 |j+1=>JT (cs.length-1-j) (KB cs l j) (Bv (cs.getD (cs.length-1-j) Aw.zero))
def Fz (cs:List Aw)(rs:List Int):List Bool:=KB cs (Mw cs.length rs) cs.length
theorem L9 (k:Nat):∀(rs:List Int)(l:List Bool),(JT k l rs).length=l.length
 |[],l=>rfl
 |r::rs,l=>by
  show(JT k (l.set r.toNat _) rs).length=_
  rw[L9 k rs];simp
theorem Gk (n:Nat)(rs:List Int):(Mw n rs).length=n:=by
 have:∀(rs:List Int) (l:List Bool),(rs.foldl (fun l r=>l.set r.toNat true) l).length=l.length:=by
  intro rs
  induction rs with
  |nil=>intro l;rfl
  |cons r rs ih=>intro l;rw[List.foldl_cons,ih];simp
 unfold Mw;rw[this];simp
theorem HR (cs:List Aw)(l:List Bool):∀j,(KB cs l j).length=l.length
 |0=>rfl
 |j+1=>by unfold KB;rw[L9,HR cs l j]
theorem Jm {α β:Type}(f:β→α→β)(b:β){l:List α}{k:Nat}(d:α)(h:k<l.length):(l.take (k+1)).foldl f b=f ((l.take k).foldl f b) (l.getD k d):=by
 rw[D6 d h,List.foldl_append];rfl
theorem QF {n k:Nat}{rs:List Int}(h:k<rs.length):Mw n (rs.take (k+1))=(Mw n (rs.take k)).set (rs.getD k 0).toNat true:=Jm _ _ 0 h
theorem Mc {k i:Nat}{l:List Bool}{rs:List Int}(h:i<rs.length):JT k l (rs.take (i+1))=(JT k l (rs.take i)).set (rs.getD i 0).toNat ((JT k l (rs.take i)).getD (rs.getD i 0).toNat false || (JT k l (rs.take i)).getD k false):=Jm _ _ 0 h
theorem Jn {k i:Nat}{l:List Bool}{rs:List Int}(h:i<rs.length)(hb:(JT k l (rs.take i)).getD (rs.getD i 0).toNat false=false):JT k l (rs.take (i+1))=(JT k l (rs.take i)).set (rs.getD i 0).toNat ((JT k l (rs.take i)).getD k false):=by rw[Mc h,hb,Bool.false_or]
theorem Jo {k i:Nat}{l:List Bool}{rs:List Int}(h:i<rs.length)(hb:(JT k l (rs.take i)).getD (rs.getD i 0).toNat false=true):JT k l (rs.take (i+1))=(JT k l (rs.take i)).set (rs.getD i 0).toNat true:=by rw[Mc h,hb,Bool.true_or]
theorem Md (c:Aw):(Bv c).length≤2:=by unfold Bv;split <;> (try split) <;> simp
theorem Of {n k:Nat}{c:Aw}(h:Dj n k c):∀i,i<(Bv c).length→0≤(Bv c).getD i 0∧(Bv c).getD i 0<((k:Nat):Int):=by
 intro i hi
 unfold Dj at h
 unfold Bv at hi ⊢
 split at hi
 ·rename_i h1
  rw[if_pos h1]
  match i,hi with
  |0,_=>show 0≤c.a∧c.a<_;omega
  |1,_=>show 0≤c.b∧c.b<_;omega
 ·rename_i h1
  rw[if_neg h1]
  split at hi
  ·rename_i h2
   rw[if_pos h2]
   match i,hi with
   |0,_=>show 0≤c.a∧c.a<_;omega
  ·simp at hi
end
section
theorem Yw {l:List Int}{i:Nat}(h:i<l.length):l.getD i 0=l[i]:=by simp[h]
theorem GY (l:List Bool)(i m:Nat)(b:Bool)(hi:i<l.length):(l.set i b).getD m false=if i=m then b else l.getD m false:=by
 rw[List.getD_eq_getElem?_getD,List.getElem?_set]
 by_cases e:i=m
 ·subst e;rw[if_pos rfl,if_pos rfl];simp[hi]
 ·rw[if_neg e,if_neg e,List.getD_eq_getElem?_getD]
theorem Og {k:Nat}:∀(rs:List Int)(l:List Bool),(∀i,i<rs.length→(rs.getD i 0).toNat<l.length∧(rs.getD i 0).toNat≠k)→∀m,(JT k l rs).getD m false=(l.getD m false || (l.getD k false && rs.any fun r=>decide (r.toNat=m)))
 |[],l,_,m=>by simp[JT]
 |r::rs,l,h,m=>by
  have h0:=h 0 (by simp)
  have h0':r.toNat<l.length∧r.toNat≠k:=h0
  have e1:(l.set r.toNat (l.getD r.toNat false || l.getD k false)).getD k false=l.getD k false:=by rw[GY _ _ _ _ h0'.1,if_neg h0'.2]
  show(JT k (l.set r.toNat (l.getD r.toNat false || l.getD k false)) rs).getD m false=_
  rw[Og rs _ (fun i hi=>by
   have:=h (i+1) (by simpa using hi)
   rw[z6];simpa using this) m,e1,GY _ _ _ _ h0'.1]
  rw[List.any_cons]
  by_cases e:r.toNat=m
  ·subst e
   rw[if_pos rfl]
   cases l.getD r.toNat false <;> cases l.getD k false <;> simp
  ·rw[if_neg e,A6 e,Bool.false_or]
variable {cs:List Aw} {l:List Bool}
theorem Jp (hl:l.length=cs.length)(hf:∀k,k<cs.length→∀i,i<(Bv (cs.getD k Aw.zero)).length→0≤(Bv (cs.getD k Aw.zero)).getD i 0∧(Bv (cs.getD k Aw.zero)).getD i 0<((k:Nat):Int)){j:Nat}(hj:j<cs.length)(m:Nat) :
  (KB cs l (j+1)).getD m false=((KB cs l j).getD m false || ((KB cs l j).getD (cs.length-1-j) false && (Bv (cs.getD (cs.length-1-j) Aw.zero)).any fun r=>decide (r.toNat=m))):=by
 show(JT _ _ _).getD m false=_
 refine Og _ _ (fun i hi=>?_) m
 have:=hf (cs.length-1-j) zO i hi
 rw[HR]
 omega
theorem Jq (hl:l.length=cs.length)(hf:∀k,k<cs.length→∀i,i<(Bv (cs.getD k Aw.zero)).length→0≤(Bv (cs.getD k Aw.zero)).getD i 0∧(Bv (cs.getD k Aw.zero)).getD i 0<((k:Nat):Int)){j m:Nat}(h:(KB cs l j).getD m false=true):∀d,j+d≤cs.length→(KB cs l (j+d)).getD m false=true
 |0,_=>h
 |d+1,hd=>by
  have ih:=Jq hl hf h d zO
  rw[show j+(d+1)=(j+d)+1 from rfl,Jp hl hf zO,ih,Bool.true_or]
theorem Me (hl:l.length=cs.length)(hf:∀k,k<cs.length→∀i,i<(Bv (cs.getD k Aw.zero)).length→0≤(Bv (cs.getD k Aw.zero)).getD i 0∧(Bv (cs.getD k Aw.zero)).getD i 0<((k:Nat):Int)){j m:Nat}(hm:cs.length≤m+1+j):∀d,j+d≤cs.length→(KB cs l (j+d)).getD m false=(KB cs l j).getD m false
 |0,_=>rfl
 |d+1,hd=>by
  have ih:=Me hl hf hm d zO
  rw[show j+(d+1)=(j+d)+1 from rfl,Jp hl hf zO,ih]
  have:(Bv (cs.getD (cs.length-1-(j+d)) Aw.zero)).any (fun r=>decide (r.toNat=m))=false:=by
   rw[List.any_eq_false]
   intro r hr
   obtain⟨i,hi,rfl⟩:=List.mem_iff_getElem.1 hr
   have:=hf (cs.length-1-(j+d)) zO i hi
   rw[Yw hi]at this
   simp only[decide_eq_true_eq]
   omega
  rw[this,Bool.and_false,Bool.or_false]
theorem N5 (hl:l.length=cs.length)(hf:∀k,k<cs.length→∀i,i<(Bv (cs.getD k Aw.zero)).length→0≤(Bv (cs.getD k Aw.zero)).getD i 0∧(Bv (cs.getD k Aw.zero)).getD i 0<((k:Nat):Int)){k i:Nat}(hk:k<cs.length)(h:(KB cs l cs.length).getD k false=true)(hi:i<(Bv (cs.getD k Aw.zero)).length) :
  (KB cs l cs.length).getD ((Bv (cs.getD k Aw.zero)).getD i 0).toNat false=true:=by
 have hb:=Me (l:=l) hl hf (j:=cs.length-1-k) (m:=k) zO (k+1) zO
 rw[show cs.length-1-k+(k+1)=cs.length from by omega,h]at hb
 have hs:=Jp (l:=l) hl hf (j:=cs.length-1-k) zO ((Bv<|cs.getD k Aw.zero).getD i 0).toNat
 rw[show cs.length-1-(cs.length-1-k)=k from by omega,← hb,Bool.true_and]at hs
 have ha:(Bv (cs.getD k Aw.zero)).any (fun r=>decide (r.toNat=((Bv (cs.getD k Aw.zero)).getD i 0).toNat))=true:=by
  rw[List.any_eq_true]
  exact⟨(Bv (cs.getD k Aw.zero)).getD i 0,by rw[Yw hi];exact List.getElem_mem hi,by simp⟩
 rw[ha,Bool.or_true]at hs
 have:=Jq hl hf hs k zO
 rwa [show cs.length-1-k+1+k=cs.length from by omega]at this
theorem Mf (rs:List Int):(Fz cs rs).length=cs.length:=by unfold Fz;rw[HR,Gk]
theorem QG (hf:∀k,k<cs.length→∀i,i<(Bv (cs.getD k Aw.zero)).length→0≤(Bv (cs.getD k Aw.zero)).getD i 0∧(Bv (cs.getD k Aw.zero)).getD i 0<((k:Nat):Int)){r:Int}(hr:0≤r∧r<((cs.length:Nat):Int)):(Fz cs [r]).getD r.toNat false=true:=by
 have h0:(KB cs (Mw cs.length [r]) 0).getD r.toNat false=true:=by
  show(((List.replicate cs.length false).set r.toNat true)).getD r.toNat false=true
  rw[GY _ _ _ _ (by simp;omega),if_pos rfl]
 have:=Jq (Gk _ _) hf h0 cs.length zO
 rwa [Nat.zero_add]at this
theorem OY {mm:Nat}{A A':List Sr}{M:Nat→Prop}(hin:∀k,k<cs.length→M k→(cs.getD k Aw.zero).op=1→A.getD (cs.getD k Aw.zero).num.toNat []=A'.getD (cs.getD k Aw.zero).num.toNat [])
  (hop:∀k,k<cs.length→M k→∀r∈Bv (cs.getD k Aw.zero),0≤r∧r<((k:Nat):Int)∧M r.toNat):∀k,k<cs.length→M k→(Bz mm A cs).getD k []=(Bz mm A' cs).getD k []:=by
 intro k
 induction k using Nat.strongRecOn with
 |_ k ih =>
  intro hk hM
  rw[QB hk,QB hk]
  have hr:∀r∈Bv (cs.getD k Aw.zero),(Bz mm A (cs.take k)).getD r.toNat []=(Bz mm A' (cs.take k)).getD r.toNat []:=by
   intro r hr
   obtain⟨h1,h2,h3⟩:=hop k hk hM r hr
   rw[MZ zO zO,MZ zO (by omega)]
   exact ih r.toNat zO zO h3
  generalize hc:cs.getD k Aw.zero=c at hr
  have h1:=hin k hk hM
  rw[hc]at h1
  by_cases q1:c.op=1
  ·rw[IS q1,IS q1];exact h1 q1
  by_cases q2:3≤c.op∧c.op≤6
  ·have ho:Bv c=[c.a,c.b]:=by unfold Bv;rw[if_pos q2]
   rw[ho]at hr
   have ha:=hr c.a (by simp)
   have hb:=hr c.b (by simp)
   by_cases q3:c.op=3
   ·rw[HH q3,HH q3,ha,hb]
   by_cases q4:c.op=4
   ·rw[HI q4,HI q4,ha,hb]
   by_cases q5:c.op=5
   ·rw[HJ q5,HJ q5,ha,hb]
   have q6:c.op=6:=by omega
   rw[HL q6,HL q6,ha,hb]
  by_cases q7:c.op=7
  ·have ho:Bv c=[c.a]:=by unfold Bv;rw[if_neg q2,if_pos q7]
   rw[ho]at hr
   rw[HK q7,HK q7,hr c.a (by simp)]
  ·rw[HM zO,HM (by omega)]
def It (K:Nat):Sr:=List.replicate K 0
theorem Eq (K:Nat):Ct K (It K):=⟨by simp[It],HB K⟩
theorem KC (K k:Nat):(It K).getD k 0=0:=by
 unfold It
 rw[List.getD_eq_getElem?_getD,List.getElem?_replicate];split <;> rfl
theorem Tn {f g:Nat→Int}(hf:∀i,f i=0):∀k,cv f g k=0
 |0=>by unfold cv;rw[hf 0,Int.zero_mul]
 |k+1=>by unfold cv;rw[hf 0,Int.zero_mul,Tn (fun i=>hf (i+1)) k];rfl
theorem N6 {K:Nat}{b:Sr}:Cs (It K) b=It K:=Ct.ext (J9 (Eq K)) (Eq K) fun k hk=>by
 rw[Ss (Eq K) hk,Tn (KC K),KC];rfl
theorem N7 {K:Nat}{y:Int}:CQ (It K) y=It K:=Ct.ext (Jb (Eq K)) (Eq K) fun k hk=>by
 rw[St (Eq K) hk,KC,Int.zero_mul];rfl
theorem QH {K:Nat}{s:Sr}(h:Ct K s):Ea s (It K)=s:=Ct.ext (HC h) h fun k hk=>by
 have hn:=Ch.1<|Qg h hk
 rw[Od h hk,KC,Int.add_zero,LH hn.1 hn.2]
theorem Mg {K k:Nat}{b o:List Int}(ho:∀i,i<k→o.getD i 0=0):∀i,i≤k→OJ (It K) b o k i=0
 |0,_=>KC K k
 |i+1,hi=>by
  have ih:=Mg (K:=K) (b:=b) ho i zO
  show md (OJ (It K) b o k i-o.getD i 0*b.getD (k-i) 0)=0
  rw[ih,ho i zO,Int.zero_mul];rfl
theorem UU {K:Nat}{b:Sr}:Cm (It K) b=It K:=Ct.ext (Ja (Eq K)) (Eq K) fun k hk=>by
 have:∀k,k<K→(Cm (It K) b).getD k 0=0:=by
  intro k
  induction k using Nat.strongRecOn with
  |_ k ih =>
   intro hk
   rw[KT (by rw[(Eq K).1];exact hk),Mg (fun i hi=>ih i hi zO) k (A7 _),Int.zero_mul];rfl
 rw[this k hk,KC]
theorem Fb {K:Nat}{B:List Sr}{r:Int}(h:CB K B):DI B r (It K)=B:=by
 unfold DI
 by_cases hr:r.toNat<B.length
 ·rw[QH (h _ hr)]
  refine List.ext_getElem (by simp) fun j h1 h2=>?_
  rw[List.getElem_set]
  split
  ·rename_i e;subst e;simp[hr]
  ·rfl
 ·exact List.set_eq_of_length_le zO
theorem QI {K k:Nat}{cs:List Aw}{R B:List Sr}(h:CB K B)(hk:B.getD k []=It K):Kx cs R k B=B:=by
 by_cases q3:(cs.getD k Aw.zero).op=3
 ·rw[O7 q3,hk,Fb h,Fb h]
 by_cases q4:(cs.getD k Aw.zero).op=4
 ·rw[O8 q4,hk,N7,Fb h,Fb h]
 by_cases q5:(cs.getD k Aw.zero).op=5
 ·rw[O9 q5,hk,N6,N6,Fb h,Fb h]
 by_cases q6:(cs.getD k Aw.zero).op=6
 ·rw[Oa q6,hk,UU,N6,N7,Fb h,Fb h]
 by_cases q7:(cs.getD k Aw.zero).op=7
 ·rw[Ob q7,hk,N7,Fb h]
 ·rw[Qy (by omega)]
theorem Er {B:List Sr}{r:Int}{s:Sr}{m:Nat}(h:r.toNat≠m):(DI B r s).getD m []=B.getD m []:=by
 unfold DI;rw[List.getD_eq_getElem?_getD,List.getElem?_set_ne h,← List.getD_eq_getElem?_getD]
theorem UV {k m:Nat}{cs:List Aw}{R B:List Sr}(h:∀r∈Bv (cs.getD k Aw.zero),r.toNat≠m):(Kx cs R k B).getD m []=B.getD m []:=by
 by_cases q2:3≤(cs.getD k Aw.zero).op∧(cs.getD k Aw.zero).op≤6
 ·have ho:Bv (cs.getD k Aw.zero)=[(cs.getD k Aw.zero).a,(cs.getD k Aw.zero).b]:=by unfold Bv;rw[if_pos q2]
  rw[ho]at h
  have ha:=h _ (z0 ..)
  have hb:=h (cs.getD k Aw.zero).b (by simp)
  by_cases q3:(cs.getD k Aw.zero).op=3
  ·rw[O7 q3,Er hb,Er ha]
  by_cases q4:(cs.getD k Aw.zero).op=4
  ·rw[O8 q4,Er hb,Er ha]
  by_cases q5:(cs.getD k Aw.zero).op=5
  ·rw[O9 q5,Er hb,Er ha]
  have q6:(cs.getD k Aw.zero).op=6:=by omega
  rw[Oa q6,Er hb,Er ha]
 by_cases q7:(cs.getD k Aw.zero).op=7
 ·have ho:Bv (cs.getD k Aw.zero)=[(cs.getD k Aw.zero).a]:=by unfold Bv;rw[if_neg q2,if_pos q7]
  rw[ho]at h
  rw[Ob q7,Er (h _ (z0 ..))]
 ·rw[Qy (by omega)]
theorem Mh {K ni:Nat}{cs:List Aw}{R:List Sr}{M:Nat→Prop}(hf:∀k,k<cs.length→Dj ni k (cs.getD k Aw.zero))(hop:∀k,k<cs.length→M k→∀r∈Bv (cs.getD k Aw.zero),M r.toNat) :
  ∀(n:Nat) (B:List Sr),n≤cs.length→n≤B.length→CB K B→(∀m,¬M m→m<B.length→B.getD m []=It K)→∀m,¬M m→m<B.length→(Qw cs R n B).getD m []=It K
 |0,B,_,_,_,hz=>hz
 |k+1,B,hn,hl,hB,hz=>by
  intro m hm hlt
  show(Qw cs R k (Kx cs R k B)).getD m []=It K
  refine Mh hf hop k _ zO (by rw[HO];omega) (EZ hB zO<|hf k zO) (fun m hm hlt=>?_) m hm (by rw[HO];exact hlt)
  rw[HO]at hlt
  by_cases hk:M k
  ·rw[UV (fun r hr e=>hm (by rw[← e];exact hop k zO hk r hr))]
   exact hz m hm hlt
  ·rw[QI hB (hz k hk zO)]
   exact hz m hm hlt
theorem QJ {os ws:List Int}{B:List Sr}{m:Nat}:∀k,(∀i,i<k→(os.getD i 0).toNat≠m)→(MX os ws k B).getD m []=B.getD m []
 |0,_=>rfl
 |k+1,h=>by
  unfold MX
  rw[List.getD_eq_getElem?_getD,List.getElem?_set_ne (h k zO),← List.getD_eq_getElem?_getD]
  exact QJ k fun i hi=>h i zO
theorem OZ {K ni:Nat}{cs:List Aw}{R:List Sr}{os ws:List Int}{M:Nat→Prop}(hf:∀k,k<cs.length→Dj ni k (cs.getD k Aw.zero))(hop:∀k,k<cs.length→M k→∀r∈Bv (cs.getD k Aw.zero),M r.toNat)
  (hR:CB K R) (hl:R.length=cs.length) (ho:∀k,k<os.length→(os.getD k 0).toNat<R.length) (hw:∀i,i<os.length→M (os.getD i 0).toNat) {m:Nat} (hm:¬M m) (hlt:m<cs.length):(FP cs R os ws).getD m []=It K:=by
 unfold FP
 have hz:=IT hR
 have hzl:(L5 R).length=cs.length:=by rw[DR,hl]
 refine Mh hf hop _ _ (A7 _) (by rw[Ei,hzl];exact A7 _) (HN hz (fun k hk=>by rw[DR];exact ho k hk) _<|A7 _) (fun m hm hlt=>?_) m hm (by rw[Ei,hzl];exact hlt)
 rw[Ei,hzl]at hlt
 rw[QJ _ fun i hi e=>hm (by rw[← e];exact hw i hi)]
 unfold L5
 have hlt':m<R.length:=by omega
 rw[List.getD_eq_getElem?_getD,List.getElem?_map,List.getElem?_eq_getElem hlt']
 have:=(hR m hlt').1
 rw[show R.getD m []=R[m]from by simp[hlt']]at this
 show List.replicate R[m].length 0=It K
 rw[this];rfl
theorem Mi {K k:Nat}{cs:List Aw}{L B:List Sr}(hB:Ct K (B.getD k []))(hk:k<B.length):∀n,(∀m,m<n→(cs.getD m Aw.zero).op=1→(cs.getD m Aw.zero).num.toNat=k→L.getD m []=It K)→(MY cs L n B).getD k []=B.getD k []
 |0,_=>rfl
 |n+1,h=>by
  have ih:=Mi hB hk n fun m hm=>h m zO
  by_cases q:(cs.getD n Aw.zero).op=1
  ·rw[Ky q]
   by_cases e:(cs.getD n Aw.zero).num.toNat=k
   ·rw[h n zO q e]
    unfold DI
    rw[e,ih,QH hB,List.getD_eq_getElem?_getD,List.getElem?_set_self (by rw[Gj];exact hk)];rfl
   ·rw[Er e];exact ih
  ·rw[Kz q];exact ih
theorem QK {K ni k:Nat}{cs:List Aw}{L:List Sr}(hk:k<ni)(h:∀m,m<cs.length→(cs.getD m Aw.zero).op=1→(cs.getD m Aw.zero).num.toNat=k→L.getD m []=It K):(Ro ni K cs L).getD k []=It K:=by
 have e:(List.replicate ni (List.replicate K (0:Int))).getD k []=It K:=by
  rw[List.getD_eq_getElem?_getD,List.getElem?_replicate,if_pos hk];rfl
 unfold Ro
 rw[Mi (K:=K) (by rw[e];exact Eq K) (by simpa using hk) cs.length h,e]
end
section
def Vi (cs:List Aw)(o:List Int)(m:Nat):Prop:=∃i,i<o.length∧(Fz cs [o.getD i 0]).getD m false=true
section
variable {cs:List Aw} {o:List Int} {ni:Nat}
theorem N8 (hf:∀k,k<cs.length→Dj ni k (cs.getD k Aw.zero)):∀k,k<cs.length→∀i,i<(Bv (cs.getD k Aw.zero)).length→0≤(Bv (cs.getD k Aw.zero)).getD i 0∧(Bv (cs.getD k Aw.zero)).getD i 0<((k:Nat):Int):=fun k hk=>Of (hf k hk)
theorem Jr (hf:∀k,k<cs.length→Dj ni k (cs.getD k Aw.zero)):∀k,k<cs.length→Vi cs o k→∀r∈Bv (cs.getD k Aw.zero),0≤r∧r<((k:Nat):Int)∧Vi cs o r.toNat:=by
 rintro k hk ⟨i,hi,h⟩ r hr
 obtain⟨q,hq,rfl⟩:=List.mem_iff_getElem.1 hr
 have h1:=N8 hf k hk q hq
 have h2:=N5 (cs:=cs) (l:=Mw cs.length [o.getD i 0]) (Gk _ _) (N8 hf) hk h hq
 rw[Yw hq]at h1 h2
 exact⟨h1.1,h1.2,i,hi,h2⟩
theorem Oh (hf:∀k,k<cs.length→Dj ni k (cs.getD k Aw.zero))(ho:∀i,i<o.length→0≤o.getD i 0∧o.getD i 0<((cs.length:Nat):Int)):∀i,i<o.length→Vi cs o (o.getD i 0).toNat :=
 fun i hi=>⟨i,hi,QG (N8 hf) (ho i hi)⟩
theorem QL {K k:Nat}{R:List Sr}{ws:List Int}(hf:∀k,k<cs.length→Dj ni k (cs.getD k Aw.zero))(ho:∀i,i<o.length→0≤o.getD i 0∧o.getD i 0<((cs.length:Nat):Int))(hR:CB K R)(hl:R.length=cs.length)(hk:k<ni)
  (hn:∀m,m<cs.length→(cs.getD m Aw.zero).op=1→(cs.getD m Aw.zero).num.toNat=k→¬Vi cs o m):(Ro ni K cs (FP cs R o ws)).getD k []=It K :=
 QK hk fun m hm h1 h2=>OZ hf (fun k hk hM r hr=>(Jr hf k hk hM r hr).2.2) hR hl (fun i hi=>by have:=ho i hi;omega) (Oh hf ho) (hn m hm h1 h2) hm
theorem SE {mm:Nat}{A A':List Sr}(hf:∀k,k<cs.length→Dj ni k (cs.getD k Aw.zero))(ho:∀i,i<o.length→0≤o.getD i 0∧o.getD i 0<((cs.length:Nat):Int))
  (hA:∀m,m<cs.length→Vi cs o m→(cs.getD m Aw.zero).op=1→A.getD (cs.getD m Aw.zero).num.toNat []=A'.getD (cs.getD m Aw.zero).num.toNat []):∀i,i<o.length→(Bz mm A cs).getD (o.getD i 0).toNat []=(Bz mm A' cs).getD (o.getD i 0).toNat [] :=
 fun i hi=>OY hA (Jr hf) _ (by have:=ho i hi;omega) (Oh hf ho i hi)
end
end
section
def Mx (cs:List Aw)(mk:List Bool):Nat→List Int
 |0=>[]
 |k+1=>if mk.getD k false=true∧(cs.getD k Aw.zero).op=1 then Iv (cs.getD k Aw.zero).num (Mx cs mk k)else Mx cs mk k
section
variable {cs:List Aw} {mk:List Bool} {k:Nat}
theorem To (h:mk.getD k false=true)(h2:(cs.getD k Aw.zero).op=((1:Nat):Int)):Mx cs mk (k+1)=Iv (cs.getD k Aw.zero).num (Mx cs mk k):=if_pos ⟨h,h2⟩
theorem Tq (h2:¬(cs.getD k Aw.zero).op=((1:Nat):Int)):Mx cs mk (k+1)=Mx cs mk k:=if_neg fun hh=>h2 hh.2
theorem Tr (h:mk.getD k false=false):Mx cs mk (k+1)=Mx cs mk k:=if_neg fun hh=>by rw[h]at hh;cases hh.1
theorem La:∀k,(Mx cs mk k).length≤k
 |0=>A7 _
 |k+1=>by
  have:=La k
  unfold Mx
  split
  ·unfold Iv
   split
   ·omega
   ·rw[z4,zd];omega
  ·omega
theorem Lb {y:Int}:∀ {k:Nat},y∈Mx cs mk k↔∃m,m<k∧mk.getD m false=true∧(cs.getD m Aw.zero).op=1∧(cs.getD m Aw.zero).num=y
 |0=>⟨(fun h=>by cases h),fun⟨m,hm,_⟩=>absurd hm (Nat.not_lt_zero m)⟩
 |k+1=>by
  unfold Mx
  split
  ·rename_i h
   rw[Pr,Lb]
   constructor
   ·rintro(⟨m,h1,h2⟩|rfl)
    ·exact⟨m,zO,h2⟩
    ·exact⟨k,zO,h.1,h.2,rfl⟩
   ·rintro⟨m,h1,h2,h3,h4⟩
    by_cases e:m=k
    ·subst e;exact .inr h4.symm
    ·exact .inl ⟨m,zO,h2,h3,h4⟩
  ·rename_i h
   rw[Lb]
   constructor
   ·rintro⟨m,h1,h2⟩;exact⟨m,zO,h2⟩
   ·rintro⟨m,h1,h2,h3,h4⟩
    by_cases e:m=k
    ·subst e;exact absurd ⟨h2,h3⟩ h
    ·exact⟨m,zO,h2,h3,h4⟩
def SF (cs:List Aw)(r:Int)(l:List Int):Prop:=(∀y,y∈l↔∃m,m<cs.length∧(Fz cs [r]).getD m false=true∧(cs.getD m Aw.zero).op=1∧(cs.getD m Aw.zero).num=y)∧l.length≤cs.length
theorem SG {r:Int}{l:List Int}(h:(∀y,y∈l↔y∈Mx cs (Fz cs [r]) cs.length)∧l.length≤(Mx cs (Fz cs [r]) cs.length).length):SF cs r l:=⟨fun y=>(h.1 y).trans Lb,by have:=La (cs:=cs) (mk:=Fz cs [r]) cs.length;have:=h.2;omega⟩
end
end
section
def FA (cs:List Aw)(ad l:List Int):Nat→List Int
 |0=>l
 |k+1=>if (cs.getD k Aw.zero).op=1 then(FA cs ad l k).set (cs.getD k Aw.zero).num.toNat (md ((FA cs ad l k).getD (cs.getD k Aw.zero).num.toNat 0+ad.getD k 0))else FA cs ad l k
section
variable {cs:List Aw} {ad l a u ws xs os:List Int} {L B:List Sr} {k n ni m i:Nat} {T:Tp} {r x:Int}
theorem N9 (h:(cs.getD k Aw.zero).op=((1:Nat):Int)):FA cs ad l (k+1)=(FA cs ad l k).set (cs.getD k Aw.zero).num.toNat (md ((FA cs ad l k).getD (cs.getD k Aw.zero).num.toNat 0+ad.getD k 0)):=if_pos h
theorem Na (h:¬(cs.getD k Aw.zero).op=((1:Nat):Int)):FA cs ad l (k+1)=FA cs ad l k:=if_neg h
theorem Js:∀k,(FA cs ad l k).length=l.length
 |0=>rfl
 |k+1=>by unfold FA;split <;> (try rw[z6]) <;> exact Js k
theorem EH (k:Nat)(hk:k<B.length):(Dl B).getD k 0=(B.getD k []).getD 0 0:=by unfold Dl;rw[Cy (d:=[]) hk]
theorem Oi (hm:1≤m)(hB:CB m B)(hL:L.length=cs.length)(hf:∀k,k<cs.length→Dj B.length k (cs.getD k Aw.zero)):∀k,k≤cs.length→FA cs (Dl L) (Dl B) k=Dl (MY cs L k B)
 |0,_=>rfl
 |k+1,hk=>by
  have ih:=Oi hm hB hL hf k zO
  have hs:CB m (MY cs L k B):=IU hf hB k zO
  by_cases h:(cs.getD k Aw.zero).op=1
  ·have hi:=(hf k zO).i1 h
   rw[N9 h,Ky h,ih]
   unfold DI
   have hlt:(cs.getD k Aw.zero).num.toNat<(MY cs L k B).length:=by rw[Gj];omega
   rw[EH _ hlt,EH k (by omega)]
   unfold Dl
   rw[List.map_set,Od (hs _ hlt) (by omega)]
  ·rw[Na h,Kz h,ih]
theorem SH:IP a 0=Dl (List.replicate a.length (List.replicate 2 0)):=VA (by rw[Hw,EG,z5]) fun k hk=>by
 rw[Hw]at hk
 unfold IP
 rw[Cy (d:=0) hk,EH k (by rw[z5];exact hk),Int.mul_zero,show(List.replicate a.length (List.replicate 2 (0:Int))).getD k []=List.replicate 2 0 from by rw[List.getD_eq_getElem?_getD,List.getElem?_replicate,if_pos hk];rfl];rfl
theorem JS.sums (h:JS a T xs):FA T.code (Dl (FP T.code (Bz 2 (I1 a a 2) T.code) xs ws)) (IP a 0) T.code.length=Dl (Tk 2 T xs ws (I1 a a 2)):=by
 rw[SH,Oi (m:=2) (by decide) (L7 2 a.length) (by rw[HP,BD]) (fun k hk=>by rw[z5];exact h.k.form k hk) _ (A7 _)]
 unfold Tk Ro
 rw[DQ]
def Z7 (cs:List Aw)(r:Int)(q:Nat):Prop:=∃m,m<cs.length∧(Fz cs [r]).getD m false=true∧(cs.getD m Aw.zero).op=1∧(cs.getD m Aw.zero).num.toNat=q
def Oj (cs:List Aw)(os:List Int)(n i:Nat)(u:List Int):Prop:=u.length=n∧∀q,q<n→(0≤u.getD q 0∧u.getD q 0≤3200*((i:Nat):Int))∧(0<u.getD q 0↔∃j,j<i∧Z7 cs (os.getD j 0) q)
def P0 (cs:List Aw)(os:List Int)(n i:Nat)(l:List Int)(k:Nat)(u:List Int):Prop:=u.length=n∧∀q,q<n→(0≤u.getD q 0∧u.getD q 0≤3200*((i:Nat):Int)+((k:Nat):Int))∧(0<u.getD q 0↔(∃j,j<i∧Z7 cs (os.getD j 0) q)∨∃j,j<k∧(l.getD j 0).toNat=q)
theorem VV:Oj cs os a.length 0 (IP a 0):=⟨Hw _ _,fun q hq=>by
 have:(IP a 0).getD q 0=0:=by
  unfold IP;rw[Cy (d:=0) hq,Int.mul_zero];rfl
 rw[this]
 exact⟨zO,⟨fun h=>absurd h zO,fun⟨j,hj,_⟩=>absurd hj (Nat.not_lt_zero j)⟩⟩⟩
theorem Oj.j (h:Oj cs os n i u):P0 cs os n i l 0 u:=⟨h.1,fun q hq=>⟨by have:=(h.2 q hq).1;omega,(h.2 q hq).2.trans ⟨.inl,fun hh=>hh.elim id fun⟨j,hj,_⟩=>absurd hj (Nat.not_lt_zero j)⟩⟩⟩
theorem P0.step (h:P0 cs os n i l k u)(hi:i<12)(hk:k<3200)(hr:0≤l.getD k 0∧l.getD k 0<((n:Nat):Int)):P0 cs os n i l (k+1) (u.set (l.getD k 0).toNat (md (u.getD (l.getD k 0).toNat 0+((1:Nat):Int)))):=by
 refine⟨by rw[z6];exact h.1,fun q hq=>?_⟩
 have hb:=h.2 q hq
 have hlt:(l.getD k 0).toNat<u.length:=by rw[h.1];omega
 have hg:(u.set (l.getD k 0).toNat (md (u.getD (l.getD k 0).toNat 0+((1:Nat):Int)))).getD q 0=if (l.getD k 0).toNat=q then md (u.getD q 0+((1:Nat):Int))else u.getD q 0:=by
  rw[List.getD_eq_getElem?_getD,List.getElem?_set]
  by_cases e:(l.getD k 0).toNat=q
  ·rw[if_pos e,if_pos e,if_pos hlt];rw[e];rfl
  ·rw[if_neg e,if_neg e,List.getD_eq_getElem?_getD]
 rw[hg]
 by_cases e:(l.getD k 0).toNat=q
 ·rw[if_pos e]
  rw[LH zO (by omega)]
  exact⟨zO,⟨fun _=>.inr ⟨k,Nat.lt_succ_self k,e⟩,fun _=>by omega⟩⟩
 ·rw[if_neg e]
  refine⟨zO,hb.2.trans ⟨fun hh=>hh.elim .inl fun⟨j,hj,h2⟩=>.inr ⟨j,zO,h2⟩,fun hh=>hh.elim .inl fun⟨j,hj,h2⟩=>.inr ⟨j,?_,h2⟩⟩⟩
  rcases Nat.lt_or_ge j k with h3|h3
  ·exact h3
  ·have:j=k:=by omega
   subst this;exact absurd h2 e
theorem SF.rng (h:SF cs r l)(hf:∀k,k<cs.length→Dj n k (cs.getD k Aw.zero))(hk:k<l.length):0≤l.getD k 0∧l.getD k 0<((n:Nat):Int):=by
 obtain⟨m,h1,h2,h3,h4⟩:=(h.1 (l.getD k 0)).1 (by rw[show l.getD k 0=l[k]from by simp[hk]];exact List.getElem_mem hk)
 have:=(hf m h1).i1 h3
 omega
theorem P0.nx (h:P0 cs os n i l l.length u)(hl:SF cs (os.getD i 0) l)(hc:cs.length≤3200)(hf:∀k,k<cs.length→Dj n k (cs.getD k Aw.zero)):Oj cs os n (i+1) u:=by
 refine⟨h.1,fun q hq=>⟨by have:=(h.2 q hq).1;have:=hl.2;omega,(h.2 q hq).2.trans ⟨?_,?_⟩⟩⟩
 ·rintro(⟨j,hj,h2⟩|⟨j,hj,h2⟩)
  ·exact⟨j,zO,h2⟩
  ·obtain⟨m,h3,h4,h5,h6⟩:=(hl.1 (l.getD j 0)).1 (by rw[show l.getD j 0=l[j]from by simp[hj]];exact List.getElem_mem hj)
   exact⟨i,Nat.lt_succ_self i,m,h3,h4,h5,by rw[h6];exact h2⟩
 ·rintro⟨j,hj,h2⟩
  rcases Nat.lt_or_ge j i with h3|h3
  ·exact .inl ⟨j,h3,h2⟩
  ·have:j=i:=by omega
   subst this
   obtain⟨m,h4,h5,h6,h7⟩:=h2
   obtain⟨p,hp,e⟩:=List.mem_iff_getElem.1 ((hl.1 (cs.getD m Aw.zero).num).2 ⟨m,h4,h5,h6,rfl⟩)
   exact .inr ⟨p,hp,by rw[show l.getD p 0=l[p]from by simp[hp],e];exact h7⟩
theorem P0.nx2 (h:P0 cs os n i l k u)(hk:k≤l.length∧¬k<l.length)(hl:SF cs (os.getD i 0) l)(hc:cs.length≤3200)(hf:∀k,k<cs.length→Dj n k (cs.getD k Aw.zero)):Oj cs os n (i+1) u:=by
 have e:k=l.length:=by omega
 subst e
 exact h.nx hl hc hf
theorem Oj.no (h:Oj T.code xs a.length xs.length u)(hR:JS a T xs)(hk:k<a.length)(hu:¬((0:Nat):Int)<u.getD k 0):∀m,m<T.code.length→(T.code.getD m Aw.zero).op=1→(T.code.getD m Aw.zero).num.toNat=k→¬Vi T.code xs m:=fun m hm h1 h2 ⟨j,hj,h3⟩ =>
 hu ((h.2 k hk).2.2 ⟨j,hj,m,hm,h3,h1,h2⟩)
theorem Oj.back (h:Oj T.code xs a.length xs.length u)(hR:JS a T xs)(hk:k<a.length)(hu:¬((0:Nat):Int)<u.getD k 0):(Dl (Tk 2 T xs ws (I1 a a 2))).getD k 0=0:=by
 rw[EH k (by rw[Oe,DQ];exact hk)]
 unfold Tk
 rw[DQ,QL hR.k.form hR.k.out (hR.reg hR.n) (BD _) hk (h.no hR hk hu)]
 rfl
theorem Oj.same (h:Oj T.code xs a.length xs.length u)(hR:JS a T xs)(hk:k<a.length)(hu:¬((0:Nat):Int)<u.getD k 0)(h0:GA a T.code=0)(h6:GA (a.set k x) T.code=0):QE (a.set k x) T.code xs=QE a T.code xs:=by
 rw[Mb h0,Mb h6,Ma h0,Ma h6]
 have hv:=SE (mm:=1) (A:=D9<|a.set k x) (A':=D9 a) (o:=xs) hR.k.form hR.k.out fun m hm hM h1=>?_
 ·refine VA (by simp[UT]) fun i hi=>?_
  have hi':i<xs.length:=by simpa [UT]using hi
  have ho:=hR.k.out i hi'
  unfold UT
  rw[Cy (d:=0) hi',Cy (d:=0) hi',EH _ (by rw[BD];omega),EH _ (by rw[BD];omega),hv i hi']
 ·have hi:=(hR.k.form m hm).i1 h1
  have hne:(T.code.getD m Aw.zero).num.toNat≠k:=fun e=>h.no hR hk hu m hm h1 e hM
  unfold D9
  rw[Cy (d:=0) (by rw[z6];omega),Cy (d:=0) zO,List.getD_eq_getElem?_getD,List.getElem?_set_ne (fun e=>hne e.symm),← List.getD_eq_getElem?_getD]
theorem P1 {l:List Int}(h:B9 l=true):B9 (l.set k (md x))=true:=OW h (BT x)
theorem SI {d:List Int}{cs:List Aw}{o:List Int}(h:GA d cs=0):(QE d cs o).length=o.length:=by rw[Mb h];simp[UT]
theorem Su.rgX0 {p:List Fn}{f:Nat}(h:Su p f a xs T):GA a T.code=0:=if_pos (h.tp (m:=1) (A7 1) (ED h.n) (Jk a)).1.nz
end
end
theorem mixed:Tryz.prog.follows .mixedOrders=true:=by kernel_rfl
abbrev BK (k:Nat):Prop:=((Tryz.prog.funcs[k]?).map fun fn=>(fn.name != "runtime.NumGoroutine") && fn.body.isSome) = some true
theorem BM {k:Nat} (h:((Tryz.prog.funcs[k]?).map fun fn=>(fn.name != "runtime.NumGoroutine") && fn.body.isSome) = some true):BK k:=h
theorem Zg:BK 7:=BM (by kernel_rfl)
theorem Zh:BK 8:=BM (by kernel_rfl)
theorem Zi:BK 9:=BM (by kernel_rfl)
theorem Yx:BK 10:=BM (by kernel_rfl)
theorem Yy:BK 11:=BM (by kernel_rfl)
theorem VW:BK 14:=BM (by kernel_rfl)
theorem Yz:BK 16:=BM (by kernel_rfl)
theorem VX:BK 17:=BM (by kernel_rfl)
theorem YB:BK 18:=BM (by kernel_rfl)
theorem VY:BK 19:=BM (by kernel_rfl)
theorem UW:BK 20:=BM (by kernel_rfl)
theorem YC:BK 21:=BM (by kernel_rfl)
theorem YD:BK 22:=BM (by kernel_rfl)
theorem VZ:BK 46:=BM (by kernel_rfl)
theorem YE:BK 47:=BM (by kernel_rfl)
theorem YF:BK 48:=BM (by kernel_rfl)
theorem UX:BK 49:=BM (by kernel_rfl)
theorem YG:BK 50:=BM (by kernel_rfl)
theorem YH:BK 51:=BM (by kernel_rfl)
theorem YI:BK 52:=BM (by kernel_rfl)
theorem UY:BK 53:=BM (by kernel_rfl)
theorem SJ:BK 54:=BM (by kernel_rfl)
theorem UZ:BK 55:=BM (by kernel_rfl)
theorem YJ:BK 62:=BM (by kernel_rfl)
theorem YK:BK 63:=BM (by kernel_rfl)
theorem X0:BK 66:=BM (by kernel_rfl)
theorem V0:BK 67:=BM (by kernel_rfl)
theorem YL:BK 68:=BM (by kernel_rfl)
theorem Mj:BK 69:=BM (by kernel_rfl)
theorem V1:BK 70:=BM (by kernel_rfl)
theorem X1:BK 71:=BM (by kernel_rfl)
theorem Du:BK 72:=BM (by kernel_rfl)
theorem YM:BK 73:=BM (by kernel_rfl)
theorem YN:BK 74:=BM (by kernel_rfl)
theorem YO:BK 76:=BM (by kernel_rfl)
theorem HS:BK 80:=BM (by kernel_rfl)
theorem YP:BK 87:=BM (by kernel_rfl)
theorem X2:BK 100:=BM (by kernel_rfl)
theorem DG:BK 101:=BM (by kernel_rfl)
theorem Mk:BK 102:=BM (by kernel_rfl)
theorem X3:BK 103:=BM (by kernel_rfl)
theorem Ml:BK 104:=BM (by kernel_rfl)
theorem QM:BK 110:=BM (by kernel_rfl)
theorem X4:BK 111:=BM (by kernel_rfl)
theorem X5:BK 112:=BM (by kernel_rfl)
theorem Ts:BK 113:=BM (by kernel_rfl)
theorem Tt:BK 114:=BM (by kernel_rfl)
theorem X6:BK 115:=BM (by kernel_rfl)
theorem QN:BK 116:=BM (by kernel_rfl)
theorem Jt:BK 117:=BM (by kernel_rfl)
theorem Tu:BK 118:=BM (by kernel_rfl)
theorem Tv:BK 122:=BM (by kernel_rfl)
theorem Tw:BK 123:=BM (by kernel_rfl)
theorem X7:BK 124:=BM (by kernel_rfl)
theorem X8:BK 126:=BM (by kernel_rfl)
theorem X9:BK 127:=BM (by kernel_rfl)
theorem Xa:BK 128:=BM (by kernel_rfl)
theorem Ok:BK 129:=BM (by kernel_rfl)
theorem KD:BK 130:=BM (by kernel_rfl)
theorem Xb:BK 131:=BM (by kernel_rfl)
theorem Xc:BK 132:=BM (by kernel_rfl)
theorem Xd:BK 133:=BM (by kernel_rfl)
theorem Xe:BK 134:=BM (by kernel_rfl)
theorem Xf:BK 136:=BM (by kernel_rfl)
theorem Xg:BK 146:=BM (by kernel_rfl)
theorem Xh:BK 147:=BM (by kernel_rfl)
theorem Xi:BK 148:=BM (by kernel_rfl)
theorem Xj:BK 149:=BM (by kernel_rfl)
theorem QO:BK 150:=BM (by kernel_rfl)
theorem Xk:BK 161:=BM (by kernel_rfl)
theorem Tx:BK 162:=BM (by kernel_rfl)
theorem Ol:BK 163:=BM (by kernel_rfl)
theorem Xl:BK 164:=BM (by kernel_rfl)
theorem Ty:BK 165:=BM (by kernel_rfl)
theorem Tz:BK 168:=BM (by kernel_rfl)
theorem FQ:BK 169:=BM (by kernel_rfl)
theorem Xm:BK 170:=BM (by kernel_rfl)
theorem Xn:BK 171:=BM (by kernel_rfl)
theorem Xo:BK 172:=BM (by kernel_rfl)
theorem QP:BK 173:=BM (by kernel_rfl)
theorem QQ:BK 174:=BM (by kernel_rfl)
theorem TA:BK 175:=BM (by kernel_rfl)
theorem TB:BK 176:=BM (by kernel_rfl)
theorem Xp:BK 178:=BM (by kernel_rfl)
theorem Xq:BK 179:=BM (by kernel_rfl)
theorem Om:BK 180:=BM (by kernel_rfl)
theorem Mm:BK 181:=BM (by kernel_rfl)
theorem TC:BK 182:=BM (by kernel_rfl)
theorem HT:BK 183:=BM (by kernel_rfl)
theorem Xr:BK 187:=BM (by kernel_rfl)
theorem QR:BK 188:=BM (by kernel_rfl)
theorem Xs:BK 189:=BM (by kernel_rfl)
theorem Xt:BK 194:=BM (by kernel_rfl)
theorem Xu:BK 195:=BM (by kernel_rfl)
theorem TD:BK 196:=BM (by kernel_rfl)
theorem On:BK 197:=BM (by kernel_rfl)
theorem Oo:BK 205:=BM (by kernel_rfl)
theorem QS:BK 206:=BM (by kernel_rfl)
theorem TF:BK 207:=BM (by kernel_rfl)
theorem Xv:BK 208:=BM (by kernel_rfl)
theorem TG:BK 209:=BM (by kernel_rfl)
theorem TH:BK 210:=BM (by kernel_rfl)
theorem Xw:BK 211:=BM (by kernel_rfl)
theorem Xx:BK 212:=BM (by kernel_rfl)
theorem Xy:BK 213:=BM (by kernel_rfl)
theorem KE:BK 214:=BM (by kernel_rfl)
theorem Xz:BK 215:=BM (by kernel_rfl)
theorem XA:BK 228:=BM (by kernel_rfl)
theorem TJ:BK 229:=BM (by kernel_rfl)
theorem Oq:BK 230:=BM (by kernel_rfl)
theorem XB:BK 240:=BM (by kernel_rfl)
theorem XC:BK 241:=BM (by kernel_rfl)
theorem XD:BK 248:=BM (by kernel_rfl)
theorem XE:BK 249:=BM (by kernel_rfl)
theorem XF:BK 254:=BM (by kernel_rfl)
theorem AB:BV Tryz.prog 2:=by unfold BV;kernel_rfl
theorem JX:BV Tryz.prog 3:=by unfold BV;kernel_rfl
theorem SK:BV Tryz.prog 4:=by unfold BV;kernel_rfl
theorem XG:BV Tryz.prog 5:=by unfold BV;kernel_rfl
theorem Nb:BV Tryz.prog 9:=by unfold BV;kernel_rfl
theorem Or:BV Tryz.prog 22:=by unfold BV;kernel_rfl
theorem Cb:BV Tryz.prog 24:=by unfold BV;kernel_rfl
theorem BA:BV Tryz.prog 27:=by unfold BV;kernel_rfl
theorem Bl:BV Tryz.prog 31:=by unfold BV;kernel_rfl
theorem D8:BV Tryz.prog 36:=by unfold BV;kernel_rfl
theorem QT:BV Tryz.prog 37:=by unfold BV;kernel_rfl
theorem GB:BV Tryz.prog 87:=by unfold BV;kernel_rfl
theorem TK:BV Tryz.prog 92:=by unfold BV;kernel_rfl
theorem GZ:BV Tryz.prog 111:=by unfold BV;kernel_rfl
theorem Lc:BV Tryz.prog 160:=by unfold BV;kernel_rfl
theorem GD:(Tryz.prog.info? 2).map (·.size)=some 1:=by kernel_rfl
theorem Z8:(Tryz.prog.info? 3).map (·.size)=some 1:=by kernel_rfl
theorem YQ:(Tryz.prog.info? 4).map (·.size)=some 1:=by kernel_rfl
theorem YS:(Tryz.prog.info? 24).map (·.size)=some 1:=by kernel_rfl
theorem P3:(Tryz.prog.info? 27).map (·.size)=some 1:=by kernel_rfl
theorem QU:(Tryz.prog.info? 31).map (·.size)=some 1:=by kernel_rfl
theorem V2:(Tryz.prog.info? 36).map (·.size)=some 1:=by kernel_rfl
theorem YT:(Tryz.prog.info? 37).map (·.size)=some 1:=by kernel_rfl
theorem TL:(Tryz.prog.info? 111).map (·.size)=some 1:=by kernel_rfl
theorem TM:(Tryz.prog.info? 160).map (·.size)=some 1:=by kernel_rfl
theorem BC:TI Tryz.prog 2 1 (.int .i64 0) 8:=by unfold TI;kernel_rfl
theorem V3:TI Tryz.prog 4 1 (.bool false) 1:=by unfold TI;kernel_rfl
theorem YU:TI Tryz.prog 5 1 (.int .u8 0) 1:=by unfold TI;kernel_rfl
theorem Z9:TI Tryz.prog 9 1 (.string ByteArray.empty) 16:=by unfold TI;kernel_rfl
theorem Bs:TI Tryz.prog 27 1 (.slice none 0 0) 24:=by unfold TI;kernel_rfl
theorem u2:Tryz.prog.underlying 2=some (.int .i64):=by kernel_rfl
theorem u3:Tryz.prog.underlying 3=some (.int .i64):=by kernel_rfl
theorem u4:Tryz.prog.underlying 4=some (.bool):=by kernel_rfl
theorem u5:Tryz.prog.underlying 5=some (.int .u8):=by kernel_rfl
theorem u9:Tryz.prog.underlying 9=some (.string):=by kernel_rfl
theorem Ot:Tryz.prog.underlying 22=some (.slice 5):=by kernel_rfl
theorem Gp:Tryz.prog.underlying 24=some (.slice 33):=by kernel_rfl
theorem Bm:Tryz.prog.underlying 27=some (.slice 2):=by kernel_rfl
theorem CR:Tryz.prog.underlying 31=some (.slice 153):=by kernel_rfl
theorem Id:Tryz.prog.underlying 36=some (.slice 52):=by kernel_rfl
theorem XH:Tryz.prog.underlying 37=some (.slice 107):=by kernel_rfl
theorem Bo:Tryz.prog.underlying 111=some (.slice 27):=by kernel_rfl
theorem Mn:Tryz.prog.underlying 120=some (.slice 4):=by kernel_rfl
theorem V4:Tryz.prog.underlying 148=some (.slice 9):=by kernel_rfl
theorem SL:Tryz.prog.underlying 160=some (.int .u64):=by kernel_rfl
theorem Do:DE Tryz.prog 26 1=true:=by kernel_rfl
theorem P4:(Tryz.prog.info? 26).map (·.zero)=some (some (.agg #[.slice none 0 0])):=by kernel_rfl
theorem BG:Fm Tryz.prog 26 0 0=true:=by kernel_rfl
theorem Ju:DE Tryz.prog 33 3=true:=by kernel_rfl
theorem V5:(Tryz.prog.info? 33).map (·.zero)=some (some (.agg #[.string ByteArray.empty,.int .i64 0,.slice none 0 0])):=by kernel_rfl
theorem CN:TI Tryz.prog 33 3 (.agg #[.string ByteArray.empty,.int .i64 0,.slice none 0 0]) 48:=by unfold TI;kernel_rfl
theorem Ie:Fm Tryz.prog 33 0 0=true:=by kernel_rfl
theorem Co:Fm Tryz.prog 33 1 1=true:=by kernel_rfl
theorem BU:Fm Tryz.prog 33 2 2=true:=by kernel_rfl
theorem Cz:DE Tryz.prog 39 4=true:=by kernel_rfl
theorem XI:(Tryz.prog.info? 39).map (·.zero)=some (some (.agg #[.int .i64 0,.slice none 0 0,.slice none 0 0,.slice none 0 0])):=by kernel_rfl
theorem Ld:Fm Tryz.prog 39 0 0=true:=by kernel_rfl
theorem BZ:Fm Tryz.prog 39 1 1=true:=by kernel_rfl
theorem Le:Fm Tryz.prog 39 2 2=true:=by kernel_rfl
theorem FR:Fm Tryz.prog 39 3 3=true:=by kernel_rfl
theorem DM:DE Tryz.prog 52 4=true:=by kernel_rfl
theorem QV:(Tryz.prog.info? 52).map (·.zero)=some (some (.agg #[.int .i64 0,.int .i64 0,.int .i64 0,.int .i64 0])):=by kernel_rfl
theorem DN:TI Tryz.prog 52 4 (.agg #[.int .i64 0,.int .i64 0,.int .i64 0,.int .i64 0]) 32:=by unfold TI;kernel_rfl
theorem Fd:Fm Tryz.prog 52 0 0=true:=by kernel_rfl
theorem C4:Fm Tryz.prog 52 1 1=true:=by kernel_rfl
theorem C5:Fm Tryz.prog 52 2 2=true:=by kernel_rfl
theorem D1:Fm Tryz.prog 52 3 3=true:=by kernel_rfl
theorem Ou:Fm Tryz.prog 100 0 0=true:=by kernel_rfl
theorem Ej:Fm Tryz.prog 100 1 1=true:=by kernel_rfl
theorem CW:Fm Tryz.prog 100 2 5=true:=by kernel_rfl
theorem Lf:Fm Tryz.prog 100 3 6=true:=by kernel_rfl
theorem DS:Fm Tryz.prog 100 4 7=true:=by kernel_rfl
theorem QW:DE Tryz.prog 107 2=true:=by kernel_rfl
theorem XJ:(Tryz.prog.info? 107).map (·.zero)=some (some (.agg #[.int .i64 0,.bool false])):=by kernel_rfl
theorem Nc:TI Tryz.prog 107 2 (.agg #[.int .i64 0,.bool false]) 16:=by unfold TI;kernel_rfl
theorem SM:Fm Tryz.prog 107 0 0=true:=by kernel_rfl
theorem DC:Fm Tryz.prog 151 0 0=true:=by kernel_rfl
theorem SN:Fm Tryz.prog 151 1 1=true:=by kernel_rfl
theorem Lg:Fm Tryz.prog 151 2 2=true:=by kernel_rfl
theorem SP:Fm Tryz.prog 151 3 3=true:=by kernel_rfl
theorem B7:DE Tryz.prog 153 5=true:=by kernel_rfl
theorem GE:(Tryz.prog.info? 153).map (·.zero)=some (some (.agg #[.int .i64 0,.int .i64 0,.int .i64 0,.int .i64 0,.slice none 0 0])):=by kernel_rfl
theorem Bp:TI Tryz.prog 153 5 (.agg #[.int .i64 0,.int .i64 0,.int .i64 0,.int .i64 0,.slice none 0 0]) 56:=by unfold TI;kernel_rfl
theorem Bg:Fm Tryz.prog 153 0 0=true:=by kernel_rfl
theorem BJ:Fm Tryz.prog 153 1 1=true:=by kernel_rfl
theorem De:Fm Tryz.prog 153 2 2=true:=by kernel_rfl
theorem CX:Fm Tryz.prog 153 3 3=true:=by kernel_rfl
theorem Bc:Fm Tryz.prog 153 4 4=true:=by kernel_rfl
theorem SQ:Fm Tryz.prog 167 0 0=true:=by kernel_rfl
theorem Lh:Fm Tryz.prog 167 1 1=true:=by kernel_rfl
theorem IW:Fm Tryz.prog 167 2 2=true:=by kernel_rfl
theorem Fe:Fm Tryz.prog 167 3 3=true:=by kernel_rfl
theorem Nd:DE Tryz.prog 244 2=true:=by kernel_rfl
theorem SR:Fm Tryz.prog 244 0 0=true:=by kernel_rfl
theorem SS:Fm Tryz.prog 244 1 1=true:=by kernel_rfl
section
set_option maxHeartbeats 4000000
set_option maxRecDepth 100000
attribute [local irreducible] LW
theorem AS (w:World)(n:Int)(low:Int)(high:Int)(_hn:Bn n)(_hlow:Bn low)(_hhigh:Bn high)  :
  Calls Tryz.prog 72 #[zI n,zI low,zI high] w (fun e w'=>e=.returned (.bool (decide (low≤n) && decide (n≤high)))∧w'=w):=by
 refine Ap [zI n,zI low,zI high] 15 Tryz.func72 Z Z sM ?_
 have a0:w=w:=rfl
 refine Z2 Z<|Z1 [0,0,0,0,0,0,0,0,0] Z<|Ad 2 Z ?_
 by_cases a1:low≤n
 ·exact D5 true Z Z (A5 a1) Aa<|Ad 3 Z<|Dc (decide (n≤high)) Z Z Z (Ae (e:=10) Z Z Z)<|Ac 2 Z<|A1<|Ag [6] Z (.bool<|decide (n≤high)) Z ⟨AJ (by simp[*]),a0⟩
 exact D5 false Z Z (A6 a1) Aa<|Ac 6 Z<|A1<|Ag [6] Z (.bool false) Z ⟨AJ (by simp[*]),a0⟩
theorem Bt (w:World)(n:Int)(low:Int)(high:Int)(_hn:Bn n)(_hlow:Bn low)(_hhigh:Bn high)  :
  Calls Tryz.prog 80 #[zI n,zI low,zI high] w (fun e w'=>e=.returned (.bool (decide (low≤n) && decide (n≤high)))∧w'=w):=by
 refine Ap [zI n,zI low,zI high] 15 Tryz.func80 Z Z sM ?_
 have a0:w=w:=rfl
 refine Z2 Z<|Z1 [0,0,0,0,0,0,0,0,0] Z<|Ad 2 Z ?_
 by_cases a1:low≤n
 ·exact D5 true Z Z (A5 a1) Aa<|Ad 3 Z<|Dc (decide (n≤high)) Z Z Z (Ae (e:=10) Z Z Z)<|Ac 2 Z<|A1<|Ag [6] Z (.bool<|decide (n≤high)) Z ⟨AJ (by simp[*]),a0⟩
 exact D5 false Z Z (A6 a1) Aa<|Ac 6 Z<|A1<|Ag [6] Z (.bool false) Z ⟨AJ (by simp[*]),a0⟩
theorem Cp (w:World)(n:Int)(_hn:Bn n)  :
  Calls Tryz.prog 214 #[zI n] w (fun e w'=>e=.returned (zI (md n))∧w'=w):=by
 refine Ap [zI n] 7 Tryz.func214 Z Z sM ?_
 have a0:w=w:=rfl
 exact Z2 Z<|Z1 [0,0,0,0,0] Z<|Ad 1 Z<|D4 (n.tmod 1000003) Z Z (by decide) Z Aa<|AM (wr ((n.tmod 1000003)+((1000003:Nat):Int))) Z Z Z Aa<|D4 ((wr ((n.tmod 1000003)+((1000003:Nat):Int))).tmod 1000003) Z Z (by decide) Z Aa<|Ac 1 Z<|A1<|Ag [2] Z (zI<|(wr ((n.tmod 1000003)+((1000003:Nat):Int))).tmod 1000003) Z ⟨B2<|U9 n,a0⟩
theorem FS (w:World)(a:Int)(b:Int)(_ha:Bn a)(_hb:Bn b)  :
  Calls Tryz.prog 173 #[zI a,zI b] w (fun e w'=>e=.returned (zI (md (a+b)))∧w'=w):=by
 refine Ap [zI a,zI b] 11 Tryz.func173 Z Z sM ?_
 have a0:w=w:=rfl
 exact Z2 Z<|Z1 [0,0,0,0,0,0,0] Z<|Ad 1 Z<|Ax 214 [] [] [zI a] Z Z KE Aa (zI<|md a) (fun wq=>Cp wq _ _ha)<|Ad 1 Z<|Ax 214 [] [] [zI b] Z Z KE Aa (zI<|md b) (fun wq=>Cp wq _ _hb)<|AM (wr ((md a)+(md b))) Z Z Z Aa<|D4 ((wr ((md a)+(md b))).tmod 1000003) Z Z (by decide) Z Aa<|Ac 1 Z<|A1<|Ag [4] Z (zI<|(wr ((md a)+(md b))).tmod 1000003) Z ⟨B2<|ND a b,a0⟩
theorem HU (w:World)(a:Int)(b:Int)(_ha:Bn a)(_hb:Bn b)  :
  Calls Tryz.prog 175 #[zI a,zI b] w (fun e w'=>e=.returned (zI (md (a*b)))∧w'=w):=by
 refine Ap [zI a,zI b] 11 Tryz.func175 Z Z sM ?_
 have a0:w=w:=rfl
 exact Z2 Z<|Z1 [0,0,0,0,0,0,0] Z<|Ad 1 Z<|Ax 214 [] [] [zI a] Z Z KE Aa (zI<|md a) (fun wq=>Cp wq _ _ha)<|Ad 1 Z<|Ax 214 [] [] [zI b] Z Z KE Aa (zI<|md b) (fun wq=>Cp wq _ _hb)<|Ed (wr ((md a)*(md b))) Z Z Z Aa<|D4 ((wr ((md a)*(md b))).tmod 1000003) Z Z (by decide) Z Aa<|Ac 1 Z<|A1<|Ag [4] Z (zI<|(wr ((md a)*(md b))).tmod 1000003) Z ⟨B2<|LJ a b,a0⟩
theorem Ff (w:World)(a:Int)(b:Int)(_ha:Bn a)(_hb:Bn b)  :
  Calls Tryz.prog 174 #[zI a,zI b] w (fun e w'=>e=.returned (zI (md (a-b)))∧w'=w):=by
 refine Ap [zI a,zI b] 10 Tryz.func174 Z Z sM ?_
 have a0:w=w:=rfl
 exact Z2 Z<|Z1 [0,0,0,0,0,0] Z<|Ad 2 Z<|Ax 214 [] [] [zI b] Z Z KE Aa (zI<|md b) (fun wq=>Cp wq _ _hb)<|Br (wr (((1000003:Nat):Int)-(md b))) Z Z Z Aa<|Ax 173 [] [] [zI a,zI<|wr (((1000003:Nat):Int)-(md b))] Z Z QP Aa (zI<|md (a+(wr (((1000003:Nat):Int)-(md b))))) (fun wq=>FS wq _ _ _ha<|KI _)<|Ac 1 Z<|A1<|Ag [4] Z (zI<|md (a+(wr (((1000003:Nat):Int)-(md b))))) Z ⟨B2<|Px a b,a0⟩
theorem V6 (n:Int)(h:n.tmod 1000003<((0:Nat):Int)):wr (n.tmod 1000003+((1000003:Nat):Int))=md n:=by
  have h1:=BQ n;have h2:=E0 n;have h3:=BQ (-n);have h4:=E0 (-n)
  rw[tm n]at h ⊢
  split at h
  · omega
  · rename_i h0
    rw[if_neg h0,EB zO (by omega)]
    have e1:md (-(md (-n))+((1000003:Nat):Int))=md (-(md (-n))):=RC _
    rw[MF,Int.neg_neg,LH zO (by omega)]at e1
    exact e1
theorem V7 (n:Int)(h:¬n.tmod 1000003<((0:Nat):Int)):n.tmod 1000003=md n:=by
  have h1:=BQ n;have h2:=E0 n;have h3:=BQ (-n);have h4:=E0 (-n)
  rw[tm n]at h ⊢
  split
  · rfl
  · rename_i h0
    rw[if_neg h0]at h
    have e0:md (-n)=0:=by omega
    have e1:=MF (-n)
    rw[e0,Int.neg_neg]at e1
    rw[e0,← e1]
    rfl
theorem QX {p:Prop}(h:p:=by first|exact B2 (V6 n (by assumption))|exact B2 (V7 n (by assumption))):p:=h
theorem Cq (w:World)(n:Int)(_hn:Bn n)  :
  Calls Tryz.prog 130 #[zI n] w (fun e w'=>e=.returned (zI (md n))∧w'=w):=by
 refine Ap [zI n] 11 Tryz.func130 Z Z sM ?_
 have a0:w=w:=rfl
 refine Z2 Z<|Z1 [0,0,0] Z<|Ad 1 Z<|D4 (n.tmod 1000003) Z Z (by decide) Z Aa<|Ac 1 Z<|A0<|Z1 [0,0] Z<|Ad 1 Z ?_
 by_cases a1:n.tmod 1000003<((0:Nat):Int)
 ·exact AC true Z Z (A5 a1) Aa<|Aj<|Af Z<|Ab _ [0,0,0] Z<|Ad 1 Z<|AM (wr ((n.tmod 1000003)+((1000003:Nat):Int))) Z Z Z Aa<|Ac 1 Z<|Z1 [0,0] Z<|Ac 2 Z<|A1<|Ag [2] Z (zI<|wr ((n.tmod 1000003)+((1000003:Nat):Int))) Z ⟨QX,a0⟩
 exact AC false Z Z (A6 a1) Aa<|Aj<|Ai Z<|A2<|Z1 [0,0] Z<|Ac 2 Z<|A1<|Ag [2] Z (zI<|n.tmod 1000003) Z ⟨QX,a0⟩
theorem FT (w:World)(a:Int)(b:Int)(_ha:Bn a)(_hb:Bn b)  :
  Calls Tryz.prog 70 #[zI a,zI b] w (fun e w'=>e=.returned (zI (md (a+b)))∧w'=w):=by
 refine Ap [zI a,zI b] 11 Tryz.func70 Z Z sM ?_
 have a0:w=w:=rfl
 exact Z2 Z<|Z1 [0,0,0,0,0,0,0] Z<|Ad 1 Z<|Ax 130 [] [] [zI a] Z Z KD Aa (zI<|md a) (fun wq=>Cq wq _ _ha)<|Ad 1 Z<|Ax 130 [] [] [zI b] Z Z KD Aa (zI<|md b) (fun wq=>Cq wq _ _hb)<|AM (wr ((md a)+(md b))) Z Z Z Aa<|D4 ((wr ((md a)+(md b))).tmod 1000003) Z Z (by decide) Z Aa<|Ac 1 Z<|A1<|Ag [4] Z (zI<|(wr ((md a)+(md b))).tmod 1000003) Z ⟨B2<|ND a b,a0⟩
theorem Cc (w:World)(a:Int)(b:Int)(_ha:Bn a)(_hb:Bn b)  :
  Calls Tryz.prog 69 #[zI a,zI b] w (fun e w'=>e=.returned (zI (md (a*b)))∧w'=w):=by
 refine Ap [zI a,zI b] 11 Tryz.func69 Z Z sM ?_
 have a0:w=w:=rfl
 exact Z2 Z<|Z1 [0,0,0,0,0,0,0] Z<|Ad 1 Z<|Ax 130 [] [] [zI a] Z Z KD Aa (zI<|md a) (fun wq=>Cq wq _ _ha)<|Ad 1 Z<|Ax 130 [] [] [zI b] Z Z KD Aa (zI<|md b) (fun wq=>Cq wq _ _hb)<|Ed (wr ((md a)*(md b))) Z Z Z Aa<|D4 ((wr ((md a)*(md b))).tmod 1000003) Z Z (by decide) Z Aa<|Ac 1 Z<|A1<|Ag [4] Z (zI<|(wr ((md a)*(md b))).tmod 1000003) Z ⟨B2<|LJ a b,a0⟩
theorem IB (w:World)(a:Int)(b:Int)(_ha:Bn a)(_hb:Bn b)(hs:-9223372036854775808≤a-b∧a-b≤9223372036854775807) :
  Calls Tryz.prog 241 #[zI a,zI b] w (fun e w'=>e=.returned (zI (md (a-b)))∧w'=w):=by
 refine Ap [zI a,zI b] 9 Tryz.func241 Z Z sM ?_
 have a0:w=w:=rfl
 exact Z2 Z<|Z1 [0,0,0,0,0] Z<|Ad 2 Z<|Br (wr (a-b)) Z Z Z Aa<|Ax 130 [] [] [zI<|wr (a-b)] Z Z KD Aa (zI<|md<|wr (a-b)) (fun wq=>Cq wq _<|KI _)<|Ac 1 Z<|A1<|Ag [4] Z (zI<|md<|wr (a-b)) Z ⟨B2 (by rw[EB hs.1 hs.2]),a0⟩
theorem Li {p:Prop}(h:p:=by exact⟨zO,by first|exact Uc hI.2 oM (by assumption)|exact RE hI.2 oM (by assumption)⟩):p:=h
theorem Lj (w:World)(a:Int)(n:Int)(_ha:Bn a)(_hn:Bn n)  :
  Calls Tryz.prog 254 #[zI a,zI n] w (fun e w'=>e=.returned (zI (pw a n))∧w'=w):=by
 refine Ap [zI a,zI n] 25 Tryz.func254 Z Z sM ?_
 have a0:w=w:=rfl
 refine Z2 Z<|A0<|Z1 [0,0] Z<|Ad 1 Z ?_
 by_cases a2:n<((0:Nat):Int)
 ·exact AC true Z Z (A5 a2) Aa<|Aj<|Af Z<|Z2 Z<|A1<|Am<|Ag [4] Z (zI ((0:Nat):Int)) Z ⟨B2<|Pz (by assumption),a0⟩
 refine AC false Z Z (A6 a2) Aa<|Aj<|Ai Z<|A2<|Z2 Z<|Z1 [0,0,0] Z<|Ad 1 Z<|Ax 130 [] [] [zI a] Z Z KD Aa (zI<|md a) (fun wq=>Cq wq _ _ha)<|Ac 1 Z<|A0<|A3 ?_
 refine AV (S:=Int×Int×Int) (fun⟨m,x,b⟩=>([(1,zI m),(5,zI x),(6,zI b)])) (fun⟨m,x,b⟩ W=>W=w∧(0≤m∧md (x*b ^ m.toNat)=md (a ^ n.toNat))∧m≤9223372036854775807∧(0≤x∧x<1000003)∧(0≤b∧b<1000003)) (fun⟨m,x,b⟩=>m.toNat) (n,((1:Nat):Int),md a) ⟨rfl,rfl,rfl,trivial⟩ ⟨a0,(by exact⟨zO,LK a n.toNat⟩),oM,oM,(by exact BT _)⟩ ?_
 clear a0
 rintro⟨m,x,b⟩ ρ3 w3 ⟨a1,hI,hm,hx,hb⟩
 refine A0<|Z1 [0,0] Z<|Ad 1 Z ?_
 by_cases a3:((0:Nat):Int)<m
 ·refine BH true Z Z (A5 a3) Aa<|Aj<|Af Z<|A2<|A3<|A0<|Z1 [0,0,0] Z<|Ad 1 Z<|D4 (m % 2) Z Z (by decide) (Z5 hI.1) Aa ?_
  by_cases a4:m % 2=((1:Nat):Int)
  ·refine Al true Z Z (A5 a4) Aa<|Aj<|Af Z<|Ab _ [0,0,0,0] Z<|Ad 2 Z<|Ax 69 [] [] [zI x,zI b] Z Z Mj Aa (zI<|md (x*b)) (fun wq=>Cc wq _ _ oM oM)<|Ac 1 Z<|Z1 [0,0,0,0] Z<|Ad 2 Z<|Ax 69 [] [] [zI b,zI b] Z Z Mj Aa (zI<|md (b*b)) (fun wq=>Cc wq _ _ oM oM)<|Ac 1 Z<|Ab _ [0,0,0] Z<|Ad 1 Z<|Nr (m / 2) Z Z (by decide) (Y5 hI.1 hm) Aa<|Ac 1 Z ?_
   exact⟨(m / 2,md (x*b),md (b*b)),_,rfl,zR,⟨a1,Li,oM,(by first|exact hx|exact BT _),(by exact BT _)⟩,zD⟩
  exact Al false Z Z (A6 a4) Aa<|Aj<|Ai Z<|A2<|Z1 [0,0,0,0] Z<|Ad 2 Z<|Ax 69 [] [] [zI b,zI b] Z Z Mj Aa (zI<|md (b*b)) (fun wq=>Cc wq _ _ oM oM)<|Ac 1 Z<|Ab _ [0,0,0] Z<|Ad 1 Z<|Nr (m / 2) Z Z (by decide) (Y5 hI.1 hm) Aa<|Ac 1 Z ⟨(m / 2,x,md (b*b)),_,rfl,zR,⟨a1,Li,oM,(by first|exact hx|exact BT _),(by exact BT _)⟩,zD⟩
 exact BH false Z Z (A6 a3) Aa<|Aj<|Ai Z<|A4<|Av<|Av<|Aq<|Z1 [0,0] Z<|Ac 2 Z<|A1<|Ag [4] Z (zI x) Z ⟨B2<|Py hI.2 hI.1 (by assumption) (by assumption) hx,a1⟩
theorem Lk (w:World)(a:Int)(n:Int)(_ha:Bn a)(_hn:Bn n)  :
  Calls Tryz.prog 215 #[zI a,zI n] w (fun e w'=>e=.returned (zI (pw a n))∧w'=w):=by
 refine Ap [zI a,zI n] 27 Tryz.func215 Z Z sM ?_
 have a0:w=w:=rfl
 refine Z2 Z<|A0<|Z1 [0,0] Z<|Ad 1 Z ?_
 by_cases a2:n<((0:Nat):Int)
 ·exact AC true Z Z (A5 a2) Aa<|Aj<|Af Z<|Z2 Z<|A1<|Am<|Ag [4] Z (zI ((0:Nat):Int)) Z ⟨B2<|Pz (by assumption),a0⟩
 refine AC false Z Z (A6 a2) Aa<|Aj<|Ai Z<|A2<|Z2 Z<|A0<|Z1 [0,0,0] Z<|Ad 1 Z<|Ax 214 [] [] [zI a] Z Z KE Aa (zI<|md a) (fun wq=>Cp wq _ _ha)<|Ac 1 Z<|A3 ?_
 refine AV (S:=Int×Int×Int) (fun⟨m,x,b⟩=>([(1,zI m),(5,zI x),(6,zI b)])) (fun⟨m,x,b⟩ W=>W=w∧(0≤m∧md (x*b ^ m.toNat)=md (a ^ n.toNat))∧m≤9223372036854775807∧(0≤x∧x<1000003)∧(0≤b∧b<1000003)) (fun⟨m,x,b⟩=>m.toNat) (n,((1:Nat):Int),md a) ⟨rfl,rfl,rfl,trivial⟩ ⟨a0,(by exact⟨zO,LK a n.toNat⟩),oM,oM,(by exact BT _)⟩ ?_
 clear a0
 rintro⟨m,x,b⟩ ρ3 w3 ⟨a1,hI,hm,hx,hb⟩
 refine A0<|Z1 [0,0] Z<|Ad 1 Z ?_
 by_cases a3:((0:Nat):Int)<m
 ·refine BH true Z Z (A5 a3) Aa<|Aj<|Af Z<|A2<|A0<|A3<|A0<|Z1 [0,0,0] Z<|Ad 1 Z<|D4 (m % 2) Z Z (by decide) (Z5 hI.1) Aa ?_
  by_cases a4:m % 2=((1:Nat):Int)
  ·refine Al true Z Z (A5 a4) Aa<|Aj<|Af Z<|Ab _ [0,0,0,0,0] Z<|Ad 2 Z<|Ed (wr (x*b)) Z Z Z Aa<|D4 (md (x*b)) Z Z (by decide) (LL hx hb) Aa<|Ac 1 Z<|Ab _ [0,0,0,0,0] Z<|Ad 2 Z<|Ed (wr (b*b)) Z Z Z Aa<|D4 (md (b*b)) Z Z (by decide) (LL hb hb) Aa<|Ac 1 Z<|Ab _ [0,0,0] Z<|Ad 1 Z<|Nr (m / 2) Z Z (by decide) (Y5 hI.1 hm) Aa<|Ac 1 Z ?_
   exact⟨(m / 2,md (x*b),md (b*b)),_,rfl,zR,⟨a1,Li,oM,(by first|exact hx|exact BT _),(by exact BT _)⟩,zD⟩
  exact Al false Z Z (A6 a4) Aa<|Aj<|Ai Z<|A2<|Ab _ [0,0,0,0,0] Z<|Ad 2 Z<|Ed (wr (b*b)) Z Z Z Aa<|D4 (md (b*b)) Z Z (by decide) (LL hb hb) Aa<|Ac 1 Z<|Ab _ [0,0,0] Z<|Ad 1 Z<|Nr (m / 2) Z Z (by decide) (Y5 hI.1 hm) Aa<|Ac 1 Z ⟨(m / 2,x,md (b*b)),_,rfl,zR,⟨a1,Li,oM,(by first|exact hx|exact BT _),(by exact BT _)⟩,zD⟩
 exact BH false Z Z (A6 a3) Aa<|Aj<|Ai Z<|A4<|Av<|Av<|Aq<|Z1 [0,0] Z<|Ac 2 Z<|A1<|Ag [4] Z (zI x) Z ⟨B2<|Py hI.2 hI.1 (by assumption) (by assumption) hx,a1⟩
theorem JY (w:World)(a:Int)(_ha:Bn a)  :
  Calls Tryz.prog 240 #[zI a] w (fun e w'=>e=.returned (zI (inv a))∧w'=w):=by
 refine Ap [zI a] 5 Tryz.func240 Z Z sM ?_
 have a0:w=w:=rfl
 exact Z2 Z<|Z1 [0,0,0] Z<|Ad 1 Z<|Ax 254 [] [] [zI a,zI ((1000001:Nat):Int)] Z Z XF Aa (zI<|pw a ((1000001:Nat):Int)) (fun wq=>Lj wq _ _ _ha oM)<|Ac 1 Z<|A1<|Ag [2] Z (zI<|pw a ((1000001:Nat):Int)) Z ⟨rfl,a0⟩
theorem FU (w:World)(a:Int)(_ha:Bn a)  :
  Calls Tryz.prog 176 #[zI a] w (fun e w'=>e=.returned (zI (inv a))∧w'=w):=by
 refine Ap [zI a] 5 Tryz.func176 Z Z sM ?_
 have a0:w=w:=rfl
 exact Z2 Z<|Z1 [0,0,0] Z<|Ad 1 Z<|Ax 215 [] [] [zI a,zI ((1000001:Nat):Int)] Z Z Xz Aa (zI<|pw a ((1000001:Nat):Int)) (fun wq=>Lk wq _ _ _ha oM)<|Ac 1 Z<|A1<|Ag [2] Z (zI<|pw a ((1000001:Nat):Int)) Z ⟨rfl,a0⟩
theorem DJ (w:World)(n:Int)(_hn:Bn n)  :
  Calls Tryz.prog 116 #[zI n] w (fun e w'=>e=.returned (.bool (GT n))∧w'=w):=by
 refine Ap [zI n] 5 Tryz.func116 Z Z sM ?_
 have a0:w=w:=rfl
 exact Z2 Z<|Z1 [0,0,0] Z<|Ad 1 Z<|Ax 72 [] [] [zI n,zI ((0:Nat):Int),zI ((1000002:Nat):Int)] Z Z Du Aa (.bool (decide (((0:Nat):Int)≤n) && decide (n≤((1000002:Nat):Int)))) (fun wq=>AS wq _ _ _ _hn oM oM)<|Ac 1 Z<|A1<|Ag [2] Z (.bool (decide (((0:Nat):Int)≤n) && decide (n≤((1000002:Nat):Int)))) Z ⟨AJ (by unfold GT;rfl),a0⟩
theorem EI (w:World)(n:Int)(_hn:Bn n)  :
  Calls Tryz.prog 168 #[zI n] w (fun e w'=>e=.returned (.bool (GT n))∧w'=w):=by
 refine Ap [zI n] 5 Tryz.func168 Z Z sM ?_
 have a0:w=w:=rfl
 exact Z2 Z<|Z1 [0,0,0] Z<|Ad 1 Z<|Ax 80 [] [] [zI n,zI ((0:Nat):Int),zI ((1000002:Nat):Int)] Z Z HS Aa (.bool (decide (((0:Nat):Int)≤n) && decide (n≤((1000002:Nat):Int)))) (fun wq=>Bt wq _ _ _ _hn oM oM)<|Ac 1 Z<|A1<|Ag [2] Z (.bool (decide (((0:Nat):Int)≤n) && decide (n≤((1000002:Nat):Int)))) Z ⟨AJ (by unfold GT;rfl),a0⟩
theorem Gq (w:World)(n:Int)(_hn:Bn n)  :
  Calls Tryz.prog 115 #[zI n] w (fun e w'=>e=.returned (.bool (!GT n))∧AE w w'):=by
 refine Ap [zI n] 6 Tryz.func115 Z Z sM ?_
 have a0:AE w w:=AE.refl w
 exact Z2 Z<|Z1 [0,0,0,0] Z<|Ad 1 Z<|Ax 116 [] [] [zI n] Z Z QN Aa (.bool<|GT n) (fun wq=>DJ wq _ _hn)<|Bq (!(GT n)) Z Z Aa<|Ac 1 Z<|A1<|Ag [2] Z (.bool (!(GT n))) Z ⟨rfl,a0⟩
def P7 {α:Type}(p:α→Bool)(l:List α):Int:=if l.any p then((l.findIdx p:Nat):Int)else -1
theorem QY {α:Type}{p:α→Bool}{l:List α}{k:Nat}(d:α)(h:∀j,j<k→p (l.getD j d)=false)(hk:k<l.length)(hp:p (l.getD k d)=true):((k:Nat):Int)=P7 p l:=by
  have e:∀j,(hj:j<l.length)→l.getD j d=l[j]:=fun j hj=>by simp[hj]
  have h1:l.any p=true:=List.any_eq_true.2 ⟨l[k],List.getElem_mem hk,by rw[← e k hk];exact hp⟩
  have h2:l.findIdx p=k:=by
    rw[List.findIdx_eq hk]
    refine⟨by rw[← e k hk];exact hp,fun j hj=>?_⟩
    have:=h j hj
    rw[e j (by omega)]at this
    exact this
  unfold P7;rw[if_pos h1,h2]
theorem TN {α:Type}{p:α→Bool}{l:List α}{k:Nat}(d:α)(h:∀j,j<k→p (l.getD j d)=false)(hk:l.length≤k):(-1:Int)=P7 p l:=by
  have h1:l.any p=false:=by
    rw[List.any_eq_false]
    intro x hx
    obtain⟨j,hj,rfl⟩:=List.getElem_of_mem hx
    have:=h j zO
    have e:l.getD j d=l[j]:=by simp[hj]
    rw[e]at this
    simp[this]
  unfold P7;rw[h1];rfl
theorem TO {α:Type}(p:α→Bool)(l:List α):decide (((0:Nat):Int)≤P7 p l)=l.any p:=by
  unfold P7
  split
  · rename_i h;rw[h];exact A5 zO
  · rename_i h;rw[Bool.not_eq_true]at h;rw[h];exact A6 zO
theorem Ov {α:Type}{p:α→Bool}{l:List α}{k:Nat}{d:α}(h:∀j,j<k→p (l.getD j d)=false)(hp:p (l.getD k d)=false):∀j,j<k+1→p (l.getD j d)=false:=by
  intro j hj
  by_cases e:j=k
  · subst e;exact hp
  · exact h j zO
theorem Da (w:World) (va:Value) (a:Sr) (q:Nat) (qf qc:List Value) (p:Int→Bool) (ha:Rd (B4 rI) w.heap va a) (hcf_q:((Tryz.prog.funcs[q]?).map fun fn=>(fn.name != "runtime.NumGoroutine") && fn.body.isSome) = some true) (hp:∀ (x:Int),Bn x→∀ w1,AE w w1→Calls Tryz.prog q (qf++[Value.int .i64 x]++qc).toArray w1 (fun e w2=>e = .returned (.bool (p x))∧AE w1 w2))  :
  Calls Tryz.prog 170 #[va,.func (.func q) qf.toArray qc.toArray] w (fun e w'=>e = .returned (zI (P7 p a))∧AE w w'):=by
 refine Ap [va,.func (.func q) qf.toArray qc.toArray] 19 Tryz.func170 Z Z sM ?_
 have a3:AE w w:=AE.refl w
 have aa:=ha.lenle
 refine Z2 Z<|A0<|Z1 [0,0,0] Z<|Ad 1 Z<|AP (v:=va) Bm Z ha.isSl Aa<|Ac 1 Z<|A3 ?_
 refine AV (S:=Nat) (fun k=>([(8,zI ((k :Nat):Int)),(0,va),(1,.func (.func q) qf.toArray qc.toArray),(7,zI ((a.length :Nat):Int))])) (fun k W=>AE w W∧k≤a.length∧(∀ j,j < k→p (a.getD j 0) = false)) (fun k=>a.length - k) 0 ⟨rfl,rfl,rfl,rfl,trivial⟩ ⟨a3,sD,(by intro j hj; omega)⟩ ?_
 clear a3
 rintro k ρ1 w1 ⟨a1,a4,hq⟩
 have a7:w.heap.size≤w1.heap.size:=a1.size
 refine Z1 [0] Z ?_
 by_cases a5:((k :Nat):Int) < ((a.length :Nat):Int)
 ·
  refine AC true Z Z (A5 a5) Aa<|Aj<|A0<|Af Z<|A2<|A0<|A3<|Z1 [0,0] Z<|Ac 2 Z<|Z1 [0,0,0,0,2,3] Z<|Ad 3 Z<|Az (v:=va) k Bm BC Z Z ha.isSl Z sD Aa ?_
  refine Ah (p:=Ay va k 1) (.inr Z) (zI<|a.getD k 0) AB Z (Bb a1 (ha.getI sD).1) Aa ?_
  have a0:=hp (a.getD k 0) (ha.getI sD).2 _ a1
  refine Au q qf qc _ Z Z hcf_q Aa a0 ?_
  rintro e3 w3 ⟨rfl,a2⟩
  refine ⟨_,rfl,a2,?_⟩
  have a8:=a2.size
  have a6:=a1.trans a2
  cases a9:p (a.getD k 0)
  ·
   refine Aj<|Ai Z<|A2<|Ab _ [0,0] Z<|AM ((k + 1 :Nat):Int) Z Z (Ba oM sD) Aa<|Ac 1 Z ?_
   exact ⟨k + 1,_,rfl,zR,⟨a6,sD,(by exact Ov hq (by assumption))⟩,by first | omega | (dsimp only; omega)⟩
  exact Aj<|Af Z<|Z1 [0,0] Z<|Ac 2 Z<|A1<|AF<|Am<|Am<|AF<|Am<|Ag [4] Z (zI ((k :Nat):Int)) Z ⟨B2<|QY 0 hq oM (by assumption),a6⟩
 exact AC false Z Z (A6 a5) Aa<|Aj<|A0<|Ai Z<|A4<|Av<|Av<|Aq<|Z2 Z<|A1<|Ag [4] Z (zI (-1)) Z ⟨B2<|TN 0 hq oM,a1⟩
theorem BW (w:World) (va:Value) (a:Sr) (q:Nat) (qf qc:List Value) (p:Int→Bool) (ha:Rd (B4 rI) w.heap va a) (hcf_q:((Tryz.prog.funcs[q]?).map fun fn=>(fn.name != "runtime.NumGoroutine") && fn.body.isSome) = some true) (hp:∀ (x:Int),Bn x→∀ w1,AE w w1→Calls Tryz.prog q (qf++[Value.int .i64 x]++qc).toArray w1 (fun e w2=>e = .returned (.bool (p x))∧AE w1 w2))  :
  Calls Tryz.prog 114 #[va,.func (.func q) qf.toArray qc.toArray] w (fun e w'=>e = .returned (.bool (a.any p))∧AE w w'):=by
 refine Ap [va,.func (.func q) qf.toArray qc.toArray] 9 Tryz.func114 Z Z sM ?_
 have a0:AE w w:=AE.refl w
 have a4:=ha.lenle
 refine Z2 Z<|Z1 [0,0,3,0,0] Z<|Ad 2 Z<|Au 170 [] [] [va,.func (.func q) qf.toArray qc.toArray] Z Z Xm Aa (Da _ _ _ q qf qc p (ha.ext g1 a0) hcf_q fun x hx w1 hw=>hp x hx w1<|a0.trans hw) ?_
 rintro e1 w1 ⟨rfl,a1⟩
 refine ⟨_,rfl,a1,?_⟩
 have a2:=a1.size
 have a3:=a0.trans a1
 exact D5 (decide (((0 :Nat):Int)≤P7 p a)) Z Z Z Aa<|Ac 1 Z<|A1<|Ag [4] Z (.bool<|decide (((0 :Nat):Int)≤P7 p a)) Z ⟨AJ<|TO p a,a3⟩
theorem Df (w:World)(va:Value)(a:Sr)(count:Int)(ha:Rd (B4 rI) w.heap va a)(_hcount:Bn count)  :
  Calls Tryz.prog 53 #[va,zI count] w (fun e w'=>e=.returned (.bool (decide ((a.length:Int)=count) && B9 a))∧AE w w'):=by
 refine Ap [va,zI count] 14 Tryz.func53 Z Z sM ?_
 have a0:AE w w:=AE.refl w
 have a5:=ha.lenle
 refine Z2 Z<|Z1 [0,0,0,0,0,0,3,0,0,0] Z<|Ad 1 Z<|AP (v:=va) Bm Z ha.isSl Aa<|Ad 1 Z ?_
 by_cases a2:(a.length:Int)=count
 ·refine Al true Z Z (A5 a2) Aa<|Ad 2 Z<|Au 114 [] [] [va,.func (.func 115) #[] #[]] Z Z Tt (Ae (e:=9) Z Z Z) (BW _ _ _ 115 [] [] (fun x=>!GT x) (ha.ext g1 a0) X6 fun x hx w1 hw=>Gq w1 x hx) ?_
  rintro e2 w2 ⟨rfl,a1⟩
  refine⟨_,rfl,a1,?_⟩
  have a3:=a1.size
  have a4:=a0.trans a1
  exact Bq (!(a.any fun x=>!GT x)) Z Z (Ae (e:=9) Z Z Z)<|Ac 2 Z<|A1<|Ag [4] Z (.bool (!(a.any fun x=>!GT x))) Z ⟨AJ (by first|(rw[NG];simp[*];done)|simp[*]),a4⟩
 exact Al false Z Z (A6 a2) Aa<|Ac 6 Z<|A1<|Ag [4] Z (.bool false) Z ⟨AJ (by first|(rw[NG];simp[*];done)|simp[*]),a0⟩
theorem HV (w:World)(va:Value)(a:Sr)(ha:Rd (B4 rI) w.heap va a)  :
  Calls Tryz.prog 112 #[va] w (fun e w'=>e=.returned (.bool (B9 a))∧AE w w'):=by
 refine Ap [va] 16 Tryz.func112 Z Z sM ?_
 have a1:AE w w:=AE.refl w
 have a6:=ha.lenle
 refine Z2 Z<|A0<|Z2 Z<|A3<|AV (S:=Nat) (fun k=>([(3,zI (k:Int)),(0,va)])) (fun k W=>AE w W∧k≤a.length∧((a.take k).all GT=true)) (fun k=>a.length-k) 0 ⟨rfl,rfl,trivial⟩ ⟨a1,sD,(by exact PA _ _)⟩ ?_
 clear a1
 rintro k ρ1 w1 ⟨a0,a2,hq⟩
 have a5:w.heap.size≤w1.heap.size:=a0.size
 refine A0<|Z1 [0,0,0,0] Z<|Ad 2 Z<|AP (v:=va) Bm Z ha.isSl Aa ?_
 by_cases a3:(k:Int)<(a.length:Int)
 ·refine AC true Z Z (A5 a3) Aa<|Aj<|Af Z<|A2<|A0<|A3<|Z1 [0,0,0,2,0,0] Z<|Ad 2 Z<|Az (v:=va) k Bm BC Z Z ha.isSl Z sD Aa ?_
  refine Ah (p:=Ay va k 1) (.inr Z) (zI<|a.getD k 0) AB Z (Bb a0 (ha.getI sD).1) Aa ?_
  refine Ax 168 [] [] [zI<|a.getD k 0] Z Z Tz Aa (.bool<|GT<|a.getD k 0) (fun wq=>EI wq _ (ha.getI sD).2)<|Bq (!(GT<|a.getD k 0)) Z Z Aa<|Aj ?_
  cases a4:(!(GT (a.getD k 0)))
  ·refine Ai (by first|rfl|exact zW a4)<|A2<|Ab _ [0,0,0] Z<|Ad 1 Z<|AM ((k+1:Nat):Int) Z Z (Ba oM sD) Aa<|Ac 1 Z ?_
   exact⟨k+1,_,rfl,⟨rfl,rfl,trivial⟩,⟨a0,sD,(by exact PB 0 hq oM (by simpa using ‹(!GT (a.getD k 0))=false›))⟩,zD⟩
  exact Af (by first|rfl|exact zW a4)<|Z2 Z<|A1<|AF<|Am<|Am<|AF<|Am<|Ag [2] Z (.bool false) Z ⟨AJ (PC (k:=k) 0 oM (by simpa using ‹(!GT (a.getD k 0))=true›)).symm,a0⟩
 exact AC false Z Z (A6 a3) Aa<|Aj<|Ai Z<|A4<|Av<|Av<|Aq<|Z2 Z<|A1<|Ag [2] Z (.bool true) Z ⟨AJ (PD hq oM).symm,a0⟩
theorem Fs (w:World)(va:Value)(a:Sr)(y:Int)(ha:Rd (B4 rI) w.heap va a)(_hy:Bn y)(hla:a.length≤1000000000000) :
  Calls Tryz.prog 207 #[va,zI y] w (fun e w'=>∃v0:Value,e=.returned (v0)∧AE w w'∧Fr (B8 rI 2) w.heap.size w'.heap.size w'.heap v0 (IP a y)):=by
 refine Ap [va,zI y] 24 Tryz.func207 Z Z sM ?_
 have a8:AE w w:=AE.refl w
 have an:=ha.lenle
 refine Z2 Z<|Z1 [3,0] Z (CH (rI) AI Bm BC Aa fun v1 w1 a3 af a9=>?_)
 have a4:=a3.size
 have aa:=a8.trans a3
 refine Ac 1 Z<|A0<|Z2 Z<|A3 ?_
 refine AV (S:=Nat×Value) (fun⟨k,vo⟩=>([(5,vo),(6,zI (k:Int)),(0,va),(1,zI y)])) (fun⟨k,vo⟩ W=>AE w W∧Fr (B8 rI 2) w.heap.size W.heap.size W.heap vo ((a.take k).map fun x=>md (x*y))∧k≤a.length) (fun⟨k,vo⟩=>a.length-k) (0,v1) ⟨rfl,rfl,rfl,rfl,trivial⟩ ⟨aa,a9.up o1,sD⟩ ?_
 clear a8 a9 af a3 a4 aa
 rintro⟨k,vo⟩ ρ2 w2 ⟨a2,a1,ab⟩
 have ag:w.heap.size≤w2.heap.size:=a2.size
 refine A0<|Z1 [0,0,0,0] Z<|Ad 2 Z<|AP (v:=va) Bm Z ha.isSl Aa ?_
 by_cases ac:(k:Int)<(a.length:Int)
 ·refine AC true Z Z (A5 ac) Aa<|Aj<|Af Z<|A2<|A0<|A3<|Ab _ [0,0,0,0,2,0,0,3,4,0] Z<|Ad 3 Z<|Az (v:=va) k Bm BC Z Z ha.isSl Z sD Aa ?_
  refine Ah (p:=Ay va k 1) (.inr Z) (zI<|a.getD k 0) AB Z (Bb a2 (ha.getI sD).1) Aa<|Ad 1 Z ?_
  refine Ax 69 [] [] [zI<|a.getD k 0,zI y] Z Z Mj Aa (zI<|md ((a.getD k 0)*y)) (fun wq=>Cc wq _ _ (ha.getI sD).2 _hy) (BI (u:=zI<|md ((a.getD k 0)*y)) (B:=w2.heap.size) AI Bm BC Z Z (KL w2.heap.size w2.heap.size _ _<|Dt _) (A7 _) Aa fun v5 w5 a5 al ad=>?_)
  have ah:=a5.size
  have a6:=a2.trans a5
  have a0:=a1.ext (o1) a5
  refine El (v:=vo) (a:=v5) Bm BC Z Z Z a0 a6.size ad.rd1 sD (by unfold maxLen;first|omega|assumption|(simp;done)|(simp;omega)) Aa fun v6 w6 F6 a7 ae ai=>?_
  have aj:AE w w6:=a7.below a6 (fun c hc=>A8 (A7 _) (ae c hc).1) a6.size
  have ak:=a7.size
  have am:=ad.chg (o1) a7 fun c hc=>zH<|ae c hc
  refine Ac 1 Z<|Ab _ [0,0,0] Z<|Ad 1 Z<|AM ((k+1:Nat):Int) Z Z (Ba oM sD) Aa<|Ac 1 Z ?_
  exact⟨(k+1,v6),_,rfl,zR,⟨aj,(by rw[E1 0 oM];exact ai.up o1),sD⟩,zD⟩
 exact AC false Z Z (A6 ac) Aa<|Aj<|Ai Z<|A4<|Av<|Av<|Aq<|Z1 [0,0] Z<|Ac 2 Z<|A1<|Ag [4] Z vo Z ⟨vo,rfl,a2,(by have h:=a1.up o1;rwa [za oM]at h)⟩
theorem CT (w:World)(va:Value)(a:Sr)(y:Int)(ha:Rd (B4 rI) w.heap va a)(_hy:Bn y)(hla:a.length≤1000000000000)(hqa:B9 a=true)(hy:0≤y∧y<1000003) :
  Calls Tryz.prog 181 #[va,zI y] w (fun e w'=>∃v0:Value,e=.returned (v0)∧AE w w'∧Fr (B8 rI 2) w.heap.size w'.heap.size w'.heap v0 (CQ a y)):=by
 refine Ap [va,zI y] 27 Tryz.func181 Z Z sM ?_
 have a4:AE w w:=AE.refl w
 have ah:=ha.lenle
 refine Z2 Z<|Z1 [0,0,3,0] Z<|Ad 1 Z<|AP (v:=va) Bm Z ha.isSl Aa (FI (n:=a.length) Bm BC Z Z Z sD Aa fun v1 w1 a2 aa a5=>?_)
 have a3:=a2.size
 have a6:=a4.trans a2
 refine Ac 1 Z<|A0<|Z1 [0,0,0] Z<|Ad 1 Z<|AP (v:=va) Bm Z ha.isSl Aa<|Ac 1 Z<|A3 ?_
 refine AV (S:=Nat) (fun k=>([(12,zI (k:Int)),(0,va),(1,zI y),(5,v1),(11,zI (a.length:Int))])) (fun k W=>AE w W∧Fr (B8 rI 2) w.heap.size W.heap.size W.heap v1 (FD k (CQ a y)<|List.replicate a.length 0)∧k≤a.length) (fun k=>a.length-k) 0 ⟨rfl,rfl,rfl,rfl,rfl,trivial⟩ ⟨a6,(by rw[Ht];exact a5.up o1),sD⟩ ?_
 clear a4 a5 aa a2 a3 a6
 rintro k ρ2 w2 ⟨a1,a0,a7⟩
 have ab:w.heap.size≤w2.heap.size:=a1.size
 have hml:=Hu k (CQ a y) (List.replicate a.length 0) sM
 rw[z5]at hml
 have hga:=C9 hqa k
 refine Z1 [0] Z ?_
 by_cases a8:(k:Int)<(a.length:Int)
 ·refine AC true Z Z (A5 a8) Aa<|Aj<|A0<|Af Z<|A2<|A0<|A3<|Z1 [0,0] Z<|Ac 2 Z<|Ab _ [0,0,0,0,0,2,0,0,0,0,4] Z<|Ad 4 Z<|Az (v:=va) k Bm BC Z Z ha.isSl Z sD Aa ?_
  refine Ah (p:=Ay va k 1) (.inr Z) (zI<|a.getD k 0) AB Z (Bb a1 (ha.getI sD).1) Aa<|Ad 1 Z<|Ed (wr ((a.getD k 0)*y)) Z Z Z Aa<|D4 (md (a.getD k 0*y)) Z Z (by decide) (LL hga hy) Aa ?_
  refine Az (v:=v1) k Bm BC Z Z a0.isSl Z sD Aa (GK (v:=v1) (w:=w2) GD Z Z (Dt _) a0 sD Aa fun w4 F4 a9 ag ac ad=>?_)
  have ae:AE w w4:=a9.below a1 (fun c hc=>A8 (A7 _) (ac c hc).1) a1.size
  have af:=a9.size
  refine Aj<|Ab _ [0,0] Z<|AM ((k+1:Nat):Int) Z Z (Ba oM sD) Aa<|Ac 1 Z ?_
  exact⟨k+1,_,rfl,zR,⟨ae,(by unfold CQ;rw[KQ sM oM];exact ad.up o1),sD⟩,zD⟩
 exact AC false Z Z (A6 a8) Aa<|Aj<|A0<|Ai Z<|A4<|Av<|Av<|Aq<|Z1 [0,0] Z<|Ac 2 Z<|A1<|Ag [4] Z v1 Z ⟨v1,rfl,a1,(by have h:=a0.up o1;rwa [IM sM (by simp;omega)]at h)⟩
theorem DT (w:World)(va:Value)(a:Sr)(vb:Value)(b:Sr)(ha:Rd (B4 rI) w.heap va a)(hb:Rd (B4 rI) w.heap vb b)(hla:a.length≤1000000000000)(hl:a.length≤b.length)(hqa:B9 a=true)(hqb:B9 b=true) :
  Calls Tryz.prog 129 #[va,vb] w (fun e w'=>∃v0:Value,e=.returned (v0)∧AE w w'∧Fr (B8 rI 2) w.heap.size w'.heap.size w'.heap v0 (Ea a b)):=by
 refine Ap [va,vb] 30 Tryz.func129 Z Z sM ?_
 have a5:AE w w:=AE.refl w
 have ah:=ha.lenle
 have ai:=hb.lenle
 refine Z2 Z<|Z1 [0,0,3,0] Z<|Ad 1 Z<|AP (v:=va) Bm Z ha.isSl Aa (FI (n:=a.length) Bm BC Z Z Z sD Aa fun v1 w1 a3 aa a6=>?_)
 have a4:=a3.size
 have a7:=a5.trans a3
 refine Ac 1 Z<|A0<|Z1 [0,0,0] Z<|Ad 1 Z<|AP (v:=va) Bm Z ha.isSl Aa<|Ac 1 Z<|A3 ?_
 refine AV (S:=Nat) (fun k=>([(12,zI (k:Int)),(0,va),(1,vb),(5,v1),(11,zI (a.length:Int))])) (fun k W=>AE w W∧Fr (B8 rI 2) w.heap.size W.heap.size W.heap v1 (FD k (Ea a b)<|List.replicate a.length 0)∧k≤a.length) (fun k=>a.length-k) 0 ⟨rfl,rfl,rfl,rfl,rfl,trivial⟩ ⟨a7,(by rw[Ht];exact a6.up o1),sD⟩ ?_
 clear a5 a6 aa a3 a4 a7
 rintro k ρ2 w2 ⟨a1,a0,a8⟩
 have ab:w.heap.size≤w2.heap.size:=a1.size
 have hml:=Hu k (Ea a b) (List.replicate a.length 0) sM
 rw[z5]at hml
 have hga:=C9 hqa k
 have hgb:=C9 hqb k
 refine Z1 [0] Z ?_
 by_cases a9:(k:Int)<(a.length:Int)
 ·refine AC true Z Z (A5 a9) Aa<|Aj<|A0<|Af Z<|A2<|A0<|A3<|Z1 [0,0] Z<|Ac 2 Z<|AW _ [0,0,0,0,0,1,0,0,0,1,0,0,0,4] mixed (by kernel_rfl)<|Ad 4 Z<|Az (v:=va) k Bm BC Z Z ha.isSl Z sD Aa ?_
  refine Ah (p:=Ay va k 1) (.inl Z) (zI<|a.getD k 0) AB Z (Bb a1.drew (ha.getI sD).1) Aa<|Ad 2 Z ?_
  refine Az (v:=vb) k Bm BC Z Z hb.isSl Z sD Aa ?_
  refine Ah (p:=Ay vb k 1) (.inl Z) (zI<|b.getD k 0) AB Z (Bb a1.drew (hb.getI sD).1) Aa<|AM (wr ((a.getD k 0)+(b.getD k 0))) Z Z Z Aa<|D4 (md (a.getD k 0+b.getD k 0)) Z Z (by decide) (RO hga hgb) Aa ?_
  refine Az (v:=v1) k Bm BC Z Z a0.isSl Z sD Aa (GK (v:=v1) (w:=w2.drew) GD Z Z (Dt _) a0 sD Aa fun w4 F4 a2 ag ac ad=>?_)
  replace a2:=a2.of_drew
  have ae:AE w w4:=a2.below a1 (fun c hc=>A8 (A7 _) (ac c hc).1) a1.size
  have af:=a2.size
  refine Aj<|Ab _ [0,0] Z<|AM ((k+1:Nat):Int) Z Z (Ba oM sD) Aa<|Ac 1 Z ?_
  exact⟨k+1,_,rfl,zR,⟨ae,(by unfold Ea;rw[KQ sM oM];exact ad.up o1),sD⟩,zD⟩
 exact AC false Z Z (A6 a9) Aa<|Aj<|A0<|Ai Z<|A4<|Av<|Av<|Aq<|Z1 [0,0] Z<|Ac 2 Z<|A1<|Ag [4] Z v1 Z ⟨v1,rfl,a1,(by have h:=a0.up o1;rwa [IM sM (by simp;omega)]at h)⟩
theorem Jv (w:World)(va:Value)(a:Sr)(vb:Value)(b:Sr)(ha:Rd (B4 rI) w.heap va a)(hb:Rd (B4 rI) w.heap vb b)(hla:a.length≤1000000000000)(hlb:b.length≤1000000000000)(hl:a.length≤b.length)(hqa:B9 a=true)(hqb:B9 b=true) :
  Calls Tryz.prog 179 #[va,vb] w (fun e w'=>∃v0:Value,e=.returned (v0)∧AE w w'∧Fr (B8 rI 2) w.heap.size w'.heap.size w'.heap v0 (Hz a b)):=by
 refine Ap [va,vb] 9 Tryz.func179 Z Z sM ?_
 have a7:AE w w:=AE.refl w
 have ab:=ha.lenle
 have ac:=hb.lenle
 refine Z2 Z<|Z1 [0,0,3,3,0] Z<|Ad 2 Z<|Au 181 [] [] [vb,zI ((1000002:Nat):Int)] Z Z Mm Aa (CT _ _ _ _ (hb.ext g1 a7) oM hlb hqb oM) ?_
 rintro e1 w1 ⟨a3,rfl,a4,a0⟩
 refine⟨_,rfl,a4,?_⟩
 have a8:=a4.size
 have a5:=a7.trans a4
 refine Au 129 [] [] [va,a3] Z Z Ok Aa (DT _ _ _ _ _ (ha.ext g1 a5) a0.rd1 hla (by simp;omega) hqa (by exact FL _ _)) ?_
 rintro e2 w2 ⟨a1,rfl,a6,a2⟩
 refine⟨_,rfl,a6,?_⟩
 have a9:=a6.size
 have aa:=a5.trans a6
 exact Ac 1 Z<|A1<|Ag [4] Z a1 Z ⟨a1,rfl,aa,(by rw[← PJ hl];exact(a2.up o1).low a5.size)⟩
theorem Dg (w:World)(va:Value)(a:Sr)(vb:Value)(b:Sr)(ha:Rd (B4 rI) w.heap va a)(hb:Rd (B4 rI) w.heap vb b)(hla:a.length≤1000000000000)(hl:a.length≤b.length)(hqa:B9 a=true)(hqb:B9 b=true) :
  Calls Tryz.prog 180 #[va,vb] w (fun e w'=>∃v0:Value,e=.returned (v0)∧AE w w'∧Fr (B8 rI 2) w.heap.size w'.heap.size w'.heap v0 (Cs a b)):=by
 refine Ap [va,vb] 43 Tryz.func180 Z Z sM ?_
 have a8:AE w w:=AE.refl w
 have am:=ha.lenle
 have an:=hb.lenle
 refine Z2 Z<|Z1 [0,0,3,0] Z<|Ad 1 Z<|AP (v:=va) Bm Z ha.isSl Aa (FI (n:=a.length) Bm BC Z Z Z sD Aa fun v1 w1 a5 af a9=>?_)
 have a6:=a5.size
 have aa:=a8.trans a5
 refine Ac 1 Z<|A0<|Z1 [0,0,0] Z<|Ad 1 Z<|AP (v:=va) Bm Z ha.isSl Aa<|Ac 1 Z<|A3 ?_
 refine AV (S:=Nat) (fun k=>([(13,zI (k:Int)),(0,va),(1,vb),(5,v1),(12,zI (a.length:Int))])) (fun k W=>AE w W∧Fr (B8 rI 2) w.heap.size W.heap.size W.heap v1 (FD k (Cs a b)<|List.replicate a.length 0)∧k≤a.length) (fun k=>a.length-k) 0 ⟨rfl,rfl,rfl,rfl,rfl,trivial⟩ ⟨aa,(by rw[Ht];exact a9.up o1),sD⟩ ?_
 clear a8 a9 af a5 a6 aa
 rintro k ρ2 w2 ⟨a3,a1,ab⟩
 have a7:w.heap.size≤w2.heap.size:=a3.size
 have hml:=Hu k (Cs a b) (List.replicate a.length 0) sM
 rw[z5]at hml
 have hga:=C9 hqa k
 refine Z1 [0] Z ?_
 by_cases ac:(k:Int)<(a.length:Int)
 ·refine AC true Z Z (A5 ac) Aa<|Aj<|A0<|Af Z<|A2<|A0<|A3<|Z1 [0,0] Z<|Ac 2 Z<|Z2 Z<|A3 ?_
  refine AV (S:=Nat) (fun i=>([(7,zI (i:Int)),(0,va),(1,vb),(5,v1),(6,zI (k:Int)),(12,zI (a.length:Int)),(13,zI (k:Int))])) (fun i W=>AE w W∧Fr (B8 rI 2) w.heap.size W.heap.size W.heap v1 ((FD k (Cs a b)<|List.replicate a.length 0).set k<|Mr a b k i)∧i≤k+1) (fun i=>k+1-i) 0 ⟨rfl,rfl,rfl,rfl,rfl,rfl,rfl,trivial⟩ ⟨a3,(by have h:=a1.up o1;rw[← PK (T:=Cs a b) sM oM]at h;exact h),sD⟩ ?_
  clear a1 a3 a7
  rintro i ρ4 w4 ⟨a2,a0,ad⟩
  have ag:w.heap.size≤w4.heap.size:=a2.size
  have hms:((FD k (Cs a b) (List.replicate a.length 0)).set k (Mr a b k i)).length=a.length:=by rw[z6];exact hml
  refine A0<|Z1 [0,0,0] Z<|Ad 2 Z ?_
  by_cases ae:(i:Int)≤(k:Int)
  ·refine Dc true Z Z (A5 ae) Aa<|Aj<|Af Z<|A2<|A0<|A3<|AW _ [0,0,0,0,0,1,0,0,0,1,0,0,0,0,0,1,0,0,0,0,4] mixed (by kernel_rfl)<|Ad 4 Z<|Az (v:=v1) k Bm BC Z Z a0.isSl Z sD Aa ?_
   refine Ah (p:=Ay v1 k 1) (.inl Z) (zI<|((FD k (Cs a b)<|List.replicate a.length 0).set k<|Mr a b k i).getD k 0) AB Z (a0.rd1.getI sD).1 Aa (Ad 2 Z ?_)
   refine Az (v:=va) i Bm BC Z Z ha.isSl Z sD Aa ?_
   refine Ah (p:=Ay va i 1) (.inl Z) (zI<|a.getD i 0) AB Z (Bb a2.drew (ha.getI sD).1) Aa<|Ad 3 Z<|Br ((k-i:Nat):Int) Z Z (Ba oM oM) Aa ?_
   refine Az (v:=vb) (k-i) Bm BC Z Z hb.isSl Z sD Aa ?_
   refine Ah (p:=Ay vb (k-i) 1) (.inl Z) (zI<|b.getD (k-i) 0) AB Z (Bb a2.drew (hb.getI sD).1) Aa<|Ed (wr ((a.getD i 0)*(b.getD (k-i) 0))) Z Z Z Aa<|AM (wr ((((FD k (Cs a b)<|List.replicate a.length 0).set k<|Mr a b k i).getD k 0)+(wr ((a.getD i 0)*(b.getD (k-i) 0))))) Z Z Z Aa ?_
   refine D4 (md (Mr a b k i+a.getD i 0*b.getD (k-i) 0)) Z Z (by decide) (by rw[Hv _ _ _ _ _ oM,if_pos rfl];exact Uf (NI _ _ _ _) (C9 hqa _) (C9 hqb _)) Aa<|Az (v:=v1) k Bm BC Z Z a0.isSl Z sD Aa ?_
   refine GK (v:=v1) (w:=w4.drew) GD Z Z (Dt _) a0 sD Aa fun w6 F6 a4 al ah ai=>?_
   replace a4:=a4.of_drew
   have aj:AE w w6:=a4.below a2 (fun c hc=>A8 (A7 _) (ah c hc).1) a2.size
   have ak:=a4.size
   refine Aj<|Ab _ [0,0,0] Z<|Ad 1 Z<|AM ((i+1:Nat):Int) Z Z (Ba oM sD) Aa<|Ac 1 Z ?_
   exact⟨i+1,_,rfl,zR,⟨aj,(by have h:=ai.up o1;rw[List.set_set]at h;exact h),sD⟩,zD⟩
  refine Dc false Z Z (A6 ae) Aa<|Aj<|Ai Z<|A4<|Av<|Av<|Aq<|Ab _ [0,0] Z<|AM ((k+1:Nat):Int) Z Z (Ba oM sD) Aa<|Ac 1 Z ?_
  exact⟨k+1,_,rfl,zR,⟨a2,(by have h:=a0.up o1;rw[show i=k+1 from by omega]at h;unfold Cs;rw[KQ sM oM];exact h),sD⟩,zD⟩
 exact AC false Z Z (A6 ac) Aa<|Aj<|A0<|Ai Z<|A4<|Av<|Av<|Aq<|Z1 [0,0] Z<|Ac 2 Z<|A1<|Ag [4] Z v1 Z ⟨v1,rfl,a3,(by have h:=a1.up o1;rwa [IM sM (by simp;omega)]at h)⟩
theorem Ft (w:World)(va:Value)(a:Sr)(vb:Value)(b:Sr)(ha:Rd (B4 rI) w.heap va a)(hb:Rd (B4 rI) w.heap vb b)(hla:a.length≤1000000000000)(hl:a.length≤b.length)(h1:0<b.length)(hqa:B9 a=true)(hqb:B9 b=true) :
  Calls Tryz.prog 182 #[va,vb] w (fun e w'=>∃v0:Value,e=.returned (v0)∧AE w w'∧Fr (B8 rI 2) w.heap.size w'.heap.size w'.heap v0 (Cm a b)):=by
 refine Ap [va,vb] 53 Tryz.func182 Z Z sM ?_
 have a5:AE w w:=AE.refl w
 have am:=ha.lenle
 have an:=hb.lenle
 refine Z2 Z<|A0<|AW _ [0,0,3,0,0,1,0,0,0] mixed (by kernel_rfl)<|Ad 1 Z<|AP (v:=va) Bm Z ha.isSl Aa (FI (n:=a.length) Bm BC Z Z Z sD Aa fun v1 w1 a2 ae a7=>?_)
 replace a2:=a2.of_drew
 have a6:=a2.size
 have a8:=a5.trans a2
 refine Ad 1 Z<|Az (v:=vb) 0 Bm BC Z Z hb.isSl Z sD Aa ?_
 refine Ah (p:=Ay vb 0 1) (.inl Z) (zI<|b.getD 0 0) AB Z (Bb a5.drew (hb.getI sD).1) Aa ?_
 refine Ax 176 [] [] [zI<|b.getD 0 0] Z Z TB Aa (zI<|inv<|b.getD 0 0) (fun wq=>FU wq _ (hb.getI sD).2)<|Ac 2 Z<|A0<|Z1 [0,0,0] Z<|Ad 1 Z<|AP (v:=va) Bm Z ha.isSl Aa<|Ac 1 Z<|A3 ?_
 refine AV (S:=Nat) (fun k=>([(19,zI (k:Int)),(0,va),(1,vb),(5,v1),(6,zI<|inv<|b.getD 0 0),(18,zI (a.length:Int))])) (fun k W=>AE w W∧Fr (B8 rI 2) w.heap.size W.heap.size W.heap v1 (FD k (Cm a b)<|List.replicate a.length 0)∧k≤a.length) (fun k=>a.length-k) 0 ⟨rfl,rfl,rfl,rfl,rfl,rfl,trivial⟩ ⟨a8,(by rw[Ht];exact a7.up o1),sD⟩ ?_
 clear a5 a7 ae a2 a6 a8
 rintro k ρ3 w3 ⟨a4,a1,a9⟩
 have af:w.heap.size≤w3.heap.size:=a4.size
 have hml:=Hu k (Cm a b) (List.replicate a.length 0) sM
 rw[z5]at hml
 have hga:=C9 hqa k
 refine Z1 [0] Z ?_
 by_cases aa:(k:Int)<(a.length:Int)
 ·refine AC true Z Z (A5 aa) Aa<|Aj<|A0<|Af Z<|A2<|A0<|A3<|Z1 [0,0] Z<|Ac 2 Z<|Z1 [0,0,0,2,0] Z<|Ad 2 Z<|Az (v:=va) k Bm BC Z Z ha.isSl Z sD Aa ?_
  refine Ah (p:=Ay va k 1) (.inr Z) (zI<|a.getD k 0) AB Z (Bb a4 (ha.getI sD).1) Aa<|Ac 1 Z<|A0<|Z2 Z<|A3 ?_
  refine AV (S:=Nat×Int) (fun⟨i,t⟩=>([(8,zI t),(9,zI (i:Int)),(0,va),(1,vb),(5,v1),(6,zI<|inv<|b.getD 0 0),(7,zI (k:Int)),(18,zI (a.length:Int)),(19,zI (k:Int))])) (fun⟨i,t⟩ W=>AE w W∧Fr (B8 rI 2) w.heap.size w3.heap.size W.heap v1 (FD k (Cm a b)<|List.replicate a.length 0)∧i≤k∧t=OJ a b (Cm a b) k i∧(0≤t∧t<1000003)) (fun⟨i,t⟩=>k-i) (0,a.getD k 0) ⟨rfl,rfl,rfl,rfl,rfl,rfl,rfl,rfl,rfl,trivial⟩ ⟨a4,a1,sD,(by rfl),(by exact C9 hqa k)⟩ ?_
  clear a1
  rintro⟨i,t⟩ ρ5 w5 ⟨a3,a0,ab,ht,htr⟩
  have ag:w.heap.size≤w5.heap.size:=a3.size
  refine A0<|Z1 [0,0,0] Z<|Ad 2 Z ?_
  by_cases ac:(i:Int)<(k:Int)
  ·refine AC true Z Z (A5 ac) Aa<|Aj<|Af Z<|A2<|A0<|A3<|AW _ [0,0,0,0,1,0,0,0,0,0,1,0,0,0] mixed (by kernel_rfl)<|Ad 3 Z<|Az (v:=v1) i Bm BC Z Z a0.isSl Z sD Aa ?_
   refine Ah (p:=Ay v1 i 1) (.inl Z) (zI<|(FD k (Cm a b)<|List.replicate a.length 0).getD i 0) AB Z (a0.rd1.getI sD).1 Aa (Ad 3 Z<|Br ((k-i:Nat):Int) Z Z (Ba oM oM) Aa ?_)
   refine Az (v:=vb) (k-i) Bm BC Z Z hb.isSl Z sD Aa ?_
   refine Ah (p:=Ay vb (k-i) 1) (.inl Z) (zI<|b.getD (k-i) 0) AB Z (Bb a3.drew (hb.getI sD).1) Aa<|Ed (wr (((FD k (Cm a b)<|List.replicate a.length 0).getD i 0)*(b.getD (k-i) 0))) Z Z Z Aa ?_
   refine Ax 174 [] [] [zI t,zI<|wr (((FD k (Cm a b)<|List.replicate a.length 0).getD i 0)*(b.getD (k-i) 0))] Z Z QQ Aa (zI<|md (t-(wr (((FD k (Cm a b)<|List.replicate a.length 0).getD i 0)*(b.getD (k-i) 0))))) (fun wq=>Ff wq _ _ oM<|KI _)<|Ac 1 Z<|Ab _ [0,0,0] Z<|Ad 1 Z<|AM ((i+1:Nat):Int) Z Z (Ba oM sD) Aa<|Ac 1 Z ?_
   exact⟨(i+1,md (t-(wr (((FD k (Cm a b) (List.replicate a.length 0)).getD i 0)*(b.getD (k-i) 0))))),_,rfl,zR,⟨a3.drew,a0,sD,(by rw[ht,Ue 0 oM (by simp;omega)];exact PL (FK a b) hqb),(by exact BT _)⟩,zD⟩
  refine AC false Z Z (A6 ac) Aa<|Aj<|Ai Z<|A4<|Av<|Av<|Aq<|Ab _ [0,0,0,0,0,0,0,4] Z<|Ad 4 Z<|Ed (wr (t*(inv<|b.getD 0 0))) Z Z Z Aa<|D4 (md (t*inv (b.getD 0 0))) Z Z (by decide) (LL htr<|RD _) Aa<|Az (v:=v1) k Bm BC Z Z a0.isSl Z sD Aa ?_
  refine GK (v:=v1) (w:=w5) GD Z Z (Dt _) a0 sD Aa fun w8 F8 ad al ah ai=>?_
  have aj:AE w w8:=ad.below a3 (fun c hc=>A8 (A7 _) (ah c hc).1) a3.size
  have ak:=ad.size
  refine Aj<|Ab _ [0,0] Z<|AM ((k+1:Nat):Int) Z Z (Ba oM sD) Aa<|Ac 1 Z ?_
  exact⟨k+1,_,rfl,zR,⟨aj,(by have h:=ai.up o1;rw[ht,show i=k from by omega]at h;rw[← RM oM sM];exact h),sD⟩,zD⟩
 exact AC false Z Z (A6 aa) Aa<|Aj<|A0<|Ai Z<|A4<|Av<|Av<|Aq<|Z1 [0,0] Z<|Ac 2 Z<|A1<|Ag [4] Z v1 Z ⟨v1,rfl,a4,(by have h:=a1.up o1;rwa [IM sM (by simp;omega)]at h)⟩
theorem Jw (w:World)(va:Value)(a:Sr)(ha:Rd (B4 rI) w.heap va a)(hla:a.length≤1000000000000) :
  Calls Tryz.prog 124 #[va] w (fun e w'=>∃v0:Value,e=.returned (v0)∧AE w w'∧Fr (B8 (B8 rI 2) 27) w.heap.size w'.heap.size w'.heap v0 (D9 a)):=by
 refine Ap [va] 20 Tryz.func124 Z Z sM ?_
 have a9:AE w w:=AE.refl w
 have au:=ha.lenle
 refine Z2 Z<|Z1 [3,0] Z (CH (B8 rI 2) o1 Bo Bs Aa fun v1 w1 a4 af aa=>?_)
 have a5:=a4.size
 have ab:=a9.trans a4
 refine Ac 1 Z<|A0<|Z1 [0,0,0] Z<|Ad 1 Z<|AP (v:=va) Bm Z ha.isSl Aa<|Ac 1 Z<|A3 ?_
 refine AV (S:=Nat×Value) (fun⟨k,vo⟩=>([(3,vo),(9,zI (k:Int)),(7,va),(8,zI (a.length:Int))])) (fun⟨k,vo⟩ W=>AE w W∧Fr (B8 (B8 rI 2) 27) w.heap.size W.heap.size W.heap vo ((a.take k).map fun x=>[x])∧k≤a.length) (fun⟨k,vo⟩=>a.length-k) (0,v1) ⟨rfl,rfl,rfl,rfl,trivial⟩ ⟨ab,aa.up o2,sD⟩ ?_
 clear a9 aa af a4 a5 ab
 rintro⟨k,vo⟩ ρ2 w2 ⟨a3,a2,ac⟩
 have ag:w.heap.size≤w2.heap.size:=a3.size
 refine Z1 [0] Z ?_
 by_cases ad:(k:Int)<(a.length:Int)
 ·refine AC true Z Z (A5 ad) Aa<|Aj<|A0<|Af Z<|A2<|A0<|A3<|Z1 [0,2,0] Z<|Az (v:=va) k Bm BC Z Z ha.isSl Z sD Aa ?_
  refine Ah (p:=Ay va k 1) (.inr Z) (zI<|a.getD k 0) AB Z (Bb a3 (ha.getI sD).1) Aa<|Ac 1 Z<|Ab _ [0,0,3,3,4,0] Z<|Ad 2 Z ?_
  refine BI (u:=zI<|a.getD k 0) (B:=w2.heap.size) AI Bm BC Z Z (KL w2.heap.size w2.heap.size _ _ (ha.getI sD).2) (A7 _) Aa fun v4 w4 a6 aq ah=>?_
  have ai:=a6.size
  have aj:=a3.trans a6
  have a0:=a2.ext (o2) a6
  refine BI (u:=v4) (B:=w2.heap.size) o1 Bo Bs Z Z ah (by first|exact A7 _|omega) Aa fun v5 w5 a7 ar ak=>?_
  have al:=a7.size
  have a8:=aj.trans a7
  have a1:=a0.ext (o2) a7
  refine KM o1 (v:=vo) (a:=v5) Bo Bs Z Z Z a1 a8.size ak oM a3.size sD (by unfold maxLen;first|omega|assumption|(simp;done)|(simp;omega)) Aa fun v6 w6 F6 ae am an=>?_
  have ao:AE w w6:=ae.below a8 (fun c hc=>A8 (A7 _) (am c hc).1) a8.size
  have ap:=ae.size
  refine Ac 1 Z<|Ab _ [0,0] Z<|AM ((k+1:Nat):Int) Z Z (Ba oM sD) Aa<|Ac 1 Z ?_
  exact⟨(k+1,v6),_,rfl,zR,⟨ao,(by rw[E1 0 oM];exact an.up o2),sD⟩,zD⟩
 exact AC false Z Z (A6 ad) Aa<|Aj<|A0<|Ai Z<|A4<|Av<|Av<|Aq<|Z1 [0,0] Z<|Ac 2 Z<|A1<|Ag [2] Z vo Z ⟨vo,rfl,a3,(by have h:=a2.up o2;rwa [za oM]at h)⟩
theorem Es (w:World)(va:Value)(a:List (Sr))(ha:Rd (B4 (B4 rI)) w.heap va a)(hla:a.length≤1000000000000)(h1:∀k,k<a.length→0<(a.getD k []).length) :
  Calls Tryz.prog 67 #[va] w (fun e w'=>∃v0:Value,e=.returned (v0)∧AE w w'∧Fr (B8 rI 2) w.heap.size w'.heap.size w'.heap v0 (a.map (fun s=>s.getD 0 0))):=by
 refine Ap [va] 21 Tryz.func67 Z Z sM ?_
 have aa:AE w w:=AE.refl w
 have au:=ha.lenle
 refine Z2 Z<|Z1 [3,0] Z (CH (rI) AI Bm BC Aa fun v1 w1 a4 ah ab=>?_)
 have a5:=a4.size
 have ac:=aa.trans a4
 refine Ac 1 Z<|A0<|Z1 [0,0,0] Z<|Ad 1 Z<|AP (v:=va) Bo Z ha.isSl Aa<|Ac 1 Z<|A3 ?_
 refine AV (S:=Nat×Value) (fun⟨k,vo⟩=>([(3,vo),(9,zI (k:Int)),(7,va),(8,zI (a.length:Int))])) (fun⟨k,vo⟩ W=>AE w W∧Fr (B8 rI 2) w.heap.size W.heap.size W.heap vo ((a.take k).map fun s=>s.getD 0 0)∧k≤a.length) (fun⟨k,vo⟩=>a.length-k) (0,v1) ⟨rfl,rfl,rfl,rfl,trivial⟩ ⟨ac,ab.up o1,sD⟩ ?_
 clear aa ab ah a4 a5 ac
 rintro⟨k,vo⟩ ρ2 w2 ⟨a2,a1,ad⟩
 have ai:w.heap.size≤w2.heap.size:=a2.size
 refine Z1 [0] Z ?_
 by_cases ae:(k:Int)<(a.length:Int)
 ·refine AC true Z Z (A5 ae) Aa<|Aj<|A0<|Af Z<|A2<|A0<|A3<|Z1 [0,2,0] Z<|Az (v:=va) k Bo Bs Z Z ha.isSl Z sD Aa ?_
  obtain⟨a6,aj,a3⟩:=ha.get (k:=k) [] sD
  have ak:=a3.lenle
  refine Ah (p:=Ay va k 1) (.inr Z) a6 BA Z (Bb a2 aj) Aa<|Ac 1 Z<|Ab _ [0,0,0,2,3,4,0] Z ?_
  have ap:=h1 k oM
  refine Ad 2 Z<|Az (v:=a6) 0 Bm BC Z Z a3.isSl Z sD Aa ?_
  refine Ah (p:=Ay a6 0 1) (.inr Z) (zI<|(a.getD k []).getD 0 0) AB Z (Bb a2 (a3.getI sD).1) Aa ?_
  refine BI (u:=zI<|(a.getD k []).getD 0 0) (B:=w2.heap.size) AI Bm BC Z Z (KL w2.heap.size w2.heap.size _ _ (a3.getI sD).2) (A7 _) Aa fun v5 w5 a7 aq af=>?_
  have al:=a7.size
  have a8:=a2.trans a7
  have a0:=a1.ext (o1) a7
  refine El (v:=vo) (a:=v5) Bm BC Z Z Z a0 a8.size af.rd1 sD (by unfold maxLen;first|omega|assumption|(simp;done)|(simp;omega)) Aa fun v6 w6 F6 a9 ag am=>?_
  have an:AE w w6:=a9.below a8 (fun c hc=>A8 (A7 _) (ag c hc).1) a8.size
  have ao:=a9.size
  have ar:=af.chg (o1) a9 fun c hc=>zH<|ag c hc
  refine Ac 1 Z<|Ab _ [0,0] Z<|AM ((k+1:Nat):Int) Z Z (Ba oM sD) Aa<|Ac 1 Z ?_
  exact⟨(k+1,v6),_,rfl,zR,⟨an,(by rw[E1 [] oM];exact am.up o1),sD⟩,zD⟩
 exact AC false Z Z (A6 ae) Aa<|Aj<|A0<|Ai Z<|A4<|Av<|Av<|Aq<|Z1 [0,0] Z<|Ac 2 Z<|A1<|Ag [2] Z vo Z ⟨vo,rfl,a2,(by have h:=a1.up o1;rwa [za oM]at h)⟩
theorem Fu (w:World)(dex:Nat)(ve:Value)(ex:Ex)(hex:RX [] dex w.heap ve ex)(hs:ex.size≤1000000000) :
  Calls Tryz.prog 150 #[(.agg #[(zI ex.kind),(zI ex.num),(zI ex.pick),(zI ex.count),ve])] w (fun e w'=>e=.returned (zI (ex.size:Int))∧AE w w'):=by
 induction dex using Nat.strongRecOn generalizing w ve ex
 rename_i dex ih
 refine Ap [.agg #[zI ex.kind,zI ex.num,zI ex.pick,zI ex.count,ve]] 19 Tryz.func150 Z Z sM ?_
 have ab:AE w w:=AE.refl w
 have aw:=hex.rn.lenle
 unfold maxLen at aw
 have hsk:=DV ex
 refine Z1 [3,0] Z (Bx (cs:=#[zI ex.kind,zI ex.num,zI ex.pick,zI ex.count,ve]) Z Aa fun w1 a2 aj a3=>?_)
 have a4:=a2.size
 have ac:=ab.trans a2
 replace a3:BX w1.heap w.heap.size [zI ex.kind,zI ex.num,zI ex.pick,zI ex.count,ve]:=a3
 refine Ac 1 Z<|Z2 Z<|A0<|Z1 [0,2,0,0] Z<|Ak (p:=zP w.heap.size) 4 Bc Z Z Aa<|Ah (p:=Ao (zP w.heap.size) 4) (.inr Z) ve Bl Z (a3.ldp (i:=4) sM) Aa<|AP (v:=ve) CR Z hex.rn.isSl Aa<|Ac 1 Z<|A3 ?_
 refine AV (S:=Nat×Nat) (fun⟨k,sz⟩=>([(3,zI (sz:Int)),(9,zI (k:Int)),(7,ve),(8,zI (ex.kids.length:Int))])) (fun⟨k,sz⟩ W=>AE w W∧k≤ex.kids.length∧sz=1+Ex.sizes (ex.kids.take k)) (fun⟨k,sz⟩=>ex.kids.length-k) (0,1) ⟨rfl,rfl,rfl,rfl,trivial⟩ ⟨ac,sD,(by rw[List.take_zero,Kh])⟩ ?_
 clear ab aj a2 a4 ac
 rintro⟨k,sz⟩ ρ2 w2 ⟨a1,ad,hsz⟩
 have ak:w.heap.size≤w2.heap.size:=a1.size
 refine Z1 [0] Z ?_
 by_cases ae:(k:Int)<(ex.kids.length:Int)
 ·refine AC true Z Z (A5 ae) Aa<|Aj<|A0<|Af Z<|A2<|A0<|A3<|Z1 [0,2,3,4] Z ?_
  have hst:=CZ (l:=ex.kids) (k:=k) oM
  have hle:=CL ex.kids (k+1)
  have hdt:=ER (l:=ex.kids) (k:=k) oM
  have hda:=Ds<|ex.kids.getD k Ex.zero
  refine Az (v:=ve) k CR Bp Z Z hex.rn.isSl Z sD Aa ?_
  obtain⟨cs4,al,am⟩:=hex.rn.get (AD dex) Ex.zero (k:=k) sD
  obtain⟨dd4,a0,ar,rfl,a5⟩:=RX.of al
  have a6:=a5.rn.lenle
  unfold maxLen at a6
  refine AO (p:=Ay ve k 5) (.inr Z) [zI<|(ex.kids.getD k Ex.zero).kind,zI<|(ex.kids.getD k Ex.zero).num,zI<|(ex.kids.getD k Ex.zero).pick,zI<|(ex.kids.getD k Ex.zero).count,a0] B7 Z (fun ax a7=>am ax<|At.of_ext []<|a1.trans a7) Z Aa (Bj (z:=.agg #[zI 0,zI 0,zI 0,zI 0,zN]) GE Aa fun w5 af au a8=>?_)
  have an:=af.size
  have ag:=a1.trans af
  replace a8:BX w5.heap w2.heap.size [zI 0,zI 0,zI 0,zI 0,zN]:=a8
  refine Bw (vs:=[zI<|(ex.kids.getD k Ex.zero).kind,zI<|(ex.kids.getD k Ex.zero).num,zI<|(ex.kids.getD k Ex.zero).pick,zI<|(ex.kids.getD k Ex.zero).count,a0]) B7 Z Z a5.ones a8 Z Z Aa fun w6 ah av a9=>?_
  replace a9:BX w6.heap w2.heap.size [zI ((ex.kids.getD k Ex.zero).kind),zI ((ex.kids.getD k Ex.zero).num),zI ((ex.kids.getD k Ex.zero).pick),zI ((ex.kids.getD k Ex.zero).count),a0]:=a9
  have ai:AE w w6:=ah.below ag (fun _ h=>zE h) ag.size
  have ao:=ah.size
  refine Aj<|Ab _ [0,2,3,0,0] Z<|Ad 1 Z<|AO (p:=zP w2.heap.size) (.inr Z) [zI<|(ex.kids.getD k Ex.zero).kind,zI<|(ex.kids.getD k Ex.zero).num,zI<|(ex.kids.getD k Ex.zero).pick,zI<|(ex.kids.getD k Ex.zero).count,a0] B7 Z (fun ax a7=>LD.of_box<|BX.ext (w:=w6) a9 a7) Z Aa<|Au 150 [] [] [.agg #[zI<|(ex.kids.getD k Ex.zero).kind,zI<|(ex.kids.getD k Ex.zero).num,zI<|(ex.kids.getD k Ex.zero).pick,zI<|(ex.kids.getD k Ex.zero).count,a0]] Z Z QO Aa (ih dd4 oM _ a0 (ex.kids.getD k Ex.zero) (a5.ext ai) oM) ?_
  rintro e7 w7 ⟨rfl,aa⟩
  refine⟨_,rfl,aa,?_⟩
  have ap:=aa.size
  have aq:=ai.trans aa
  refine AM ((sz+(ex.kids.getD k Ex.zero).size:Nat):Int) Z Z (Ba oM oM) Aa<|Ac 1 Z<|Ab _ [0,0] Z<|AM ((k+1:Nat):Int) Z Z (Ba oM sD) Aa<|Ac 1 Z ?_
  exact⟨(k+1,sz+(ex.kids.getD k Ex.zero).size),_,rfl,zR,⟨aq,sD,oM⟩,zD⟩
 exact AC false Z Z (A6 ae) Aa<|Aj<|A0<|Ai Z<|A4<|Av<|Av<|Aq<|Z1 [0,0] Z<|Ac 2 Z<|A1<|Ag [2] Z (zI (sz:Int)) Z ⟨B2 (by rw[hsz,Kj oM,hsk]),a1⟩
theorem If (w:World)(dex:Nat)(ve:Value)(ex:Ex)(hex:RX [] dex w.heap ve ex)(hs:ex.size≤1000000000) :
  Calls Tryz.prog 196 #[(.agg #[(zI ex.kind),(zI ex.num),(zI ex.pick),(zI ex.count),ve])] w (fun e w'=>e=.returned (zI (ex.deep:Int))∧AE w w'):=by
 induction dex using Nat.strongRecOn generalizing w ve ex
 rename_i dex ih
 refine Ap [.agg #[zI ex.kind,zI ex.num,zI ex.pick,zI ex.count,ve]] 20 Tryz.func196 Z Z sM ?_
 have ab:AE w w:=AE.refl w
 have aw:=hex.rn.lenle
 unfold maxLen at aw
 have hsk:=DV ex
 have hdk:=Dr ex
 refine Z1 [3,0] Z (Bx (cs:=#[zI ex.kind,zI ex.num,zI ex.pick,zI ex.count,ve]) Z Aa fun w1 a2 aj a3=>?_)
 have a4:=a2.size
 have ac:=ab.trans a2
 replace a3:BX w1.heap w.heap.size [zI ex.kind,zI ex.num,zI ex.pick,zI ex.count,ve]:=a3
 refine Ac 1 Z<|Z2 Z<|A0<|Z1 [0,2,0,0] Z<|Ak (p:=zP w.heap.size) 4 Bc Z Z Aa<|Ah (p:=Ao (zP w.heap.size) 4) (.inr Z) ve Bl Z (a3.ldp (i:=4) sM) Aa<|AP (v:=ve) CR Z hex.rn.isSl Aa<|Ac 1 Z<|A3 ?_
 refine AV (S:=Nat×Nat) (fun⟨k,sz⟩=>([(3,zI (sz:Int)),(9,zI (k:Int)),(7,ve),(8,zI (ex.kids.length:Int))])) (fun⟨k,sz⟩ W=>AE w W∧k≤ex.kids.length∧sz=Ex.deeps (ex.kids.take k)) (fun⟨k,sz⟩=>ex.kids.length-k) (0,0) ⟨rfl,rfl,rfl,rfl,trivial⟩ ⟨ac,sD,(by rw[List.take_zero,Ki])⟩ ?_
 clear ab aj a2 a4 ac
 rintro⟨k,sz⟩ ρ2 w2 ⟨a1,ad,hsz⟩
 have ak:w.heap.size≤w2.heap.size:=a1.size
 refine Z1 [0] Z ?_
 by_cases ae:(k:Int)<(ex.kids.length:Int)
 ·refine AC true Z Z (A5 ae) Aa<|Aj<|A0<|Af Z<|A2<|A0<|A3<|Z1 [0,2,3,4] Z ?_
  have hst:=CZ (l:=ex.kids) (k:=k) oM
  have hle:=CL ex.kids (k+1)
  have hdt:=ER (l:=ex.kids) (k:=k) oM
  have hda:=Ds<|ex.kids.getD k Ex.zero
  refine Az (v:=ve) k CR Bp Z Z hex.rn.isSl Z sD Aa ?_
  obtain⟨cs4,al,am⟩:=hex.rn.get (AD dex) Ex.zero (k:=k) sD
  obtain⟨dd4,a0,ar,rfl,a5⟩:=RX.of al
  have a6:=a5.rn.lenle
  unfold maxLen at a6
  refine AO (p:=Ay ve k 5) (.inr Z) [zI<|(ex.kids.getD k Ex.zero).kind,zI<|(ex.kids.getD k Ex.zero).num,zI<|(ex.kids.getD k Ex.zero).pick,zI<|(ex.kids.getD k Ex.zero).count,a0] B7 Z (fun ax a7=>am ax<|At.of_ext []<|a1.trans a7) Z Aa (Bj (z:=.agg #[zI 0,zI 0,zI 0,zI 0,zN]) GE Aa fun w5 af au a8=>?_)
  have an:=af.size
  have ag:=a1.trans af
  replace a8:BX w5.heap w2.heap.size [zI 0,zI 0,zI 0,zI 0,zN]:=a8
  refine Bw (vs:=[zI<|(ex.kids.getD k Ex.zero).kind,zI<|(ex.kids.getD k Ex.zero).num,zI<|(ex.kids.getD k Ex.zero).pick,zI<|(ex.kids.getD k Ex.zero).count,a0]) B7 Z Z a5.ones a8 Z Z Aa fun w6 ah av a9=>?_
  replace a9:BX w6.heap w2.heap.size [zI ((ex.kids.getD k Ex.zero).kind),zI ((ex.kids.getD k Ex.zero).num),zI ((ex.kids.getD k Ex.zero).pick),zI ((ex.kids.getD k Ex.zero).count),a0]:=a9
  have ai:AE w w6:=ah.below ag (fun _ h=>zE h) ag.size
  have ao:=ah.size
  refine Aj<|Ab _ [0,2,3,0,0] Z<|Ad 1 Z<|AO (p:=zP w2.heap.size) (.inr Z) [zI<|(ex.kids.getD k Ex.zero).kind,zI<|(ex.kids.getD k Ex.zero).num,zI<|(ex.kids.getD k Ex.zero).pick,zI<|(ex.kids.getD k Ex.zero).count,a0] B7 Z (fun ax a7=>LD.of_box<|BX.ext (w:=w6) a9 a7) Z Aa<|Au 196 [] [] [.agg #[zI<|(ex.kids.getD k Ex.zero).kind,zI<|(ex.kids.getD k Ex.zero).num,zI<|(ex.kids.getD k Ex.zero).pick,zI<|(ex.kids.getD k Ex.zero).count,a0]] Z Z TD Aa (ih dd4 oM _ a0 (ex.kids.getD k Ex.zero) (a5.ext ai) oM) ?_
  rintro e7 w7 ⟨rfl,aa⟩
  refine⟨_,rfl,aa,?_⟩
  have ap:=aa.size
  have aq:=ai.trans aa
  refine Vm ((max sz ((ex.kids.getD k Ex.zero).deep):Nat):Int) oM Z Z Aa<|Ac 1 Z<|Ab _ [0,0] Z<|AM ((k+1:Nat):Int) Z Z (Ba oM sD) Aa<|Ac 1 Z ?_
  exact⟨(k+1,max sz ((ex.kids.getD k Ex.zero).deep)),_,rfl,zR,⟨aq,sD,oM⟩,zD⟩
 refine AC false Z Z (A6 ae) Aa<|Aj<|A0<|Ai Z<|A4<|Av<|Av<|Aq<|Z1 [0,0,0] Z ?_
 have h8:=I4 (l:=ex.kids) (k:=k) oM
 have h9:=Ds ex
 exact Ad 1 Z<|AM ((sz+1:Nat):Int) Z Z (Ba oM oM) Aa<|Ac 1 Z<|A1<|Ag [2] Z (zI ((sz+1:Nat):Int)) Z ⟨B2 (by rw[hsz,I4 oM,hdk]),a1⟩
theorem TP {b:Bool}(h:(!b)=false):b=true:=by cases b <;> simp_all
theorem XK {b:Bool}(h:(!b)=true):b=false:=by cases b <;> simp_all
theorem V8 {p:List Fn}{funcs vars:Int}{e:Ex}{b:Bool}(h:e.kids.length=0∨b=false)(hb:EU p funcs vars e=b):Ending.returned (.bool b)=.returned (.bool (wf p funcs e vars)):=by
  rcases h with h|h
  · rw[KR h,hb]
  · subst h;rw[← PG hb]
theorem BN {p:Prop}(h:p:=by first|exact AJ (KS hwn fun j hj=>hall j oM)|exact AJ (PH (k:=k) oM (by first|(rw[if_pos oM])|(rw[if_neg oM])) (XK ‹_›))|exact V8 (by first|exact .inr Z|(left;omega)|(left;simp_all <;> omega)) (by(have hp9:=hpl.symm;clear hpl;unfold EU FE;first|(simp[*];done)|(simp[*];omega)|(simp[*] <;> intros <;> omega)|(simp_all <;> omega)))):p:=h
theorem H0 {p:Prop}(h:p:=by(have hp9:=hpl.symm;clear hpl;unfold EU FE;first|(simp[*];done)|(simp[*];omega)|(simp[*] <;> intros <;> omega)|(simp_all <;> omega))):p:=h
theorem Nf {p:Prop}(h:p:=by intro j hj;by_cases e9:j=k;(rw[e9];first|(rw[if_pos oM];exact TP ‹_›)|(rw[if_neg oM];exact TP ‹_›));exact hall j oM):p:=h
theorem QZ {p:Prop}(h:p:=by unfold D0;first|(simp[*];done)|(simp[*];intros;omega)|(simp[*];omega)):p:=h
theorem H1 {p:Prop}(h:p:=by first|exact(A5 oM).symm|exact decide_eq_decide.2 oM):p:=h
theorem EJ (w:World)(dp:Nat)(vp:Value)(p:List Fn)(funcs:Int)(dex:Nat)(ve:Value)(ex:Ex)(vars:Int)(hp:RP [] dp w.heap vp p)(_hfuncs:Bn funcs)(hex:RX [] dex w.heap ve ex)(_hvars:Bn vars)(hs:0≤vars∧vars+(ex.deep:Int)≤2000000000)(hf:0≤funcs∧funcs≤(p.length:Int)) :
  Calls Tryz.prog 197 #[(.agg #[vp,(zI funcs)]),(.agg #[(zI ex.kind),(zI ex.num),(zI ex.pick),(zI ex.count),ve]),zI vars] w (fun e w'=>e=.returned (.bool (wf p funcs ex vars))∧AE w w'):=by
 induction dex using Nat.strongRecOn generalizing w dp vp p funcs ve ex vars
 rename_i dex ih
 refine Ap [.agg #[vp,zI funcs],.agg #[zI ex.kind,zI ex.num,zI ex.pick,zI ex.count,ve],zI vars] 177 Tryz.func197 Z Z sM ?_
 have d2:AE w w:=AE.refl w
 have ec:=hp.lenle
 unfold maxLen at ec
 have ed:=hex.rn.lenle
 unfold maxLen at ed
 have hdk:=Dr ex
 refine Z1 [3,3,0] Z (Bx (cs:=#[vp,zI funcs]) Z Aa fun w1 cq df co=>?_)
 have cr:=cq.size
 have d3:=d2.trans cq
 replace co:BX w1.heap w.heap.size [vp,zI funcs]:=co
 have e5:=co.lt
 refine Bx (cs:=#[zI ex.kind,zI ex.num,zI ex.pick,zI ex.count,ve]) Z Aa fun w2 cp dg bc=>?_
 have ct:=cp.size
 have cu:=d3.trans cp
 have bb:=co.ext cp
 replace bc:BX w2.heap w1.heap.size [zI ex.kind,zI ex.num,zI ex.pick,zI ex.count,ve]:=bc
 refine Ac 1 Z<|Z1 [0,2,0,0] Z<|Ak (p:=zP w1.heap.size) 4 Bc Z Z Aa<|Ah (p:=Ao (zP w1.heap.size) 4) (.inr Z) ve Bl Z (bc.ldp (i:=4) sM) Aa<|AP (v:=ve) CR Z hex.rn.isSl Aa<|Ac 1 Z<|A0<|Ip (S:=Bool) (fun(pl:Bool)=>([(8,.bool pl),(2,zI vars),(3,zP w.heap.size),(4,zP w1.heap.size),(7,zI (ex.kids.length:Int))])) (fun(pl:Bool) (W:World)=>AE w W∧BX W.heap w.heap.size [vp,zI funcs]∧BX W.heap w1.heap.size [zI ex.kind,zI ex.num,zI ex.pick,zI ex.count,ve]∧pl=D0 ex) ?_ ?_
 ·refine Ab _ [0,2,0,0,0,2,0,0,0] Z<|Ak (p:=zP w1.heap.size) 2 De Z Z Aa<|Ah (p:=Ao (zP w1.heap.size) 2) (.inr Z) (zI ex.pick) AB Z (bc.ldp (i:=2) sM) Aa ?_
  by_cases d4:ex.pick=((0:Nat):Int)
  ·exact Al true Z Z (A5 d4) Aa<|Ad 1 Z<|Ak (p:=zP w1.heap.size) 3 CX Z Z (Ae (e:=19) Z Z Z)<|Ah (p:=Ao (zP w1.heap.size) 3) (.inr Z) (zI ex.count) AB Z (bc.ldp (i:=3) sM) (Ae (e:=19) Z Z Z)<|Al (decide (ex.count=((0:Nat):Int))) Z Z Z (Ae (e:=19) Z Z Z)<|Ac 2 Z ⟨decide (ex.count=((0:Nat):Int)),_,rfl,zR,⟨cu,bb,bc,QZ⟩⟩
  exact Al false Z Z (A6 d4) Aa<|Ac 6 Z ⟨false,_,rfl,zR,⟨cu,bb,bc,QZ⟩⟩
 clear d2 df cq cr d3 dg cp ct cu
 rintro pl ρ4 w4 ⟨ag,a4,a1,hpl⟩
 have bf:w.heap.size≤w4.heap.size:=ag.size
 have e6:=a4.lt
 have e7:=a1.lt
 refine A0<|Ip (S:=Unit) (fun(u:Unit)=>([(2,zI vars),(3,zP w.heap.size),(4,zP w1.heap.size)])) (fun(u:Unit) (W:World)=>AE w W∧BX W.heap w.heap.size [vp,zI funcs]∧BX W.heap w1.heap.size [zI ex.kind,zI ex.num,zI ex.pick,zI ex.count,ve]∧EU p funcs vars ex=true) ?_ ?_
 ·refine Z1 [0,2] Z<|Ak (p:=zP w1.heap.size) 0 Bg Z Z Aa<|Ah (p:=Ao (zP w1.heap.size) 0) (.inr Z) (zI ex.kind) AB Z (a1.ldp (i:=0) sM) Aa<|Aj<|A3<|Z1 [0,0] Z ?_
  by_cases d5:ex.kind=((1:Nat):Int)
  ·refine Al true Z Z (A5 d5) Aa<|Ac 1 Z<|Af Z<|Z1 [0,0,0,0,0,0,0,2,0,0,0] Z<|Ad 2 Z ?_
   cases dh:pl
   ·exact Ac 9 Z<|A1<|AF<|Am<|Ag [6] Z (.bool false) Z ⟨BN,ag⟩
   refine Ad 1 Z ?_
   by_cases bg:(ex.kids.length:Int)=((0:Nat):Int)
   ·refine Al true Z Z (A5 bg) (Ae (e:=29) Z Z Z)<|Ad 2 Z<|Ak (p:=zP w1.heap.size) 1 BJ Z Z (Ae (e:=33) Z Z Z)<|Ah (p:=Ao (zP w1.heap.size) 1) (.inr Z) (zI ex.num) AB Z (a1.ldp (i:=1) sM) (Ae (e:=33) Z Z Z)<|Ax 116 [] [] [zI ex.num] Z Z QN (Ae (e:=33) Z Z Z) (.bool<|GT ex.num) (fun wq=>DJ wq _ hex.rng.num)<|Ac 2 Z<|A1<|AF<|Am ?_
    exact Ag [6] Z (.bool<|GT ex.num) Z ⟨BN,ag⟩
   exact Al false Z Z (A6 bg) (Ae (e:=29) Z Z Z)<|Ac 7 Z<|A1<|AF<|Am<|Ag [6] Z (.bool false) Z ⟨BN,ag⟩
  refine Al false Z Z (A6 d5) Aa<|Ac 1 Z<|Ai Z<|Z1 [0,0] Z ?_
  by_cases bh:ex.kind=((2:Nat):Int)
  ·refine Al true Z Z (A5 bh) Aa<|Ac 1 Z<|Af Z<|Z1 [0,0,0,0,0,0,0,2,0,0,0,0,0] Z<|Ad 2 Z ?_
   cases di:pl
   ·exact Ac 11 Z<|A1<|AF<|Am<|Ag [6] Z (.bool false) Z ⟨BN,ag⟩
   refine Ad 1 Z ?_
   by_cases bi:(ex.kids.length:Int)=((0:Nat):Int)
   ·refine Al true Z Z (A5 bi) (Ae (e:=41) Z Z Z)<|Ad 2 Z<|Ak (p:=zP w1.heap.size) 1 BJ Z Z (Ae (e:=45) Z Z Z)<|Ah (p:=Ao (zP w1.heap.size) 1) (.inr Z) (zI ex.num) AB Z (a1.ldp (i:=1) sM) (Ae (e:=45) Z Z Z)<|Ad 1 Z<|Br (vars-1) Z Z (D3 oM oM) (Ae (e:=45) Z Z Z)<|Ax 72 [] [] [zI ex.num,zI ((0:Nat):Int),zI (vars-1)] Z Z Du (Ae (e:=45) Z Z Z) (.bool (decide (((0:Nat):Int)≤ex.num) && decide (ex.num≤(vars-1)))) (fun wq=>AS wq _ _ _ hex.rng.num oM oM)<|Ac 2 Z<|A1<|AF ?_
    exact Am<|Ag [6] Z (.bool (decide (((0:Nat):Int)≤ex.num) && decide (ex.num≤(vars-1)))) Z ⟨BN,ag⟩
   exact Al false Z Z (A6 bi) (Ae (e:=41) Z Z Z)<|Ac 9 Z<|A1<|AF<|Am<|Ag [6] Z (.bool false) Z ⟨BN,ag⟩
  refine Al false Z Z (A6 bh) Aa<|Ac 1 Z<|Ai Z<|A0<|Ip (S:=Bool) (fun(b5:Bool)=>([(52,.bool b5),(2,zI vars),(3,zP w.heap.size),(4,zP w1.heap.size),(7,zI (ex.kids.length:Int)),(8,.bool pl),(25,zI ex.kind)])) (fun(b5:Bool) (W:World)=>AE w W∧BX W.heap w.heap.size [vp,zI funcs]∧BX W.heap w1.heap.size [zI ex.kind,zI ex.num,zI ex.pick,zI ex.count,ve]∧b5=decide (ex.kind=3∨ex.kind=4∨ex.kind=5∨ex.kind=6∨ex.kind=9)) ?_ ?_
  ·refine Z1 [0,0] Z ?_
   by_cases bj:ex.kind=((3:Nat):Int)
   ·exact Al true Z Z (A5 bj) Aa<|Ac 1 Z<|Af Z<|A2 ⟨true,_,rfl,zR,⟨ag,a4,a1,H1⟩⟩
   refine Al false Z Z (A6 bj) Aa<|Ac 1 Z<|Ai Z<|Z1 [0,0] Z ?_
   by_cases bk:ex.kind=((4:Nat):Int)
   ·exact Al true Z Z (A5 bk) Aa<|Ac 1 Z<|Af Z<|A2 ⟨true,_,rfl,zR,⟨ag,a4,a1,H1⟩⟩
   refine Al false Z Z (A6 bk) Aa<|Ac 1 Z<|Ai Z<|Z1 [0,0] Z ?_
   by_cases bl:ex.kind=((5:Nat):Int)
   ·exact Al true Z Z (A5 bl) Aa<|Ac 1 Z<|Af Z<|A2 ⟨true,_,rfl,zR,⟨ag,a4,a1,H1⟩⟩
   refine Al false Z Z (A6 bl) Aa<|Ac 1 Z<|Ai Z<|Z1 [0,0] Z ?_
   by_cases bm:ex.kind=((6:Nat):Int)
   ·exact Al true Z Z (A5 bm) Aa<|Ac 1 Z<|Af Z<|A2 ⟨true,_,rfl,zR,⟨ag,a4,a1,H1⟩⟩
   exact Al false Z Z (A6 bm) Aa<|Ac 1 Z<|Ai Z<|Ab _ [0,0] Z<|Al (decide (ex.kind=((9:Nat):Int))) Z Z Z Aa<|Ac 1 Z ⟨decide (ex.kind=((9:Nat):Int)),_,rfl,zR,⟨ag,a4,a1,H1⟩⟩
  clear a1 a4 ag bf
  rintro b5 ρ17 ef ⟨a2,a3,a0,h5b⟩
  have bn:w.heap.size≤ef.heap.size:=a2.size
  have dj:=a3.lt
  have dk:=a0.lt
  cases bo:b5
  ·refine Ai (by first|rfl|exact zW bo)<|Z1 [0,0] Z ?_
   have h5n:=of_decide_eq_false (h5b.symm.trans ‹_›)
   clear h5b
   by_cases bp:ex.kind=((7:Nat):Int)
   ·refine Al true Z Z (A5 bp) Aa<|Ac 1 Z<|Af Z<|Z1 [0,0,0,0,2,0,0,0,0,0,0] Z<|Ad 1 Z<|Bq (!pl) Z Z Aa<|Ad 1 Z ?_
    cases dl:(!pl)
    ·refine Ak (p:=zP w1.heap.size) 1 BJ Z Z (Ae (e:=73) Z Z Z)<|Ah (p:=Ao (zP w1.heap.size) 1) (.inr Z) (zI ex.num) AB Z (a0.ldp (i:=1) sM) (Ae (e:=73) Z Z Z) ?_
     by_cases bq:ex.num≠((0:Nat):Int)
     ·exact B5 true Z Z (A5 bq) (Ae (e:=73) Z Z Z)<|Ac 5 Z<|Af Z<|Z2 Z<|A1<|AF<|Am<|Ag [6] Z (.bool false) Z ⟨BN,a2⟩
     refine B5 false Z Z (A6 bq) (Ae (e:=73) Z Z Z)<|Ad 3 Z ?_
     by_cases br:(ex.kids.length:Int)≠((1:Nat):Int)
     ·exact B5 true Z Z (A5 br) (Ae (e:=78) Z Z Z)<|Ac 1 Z<|Af Z<|Z2 Z<|A1<|AF<|Am<|Ag [6] Z (.bool false) Z ⟨BN,a2⟩
     exact B5 false Z Z (A6 br) (Ae (e:=78) Z Z Z)<|Ac 1 Z<|Ai Z<|A2 ⟨(),_,rfl,zR,⟨a2,a3,a0,H0⟩⟩
    exact Ac 8 Z<|Af Z<|Z2 Z<|A1<|AF<|Am<|Ag [6] Z (.bool false) Z ⟨BN,a2⟩
   refine Al false Z Z (A6 bp) Aa<|Ac 1 Z<|Ai Z<|Z1 [0,0] Z ?_
   by_cases bs:ex.kind=((8:Nat):Int)
   ·refine Al true Z Z (A5 bs) Aa<|Ac 1 Z<|Af Z<|Z1 [0,0,0,0,2,0,0,0,0,0,0] Z<|Ad 1 Z<|Bq (!pl) Z Z Aa<|Ad 1 Z ?_
    cases dm:(!pl)
    ·refine Ak (p:=zP w1.heap.size) 1 BJ Z Z (Ae (e:=86) Z Z Z)<|Ah (p:=Ao (zP w1.heap.size) 1) (.inr Z) (zI ex.num) AB Z (a0.ldp (i:=1) sM) (Ae (e:=86) Z Z Z) ?_
     by_cases bt:ex.num≠((0:Nat):Int)
     ·exact B5 true Z Z (A5 bt) (Ae (e:=86) Z Z Z)<|Ac 5 Z<|Af Z<|Z2 Z<|A1<|AF<|Am<|Ag [6] Z (.bool false) Z ⟨BN,a2⟩
     refine B5 false Z Z (A6 bt) (Ae (e:=86) Z Z Z)<|Ad 3 Z ?_
     by_cases bu:(ex.kids.length:Int)≠((3:Nat):Int)
     ·exact B5 true Z Z (A5 bu) (Ae (e:=91) Z Z Z)<|Ac 1 Z<|Af Z<|Z2 Z<|A1<|AF<|Am<|Ag [6] Z (.bool false) Z ⟨BN,a2⟩
     exact B5 false Z Z (A6 bu) (Ae (e:=91) Z Z Z)<|Ac 1 Z<|Ai Z<|A2 ⟨(),_,rfl,zR,⟨a2,a3,a0,H0⟩⟩
    exact Ac 8 Z<|Af Z<|Z2 Z<|A1<|AF<|Am<|Ag [6] Z (.bool false) Z ⟨BN,a2⟩
   refine Al false Z Z (A6 bs) Aa<|Ac 1 Z<|Ai Z<|A0<|Ip (S:=Bool) (fun(b10:Bool)=>([(95,.bool b10),(2,zI vars),(3,zP w.heap.size),(4,zP w1.heap.size),(7,zI (ex.kids.length:Int))])) (fun(b10:Bool) (W:World)=>AE w W∧BX W.heap w.heap.size [vp,zI funcs]∧BX W.heap w1.heap.size [zI ex.kind,zI ex.num,zI ex.pick,zI ex.count,ve]∧b10=decide (ex.kind=10∨ex.kind=11)) ?_ ?_
   ·refine Z1 [0,0] Z ?_
    by_cases bv:ex.kind=((10:Nat):Int)
    ·exact Al true Z Z (A5 bv) Aa<|Ac 1 Z<|Af Z<|A2 ⟨true,_,rfl,zR,⟨a2,a3,a0,H1⟩⟩
    exact Al false Z Z (A6 bv) Aa<|Ac 1 Z<|Ai Z<|Ab _ [0,0] Z<|Al (decide (ex.kind=((11:Nat):Int))) Z Z Z Aa<|Ac 1 Z ⟨decide (ex.kind=((11:Nat):Int)),_,rfl,zR,⟨a2,a3,a0,H1⟩⟩
   clear a0 a3 a2 bn
   rintro b10 ρ33 e8 ⟨an,a6,a7,h10b⟩
   have d6:w.heap.size≤e8.heap.size:=an.size
   have dn:=a6.lt
   have dq:=a7.lt
   cases bw:b10
   ·refine Ai (by first|rfl|exact zW bw)<|Z1 [0] Z ?_
    have h10n:=of_decide_eq_false (h10b.symm.trans ‹_›)
    clear h10b
    exact Ac 1 Z<|A1<|AF<|Am<|Ag [6] Z (.bool false) Z ⟨BN,an⟩
   refine Af (by first|rfl|exact zW bw)<|A0<|Z1 [0,2,0,2,0,0,0] Z ?_
   have h5k:=of_decide_eq_true (h10b.symm.trans ‹_›)
   clear h10b
   refine Ak (p:=zP w1.heap.size) 1 BJ Z Z Aa<|Ah (p:=Ao (zP w1.heap.size) 1) (.inr Z) (zI ex.num) AB Z (a7.ldp (i:=1) sM) Aa<|Ak (p:=zP w.heap.size) 1 SS Z Z Aa<|Ah (p:=Ao (zP w.heap.size) 1) (.inr Z) (zI funcs) AB Z (a6.ldp (i:=1) sM) Aa<|Br (funcs-1) Z Z (D3 oM oM) Aa<|Ax 72 [] [] [zI ex.num,zI ((0:Nat):Int),zI (funcs-1)] Z Z Du Aa (.bool (decide (((0:Nat):Int)≤ex.num) && decide (ex.num≤(funcs-1)))) (fun wq=>AS wq _ _ _ hex.rng.num oM oM) ?_
   refine Bq (!(decide (((0:Nat):Int)≤ex.num) && decide (ex.num≤(funcs-1)))) Z Z Aa<|Aj ?_
   cases bx:(!(decide (((0:Nat):Int)≤ex.num) && decide (ex.num≤(funcs-1))))
   ·refine Ai (by first|rfl|exact zW bx)<|A2<|Z1 [0,0,2,0,2,0,2,3,4] Z ?_
    have hnr:0≤ex.num∧ex.num≤funcs-1:=by have h9:=‹(!(decide (((0:Nat):Int)≤ex.num) && decide (ex.num≤funcs-1)))=false›;simpa using h9
    refine Ak (p:=zP w.heap.size) 0 SR Z Z Aa<|Ak (p:=Ao (zP w.heap.size) 0) (b:=w.heap.size) (o:=0) 0 BG Z Z Aa<|Ah (p:=Ao (Ao (zP w.heap.size) 0) 0) (.inr Z) vp Cb Z (a6.ldp (i:=0) sM) Aa<|Ak (p:=zP w1.heap.size) 1 BJ Z Z Aa<|Ah (p:=Ao (zP w1.heap.size) 1) (.inr Z) (zI ex.num) AB Z (a7.ldp (i:=1) sM) Aa ?_
    refine Az (v:=vp) ((ex.num).toNat) Gp CN Z Z hp.isSl oM sD Aa ?_
    obtain⟨cs40,cv,cw⟩:=hp.get (AH dp) Fn.zero (k:=(ex.num).toNat) sD
    obtain⟨aa,rfl,ao⟩:=RF.of cv
    have bz:=ao.rn.lenle
    unfold maxLen at bz
    refine AO (p:=Ay vp ((ex.num).toNat) 3) (.inr Z) [.string<|(p.getD ((ex.num).toNat) Fn.zero).name,zI<|(p.getD ((ex.num).toNat) Fn.zero).params,aa] Ju Z (fun e9 ad=>cw e9<|At.of_ext []<|an.trans ad) Z Aa ?_
    have dr:=a6.lt
    have ds:=a7.lt
    refine Bj (z:=.agg #[.string ByteArray.empty,zI 0,zN]) V5 Aa fun eg ax dt bd=>?_
    have d7:=ax.size
    have c0:=an.trans ax
    have ai:=a6.ext ax
    have aj:=a7.ext ax
    replace bd:BX eg.heap e8.heap.size [.string ByteArray.empty,zI 0,zN]:=bd
    refine Bw (vs:=[.string<|(p.getD ((ex.num).toNat) Fn.zero).name,zI<|(p.getD ((ex.num).toNat) Fn.zero).params,aa]) Ju Z Z ao.ones bd Z Z Aa fun ee ay du ac=>?_
    replace ac:BX ee.heap e8.heap.size [.string ((p.getD ((ex.num).toNat) Fn.zero).name),zI ((p.getD ((ex.num).toNat) Fn.zero).params),aa]:=ac
    have a8:AE w ee:=ay.below c0 (fun _ h=>zE h) c0.size
    have d8:=ay.size
    have az:=ai.chg ay (zB ·)
    have a9:=aj.chg ay (zB ·)
    refine Aj<|A0<|Z1 [0,0,2,0,0,0,2,0,2,0,0,0,0,0] Z<|Ad 1 Z<|Ak (p:=zP e8.heap.size) 1 Co Z Z Aa<|Ah (p:=Ao (zP e8.heap.size) 1) (.inr Z) (zI<|(p.getD ((ex.num).toNat) Fn.zero).params) AB Z (ac.ldp (i:=1) sM) Aa ?_
    by_cases c1:(ex.kids.length:Int)≠(p.getD ((ex.num).toNat) Fn.zero).params
    ·exact B5 true Z Z (A5 c1) Aa<|Ac 10 Z<|Af Z<|Z2 Z<|A1<|Am<|AF<|Am<|Ag [6] Z (.bool false) Z ⟨BN,a8⟩
    refine B5 false Z Z (A6 c1) Aa<|Ad 1 Z<|Ak (p:=zP w1.heap.size) 2 De Z Z (Ae (e:=116) Z Z Z)<|Ah (p:=Ao (zP w1.heap.size) 2) (.inr Z) (zI ex.pick) AB Z (a9.ldp (i:=2) sM) (Ae (e:=116) Z Z Z)<|Ak (p:=zP e8.heap.size) 2 BU Z Z (Ae (e:=116) Z Z Z)<|Ah (p:=Ao (zP e8.heap.size) 2) (.inr Z) aa Bl Z (ac.ldp (i:=2) sM) (Ae (e:=116) Z Z Z)<|AP (v:=aa) CR Z ao.rn.isSl (Ae (e:=116) Z Z Z) ?_
    refine Br (((p.getD (ex.num).toNat Fn.zero).outs.length:Int)-1) Z Z (D3 oM oM) (Ae (e:=116) Z Z Z)<|Ax 72 [] [] [zI ex.pick,zI ((0:Nat):Int),zI (((p.getD (ex.num).toNat Fn.zero).outs.length:Int)-1)] Z Z Du (Ae (e:=116) Z Z Z) (.bool (decide (((0:Nat):Int)≤ex.pick) && decide (ex.pick≤(((p.getD (ex.num).toNat Fn.zero).outs.length:Int)-1)))) (fun wq=>AS wq _ _ _ hex.rng.pick oM oM)<|Bq (!(decide (((0:Nat):Int)≤ex.pick) && decide (ex.pick≤(((p.getD (ex.num).toNat Fn.zero).outs.length:Int)-1)))) Z Z (Ae (e:=116) Z Z Z)<|Ac 1 Z ?_
    cases c2:(!(decide (((0:Nat):Int)≤ex.pick) && decide (ex.pick≤(((p.getD (ex.num).toNat Fn.zero).outs.length:Int)-1))))
    ·refine Ai (by first|rfl|exact zW c2)<|A2<|Z1 [0,2,0,0,0,2,0,0,0,0,2,0,0,0,2,0,0,2,0,0,0,2,0,0,0,0,0] Z<|Ak (p:=zP w1.heap.size) 0 Bg Z Z Aa<|Ah (p:=Ao (zP w1.heap.size) 0) (.inr Z) (zI ex.kind) AB Z (a9.ldp (i:=0) sM) Aa ?_
     by_cases c3:ex.kind=((10:Nat):Int)
     ·refine Al true Z Z (A5 c3) Aa<|Ad 1 Z<|Ak (p:=zP w1.heap.size) 3 CX Z Z (Ae (e:=129) Z Z Z)<|Ah (p:=Ao (zP w1.heap.size) 3) (.inr Z) (zI ex.count) AB Z (a9.ldp (i:=3) sM) (Ae (e:=129) Z Z Z) ?_
      by_cases c4:ex.count≠((0:Nat):Int)
      ·exact B5 true Z Z (A5 c4) (Ae (e:=129) Z Z Z)<|Ac 20 Z<|Af Z<|Z2 Z<|A1<|AF<|Am<|Ag [6] Z (.bool false) Z ⟨BN,a8⟩
      refine B5 false Z Z (A6 c4) (Ae (e:=129) Z Z Z)<|Ad 2 Z<|Ak (p:=zP w1.heap.size) 0 Bg Z Z (Ae (e:=134) Z Z Z)<|Ah (p:=Ao (zP w1.heap.size) 0) (.inr Z) (zI ex.kind) AB Z (a9.ldp (i:=0) sM) (Ae (e:=134) Z Z Z) ?_
      by_cases c5:ex.kind=((11:Nat):Int)
      ·refine Al true Z Z (A5 c5) (Ae (e:=134) Z Z Z)<|Ad 1 Z<|Ak (p:=zP e8.heap.size) 2 BU Z Z (Ae (e:=138) Z Z Z)<|Ah (p:=Ao (zP e8.heap.size) 2) (.inr Z) aa Bl Z (ac.ldp (i:=2) sM) (Ae (e:=138) Z Z Z)<|AP (v:=aa) CR Z ao.rn.isSl (Ae (e:=138) Z Z Z)<|Ak (p:=zP e8.heap.size) 1 Co Z Z (Ae (e:=138) Z Z Z)<|Ah (p:=Ao (zP e8.heap.size) 1) (.inr Z) (zI<|(p.getD ((ex.num).toNat) Fn.zero).params) AB Z (ac.ldp (i:=1) sM) (Ae (e:=138) Z Z Z) ?_
       by_cases c6:((((p.getD ((ex.num).toNat) Fn.zero).outs).length:Nat):Int)≠(p.getD ((ex.num).toNat) Fn.zero).params
       ·exact B5 true Z Z (A5 c6) (Ae (e:=138) Z Z Z)<|Ac 8 Z<|Af Z<|Z2 Z<|A1<|AF<|Am<|Ag [6] Z (.bool false) Z ⟨BN,a8⟩
       refine B5 false Z Z (A6 c6) (Ae (e:=138) Z Z Z)<|Ad 1 Z<|Ak (p:=zP w1.heap.size) 3 CX Z Z (Ae (e:=145) Z Z Z)<|Ah (p:=Ao (zP w1.heap.size) 3) (.inr Z) (zI ex.count) AB Z (a9.ldp (i:=3) sM) (Ae (e:=145) Z Z Z)<|Ax 72 [] [] [zI ex.count,zI ((0:Nat):Int),zI ((8:Nat):Int)] Z Z Du (Ae (e:=145) Z Z Z) (.bool (decide (((0:Nat):Int)≤ex.count) && decide (ex.count≤((8:Nat):Int)))) (fun wq=>AS wq _ _ _ hex.rng.count oM oM)<|Bq (!(decide (((0:Nat):Int)≤ex.count) && decide (ex.count≤((8:Nat):Int)))) Z Z (Ae (e:=145) Z Z Z) ?_
       refine Ac 3 Z ?_
       cases c7:(!(decide (((0:Nat):Int)≤ex.count) && decide (ex.count≤((8:Nat):Int))))
       ·exact Ai (by first|rfl|exact zW c7)<|A2 ⟨(),_,rfl,zR,⟨a8,az,a9,H0⟩⟩
       exact Af (by first|rfl|exact zW c7)<|Z2 Z<|A1<|AF<|Am<|Ag [6] Z (.bool false) Z ⟨BN,a8⟩
      exact Al false Z Z (A6 c5) (Ae (e:=134) Z Z Z)<|Ac 15 Z<|Ai Z<|A2 ⟨(),_,rfl,zR,⟨a8,az,a9,H0⟩⟩
     refine Al false Z Z (A6 c3) Aa<|Ad 6 Z<|Ak (p:=zP w1.heap.size) 0 Bg Z Z (Ae (e:=134) Z Z Z)<|Ah (p:=Ao (zP w1.heap.size) 0) (.inr Z) (zI ex.kind) AB Z (a9.ldp (i:=0) sM) (Ae (e:=134) Z Z Z) ?_
     by_cases c8:ex.kind=((11:Nat):Int)
     ·refine Al true Z Z (A5 c8) (Ae (e:=134) Z Z Z)<|Ad 1 Z<|Ak (p:=zP e8.heap.size) 2 BU Z Z (Ae (e:=138) Z Z Z)<|Ah (p:=Ao (zP e8.heap.size) 2) (.inr Z) aa Bl Z (ac.ldp (i:=2) sM) (Ae (e:=138) Z Z Z)<|AP (v:=aa) CR Z ao.rn.isSl (Ae (e:=138) Z Z Z)<|Ak (p:=zP e8.heap.size) 1 Co Z Z (Ae (e:=138) Z Z Z)<|Ah (p:=Ao (zP e8.heap.size) 1) (.inr Z) (zI<|(p.getD ((ex.num).toNat) Fn.zero).params) AB Z (ac.ldp (i:=1) sM) (Ae (e:=138) Z Z Z) ?_
      by_cases c9:((((p.getD ((ex.num).toNat) Fn.zero).outs).length:Nat):Int)≠(p.getD ((ex.num).toNat) Fn.zero).params
      ·exact B5 true Z Z (A5 c9) (Ae (e:=138) Z Z Z)<|Ac 8 Z<|Af Z<|Z2 Z<|A1<|AF<|Am<|Ag [6] Z (.bool false) Z ⟨BN,a8⟩
      refine B5 false Z Z (A6 c9) (Ae (e:=138) Z Z Z)<|Ad 1 Z<|Ak (p:=zP w1.heap.size) 3 CX Z Z (Ae (e:=145) Z Z Z)<|Ah (p:=Ao (zP w1.heap.size) 3) (.inr Z) (zI ex.count) AB Z (a9.ldp (i:=3) sM) (Ae (e:=145) Z Z Z)<|Ax 72 [] [] [zI ex.count,zI ((0:Nat):Int),zI ((8:Nat):Int)] Z Z Du (Ae (e:=145) Z Z Z) (.bool (decide (((0:Nat):Int)≤ex.count) && decide (ex.count≤((8:Nat):Int)))) (fun wq=>AS wq _ _ _ hex.rng.count oM oM)<|Bq (!(decide (((0:Nat):Int)≤ex.count) && decide (ex.count≤((8:Nat):Int)))) Z Z (Ae (e:=145) Z Z Z) ?_
      refine Ac 3 Z ?_
      cases ca:(!(decide (((0:Nat):Int)≤ex.count) && decide (ex.count≤((8:Nat):Int))))
      ·exact Ai (by first|rfl|exact zW ca)<|A2 ⟨(),_,rfl,zR,⟨a8,az,a9,H0⟩⟩
      exact Af (by first|rfl|exact zW ca)<|Z2 Z<|A1<|AF<|Am<|Ag [6] Z (.bool false) Z ⟨BN,a8⟩
     exact Al false Z Z (A6 c8) (Ae (e:=134) Z Z Z)<|Ac 15 Z<|Ai Z<|A2 ⟨(),_,rfl,zR,⟨a8,az,a9,H0⟩⟩
    exact Af (by first|rfl|exact zW c2)<|Z2 Z<|A1<|Am<|AF<|Am<|Ag [6] Z (.bool false) Z ⟨BN,a8⟩
   exact Af (by first|rfl|exact zW bx)<|Z2 Z<|A1<|Am<|AF<|Am<|Ag [6] Z (.bool false) Z ⟨BN,an⟩
  refine Af (by first|rfl|exact zW bo)<|Z1 [0,0,0,0,2,0,0,0,0,0,0] Z ?_
  have h5k:=of_decide_eq_true (h5b.symm.trans ‹_›)
  clear h5b
  refine Ad 1 Z<|Bq (!pl) Z Z Aa<|Ad 1 Z ?_
  cases dv:(!pl)
  ·refine Ak (p:=zP w1.heap.size) 1 BJ Z Z (Ae (e:=60) Z Z Z)<|Ah (p:=Ao (zP w1.heap.size) 1) (.inr Z) (zI ex.num) AB Z (a0.ldp (i:=1) sM) (Ae (e:=60) Z Z Z) ?_
   by_cases cb:ex.num≠((0:Nat):Int)
   ·exact B5 true Z Z (A5 cb) (Ae (e:=60) Z Z Z)<|Ac 5 Z<|Af Z<|Z2 Z<|A1<|AF<|Am<|Ag [6] Z (.bool false) Z ⟨BN,a2⟩
   refine B5 false Z Z (A6 cb) (Ae (e:=60) Z Z Z)<|Ad 3 Z ?_
   by_cases cc:(ex.kids.length:Int)≠((2:Nat):Int)
   ·exact B5 true Z Z (A5 cc) (Ae (e:=65) Z Z Z)<|Ac 1 Z<|Af Z<|Z2 Z<|A1<|AF<|Am<|Ag [6] Z (.bool false) Z ⟨BN,a2⟩
   exact B5 false Z Z (A6 cc) (Ae (e:=65) Z Z Z)<|Ac 1 Z<|Ai Z<|A2 ⟨(),_,rfl,zR,⟨a2,a3,a0,H0⟩⟩
  exact Ac 8 Z<|Af Z<|Z2 Z<|A1<|AF<|Am<|Ag [6] Z (.bool false) Z ⟨BN,a2⟩
 clear a1 a4 ag bf
 rintro u ρ8 w8 ⟨cx,ap,ah,hwn⟩
 have cy:w.heap.size≤w8.heap.size:=cx.size
 have dw:=ap.lt
 have dx:=ah.lt
 refine A0<|Z1 [0,2,0,0] Z<|Ak (p:=zP w1.heap.size) 4 Bc Z Z Aa<|Ah (p:=Ao (zP w1.heap.size) 4) (.inr Z) ve Bl Z (ah.ldp (i:=4) sM) Aa<|AP (v:=ve) CR Z hex.rn.isSl Aa<|Ac 1 Z<|A3 ?_
 refine AV (S:=Nat) (fun k=>([(156,zI (k:Int)),(2,zI vars),(3,zP w.heap.size),(4,zP w1.heap.size),(154,ve),(155,zI (ex.kids.length:Int))])) (fun k W=>AE w W∧BX W.heap w.heap.size [vp,zI funcs]∧BX W.heap w1.heap.size [zI ex.kind,zI ex.num,zI ex.pick,zI ex.count,ve]∧k≤ex.kids.length∧(∀j,j<k→wf p funcs (ex.kids.getD j Ex.zero) (if ex.kind=9∧j=1 then vars+1 else vars)=true)) (fun k=>ex.kids.length-k) 0 ⟨rfl,rfl,rfl,rfl,rfl,rfl,trivial⟩ ⟨cx,ap,ah,sD,(by intro j hj;omega)⟩ ?_
 clear ah ap cx cy
 rintro k ρ65 eb ⟨b0,ae,af,cz,hall⟩
 have d9:w.heap.size≤eb.heap.size:=b0.size
 have dy:=ae.lt
 have dz:=af.lt
 refine Z1 [0] Z ?_
 by_cases cd:(k:Int)<(ex.kids.length:Int)
 ·refine AC true Z Z (A5 cd) Aa<|Aj<|A0<|Af Z<|A2<|A0<|A3<|Z1 [0,0,2,3,0,4] Z ?_
  have hkd:=DF (l:=ex.kids) (k:=k) oM
  refine Ad 1 Z<|Az (v:=ve) k CR Bp Z Z hex.rn.isSl Z sD Aa ?_
  obtain⟨cs69,d0,d1⟩:=hex.rn.get (AD dex) Ex.zero (k:=k) sD
  obtain⟨dd69,a5,e0,rfl,aq⟩:=RX.of d0
  have ce:=aq.rn.lenle
  unfold maxLen at ce
  refine AO (p:=Ay ve k 5) (.inr Z) [zI<|(ex.kids.getD k Ex.zero).kind,zI<|(ex.kids.getD k Ex.zero).num,zI<|(ex.kids.getD k Ex.zero).pick,zI<|(ex.kids.getD k Ex.zero).count,a5] B7 Z (fun e9 ad=>d1 e9<|At.of_ext []<|b0.trans ad) Z Aa ?_
  have e1:=ae.lt
  have e2:=af.lt
  refine Bj (z:=.agg #[zI 0,zI 0,zI 0,zI 0,zN]) GE Aa fun eh b1 e3 be=>?_
  have da:=b1.size
  have cf:=b0.trans b1
  have ak:=ae.ext b1
  have al:=af.ext b1
  replace be:BX eh.heap eb.heap.size [zI 0,zI 0,zI 0,zI 0,zN]:=be
  refine Ad 1 Z (Bw (vs:=[zI<|(ex.kids.getD k Ex.zero).kind,zI<|(ex.kids.getD k Ex.zero).num,zI<|(ex.kids.getD k Ex.zero).pick,zI<|(ex.kids.getD k Ex.zero).count,a5]) B7 Z Z aq.ones be Z Z Aa fun ea b2 e4 ar=>?_)
  replace ar:BX ea.heap eb.heap.size [zI ((ex.kids.getD k Ex.zero).kind),zI ((ex.kids.getD k Ex.zero).num),zI ((ex.kids.getD k Ex.zero).pick),zI ((ex.kids.getD k Ex.zero).count),a5]:=ar
  have ab:AE w ea:=b2.below cf (fun _ h=>zE h) cf.size
  have db:=b2.size
  have am:=ak.chg b2 (zB ·)
  have b3:=al.chg b2 (zB ·)
  refine Aj<|Z1 [0,0] Z<|Ac 2 Z<|A0<|Z1 [0,2,0,0,0,0,0] Z<|Ak (p:=zP w1.heap.size) 0 Bg Z Z Aa<|Ah (p:=Ao (zP w1.heap.size) 0) (.inr Z) (zI ex.kind) AB Z (b3.ldp (i:=0) sM) Aa ?_
  by_cases cg:ex.kind=((9:Nat):Int)
  ·refine Al true Z Z (A5 cg) Aa<|Ad 2 Z ?_
   by_cases ch:(k:Int)=((1:Nat):Int)
   ·refine Al true Z Z (A5 ch) (Ae (e:=165) Z Z Z)<|Ac 1 Z<|Af Z<|Ab _ [0,0,0] Z<|Ad 1 Z<|AM (vars+1) Z Z (D3 oM oM) Aa<|Ac 1 Z<|Z1 [2,2,0,3,0] Z<|AO (p:=zP w.heap.size) (.inr Z) [vp,zI funcs] Nd Z (fun e9 ad=>LD.of_box<|BX.ext (w:=ea) am ad) Z Aa<|AO (p:=zP eb.heap.size) (.inr Z) [zI<|(ex.kids.getD k Ex.zero).kind,zI<|(ex.kids.getD k Ex.zero).num,zI<|(ex.kids.getD k Ex.zero).pick,zI<|(ex.kids.getD k Ex.zero).count,a5] B7 Z (fun e9 ad=>LD.of_box<|BX.ext (w:=ea) ar ad) Z Aa<|Ad 1 Z ?_
    refine Au 197 [] [] [.agg #[vp,zI funcs],.agg #[zI<|(ex.kids.getD k Ex.zero).kind,zI<|(ex.kids.getD k Ex.zero).num,zI<|(ex.kids.getD k Ex.zero).pick,zI<|(ex.kids.getD k Ex.zero).count,a5],zI (vars+1)] Z Z On Aa (ih dd69 oM _ dp vp (p) (funcs) a5 (ex.kids.getD k Ex.zero) _ (hp.ext (An<|AH dp) ab) _hfuncs (aq.ext ab) oM oM oM) ?_
    rintro ei ej ⟨rfl,au⟩
    refine⟨_,rfl,au,?_⟩
    have dc:=au.size
    have ci:=ab.trans au
    have b4:=am.ext au
    have b6:=b3.ext au
    refine Bq (!(wf p funcs (ex.kids.getD k Ex.zero) (vars+1))) Z Z Aa<|Aj ?_
    cases cj:(!(wf p funcs (ex.kids.getD k Ex.zero) (vars+1)))
    ·refine Ai (by first|rfl|exact zW cj)<|A2<|Ab _ [0,0] Z<|AM ((k+1:Nat):Int) Z Z (Ba oM sD) Aa<|Ac 1 Z ?_
     exact⟨k+1,_,rfl,zR,⟨ci,b4,b6,sD,Nf⟩,zD⟩
    exact Af (by first|rfl|exact zW cj)<|Z2 Z<|A1<|AF<|Am<|Am<|AF<|Am<|Ag [6] Z (.bool false) Z ⟨BN,ci⟩
   refine Al false Z Z (A6 ch) (Ae (e:=165) Z Z Z)<|Ac 1 Z<|Ai Z<|A2<|Z1 [2,2,0,3,0] Z<|AO (p:=zP w.heap.size) (.inr Z) [vp,zI funcs] Nd Z (fun e9 ad=>LD.of_box<|BX.ext (w:=ea) am ad) Z Aa<|AO (p:=zP eb.heap.size) (.inr Z) [zI<|(ex.kids.getD k Ex.zero).kind,zI<|(ex.kids.getD k Ex.zero).num,zI<|(ex.kids.getD k Ex.zero).pick,zI<|(ex.kids.getD k Ex.zero).count,a5] B7 Z (fun e9 ad=>LD.of_box<|BX.ext (w:=ea) ar ad) Z Aa<|Ad 1 Z ?_
   refine Au 197 [] [] [.agg #[vp,zI funcs],.agg #[zI<|(ex.kids.getD k Ex.zero).kind,zI<|(ex.kids.getD k Ex.zero).num,zI<|(ex.kids.getD k Ex.zero).pick,zI<|(ex.kids.getD k Ex.zero).count,a5],zI vars] Z Z On Aa (ih dd69 oM _ dp vp (p) (funcs) a5 (ex.kids.getD k Ex.zero) _ (hp.ext (An<|AH dp) ab) _hfuncs (aq.ext ab) _hvars oM oM) ?_
   rintro ek el ⟨rfl,av⟩
   refine⟨_,rfl,av,?_⟩
   have dd:=av.size
   have ck:=ab.trans av
   have b7:=am.ext av
   have b8:=b3.ext av
   refine Bq (!(wf p funcs (ex.kids.getD k Ex.zero) vars)) Z Z Aa<|Aj ?_
   cases cl:(!(wf p funcs (ex.kids.getD k Ex.zero) vars))
   ·refine Ai (by first|rfl|exact zW cl)<|A2<|Ab _ [0,0] Z<|AM ((k+1:Nat):Int) Z Z (Ba oM sD) Aa<|Ac 1 Z ?_
    exact⟨k+1,_,rfl,zR,⟨ck,b7,b8,sD,Nf⟩,zD⟩
   exact Af (by first|rfl|exact zW cl)<|Z2 Z<|A1<|AF<|Am<|Am<|AF<|Am<|Ag [6] Z (.bool false) Z ⟨BN,ck⟩
  refine Al false Z Z (A6 cg) Aa<|Ac 4 Z<|Ai Z<|A2<|Z1 [2,2,0,3,0] Z<|AO (p:=zP w.heap.size) (.inr Z) [vp,zI funcs] Nd Z (fun e9 ad=>LD.of_box<|BX.ext (w:=ea) am ad) Z Aa<|AO (p:=zP eb.heap.size) (.inr Z) [zI<|(ex.kids.getD k Ex.zero).kind,zI<|(ex.kids.getD k Ex.zero).num,zI<|(ex.kids.getD k Ex.zero).pick,zI<|(ex.kids.getD k Ex.zero).count,a5] B7 Z (fun e9 ad=>LD.of_box<|BX.ext (w:=ea) ar ad) Z Aa<|Ad 1 Z ?_
  refine Au 197 [] [] [.agg #[vp,zI funcs],.agg #[zI<|(ex.kids.getD k Ex.zero).kind,zI<|(ex.kids.getD k Ex.zero).num,zI<|(ex.kids.getD k Ex.zero).pick,zI<|(ex.kids.getD k Ex.zero).count,a5],zI vars] Z Z On Aa (ih dd69 oM _ dp vp (p) (funcs) a5 (ex.kids.getD k Ex.zero) _ (hp.ext (An<|AH dp) ab) _hfuncs (aq.ext ab) _hvars oM oM) ?_
  rintro em en ⟨rfl,aw⟩
  refine⟨_,rfl,aw,?_⟩
  have de:=aw.size
  have cm:=ab.trans aw
  have b9:=am.ext aw
  have ba:=b3.ext aw
  refine Bq (!(wf p funcs (ex.kids.getD k Ex.zero) vars)) Z Z Aa<|Aj ?_
  cases cn:(!(wf p funcs (ex.kids.getD k Ex.zero) vars))
  ·refine Ai (by first|rfl|exact zW cn)<|A2<|Ab _ [0,0] Z<|AM ((k+1:Nat):Int) Z Z (Ba oM sD) Aa<|Ac 1 Z ?_
   exact⟨k+1,_,rfl,zR,⟨cm,b9,ba,sD,Nf⟩,zD⟩
  exact Af (by first|rfl|exact zW cn)<|Z2 Z<|A1<|AF<|Am<|Am<|AF<|Am<|Ag [6] Z (.bool false) Z ⟨BN,cm⟩
 exact AC false Z Z (A6 cd) Aa<|Aj<|A0<|Ai Z<|A4<|Av<|Av<|Aq<|Z2 Z<|A1<|Ag [6] Z (.bool true) Z ⟨BN,b0⟩
end
end Go.Proofs.YtemfgblmfahllaaGreat
