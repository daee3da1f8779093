/- Hb, Hc, Hd, He, Hf, Hg, Hh, Hi, Hj, Hk, Hl, Hm, Hq, T, Sa, Sb, Sc, Sf, Sk, Va, Vb, Vg, Vh, Vm, Sx, Sv, Sw, Xd: texts of this claim, joined; what the claim does not come to is left out. -/
import Derived.Test.YtbajepcpgncekaaGreatQG2
import Derived.Test.YtbajepcpgncekaaGreatProg
set_option linter.unusedVariables false
set_option linter.unusedSimpArgs false
namespace Go.Proofs.YtbajepcpgncekaaGreat
open Go Go.RowKit
section
def Uw (cs:List AK)(L:List Sr):Nat→List Sr→List Sr
 |0,B=>B
 |k+1,B=>if (cs.getD k AK.zero).op=1 then G6 (Uw cs L k B) (cs.getD k AK.zero).num (L.getD k [])else Uw cs L k B
def fY (ni m:Nat)(cs:List AK)(L:List Sr):List Sr:=Uw cs L cs.length (List.replicate ni (List.replicate m 0))
section
variable {m ni:Nat} {cs:List AK} {L B:List Sr}
theorem Ng {k:Nat}(h:(cs.getD k AK.zero).op=1):Uw cs L (k+1) B=G6 (Uw cs L k B) (cs.getD k AK.zero).num (L.getD k []):=if_pos h
theorem Nh {k:Nat}(h:(cs.getD k AK.zero).op≠1):Uw cs L (k+1) B=Uw cs L k B:=if_neg h
@[simp] theorem J5 (k:Nat):(Uw cs L k B).length=B.length:=by
 induction k with
 |zero=>rfl
 |succ k ih =>
  by_cases h:(cs.getD k AK.zero).op=1
  ·rw[Ng h,Ce,ih]
  ·rw[Nh h,ih]
theorem KG (m ni:Nat):BD m (List.replicate ni (List.replicate m 0)):=fun k hk=>by
 rw[z5]at hk
 have e:(List.replicate ni (List.replicate m (0:Int))).getD k []=List.replicate m 0:=by simp[List.getD_eq_getElem?_getD,hk]
 rw[e]
 exact⟨z5,Hp _⟩
theorem Mn (hf:∀k,k<cs.length→H8 B.length k (cs.getD k AK.zero))(h:BD m B):∀k,k≤cs.length→BD m (Uw cs L k B)
 |0,_=>h
 |k+1,hk=>by
  have ih:=Mn hf h k zO
  by_cases h1:(cs.getD k AK.zero).op=1
  ·rw[Ng h1]
   have:=(hf k zO).i1 h1
   exact Dj ih (by rw[J5];omega)
  ·rw[Nh h1];exact ih
theorem aA (hf:∀k,k<cs.length→H8 ni k (cs.getD k AK.zero)):BD m (fY ni m cs L):=Mn (fun k hk=>by rw[z5];exact hf k hk) (KG m ni) _ (A9 _)
@[simp] theorem Tq:(fY ni m cs L).length=ni:=by unfold fY;rw[J5,z5]
end
end
section
structure GZ {α:Type}(E:Bj α)(e:TypeId)(S:List Nat)(B:Nat)(H:Array Obj)(v:Value)(xs:List α)(us:List Value)(F:List Nat):Prop where
 own:AX rV e H v us F
 nd:F.Nodup
 low:∀b∈F,B≤b
 len:us.length=xs.length
 els:∀k x,xs[k]? = some x→RN (S++F) E H (us.getD k undef) x
section bld
variable {α:Type} {E:Bj α} {e:TypeId} {S F:List Nat} {B:Nat} {w w':World} {v:Value} {xs:List α} {us:List Value} {g:Nat}
theorem GZ.nil {U:Nat}{H:Array Obj}(h:Fr (AX rV e) B U H v []):∃us F,GZ E e S B H v [] us F:=by
 obtain⟨F,h1,h2,h3⟩:=h
 exact⟨[],F,h1,h2,fun b hb=>(h3 b hb).1,rfl,fun k x hk=>by simp at hk⟩
theorem GZ.lt {H:Array Obj}(h:GZ E e S B H v xs us F):∀b∈F,b<H.size:=(Bi Bf).lt h.own
theorem GZ.ext (hE:BS E)(h:GZ E e S B w.heap v xs us F)(k:AB w w'):GZ E e S B w'.heap v xs us F :=
 ⟨(Bi Bf).stable h.own fun b hb=>k.heap (h.lt b hb),h.nd,h.low,h.len,fun i x hi=>(h.els i x hi).ext hE k⟩
theorem GZ.cap {H:Array Obj}(h:GZ E e S B H v xs us F):Cn v:=h.own.cap
theorem Ni {S:List Nat}{H:Array Obj}:∀ {us:List Value}{xs:List α},us.length=xs.length→(∀k x,xs[k]? = some x→RN S E H (us.getD k undef) x)→∃G,Go.Proofs.YtbajepcpgncekaaGreat.els E H us xs G∧∀b∈G,b∉S
 |[],[],_,_=>⟨[],rfl,fun b hb=>by cases hb⟩
 |u::us,x::xs,hl,h=>by
  obtain⟨G1,q1,q2⟩:=h 0 x (by simp)
  obtain⟨G2,r1,r2⟩:=Ni (us:=us) (xs:=xs) (by simpa using hl) fun k y hk=>by
   have:=h (k+1) y (by simpa using hk)
   simpa using this
  exact⟨G1++G2,⟨G1,G2,rfl,by simpa using q1,r1⟩,fun b hb=>(zi.1 hb).elim (q2 b) (r2 b)⟩
theorem GZ.done {H:Array Obj}(h:GZ E e S B H v xs us F)(hS:∀b∈S,b<B):RN S (B3 E) H v xs:=by
 obtain⟨G,g1,g2⟩:=Ni h.len h.els
 have g2':∀b∈G,b∉S:=fun b hb hm=>g2 b hb (z8 _ hm)
 rcases h.own with⟨rfl,hus,rfl⟩|⟨vs,gb,cap,cur,F',hels,rfl,hg,r1,r2,r3,r4,hF⟩
 ·have:xs=[]:=List.eq_nil_of_length_eq_zero (by rw[← h.len,hus];rfl)
  subst this
  exact⟨[],.inl ⟨none,0,rfl,rfl,rfl⟩,fun b hb=>by cases hb⟩
 ·obtain⟨hv,hF0⟩:=FX hels
  subst hv
  have hl:=h.len
  refine⟨gb::G,.inr ⟨vs,gb,0,cap,cur,e,(0,0),G,g1,by rw[hl],hg,by simpa [hl]using r4,zO,rfl⟩,fun b hb hm=>?_⟩
  rcases ze.1 hb with rfl|hb
  ·have:=h.low b (by rw[hF];exact z0 ..)
   have:=hS b hm
   omega
  ·exact g2' b hb hm
end bld
section ops
variable {P:Program} {ops:Array Oper} {w0:World} {Q:Act→World→Prop} {os:List Oper} {ks:List Nat} {N:Nat} {ρ:Nat→Value} {w:World}
 {d:Nat} {ty:TypeId} {pos:String} {aft:Array Edge} {g:Option (Nat×Bool)} {t e:TypeId} {z:Value} {b:Nat}
theorem Mo {α:Type}{E:Bj α}(hE:BS E){x y:Operand}{v a u:Value}{xs:List α}{r:α}{us:List Value}{S F:List Nat}{B B' U':Nat}(ht:P.underlying t=some (.slice e))(hi:TI P e 1 z b)(hz:z.cells=#[z])(hx:Bw N ρ x=v)(hy:Bw N ρ y=a)
  (hv:GZ E e S B w.heap v xs us F) (hB:B≤w.heap.size) (ha:Fr (AX rV e) B' U' w.heap a [u]) (hr:RN (S++F) E w.heap u r) (hbytes:(xs.length+1)*b≤140737488355328) (hmx:xs.length+1≤maxLen)
  (hu:Up ops N ρ ⟨some d,.call ⟨.builtin .append,#[x,y],#[t,t]⟩,ty,pos,aft,g⟩)
  (h:∀v1 w1 F0,Az F0 w w1→(∀c∈F0,c∈F)→(∃us F,GZ E e S B w1.heap v1 (xs++[r]) us F)→LW P ops w0 Q os ks (mk N (D1 ρ d v1)) w1) :
  LW P ops w0 Q (⟨some d,.call ⟨.builtin .append,#[x,y],#[t,t]⟩,ty,pos,aft,g⟩::os) (4::ks) (mk N ρ) w:=by
 obtain⟨G,g1',g2',g3'⟩:=ha
 have hG1:G.drop 1=[]:=by
  rcases g1' with⟨_,hc,_⟩|⟨vs,gb,cap,cur,F',hels,_,_,_,_,_,_,rfl⟩
  ·cases hc
  ·rw[(FX hels).2];rfl
 obtain⟨v',w',F',r1,r2,r3,r4,r5⟩:=GL (P:=P) (ty:=ty) Bf ht hi hz hv.own hv.nd (g1'.rd id) rfl (by rw[hv.len];exact hbytes) (by rw[hv.len];exact hmx) (by rw[hG1];intro c hc;cases hc) (by rw[hG1];exact zk)
 rw[hG1]at r4
 refine Kg rfl hu v' w' (by simp only[execOp,resolve,invoke,builtin,zc,zf,zh,Sem.run_bind,Sem.run_pure,Result.andThen_ok,hx,hy,r1])<|h v' w' (F.take 1) r5 (fun c hc=>zj hc) ⟨us++[u],F',r2,r3,fun c hc=>?_,by simp[hv.len],fun k x0 hk0=>?_⟩
 ·rcases r4 c hc with hh|hh|hh
  ·exact hv.low c hh
  ·cases hh
  ·omega
 ·have key:∀ {v0:Value} {x0:α},RN (S++F) E w.heap v0 x0→RN (S++F') E w'.heap v0 x0:=by
   rintro v0 x0 ⟨K,k1,k2⟩
   have hlt:=hE.lt k1
   refine⟨K,hE.stable k1 fun c hc=>r5.block c (hlt c hc) fun hm=>k2 c hc (z1 _ (zj hm)),fun c hc hm=>?_⟩
   rcases zi.1 hm with hm|hm
   ·exact k2 c hc<|z8 _ hm
   ·rcases r4 c hm with hh|hh|hh
    ·exact k2 c hc<|z1 _ hh
    ·cases hh
    ·have:=hlt c hc;omega
  by_cases hkx:k<xs.length
  ·have hku:k<us.length:=by rw[hv.len];exact hkx
   rw[List.getElem?_append_left hkx]at hk0
   rw[GU hku]
   exact key<|hv.els k x0 hk0
  ·rw[List.getElem?_append_right (by omega)]at hk0
   have e1:k=xs.length:=by
    rcases Nat.lt_or_ge (k-xs.length) 1 with h9|h9
    ·omega
    ·rw[List.getElem?_eq_none (by simpa using h9)]at hk0;cases hk0
   subst e1
   rw[GF (hv.len).symm]
   simp at hk0
   subst hk0
   exact key hr
end ops
def Pv:Value→Value
 |.slice a n c=>.slice (if c=1 then a else a.map (·.add 1)) (n-1) (c-1)
 |v=>v
def Ik {α:Type}(E:Bj α):Bj (List α):=fun H v xs F=>B3 E H v xs F∧Cn v
theorem Ux {α:Type}{E:Bj α}(hE:BS E):BS (Ik E) where
 cells:=fun h=>(DF hE).cells h.1
 one:=fun h=>(DF hE).one h.1
 lt:=fun h=>(DF hE).lt h.1
 stable:=fun h hb=>⟨(DF hE).stable h.1 hb,h.2⟩
theorem NS:BS (Ik (B3 rI)):=Ux g1
theorem nI:BS (B3 (Ik (B3 rI))):=DF NS
theorem RN.mk2 {S:List Nat}{H:Array Obj}{v:Value}{x:List Sr}(h:RN S (B3 (B3 rI)) H v x)(hc:Cn v):RN S (Ik (B3 rI)) H v x:=by
 obtain⟨F,h,hb⟩:=h
 exact⟨F,⟨h,hc⟩,hb⟩
theorem RN.of2 {S:List Nat}{H:Array Obj}{v:Value}{x:List Sr}(h:RN S (Ik (B3 rI)) H v x):RN S (B3 (B3 rI)) H v x∧Cn v:=by
 obtain⟨F,h,hb⟩:=h
 exact⟨⟨F,h.1,hb⟩,h.2⟩
theorem XH {v:Value}(h:Cn v):Cn (Pv v):=by
 cases v with
 |slice a n c=>have:n≤c:=h;show n-1≤c-1;omega
 |_=>exact h
def fZ (L:List Sr)(ps:List Int):List Sr:=ps.map fun i=>L.getD i.toNat []
theorem XI {L:List Sr}{ps:List Int}{k:Nat}(hk:k<ps.length):fZ L (ps.take (k+1))=fZ L (ps.take k)++[L.getD (ps.getD k 0).toNat []]:=by
 unfold fZ
 rw[CA 0 hk,List.map_append];rfl
def GP (X:List (List Sr)):List (List Sr):=X.map fun r=>r.drop 1
theorem XJ {X:List (List Sr)}{k:Nat}(hk:k<X.length):GP (X.take (k+1))=GP (X.take k)++[(X.getD k []).drop 1]:=by
 unfold GP
 rw[CA [] hk,List.map_append];rfl
theorem RN.suf {α:Type}{E:Bj α}{S:List Nat}{H:Array Obj}{v:Value}{xs:List α}(hE:BS E)(h:RN S (B3 E) H v xs)(hl:1≤xs.length)(hc:Cn v):RN S (B3 E) H (Pv v) (xs.drop 1):=by
 obtain⟨F,h,hb⟩:=h
 rcases h with⟨a,cap,rfl,rfl,rfl⟩|⟨us,g,off,cap,cur,e,fr,F',hels,rfl,hg,ht,hm,rfl⟩
 ·simp at hl
 ·have hlen:=hels.length
  cases us with
  |nil=>simp at hlen;omega
  |cons u us =>
   cases xs with
   |nil=>simp at hl
   |cons x xs =>
    obtain⟨F1,F2,rfl,h1,h2⟩:=hels
    simp only[List.drop_succ_cons,List.drop_zero,z9]at *
    by_cases h1c:cap=1
    ·have hx0:xs=[]:=by
      have:xs.length+1≤cap:=hc
      exact List.eq_nil_of_length_eq_zero zO
     subst hx0
     subst h1c
     refine⟨[],.inl ⟨_,_,rfl,rfl,rfl⟩,fun b hb=>by cases hb⟩
    ·refine⟨g::F2,.inr ⟨us,g,off+1,cap-1,cur,e,fr,F2,h2,?_,hg,?_,zO,rfl⟩,fun b hm2=>hb b ?_⟩
     ·simp[Pv,h1c,Addr.add]
     ·have h9:(cur.toList.drop off).drop 1=cur.toList.drop (off+1):=by rw[List.drop_drop]
      rw[← h9]
      have h8:((cur.toList.drop off).take (xs.length+1)).drop 1=us:=by rw[ht];rfl
      rw[List.drop_take]at h8
      simpa using h8
     ·rcases ze.1 hm2 with rfl|h9
      ·exact z0 ..
      ·exact z3 _<|z1 _ h9
section ops
variable {P:Program} {ops:Array Oper} {w0:World} {Q:Act→World→Prop} {os:List Oper} {ks:List Nat} {N:Nat} {ρ:Nat→Value} {w:World}
 {d:Nat} {ty:TypeId} {pos:String} {aft:Array Edge} {g:Option (Nat×Bool)} {t e:TypeId} {z:Value} {b:Nat}
theorem cE {x y:Operand}{v z:Value}{n b:Nat}(ht:P.underlying t=some (.slice e))(hi:TI P e 1 z b)(hx:Bw N ρ x=v)(hs:Eq v n)(hc:Cn v)(hy:Bw N ρ y=.int .i64 1)(hk:1≤n)(hu:Up ops N ρ ⟨some d,.slice t x (some y) none none,ty,pos,aft,g⟩)
  (h:LW P ops w0 Q os ks (mk N (D1 ρ d (Pv v))) w):LW P ops w0 Q (⟨some d,.slice t x (some y) none none,ty,pos,aft,g⟩::os) (0::ks) (mk N ρ) w:=by
 obtain⟨a,cap,rfl,_⟩:=hs
 obtain⟨inf,h1,_,h3,_⟩:=hi.get
 refine CN (by decide) rfl hu _ (fun w' _=>?_) h
 have hl:n≤cap:=hc
 have e1:((1:Int)≤(n:Int)):=by omega
 by_cases hc1:cap=1
 ·subst hc1
  have:n=1:=by omega
  subst this
  simp[execOp,hx,hy,Instr.sliceAt,Instr.slice,Instr.sliceBounds,Instr.sliceBound,asIntOf,run_underlying ht,sizeOf,typeInfo,h1,h3,Pv]
 ·have e2:cap-1≠0:=by omega
  simp[execOp,hx,hy,Instr.sliceAt,Instr.slice,Instr.sliceBounds,Instr.sliceBound,asIntOf,run_underlying ht,sizeOf,typeInfo,h1,h3,Pv,hk,hl,hc1,e2]
  intro h9;omega
end ops
end
section
theorem IE {m:Nat}{a:List (List Int)}(h0:1≤m)(ha:0<a.length)(h:BD m a):EQ a+1=m:=by
 have:=(h 0 ha).1
 unfold EQ;omega
def BE (A:List Sr):List Int:=A.map fun s=>s.getD 0 0
def QS (m:Nat)(T:Tp)(xs:List Int)(A:List Sr)(i:Nat):List Sr:=fY A.length m T.code (LT T.code (Bg m A T.code) xs (Gr xs.length [((i:Nat):Int)] 1))
def HB (m:Nat)(T:Tp)(xs:List Int)(A:List Sr)(k:Nat):List (List Sr):=(List.range k).map (QS m T xs A)
section
variable {m:Nat} {A:List Sr} {T:Tp} {xs:List Int}
theorem XK (k:Nat):HB m T xs A (k+1)=HB m T xs A k++[QS m T xs A k]:=by unfold HB;rw[List.range_succ,List.map_append];rfl
theorem Pw {k i:Nat}(hi:i<k):(HB m T xs A k).getD i []=QS m T xs A i:=by unfold HB;simp[List.getD_eq_getElem?_getD,hi]
@[simp] theorem J6 (k:Nat):(HB m T xs A k).length=k:=by simp[HB]
@[simp] theorem C8:(BE A).length=A.length:=by simp[BE]
theorem E8 (h:BD m A):B8 (BE A)=true:=by
 unfold B8 BE
 rw[zm]
 intro x hx
 obtain⟨s,hs,rfl⟩:=List.mem_map.1 hx
 obtain⟨i,hi,rfl⟩:=List.mem_iff_getElem.1 hs
 have h9:=Bk (h i hi).2 0
 rw[show A.getD i []=A[i]from by simp[List.getD_eq_getElem?_getD,hi]]at h9
 exact Ci.2 h9
theorem EY (h:BD m A):RH m (BE A) A:=⟨C8.symm,fun i hi=>h i (by rw[C8]at hi;exact hi),fun i hi=>by
 rw[C8]at hi
 unfold BE
 rw[B9 (d:=[]) hi]⟩
theorem DT.regs (h:DT m A T):BD m (Bg m A T.code):=fun k hk=>(h.ser k (by rw[BV]at hk;exact hk)).1
theorem DT.outs (h:DT m A T)(hE:Ln T xs):∀k,k<xs.length→0≤xs.getD k 0∧xs.getD k 0<((T.code.length:Nat):Int):=fun k hk=>by have:=hE k hk;have:=h.cl;omega
theorem DT.adj (h:DT m A T)(hE:Ln T xs){ws:List Int}:BD m (LT T.code (Go.Proofs.YtbajepcpgncekaaGreat.Bg m A T.code) xs ws):=by
 have ho:=h.outs hE
 refine To (ni:=A.length) h.form _ _ (A9 _) (by rw[ED,Di,BV];exact A9 _)<|J4 (HS h.regs) (fun q hq=>?_) _<|A9 _
 have:=ho q hq
 rw[Di,BV];omega
theorem Nj {cs:List AK}{R:List Sr}{os ws:List Int}:(LT cs R os ws).length=R.length:=by unfold LT;rw[Tn,ED,Di]
end
end
section
def CZ (a b:Int):Bool:=Gl a 2 7 && decide (b=a-1)
theorem QT {p:List Fn}{f:Int}(h:Ge p f CZ=0):Ky p=true∧(0≤f∧f<((p.length:Nat):Int))∧(2≤(p.getD f.toNat Fn.zero).params∧(p.getD f.toNat Fn.zero).params≤7)∧(((p.getD f.toNat Fn.zero).outs.length:Nat):Int)=(p.getD f.toNat Fn.zero).params-1:=by
 obtain⟨h1,h2⟩:=jK h
 obtain⟨h3,h4⟩:=Xb h1
 unfold CZ at h2
 rw[z7,Cr,decide_eq_true_eq]at h2
 exact⟨h3,h4,h2.1,h2.2⟩
def OF (p:List Fn)(f:Int)(y:List Sr):Int :=
 if Ge p f CZ=0 then(if (Lh y && decide (((y.length:Nat):Int)=(p.getD f.toNat Fn.zero).params-1))=true then 0 else 2)else Ge p f CZ
section
variable {p:List Fn} {f:Int} {y:List Sr}
theorem cF (h:OF p f y=0):Ky p=true∧(0≤f∧f<((p.length:Nat):Int))∧(2≤(p.getD f.toNat Fn.zero).params∧(p.getD f.toNat Fn.zero).params≤7)∧((((p.getD f.toNat Fn.zero).outs.length:Nat):Int)=(p.getD f.toNat Fn.zero).params-1∧((y.length:Nat):Int)=(p.getD f.toNat Fn.zero).params-1)∧BD (EQ y+1) y∧EQ y≤12:=by
 unfold OF at h
 split at h
 ·rename_i h1
  split at h
  ·rename_i h2
   rw[z7,decide_eq_true_eq]at h2
   obtain⟨q1,q2,q3,q4⟩:=QT h1
   have q5:=Xi h2.1 zO
   exact⟨q1,q2,q3,⟨q4,h2.2⟩,q5.1,q5.2⟩
  ·omega
 ·rename_i h1;exact absurd h h1
theorem oP (h:Ge p f CZ≠0):Ge p f CZ=OF p f y:=by unfold OF;rw[if_neg h]
theorem oQ (h:Ge p f CZ=0)(h2:(Lh y && decide (((y.length:Nat):Int)=(p.getD f.toNat Fn.zero).params-1))=false):2=OF p f y:=by unfold OF;rw[if_pos h,h2];rfl
theorem jS (h:Ge p f CZ=0)(h2:(Lh y && decide (((y.length:Nat):Int)=(p.getD f.toNat Fn.zero).params-1))=true):Ge p f CZ=OF p f y:=by unfold OF;rw[if_pos h,h2,h];rfl
end
def Px (n:Nat):Sr:=(List.replicate n 0).set 1 1
def Cv (y:List Sr):List Sr:=Px (y.getD 0 []).length::y
theorem aB (n:Nat):BM n (Px n):=by
 refine⟨by simp[Px],?_⟩
 match n with
 |0=>rfl
 |1=>rfl
 |n+2 =>
  show B8 (0::1::List.replicate n 0)=true
  have:=Hp n
  unfold B8 at this ⊢
  rw[List.all_cons,List.all_cons,this];rfl
@[simp] theorem DV {y:List Sr}:(Cv y).length=y.length+1:=rfl
theorem KH {m:Nat}{y:List Sr}(h:BD m y)(h0:0<y.length):BD m (Cv y):=fun k hk=>by
 cases k with
 |zero=>show BM m (Px (y.getD 0 []).length);rw[(h 0 h0).1];exact aB m
 |succ k=>exact h k (by rw[DV]at hk;omega)
def UM (p:List Fn)(f:Int)(y:List Sr):Int:=if OF p f y=0 then H7 p (EQ y+1) f.toNat (Cv y)else OF p f y
theorem cG {p:List Fn}{f:Int}{y:List Sr}(h:OF p f y≠0):UM p f y=OF p f y:=if_neg h
theorem Tr {p:List Fn}{f:Int}{y:List Sr}(h:OF p f y=0):UM p f y=H7 p (EQ y+1) f.toNat (Cv y):=if_pos h
theorem Py (n:Nat):cst n 0=List.replicate n 0:=by
 unfold cst
 cases n with
 |zero=>rfl
 |succ n=>rfl
theorem Ii.one {e e1:TypeId}{B U B0 U0:Nat}{H:Array Obj}{v u:Value}{r:List Int}(h:Fr (AX rV e) B U H v [u])(hr:Fr (AX rI e1) B0 U0 H u r)(hU:U0≤B):∃us F,Ii e [] B H v [r] us F:=by
 obtain⟨F,h1,h2,h3⟩:=h
 obtain⟨G,g1',g2',g3'⟩:=hr
 refine⟨[u],F,h1,h2,fun b hb=>(h3 b hb).1,rfl,fun k hk=>?_⟩
 have hk0:k=0:=by simp at hk;omega
 subst hk0
 exact⟨G,g1'.rd id,fun b hb hm=>by
  rw[zl]at hm
  have:=g3' b hb
  have:=h3 b hm
  omega⟩
theorem XL {y:List Sr}{t:Sr}{k:Nat}(hk:k<y.length):(t::y.take k)++[y.getD k []]=t::y.take (k+1):=by rw[CA [] hk];rfl
theorem oR {p:List Fn}{f:Int}(h:Js p f=0)(h1:(decide (((2:Nat):Int)≤(p.getD f.toNat Fn.zero).params) && decide ((p.getD f.toNat Fn.zero).params≤((7:Nat):Int)))=false):2=Ge p f CZ:=by
 have h1':Gl (p.getD f.toNat Fn.zero).params 2 7=false:=h1
 unfold Ge CZ;rw[if_pos h,h1',Bool.false_and];rfl
theorem oS {p:List Fn}{f:Int}(h:Js p f=0)(h1:¬((((p.getD f.toNat Fn.zero).outs.length:Nat):Int)=(p.getD f.toNat Fn.zero).params-1)):2=Ge p f CZ:=by
 unfold Ge CZ;rw[if_pos h,A8 h1,Bool.and_false];rfl
theorem oU {p:List Fn}{f:Int}(h:Js p f=0)(h1:(decide (((2:Nat):Int)≤(p.getD f.toNat Fn.zero).params) && decide ((p.getD f.toNat Fn.zero).params≤((7:Nat):Int)))=true)(h2:(((p.getD f.toNat Fn.zero).outs.length:Nat):Int)=(p.getD f.toNat Fn.zero).params-1):Js p f=Ge p f CZ:=by
 have h1':Gl (p.getD f.toNat Fn.zero).params 2 7=true:=h1
 unfold Ge CZ;rw[if_pos h,h1',A7 h2,h];rfl
theorem RN.ofV {e:TypeId}{B U:Nat}{H:Array Obj}{v:Value}{us:List Value}{xs:List Sr}(h:Fr (AX rV e) B U H v us)(hl:us.length=xs.length)(hr:∀k,k<xs.length→RN [] (B3 rI) H (us.getD k undef) (xs.getD k [])):RN [] (B3 (B3 rI)) H v xs∧Cn v:=by
 refine⟨?_,h.cap⟩
 obtain⟨F,h1,h2,h3⟩:=h
 obtain⟨G,g1,g2⟩:=La hl hr
 rcases h1 with⟨rfl,hus,rfl⟩|⟨vs,gb,cap,cur,F',hels,rfl,hg,r1,r2,r3,r4,hF⟩
 ·have:xs=[]:=List.eq_nil_of_length_eq_zero (by rw[← hl,hus];rfl)
  subst this
  exact⟨[],.inl ⟨Option.none,0,rfl,rfl,rfl⟩,fun b hb=>by cases hb⟩
 ·obtain⟨hv,hF0⟩:=FX hels
  subst hv
  exact⟨gb::G,.inr ⟨vs,gb,0,cap,cur,e,(0,0),G,g1,by rw[hl],hg,by simpa [hl]using r4,zO,rfl⟩,fun b _ hm=>by cases hm⟩
end
section
theorem BM.ext {m:Nat}{a b:Sr}(ha:BM m a)(hb:BM m b)(h:∀k,k<m→a.getD k 0=b.getD k 0):a=b:=by
 refine List.ext_getElem (by rw[ha.1,hb.1]) fun k h1 h2=>?_
 have:=h k (by rw[← ha.1];exact h1)
 simpa [List.getD_eq_getElem?_getD,h1,h2]using this
section
variable {m:Nat} {a b c:Sr}
theorem Ts (ha:BM m a){k:Nat}(hk:k<m):(EA a b).getD k 0=md (a.getD k 0+b.getD k 0):=by unfold EA;exact Bx _ (by rw[ha.1];exact hk)
theorem Tt (ha:BM m a){y:Int}{k:Nat}(hk:k<m):(CU a y).getD k 0=md (a.getD k 0*y):=by unfold CU;exact Bx _ (by rw[ha.1];exact hk)
end
end
section
theorem jT {f:Nat→Int}:∀ {n:Nat},(∀i,i<n→f i=0)→sm n f=0
 |0,_=>rfl
 |n+1,h=>by unfold sm;rw[jT (n:=n) fun i hi=>h i zO,h n (by omega)];rfl
def cH (M:List (List Int)):Nat→Nat→Int:=fun r k=>(M.getD r []).getD k 0
theorem Tu {a:List (List Int)}{b:List Int}(hS:Sq a.length a)(hl:b.length=a.length)(hb:B8 b=true)(hs:Ja a b≠none)(v:Nat→Int)
  (hv:∀r,r<a.length→md (sm a.length fun j=>cH a r j*v j)=b.getD r 0):∀r,r<a.length→md (v r)=(Jb a b).getD r 0:=by
 have hA:Sh (BM 1) [] (mm (fun x:Int=>[x]) a).length ((mm (fun x:Int=>[x]) a).length+1) (Hk (mm (fun x=>[x]) a) (Cc b)):=by
  rw[Ks hS hl,Lg];exact Vy (GV hS hb)
 have hj:CP (mm (fun x=>[x]) a) (Cc b)≠none:=by
  rw[P5 hS hl hb]
  obtain⟨M,hM⟩:=Option.ne_none_iff_exists'.1 hs
  rw[hM];simp
 have h:=(MT (v:=fun j _=>v j) hA hj).1
 rw[Lg,Ks hS hl,SL hS hl hb hs]at h
 intro r hr
 have hln:=MQ hS hb hs
 have h0:=h (fun r hr k hk=>?_) r hr 0 zO
 ·have e:C0 ((Cc (Jb a b)).getD r []) 0=(Jb a b).getD r 0:=by
   rw[Qq _ (by omega)];rfl
  rw[e]at h0
  have hn:=Bk (Qp hS hb hs) r
  rw[h0];exact LK hn.1 hn.2
 ·have hk0:k=0:=by omega
  subst hk0
  have hrow:=(GV hS hb).row r hr
  have hrl:=hrow.len
  rw[EX]
  unfold Du
  have e1:(sm a.length fun j=>cv (C0 ((((E6 a b).getD r []).map fun x:Int=>[x]).getD j [])) (fun _=>v j) 0)=sm a.length fun j=>cH a r j*v j:=by
   refine Cj fun j hj'=>?_
   rw[B9 (d:=0) zO,← P3 (b:=b) hS r (Nat.zero_le _) hr j hj']
   rfl
  have e2:C0 ((((E6 a b).getD r []).map fun x:Int=>[x]).getD a.length []) 0=b.getD r 0:=by
   rw[B9 (d:=0) (by omega)]
   unfold E6
   rw[Bx _ hr,He (by rw[hS.row r hr];omega),hS.row r hr,Nat.sub_self]
   rfl
  rw[e1,e2,hv r hr]
  have hn:=Bk hb r
  exact (LK hn.1 hn.2).symm
section
variable {N N':Nat} {f f' g g':Nat→Int} {a b:Sr}
theorem EN.mono (h:EN N f g)(hN:N'≤N):EN N' f g:=fun k hk=>h k zO
theorem EN.neg (hf:EN N f f'):EN N (fun k=>- f k) (fun k=>- f' k):=fun k hk=>by rw[← Lb,hf k hk,Lb]
theorem EN.eq (h:∀k,k<N→f k=g k):EN N f g:=fun k hk=>by rw[h k hk]
theorem XM (ha:BM N a):EN N (C0 (CU a 1000002)) (fun k=>- C0 a k):=EN.trans (oN (y:=1000002) ha) fun k _=>by
 show md (1000002*C0 a k)=md (- C0 a k)
 unfold md;omega
def Lo (r:Nat)(f:Nat→Int):Prop:=EN r f Hl
theorem Lo.mono {r r':Nat}(h:Lo r f)(hr:r'≤r):Lo r' f:=EN.mono h hr
theorem Lo.of {r:Nat}(h:EN r f g)(hg:Lo r g):Lo r f:=EN.trans h hg
theorem Lo.add {r:Nat}(h:Lo r f)(hg:Lo r g):Lo r fun k=>f k+g k:=(EN.add h hg).trans fun k _=>rfl
theorem Lo.sub {r:Nat}(h:Lo r f)(hg:Lo r g):Lo r fun k=>f k-g k:=(EN.sub h hg).trans fun k _=>rfl
theorem Lo.neg {r:Nat}(h:Lo r f):Lo r fun k=>- f k:=fun k hk=>by
 have:=h k hk
 show md (- f k)=md 0
 rw[← Lb,this];rfl
theorem Lo.cvl {r:Nat}(h:Lo r f)(g:Nat→Int):Lo r (cv f g):=(EN.cv h (EN.rfl' g)).trans fun k _=>by rw[DR];rfl
theorem Lo.cvr {r:Nat}(g:Nat→Int)(h:Lo r f):Lo r (cv g f):=fun k hk=>by rw[CE];exact h.cvl g k hk
theorem Lo.cv2 {r s:Nat}(h:Lo r f)(hg:Lo s g):Lo (r+s) (cv f g):=fun k hk=>by
 rw[LL]
 have e:md (sm (k+1) fun i=>f i*g (k-i))=md (sm (k+1) fun _=>0):=MN fun i hi=>by
  by_cases h1:i<r
  ·rw[← Dt,h i h1]
   show md (md 0*_)=_
   rw[Fj,Int.zero_mul]
  ·rw[← Dt,hg (k-i) (by omega)]
   show md (_*md 0)=_
   rw[Fl,Int.mul_zero]
 rw[e,jT fun _ _=>rfl];rfl
theorem KI (f g g':Nat→Int)(k:Nat):cv f (fun i=>g i-g' i) k=cv f g k-cv f g' k:=by rw[CE,Pd,CE g,CE g']
theorem Tv (f g:Nat→Int)(k:Nat):cv f (fun i=>- g i) k = - cv f g k:=by
 have e:(fun i=>- g i)=fun i=>(-1)*g i:=funext fun i=>by omega
 rw[e,Qk];omega
theorem Pz (f g:Nat→Int)(k:Nat):cv (fun i=>- f i) g k = - cv f g k:=by rw[CE,Tv,CE]
theorem Lo.div {r:Nat}(hd:∃e:Int,md (g 0*e)=1)(h:Lo r (cv f g)):Lo r f:=HM hd (h.trans fun k _=>by rw[DR];rfl)
end
section
variable {N m n:Nat} {B:List Sr} {v v':Nat→Nat→Int}
theorem RK {f g:Nat→Int}{i:Nat}:∀ {n:Nat},i<n→(∀j,j<n→j≠i→f j=g j)→sm n f=sm n g+(f i-g i)
 |0,h,_=>absurd h (Nat.not_lt_zero i)
 |n+1,hi,h=>by
  show sm n f+f n=sm n g+g n+_
  by_cases e:i=n
  ·subst e
   rw[Cj fun j hj=>h j zO (by omega)];omega
  ·rw[RK (n:=n) zO fun j hj he=>h j zO he,h n zO (fun h=>e h.symm)];omega
theorem jU {i:Nat}(hi:i<n)(h:∀j,j<n→j≠i→v j=v' j)(t:Nat):Du n v B t=Du n v' B t+(cv (C0 (B.getD i [])) (v i) t-cv (C0 (B.getD i [])) (v' i) t):=by
 unfold Du
 exact RK (f:=fun j=>cv (C0 (B.getD j [])) (v j) t) (g:=fun j=>cv (C0 (B.getD j [])) (v' j) t) hi fun j hj he=>by rw[h j hj he]
theorem Tw {i:Nat}{s:Sr}{d:Nat→Int}(hi:i<n)(hb:i<B.length)(h:EN N (C0 s) fun t=>C0 (B.getD i []) t+d t):EN N (Du n v (B.set i s)) fun t=>Du n v B t+cv d (v i) t:=fun t ht=>by
 have e:Du n v (B.set i s) t=Du n v B t+(cv (C0 s) (v i) t-cv (C0 (B.getD i [])) (v i) t):=by
  unfold Du
  have:=RK (f:=fun j=>cv (C0 ((B.set i s).getD j [])) (v j) t) (g:=fun j=>cv (C0 (B.getD j [])) (v j) t) hi fun j hj he=>by rw[BJ _ _ _ _ _ hb,if_neg he]
  rw[this,BJ _ _ _ _ _ hb,if_pos rfl]
 have h2:md (cv (C0 s) (v i) t)=md (cv (C0 (B.getD i [])) (v i) t+cv d (v i) t):=by
  rw[EN.cv h (EN.rfl' (v i)) t ht,Kt]
 show md _=md (Du n v B t+cv d (v i) t)
 rw[e,← GM,← FL,h2,FL,GM]
 congr 1;omega
theorem Mp {r:Int}{s:Sr}(hB:BD m B)(hN:N≤m)(hr:r.toNat<n)(hb:r.toNat<B.length):EN N (Du n v (G6 B r s)) fun t=>Du n v B t+cv (C0 s) (v r.toNat) t :=
 Tw hr hb (EN.mono (fV (hB _ hb)) hN)
theorem QU (h:∀j,j<n→∀t,C0 (B.getD j []) t=0)(t:Nat):Du n v B t=0:=by
 unfold Du
 refine jT fun j hj=>?_
 rw[show C0 (B.getD j [])=Hl from funext fun t=>h j hj t,DR]
end
structure jV (N:Nat)(cs:List AK)(R:List Sr)(z D:Nat→Nat→Int):Prop where
 t1:∀k,k<cs.length→(cs.getD k AK.zero).op=1→EN N (D k) (z (cs.getD k AK.zero).num.toNat)
 t2:∀k,k<cs.length→(cs.getD k AK.zero).op=2→EN N (D k) Hl
 t3:∀k,k<cs.length→(cs.getD k AK.zero).op=3→EN N (D k) fun t=>D (cs.getD k AK.zero).a.toNat t+D (cs.getD k AK.zero).b.toNat t
 t4:∀k,k<cs.length→(cs.getD k AK.zero).op=4→EN N (D k) fun t=>D (cs.getD k AK.zero).a.toNat t-D (cs.getD k AK.zero).b.toNat t
 t5:∀k,k<cs.length→(cs.getD k AK.zero).op=5→EN N (D k) fun t=>cv (C0 (R.getD (cs.getD k AK.zero).b.toNat [])) (D (cs.getD k AK.zero).a.toNat) t+cv (C0 (R.getD (cs.getD k AK.zero).a.toNat [])) (D (cs.getD k AK.zero).b.toNat) t
 t6:∀k,k<cs.length→(cs.getD k AK.zero).op=6→EN N (cv (C0 (R.getD (cs.getD k AK.zero).b.toNat [])) (D k)) fun t=>D (cs.getD k AK.zero).a.toNat t-cv (C0 (R.getD k [])) (D (cs.getD k AK.zero).b.toNat) t
 t7:∀k,k<cs.length→(cs.getD k AK.zero).op=7→EN N (D k) fun t=>- D (cs.getD k AK.zero).a.toNat t
def FG (cs:List AK)(D:Nat→Nat→Int)(n k:Nat):Nat→Int:=if k<n∨(cs.getD k AK.zero).op=1 then D k else Hl
section
variable {N m ni:Nat} {cs:List AK} {R B:List Sr} {z D:Nat→Nat→Int} {os ws:List Int}
theorem HU {n k:Nat}(h:k<n):FG cs D n k=D k:=if_pos (.inl h)
theorem XN {n k:Nat}(h:(cs.getD k AK.zero).op=1):FG cs D n k=D k:=if_pos (.inr h)
theorem cI {n k:Nat}(h:n≤k)(h1:(cs.getD k AK.zero).op≠1):FG cs D n k=Hl:=if_neg zO
theorem jW (hT:jV N cs R z D)(hN:N≤m)(hR:BD m R)(hRl:R.length=cs.length)(hB:BD m B)(hl:B.length=cs.length){k:Nat}(hk:k<cs.length)(hf:H8 ni k (cs.getD k AK.zero))
  (hd:(cs.getD k AK.zero).op=6→(R.getD (cs.getD k AK.zero).b.toNat []).getD 0 0≠0) :
  EN N (Du cs.length (FG cs D k) (OE cs R k B)) (Du cs.length (FG cs D (k+1)) B):=by
 have hBk:=hB k zO
 by_cases h1:(cs.getD k AK.zero).op=1
 ·rw[QR (by omega)]
  have e:Du cs.length (FG cs D k) B=Du cs.length (FG cs D (k+1)) B:=funext fun t=>by
   unfold Du
   refine Cj fun j hj=>?_
   by_cases e:j=k
   ·subst e;rw[XN h1,XN h1]
   ·by_cases e2:j<k
    ·rw[HU e2,HU (by omega)]
    ·unfold FG
     by_cases e3:(cs.getD j AK.zero).op=1
     ·rw[if_pos (.inr e3),if_pos (.inr e3)]
     ·rw[if_neg zO,if_neg (by omega)]
  rw[e];exact EN.rfl' _
 have hup:Du cs.length (FG cs D (k+1)) B=fun t=>Du cs.length (FG cs D k) B t+cv (C0 (B.getD k [])) (D k) t:=funext fun t=>by
  rw[jU (v:=FG cs D (k+1)) (v':=FG cs D k) hk (fun j hj he=>?_) t,HU (Nat.lt_succ_self k),cI (A9 k) h1,CE _ Hl,DR]
  ·omega
  ·by_cases e2:j<k
   ·rw[HU e2,HU (by omega)]
   ·unfold FG
    by_cases e3:(cs.getD j AK.zero).op=1
    ·rw[if_pos (.inr e3),if_pos (.inr e3)]
    ·rw[if_neg zO,if_neg (by omega)]
 rw[hup]
 have two:∀ {ra rb:Int} {sa sb:Sr},ra.toNat<k→rb.toNat<k→EN N (fun t=>cv (C0 sa) (D ra.toNat) t+cv (C0 sb) (D rb.toNat) t) (cv (C0 (B.getD k [])) (D k)) →
   EN N (Du cs.length (FG cs D k) (G6 (G6 B ra sa) rb sb)) fun t=>Du cs.length (FG cs D k) B t+cv (C0 (B.getD k [])) (D k) t:=fun {ra rb sa sb} ha hb h=>by
  have q1:=Mp (v:=FG cs D k) (s:=sa) (n:=cs.length) hB hN (r:=ra) zO zO
  have q2:=Mp (v:=FG cs D k) (s:=sb) (n:=cs.length) (Dj (s:=sa) hB (r:=ra) zO) hN (r:=rb) zO (by rw[Ce];omega)
  rw[HU ha]at q1
  rw[HU hb]at q2
  refine q2.trans<|EN.trans (EN.add q1<|EN.rfl' _) ?_
  refine EN.trans (EN.eq fun t _=>?_)<|EN.add (EN.rfl'<|Du cs.length (FG cs D k) B) h
  exact Int.add_assoc _ _ _
 have b2:=fun h=>hf.i2 h
 have b7:=fun h=>hf.i7 h
 by_cases h3:(cs.getD k AK.zero).op=3
 ·rw[QM h3]
  have:=b2 zO
  refine two zO zO ?_
  refine EN.trans (EN.eq fun t _=>?_)<|EN.cv (EN.rfl' _) (hT.t3 k hk h3).symm
  rw[Kv]
 by_cases h4:(cs.getD k AK.zero).op=4
 ·rw[QN h4]
  have:=b2 zO
  refine two zO zO ?_
  refine EN.trans (EN.add (EN.rfl' _)<|EN.cv (EN.mono (XM hBk) hN)<|EN.rfl' _) ?_
  refine EN.trans (EN.eq fun t _=>?_)<|EN.cv (EN.rfl' _) (hT.t4 k hk h4).symm
  rw[KI,Pz];omega
 by_cases h5:(cs.getD k AK.zero).op=5
 ·rw[QO h5]
  have:=b2 zO
  refine two zO zO ?_
  refine EN.trans (EN.add (EN.cv (EN.mono (Rp hBk) hN)<|EN.rfl' _)<|EN.cv (EN.mono (Rp hBk) hN)<|EN.rfl' _) ?_
  refine EN.trans (EN.eq fun t _=>?_)<|EN.cv (EN.rfl' _) (hT.t5 k hk h5).symm
  rw[Kv,FF,FF]
 by_cases h6:(cs.getD k AK.zero).op=6
 ·rw[QP h6]
  have:=b2 zO
  have hRb:=hR (cs.getD k AK.zero).b.toNat zO
  refine two zO zO ?_
  have hq:=VB hBk hRb<|hd h6
  refine EN.trans (EN.add (EN.rfl' _)<|EN.cv (EN.mono (EN.trans (XM<|IA<|Hq hBk)<|EN.neg<|Rp<|Hq hBk) hN)<|EN.rfl' _) ?_
  refine EN.trans ?_<|EN.cv (EN.mono hq hN)<|EN.rfl' _
  refine EN.trans ?_<|EN.trans (EN.cv (EN.rfl'<|C0<|C7 (B.getD k [])<|R.getD (cs.getD k AK.zero).b.toNat []) (hT.t6 k hk h6).symm) (EN.eq fun t _=>(FF _ _ _ t).symm)
  refine EN.eq fun t _=>?_
  rw[Pz,KI,FF];omega
 by_cases h7:(cs.getD k AK.zero).op=7
 ·rw[QQ h7]
  have:=b7 h7
  have q1:=Mp (v:=FG cs D k) (s:=CU (B.getD k []) 1000002) (n:=cs.length) hB hN (r:=(cs.getD k AK.zero).a) zO zO
  rw[HU (by omega)]at q1
  refine q1.trans<|EN.add (EN.rfl' _) ?_
  refine EN.trans (EN.cv (EN.mono (XM hBk) hN)<|EN.rfl' _)<|EN.trans (EN.eq fun t _=>?_)<|EN.cv (EN.rfl' _) (hT.t7 k hk h7).symm
  rw[Tv,Pz]
 have h2:(cs.getD k AK.zero).op=2:=by unfold H8 at hf;omega
 rw[QR (by omega)]
 refine EN.trans (EN.eq fun t _=>?_)<|EN.add (EN.rfl' _)<|EN.cv (EN.rfl' _) (hT.t2 k hk h2).symm
 rw[CE,DR,Int.add_zero]
theorem cJ (hT:jV N cs R z D)(hN:N≤m)(hR:BD m R)(hRl:R.length=cs.length)(hf:∀k,k<cs.length→H8 ni k (cs.getD k AK.zero))
  (hd:∀k,k<cs.length→(cs.getD k AK.zero).op=6→(R.getD (cs.getD k AK.zero).b.toNat []).getD 0 0≠0) :
  ∀(n:Nat) (B:List Sr),n≤cs.length→BD m B→B.length=cs.length→EN N (Du cs.length (FG cs D 0) (UL cs R n B)) (Du cs.length (FG cs D n) B)
 |0,B,_,_,_=>EN.rfl' _
 |n+1,B,hn,hB,hl=>by
  show EN N (Du cs.length (FG cs D 0) (UL cs R n (OE cs R n B))) _
  exact (cJ hT hN hR hRl hf hd n _ zO (HT hB zO<|hf n zO) (by rw[Mm,hl])).trans<|jW hT hN hR hRl hB hl zO (hf n zO)<|hd n zO
theorem Tx {L B0:List Sr}(hT:jV N cs R z D)(hN:N≤m)(hB:BD m B0)(hl:B0.length=ni)(hf:∀k,k<cs.length→H8 ni k (cs.getD k AK.zero)) :
  ∀n,n≤cs.length→EN N (Du ni z (Uw cs L n B0)) fun t=>Du ni z B0 t+sm n fun k=>cv (C0 (L.getD k [])) (FG cs D 0 k) t
 |0,_=>fun t _=>by show _=md (_+0);rw[Int.add_zero];rfl
 |n+1,hn=>by
  have ih:=Tx (L:=L) hT hN hB hl hf n zO
  by_cases h1:(cs.getD n AK.zero).op=1
  ·rw[Ng h1]
   have hi:=(hf n zO).i1 h1
   refine (Mp (Mn (fun k hk=>by rw[hl];exact hf k hk) hB n zO) hN zO (by rw[J5];omega)).trans ?_
   refine (EN.add ih<|EN.cv (EN.rfl' _) (hT.t1 n zO h1).symm).trans (EN.eq fun t _=>?_)
   show _=Du ni z B0 t+(sm n _+cv (C0 (L.getD n [])) (FG cs D 0 n) t)
   rw[XN h1,Int.add_assoc]
  ·rw[Nh h1]
   refine ih.trans (EN.eq fun t _=>?_)
   show _=Du ni z B0 t+(sm n _+cv (C0 (L.getD n [])) (FG cs D 0 n) t)
   rw[cI (Nat.zero_le n) h1,CE _ Hl,DR,Int.add_zero]
theorem XO {m:Nat}(t:Nat):C0 (List.replicate m 0) t=0:=I9 m t
theorem cK (hB:BD m B)(hm:1≤m){n:Nat}(hn:n≤B.length):∀k,k≤os.length→(∀i,i<os.length→(os.getD i 0).toNat<n) →
  EN N (Du n D (NR os ws k B)) fun t=>Du n D B t+sm k fun i=>ws.getD i 0*D (os.getD i 0).toNat t
 |0,_,_=>fun t _=>by show _=md (_+0);rw[Int.add_zero];rfl
 |k+1,hk,ho=>by
  have ih:=cK hB hm hn k zO ho
  have h9:=ho k zO
  have hs:=J4 (ws:=ws) hB (fun i hi=>by have:=ho i hi;omega) k zO (os.getD k 0).toNat (by rw[ED];omega)
  refine (Tw (B:=NR os ws k B) (s:=((NR os ws k B).getD (os.getD k 0).toNat []).set 0<|md (((NR os ws k B).getD (os.getD k 0).toNat []).getD 0 0+ws.getD k 0)) (d:=fun t=>ws.getD k 0*Qr t) h9 (by rw[ED];omega) fun t _=>?_).trans ?_
  ·unfold C0
   rw[BJ _ _ _ _ _ (by rw[hs.1];omega)]
   unfold Qr
   by_cases e:t=0
   ·subst e
    show _=md (_+ws.getD k 0*(if (0:Nat)=0 then 1 else 0))
    rw[if_pos rfl,if_pos rfl,FB,Int.mul_one]
   ·show _=md (_+ws.getD k 0*(if t=0 then 1 else 0))
    rw[if_neg e,if_neg e,Int.mul_zero,Int.add_zero]
  ·refine (EN.add ih<|EN.rfl' _).trans (EN.eq fun t _=>?_)
   show _=_+(sm k _+_)
   rw[Ku,Pc,Int.add_assoc]
theorem aC (hT:jV N cs R z D)(hN:N≤m)(hm:1≤m)(hR:BD m R)(hRl:R.length=cs.length)(hf:∀k,k<cs.length→H8 ni k (cs.getD k AK.zero))
  (hd:∀k,k<cs.length→(cs.getD k AK.zero).op=6→(R.getD (cs.getD k AK.zero).b.toNat []).getD 0 0≠0) (ho:∀i,i<os.length→(os.getD i 0).toNat<cs.length) :
  EN N (Du ni z (fY ni m cs (LT cs R os ws))) fun t=>sm os.length fun i=>ws.getD i 0*D (os.getD i 0).toNat t:=by
 have h1:=Tx (L:=LT cs R os ws) (B0:=List.replicate ni<|List.replicate m 0) hT hN (KG m ni) z5 hf cs.length<|A9 _
 have hw:BD m (NR os ws os.length (KF R)):=J4 (HS hR) (fun q hq=>by rw[Di,hRl];exact ho q hq) _ (A9 _)
 have h2:=cJ hT hN hR hRl hf hd cs.length (NR os ws os.length<|KF R) (A9 _) hw (by rw[ED,Di,hRl])
 have h3:=cK (N:=N) (D:=D) (os:=os) (ws:=ws) (HS hR) hm (n:=cs.length) (by rw[Di,hRl];exact A9 _) os.length (A9 _) ho
 have e1:∀t,Du ni z (List.replicate ni (List.replicate m 0)) t=0:=QU fun j hj t=>by
  rw[show(List.replicate ni (List.replicate m (0:Int))).getD j []=List.replicate m 0 from by simp[List.getD_eq_getElem?_getD,hj]];exact XO t
 have e2:∀t,Du cs.length D (KF R) t=0:=QU fun j hj t=>by
  rw[show(KF R).getD j []=List.replicate (R.getD j []).length 0 from by unfold KF;rw[B9 (d:=[]) (by omega)]];exact XO t
 have e3:Du cs.length (FG cs D cs.length) (NR os ws os.length (KF R))=Du cs.length D (NR os ws os.length (KF R)):=funext fun t=>by
  unfold Du
  exact Cj fun j hj=>by rw[HU hj]
 rw[e3]at h2
 refine h1.trans<|EN.trans (EN.eq fun t _=>?_)<|EN.trans h2<|h3.trans (EN.eq fun t _=>?_)
 ·rw[e1,Int.zero_add];rfl
 ·rw[e2,Int.zero_add]
end
end
section
def BK (A A':List Sr)(j:Nat):Nat→Int:=fun t=>C0 (A'.getD j []) t-C0 (A.getD j []) t
section
variable {m r N k j:Nat} {A A':List Sr} {T:Tp} {cs:List AK}
theorem H0 (hk:k≤cs.length)(hj:j<k):(Bg m A (cs.take k)).getD j []=(Bg m A cs).getD j []:=by
 have:=N8 (m:=m) (A:=A) (cs.take k) (cs.drop k) (k:=j) (by rw[List.length_take];omega)
 rw[List.take_append_drop]at this
 exact this.symm
theorem JU (hk:k<cs.length):(Bg m A cs).getD k []=Gt m A (Bg m A (cs.take k)) (cs.getD k AK.zero):=by
 rw[← H0 (show k+1≤cs.length from hk) (Nat.lt_succ_self k),DU hk,GF (by rw[BV,List.length_take];omega)]
theorem DT.r1 (h:DT m A T)(hk:k<T.code.length)(h1:(T.code.getD k AK.zero).op=1):(Go.Proofs.YtbajepcpgncekaaGreat.Bg m A T.code).getD k []=A.getD (T.code.getD k AK.zero).num.toNat []:=by rw[JU hk,Pt h1]
theorem DT.r2 (h:DT m A T)(hk:k<T.code.length)(h1:(T.code.getD k AK.zero).op=2):(Go.Proofs.YtbajepcpgncekaaGreat.Bg m A T.code).getD k []=cst m (T.code.getD k AK.zero).num:=by rw[JU hk,Nf (by omega)]
theorem DT.r3 (h:DT m A T)(hk:k<T.code.length)(h1:(T.code.getD k AK.zero).op=3):(Go.Proofs.YtbajepcpgncekaaGreat.Bg m A T.code).getD k []=EA ((Go.Proofs.YtbajepcpgncekaaGreat.Bg m A T.code).getD (T.code.getD k AK.zero).a.toNat []) ((Go.Proofs.YtbajepcpgncekaaGreat.Bg m A T.code).getD (T.code.getD k AK.zero).b.toNat []):=by
 have:=(h.form k hk).i2 zO
 rw[JU hk,N9 h1,H0 zO zO,H0 zO (by omega)]
theorem DT.r4 (h:DT m A T)(hk:k<T.code.length)(h1:(T.code.getD k AK.zero).op=4):(Go.Proofs.YtbajepcpgncekaaGreat.Bg m A T.code).getD k []=DI ((Go.Proofs.YtbajepcpgncekaaGreat.Bg m A T.code).getD (T.code.getD k AK.zero).a.toNat []) ((Go.Proofs.YtbajepcpgncekaaGreat.Bg m A T.code).getD (T.code.getD k AK.zero).b.toNat []):=by
 have:=(h.form k hk).i2 zO
 rw[JU hk,Na h1,H0 zO zO,H0 zO (by omega)]
theorem DT.r5 (h:DT m A T)(hk:k<T.code.length)(h1:(T.code.getD k AK.zero).op=5):(Go.Proofs.YtbajepcpgncekaaGreat.Bg m A T.code).getD k []=Ch ((Go.Proofs.YtbajepcpgncekaaGreat.Bg m A T.code).getD (T.code.getD k AK.zero).a.toNat []) ((Go.Proofs.YtbajepcpgncekaaGreat.Bg m A T.code).getD (T.code.getD k AK.zero).b.toNat []):=by
 have:=(h.form k hk).i2 zO
 rw[JU hk,Nb h1,H0 zO zO,H0 zO (by omega)]
theorem DT.r6 (h:DT m A T)(hk:k<T.code.length)(h1:(T.code.getD k AK.zero).op=6):(Go.Proofs.YtbajepcpgncekaaGreat.Bg m A T.code).getD k []=C7 ((Go.Proofs.YtbajepcpgncekaaGreat.Bg m A T.code).getD (T.code.getD k AK.zero).a.toNat []) ((Go.Proofs.YtbajepcpgncekaaGreat.Bg m A T.code).getD (T.code.getD k AK.zero).b.toNat []):=by
 have:=(h.form k hk).i2 zO
 rw[JU hk,Nd h1,H0 zO zO,H0 zO (by omega)]
theorem DT.r7 (h:DT m A T)(hk:k<T.code.length)(h1:(T.code.getD k AK.zero).op=7):(Go.Proofs.YtbajepcpgncekaaGreat.Bg m A T.code).getD k []=CU ((Go.Proofs.YtbajepcpgncekaaGreat.Bg m A T.code).getD (T.code.getD k AK.zero).a.toNat []) 1000002:=by
 have:=(h.form k hk).i7 h1
 rw[JU hk,Nc h1,H0 zO (by omega)]
theorem DT.rz (h:DT m A T)(hk:k<T.code.length)(h1:(T.code.getD k AK.zero).op=6):((Go.Proofs.YtbajepcpgncekaaGreat.Bg m A T.code).getD (T.code.getD k AK.zero).b.toNat []).getD 0 0≠0:=by
 have:=(h.form k hk).i2 zO
 rw[(h.ser (T.code.getD k AK.zero).b.toNat zO).2]
 exact h.dv k hk h1
theorem XP (f g:Nat→Int):f=fun t=>g t+(f t-g t):=funext fun t=>by omega
theorem XQ (v w v' w':Nat→Int)(t:Nat):cv v' w' t-cv v w t=cv w (fun t=>v' t-v t) t+cv v (fun t=>w' t-w t) t+cv (fun t=>v' t-v t) (fun t=>w' t-w t) t:=by
 rw[Pd,KI,KI,KI,CE w,CE w];omega
theorem cL (h:DT m A T)(h':DT m A' T)(hk:k<T.code.length)(h1:(T.code.getD k AK.zero).op=1):BK (Bg m A T.code) (Bg m A' T.code) k=BK A A' (T.code.getD k AK.zero).num.toNat:=by
 unfold BK;rw[h.r1 hk h1,h'.r1 hk h1]
theorem cM (h:DT m A T)(h':DT m A' T)(hk:k<T.code.length)(h1:(T.code.getD k AK.zero).op=2):EN N (BK (Bg m A T.code) (Bg m A' T.code) k) Hl:=EN.eq fun t _=>by
 unfold BK;rw[h.r2 hk h1,h'.r2 hk h1,Int.sub_self];rfl
theorem cN (h:DT m A T)(h':DT m A' T)(hk:k<T.code.length)(h1:(T.code.getD k AK.zero).op=3) :
  EN m (BK (Bg m A T.code) (Bg m A' T.code) k) fun t=>BK (Bg m A T.code) (Bg m A' T.code) (T.code.getD k AK.zero).a.toNat t+BK (Bg m A T.code) (Bg m A' T.code) (T.code.getD k AK.zero).b.toNat t:=by
 have hb:=(h.form k hk).i2 zO
 unfold BK;rw[h.r3 hk h1,h'.r3 hk h1]
 exact (EN.sub (fV (h'.ser _ zO).1) (fV (h.ser _ zO).1)).trans (EN.eq fun t _=>by omega)
theorem cO (h:DT m A T)(h':DT m A' T)(hk:k<T.code.length)(h1:(T.code.getD k AK.zero).op=4) :
  EN m (BK (Bg m A T.code) (Bg m A' T.code) k) fun t=>BK (Bg m A T.code) (Bg m A' T.code) (T.code.getD k AK.zero).a.toNat t-BK (Bg m A T.code) (Bg m A' T.code) (T.code.getD k AK.zero).b.toNat t:=by
 have hb:=(h.form k hk).i2 zO
 unfold BK;rw[h.r4 hk h1,h'.r4 hk h1]
 exact (EN.sub (Vz (h'.ser _ zO).1) (Vz (h.ser _ zO).1)).trans (EN.eq fun t _=>by omega)
theorem cP (h:DT m A T)(h':DT m A' T)(hk:k<T.code.length)(h1:(T.code.getD k AK.zero).op=7) :
  EN m (BK (Bg m A T.code) (Bg m A' T.code) k) fun t=>- BK (Bg m A T.code) (Bg m A' T.code) (T.code.getD k AK.zero).a.toNat t:=by
 have hb:=(h.form k hk).i7 h1
 unfold BK;rw[h.r7 hk h1,h'.r7 hk h1]
 exact (EN.sub (XM (h'.ser _ zO).1) (XM (h.ser _ zO).1)).trans (EN.eq fun t _=>by omega)
theorem cQ (h:DT m A T)(h':DT m A' T)(hk:k<T.code.length)(h1:(T.code.getD k AK.zero).op=5) :
  EN m (BK (Bg m A T.code) (Bg m A' T.code) k) fun t=>cv (C0 ((Bg m A T.code).getD (T.code.getD k AK.zero).b.toNat [])) (BK (Bg m A T.code) (Bg m A' T.code) (T.code.getD k AK.zero).a.toNat) t
   + cv (C0 ((Bg m A T.code).getD (T.code.getD k AK.zero).a.toNat [])) (BK (Bg m A T.code) (Bg m A' T.code) (T.code.getD k AK.zero).b.toNat) t
   + cv (BK (Bg m A T.code) (Bg m A' T.code) (T.code.getD k AK.zero).a.toNat) (BK (Bg m A T.code) (Bg m A' T.code) (T.code.getD k AK.zero).b.toNat) t:=by
 have hb:=(h.form k hk).i2 zO
 unfold BK;rw[h.r5 hk h1,h'.r5 hk h1]
 exact (EN.sub (Rp (h'.ser _ zO).1) (Rp (h.ser _ zO).1)).trans (EN.eq fun t _=>XQ _ _ _ _ t)
theorem cR (h:DT m A T)(h':DT m A' T)(hk:k<T.code.length)(h1:(T.code.getD k AK.zero).op=6) :
  EN m (BK (Bg m A T.code) (Bg m A' T.code) (T.code.getD k AK.zero).a.toNat) fun t=>cv (C0 ((Bg m A T.code).getD (T.code.getD k AK.zero).b.toNat [])) (BK (Bg m A T.code) (Bg m A' T.code) k) t
   + cv (C0 ((Bg m A T.code).getD k [])) (BK (Bg m A T.code) (Bg m A' T.code) (T.code.getD k AK.zero).b.toNat) t
   + cv (BK (Bg m A T.code) (Bg m A' T.code) k) (BK (Bg m A T.code) (Bg m A' T.code) (T.code.getD k AK.zero).b.toNat) t:=by
 have hb:=(h.form k hk).i2 zO
 have q:=VB (h.ser (T.code.getD k AK.zero).a.toNat zO).1 (h.ser (T.code.getD k AK.zero).b.toNat zO).1 (h.rz hk h1)
 have q':=VB (h'.ser (T.code.getD k AK.zero).a.toNat zO).1 (h'.ser (T.code.getD k AK.zero).b.toNat zO).1 (h'.rz hk h1)
 rw[← h.r6 hk h1]at q
 rw[← h'.r6 hk h1]at q'
 exact (EN.sub q'.symm q.symm).trans (EN.eq fun t _=>XQ _ _ _ _ t)
theorem XR (h:DT m A T)(h':DT m A' T)(hr:r≤m)(hz:∀j,j<A.length→Lo r (BK A A' j)):∀n k,k<n→k<T.code.length→Lo r (BK (Bg m A T.code) (Bg m A' T.code) k)
 |0,k,hk,_=>absurd hk (Nat.not_lt_zero k)
 |n+1,k,hn,hk=>by
  have ih:=XR h h' hr hz n
  have hf:=h.form k hk
  have b2:=fun h=>hf.i2 h
  have b7:=fun h=>hf.i7 h
  by_cases h1:(T.code.getD k AK.zero).op=1
  ·rw[cL h h' hk h1];have:=hf.i1 h1;exact hz _ zO
  by_cases h2:(T.code.getD k AK.zero).op=2
  ·exact cM h h' hk h2
  by_cases h3:(T.code.getD k AK.zero).op=3
  ·have:=b2 zO
   exact Lo.of (EN.mono (cN h h' hk h3) hr)<|(ih _ zO zO).add<|ih _ zO zO
  by_cases h4:(T.code.getD k AK.zero).op=4
  ·have:=b2 zO
   exact Lo.of (EN.mono (cO h h' hk h4) hr)<|(ih _ zO zO).sub<|ih _ zO zO
  by_cases h5:(T.code.getD k AK.zero).op=5
  ·have:=b2 zO
   exact Lo.of (EN.mono (cQ h h' hk h5) hr)<|((Lo.cvr _<|ih _ zO zO).add<|Lo.cvr _<|ih _ zO zO).add<|(ih _ zO zO).cvl _
  by_cases h6:(T.code.getD k AK.zero).op=6
  ·have:=b2 zO
   have ha:=ih (T.code.getD k AK.zero).a.toNat zO zO
   have hb:=ih (T.code.getD k AK.zero).b.toNat zO zO
   have e:=EN.mono (cR h h' hk h6) hr
   refine Lo.div (g:=C0<|(Bg m A' T.code).getD (T.code.getD k AK.zero).b.toNat []) (Pe (h'.ser (T.code.getD k AK.zero).b.toNat zO).1 (h'.rz hk h6)) ?_
   refine Lo.of (g:=fun t=>BK (Bg m A T.code) (Bg m A' T.code) (T.code.getD k AK.zero).a.toNat t-cv (C0<|(Bg m A T.code).getD k []) (BK (Bg m A T.code) (Bg m A' T.code) (T.code.getD k AK.zero).b.toNat) t) ?_<|ha.sub<|hb.cvr _
   refine EN.trans (EN.eq fun t _=>?_)<|EN.sub e.symm<|EN.rfl' _
   rw[XP (C0 ((Bg m A' T.code).getD (T.code.getD k AK.zero).b.toNat [])) (C0 ((Bg m A T.code).getD (T.code.getD k AK.zero).b.toNat [])),Kv,CE _ (C0 ((Bg m A T.code).getD (T.code.getD k AK.zero).b.toNat []))]
   show _+cv _ (BK _ _ _) t=_
   omega
  have h7:(T.code.getD k AK.zero).op=7:=by unfold H8 at hf;omega
  have:=b7 h7
  exact Lo.of (EN.mono (cP h h' hk h7) hr) (ih _ zO zO).neg
theorem aE (h:DT m A T)(h':DT m A' T)(hr:r≤m)(hz:∀j,j<A.length→Lo r (BK A A' j))(hN:N≤m)(h2:N≤r+r):jV N T.code (Bg m A T.code) (BK A A') (BK (Bg m A T.code) (Bg m A' T.code)):=by
 have lo:=fun k (hk:k<T.code.length)=>XR h h' hr hz (k+1) k (Nat.lt_succ_self k) hk
 refine⟨fun k hk h1=>by rw[cL h h' hk h1];exact EN.rfl' _,fun k hk h1=>cM h h' hk h1,fun k hk h1=>EN.mono (cN h h' hk h1) hN,fun k hk h1=>EN.mono (cO h h' hk h1) hN,fun k hk h1=>?_,fun k hk h1=>?_,fun k hk h1=>EN.mono (cP h h' hk h1) hN⟩
 ·have:=(h.form k hk).i2 zO
  refine (EN.mono (cQ h h' hk h1) hN).trans ?_
  refine (EN.add (EN.rfl' _)<|Lo.mono (Lo.cv2 (lo _ zO)<|lo _ zO) h2).trans (EN.eq fun t _=>?_)
  exact Int.add_zero _
 ·have:=(h.form k hk).i2 zO
  refine (EN.sub (EN.mono (cR h h' hk h1) hN) (EN.rfl' _) |>.trans ?_).symm
  refine (EN.sub (EN.add (EN.rfl' _)<|Lo.mono (Lo.cv2 (lo k hk)<|lo _ zO) h2)<|EN.rfl' _).trans (EN.eq fun t _=>?_)
  show _+_+(0:Int)-_=_
  omega
theorem tay (h:DT m A T)(h':DT m A' T)(hm:1≤m)(hr:r≤m)(hz:∀j,j<A.length→Lo r (BK A A' j))(hN:N≤m)(h2:N≤r+r){xs:List Int}(hE:Ln T xs){i:Nat}(hi:i<xs.length) :
  EN N (Du A.length (BK A A') (QS m T xs A i)) (BK (Bg m A T.code) (Bg m A' T.code) (xs.getD i 0).toNat):=by
 have hx:=h.outs hE
 refine (aC (m:=m) (ni:=A.length) (os:=xs) (ws:=Gr xs.length [((i:Nat):Int)] 1) (aE h h' hr hz hN h2) hN hm h.regs (BV _) h.form (fun k hk h6=>h.rz hk h6) fun q hq=>by have:=hx q hq;omega).trans (EN.eq fun t _=>?_)
 have e:(sm xs.length fun q=>(Gr xs.length [((i:Nat):Int)] 1).getD q 0*BK (Bg m A T.code) (Bg m A' T.code) (xs.getD q 0).toNat t)=sm xs.length fun q=>if i=q then BK (Bg m A T.code) (Bg m A' T.code) (xs.getD q 0).toNat t else 0:=Cj fun q _=>by
  rw[show Gr xs.length [((i:Nat):Int)] 1=eV xs.length i from rfl,Xx hi]
  split
  ·rw[Int.one_mul]
  ·rw[Int.zero_mul]
 rw[e,Kw i (fun q=>BK (Bg m A T.code) (Bg m A' T.code) (xs.getD q 0).toNat t),if_pos hi]
end
end
section
section
variable {m n r N k:Nat}
theorem RM {u:Nat→Nat→Int}{row:List Sr}(h:∀j,j<n→Lo k (u j)):md (Du n u row k)=md (sm n fun j=>C0 (row.getD j []) 0*u j k):=by
 unfold Du
 refine MN fun j hj=>?_
 cases k with
 |zero=>rfl
 |succ k =>
  show md (C0 (row.getD j []) 0*u j (k+1)+cv (fun i=>C0 (row.getD j []) (i+1)) (u j) k)=_
  have:=Lo.cvr (fun i=>C0 (row.getD j []) (i+1)) (h j hj) k (Nat.lt_succ_self k)
  rw[← GM,this]
  show md (_+md 0)=_
  rw[GM,Int.add_zero]
theorem XS {J:List (List Sr)}{J0:List (List Int)}{u:Nat→Nat→Int}(hJ:J.length=n)(hS:Sq n J0)(hJ0:Ix J=J0)(hJl:∀i,i<n→(J.getD i []).length=n)(hd:DC J0≠0):∀N,(∀i,i<n→Lo N (Du n u (J.getD i [])))→∀j,j<n→Lo N (u j)
 |0,_,j,_=>fun k hk=>absurd hk (Nat.not_lt_zero k)
 |N+1,h,j,hj=>by
  have ih:=XS hJ hS hJ0 hJl hd N fun i hi=>(h i hi).mono<|Nat.le_succ N
  have hl:J0.length=n:=by rw[← hJ0,EB,hJ]
  have hS':Sq J0.length J0:=by rw[hl];exact hS
  have hb:B8 (List.replicate n 0)=true:=Hp n
  have hjn:Ja J0 (List.replicate n 0)≠none:=fun hn=>hd ((Kq hS' hb).2 hn)
  have key:=Tu hS' (by rw[z5,hl]) hb hjn (fun j=>u j N) fun i hi=>by
   rw[hl]at hi ⊢
   rw[I9]
   have:=h i hi N (Nat.lt_succ_self N)
   rw[RM ih]at this
   rw[show(sm n fun j=>cH J0 i j*u j N)=sm n fun j=>C0 ((J.getD i []).getD j []) 0*u j N from Cj fun j hj=>by
    unfold cH;rw[← hJ0,Hn];unfold PX;rw[B9 (d:=[]) (by rw[hJl i hi];exact hj)];rfl,this];rfl
  have key0:=Tu hS' (by rw[z5,hl]) hb hjn (fun j=>0) fun i hi=>by
   rw[I9,jT fun j _=>Int.mul_zero _];rfl
  intro k hk
  by_cases e:k<N
  ·exact ih j hj k e
  ·have:k=N:=by omega
   subst this
   rw[key j (by rw[hl];exact hj),← key0 j (by rw[hl];exact hj)];rfl
structure Uz (m n:Nat)(a:List Int)(J0:List (List Int))(G:List Sr→List Sr)(J:List Sr→List (List Sr)):Prop where
 al:a.length=n
 sq:Sq n J0
 gl:∀y,BD m y→BE y=a→(G y).length=n∧BD m (G y)
 jl:∀y,BD m y→BE y=a→(J y).length=n∧∀i,i<n→((J y).getD i []).length=n∧BD m ((J y).getD i [])
 j0:∀y,BD m y→BE y=a→Ix (J y)=J0
 tay:∀y y' r N,BD m y→BD m y'→BE y=a→BE y'=a→1≤r→r≤m→(∀j,j<n→Lo r (BK y y' j))→N≤m→N≤r+r→∀i,i<n→EN N (Du n (BK y y') ((J y).getD i [])) (BK (G y) (G y') i)
variable {a:List Int} {J0:List (List Int)} {G:List Sr→List Sr} {J:List Sr→List (List Sr)} {y y' yS g:List Sr}
theorem EE (h:BE y=a):y.length=a.length:=by rw[← h,C8]
def Ty (J:List (List Sr))(y g:List Sr):List Sr:=FM y.length fun i=>DI (y.getD i []) ((G3 J g).getD i [])
theorem J7 {J:List (List Sr)}:(Ty J y g).length=y.length:=by simp[Ty]
theorem RO {J:List (List Sr)}{i:Nat}(hi:i<y.length):(Ty J y g).getD i []=DI (y.getD i []) ((G3 J g).getD i []):=Bx [] hi
theorem Tz {J:List (List Sr)}(h:BD m y):BD m (Ty J y g):=fun k hk=>by
 rw[J7]at hk
 rw[RO hk];exact MW (h k hk)
theorem Uz.sys (H:Uz m n a J0 G J)(hy:BD m y)(hf:BE y=a)(hm:1≤m∧m≤13)(hn:n≤6)(hg:g.length=n)(hgs:BD m g):Iw (J y) g m:=by
 have h1:=H.jl y hy hf
 exact⟨zO,zO,fun i hi=>by rw[(h1.2 i zO).1];omega,fun i j hi hj=>(h1.2 i zO).2 j (by rw[(h1.2 i zO).1];omega),fun i hi=>hgs i zO,hm.1,hm.2⟩
theorem Uz.jor (H:Uz m n a J0 G J)(hd:DC J0≠0)(hy:BD m y)(hf:BE y=a)(hm:1≤m∧m≤13)(hn:n≤6)(hg:g.length=n)(hgs:BD m g):CP (J y) g≠none:=fun h=>by
 have:=(H.sys hy hf hm hn hg hgs).jor.1 h
 rw[H.j0 y hy hf]at this
 exact hd this
theorem Uz.sol (H:Uz m n a J0 G J)(hd:DC J0≠0)(hy:BD m y)(hf:BE y=a)(hm:1≤m∧m≤13)(hn:n≤6)(hg:g.length=n)(hgs:BD m g){i:Nat}(hi:i<n) :
  EN m (Du n (fun j=>C0 ((G3 (J y) g).getD j [])) ((J y).getD i [])) (C0 (g.getD i [])):=by
 have hs:=H.sys hy hf hm hn hg hgs
 have hj:=H.jor hd hy hf hm hn hg hgs
 have h1:=H.jl y hy hf
 have h:=(MT (v:=fun j=>C0<|(G3 (J y) g).getD j []) hs.sh hj).2 (fun r hr=>EN.rfl' _) i zO
 unfold Iv at h
 rw[MS _ _ zO,h1.1]at h
 have hl:=(h1.2 i hi).1
 have e:Du n (fun j=>C0 ((G3 (J y) g).getD j [])) ((J y).getD i []++[g.getD i []])=Du n (fun j=>C0 ((G3 (J y) g).getD j [])) ((J y).getD i []):=funext fun t=>by
  unfold Du
  exact Cj fun j hj=>by rw[Kp (by omega)]
 rw[e,He zO,show n-((J y).getD i []).length=0 from by omega]at h
 exact h
theorem Uz.step (H:Uz m n a J0 G J) (hd:DC J0≠0) (hm:1≤m∧m≤13) (hn:n≤6) (hy:BD m y) (hf:BE y = a) (hyS:BD m yS) (hfS:BE yS = a) (hg:g.length = n) (hgs:BD m g)
  (hgG:∀ i,i < n→EN m (C0 (g.getD i [])) fun t=>C0 ((G y).getD i []) t - C0 ((G yS).getD i []) t) (hr1:1≤r) (hr:r≤m) (hz:∀ j,j < n→Lo r (BK y yS j)) (hN:N≤m) (h2:N≤r + r) :
  ∀ j,j < n→Lo N (BK (Ty (J y) y g) yS j):=by
 have h1:=H.jl y hy hf
 have hyl:y.length = n:=by rw [EE hf,H.al]
 have hsl:=(Qt (H.sys hy hf hm hn hg hgs)<|H.jor hd hy hf hm hn hg hgs)
 -- the solution and the difference have the same image,up to N
 have key:∀ j,j < n→Lo N (fun t=>C0 ((G3 (J y) g).getD j []) t + BK y yS j t):=XS h1.1 H.sq (H.j0 y hy hf) (fun i hi=>(h1.2 i hi).1) hd N fun i hi=>by
  have e:Du n (fun j t=>C0 ((G3 (J y) g).getD j []) t + BK y yS j t) ((J y).getD i []) = fun t=>Du n (fun j=>C0 ((G3 (J y) g).getD j [])) ((J y).getD i []) t + Du n (BK y yS) ((J y).getD i []) t:=funext fun t=>by
   unfold Du
   rw [← Rn]
   exact Cj fun j _=>Kv _ _ _ _
  rw [e]
  refine Lo.of (EN.add ((EN.mono (H.sol hd hy hf hm hn hg hgs hi) hN).trans<|EN.mono (hgG i hi) hN)<|H.tay y yS r N hy hyS hf hfS hr1 hr hz hN h2 i hi) fun t _=>?_
  unfold BK
  rw [show C0 ((G y).getD i []) t - C0 ((G yS).getD i []) t + (C0 ((G yS).getD i []) t - C0 ((G y).getD i []) t) = 0 from by omega]; rfl
 intro j hj
 refine Lo.of (g:=fun t=>C0 ((G3 (J y) g).getD j []) t + BK y yS j t) ?_<|key j hj
 unfold BK
 rw [RO (by omega)]
 refine (EN.sub (EN.rfl' _)<|EN.mono (Vz<|hy j zO) hN).trans (EN.eq fun t _=>?_)
 (try dsimp only); omega
theorem jX (hy:BD m y)(hy':BD m y')(hl:y.length=y'.length)(h:∀j,j<y.length→Lo m (BK y y' j)):y=y':=by
 refine List.ext_getElem hl fun j h1 h2=>?_
 rw[← CV (d:=[]) h1,← CV (d:=[]) h2]
 refine BM.ext (hy j h1) (hy' j h2) fun k hk=>?_
 have h3:md ((y'.getD j []).getD k 0-(y.getD j []).getD k 0)=md 0:=h j h1 k hk
 have h4:=Bk (hy j h1).2 k
 have h5:=Bk (hy' j h2).2 k
 unfold md at h3
 omega
theorem jY (hy:BD m y)(hy':BD m y')(hm:1≤m)(h:BE y=BE y'){j:Nat}(hj:j<y.length):Lo 1 (BK y y' j):=fun k hk=>by
 have e:k=0:=by omega
 subst e
 have hl:y'.length=y.length:=by rw[← C8 (A:=y'),← h,C8]
 have h1:(BE y).getD j 0=(BE y').getD j 0:=by rw[h]
 unfold BE at h1
 rw[B9 (d:=[]) hj,B9 (d:=[]) (by omega)]at h1
 show md ((y'.getD j []).getD 0 0-(y.getD j []).getD 0 0)=_
 rw[h1,Int.sub_self];rfl
theorem Lt (hy:BD m y)(hy':BD m y')(hl:y.length=y'.length)(hm:1≤m)(h:∀j,j<y.length→Lo 1 (BK y y' j)):BE y=BE y':=by
 refine List.ext_getElem (by rw[C8,C8,hl]) fun j h1 h2=>?_
 rw[← CV (d:=(0:Int)) h1,← CV (d:=(0:Int)) h2]
 rw[C8]at h1 h2
 unfold BE
 rw[B9 (d:=[]) h1,B9 (d:=[]) h2]
 have h3:md ((y'.getD j []).getD 0 0-(y.getD j []).getD 0 0)=md 0:=h j h1 0 zO
 have h4:=Bk (hy j h1).2 0
 have h5:=Bk (hy' j h2).2 0
 unfold md at h3
 omega
theorem Uz.at_ (H:Uz m n a J0 G J)(hy:BD m y)(hf:BE y=a)(hy':BD m y')(hf':BE y'=a)(hk1:1≤k)(hk:k<m)(hz:∀j,j<n→Lo k (BK y y' j)){i:Nat}(hi:i<n) :
  Lo k (BK (G y) (G y') i)∧md (BK (G y) (G y') i k)=md (sm n fun j=>cH J0 i j*BK y y' j k):=by
 have h:=H.tay y y' k (k+1) hy hy' hf hf' hk1 zO hz zO zO i hi
 have h1:=H.jl y hy hf
 refine⟨?_,?_⟩
 ·refine Lo.of (EN.mono h.symm<|Nat.le_succ k) fun t ht=>?_
  show md (sm n fun j=>cv _ (BK y y' j) t)=_
  rw[show md (sm n fun j=>cv (C0 (((J y).getD i []).getD j [])) (BK y y' j) t)=md (sm n fun _=>0)from MN fun j hj=>Lo.cvr _ (hz j hj) t ht,jT fun _ _=>rfl];rfl
 ·rw[← h k (Nat.lt_succ_self k),RM hz]
  congr 1
  exact Cj fun j hj=>by
   unfold cH;rw[← H.j0 y hy hf,Hn];unfold PX;rw[B9 (d:=[]) (by rw[(h1.2 i hi).1];exact hj)];rfl
end
section
variable {m n k:Nat} {a:List Int} {J0:List (List Int)} {G:List Sr→List Sr} {J:List Sr→List (List Sr)} {L:Nat→Nat→Int} {nx:Nat→List Sr→List Int} {Y:List Sr}
def FU (nx:Nat→List Sr→List Int)(Y:List Sr):Nat→List Sr
 |0=>Y
 |k+1=>FM Y.length fun i=>((FU nx Y k).getD i []).set (k+1) ((nx (k+1) (FU nx Y k)).getD i 0)
@[simp] theorem J8:∀k,(FU nx Y k).length=Y.length
 |0=>rfl
 |k+1=>by simp[FU]
theorem RQ {i:Nat}(hi:i<Y.length):(FU nx Y (k+1)).getD i []=((FU nx Y k).getD i []).set (k+1) ((nx (k+1) (FU nx Y k)).getD i 0):=Bx [] hi
theorem aF {i:Nat}(hi:i<Y.length):(CJ i (FU nx Y (k+1)) (FU nx Y k)).set i (((CJ i (FU nx Y (k+1)) (FU nx Y k)).getD i []).set (k+1) ((nx (k+1) (FU nx Y k)).getD i 0))=CJ (i+1) (FU nx Y (k+1)) (FU nx Y k):=by
 rw[Ei [] (by simp) (A9 _) (by simpa using hi),← RQ hi,Kn [] (by simp) (by simpa using hi)]
theorem UA {s:Sr}{y:Int}:∀ {k:Nat},B8 s=true→0≤y∧y<1000003→B8 (s.set k y)=true:=fun {k} h hy=>by
 unfold B8 at h ⊢
 rw[zm]at h ⊢
 intro x hx
 rcases List.mem_or_eq_of_mem_set hx with h1|h1
 ·exact h x h1
 ·subst h1;exact Ci.2 hy
structure qI (m n:Nat)(J0:List (List Int))(G:List Sr→List Sr)(a:List Int)(L:Nat→Nat→Int)(nx:Nat→List Sr→List Int):Prop where
 e:∀k y,1≤k→k<m→BD m y→BE y=a→nx k y=Jb J0 (FM n fun i=>md (L i k-C0 ((G y).getD i []) k))
theorem cS (H:Uz m n a J0 G J)(hd:DC J0≠0)(hx:qI m n J0 G a L nx)(hY:BD m Y)(hf:BE Y=a)(h0:∀j,j<n→∀k,1≤k→k<m→(Y.getD j []).getD k 0=0)(hL:∀i,i<n→EN 1 (C0 ((G Y).getD i [])) (L i)) :
  ∀k,k<m→BD m (FU nx Y k)∧BE (FU nx Y k)=a∧(∀j,j<n→∀q,k<q→q<m→((FU nx Y k).getD j []).getD q 0=0)∧∀i,i<n→EN (k+1) (C0 ((G (FU nx Y k)).getD i [])) (L i)
 |0,_=>⟨hY,hf,fun j hj q h1 h2=>h0 j hj q h1 h2,hL⟩
 |k+1,hk=>by
  obtain⟨h1,h2,h3,h4⟩:=cS H hd hx hY hf h0 hL k zO
  have hYl:Y.length=n:=by rw[EE hf,H.al]
  have hl:J0.length=n:=by
   have:=H.j0 Y hY hf
   rw[← this,EB];exact(H.jl Y hY hf).1
  have hS':Sq J0.length J0:=by rw[hl];exact H.sq
  have hb:B8 (FM n fun i=>md (L i (k+1)-C0 ((G (FU nx Y k)).getD i []) (k+1)))=true:=FZ fun _ _=>BT _
  have hbl:(FM n fun i=>md (L i (k+1)-C0 ((G (FU nx Y k)).getD i []) (k+1))).length=J0.length:=by rw[hl];simp
  have hj:Ja J0 (FM n fun i=>md (L i (k+1)-C0 ((G (FU nx Y k)).getD i []) (k+1)))≠none:=fun hn=>hd ((Kq hS' hb).2 hn)
  have e:=hx.e (k+1) (FU nx Y k) zO hk h1 h2
  have hnum:∀i,0≤(nx (k+1) (FU nx Y k)).getD i 0∧(nx (k+1) (FU nx Y k)).getD i 0<1000003:=fun i=>by rw[e];exact Bk (Qp hS' hb hj) i
  have s1:BD m (FU nx Y (k+1)):=fun i hi=>by
   rw[J8]at hi
   rw[RQ hi]
   have:=h1 i (by rw[J8];exact hi)
   exact⟨by rw[z6];exact this.1,UA this.2 (hnum i)⟩
  have g1:∀i,i<n→∀q,((FU nx Y (k+1)).getD i []).getD q 0=if q=k+1 then(nx (k+1) (FU nx Y k)).getD i 0 else((FU nx Y k).getD i []).getD q 0:=fun i hi q=>by
   rw[RQ zO,BJ _ _ _ _ _ (by rw[(h1 i (by rw[J8];omega)).1];exact hk)]
  have s2:BE (FU nx Y (k+1))=a:=by
   rw[← h2]
   refine (Lt h1 s1 (by simp) zO fun j hj t ht=>?_).symm
   rw[J8]at hj
   show md (((FU nx Y (k+1)).getD j []).getD t 0-_)=_
   rw[g1 j zO,if_neg (by omega)]
   show md (((FU nx Y k).getD j []).getD t 0-((FU nx Y k).getD j []).getD t 0)=_
   rw[Int.sub_self];rfl
  have hz:∀j,j<n→Lo (k+1) (BK (FU nx Y k) (FU nx Y (k+1)) j):=fun j hj t ht=>by
   show md (((FU nx Y (k+1)).getD j []).getD t 0-_)=_
   rw[g1 j hj,if_neg (by omega)]
   show md (((FU nx Y k).getD j []).getD t 0-((FU nx Y k).getD j []).getD t 0)=_
   rw[Int.sub_self];rfl
  refine⟨s1,s2,fun j hj q hq hqm=>?_,fun i hi=>?_⟩
  ·rw[g1 j hj,if_neg (by omega)];exact h3 j hj q zO hqm
  ·obtain⟨q1,q2⟩:=H.at_ h1 h2 s1 s2 (k:=k+1) zO hk hz hi
   intro t ht
   by_cases e1:t<k+1
   ·have:=q1 t e1
    have h5:=h4 i hi t e1
    unfold BK at this
    rw[← h5]
    unfold Hl at this
    unfold md at this ⊢
    omega
   ·have:t=k+1:=by omega
    subst this
    have h6:=Qs hS' hbl hb hj (r:=i) zO
    rw[← e,hl,Bx _ hi]at h6
    have e3:(sm n fun j=>cH J0 i j*BK (FU nx Y k) (FU nx Y (k+1)) j (k+1))=sm n fun j=>(J0.getD i []).getD j 0*(nx (k+1) (FU nx Y k)).getD j 0:=Cj fun j hj=>by
     unfold cH BK C0
     rw[g1 j hj,if_pos rfl,h3 j hj (k+1) zO hk,Int.sub_zero]
    rw[e3,h6]at q2
    unfold BK at q2
    unfold md at q2 ⊢
    omega
end
end
section
structure HH (m m':Nat)(B B':List Sr):Prop where
 s:BD m B
 s':BD m' B'
 l:B.length=B'.length
 h:∀k,(B.getD k []).getD 0 0=(B'.getD k []).getD 0 0
section
variable {m m' ni k i:Nat} {B B' R R':List Sr} {s s':Sr} {cs:List AK} {r:Int} {os ws:List Int}
theorem TA (l:List Sr)(i:Nat)(x:Sr)(j:Nat):(l.set i x).getD j []=if j=i∧i<l.length then x else l.getD j []:=by
 by_cases h:i<l.length
 ·rw[BJ _ _ _ _ _ h]
  by_cases e:j=i
  ·rw[if_pos e,if_pos ⟨e,h⟩]
  ·rw[if_neg e,if_neg fun h=>e h.1]
 ·rw[List.set_eq_of_length_le zO,if_neg fun h9=>h h9.2]
theorem HH.set (h:HH m m' B B')(hs:BM m s)(hs':BM m' s')(e:s.getD 0 0=s'.getD 0 0):HH m m' (B.set i s) (B'.set i s'):=by
 refine⟨h.s.set hs,h.s'.set hs',by rw[z6,z6,h.l],fun k=>?_⟩
 rw[TA,TA,h.l]
 split
 ·exact e
 ·exact h.h k
theorem HH.adP (hm:1≤m)(hm':1≤m')(h:HH m m' B B')(hr:r.toNat<B.length)(e:s.getD 0 0=s'.getD 0 0):HH m m' (G6 B r s) (Go.Proofs.YtbajepcpgncekaaGreat.G6 B' r s'):=by
 have h1:=h.s r.toNat hr
 have h2:=h.s' r.toNat (by rw[← h.l];exact hr)
 refine h.set (Iz h1) (Iz h2) ?_
 rw[Ts h1 zO,Ts h2 zO,h.h,e]
theorem HH.adI (hm:1≤m)(hm':1≤m')(h:HH m m' B B')(hR:HH m m' R R')(hk:k<B.length)(hf:H8 ni k (cs.getD k AK.zero)):HH m m' (OE cs R k B) (Go.Proofs.YtbajepcpgncekaaGreat.OE cs R' k B'):=by
 have b2:=fun h=>hf.i2 h
 have b7:=fun h=>hf.i7 h
 have h1:=h.s k hk
 have h2:=h.s' k (by rw[← h.l];exact hk)
 have hp:∀q,(Ch (B.getD k []) (R.getD q [])).getD 0 0=(Ch (B'.getD k []) (R'.getD q [])).getD 0 0:=fun q=>by
  rw[N5 (by rw[h1.1];omega),N5 (by rw[h2.1];omega),h.h,hR.h]
 have hq:∀q,(C7 (B.getD k []) (R.getD q [])).getD 0 0=(C7 (B'.getD k []) (R'.getD q [])).getD 0 0:=fun q=>by
  rw[QJ (by rw[h1.1];omega),QJ (by rw[h2.1];omega),h.h,hR.h]
 have hn:∀ {s s':Sr},BM m s→BM m' s'→s.getD 0 0=s'.getD 0 0→(CU s 1000002).getD 0 0=(CU s' 1000002).getD 0 0:=fun hs hs' e=>by
  rw[Tt hs zO,Tt hs' zO,e]
 by_cases h3:(cs.getD k AK.zero).op=3
 ·rw[QM h3,QM h3]
  have:=b2 zO
  exact (h.adP hm hm' zO<|h.h k).adP hm hm' (by rw[Ce];omega)<|h.h k
 by_cases h4:(cs.getD k AK.zero).op=4
 ·rw[QN h4,QN h4]
  have:=b2 zO
  exact (h.adP hm hm' zO<|h.h k).adP hm hm' (by rw[Ce];omega)<|hn h1 h2<|h.h k
 by_cases h5:(cs.getD k AK.zero).op=5
 ·rw[QO h5,QO h5]
  have:=b2 zO
  exact (h.adP hm hm' zO<|hp _).adP hm hm' (by rw[Ce];omega)<|hp _
 by_cases h6:(cs.getD k AK.zero).op=6
 ·rw[QP h6,QP h6]
  have:=b2 zO
  refine (h.adP hm hm' zO<|hq _).adP hm hm' (by rw[Ce];omega)<|hn (IA<|Hq h1) (IA<|Hq h2) ?_
  rw[N5 (by rw[E7,h1.1];omega),N5 (by rw[E7,h2.1];omega),hq,hR.h]
 by_cases h7:(cs.getD k AK.zero).op=7
 ·rw[QQ h7,QQ h7]
  have:=b7 h7
  exact h.adP hm hm' zO<|hn h1 h2<|h.h k
 have:(cs.getD k AK.zero).op<3∨7<(cs.getD k AK.zero).op:=by omega
 rw[QR this,QR this];exact h
theorem HH.adA (hm:1≤m)(hm':1≤m')(hR:HH m m' R R')(hf:∀k,k<cs.length→H8 ni k (cs.getD k AK.zero)):∀(n:Nat)(B B':List Sr),n≤cs.length→n≤B.length→HH m m' B B'→HH m m' (UL cs R n B) (Go.Proofs.YtbajepcpgncekaaGreat.UL cs R' n B')
 |0,_,_,_,_,h=>h
 |n+1,B,B',hn,hb,h=>HH.adA hm hm' hR hf n _ _ zO (by rw[Mm];omega) (h.adI hm hm' hR zO (hf n zO))
theorem HH.wgt (hm:1≤m)(hm':1≤m')(h:HH m m' B B')(ho:∀k,k<os.length→(os.getD k 0).toNat<B.length):∀k,k≤os.length→HH m m' (NR os ws k B) (Go.Proofs.YtbajepcpgncekaaGreat.NR os ws k B')
 |0,_=>h
 |k+1,hk=>by
  have ih:=HH.wgt hm hm' h ho k zO
  have h1:=ih.s (os.getD k 0).toNat (by rw[ED];exact ho k zO)
  have h2:=ih.s' (os.getD k 0).toNat (by rw[ED,← h.l];exact ho k zO)
  refine ih.set ⟨by rw[z6];exact h1.1,Ls h1.2<|BT _⟩ ⟨by rw[z6];exact h2.1,Ls h2.2<|BT _⟩ ?_
  rw[BJ _ _ _ _ _ (by rw[h1.1];omega),BJ _ _ _ _ _ (by rw[h2.1];omega),if_pos rfl,if_pos rfl,ih.h]
theorem cT (k:Nat):((KF R).getD k []).getD 0 0=0:=by
 by_cases h:k<R.length
 ·rw[show(KF R).getD k []=List.replicate (R.getD k []).length 0 from by unfold KF;rw[B9 (d:=[]) h]];exact I9 _ 0
 ·rw[show(KF R).getD k []=[]from by rw[List.getD_eq_getElem?_getD,List.getElem?_eq_none (by rw[Di];omega)];rfl];rfl
theorem HH.zrs (h:HH m m' R R'):HH m m' (KF R) (Go.Proofs.YtbajepcpgncekaaGreat.KF R'):=⟨HS h.s,HS h.s',by rw[Di,Di,h.l],fun k=>by rw[cT,cT]⟩
theorem HH.byN {L L':List Sr}(hm:1≤m)(hm':1≤m')(hL:HH m m' L L')(h:HH m m' B B')(hf:∀k,k<cs.length→H8 B.length k (cs.getD k AK.zero)):∀k,k≤cs.length→HH m m' (Uw cs L k B) (Go.Proofs.YtbajepcpgncekaaGreat.Uw cs L' k B')
 |0,_=>h
 |k+1,hk=>by
  have ih:=HH.byN hm hm' hL h hf k zO
  by_cases h1:(cs.getD k AK.zero).op=1
  ·rw[Ng h1,Ng h1]
   have:=(hf k zO).i1 h1
   exact ih.adP hm hm' (by rw[J5];omega)<|hL.h k
  ·rw[Nh h1,Nh h1];exact ih
theorem HH.rep (m m' ni:Nat):HH m m' (List.replicate ni (List.replicate m 0)) (List.replicate ni (List.replicate m' 0)):=by
 refine⟨KG _ _,KG _ _,by simp,fun k=>?_⟩
 by_cases h:k<ni
 ·rw[show(List.replicate ni (List.replicate m (0:Int))).getD k []=List.replicate m 0 from by simp[List.getD_eq_getElem?_getD,h],show(List.replicate ni (List.replicate m' (0:Int))).getD k []=List.replicate m' 0 from by simp[List.getD_eq_getElem?_getD,h],I9,I9]
 ·rw[show(List.replicate ni (List.replicate m (0:Int))).getD k []=[]from by simp[List.getD_eq_getElem?_getD,h],show(List.replicate ni (List.replicate m' (0:Int))).getD k []=[]from by simp[List.getD_eq_getElem?_getD,h]]
theorem XT {A A':List Sr}{T:Tp}{xs:List Int}(hm:1≤m)(hm':1≤m')(h:DT m A T)(h':DT m' A' T)(hl:A.length=A'.length)(hE:Ln T xs)(i:Nat):HH m m' (QS m T xs A i) (QS m' T xs A' i):=by
 have hR:HH m m' (Bg m A T.code) (Bg m' A' T.code):=⟨h.regs,h'.regs,by rw[BV,BV],fun k=>by
  by_cases hk:k<T.code.length
  ·rw[(h.ser k hk).2,(h'.ser k hk).2]
  ·rw[show(Bg m A T.code).getD k []=[]from by rw[List.getD_eq_getElem?_getD,List.getElem?_eq_none (by rw[BV];omega)];rfl,show(Bg m' A' T.code).getD k []=[]from by rw[List.getD_eq_getElem?_getD,List.getElem?_eq_none (by rw[BV];omega)];rfl]⟩
 have hx:=h.outs hE
 unfold QS fY
 rw[← hl]
 refine HH.byN hm hm' ?_ (HH.rep m m' _) (fun k hk=>by rw[z5];exact h.form k hk) _<|A9 _
 unfold LT
 refine HH.adA hm hm' hR h.form _ _ _ (A9 _) (by rw[ED,Di,BV];exact A9 _)<|hR.zrs.wgt hm hm' (fun q hq=>?_) _<|A9 _
 rw[Di,BV]
 have:=hx q hq
 omega
end
section
variable {p:List Fn} {f m r N i j s:Nat} {a:List Int} {A A':List Sr} {xs:List Int} {T:Tp}
structure Ia (p:List Fn)(f:Nat)(a:List Int)(xs:List Int)(T:Tp):Prop where
 v:Jd p
 lt:f<p.length
 l:((a.length:Nat):Int)=(p.getD f Fn.zero).params
 n:B8 a=true
 r:∃s,AY (KC p f a) (xs,T) s 0
theorem Mq (hA:BD m A)(h:BE A=a):RH m a A:=by rw[← h];exact EY hA
theorem Ia.tp (h:Ia p f a xs T)(hm:1≤m)(hA:BD m A)(hf:BE A=a):DT m A T∧(DB p m f A=xs.map fun r=>(Bg m A T.code).getD r.toNat [])∧H7 p m f A=0:=by
 obtain⟨s,hs⟩:=h.r
 have h1:=KE hm h.v h.lt h.n (Mq hA hf) h.l hs rfl
 exact⟨h1.1,h1.2,KD hm h.v h.lt h.n (Mq hA hf) h.l hs⟩
theorem Gu (a:List Int):BE (Cc a)=a:=by
 unfold BE Cc
 rw[List.map_map]
 exact List.map_id'' (fun _=>rfl) a
theorem Ia.en (h:Ia p f a xs T):xs.length=(p.getD f Fn.zero).outs.length∧Ln T xs:=by
 obtain⟨s,hs⟩:=h.r
 have hT:=Tm (A9 1) h.v h.lt h.n (Mq (DK h.n)<|Gu a) h.l
 rw[hs.ok]at hT
 obtain⟨z,h1,h2,h3,h4⟩:=hT
 exact⟨h4.1,fun k hk=>(h4.2.2 k (by rw[h4.1]at hk;exact hk)).1⟩
theorem Ia.at (h:Ia p f a xs T):qQ p f a:=⟨h.v,h.lt,h.l,h.n,(h.tp (A9 1) (DK h.n) (Gu a)).2.2⟩
theorem Ia.vals (h:Ia p f a xs T)(hm:1≤m)(hA:BD m A)(hf:BE A=a)(hi:i<xs.length):(DB p m f A).getD i []=(Bg m A T.code).getD (xs.getD i 0).toNat []:=by
 rw[(h.tp hm hA hf).2.1,B9 (d:=0) hi]
theorem Ia.ser (h:Ia p f a xs T)(hm:1≤m)(hA:BD m A)(hf:BE A=a):(DB p m f A).length=xs.length∧BD m (DB p m f A):=by
 have hl:(DB p m f A).length=xs.length:=by rw[(h.tp hm hA hf).2.1,zg]
 refine⟨hl,fun k hk=>?_⟩
 rw[h.vals hm hA hf (by omega)]
 have:=(h.tp hm hA hf).1.outs h.en.2 k zO
 exact ((h.tp hm hA hf).1.ser _ zO).1
theorem Ia.tay (h:Ia p f a xs T)(hm:1≤m)(hA:BD m A)(hf:BE A=a)(hA':BD m A')(hf':BE A'=a)(hr:r≤m)(hz:∀j,j<A.length→Lo r (BK A A' j))(hN:N≤m)(h2:N≤r+r)(hi:i<xs.length) :
  EN N (Du A.length (BK A A') (QS m T xs A i)) (BK (DB p m f A) (DB p m f A') i):=by
 refine (Go.Proofs.YtbajepcpgncekaaGreat.tay (h.tp hm hA hf).1 (h.tp hm hA' hf').1 hm hr hz hN h2 h.en.2 hi).trans (EN.eq fun t _=>?_)
 unfold BK
 rw[h.vals hm hA hf hi,h.vals hm hA' hf' hi]
theorem Ia.slo (h:Ia p f a xs T)(hm:1≤m)(hA:BD m A)(hf:BE A=a)(i:Nat):(QS m T xs A i).length=A.length∧BD m (QS m T xs A i):=by
 refine⟨Tq,?_⟩
 unfold QS
 exact aA (h.tp hm hA hf).1.form
def RR (p:List Fn)(f:Nat)(a:List Int)(n:Nat):List (List Int):=FM n fun i=>FM a.length fun k=>((QK p f a (eV a.length k)).getD i []).getD 1 0
theorem Fq (a d:List Int):BE (GI a d 2)=a:=by
 refine List.ext_getElem (by simp) fun k h1 h2=>?_
 rw[← CV (d:=(0:Int)) h1,← CV (d:=(0:Int)) h2]
 unfold BE
 rw[B9 (d:=[]) (by rw[D2];exact h2),Xy h2]
theorem Ia.jac (h:Ia p f a xs T)(hm:1≤m)(hA:BD m A)(hf:BE A=a){i j:Nat}(hi:i<xs.length)(hj:j<a.length):((QS m T xs A i).getD j []).getD 0 0=((QK p f a (eV a.length j)).getD i []).getD 1 0:=by
 have hn0:B8 (List.replicate a.length 0)=true:=Hp _
 have s0:BD 2 (GI a (List.replicate a.length 0) 2):=HR h.n hn0
 have s1:BD 2 (GI a (eV a.length j) 2):=HR h.n (RE _ _)
 have hl:A.length=a.length:=by rw[← hf,C8]
 have hd:=XT (i:=i) hm (by decide:1≤2) (h.tp hm hA hf).1 (h.tp (by decide) s0<|Fq _ _).1 (by rw[D2,hl]) h.en.2
 rw[hd.h j]
 have ho:∀q,q<a.length→Lo 1 (BK (GI a (List.replicate a.length 0) 2) (GI a (eV a.length j) 2) q):=fun q hq=>jY s0 s1 (by decide) (by rw[Fq,Fq]) (by rw[D2];exact hq)
 have ht:=h.tay (m:=2) (r:=1) (N:=2) (by decide) s0 (Fq _ _) s1 (Fq _ _) (by decide) (fun q hq=>ho q (by rw[D2]at hq;exact hq)) (by decide) (by decide) hi 1 (by decide)
 rw[D2,RM (k:=1) ho]at ht
 have e:(sm a.length fun q=>C0 ((QS 2 T xs (GI a (List.replicate a.length 0) 2) i).getD q []) 0*BK (GI a (List.replicate a.length 0) 2) (GI a (eV a.length j) 2) q 1)=sm a.length fun q=>if j=q then C0 ((QS 2 T xs (GI a (List.replicate a.length 0) 2) i).getD q []) 0 else 0:=Cj fun q hq=>by
  unfold BK
  rw[show C0 ((GI a (eV a.length j) 2).getD q []) 1=_ from Tl hq,show C0 ((GI a (List.replicate a.length 0) 2).getD q []) 1=_ from Tl hq,I9,Xx hj,Int.sub_zero]
  split
  ·rw[Int.mul_one]
  ·rw[Int.mul_zero]
 rw[e,Kw j (fun q=>C0 ((QS 2 T xs (GI a (List.replicate a.length 0) 2) i).getD q []) 0),if_pos hj]at ht
 have hat:=h.at
 have hz:=Xz (K:=0) (d:=List.replicate a.length 0) (D:=fun _=>[]) (c:=fun _=>0) h.v h.lt h.l h.n hn0 (fun k hk=>absurd hk<|Nat.not_lt_zero k) (fun i hi=>by rw[I9];rfl) hat.z (r:=i) (by rw[← h.en.1];exact hi)
 have hz':((DB p 2 f (GI a (List.replicate a.length 0) 2)).getD i []).getD 1 0=0:=hz
 unfold BK at ht
 rw[show C0 ((DB p 2 f (GI a (List.replicate a.length 0) 2)).getD i []) 1=0 from hz',Int.sub_zero]at ht
 have n1:=Bk (((h.slo (by decide:1≤2) s0 (Fq _ _) i).2 j (by rw[(h.slo (by decide:1≤2) s0 (Fq _ _) i).1,D2];exact hj)).2) 0
 have n2:=Bk (((h.ser (by decide:1≤2) s1<|Fq _ _).2 i (by rw[(h.ser (by decide:1≤2) s1<|Fq _ _).1];exact hi)).2) 1
 have ht':md (((QS 2 T xs (GI a (List.replicate a.length 0) 2) i).getD j []).getD 0 0)=md (((DB p 2 f (GI a (eV a.length j) 2)).getD i []).getD 1 0):=ht
 rw[LK n1.1 n1.2,LK n2.1 n2.2]at ht'
 exact ht'
end
end
section
section
variable {p:List Fn} {f m r N i j k n:Nat} {a d:List Int} {y y':List Sr} {xs:List Int} {T:Tp}
theorem Mr (hi:i<n):(RR p f a n).getD i []=FM a.length fun k=>((QK p f a (eV a.length k)).getD i []).getD 1 0:=Bx [] hi
theorem aG (h:Ia p f a xs T)(hn:n=xs.length)(i:Nat):B8 ((RR p f a n).getD i [])=true:=by
 by_cases hi:i<n
 ·rw[Mr hi]
  refine FZ fun k _=>?_
  have:=(h.ser (m:=2) (by decide) (HR h.n (RE a.length k)) (Fq _ _))
  exact Bk (this.2 i (by rw[this.1];omega)).2 1
 ·rw[show(RR p f a n).getD i []=[]from by rw[List.getD_eq_getElem?_getD,List.getElem?_eq_none (by unfold RR;rw[DP];omega)];rfl];rfl
theorem aH (h:Ia p f a xs T)(hm:1≤m)(hy:BD m y)(hf:BE y=a)(hn:n=xs.length):Ix (HB m T xs y n)=RR p f a n:=by
 have hl:y.length=a.length:=by rw[← hf,C8]
 refine List.ext_getElem (by rw[EB];simp[RR]) fun i h1 h2=>?_
 have hi:i<n:=by rw[EB,J6]at h1;exact h1
 rw[← CV (d:=[]) h1,← CV (d:=[]) h2,Hn,Pw hi,Mr hi]
 have hs:=h.slo hm hy hf i
 refine List.ext_getElem (by rw[Pg,hs.1];simp[hl]) fun j h3 h4=>?_
 have hj:j<a.length:=by rw[Pg,hs.1]at h3;omega
 rw[← CV (d:=(0:Int)) h3,← CV (d:=(0:Int)) h4,Bx _ hj]
 unfold PX
 rw[B9 (d:=[]) (by rw[hs.1];omega)]
 exact h.jac hm hy hf zO hj
theorem J9 (h0:0<y.length):BE (Cv y)=0::BE y:=by
 show(Px _).getD 0 0::_=_
 congr 1
 unfold Px
 generalize (y.getD 0 []).length=q
 match q with
 |0=>rfl
 |1=>rfl
 |q+2=>rfl
theorem aI (hy:BD m y)(hy':BD m y')(h0:0<y.length)(h0':0<y'.length)(t:Nat):BK (Cv y) (Cv y') 0 t=0:=by
 show C0 (Px (y'.getD 0 []).length) t-C0 (Px (y.getD 0 []).length) t=0
 rw[(hy 0 h0).1,(hy' 0 h0').1,Int.sub_self]
theorem TB {row:List Sr}(j:Nat):(row.drop 1).getD j []=row.getD (j+1) []:=by rw[List.getD_eq_getElem?_getD,List.getElem?_drop,List.getD_eq_getElem?_getD,Nat.add_comm]
theorem gA {row:List Sr}{v:Nat→Nat→Int}(h:∀t,v 0 t=0)(n:Nat):Du (n+1) v row=Du n (fun j=>v (j+1)) (row.drop 1):=funext fun t=>by
 unfold Du
 rw[P9,show v 0=Hl from funext h,CE _ Hl,DR,Int.zero_add]
 exact Cj fun j _=>by rw[TB]
theorem XU {X:List (List Sr)}(hi:i<X.length):(GP X).getD i []=(X.getD i []).drop 1:=by unfold GP;rw[B9 (d:=[]) hi]
@[simp] theorem aJ (X:List (List Sr)):(GP X).length=X.length:=by simp[GP]
def Gv (p:List Fn)(f:Nat)(a:List Int):List (List Int):=(RR p f (0::a) a.length).map fun r=>r.drop 1
@[simp] theorem KJ:(Gv p f a).length=a.length:=by simp[Gv,RR]
theorem TC (hi:i<a.length):(Gv p f a).getD i []=((RR p f (0::a) a.length).getD i []).drop 1:=by unfold Gv;rw[B9 (d:=[]) (by simp[RR];exact hi)]
theorem UB {s:List Int}(h:B8 s=true)(k:Nat):B8 (s.drop k)=true:=by
 unfold B8 at h ⊢
 rw[zm]at h ⊢
 exact fun x hx=>h x<|List.mem_of_mem_drop hx
theorem RS (h:Ia p f (0::a) xs T)(hn:xs.length=a.length):Sq a.length (Gv p f a):=by
 refine⟨KJ,fun i hi=>?_,fun i=>?_⟩
 ·rw[TC hi,Mr hi,List.length_drop,DP];rfl
 ·by_cases hi:i<a.length
  ·rw[TC hi];exact UB (aG h hn.symm i) 1
  ·rw[show(Gv p f a).getD i []=[]from by rw[List.getD_eq_getElem?_getD,List.getElem?_eq_none (by rw[KJ];omega)];rfl];rfl
theorem gB (X:List (List Sr)):Ix (GP X)=(Ix X).map fun r=>r.drop 1:=by
 unfold Ix GP
 rw[List.map_map,List.map_map]
 refine List.map_congr_left fun r _=>?_
 show PX (r.drop 1)=(PX r).drop 1
 unfold PX
 rw[List.map_drop]
theorem PA (h:Ia p f (0::a) xs T)(hm:1≤m)(hn:xs.length=a.length)(ha:0<a.length):Uz m a.length a (Gv p f a) (fun y=>DB p m f (Cv y)) (fun y=>GP (HB m T xs (Cv y) xs.length)):=by
 have len:∀ {y:List Sr},BE y=a→y.length=a.length:=fun hf=>by rw[← hf,C8]
 have fs:∀ {y:List Sr},BE y=a→BE (Cv y)=0::a:=fun hf=>by rw[J9 (by rw[len hf];exact ha),hf]
 have ws:∀ {y:List Sr},BD m y→BE y=a→BD m (Cv y):=fun hy hf=>KH hy (by rw[len hf];exact ha)
 exact {
  al:=rfl
  sq:=RS h hn
  gl:=fun y hy hf=>by have:=h.ser hm (ws hy hf) (fs hf);exact⟨this.1.trans hn,this.2⟩
  jl:=fun y hy hf=>by
   refine⟨by rw[aJ,J6];exact hn,fun i hi=>?_⟩
   rw[XU (by rw[J6];omega),Pw (by omega)]
   have:=h.slo hm (ws hy hf) (fs hf) i
   have hl:=len hf
   refine⟨by rw[List.length_drop,this.1,DV];omega,fun k hk=>?_⟩
   rw[List.length_drop]at hk
   rw[TB];exact this.2 (k+1) zO
  j0:=fun y hy hf=>by rw[gB,aH h hm (ws hy hf) (fs hf) rfl,hn];rfl
  tay:=fun y y' r N hy hy' hf hf' hr1 hr hz hN h2 i hi=>by
   have hl:=len hf
   have hl':=len hf'
   rw[XU (by rw[J6];omega),Pw (by omega)]
   have h0:=aI hy hy' zO zO
   have:=h.tay hm (ws hy hf) (fs hf) (ws hy' hf') (fs hf') hr (fun j hj=>by
    cases j with
    |zero=>exact fun t _=>by rw[h0];rfl
    |succ j=>exact hz j (by rw[DV]at hj;omega)) hN h2 (i:=i) zO
   rw[DV,gA h0,hl]at this
   exact this }
end
def KK (p:List Fn)(f:Int)(a:List Int)(o:Int):Int :=
 if Ge p f CZ=0 then(if ((decide (((a.length:Nat):Int)=(p.getD f.toNat Fn.zero).params-1) && B8 a) && Gl o 0 12)=true then 0 else 2)else Ge p f CZ
def Nk (p:List Fn)(f:Int)(a:List Int)(o:Int):Int :=
 if KK p f a o=0 then(if Es p f.toNat (0::a)=0 then(if (Ep p f.toNat (0::a)).any (fun x=>x != 0)=true then 4 else if DC (Gv p f.toNat a)=0 then 6 else 0)else Es p f.toNat (0::a))else KK p f a o
def Z5 (p:List Fn)(f:Nat)(a:List Int)(k:Nat)(y:List Sr):List Int:=Jb (Gv p f a) (FM a.length fun i=>md (-(((DB p (k+1) f (Cv (y.map (CB (k+1))))).getD i []).getD k 0)))
def KZ (p:List Fn)(f:Nat)(a:List Int)(o:Nat)(k:Nat):List Sr:=FU (Z5 p f a) (a.map fun x=>cst (o+1) x) k
def L1 (p:List Fn)(f:Int)(a:List Int)(o:Int):List Sr:=if Nk p f a o=0 then KZ p f.toNat a o.toNat o.toNat else []
section
variable {p:List Fn} {f m k n o r:Nat} {a d:List Int} {y:List Sr} {xs:List Int} {T:Tp}
theorem aK {q m:Nat}(h:2≤q)(hm:q≤m):Px q=CB q (Px m):=by
 unfold Px CB
 rw[List.take_set,List.take_replicate,Nat.min_eq_left hm]
theorem TD (hy:BD m y)(h0:0<y.length)(h2:2≤k)(hk:k≤m):Cv (y.map (CB k))=(Cv y).map (CB k):=by
 show Px ((y.map (CB k)).getD 0 []).length::y.map (CB k)=CB k (Px (y.getD 0 []).length)::y.map (CB k)
 congr 1
 rw[B9 (d:=[]) h0,(hy 0 h0).1,GO,(hy 0 h0).1,Nat.min_eq_left hk]
 exact aK h2 hk
theorem gC (m:Nat)(x:Int){q:Nat}(h:1≤q):(cst m x).getD q 0=0:=by
 unfold cst
 rw[Pq,if_neg zO,I9]
theorem jZ {m:Nat}(x:Int)(h:1≤m):(cst m x).getD 0 0=x:=by
 unfold cst
 rw[Pq,if_pos ⟨rfl,by simp;omega⟩]
theorem PB (hn:B8 a=true):BD m (a.map fun x=>cst m x):=fun k hk=>by
 rw[zg]at hk
 rw[B9 (d:=0) hk];exact Fp (Ci.2 (Bk hn k))
theorem PC (hm:1≤m):BE (a.map fun x=>cst m x)=a:=by
 unfold BE
 rw[List.map_map]
 refine (List.map_congr_left fun x _=>?_).trans<|List.map_id a
 exact jZ x hm
theorem gD {q j:Nat}(h:1≤q)(hj:j<a.length):((a.map fun x=>cst m x).getD j []).getD q 0=0:=by
 rw[B9 (d:=0) hj];exact gC m _ h
theorem Ia.v0 (h:Ia p f a xs T)(hm:1≤m)(hy:BD m y)(hf:BE y=a){i:Nat}(hi:i<xs.length):((DB p m f y).getD i []).getD 0 0=(Ep p f a).getD i 0:=by
 have hs:=DK h.n
 have h1:=h.ser (A9 1) hs<|Gu a
 unfold Ep
 rw[B9 (d:=[]) (by rw[h1.1];exact hi),h.vals hm hy hf hi,h.vals (A9 1) hs (Gu a) hi]
 have hx:=(h.tp hm hy hf).1.outs h.en.2 i hi
 rw[((h.tp hm hy hf).1.ser _ zO).2,((h.tp (A9 1) hs (Gu a)).1.ser _ zO).2]
theorem Nl (h:Ia p f (0::a) xs T)(hn:xs.length=a.length)(ha:0<a.length)(hd:DC (Gv p f a)≠0)(hz:∀i,i<a.length→(Ep p f (0::a)).getD i 0=0)(hm:m=o+1) :
  ∀k,k≤o→BD m (KZ p f a o k)∧BE (KZ p f a o k)=a∧∀i,i<a.length→EN (k+1) (C0 ((DB p m f (Cv (KZ p f a o k))).getD i [])) Hl:=fun k hk=>by
 have hna:B8 a=true:=by have:=h.n;unfold B8 at this ⊢;rw[List.all_cons,z7]at this;exact this.2
 have H:=PA (m:=m) h zO hn ha
 subst hm
 have hx:qI (o+1) a.length (Gv p f a) (fun y=>DB p (o+1) f (Cv y)) a (fun _=>Hl) (Z5 p f a):=⟨fun k y h1 h2 hy hf=>by
  have hl:y.length=a.length:=by rw[← hf,C8]
  unfold Z5
  congr 1
  refine SB fun i hi=>?_
  rw[TD hy zO zO h2,Tj p zO h2,B9 (d:=[]) (by rw[(H.gl y hy hf).1];exact hi),DS _ (Nat.lt_succ_self k)]
  show _=md (0-_)
  rw[Int.zero_sub];rfl⟩
 have:=cS H hd hx (Y:=a.map fun x=>cst (o+1) x) (PB hna) (PC zO) (fun j hj q h1 _=>gD h1 hj) (fun i hi t ht=>by
  have:t=0:=by omega
  subst this
  show md (((DB p (o+1) f (Cv (a.map fun x=>cst (o+1) x))).getD i []).getD 0 0)=_
  rw[h.v0 zO (KH (PB hna) (by rw[zg];exact ha)) (by rw[J9 (by rw[zg];exact ha),PC (by omega)]) zO,hz i hi];rfl) k zO
 exact⟨this.1,this.2.1,this.2.2.2⟩
end
end
section
theorem B3.imp {α:Type}{E E':Bj α}(h:∀ {H v x F},E H v x F→E' H v x F){H:Array Obj}{v:Value}{xs:List α}{F:List Nat}(k:B3 E H v xs F):B3 E' H v xs F:=by
 rcases k with h0|⟨us,g,off,cap,cur,e,fr,F',h1,h2⟩
 ·exact .inl h0
 ·exact .inr ⟨us,g,off,cap,cur,e,fr,F',els.imp h h1,h2⟩
theorem RN.rd3 {S:List Nat}{H:Array Obj}{v:Value}{x:List (List Sr)}(h:RN S (B3 (Ik (B3 rI))) H v x):Rd (B3 (B3 (B3 rI))) H v x:=by
 obtain⟨F,h1,_⟩:=h
 exact⟨F,B3.imp (fun k=>k.1) h1⟩
def nJ (y:List Sr)(J:List (List Sr))(g:List Sr):List Sr:=if (CP J g).isSome=true then Ty J y g else []
theorem XV {y g:List Sr}{J:List (List Sr)}(h:(CP J g).isSome=true):nJ y J g=Ty J y g:=if_pos h
theorem kA {y g:List Sr}{J:List (List Sr)}(h:(CP J g).isSome=false):nJ y J g=[]:=if_neg (by rw[h];decide)
theorem gE {J:List (List Sr)}{g:List Sr}(h:(CP J g).isSome=true):CP J g≠none:=fun h9=>by rw[h9]at h;cases h
def XW (p:List Fn)(f:Nat)(a:List Int):RL:=match KC p f a with
 |.ok x _=>x
 |.err _=>([],⟨[],[],[]⟩)
theorem TF {p:List Fn}{f:Nat}{a:List Int}{x:RL}{s:Nat}(h:AY (KC p f a) x s 0):XW p f a=x:=by unfold XW;rw[h.ok]
def XX (p:List Fn)(m f:Nat)(A:List Sr):List (List Sr):=HB m (XW p f (BE A)).2 (XW p f (BE A)).1 A (XW p f (BE A)).1.length
section
variable {p:List Fn} {f m n o r s:Nat} {a d:List Int} {y g:List Sr} {xs:List Int} {T:Tp}
theorem gF {A:List Sr}(h:AY (KC p f (BE A)) (xs,T) s 0):HB m T xs A xs.length=XX p m f A:=by unfold XX;rw[TF h]
theorem gG {p:List Fn}{f:Nat}(hv:Jd p)(hf:f<p.length)(hl:((a.length:Nat):Int)=(p.getD f Fn.zero).params)(hn:B8 a=true)(h:AY (KC p f a) (xs,T) s 0):Ia p f a xs T:=⟨hv,hf,hl,hn,s,h⟩
theorem TG (h0:0<a.length):Cv (Cc a)=Cc (0::a):=by
 cases a with
 |nil=>simp at h0
 |cons x l=>rfl
theorem gH (p:List Fn)(f:Nat)(a:List Int):(Ep p f a).any (fun x=>x != 0)=(DB p 1 f (Cc a)).any fun s=>s.getD 0 0 != 0:=by
 unfold Ep;rw[List.any_map];rfl
theorem QV {l:List Int}(h:l.any (fun x=>x != 0)=false)(i:Nat):l.getD i 0=0:=by
 by_cases hi:i<l.length
 ·rw[List.any_eq_false]at h
  have:=h l[i] (List.getElem_mem hi)
  rw[CV hi]
  simpa using this
 ·rw[List.getD_eq_getElem?_getD,List.getElem?_eq_none (by omega)];rfl
structure R7 (p:List Fn)(f:Nat)(a:List Int):Prop where
 v:Jd p
 lt:f<p.length
 l:((a.length:Nat):Int)=(p.getD f Fn.zero).params-1
 o:(((p.getD f Fn.zero).outs.length:Nat):Int)=((a.length:Nat):Int)
 n:B8 a=true
 b:1≤a.length∧a.length≤6
theorem R7.num (h:R7 p f a):B8 (0::a)=true:=by have:=h.n;unfold B8 at this ⊢;rw[List.all_cons,this];rfl
theorem R7.rc (h:R7 p f a)(hf:BE y=a)(hr:AY (KC p f (BE (Cv y))) (xs,T) s 0):Ia p f (0::a) xs T:=by
 have hl:y.length=a.length:=by rw[← hf,C8]
 rw[J9 (by have:=h.b;omega),hf]at hr
 exact gG h.v h.lt (by rw[z9];have:=h.l;omega) h.num hr
theorem Ia.xl (h:Ia p f a xs T):xs.length=(p.getD f Fn.zero).outs.length:=h.en.1
theorem PD (h:R7 p f a)(hc:Ia p f (0::a) xs T)(hm:1≤m∧m≤13)(hy:BD m y)(hf:BE y=a) :
  Iw (GP (HB m T xs (Cv y) xs.length)) (DB p m f (Cv y)) m∧Ix (GP (HB m T xs (Cv y) xs.length))=Gv p f a∧(DB p m f (Cv y)).length=a.length∧BD m (DB p m f (Cv y))∧y.length=a.length∧(GP (HB m T xs (Cv y) xs.length)).length=a.length:=by
 have hx:xs.length=a.length:=by have:=hc.xl;have:=h.o;omega
 have H:=PA hc hm.1 hx (by have:=h.b;omega)
 have hg:=H.gl y hy hf
 exact⟨H.sys hy hf hm h.b.2 hg.1 hg.2,H.j0 y hy hf,hg.1,hg.2,by rw[← hf,C8],(H.jl y hy hf).1⟩
theorem RU (h:R7 p f a)(hc:Ia p f (0::a) xs T)(hm:1≤m∧m≤13)(hy:BD m y)(hf:BE y=a) :
  (CP (GP (HB m T xs (Cv y) xs.length)) (DB p m f (Cv y))).isSome = !decide (DC (Gv p f a)=0):=by
 have hs:=PD h hc hm hy hf
 rw[VE hs.1,hs.2.1]
theorem TH (h:R7 p f a)(hc:Ia p f (0::a) xs T)(hm:1≤m)(hy:BD m y)(hf:BE y=a):H7 p m f (Cv y)=0:=by
 have hl:y.length=a.length:=by rw[← hf,C8]
 have:=h.b
 exact (hc.tp hm (KH hy zO) (by rw[J9 zO,hf])).2.2
theorem aL (h:R7 p f a)(hc:Ia p f (0::a) xs T)(hd:DC (Gv p f a)≠0)(hz:(Ep p f (0::a)).any (fun x=>x != 0)=false)(hm:m=o+1)(ho:o≤12)(hy:BD m y)(hf:BE y=a)(hr1:1≤r)
  (hlo:∀j,j<a.length→Lo (min r m) (BK y (KZ p f a o o) j)) :
  BD m (Ty (GP (HB m T xs (Cv y) xs.length)) y (DB p m f (Cv y)))∧BE (Ty (GP (HB m T xs (Cv y) xs.length)) y (DB p m f (Cv y)))=a∧∀j,j<a.length→Lo (min (r*2) m) (BK (Ty (GP (HB m T xs (Cv y) xs.length)) y (DB p m f (Cv y))) (KZ p f a o o) j):=by
 have hx:xs.length=a.length:=by have:=hc.xl;have:=h.o;omega
 have H:=PA (m:=m) hc zO hx (by have:=h.b;omega)
 have hg:=H.gl y hy hf
 obtain⟨s1,s2,s3⟩:=Nl hc hx (by have:=h.b;omega) hd (fun i _=>QV hz i) hm o (A9 _)
 have hl:y.length=a.length:=by rw[← hf,C8]
 have st:=H.step (r:=min r m) (N:=min (r*2) m) hd zO h.b.2 hy hf s1 s2 hg.1 hg.2 (fun i hi=>EN.trans (EN.eq fun t _=>(Int.sub_zero _).symm)<|EN.sub (EN.rfl' _) fun t ht=>(s3 i hi t zO).symm) zO zO hlo zO zO
 have n1:=Tz (J:=GP<|HB m T xs (Cv y) xs.length) (g:=DB p m f<|Cv y) hy
 refine⟨n1,?_,st⟩
 exact (Lt n1 s1 (by rw[J7,hl];exact(EE s2).symm) zO fun j hj=>(st j (by rw[J7]at hj;omega)).mono zO).trans s2
theorem aM (h:R7 p f a)(hd:DC (Gv p f a)≠0)(hc:Ia p f (0::a) xs T)(hz:(Ep p f (0::a)).any (fun x=>x != 0)=false)(hm:m=o+1):BD m (a.map fun x=>cst m x)∧BE (a.map fun x=>cst m x)=a∧∀j,j<a.length→Lo (min 1 m) (BK (a.map fun x=>cst m x) (KZ p f a o o) j):=by
 have hx:xs.length=a.length:=by have:=hc.xl;have:=h.o;omega
 obtain⟨s1,s2,s3⟩:=Nl hc hx (by have:=h.b;omega) hd (fun i _=>QV hz i) hm o (A9 _)
 have e1:BD m (a.map fun x=>cst m x):=PB h.n
 have e2:BE (a.map fun x=>cst m x)=a:=PC zO
 exact⟨e1,e2,fun j hj=>(jY e1 s1 zO (e2.trans s2.symm) (by rw[zg];exact hj)).mono zO⟩
theorem aN (h:R7 p f a)(hd:DC (Gv p f a)≠0)(hc:Ia p f (0::a) xs T)(hz:(Ep p f (0::a)).any (fun x=>x != 0)=false)(hm:m=o+1)(hy:BD m y)(hf:BE y=a)(hr:m≤r)(hlo:∀j,j<a.length→Lo (min r m) (BK y (KZ p f a o o) j)):y=KZ p f a o o:=by
 have hx:xs.length=a.length:=by have:=hc.xl;have:=h.o;omega
 obtain⟨s1,s2,s3⟩:=Nl hc hx (by have:=h.b;omega) hd (fun i _=>QV hz i) hm o (A9 _)
 have hl:y.length=a.length:=by rw[← hf,C8]
 exact jX hy s1 (by rw[hl];exact(EE s2).symm) fun j hj=>(hlo j zO).mono zO
end
def R8 (p:List Fn)(f:Int)(y:List Sr):Int:=if UM p f y=0 then(if DC (Gv p f.toNat (BE y))=0 then 6 else 0)else UM p f y
def OG (p:List Fn)(f:Int)(y:List Sr):List Sr:=if R8 p f y=0 then Ty (GP (XX p (EQ y+1) f.toNat (Cv y))) y (DB p (EQ y+1) f.toNat (Cv y))else []
theorem TJ {p:List Fn}{f:Int}{y:List Sr}(h:UM p f y≠0):R8 p f y=UM p f y:=if_neg h
theorem XY {p:List Fn}{f:Int}{y:List Sr}(h:UM p f y=0)(hd:DC (Gv p f.toNat (BE y))≠0):R8 p f y=0:=by unfold R8;rw[if_pos h,if_neg hd]
theorem cU {p:List Fn}{f:Int}{y:List Sr}(h:UM p f y=0)(hd:DC (Gv p f.toNat (BE y))=0):R8 p f y=6:=by unfold R8;rw[if_pos h,if_pos hd]
theorem XZ {p:List Fn}{f:Int}{y:List Sr}(h:R8 p f y≠0):OG p f y=[]:=if_neg h
theorem cV {p:List Fn}{f:Int}{y:List Sr}(h:R8 p f y=0):OG p f y=Ty (GP (XX p (EQ y+1) f.toNat (Cv y))) y (DB p (EQ y+1) f.toNat (Cv y)):=if_pos h
section
variable {p:List Fn} {f o:Int} {a d:List Int}
theorem Y0 (h:Ge p f CZ≠0):KK p f a o=Ge p f CZ:=if_neg h
theorem TK (h:Ge p f CZ=0)(hb:((decide (((a.length:Nat):Int)=(p.getD f.toNat Fn.zero).params-1) && B8 a) && Gl o 0 12)=false):KK p f a o=2:=by unfold KK;rw[if_pos h,hb];rfl
theorem cW (h:Ge p f CZ=0)(h1:(decide (((a.length:Nat):Int)=(p.getD f.toNat Fn.zero).params-1) && B8 a)=true)(h2:Gl o 0 12=true):KK p f a o=0:=by unfold KK;rw[if_pos h,h1,h2];rfl
theorem Y1 (h:KK p f a o=0):R7 p f.toNat a∧Ky p=true∧(0≤f∧f<((p.length:Nat):Int))∧(0≤o∧o≤12):=by
 unfold KK at h
 split at h
 ·rename_i h1
  split at h
  ·rename_i h2
   rw[z7,z7,decide_eq_true_eq]at h2
   obtain⟨q1,q2,q3,q4⟩:=QT h1
   exact⟨⟨G5 q1,zO,h2.1.1,zO,h2.1.2,zO⟩,q1,q2,Cr.1 h2.2⟩
  ·omega
 ·rename_i h1;exact absurd h h1
theorem Nn (h:KK p f a o≠0):Nk p f a o=KK p f a o:=if_neg h
theorem QW (h:KK p f a o=0)(h1:Es p f.toNat (0::a)≠0):Nk p f a o=Es p f.toNat (0::a):=by unfold Nk;rw[if_pos h,if_neg h1]
theorem Y2 (h:KK p f a o=0)(h1:Es p f.toNat (0::a)=0)(h2:(Ep p f.toNat (0::a)).any (fun x=>x != 0)=true):Nk p f a o=4:=by unfold Nk;rw[if_pos h,if_pos h1,if_pos h2]
theorem Y3 (h:KK p f a o=0)(h1:Es p f.toNat (0::a)=0)(h2:(Ep p f.toNat (0::a)).any (fun x=>x != 0)=false)(hd:DC (Gv p f.toNat a)=0):Nk p f a o=6:=by
 unfold Nk;rw[if_pos h,if_pos h1,if_neg (by rw[h2];decide),if_pos hd]
theorem cX (h:KK p f a o=0)(h1:Es p f.toNat (0::a)=0)(h2:(Ep p f.toNat (0::a)).any (fun x=>x != 0)=false)(hd:DC (Gv p f.toNat a)≠0):Nk p f a o=0:=by
 unfold Nk;rw[if_pos h,if_pos h1,if_neg (by rw[h2];decide),if_neg hd]
theorem KL (h:Nk p f a o≠0):L1 p f a o=[]:=if_neg h
theorem Y4 (h:Nk p f a o=0):L1 p f a o=KZ p f.toNat a o.toNat o.toNat:=if_pos h
end
theorem kB {p:List Fn}(hv:Jd p){n f:Nat}{a:List Sr}(hf:f<p.length)(ha:BD n a)(hl:((a.length:Nat):Int)=(p.getD f Fn.zero).params):0≤H7 p n f a∧H7 p n f a≤9:=by
 rcases N6 hv hf ha hl with⟨x,s,h1,_⟩|h1|h1
 ·rw[Or h1];decide
 ·rw[IB h1];decide
 ·rw[IB h1];decide
theorem kC {p:List Fn}(hv:Jd p){f:Nat}{a:List Int}(hf:f<p.length)(ha:B8 a=true)(hl:((a.length:Nat):Int)=(p.getD f Fn.zero).params):0≤Es p f a∧Es p f a≤9:=kB hv hf (DK ha) (by unfold Cc;rw[zg];exact hl)
theorem gI {p:List Fn}{f:Int}{y:List Sr}(h:OF p f y=0):R7 p f.toNat (BE y):=by
 have h0:=cF h
 refine⟨G5 h0.1,zO,by rw[C8];exact h0.2.2.2.1.2,by rw[C8,h0.2.2.2.1.1,h0.2.2.2.1.2],E8 h0.2.2.2.2.1,by rw[C8];omega⟩
theorem cY {M:List (List Int)}(h:(!(!decide (DC M=0)))=true):DC M=0:=by simpa using h
theorem cZ {M:List (List Int)}(h:(!(!decide (DC M=0)))=false):DC M≠0:=by simpa using h
end
section
theorem TL {n k:Nat}:uN n k=eV n k:=by
 show(List.replicate n (0:Int)).set k 1=(List.replicate n (0:Int)).set (((k:Nat):Int)).toNat (md ((List.replicate n (0:Int)).getD (((k:Nat):Int)).toNat 0+1))
 rw[Int.toNat_natCast,I9];rfl
section
variable {p:List Fn} {f k o i m q:Nat} {a d:List Int} {y Y:List Sr} {xs:List Int} {T:Tp} {nx:Nat→List Sr→List Int}
theorem Y5 (hv:Jd p)(hf:f<p.length)(hl:((a.length:Nat):Int)=(p.getD f Fn.zero).params)(hn:B8 a=true)(h0:Es p f a=0):∃xs T,Ia p f a xs T:=by
 cases hr:KC p f a with
 |ok x s=>exact⟨x.1,x.2,hv,hf,hl,hn,s,by rw[hr];exact AY.mk_ok rfl⟩
 |err c =>
  have hT:=Tm (A9 1) hv hf hn (Mq (DK hn)<|Gu a) hl
  rw[hr]at hT
  have h9:ev p 1 f (Cc a)=.err c:=hT
  have h8:Es p f a=c:=IB h9
  rcases N6 hv hf (DK hn) (by unfold Cc;rw[zg];exact hl)with⟨z,t,h1,_⟩|h1|h1
  ·rw[h1]at h9;cases h9
  ·rw[h1]at h9;cases h9;omega
  ·rw[h1]at h9;cases h9;omega
theorem kD {l:List Int}(h:∀j,j<l.length→l.getD j 0=0):l.any (fun x=>x != 0)=false:=by
 rw[List.any_eq_false]
 intro x hx
 obtain⟨j,hj,rfl⟩:=List.mem_iff_getElem.1 hx
 have:=h j hj
 rw[CV hj]at this
 simp[this]
theorem gJ {l:List Int}{j:Nat}(hj:j<l.length)(h:l.getD j 0≠0):l.any (fun x=>x != 0)=true:=by
 rw[List.any_eq_true]
 rw[CV hj]at h
 exact⟨l[j],List.getElem_mem hj,by simpa using h⟩
theorem QX (h:BD m y)(hq:q≤m):BD q (y.map (CB q)):=fun j hj=>by
 rw[zg]at hj
 rw[B9 (d:=[]) hj]
 have:=h j hj
 refine⟨by rw[GO,this.1];omega,?_⟩
 unfold CB
 have h2:=this.2
 unfold B8 at h2 ⊢
 rw[zm]at h2 ⊢
 exact fun x hx=>h2 x<|zj hx
theorem Y6 (h:1≤k)(hi:i<Y.length):(CJ i (FU nx Y k) (FU nx Y (k-1))).getD i []=(FU nx Y (k-1)).getD i []:=Ei [] (by simp) (A9 _) (by simpa using hi)
theorem aO (h:1≤k)(hi:i<Y.length):(CJ i (FU nx Y k) (FU nx Y (k-1))).set i (((FU nx Y (k-1)).getD i []).set k ((nx k (FU nx Y (k-1))).getD i 0))=CJ (i+1) (FU nx Y k) (FU nx Y (k-1)):=by
 have:=aF (nx:=nx) (k:=k-1) hi
 rw[show k-1+1=k from by omega,Y6 h hi]at this
 exact this
def dA (p:List Fn)(f:Nat)(a:List Int)(k:Nat)(y:List Sr):List Int:=FM a.length fun i=>md (-(((DB p (k+1) f (Cv (y.map (CB (k+1))))).getD i []).getD k 0))
@[simp] theorem G7:(dA p f a k y).length=a.length:=by simp[dA]
theorem PE:B8 (dA p f a k y)=true:=FZ fun _ _=>BT _
theorem gK (hi:i<a.length):(dA p f a k y).getD i 0=md (-(((DB p (k+1) f (Cv (y.map (CB (k+1))))).getD i []).getD k 0)):=Bx 0 hi
theorem gL:Z5 p f a k y=Jb (Gv p f a) (dA p f a k y):=rfl
theorem gM {y:List Sr}(hy:y=KZ p f a o (k-1))(h:1≤k)(hi:i<a.length):CJ (i+1) (KZ p f a o k) y=(CJ i (KZ p f a o k) y).set i ((y.getD i []).set k ((Z5 p f a k y).getD i 0)):=by
 subst hy
 exact (aO (nx:=Z5 p f a) (Y:=a.map fun x=>cst (o+1) x) h (by rw[zg];exact hi)).symm
theorem gN (h:R7 p f a)(hc:Ia p f (0::a) xs T)(hd:DC (Gv p f a)≠0)(hz:(Ep p f (0::a)).any (fun x=>x != 0)=false)(hk:k≤o):BD (o+1) (KZ p f a o k)∧(KZ p f a o k).length=a.length∧BE (KZ p f a o k)=a:=by
 have hx:xs.length=a.length:=by have:=hc.xl;have:=h.o;omega
 have s:=Nl hc hx (by have:=h.b;omega) hd (fun i _=>QV hz i) (m:=o+1) rfl k hk
 exact⟨s.1,EE s.2.1,s.2.1⟩
theorem gO (h:R7 p f a)(hc:Ia p f (0::a) xs T)(hy:BD (o+1) y)(hf:BE y=a)(h1:1≤k)(hk:k≤o) :
  (DB p (k+1) f (Cv (y.map (CB (k+1))))).length=a.length∧BD (k+1) (DB p (k+1) f (Cv (y.map (CB (k+1)))))∧BD (k+1) (Cv (y.map (CB (k+1))))∧((y.map (CB (k+1))).getD 0 []).length=k+1:=by
 have hl:y.length=a.length:=EE hf
 have hb:=h.b
 have hw:BD (o+1) (Cv y):=KH hy zO
 have hs:=hc.ser (m:=o+1) zO hw (by rw[J9 zO,hf])
 have hxl:xs.length=a.length:=by have:=hc.xl;have:=h.o;omega
 have e:=Tj p (show 1≤k+1 by omega) (show k+1≤o+1 by omega) f<|Cv y
 rw[TD hy zO zO zO,e,zg]
 refine⟨by rw[hs.1,hxl],QX hs.2 zO,QX hw zO,?_⟩
 rw[B9 (d:=[]) zO,GO,(hy 0 zO).1];omega
theorem gP (h:R7 p f a)(hc:Ia p f (0::a) xs T)(hd:DC (Gv p f a)≠0){b:List Int}(hb:B8 b=true):Sq (Gv p f a).length (Gv p f a)∧(Gv p f a).length=a.length∧Ja (Gv p f a) b≠none:=by
 have hx:xs.length=a.length:=by have:=hc.xl;have:=h.o;omega
 have hS:=RS hc hx
 have hS':Sq (Gv p f a).length (Gv p f a):=by rw[KJ];exact hS
 exact⟨hS',KJ,fun hn=>hd ((Kq hS' hb).2 hn)⟩
end
end
section
structure RV (p:List Fn)(f:Int)(a:List Int)(o:Int)(m:Nat)(xs:List Int)(T:Tp):Prop where
 I:R7 p f.toNat a
 rc:Ia p f.toNat (0::a) xs T
 hd:DC (Gv p f.toNat a)≠0
 sh:Ge p f CZ=0
 ob:0≤o∧o≤12
 me:((m:Nat):Int)=o+1
 s:BD m (L1 p f a o)
 fs:BE (L1 p f a o)=a
 l:(L1 p f a o).length=a.length
 z:∀i,i<a.length→EN m (C0 ((DB p m f.toNat (Cv (L1 p f a o))).getD i [])) Hl
theorem gQ {p:List Fn}{f o:Int}{a:List Int}(hc:Nk p f a o=0):∃xs T,RV p f a o (o.toNat+1) xs T:=by
 have hk:KK p f a o=0:=by
  by_cases h:KK p f a o=0
  ·exact h
  ·rw[Nn h]at hc;exact absurd hc h
 have hsh:Ge p f CZ=0:=by
  by_cases h:Ge p f CZ=0
  ·exact h
  ·rw[Y0 h]at hk;exact absurd hk h
 obtain⟨hI,_,_,ho⟩:=Y1 hk
 have hb:=hI.b
 have hx0:Es p f.toNat (0::a)=0:=by
  by_cases h:Es p f.toNat (0::a)=0
  ·exact h
  ·rw[QW hk h]at hc;exact absurd hc h
 have hz:(Ep p f.toNat (0::a)).any (fun x=>x != 0)=false:=by
  cases h:(Ep p f.toNat (0::a)).any (fun x=>x != 0)with
  |false=>rfl
  |true=>rw[Y2 hk hx0 h]at hc;omega
 have hd:DC (Gv p f.toNat a)≠0:=fun h=>by rw[Y3 hk hx0 hz h]at hc;omega
 obtain⟨xs,T,hr⟩:=Y5 hI.v hI.lt (by rw[z9];have:=hI.l;omega) hI.num hx0
 have hx:xs.length=a.length:=by have:=hr.xl;have:=hI.o;omega
 obtain⟨s1,s2,s3⟩:=Nl hr hx zO hd (fun i _=>QV hz i) (m:=o.toNat+1) rfl o.toNat (A9 _)
 rw[← Y4 hc]at s1 s2 s3
 exact⟨xs,T,hI,hr,hd,hsh,ho,zO,s1,s2,EE s2,s3⟩
section
variable {p:List Fn} {f o:Int} {a:List Int} {m r N k:Nat} {xs:List Int} {T:Tp} {g:List Sr}
theorem RV.nws (S:RV p f a o m xs T):Uz m a.length a (Gv p f.toNat a) (fun y=>DB p m f.toNat (Cv y)) (fun y=>GP (HB m T xs (Cv y) xs.length)) :=
 PA S.rc (by have:=S.me;have:=S.ob;omega) (by have:=S.rc.xl;have:=S.I.o;omega) (by have:=S.I.b;omega)
theorem RV.mb (S:RV p f a o m xs T):1≤m∧m≤13:=by have:=S.me;have:=S.ob;omega
theorem RV.oo (S:RV p f a o m xs T)(hg:BD m g)(hf:BE g=a):EQ g+1=m:=IE S.mb.1 (by rw[EE hf];have:=S.I.b;omega) hg
theorem RV.gq (S:RV p f a o m xs T)(hg:BD m g)(hf:BE g=a):OF p f g=0:=by
 have hl:g.length=a.length:=EE hf
 have h9:=S.I.l
 obtain⟨n,hn⟩:∃n,m=n+1:=⟨m-1,by have:=S.mb;omega⟩
 subst hn
 rw[← jS S.sh (by rw[ZQ (by have:=S.mb;omega) hg,Bool.true_and];exact A7 zO)];exact S.sh
theorem RV.rq (S:RV p f a o m xs T)(hg:BD m g)(hf:BE g=a):UM p f g=0:=by
 rw[Tr (S.gq hg hf),S.oo hg hf]
 exact TH S.I S.rc S.mb.1 hg hf
theorem RV.step (S:RV p f a o m xs T)(hg:BD m g)(hf:BE g=a)(hr1:1≤r)(hr:r≤m)(hlo:∀j,j<a.length→Lo r (BK g (L1 p f a o) j))(hN:N≤m)(h2:N≤r+r) :
  R8 p f g=0∧BD m (OG p f g)∧(OG p f g).length=a.length∧∀j,j<a.length→Lo N (BK (OG p f g) (L1 p f a o) j):=by
 have hrq:=S.rq hg hf
 have hns:R8 p f g=0:=XY hrq (by rw[hf];exact S.hd)
 have hl:g.length=a.length:=EE hf
 have hw:BE (Cv g)=0::a:=by rw[J9 (by have:=S.I.b;omega),hf]
 obtain⟨s,hrl⟩:=S.rc.r
 have e:OG p f g=Ty (GP (HB m T xs (Cv g) xs.length)) g (DB p m f.toNat (Cv g)):=by
  rw[cV hns,S.oo hg hf]
  congr 2
  unfold XX
  rw[hw,TF hrl]
 have H:=S.nws
 have hG:=H.gl g hg hf
 have st:=H.step (N:=N) S.hd S.mb S.I.b.2 hg hf S.s S.fs hG.1 hG.2 (fun i hi=>EN.trans (EN.eq fun t _=>(Int.sub_zero _).symm)<|EN.sub (EN.rfl' _) fun t ht=>(S.z i hi t ht).symm) hr1 hr hlo hN h2
 rw[e]
 exact⟨hns,Tz hg,by rw[J7];exact hl,st⟩
theorem RV.guess (S:RV p f a o m xs T){M:Int}(hM:1≤M)(hg:oF (L1 p f a o) M g) :
  R8 p f g=0∧BD m (OG p f g)∧(OG p f g).length=a.length∧∀j,j<a.length→∀t,t<m→((t:Nat):Int)<2*M→((OG p f g).getD j []).getD t 0=((L1 p f a o).getD j []).getD t 0:=by
 have hgl:g.length=a.length:=by rw[hg.len,S.l]
 have hgs:BD m g:=fun i hi=>by
  have h1:=hg.row i (by rw[← hg.len];exact hi)
  exact⟨by rw[h1.1];exact(S.s i (by rw[← hg.len];exact hi)).1,h1.2.1⟩
 have hlo:∀j,j<a.length→Lo (min M.toNat m) (BK g (L1 p f a o) j):=fun j hj t ht=>by
  have h1:=(hg.row j (by rw[S.l];exact hj)).2.2 t zO (by rw[(S.s j (by rw[S.l];exact hj)).1];omega)
  show md (((L1 p f a o).getD j []).getD t 0-(g.getD j []).getD t 0)=_
  rw[h1,Int.sub_self];rfl
 have hmb:=S.mb
 have hf:BE g=a:=by
  rw[← S.fs]
  exact Lt hgs S.s (by rw[S.l,hgl]) hmb.1 fun j hj=>(hlo j zO).mono zO
 obtain⟨q1,q2,q3,q4⟩:=S.step (r:=min M.toNat m) (N:=min (2*M.toNat) m) hgs hf zO zO hlo zO zO
 refine⟨q1,q2,q3,fun j hj t ht h2=>?_⟩
 have h3:md (((L1 p f a o).getD j []).getD t 0-((OG p f g).getD j []).getD t 0)=md 0:=q4 j hj t zO
 have n1:=Bk (q2 j (by rw[q3];exact hj)).2 t
 have n2:=Bk (S.s j (by rw[S.l];exact hj)).2 t
 unfold md at h3
 omega
end
end
theorem mixed:Tryz.prog.follows .mixedOrders=true:=by kernel_rfl
abbrev C3 (k:Nat):Prop:=((Tryz.prog.funcs[k]?).map fun fn=>(fn.name != "runtime.NumGoroutine") && fn.body.isSome) = some true
theorem C4 {k:Nat} (h:((Tryz.prog.funcs[k]?).map fun fn=>(fn.name != "runtime.NumGoroutine") && fn.body.isSome) = some true):C3 k:=h
theorem oW:C3 12:=C4 (by kernel_rfl)
theorem oX:C3 13:=C4 (by kernel_rfl)
theorem oY:C3 14:=C4 (by kernel_rfl)
theorem gR:C3 15:=C4 (by kernel_rfl)
theorem oZ:C3 16:=C4 (by kernel_rfl)
theorem pA:C3 17:=C4 (by kernel_rfl)
theorem pB:C3 18:=C4 (by kernel_rfl)
theorem pC:C3 19:=C4 (by kernel_rfl)
theorem kE:C3 20:=C4 (by kernel_rfl)
theorem kF:C3 22:=C4 (by kernel_rfl)
theorem gS:C3 29:=C4 (by kernel_rfl)
theorem kG:C3 50:=C4 (by kernel_rfl)
theorem kH:C3 66:=C4 (by kernel_rfl)
theorem pE:C3 67:=C4 (by kernel_rfl)
theorem Il:C3 68:=C4 (by kernel_rfl)
theorem kI:C3 69:=C4 (by kernel_rfl)
theorem pF:C3 70:=C4 (by kernel_rfl)
theorem pG:C3 71:=C4 (by kernel_rfl)
theorem pH:C3 72:=C4 (by kernel_rfl)
theorem pI:C3 73:=C4 (by kernel_rfl)
theorem Jf:C3 74:=C4 (by kernel_rfl)
theorem gT:C3 75:=C4 (by kernel_rfl)
theorem pJ:C3 76:=C4 (by kernel_rfl)
theorem pK:C3 77:=C4 (by kernel_rfl)
theorem pL:C3 78:=C4 (by kernel_rfl)
theorem UC:C3 79:=C4 (by kernel_rfl)
theorem kJ:C3 80:=C4 (by kernel_rfl)
theorem pM:C3 81:=C4 (by kernel_rfl)
theorem pN:C3 82:=C4 (by kernel_rfl)
theorem kK:C3 83:=C4 (by kernel_rfl)
theorem pO:C3 84:=C4 (by kernel_rfl)
theorem kM:C3 85:=C4 (by kernel_rfl)
theorem gU:C3 86:=C4 (by kernel_rfl)
theorem pP:C3 87:=C4 (by kernel_rfl)
theorem gW:C3 88:=C4 (by kernel_rfl)
theorem pQ:C3 89:=C4 (by kernel_rfl)
theorem pR:C3 90:=C4 (by kernel_rfl)
theorem pS:C3 91:=C4 (by kernel_rfl)
theorem kN:C3 92:=C4 (by kernel_rfl)
theorem pT:C3 93:=C4 (by kernel_rfl)
theorem kO:C3 94:=C4 (by kernel_rfl)
theorem pU:C3 95:=C4 (by kernel_rfl)
theorem dB:C3 100:=C4 (by kernel_rfl)
theorem TM:C3 101:=C4 (by kernel_rfl)
theorem Y7:C3 102:=C4 (by kernel_rfl)
theorem dC:C3 106:=C4 (by kernel_rfl)
theorem Y8:C3 107:=C4 (by kernel_rfl)
theorem Y9:C3 109:=C4 (by kernel_rfl)
theorem Ya:C3 111:=C4 (by kernel_rfl)
theorem Jt:C3 112:=C4 (by kernel_rfl)
theorem GQ:C3 117:=C4 (by kernel_rfl)
theorem QY:C3 122:=C4 (by kernel_rfl)
theorem kP:C3 123:=C4 (by kernel_rfl)
theorem OH:C3 124:=C4 (by kernel_rfl)
theorem No:C3 132:=C4 (by kernel_rfl)
theorem kQ:C3 133:=C4 (by kernel_rfl)
theorem kR:C3 137:=C4 (by kernel_rfl)
theorem dD:C3 138:=C4 (by kernel_rfl)
theorem TN:C3 143:=C4 (by kernel_rfl)
theorem kS:C3 150:=C4 (by kernel_rfl)
theorem dE:C3 151:=C4 (by kernel_rfl)
theorem Yb:C3 152:=C4 (by kernel_rfl)
theorem Yc:C3 153:=C4 (by kernel_rfl)
theorem dF:C3 154:=C4 (by kernel_rfl)
theorem kT:C3 155:=C4 (by kernel_rfl)
theorem kU:C3 156:=C4 (by kernel_rfl)
theorem kV:C3 157:=C4 (by kernel_rfl)
theorem Yd:C3 158:=C4 (by kernel_rfl)
theorem kW:C3 159:=C4 (by kernel_rfl)
theorem kX:C3 160:=C4 (by kernel_rfl)
theorem dG:C3 161:=C4 (by kernel_rfl)
theorem dH:C3 162:=C4 (by kernel_rfl)
theorem Ye:C3 163:=C4 (by kernel_rfl)
theorem kY:C3 164:=C4 (by kernel_rfl)
theorem Yf:C3 165:=C4 (by kernel_rfl)
theorem kZ:C3 166:=C4 (by kernel_rfl)
theorem lA:C3 167:=C4 (by kernel_rfl)
theorem lB:C3 168:=C4 (by kernel_rfl)
theorem lC:C3 169:=C4 (by kernel_rfl)
theorem dI:C3 170:=C4 (by kernel_rfl)
theorem lD:C3 171:=C4 (by kernel_rfl)
theorem TO:C3 172:=C4 (by kernel_rfl)
theorem lE:C3 173:=C4 (by kernel_rfl)
theorem lF:C3 174:=C4 (by kernel_rfl)
theorem lG:C3 175:=C4 (by kernel_rfl)
theorem dJ:C3 176:=C4 (by kernel_rfl)
theorem Yg:C3 177:=C4 (by kernel_rfl)
theorem Yh:C3 178:=C4 (by kernel_rfl)
theorem QZ:C3 179:=C4 (by kernel_rfl)
theorem lH:C3 180:=C4 (by kernel_rfl)
theorem Np:C3 181:=C4 (by kernel_rfl)
theorem Yi:C3 182:=C4 (by kernel_rfl)
theorem Yj:C3 184:=C4 (by kernel_rfl)
theorem TP:C3 185:=C4 (by kernel_rfl)
theorem lI:C3 186:=C4 (by kernel_rfl)
theorem R0:C3 187:=C4 (by kernel_rfl)
theorem dK:C3 190:=C4 (by kernel_rfl)
theorem Yk:C3 191:=C4 (by kernel_rfl)
theorem TQ:C3 196:=C4 (by kernel_rfl)
theorem lJ:C3 197:=C4 (by kernel_rfl)
theorem dL:C3 198:=C4 (by kernel_rfl)
theorem lK:C3 201:=C4 (by kernel_rfl)
theorem lL:C3 203:=C4 (by kernel_rfl)
theorem lM:C3 204:=C4 (by kernel_rfl)
theorem lN:C3 205:=C4 (by kernel_rfl)
theorem Yl:C3 206:=C4 (by kernel_rfl)
theorem lO:C3 207:=C4 (by kernel_rfl)
theorem dM:C3 220:=C4 (by kernel_rfl)
theorem IF:C3 221:=C4 (by kernel_rfl)
theorem lP:C3 222:=C4 (by kernel_rfl)
theorem dN:C3 223:=C4 (by kernel_rfl)
theorem lQ:C3 224:=C4 (by kernel_rfl)
theorem lR:C3 225:=C4 (by kernel_rfl)
theorem dO:C3 226:=C4 (by kernel_rfl)
theorem lS:C3 227:=C4 (by kernel_rfl)
theorem lT:C3 228:=C4 (by kernel_rfl)
theorem lU:C3 229:=C4 (by kernel_rfl)
theorem Ym:C3 230:=C4 (by kernel_rfl)
theorem KM:C3 231:=C4 (by kernel_rfl)
theorem OI:C3 232:=C4 (by kernel_rfl)
theorem lV:C3 235:=C4 (by kernel_rfl)
theorem dP:C3 236:=C4 (by kernel_rfl)
theorem TR:C3 237:=C4 (by kernel_rfl)
theorem lW:C3 238:=C4 (by kernel_rfl)
theorem Yn:C3 239:=C4 (by kernel_rfl)
theorem lX:C3 240:=C4 (by kernel_rfl)
theorem TS:C3 250:=C4 (by kernel_rfl)
theorem lY:C3 251:=C4 (by kernel_rfl)
theorem dQ:C3 252:=C4 (by kernel_rfl)
theorem dR:C3 253:=C4 (by kernel_rfl)
theorem lZ:C3 254:=C4 (by kernel_rfl)
theorem mA:C3 255:=C4 (by kernel_rfl)
theorem mB:C3 256:=C4 (by kernel_rfl)
theorem mC:C3 257:=C4 (by kernel_rfl)
theorem dS:C3 258:=C4 (by kernel_rfl)
theorem mD:C3 270:=C4 (by kernel_rfl)
theorem dT:C3 271:=C4 (by kernel_rfl)
theorem TT:C3 272:=C4 (by kernel_rfl)
theorem mE:C3 286:=C4 (by kernel_rfl)
theorem mF:C3 287:=C4 (by kernel_rfl)
theorem AN:CC Tryz.prog 2:=by unfold CC;kernel_rfl
theorem NY:CC Tryz.prog 3:=by unfold CC;kernel_rfl
theorem pV:CC Tryz.prog 4:=by unfold CC;kernel_rfl
theorem mG:CC Tryz.prog 5:=by unfold CC;kernel_rfl
theorem RW:CC Tryz.prog 9:=by unfold CC;kernel_rfl
theorem TU:CC Tryz.prog 22:=by unfold CC;kernel_rfl
theorem Cp:CC Tryz.prog 24:=by unfold CC;kernel_rfl
theorem B7:CC Tryz.prog 27:=by unfold CC;kernel_rfl
theorem DX:CC Tryz.prog 30:=by unfold CC;kernel_rfl
theorem BA:CC Tryz.prog 47:=by unfold CC;kernel_rfl
theorem R1:CC Tryz.prog 52:=by unfold CC;kernel_rfl
theorem mH:CC Tryz.prog 53:=by unfold CC;kernel_rfl
theorem Ju:CC Tryz.prog 91:=by unfold CC;kernel_rfl
theorem dU:CC Tryz.prog 97:=by unfold CC;kernel_rfl
theorem PF:CC Tryz.prog 178:=by unfold CC;kernel_rfl
theorem HV:(Tryz.prog.info? 2).map (·.size)=some 1:=by kernel_rfl
theorem qJ:(Tryz.prog.info? 3).map (·.size)=some 1:=by kernel_rfl
theorem mI:(Tryz.prog.info? 24).map (·.size)=some 1:=by kernel_rfl
theorem KN:(Tryz.prog.info? 27).map (·.size)=some 1:=by kernel_rfl
theorem aP:(Tryz.prog.info? 30).map (·.size)=some 1:=by kernel_rfl
theorem UD:(Tryz.prog.info? 47).map (·.size)=some 1:=by kernel_rfl
theorem gX:(Tryz.prog.info? 52).map (·.size)=some 1:=by kernel_rfl
theorem pW:(Tryz.prog.info? 53).map (·.size)=some 1:=by kernel_rfl
theorem dV:(Tryz.prog.info? 178).map (·.size)=some 1:=by kernel_rfl
theorem BQ:TI Tryz.prog 2 1 (.int .i64 0) 8:=by unfold TI;kernel_rfl
theorem pX:TI Tryz.prog 5 1 (.int .u8 0) 1:=by unfold TI;kernel_rfl
theorem qK:TI Tryz.prog 9 1 (.string ByteArray.empty) 16:=by unfold TI;kernel_rfl
theorem AV:TI Tryz.prog 27 1 (.slice none 0 0) 24:=by unfold TI;kernel_rfl
theorem DW:TI Tryz.prog 30 1 (.slice none 0 0) 24:=by unfold TI;kernel_rfl
theorem u2:Tryz.prog.underlying 2=some (.int .i64):=by kernel_rfl
theorem u3:Tryz.prog.underlying 3=some (.int .i64):=by kernel_rfl
theorem u4:Tryz.prog.underlying 4=some (.bool):=by kernel_rfl
theorem u5:Tryz.prog.underlying 5=some (.int .u8):=by kernel_rfl
theorem u9:Tryz.prog.underlying 9=some (.string):=by kernel_rfl
theorem TV:Tryz.prog.underlying 22=some (.slice 5):=by kernel_rfl
theorem H1:Tryz.prog.underlying 24=some (.slice 49):=by kernel_rfl
theorem Bo:Tryz.prog.underlying 27=some (.slice 2):=by kernel_rfl
theorem Bm:Tryz.prog.underlying 30=some (.slice 27):=by kernel_rfl
theorem DD:Tryz.prog.underlying 47=some (.slice 153):=by kernel_rfl
theorem Yo:Tryz.prog.underlying 52=some (.slice 69):=by kernel_rfl
theorem qL:Tryz.prog.underlying 53=some (.slice 208):=by kernel_rfl
theorem Dq:Tryz.prog.underlying 112=some (.slice 30):=by kernel_rfl
theorem gY:Tryz.prog.underlying 148=some (.slice 9):=by kernel_rfl
theorem aQ:Tryz.prog.underlying 178=some (.int .u64):=by kernel_rfl
theorem D8:Ew Tryz.prog 26 1=true:=by kernel_rfl
theorem Yp:(Tryz.prog.info? 26).map (·.zero)=some (some (.agg #[.slice none 0 0])):=by kernel_rfl
theorem BP:Ih Tryz.prog 26 0 0=true:=by kernel_rfl
theorem KO:Ew Tryz.prog 49 3=true:=by kernel_rfl
theorem aR:(Tryz.prog.info? 49).map (·.zero)=some (some (.agg #[.string ByteArray.empty,.int .i64 0,.slice none 0 0])):=by kernel_rfl
theorem CK:TI Tryz.prog 49 3 (.agg #[.string ByteArray.empty,.int .i64 0,.slice none 0 0]) 48:=by unfold TI;kernel_rfl
theorem Lu:Ih Tryz.prog 49 0 0=true:=by kernel_rfl
theorem CF:Ih Tryz.prog 49 1 1=true:=by kernel_rfl
theorem Ck:Ih Tryz.prog 49 2 2=true:=by kernel_rfl
theorem FH:Ew Tryz.prog 55 4=true:=by kernel_rfl
theorem aS:(Tryz.prog.info? 55).map (·.zero)=some (some (.agg #[.int .i64 0,.slice none 0 0,.slice none 0 0,.slice none 0 0])):=by kernel_rfl
theorem gZ:Ih Tryz.prog 55 0 0=true:=by kernel_rfl
theorem IG:Ih Tryz.prog 55 1 1=true:=by kernel_rfl
theorem Yq:Ih Tryz.prog 55 2 2=true:=by kernel_rfl
theorem Gw:Ih Tryz.prog 55 3 3=true:=by kernel_rfl
theorem Ib:Ew Tryz.prog 69 4=true:=by kernel_rfl
theorem aT:(Tryz.prog.info? 69).map (·.zero)=some (some (.agg #[.int .i64 0,.int .i64 0,.int .i64 0,.int .i64 0])):=by kernel_rfl
theorem LO:TI Tryz.prog 69 4 (.agg #[.int .i64 0,.int .i64 0,.int .i64 0,.int .i64 0]) 32:=by unfold TI;kernel_rfl
theorem PG:Ih Tryz.prog 69 0 0=true:=by kernel_rfl
theorem EZ:Ih Tryz.prog 69 1 1=true:=by kernel_rfl
theorem EF:Ih Tryz.prog 69 2 2=true:=by kernel_rfl
theorem PH:Ih Tryz.prog 69 3 3=true:=by kernel_rfl
theorem TW:Ih Tryz.prog 129 0 0=true:=by kernel_rfl
theorem GR:Ih Tryz.prog 129 1 1=true:=by kernel_rfl
theorem Ec:Ih Tryz.prog 129 2 5=true:=by kernel_rfl
theorem PI:Ih Tryz.prog 129 3 6=true:=by kernel_rfl
theorem Ga:Ih Tryz.prog 129 4 7=true:=by kernel_rfl
theorem Ft:Ih Tryz.prog 151 0 0=true:=by kernel_rfl
theorem aU:Ih Tryz.prog 151 1 1=true:=by kernel_rfl
theorem PJ:Ih Tryz.prog 151 2 2=true:=by kernel_rfl
theorem aV:Ih Tryz.prog 151 3 3=true:=by kernel_rfl
theorem Bh:Ew Tryz.prog 153 5=true:=by kernel_rfl
theorem GS:(Tryz.prog.info? 153).map (·.zero)=some (some (.agg #[.int .i64 0,.int .i64 0,.int .i64 0,.int .i64 0,.slice none 0 0])):=by kernel_rfl
theorem BC:TI Tryz.prog 153 5 (.agg #[.int .i64 0,.int .i64 0,.int .i64 0,.int .i64 0,.slice none 0 0]) 56:=by unfold TI;kernel_rfl
theorem Bz:Ih Tryz.prog 153 0 0=true:=by kernel_rfl
theorem Cm:Ih Tryz.prog 153 1 1=true:=by kernel_rfl
theorem EG:Ih Tryz.prog 153 2 2=true:=by kernel_rfl
theorem Ed:Ih Tryz.prog 153 3 3=true:=by kernel_rfl
theorem Br:Ih Tryz.prog 153 4 4=true:=by kernel_rfl
theorem aW:Ih Tryz.prog 187 0 0=true:=by kernel_rfl
theorem PK:Ih Tryz.prog 187 1 1=true:=by kernel_rfl
theorem Ms:Ih Tryz.prog 187 2 2=true:=by kernel_rfl
theorem Gb:Ih Tryz.prog 187 3 3=true:=by kernel_rfl
theorem Yr:TI Tryz.prog 208 2 (.agg #[.int .i64 0,.bool false]) 16:=by unfold TI;kernel_rfl
theorem RY:Ew Tryz.prog 249 2=true:=by kernel_rfl
theorem aX:Ih Tryz.prog 249 0 0=true:=by kernel_rfl
theorem aY:Ih Tryz.prog 249 1 1=true:=by kernel_rfl
section
set_option maxHeartbeats 4000000
set_option maxRecDepth 100000
attribute [local irreducible] LW
theorem BN (w:World)(n:Int)(low:Int)(high:Int)(_hn:BI n)(_hlow:BI low)(_hhigh:BI high)  :
  Calls Tryz.prog 117 #[zI n,zI low,zI high] w (fun e w'=>e=.returned (.bool (decide (low≤n) && decide (n≤high)))∧w'=w):=by
 refine Au [zI n,zI low,zI high] 15 Tryz.func117 Z Z sM ?_
 have a0:w=w:=rfl
 refine qD Z<|qC [0,0,0,0,0,0,0,0,0] Z<|Af 2 Z ?_
 by_cases a1:low≤n
 ·exact Fy true Z Z (A7 a1) Ac<|Af 3 Z<|DE (decide (n≤high)) Z Z Z (Ak (e:=10) Z Z Z)<|Ae 2 Z<|A3<|Ah [6] Z (.bool<|decide (n≤high)) Z ⟨AH (by simp[*]),a0⟩
 exact Fy false Z Z (A8 a1) Ac<|Ae 6 Z<|A3<|Ah [6] Z (.bool false) Z ⟨AH (by simp[*]),a0⟩
theorem BH (w:World)(n:Int)(low:Int)(high:Int)(_hn:BI n)(_hlow:BI low)(_hhigh:BI high)  :
  Calls Tryz.prog 74 #[zI n,zI low,zI high] w (fun e w'=>e=.returned (.bool (decide (low≤n) && decide (n≤high)))∧w'=w):=by
 refine Au [zI n,zI low,zI high] 15 Tryz.func74 Z Z sM ?_
 have a0:w=w:=rfl
 refine qD Z<|qC [0,0,0,0,0,0,0,0,0] Z<|Af 2 Z ?_
 by_cases a1:low≤n
 ·exact Fy true Z Z (A7 a1) Ac<|Af 3 Z<|DE (decide (n≤high)) Z Z Z (Ak (e:=10) Z Z Z)<|Ae 2 Z<|A3<|Ah [6] Z (.bool<|decide (n≤high)) Z ⟨AH (by simp[*]),a0⟩
 exact Fy false Z Z (A8 a1) Ac<|Ae 6 Z<|A3<|Ah [6] Z (.bool false) Z ⟨AH (by simp[*]),a0⟩
theorem D9 (w:World)(n:Int)(_hn:BI n)  :
  Calls Tryz.prog 232 #[zI n] w (fun e w'=>e=.returned (zI (md n))∧w'=w):=by
 refine Au [zI n] 7 Tryz.func232 Z Z sM ?_
 have a0:w=w:=rfl
 exact qD Z<|qC [0,0,0,0,0] Z<|Af 1 Z<|E5 (n.tmod 1000003) Z Z (by decide) Z Ac<|AG (wr ((n.tmod 1000003)+((1000003:Nat):Int))) Z Z Z Ac<|E5 ((wr ((n.tmod 1000003)+((1000003:Nat):Int))).tmod 1000003) Z Z (by decide) Z Ac<|Ae 1 Z<|A3<|Ah [2] Z (zI<|(wr ((n.tmod 1000003)+((1000003:Nat):Int))).tmod 1000003) Z ⟨B5<|f6 n,a0⟩
theorem II (w:World)(a:Int)(b:Int)(_ha:BI a)(_hb:BI b)  :
  Calls Tryz.prog 230 #[zI a,zI b] w (fun e w'=>e=.returned (zI (md (a+b)))∧w'=w):=by
 refine Au [zI a,zI b] 11 Tryz.func230 Z Z sM ?_
 have a0:w=w:=rfl
 exact qD Z<|qC [0,0,0,0,0,0,0] Z<|Af 1 Z<|AD 232 [] [] [zI a] Z Z OI Ac (zI<|md a) (fun wq=>D9 wq _ _ha)<|Af 1 Z<|AD 232 [] [] [zI b] Z Z OI Ac (zI<|md b) (fun wq=>D9 wq _ _hb)<|AG (wr ((md a)+(md b))) Z Z Z Ac<|E5 ((wr ((md a)+(md b))).tmod 1000003) Z Z (by decide) Z Ac<|Ae 1 Z<|A3<|Ah [4] Z (zI<|(wr ((md a)+(md b))).tmod 1000003) Z ⟨B5<|SA a b,a0⟩
theorem KP (w:World)(a:Int)(b:Int)(_ha:BI a)(_hb:BI b)  :
  Calls Tryz.prog 190 #[zI a,zI b] w (fun e w'=>e=.returned (zI (md (a*b)))∧w'=w):=by
 refine Au [zI a,zI b] 11 Tryz.func190 Z Z sM ?_
 have a0:w=w:=rfl
 exact qD Z<|qC [0,0,0,0,0,0,0] Z<|Af 1 Z<|AD 232 [] [] [zI a] Z Z OI Ac (zI<|md a) (fun wq=>D9 wq _ _ha)<|Af 1 Z<|AD 232 [] [] [zI b] Z Z OI Ac (zI<|md b) (fun wq=>D9 wq _ _hb)<|FR (wr ((md a)*(md b))) Z Z Z Ac<|E5 ((wr ((md a)*(md b))).tmod 1000003) Z Z (by decide) Z Ac<|Ae 1 Z<|A3<|Ah [4] Z (zI<|(wr ((md a)*(md b))).tmod 1000003) Z ⟨B5<|Qc a b,a0⟩
theorem HW (w:World)(a:Int)(b:Int)(_ha:BI a)(_hb:BI b)  :
  Calls Tryz.prog 191 #[zI a,zI b] w (fun e w'=>e=.returned (zI (md (a-b)))∧w'=w):=by
 refine Au [zI a,zI b] 10 Tryz.func191 Z Z sM ?_
 have a0:w=w:=rfl
 exact qD Z<|qC [0,0,0,0,0,0] Z<|Af 2 Z<|AD 232 [] [] [zI b] Z Z OI Ac (zI<|md b) (fun wq=>D9 wq _ _hb)<|Cb (wr (((1000003:Nat):Int)-(md b))) Z Z Z Ac<|AD 230 [] [] [zI a,zI<|wr (((1000003:Nat):Int)-(md b))] Z Z Ym Ac (zI<|md (a+(wr (((1000003:Nat):Int)-(md b))))) (fun wq=>II wq _ _ _ha<|ON _)<|Ae 1 Z<|A3<|Ah [4] Z (zI<|md (a+(wr (((1000003:Nat):Int)-(md b))))) Z ⟨B5<|Va a b,a0⟩
theorem hZ (n:Int)(h:n.tmod 1000003<((0:Nat):Int)):wr (n.tmod 1000003+((1000003:Nat):Int))=md n:=by
  have h1:=Ct n;have h2:=Gk n;have h3:=Ct (-n);have h4:=Gk (-n)
  rw[tm n]at h ⊢
  split at h
  · omega
  · rename_i h0
    rw[if_neg h0,GN zO (by omega)]
    have e1:md (-(md (-n))+((1000003:Nat):Int))=md (-(md (-n))):=V9 _
    rw[Lb,Int.neg_neg,LK zO (by omega)]at e1
    exact e1
theorem iA (n:Int)(h:¬n.tmod 1000003<((0:Nat):Int)):n.tmod 1000003=md n:=by
  have h1:=Ct n;have h2:=Gk n;have h3:=Ct (-n);have h4:=Gk (-n)
  rw[tm n]at h ⊢
  split
  · rfl
  · rename_i h0
    rw[if_neg h0]at h
    have e0:md (-n)=0:=by omega
    have e1:=Lb (-n)
    rw[e0,Int.neg_neg]at e1
    rw[e0,← e1]
    rfl
theorem Ys {p:Prop}(h:p:=by first|exact B5 (hZ n (by assumption))|exact B5 (iA n (by assumption))):p:=h
theorem CL (w:World)(n:Int)(_hn:BI n)  :
  Calls Tryz.prog 132 #[zI n] w (fun e w'=>e=.returned (zI (md n))∧w'=w):=by
 refine Au [zI n] 11 Tryz.func132 Z Z sM ?_
 have a0:w=w:=rfl
 refine qD Z<|qC [0,0,0] Z<|Af 1 Z<|E5 (n.tmod 1000003) Z Z (by decide) Z Ac<|Ae 1 Z<|A0<|qC [0,0] Z<|Af 1 Z ?_
 by_cases a1:n.tmod 1000003<((0:Nat):Int)
 ·exact Ay true Z Z (A7 a1) Ac<|Ai<|Ag Z<|Ad _ [0,0,0] Z<|Af 1 Z<|AG (wr ((n.tmod 1000003)+((1000003:Nat):Int))) Z Z Z Ac<|Ae 1 Z<|qC [0,0] Z<|Ae 2 Z<|A3<|Ah [2] Z (zI<|wr ((n.tmod 1000003)+((1000003:Nat):Int))) Z ⟨Ys,a0⟩
 exact Ay false Z Z (A8 a1) Ac<|Ai<|Aj Z<|A4<|qC [0,0] Z<|Ae 2 Z<|A3<|Ah [2] Z (zI<|n.tmod 1000003) Z ⟨Ys,a0⟩
theorem LP (w:World)(a:Int)(b:Int)(_ha:BI a)(_hb:BI b)  :
  Calls Tryz.prog 50 #[zI a,zI b] w (fun e w'=>e=.returned (zI (md (a+b)))∧w'=w):=by
 refine Au [zI a,zI b] 11 Tryz.func50 Z Z sM ?_
 have a0:w=w:=rfl
 exact qD Z<|qC [0,0,0,0,0,0,0] Z<|Af 1 Z<|AD 132 [] [] [zI a] Z Z No Ac (zI<|md a) (fun wq=>CL wq _ _ha)<|Af 1 Z<|AD 132 [] [] [zI b] Z Z No Ac (zI<|md b) (fun wq=>CL wq _ _hb)<|AG (wr ((md a)+(md b))) Z Z Z Ac<|E5 ((wr ((md a)+(md b))).tmod 1000003) Z Z (by decide) Z Ac<|Ae 1 Z<|A3<|Ah [4] Z (zI<|(wr ((md a)+(md b))).tmod 1000003) Z ⟨B5<|SA a b,a0⟩
theorem Cx (w:World)(a:Int)(b:Int)(_ha:BI a)(_hb:BI b)  :
  Calls Tryz.prog 112 #[zI a,zI b] w (fun e w'=>e=.returned (zI (md (a*b)))∧w'=w):=by
 refine Au [zI a,zI b] 11 Tryz.func112 Z Z sM ?_
 have a0:w=w:=rfl
 exact qD Z<|qC [0,0,0,0,0,0,0] Z<|Af 1 Z<|AD 132 [] [] [zI a] Z Z No Ac (zI<|md a) (fun wq=>CL wq _ _ha)<|Af 1 Z<|AD 132 [] [] [zI b] Z Z No Ac (zI<|md b) (fun wq=>CL wq _ _hb)<|FR (wr ((md a)*(md b))) Z Z Z Ac<|E5 ((wr ((md a)*(md b))).tmod 1000003) Z Z (by decide) Z Ac<|Ae 1 Z<|A3<|Ah [4] Z (zI<|(wr ((md a)*(md b))).tmod 1000003) Z ⟨B5<|Qc a b,a0⟩
theorem Jv (w:World)(a:Int)(_ha:BI a)(hneg:0≤a) :
  Calls Tryz.prog 83 #[zI a] w (fun e w'=>e=.returned (zI (md (-a)))∧w'=w):=by
 refine Au [zI a] 6 Tryz.func83 Z Z sM ?_
 have a0:w=w:=rfl
 exact qD Z<|qC [0,0,0,0] Z<|Af 1 Z<|iP (wr (-a)) Z Z Ac<|AD 132 [] [] [zI<|wr (-a)] Z Z No Ac (zI<|md<|wr (-a)) (fun wq=>CL wq _<|ON _)<|Ae 1 Z<|A3<|Ah [2] Z (zI<|md<|wr (-a)) Z ⟨B5 (by rw[GN oM oM]),a0⟩
theorem Ic (w:World)(a:Int)(b:Int)(_ha:BI a)(_hb:BI b)(hs:-9223372036854775808≤a-b∧a-b≤9223372036854775807) :
  Calls Tryz.prog 223 #[zI a,zI b] w (fun e w'=>e=.returned (zI (md (a-b)))∧w'=w):=by
 refine Au [zI a,zI b] 9 Tryz.func223 Z Z sM ?_
 have a0:w=w:=rfl
 exact qD Z<|qC [0,0,0,0,0] Z<|Af 2 Z<|Cb (wr (a-b)) Z Z Z Ac<|AD 132 [] [] [zI<|wr (a-b)] Z Z No Ac (zI<|md<|wr (a-b)) (fun wq=>CL wq _<|ON _)<|Ae 1 Z<|A3<|Ah [4] Z (zI<|md<|wr (a-b)) Z ⟨B5 (by rw[GN hs.1 hs.2]),a0⟩
theorem PL {p:Prop}(h:p:=by exact⟨zO,by first|exact f9 hI.2 oM (by assumption)|exact Ze hI.2 oM (by assumption)⟩):p:=h
theorem PM (w:World)(a:Int)(n:Int)(_ha:BI a)(_hn:BI n)  :
  Calls Tryz.prog 224 #[zI a,zI n] w (fun e w'=>e=.returned (zI (pw a n))∧w'=w):=by
 refine Au [zI a,zI n] 25 Tryz.func224 Z Z sM ?_
 have a0:w=w:=rfl
 refine qD Z<|A0<|qC [0,0] Z<|Af 1 Z ?_
 by_cases a2:n<((0:Nat):Int)
 ·exact Ay true Z Z (A7 a2) Ac<|Ai<|Ag Z<|qD Z<|A3<|Aq<|Ah [4] Z (zI ((0:Nat):Int)) Z ⟨B5<|Vc (by assumption),a0⟩
 refine Ay false Z Z (A8 a2) Ac<|Ai<|Aj Z<|A4<|qD Z<|qC [0,0,0] Z<|Af 1 Z<|AD 132 [] [] [zI a] Z Z No Ac (zI<|md a) (fun wq=>CL wq _ _ha)<|Ae 1 Z<|A0<|A5 ?_
 refine AR (S:=Int×Int×Int) (fun⟨m,x,b⟩=>([(1,zI m),(5,zI x),(6,zI b)])) (fun⟨m,x,b⟩ W=>W=w∧(0≤m∧md (x*b ^ m.toNat)=md (a ^ n.toNat))∧m≤9223372036854775807∧(0≤x∧x<1000003)∧(0≤b∧b<1000003)) (fun⟨m,x,b⟩=>m.toNat) (n,((1:Nat):Int),md a) ⟨rfl,rfl,rfl,trivial⟩ ⟨a0,(by exact⟨zO,Qd a n.toNat⟩),oM,oM,(by exact BT _)⟩ ?_
 clear a0
 rintro⟨m,x,b⟩ ρ3 w3 ⟨a1,hI,hm,hx,hb⟩
 refine A0<|qC [0,0] Z<|Af 1 Z ?_
 by_cases a3:((0:Nat):Int)<m
 ·refine C6 true Z Z (A7 a3) Ac<|Ai<|Ag Z<|A4<|A5<|A0<|qC [0,0,0] Z<|Af 1 Z<|E5 (m % 2) Z Z (by decide) (qG hI.1) Ac ?_
  by_cases a4:m % 2=((1:Nat):Int)
  ·refine Av true Z Z (A7 a4) Ac<|Ai<|Ag Z<|Ad _ [0,0,0,0] Z<|Af 2 Z<|AD 112 [] [] [zI x,zI b] Z Z Jt Ac (zI<|md (x*b)) (fun wq=>Cx wq _ _ oM oM)<|Ae 1 Z<|qC [0,0,0,0] Z<|Af 2 Z<|AD 112 [] [] [zI b,zI b] Z Z Jt Ac (zI<|md (b*b)) (fun wq=>Cx wq _ _ oM oM)<|Ae 1 Z<|Ad _ [0,0,0] Z<|Af 1 Z<|St (m / 2) Z Z (by decide) (nF hI.1 hm) Ac<|Ae 1 Z ?_
   exact⟨(m / 2,md (x*b),md (b*b)),_,rfl,zR,⟨a1,PL,oM,(by first|exact hx|exact BT _),(by exact BT _)⟩,zD⟩
  exact Av false Z Z (A8 a4) Ac<|Ai<|Aj Z<|A4<|qC [0,0,0,0] Z<|Af 2 Z<|AD 112 [] [] [zI b,zI b] Z Z Jt Ac (zI<|md (b*b)) (fun wq=>Cx wq _ _ oM oM)<|Ae 1 Z<|Ad _ [0,0,0] Z<|Af 1 Z<|St (m / 2) Z Z (by decide) (nF hI.1 hm) Ac<|Ae 1 Z ⟨(m / 2,x,md (b*b)),_,rfl,zR,⟨a1,PL,oM,(by first|exact hx|exact BT _),(by exact BT _)⟩,zD⟩
 exact C6 false Z Z (A8 a3) Ac<|Ai<|Aj Z<|A6<|At<|At<|An<|qC [0,0] Z<|Ae 2 Z<|A3<|Ah [4] Z (zI x) Z ⟨B5<|Vb hI.2 hI.1 (by assumption) (by assumption) hx,a1⟩
theorem PN (w:World)(a:Int)(n:Int)(_ha:BI a)(_hn:BI n)  :
  Calls Tryz.prog 257 #[zI a,zI n] w (fun e w'=>e=.returned (zI (pw a n))∧w'=w):=by
 refine Au [zI a,zI n] 27 Tryz.func257 Z Z sM ?_
 have a0:w=w:=rfl
 refine qD Z<|A0<|qC [0,0] Z<|Af 1 Z ?_
 by_cases a2:n<((0:Nat):Int)
 ·exact Ay true Z Z (A7 a2) Ac<|Ai<|Ag Z<|qD Z<|A3<|Aq<|Ah [4] Z (zI ((0:Nat):Int)) Z ⟨B5<|Vc (by assumption),a0⟩
 refine Ay false Z Z (A8 a2) Ac<|Ai<|Aj Z<|A4<|qD Z<|A0<|qC [0,0,0] Z<|Af 1 Z<|AD 232 [] [] [zI a] Z Z OI Ac (zI<|md a) (fun wq=>D9 wq _ _ha)<|Ae 1 Z<|A5 ?_
 refine AR (S:=Int×Int×Int) (fun⟨m,x,b⟩=>([(1,zI m),(5,zI x),(6,zI b)])) (fun⟨m,x,b⟩ W=>W=w∧(0≤m∧md (x*b ^ m.toNat)=md (a ^ n.toNat))∧m≤9223372036854775807∧(0≤x∧x<1000003)∧(0≤b∧b<1000003)) (fun⟨m,x,b⟩=>m.toNat) (n,((1:Nat):Int),md a) ⟨rfl,rfl,rfl,trivial⟩ ⟨a0,(by exact⟨zO,Qd a n.toNat⟩),oM,oM,(by exact BT _)⟩ ?_
 clear a0
 rintro⟨m,x,b⟩ ρ3 w3 ⟨a1,hI,hm,hx,hb⟩
 refine A0<|qC [0,0] Z<|Af 1 Z ?_
 by_cases a3:((0:Nat):Int)<m
 ·refine C6 true Z Z (A7 a3) Ac<|Ai<|Ag Z<|A4<|A0<|A5<|A0<|qC [0,0,0] Z<|Af 1 Z<|E5 (m % 2) Z Z (by decide) (qG hI.1) Ac ?_
  by_cases a4:m % 2=((1:Nat):Int)
  ·refine Av true Z Z (A7 a4) Ac<|Ai<|Ag Z<|Ad _ [0,0,0,0,0] Z<|Af 2 Z<|FR (wr (x*b)) Z Z Z Ac<|E5 (md (x*b)) Z Z (by decide) (Qe hx hb) Ac<|Ae 1 Z<|Ad _ [0,0,0,0,0] Z<|Af 2 Z<|FR (wr (b*b)) Z Z Z Ac<|E5 (md (b*b)) Z Z (by decide) (Qe hb hb) Ac<|Ae 1 Z<|Ad _ [0,0,0] Z<|Af 1 Z<|St (m / 2) Z Z (by decide) (nF hI.1 hm) Ac<|Ae 1 Z ?_
   exact⟨(m / 2,md (x*b),md (b*b)),_,rfl,zR,⟨a1,PL,oM,(by first|exact hx|exact BT _),(by exact BT _)⟩,zD⟩
  exact Av false Z Z (A8 a4) Ac<|Ai<|Aj Z<|A4<|Ad _ [0,0,0,0,0] Z<|Af 2 Z<|FR (wr (b*b)) Z Z Z Ac<|E5 (md (b*b)) Z Z (by decide) (Qe hb hb) Ac<|Ae 1 Z<|Ad _ [0,0,0] Z<|Af 1 Z<|St (m / 2) Z Z (by decide) (nF hI.1 hm) Ac<|Ae 1 Z ⟨(m / 2,x,md (b*b)),_,rfl,zR,⟨a1,PL,oM,(by first|exact hx|exact BT _),(by exact BT _)⟩,zD⟩
 exact C6 false Z Z (A8 a3) Ac<|Ai<|Aj Z<|A6<|At<|At<|An<|qC [0,0] Z<|Ae 2 Z<|A3<|Ah [4] Z (zI x) Z ⟨B5<|Vb hI.2 hI.1 (by assumption) (by assumption) hx,a1⟩
theorem H2 (w:World)(a:Int)(_ha:BI a)  :
  Calls Tryz.prog 163 #[zI a] w (fun e w'=>e=.returned (zI (inv a))∧w'=w):=by
 refine Au [zI a] 5 Tryz.func163 Z Z sM ?_
 have a0:w=w:=rfl
 exact qD Z<|qC [0,0,0] Z<|Af 1 Z<|AD 224 [] [] [zI a,zI ((1000001:Nat):Int)] Z Z lQ Ac (zI<|pw a ((1000001:Nat):Int)) (fun wq=>PM wq _ _ _ha oM)<|Ae 1 Z<|A3<|Ah [2] Z (zI<|pw a ((1000001:Nat):Int)) Z ⟨rfl,a0⟩
theorem IJ (w:World)(a:Int)(_ha:BI a)  :
  Calls Tryz.prog 226 #[zI a] w (fun e w'=>e=.returned (zI (inv a))∧w'=w):=by
 refine Au [zI a] 5 Tryz.func226 Z Z sM ?_
 have a0:w=w:=rfl
 exact qD Z<|qC [0,0,0] Z<|Af 1 Z<|AD 257 [] [] [zI a,zI ((1000001:Nat):Int)] Z Z mC Ac (zI<|pw a ((1000001:Nat):Int)) (fun wq=>PN wq _ _ _ha oM)<|Ae 1 Z<|A3<|Ah [2] Z (zI<|pw a ((1000001:Nat):Int)) Z ⟨rfl,a0⟩
theorem Id (w:World)(n:Int)(_hn:BI n)  :
  Calls Tryz.prog 170 #[zI n] w (fun e w'=>e=.returned (.bool (Jp n))∧w'=w):=by
 refine Au [zI n] 5 Tryz.func170 Z Z sM ?_
 have a0:w=w:=rfl
 exact qD Z<|qC [0,0,0] Z<|Af 1 Z<|AD 117 [] [] [zI n,zI ((0:Nat):Int),zI ((1000002:Nat):Int)] Z Z GQ Ac (.bool (decide (((0:Nat):Int)≤n) && decide (n≤((1000002:Nat):Int)))) (fun wq=>BN wq _ _ _ _hn oM oM)<|Ae 1 Z<|A3<|Ah [2] Z (.bool (decide (((0:Nat):Int)≤n) && decide (n≤((1000002:Nat):Int)))) Z ⟨AH (by unfold Jp;rfl),a0⟩
theorem Hv (w:World)(n:Int)(_hn:BI n)  :
  Calls Tryz.prog 220 #[zI n] w (fun e w'=>e=.returned (.bool (Jp n))∧w'=w):=by
 refine Au [zI n] 5 Tryz.func220 Z Z sM ?_
 have a0:w=w:=rfl
 exact qD Z<|qC [0,0,0] Z<|Af 1 Z<|AD 74 [] [] [zI n,zI ((0:Nat):Int),zI ((1000002:Nat):Int)] Z Z Jf Ac (.bool (decide (((0:Nat):Int)≤n) && decide (n≤((1000002:Nat):Int)))) (fun wq=>BH wq _ _ _ _hn oM oM)<|Ae 1 Z<|A3<|Ah [2] Z (.bool (decide (((0:Nat):Int)≤n) && decide (n≤((1000002:Nat):Int)))) Z ⟨AH (by unfold Jp;rfl),a0⟩
theorem Jg (w:World)(n:Int)(_hn:BI n)  :
  Calls Tryz.prog 169 #[zI n] w (fun e w'=>e=.returned (.bool (!Jp n))∧AB w w'):=by
 refine Au [zI n] 6 Tryz.func169 Z Z sM ?_
 have a0:AB w w:=AB.refl w
 exact qD Z<|qC [0,0,0,0] Z<|Af 1 Z<|AD 170 [] [] [zI n] Z Z dI Ac (.bool<|Jp n) (fun wq=>Id wq _ _hn)<|BF (!(Jp n)) Z Z Ac<|Ae 1 Z<|A3<|Ah [2] Z (.bool (!(Jp n))) Z ⟨rfl,a0⟩
def RZ {α:Type}(p:α→Bool)(l:List α):Int:=if l.any p then((l.findIdx p:Nat):Int)else -1
theorem S0 {α:Type}{p:α→Bool}{l:List α}{k:Nat}(d:α)(h:∀j,j<k→p (l.getD j d)=false)(hk:k<l.length)(hp:p (l.getD k d)=true):((k:Nat):Int)=RZ p l:=by
  have e:∀j,(hj:j<l.length)→l.getD j d=l[j]:=fun j hj=>by simp[hj]
  have h1:l.any p=true:=List.any_eq_true.2 ⟨l[k],List.getElem_mem hk,by rw[← e k hk];exact hp⟩
  have h2:l.findIdx p=k:=by
    rw[List.findIdx_eq hk]
    refine⟨by rw[← e k hk];exact hp,fun j hj=>?_⟩
    have:=h j hj
    rw[e j (by omega)]at this
    exact this
  unfold RZ;rw[if_pos h1,h2]
theorem Yt {α:Type}{p:α→Bool}{l:List α}{k:Nat}(d:α)(h:∀j,j<k→p (l.getD j d)=false)(hk:l.length≤k):(-1:Int)=RZ p l:=by
  have h1:l.any p=false:=by
    rw[List.any_eq_false]
    intro x hx
    obtain⟨j,hj,rfl⟩:=List.getElem_of_mem hx
    have:=h j zO
    have e:l.getD j d=l[j]:=by simp[hj]
    rw[e]at this
    simp[this]
  unfold RZ;rw[h1];rfl
theorem Yu {α:Type}(p:α→Bool)(l:List α):decide (((0:Nat):Int)≤RZ p l)=l.any p:=by
  unfold RZ
  split
  · rename_i h;rw[h];exact A7 zO
  · rename_i h;rw[Bool.not_eq_true]at h;rw[h];exact A8 zO
theorem PO {α:Type}{p:α→Bool}{l:List α}{k:Nat}{d:α}(h:∀j,j<k→p (l.getD j d)=false)(hp:p (l.getD k d)=false):∀j,j<k+1→p (l.getD j d)=false:=by
  intro j hj
  by_cases e:j=k
  · subst e;exact hp
  · exact h j zO
theorem Et (w:World) (va:Value) (a:Sr) (q:Nat) (qf qc:List Value) (p:Int→Bool) (ha:Rd (B3 rI) w.heap va a) (hcf_q:((Tryz.prog.funcs[q]?).map fun fn=>(fn.name != "runtime.NumGoroutine") && fn.body.isSome) = some true) (hp:∀ (x:Int),BI x→∀ w1,AB w w1→Calls Tryz.prog q (qf++[Value.int .i64 x]++qc).toArray w1 (fun e w2=>e = .returned (.bool (p x))∧AB w1 w2))  :
  Calls Tryz.prog 225 #[va,.func (.func q) qf.toArray qc.toArray] w (fun e w'=>e = .returned (zI (RZ p a))∧AB w w'):=by
 refine Au [va,.func (.func q) qf.toArray qc.toArray] 19 Tryz.func225 Z Z sM ?_
 have a3:AB w w:=AB.refl w
 have aa:=ha.lenle
 refine qD Z<|A0<|qC [0,0,0] Z<|Af 1 Z<|AL (v:=va) Bo Z ha.isSl Ac<|Ae 1 Z<|A5 ?_
 refine AR (S:=Nat) (fun k=>([(8,zI ((k :Nat):Int)),(0,va),(1,.func (.func q) qf.toArray qc.toArray),(7,zI ((a.length :Nat):Int))])) (fun k W=>AB w W∧k≤a.length∧(∀ j,j < k→p (a.getD j 0) = false)) (fun k=>a.length - k) 0 ⟨rfl,rfl,rfl,rfl,trivial⟩ ⟨a3,sD,(by intro j hj; omega)⟩ ?_
 clear a3
 rintro k ρ1 w1 ⟨a1,a4,hq⟩
 have a7:w.heap.size≤w1.heap.size:=a1.size
 refine qC [0] Z ?_
 by_cases a5:((k :Nat):Int) < ((a.length :Nat):Int)
 ·
  refine Ay true Z Z (A7 a5) Ac<|Ai<|A0<|Ag Z<|A4<|A0<|A5<|qC [0,0] Z<|Ae 2 Z<|qC [0,0,0,0,2,3] Z<|Af 3 Z<|Aw (v:=va) k Bo BQ Z Z ha.isSl Z sD Ac ?_
  refine Al (p:=Ax va k 1) (.inr Z) (zI<|a.getD k 0) AN Z (AQ a1 (ha.getI sD).1) Ac ?_
  have a0:=hp (a.getD k 0) (ha.getI sD).2 _ a1
  refine As q qf qc _ Z Z hcf_q Ac a0 ?_
  rintro e3 w3 ⟨rfl,a2⟩
  refine ⟨_,rfl,a2,?_⟩
  have a8:=a2.size
  have a6:=a1.trans a2
  cases a9:p (a.getD k 0)
  ·
   refine Ai<|Aj Z<|A4<|Ad _ [0,0] Z<|AG ((k + 1 :Nat):Int) Z Z (Bc oM sD) Ac<|Ae 1 Z ?_
   exact ⟨k + 1,_,rfl,zR,⟨a6,sD,(by exact PO hq (by assumption))⟩,by first | omega | (dsimp only; omega)⟩
  
  exact Ai<|Ag Z<|qC [0,0] Z<|Ae 2 Z<|A3<|AJ<|Aq<|Aq<|AJ<|Aq<|Ah [4] Z (zI ((k :Nat):Int)) Z ⟨B5<|S0 0 hq oM (by assumption),a6⟩
 
 exact Ay false Z Z (A8 a5) Ac<|Ai<|A0<|Aj Z<|A6<|At<|At<|An<|qD Z<|A3<|Ah [4] Z (zI (-1)) Z ⟨B5<|Yt 0 hq oM,a1⟩
theorem E3 (w:World) (va:Value) (a:Sr) (q:Nat) (qf qc:List Value) (p:Int→Bool) (ha:Rd (B3 rI) w.heap va a) (hcf_q:((Tryz.prog.funcs[q]?).map fun fn=>(fn.name != "runtime.NumGoroutine") && fn.body.isSome) = some true) (hp:∀ (x:Int),BI x→∀ w1,AB w w1→Calls Tryz.prog q (qf++[Value.int .i64 x]++qc).toArray w1 (fun e w2=>e = .returned (.bool (p x))∧AB w1 w2))  :
  Calls Tryz.prog 168 #[va,.func (.func q) qf.toArray qc.toArray] w (fun e w'=>e = .returned (.bool (a.any p))∧AB w w'):=by
 refine Au [va,.func (.func q) qf.toArray qc.toArray] 9 Tryz.func168 Z Z sM ?_
 have a0:AB w w:=AB.refl w
 have a4:=ha.lenle
 refine qD Z<|qC [0,0,3,0,0] Z<|Af 2 Z<|As 225 [] [] [va,.func (.func q) qf.toArray qc.toArray] Z Z lR Ac (Et _ _ _ q qf qc p (ha.ext g1 a0) hcf_q fun x hx w1 hw=>hp x hx w1<|a0.trans hw) ?_
 rintro e1 w1 ⟨rfl,a1⟩
 refine ⟨_,rfl,a1,?_⟩
 have a2:=a1.size
 have a3:=a0.trans a1
 exact Fy (decide (((0 :Nat):Int)≤RZ p a)) Z Z Z Ac<|Ae 1 Z<|A3<|Ah [4] Z (.bool<|decide (((0 :Nat):Int)≤RZ p a)) Z ⟨AH<|Yu p a,a3⟩
theorem EH (w:World)(va:Value)(a:Sr)(count:Int)(ha:Rd (B3 rI) w.heap va a)(_hcount:BI count)  :
  Calls Tryz.prog 86 #[va,zI count] w (fun e w'=>e=.returned (.bool (decide ((a.length:Int)=count) && B8 a))∧AB w w'):=by
 refine Au [va,zI count] 14 Tryz.func86 Z Z sM ?_
 have a0:AB w w:=AB.refl w
 have a5:=ha.lenle
 refine qD Z<|qC [0,0,0,0,0,0,3,0,0,0] Z<|Af 1 Z<|AL (v:=va) Bo Z ha.isSl Ac<|Af 1 Z ?_
 by_cases a2:(a.length:Int)=count
 ·refine Av true Z Z (A7 a2) Ac<|Af 2 Z<|As 168 [] [] [va,.func (.func 169) #[] #[]] Z Z lB (Ak (e:=9) Z Z Z) (E3 _ _ _ 169 [] [] (fun x=>!Jp x) (ha.ext g1 a0) lC fun x hx w1 hw=>Jg w1 x hx) ?_
  rintro e2 w2 ⟨rfl,a1⟩
  refine⟨_,rfl,a1,?_⟩
  have a3:=a1.size
  have a4:=a0.trans a1
  exact BF (!(a.any fun x=>!Jp x)) Z Z (Ak (e:=9) Z Z Z)<|Ae 2 Z<|A3<|Ah [4] Z (.bool (!(a.any fun x=>!Jp x))) Z ⟨AH (by first|(rw[SD];simp[*];done)|simp[*]),a4⟩
 exact Av false Z Z (A8 a2) Ac<|Ae 6 Z<|A3<|Ah [4] Z (.bool false) Z ⟨AH (by first|(rw[SD];simp[*];done)|simp[*]),a0⟩
theorem KQ (w:World)(va:Value)(a:Sr)(ha:Rd (B3 rI) w.heap va a)  :
  Calls Tryz.prog 157 #[va] w (fun e w'=>e=.returned (.bool (B8 a))∧AB w w'):=by
 refine Au [va] 16 Tryz.func157 Z Z sM ?_
 have a1:AB w w:=AB.refl w
 have a6:=ha.lenle
 refine qD Z<|A0<|qD Z<|A5<|AR (S:=Nat) (fun k=>([(3,zI (k:Int)),(0,va)])) (fun k W=>AB w W∧k≤a.length∧((a.take k).all Jp=true)) (fun k=>a.length-k) 0 ⟨rfl,rfl,trivial⟩ ⟨a1,sD,(by exact Vd _ _)⟩ ?_
 clear a1
 rintro k ρ1 w1 ⟨a0,a2,hq⟩
 have a5:w.heap.size≤w1.heap.size:=a0.size
 refine A0<|qC [0,0,0,0] Z<|Af 2 Z<|AL (v:=va) Bo Z ha.isSl Ac ?_
 by_cases a3:(k:Int)<(a.length:Int)
 ·refine Ay true Z Z (A7 a3) Ac<|Ai<|Ag Z<|A4<|A0<|A5<|qC [0,0,0,2,0,0] Z<|Af 2 Z<|Aw (v:=va) k Bo BQ Z Z ha.isSl Z sD Ac ?_
  refine Al (p:=Ax va k 1) (.inr Z) (zI<|a.getD k 0) AN Z (AQ a0 (ha.getI sD).1) Ac ?_
  refine AD 220 [] [] [zI<|a.getD k 0] Z Z dM Ac (.bool<|Jp<|a.getD k 0) (fun wq=>Hv wq _ (ha.getI sD).2)<|BF (!(Jp<|a.getD k 0)) Z Z Ac<|Ai ?_
  cases a4:(!(Jp (a.getD k 0)))
  ·refine Aj (by first|rfl|exact zW a4)<|A4<|Ad _ [0,0,0] Z<|Af 1 Z<|AG ((k+1:Nat):Int) Z Z (Bc oM sD) Ac<|Ae 1 Z ?_
   exact⟨k+1,_,rfl,⟨rfl,rfl,trivial⟩,⟨a0,sD,(by exact Qf 0 hq oM (by simpa using ‹(!Jp (a.getD k 0))=false›))⟩,zD⟩
  exact Ag (by first|rfl|exact zW a4)<|qD Z<|A3<|AJ<|Aq<|Aq<|AJ<|Aq<|Ah [2] Z (.bool false) Z ⟨AH (MH (k:=k) 0 oM (by simpa using ‹(!Jp (a.getD k 0))=true›)).symm,a0⟩
 exact Ay false Z Z (A8 a3) Ac<|Ai<|Aj Z<|A6<|At<|At<|An<|qD Z<|A3<|Ah [2] Z (.bool true) Z ⟨AH (Qg hq oM).symm,a0⟩
theorem Fu (w:World)(va:Value)(a:Sr)(ha:Rd (B3 rI) w.heap va a)(hla:a.length≤1000000000000) :
  Calls Tryz.prog 143 #[va] w (fun e w'=>∃v0:Value,e=.returned (v0)∧AB w w'∧Fr (AX rI 2) w.heap.size w'.heap.size w'.heap v0 a):=by
 refine Au [va] 6 Tryz.func143 Z Z sM ?_
 have a3:AB w w:=AB.refl w
 have ab:=ha.lenle
 refine qD Z<|qC [3,0,4,0] Z (BU (rI) AT Bo BQ Ac fun v1 w1 a1 aa a4=>?_)
 have a5:=a1.size
 have a0:=a3.trans a1
 refine Af 1 Z (FK (v:=v1) (a:=va) Bo BQ Z Z Z a4 a0.size (ha.ext g1 a0) sD (by unfold maxLen;first|omega|assumption|(simp;done)|(simp;omega)) Ac fun v2 w2 F2 a2 a6 a7=>?_)
 have a8:AB w w2:=a2.below a0 (fun c hc=>Aa (A9 _) (a6 c hc).1) a0.size
 have a9:=a2.size
 exact Ae 1 Z<|A3<|Ah [2] Z v2 Z ⟨v2,rfl,a8,a7.up o1⟩
theorem Jw (w:World)(va:Value)(a:List (Sr))(ha:Rd (B3 (B3 rI)) w.heap va a)(hla:a.length≤1000000000000)(hlr:∀k,(a.getD k []).length≤1000000000000) :
  Calls Tryz.prog 161 #[va] w (fun e w'=>∃v0:Value,e=.returned (v0)∧AB w w'∧Fr (AX (AX rI 2) 27) w.heap.size w'.heap.size w'.heap v0 a):=by
 refine Au [va] 21 Tryz.func161 Z Z sM ?_
 have ab:AB w w:=AB.refl w
 have ay:=ha.lenle
 refine qD Z<|qC [3,0] Z (BU (AX rI 2) o1 Bm AV Ac fun v1 w1 a6 aj ac=>?_)
 have a7:=a6.size
 have ad:=ab.trans a6
 refine Ae 1 Z<|A0<|qD Z<|A5<|AR (S:=Nat×Value) (fun⟨k,vo⟩=>([(3,vo),(4,zI (k:Int)),(0,va)])) (fun⟨k,vo⟩ W=>AB w W∧Fr (AX (AX rI 2) 27) w.heap.size W.heap.size W.heap vo (a.take k)∧k≤a.length) (fun⟨k,vo⟩=>a.length-k) (0,v1) ⟨rfl,rfl,rfl,trivial⟩ ⟨ad,ac.up o2,sD⟩ ?_
 clear ab ac aj a6 a7 ad
 rintro⟨k,vo⟩ ρ2 w2 ⟨a3,a2,ae⟩
 have ak:w.heap.size≤w2.heap.size:=a3.size
 refine A0<|qC [0,0,0,0] Z<|Af 2 Z<|AL (v:=va) Bm Z ha.isSl Ac ?_
 by_cases af:(k:Int)<(a.length:Int)
 ·refine Ay true Z Z (A7 af) Ac<|Ai<|Ag Z<|A4<|A0<|A5<|Ad _ [0,0,0,0,2,3,3,4,0] Z<|Af 3 Z<|Aw (v:=va) k Bm AV Z Z ha.isSl Z sD Ac ?_
  obtain⟨ag,al,ah⟩:=ha.get (k:=k) [] sD
  have am:=ah.lenle
  refine Al (p:=Ax va k 1) (.inr Z) ag B7 Z (AQ a3 al) Ac<|As 143 [] [] [ag] Z Z TN Ac (Fu _ _ _ (ah.ext g1 a3) (by exact hlr _)) ?_
  rintro e5 w5 ⟨a8,rfl,a5,a4⟩
  refine⟨_,rfl,a5,?_⟩
  have an:=a5.size
  have ao:=a3.trans a5
  have a0:=a2.ext (o2) a5
  refine Bt (u:=a8) (B:=w2.heap.size) o1 Bm AV Z Z a4 (by first|exact A9 _|omega) Ac fun v6 w6 a9 ax ap=>?_
  have aq:=a9.size
  have aa:=ao.trans a9
  have a1:=a0.ext (o2) a9
  refine DY o1 (v:=vo) (a:=v6) Bm AV Z Z Z a1 aa.size ap oM a3.size sD (by unfold maxLen;first|omega|assumption|(simp;done)|(simp;omega)) Ac fun v7 w7 F7 ai ar au=>?_
  have av:AB w w7:=ai.below aa (fun c hc=>Aa (A9 _) (ar c hc).1) aa.size
  have aw:=ai.size
  refine Ae 1 Z<|Ad _ [0,0,0] Z<|Af 1 Z<|AG ((k+1:Nat):Int) Z Z (Bc oM sD) Ac<|Ae 1 Z ?_
  exact⟨(k+1,v7),_,rfl,zR,⟨av,(by rw[CA [] oM];exact au.up o2),sD⟩,zD⟩
 exact Ay false Z Z (A8 af) Ac<|Ai<|Aj Z<|A6<|At<|At<|An<|qC [0,0] Z<|Ae 2 Z<|A3<|Ah [2] Z vo Z ⟨vo,rfl,a3,(by have h:=a2.up o2;rwa [za oM]at h)⟩
theorem IK (w:World)(va:Value)(a:Sr)(Fa:List Nat)(vb:Value)(b:Sr)(y:Int)(ha:AX rI 2 w.heap va a Fa)(hna:Fa.Nodup)(hb:∀w',Az Fa w w'→Rd (B3 rI) w'.heap vb b)(_hy:BI y)(hl:a.length≤b.length)(hqa:B8 a=true)(hqb:B8 b=true)(hy:0≤y∧y<1000003) :
  Calls Tryz.prog 162 #[va,vb,zI y] w (fun e w'=>e=.returned (.tuple #[])∧Az Fa w w'∧AX rI 2 w'.heap va (Ok a b y) Fa):=by
 refine Au [va,vb,zI y] 27 Tryz.func162 Z Z sM ?_
 have a2:Az Fa w w:=Az.refl Fa w
 have aa:=ha.lenle
 unfold maxLen at aa
 have ab:=(hb _ a2).lenle
 refine qD Z<|A5 ?_
 refine AR (S:=Nat) (fun k=>([(6,zI (k:Int)),(0,va),(1,vb),(2,zI y)])) (fun k W=>Az Fa w W∧AX rI 2 W.heap va (CJ k (Ok a b y) a) Fa∧k≤a.length) (fun k=>a.length-k) 0 ⟨rfl,rfl,rfl,rfl,trivial⟩ ⟨a2,(by first|(rw[D6];exact ha)|(have h:=ha;rw[Ei 0 (HK a b y) (A9 _) oM]at h;unfold Ok;rw[FY Z oM];exact h)),sD⟩ ?_
 clear a2
 rintro k ρ1 w1 ⟨a1,a0,a4⟩
 have a7:w.heap.size≤w1.heap.size:=a1.size
 have hml:=Ey k (Ok a b y) a<|HK a b y
 have hgb:=Bk hqb k
 have hga:=Bk hqa k
 refine A0<|qC [0,0,0,0] Z<|Af 2 Z<|AL (v:=va) Bo Z (a0.rd id).isSl Ac ?_
 by_cases a5:(k:Int)<(((CJ k (Ok a b y) a).length:Nat):Int)
 ·refine Ay true Z Z (A7 a5) Ac<|Ai<|Ag Z<|A4<|A0<|A5<|AS _ [0,0,0,0,0,1,0,0,0,0,1,0,0,0,4] mixed (by kernel_rfl)<|Af 4 Z<|Aw (v:=va) k Bo BQ Z Z (a0.rd id).isSl Z sD Ac ?_
  refine Al (p:=Ax va k 1) (.inl Z) (zI<|(CJ k (Ok a b y) a).getD k 0) AN Z ((OP a0).getI (k:=k) sD).1 Ac (Af 3 Z ?_)
  refine Aw (v:=vb) k Bo BQ Z Z (hb _ a1.drew).isSl Z sD Ac ?_
  refine Al (p:=Ax vb k 1) (.inl Z) (zI<|b.getD k 0) AN Z ((hb _ a1.drew).getI sD).1 Ac ?_
  refine AD 112 [] [] [zI y,zI<|b.getD k 0] Z Z Jt Ac (zI<|md (y*(b.getD k 0))) (fun wq=>Cx wq _ _ _hy ((hb _ a1.drew).getI sD).2) ?_
  refine AD 223 [] [] [zI<|(CJ k (Ok a b y) a).getD k 0,zI<|md (y*(b.getD k 0))] Z Z dN Ac (zI<|md (((CJ k (Ok a b y) a).getD k 0)-(md (y*(b.getD k 0))))) (fun wq=>Ic wq _ _ ((OP a0).getI (k:=k) sD).2 (E0 _) (by have h1:=BT (y*b.getD k 0);rw[Ei 0 (HK a b y) (A9 _) oM];omega)) ?_
  refine Aw (v:=va) k Bo BQ Z Z (a0.rd id).isSl Z sD Ac ?_
  refine eT (v:=va) (w:=w1.drew) HV Z Z (E0 _) a0 hna sD Ac fun w5 a3 a9 a6=>?_
  replace a3:=a3.of_drew
  have a8:Az Fa w w5:=a1.trans a3
  refine Ai<|Ad _ [0,0,0] Z<|Af 1 Z<|AG ((k+1:Nat):Int) Z Z (Bc oM sD) Ac<|Ae 1 Z ?_
  exact⟨k+1,_,rfl,zR,⟨a8,(by first|(rw[D6];exact a6)|(have h:=a6;rw[Ei 0 (HK a b y) (A9 _) oM]at h;unfold Ok;rw[FY Z oM];exact h)),sD⟩,zD⟩
 exact Ay false Z Z (A8 a5) Ac<|Ai<|Aj Z<|A6<|At<|At<|An<|Ir [] Z (.tuple #[]) Z ⟨rfl,a1,(by have h:=a0;rwa [DQ (HK a b y) oM]at h)⟩
theorem FO (w:World)(va:Value)(a:Sr)(y:Int)(ha:Rd (B3 rI) w.heap va a)(_hy:BI y)(hla:a.length≤1000000000000) :
  Calls Tryz.prog 165 #[va,zI y] w (fun e w'=>∃v0:Value,e=.returned (v0)∧AB w w'∧Fr (AX rI 2) w.heap.size w'.heap.size w'.heap v0 (scl a y)):=by
 refine Au [va,zI y] 24 Tryz.func165 Z Z sM ?_
 have a8:AB w w:=AB.refl w
 have an:=ha.lenle
 refine qD Z<|qC [3,0] Z (BU (rI) AT Bo BQ Ac fun v1 w1 a3 af a9=>?_)
 have a4:=a3.size
 have aa:=a8.trans a3
 refine Ae 1 Z<|A0<|qD Z<|A5 ?_
 refine AR (S:=Nat×Value) (fun⟨k,vo⟩=>([(5,vo),(6,zI (k:Int)),(0,va),(1,zI y)])) (fun⟨k,vo⟩ W=>AB w W∧Fr (AX rI 2) w.heap.size W.heap.size W.heap vo ((a.take k).map fun x=>md (x*y))∧k≤a.length) (fun⟨k,vo⟩=>a.length-k) (0,v1) ⟨rfl,rfl,rfl,rfl,trivial⟩ ⟨aa,a9.up o1,sD⟩ ?_
 clear a8 a9 af a3 a4 aa
 rintro⟨k,vo⟩ ρ2 w2 ⟨a2,a1,ab⟩
 have ag:w.heap.size≤w2.heap.size:=a2.size
 refine A0<|qC [0,0,0,0] Z<|Af 2 Z<|AL (v:=va) Bo Z ha.isSl Ac ?_
 by_cases ac:(k:Int)<(a.length:Int)
 ·refine Ay true Z Z (A7 ac) Ac<|Ai<|Ag Z<|A4<|A0<|A5<|Ad _ [0,0,0,0,2,0,0,3,4,0] Z<|Af 3 Z<|Aw (v:=va) k Bo BQ Z Z ha.isSl Z sD Ac ?_
  refine Al (p:=Ax va k 1) (.inr Z) (zI<|a.getD k 0) AN Z (AQ a2 (ha.getI sD).1) Ac<|Af 1 Z ?_
  refine AD 112 [] [] [zI<|a.getD k 0,zI y] Z Z Jt Ac (zI<|md ((a.getD k 0)*y)) (fun wq=>Cx wq _ _ (ha.getI sD).2 _hy) (Bt (u:=zI<|md ((a.getD k 0)*y)) (B:=w2.heap.size) AT Bo BQ Z Z (Mz w2.heap.size w2.heap.size _ _<|E0 _) (A9 _) Ac fun v5 w5 a5 al ad=>?_)
  have ah:=a5.size
  have a6:=a2.trans a5
  have a0:=a1.ext (o1) a5
  refine FK (v:=vo) (a:=v5) Bo BQ Z Z Z a0 a6.size ad.rd1 sD (by unfold maxLen;first|omega|assumption|(simp;done)|(simp;omega)) Ac fun v6 w6 F6 a7 ae ai=>?_
  have aj:AB w w6:=a7.below a6 (fun c hc=>Aa (A9 _) (ae c hc).1) a6.size
  have ak:=a7.size
  have am:=ad.chg (o1) a7 fun c hc=>zH<|ae c hc
  refine Ae 1 Z<|Ad _ [0,0,0] Z<|Af 1 Z<|AG ((k+1:Nat):Int) Z Z (Bc oM sD) Ac<|Ae 1 Z ?_
  exact⟨(k+1,v6),_,rfl,zR,⟨aj,(by rw[DH 0 oM];exact ai.up o1),sD⟩,zD⟩
 exact Ay false Z Z (A8 ac) Ac<|Ai<|Aj Z<|A6<|At<|At<|An<|qC [0,0] Z<|Ae 2 Z<|A3<|Ah [4] Z vo Z ⟨vo,rfl,a2,(by have h:=a1.up o1;rwa [za oM]at h)⟩
theorem KR (w:World)(va:Value)(a:Sr)(n:Int)(ha:Rd (B3 rI) w.heap va a)(_hn:BI n)  :
  Calls Tryz.prog 73 #[va,zI n] w (fun e w'=>e=.returned (.bool (decide ((a.length:Int)=n) && B8 a))∧AB w w'):=by
 refine Au [va,zI n] 13 Tryz.func73 Z Z sM ?_
 have a0:AB w w:=AB.refl w
 have a5:=ha.lenle
 refine qD Z<|qC [0,0,0,0,0,0,3,0,0] Z<|Af 1 Z<|AL (v:=va) Bo Z ha.isSl Ac<|Af 1 Z ?_
 by_cases a2:(a.length:Int)=n
 ·refine Av true Z Z (A7 a2) Ac<|Af 2 Z<|As 157 [] [] [va] Z Z kV (Ak (e:=9) Z Z Z) (KQ _ _ _<|ha.ext g1 a0) ?_
  rintro e2 w2 ⟨rfl,a1⟩
  refine⟨_,rfl,a1,?_⟩
  have a3:=a1.size
  have a4:=a0.trans a1
  exact Ae 2 Z<|A3<|Ah [4] Z (.bool<|B8 a) Z ⟨AH (by simp[*]),a4⟩
 exact Av false Z Z (A8 a2) Ac<|Ae 5 Z<|A3<|Ah [4] Z (.bool false) Z ⟨AH (by simp[*]),a0⟩
theorem Nq (w:World)(n:Int)(_hn:BI n)  :
  Calls Tryz.prog 87 #[zI n] w (fun e w'=>e=.returned (.bool (decide (((0:Nat):Int)≤n) && decide (n≤((12:Nat):Int))))∧AB w w'):=by
 refine Au [zI n] 5 Tryz.func87 Z Z sM ?_
 have a0:AB w w:=AB.refl w
 exact qD Z<|qC [0,0,0] Z<|Af 1 Z<|AD 117 [] [] [zI n,zI ((0:Nat):Int),zI ((12:Nat):Int)] Z Z GQ Ac (.bool (decide (((0:Nat):Int)≤n) && decide (n≤((12:Nat):Int)))) (fun wq=>BN wq _ _ _ _hn oM oM)<|Ae 1 Z<|A3<|Ah [2] Z (.bool (decide (((0:Nat):Int)≤n) && decide (n≤((12:Nat):Int)))) Z ⟨rfl,a0⟩
theorem LU (w:World)(va:Value)(a:Sr)(o:Int)(ha:Rd (B3 rI) w.heap va a)(_ho:BI o)(hla:a.length≤1000000000000)(ho:0≤o∧o≤12) :
  Calls Tryz.prog 93 #[va,zI o] w (fun e w'=>∃v0:Value,e=.returned (v0)∧AB w w'∧Fr (AX (AX rI 2) 27) w.heap.size w'.heap.size w'.heap v0 (a.map (fun x=>(List.replicate (o.toNat+1) 0).set 0 x))):=by
 refine Au [va,zI o] 28 Tryz.func93 Z Z sM ?_
 have aa:AB w w:=AB.refl w
 have b1:=ha.lenle
 refine qD Z<|qC [3,0] Z (BU (AX rI 2) o1 Bm AV Ac fun v1 w1 a4 aj ab=>?_)
 have a5:=a4.size
 have ac:=aa.trans a4
 refine Ae 1 Z<|A0<|qC [0,0,0] Z<|Af 1 Z<|AL (v:=va) Bo Z ha.isSl Ac<|Ae 1 Z<|A5 ?_
 refine AR (S:=Nat×Value) (fun⟨k,vo⟩=>([(5,vo),(12,zI (k:Int)),(1,zI o),(10,va),(11,zI (a.length:Int))])) (fun⟨k,vo⟩ W=>AB w W∧Fr (AX (AX rI 2) 27) w.heap.size W.heap.size W.heap vo ((a.take k).map fun x=>(List.replicate (o.toNat+1) 0).set 0 x)∧k≤a.length) (fun⟨k,vo⟩=>a.length-k) (0,v1) ⟨rfl,rfl,rfl,rfl,rfl,trivial⟩ ⟨ac,ab.up o2,sD⟩ ?_
 clear aa ab aj a4 a5 ac
 rintro⟨k,vo⟩ ρ2 w2 ⟨a2,a1,ad⟩
 have ak:w.heap.size≤w2.heap.size:=a2.size
 refine qC [0] Z ?_
 by_cases ae:(k:Int)<(a.length:Int)
 ·refine Ay true Z Z (A7 ae) Ac<|Ai<|A0<|Ag Z<|A4<|A0<|A5<|qC [0,2,0] Z<|Aw (v:=va) k Bo BQ Z Z ha.isSl Z sD Ac ?_
  refine Al (p:=Ax va k 1) (.inr Z) (zI<|a.getD k 0) AN Z (AQ a2 (ha.getI sD).1) Ac<|Ae 1 Z<|qC [0,0,3,0] Z<|Af 1 Z<|AG ((o.toNat+1:Nat):Int) Z Z (Bc oM oM) Ac ?_
  refine FJ (n:=o.toNat+1) Bo BQ Z Z Z sD Ac fun v4 w4 a6 ay af=>?_
  have al:=a6.size
  have ag:=a2.trans a6
  have a0:=a1.ext (o2) a6
  refine Ae 1 Z<|qC [0,0,0,4] Z<|Af 2 Z<|Aw (v:=v4) 0 Bo BQ Z Z af.isSl Z sD Ac ?_
  refine ES (v:=v4) (w:=w4) HV Z Z (ha.getI sD).2 af sD Ac fun w5 F5 a7 az ah am=>?_
  have an:AB w w5:=a7.below ag (fun c hc=>Aa a2.size (ah c hc).1) ag.size
  have ao:=a7.size
  have ap:=a0.chg (o2) a7 fun c hc=>zH<|ah c hc
  refine Ai<|Ad _ [0,0,3,4,0] Z<|Af 2 Z (Bt (u:=v4) (B:=w2.heap.size) o1 Bm AV Z Z am (by first|exact A9 _|omega) Ac fun v7 w7 a8 b0 aq=>?_)
  have ar:=a8.size
  have a9:=an.trans a8
  have a3:=ap.ext (o2) a8
  refine DY o1 (v:=vo) (a:=v7) Bm AV Z Z Z a3 a9.size aq oM a2.size sD (by unfold maxLen;first|omega|assumption|(simp;done)|(simp;omega)) Ac fun v8 w8 F8 ai au av=>?_
  have aw:AB w w8:=ai.below a9 (fun c hc=>Aa (A9 _) (au c hc).1) a9.size
  have ax:=ai.size
  refine Ae 1 Z<|Ad _ [0,0] Z<|AG ((k+1:Nat):Int) Z Z (Bc oM sD) Ac<|Ae 1 Z ?_
  exact⟨(k+1,v8),_,rfl,zR,⟨aw,(by rw[DH 0 oM];exact av.up o2),sD⟩,zD⟩
 exact Ay false Z Z (A8 ae) Ac<|Ai<|A0<|Aj Z<|A6<|At<|At<|An<|qC [0,0] Z<|Ae 2 Z<|A3<|Ah [4] Z vo Z ⟨vo,rfl,a2,(by have h:=a1.up o2;rwa [za oM]at h)⟩
theorem E9 (w:World)(va:Value)(a:Sr)(y:Int)(ha:Rd (B3 rI) w.heap va a)(_hy:BI y)(hla:a.length≤1000000000000)(hqa:B8 a=true)(hy:0≤y∧y<1000003) :
  Calls Tryz.prog 187 #[va,zI y] w (fun e w'=>∃v0:Value,e=.returned (v0)∧AB w w'∧Fr (AX rI 2) w.heap.size w'.heap.size w'.heap v0 (CU a y)):=by
 refine Au [va,zI y] 27 Tryz.func187 Z Z sM ?_
 have a4:AB w w:=AB.refl w
 have ah:=ha.lenle
 refine qD Z<|qC [0,0,3,0] Z<|Af 1 Z<|AL (v:=va) Bo Z ha.isSl Ac (FJ (n:=a.length) Bo BQ Z Z Z sD Ac fun v1 w1 a2 aa a5=>?_)
 have a3:=a2.size
 have a6:=a4.trans a2
 refine Ae 1 Z<|A0<|qC [0,0,0] Z<|Af 1 Z<|AL (v:=va) Bo Z ha.isSl Ac<|Ae 1 Z<|A5 ?_
 refine AR (S:=Nat) (fun k=>([(12,zI (k:Int)),(0,va),(1,zI y),(5,v1),(11,zI (a.length:Int))])) (fun k W=>AB w W∧Fr (AX rI 2) w.heap.size W.heap.size W.heap v1 (CJ k (CU a y)<|List.replicate a.length 0)∧k≤a.length) (fun k=>a.length-k) 0 ⟨rfl,rfl,rfl,rfl,rfl,trivial⟩ ⟨a6,(by rw[D6];exact a5.up o1),sD⟩ ?_
 clear a4 a5 aa a2 a3 a6
 rintro k ρ2 w2 ⟨a1,a0,a7⟩
 have ab:w.heap.size≤w2.heap.size:=a1.size
 have hml:=Ey k (CU a y) (List.replicate a.length 0) sM
 rw[z5]at hml
 have hga:=Bk hqa k
 refine qC [0] Z ?_
 by_cases a8:(k:Int)<(a.length:Int)
 ·refine Ay true Z Z (A7 a8) Ac<|Ai<|A0<|Ag Z<|A4<|A0<|A5<|qC [0,0] Z<|Ae 2 Z<|Ad _ [0,0,0,0,0,2,0,0,0,0,4] Z<|Af 4 Z<|Aw (v:=va) k Bo BQ Z Z ha.isSl Z sD Ac ?_
  refine Al (p:=Ax va k 1) (.inr Z) (zI<|a.getD k 0) AN Z (AQ a1 (ha.getI sD).1) Ac<|Af 1 Z<|FR (wr ((a.getD k 0)*y)) Z Z Z Ac<|E5 (md (a.getD k 0*y)) Z Z (by decide) (Qe hga hy) Ac ?_
  refine Aw (v:=v1) k Bo BQ Z Z a0.isSl Z sD Ac (ES (v:=v1) (w:=w2) HV Z Z (E0 _) a0 sD Ac fun w4 F4 a9 ag ac ad=>?_)
  have ae:AB w w4:=a9.below a1 (fun c hc=>Aa (A9 _) (ac c hc).1) a1.size
  have af:=a9.size
  refine Ai<|Ad _ [0,0] Z<|AG ((k+1:Nat):Int) Z Z (Bc oM sD) Ac<|Ae 1 Z ?_
  exact⟨k+1,_,rfl,zR,⟨ae,(by unfold CU;rw[FY sM oM];exact ad.up o1),sD⟩,zD⟩
 exact Ay false Z Z (A8 a8) Ac<|Ai<|A0<|Aj Z<|A6<|At<|At<|An<|qC [0,0] Z<|Ae 2 Z<|A3<|Ah [4] Z v1 Z ⟨v1,rfl,a1,(by have h:=a0.up o1;rwa [DQ sM (by simp;omega)]at h)⟩
theorem Gc (w:World)(va:Value)(a:Sr)(vb:Value)(b:Sr)(ha:Rd (B3 rI) w.heap va a)(hb:Rd (B3 rI) w.heap vb b)(hla:a.length≤1000000000000)(hl:a.length≤b.length)(hqa:B8 a=true)(hqb:B8 b=true) :
  Calls Tryz.prog 185 #[va,vb] w (fun e w'=>∃v0:Value,e=.returned (v0)∧AB w w'∧Fr (AX rI 2) w.heap.size w'.heap.size w'.heap v0 (EA a b)):=by
 refine Au [va,vb] 30 Tryz.func185 Z Z sM ?_
 have a5:AB w w:=AB.refl w
 have ah:=ha.lenle
 have ai:=hb.lenle
 refine qD Z<|qC [0,0,3,0] Z<|Af 1 Z<|AL (v:=va) Bo Z ha.isSl Ac (FJ (n:=a.length) Bo BQ Z Z Z sD Ac fun v1 w1 a3 aa a6=>?_)
 have a4:=a3.size
 have a7:=a5.trans a3
 refine Ae 1 Z<|A0<|qC [0,0,0] Z<|Af 1 Z<|AL (v:=va) Bo Z ha.isSl Ac<|Ae 1 Z<|A5 ?_
 refine AR (S:=Nat) (fun k=>([(12,zI (k:Int)),(0,va),(1,vb),(5,v1),(11,zI (a.length:Int))])) (fun k W=>AB w W∧Fr (AX rI 2) w.heap.size W.heap.size W.heap v1 (CJ k (EA a b)<|List.replicate a.length 0)∧k≤a.length) (fun k=>a.length-k) 0 ⟨rfl,rfl,rfl,rfl,rfl,trivial⟩ ⟨a7,(by rw[D6];exact a6.up o1),sD⟩ ?_
 clear a5 a6 aa a3 a4 a7
 rintro k ρ2 w2 ⟨a1,a0,a8⟩
 have ab:w.heap.size≤w2.heap.size:=a1.size
 have hml:=Ey k (EA a b) (List.replicate a.length 0) sM
 rw[z5]at hml
 have hga:=Bk hqa k
 have hgb:=Bk hqb k
 refine qC [0] Z ?_
 by_cases a9:(k:Int)<(a.length:Int)
 ·refine Ay true Z Z (A7 a9) Ac<|Ai<|A0<|Ag Z<|A4<|A0<|A5<|qC [0,0] Z<|Ae 2 Z<|AS _ [0,0,0,0,0,1,0,0,0,1,0,0,0,4] mixed (by kernel_rfl)<|Af 4 Z<|Aw (v:=va) k Bo BQ Z Z ha.isSl Z sD Ac ?_
  refine Al (p:=Ax va k 1) (.inl Z) (zI<|a.getD k 0) AN Z (AQ a1.drew (ha.getI sD).1) Ac<|Af 2 Z ?_
  refine Aw (v:=vb) k Bo BQ Z Z hb.isSl Z sD Ac ?_
  refine Al (p:=Ax vb k 1) (.inl Z) (zI<|b.getD k 0) AN Z (AQ a1.drew (hb.getI sD).1) Ac<|AG (wr ((a.getD k 0)+(b.getD k 0))) Z Z Z Ac<|E5 (md (a.getD k 0+b.getD k 0)) Z Z (by decide) (Zh hga hgb) Ac ?_
  refine Aw (v:=v1) k Bo BQ Z Z a0.isSl Z sD Ac (ES (v:=v1) (w:=w2.drew) HV Z Z (E0 _) a0 sD Ac fun w4 F4 a2 ag ac ad=>?_)
  replace a2:=a2.of_drew
  have ae:AB w w4:=a2.below a1 (fun c hc=>Aa (A9 _) (ac c hc).1) a1.size
  have af:=a2.size
  refine Ai<|Ad _ [0,0] Z<|AG ((k+1:Nat):Int) Z Z (Bc oM sD) Ac<|Ae 1 Z ?_
  exact⟨k+1,_,rfl,zR,⟨ae,(by unfold EA;rw[FY sM oM];exact ad.up o1),sD⟩,zD⟩
 exact Ay false Z Z (A8 a9) Ac<|Ai<|A0<|Aj Z<|A6<|At<|At<|An<|qC [0,0] Z<|Ae 2 Z<|A3<|Ah [4] Z v1 Z ⟨v1,rfl,a1,(by have h:=a0.up o1;rwa [DQ sM (by simp;omega)]at h)⟩
theorem Gx (w:World)(va:Value)(a:Sr)(vb:Value)(b:Sr)(ha:Rd (B3 rI) w.heap va a)(hb:Rd (B3 rI) w.heap vb b)(hla:a.length≤1000000000000)(hlb:b.length≤1000000000000)(hl:a.length≤b.length)(hqa:B8 a=true)(hqb:B8 b=true) :
  Calls Tryz.prog 178 #[va,vb] w (fun e w'=>∃v0:Value,e=.returned (v0)∧AB w w'∧Fr (AX rI 2) w.heap.size w'.heap.size w'.heap v0 (DI a b)):=by
 refine Au [va,vb] 9 Tryz.func178 Z Z sM ?_
 have a7:AB w w:=AB.refl w
 have ab:=ha.lenle
 have ac:=hb.lenle
 refine qD Z<|qC [0,0,3,3,0] Z<|Af 2 Z<|As 187 [] [] [vb,zI ((1000002:Nat):Int)] Z Z R0 Ac (E9 _ _ _ _ (hb.ext g1 a7) oM hlb hqb oM) ?_
 rintro e1 w1 ⟨a3,rfl,a4,a0⟩
 refine⟨_,rfl,a4,?_⟩
 have a8:=a4.size
 have a5:=a7.trans a4
 refine As 185 [] [] [va,a3] Z Z TP Ac (Gc _ _ _ _ _ (ha.ext g1 a5) a0.rd1 hla (by simp;omega) hqa (by exact FE _ _)) ?_
 rintro e2 w2 ⟨a1,rfl,a6,a2⟩
 refine⟨_,rfl,a6,?_⟩
 have a9:=a6.size
 have aa:=a5.trans a6
 exact Ae 1 Z<|A3<|Ah [4] Z a1 Z ⟨a1,rfl,aa,(by rw[← Vr hl];exact(a2.up o1).low a5.size)⟩
theorem DL (w:World)(va:Value)(a:Sr)(vb:Value)(b:Sr)(ha:Rd (B3 rI) w.heap va a)(hb:Rd (B3 rI) w.heap vb b)(hla:a.length≤1000000000000)(hl:a.length≤b.length)(hqa:B8 a=true)(hqb:B8 b=true) :
  Calls Tryz.prog 179 #[va,vb] w (fun e w'=>∃v0:Value,e=.returned (v0)∧AB w w'∧Fr (AX rI 2) w.heap.size w'.heap.size w'.heap v0 (Ch a b)):=by
 refine Au [va,vb] 43 Tryz.func179 Z Z sM ?_
 have a8:AB w w:=AB.refl w
 have am:=ha.lenle
 have an:=hb.lenle
 refine qD Z<|qC [0,0,3,0] Z<|Af 1 Z<|AL (v:=va) Bo Z ha.isSl Ac (FJ (n:=a.length) Bo BQ Z Z Z sD Ac fun v1 w1 a5 af a9=>?_)
 have a6:=a5.size
 have aa:=a8.trans a5
 refine Ae 1 Z<|A0<|qC [0,0,0] Z<|Af 1 Z<|AL (v:=va) Bo Z ha.isSl Ac<|Ae 1 Z<|A5 ?_
 refine AR (S:=Nat) (fun k=>([(13,zI (k:Int)),(0,va),(1,vb),(5,v1),(12,zI (a.length:Int))])) (fun k W=>AB w W∧Fr (AX rI 2) w.heap.size W.heap.size W.heap v1 (CJ k (Ch a b)<|List.replicate a.length 0)∧k≤a.length) (fun k=>a.length-k) 0 ⟨rfl,rfl,rfl,rfl,rfl,trivial⟩ ⟨aa,(by rw[D6];exact a9.up o1),sD⟩ ?_
 clear a8 a9 af a5 a6 aa
 rintro k ρ2 w2 ⟨a3,a1,ab⟩
 have a7:w.heap.size≤w2.heap.size:=a3.size
 have hml:=Ey k (Ch a b) (List.replicate a.length 0) sM
 rw[z5]at hml
 have hga:=Bk hqa k
 refine qC [0] Z ?_
 by_cases ac:(k:Int)<(a.length:Int)
 ·refine Ay true Z Z (A7 ac) Ac<|Ai<|A0<|Ag Z<|A4<|A0<|A5<|qC [0,0] Z<|Ae 2 Z<|qD Z<|A5 ?_
  refine AR (S:=Nat) (fun i=>([(7,zI (i:Int)),(0,va),(1,vb),(5,v1),(6,zI (k:Int)),(12,zI (a.length:Int)),(13,zI (k:Int))])) (fun i W=>AB w W∧Fr (AX rI 2) w.heap.size W.heap.size W.heap v1 ((CJ k (Ch a b)<|List.replicate a.length 0).set k<|NU a b k i)∧i≤k+1) (fun i=>k+1-i) 0 ⟨rfl,rfl,rfl,rfl,rfl,rfl,rfl,trivial⟩ ⟨a3,(by have h:=a1.up o1;rw[← Vs (T:=Ch a b) sM oM]at h;exact h),sD⟩ ?_
  clear a1 a3 a7
  rintro i ρ4 w4 ⟨a2,a0,ad⟩
  have ag:w.heap.size≤w4.heap.size:=a2.size
  have hms:((CJ k (Ch a b) (List.replicate a.length 0)).set k (NU a b k i)).length=a.length:=by rw[z6];exact hml
  refine A0<|qC [0,0,0] Z<|Af 2 Z ?_
  by_cases ae:(i:Int)≤(k:Int)
  ·refine DE true Z Z (A7 ae) Ac<|Ai<|Ag Z<|A4<|A0<|A5<|AS _ [0,0,0,0,0,1,0,0,0,1,0,0,0,0,0,1,0,0,0,0,4] mixed (by kernel_rfl)<|Af 4 Z<|Aw (v:=v1) k Bo BQ Z Z a0.isSl Z sD Ac ?_
   refine Al (p:=Ax v1 k 1) (.inl Z) (zI<|((CJ k (Ch a b)<|List.replicate a.length 0).set k<|NU a b k i).getD k 0) AN Z (a0.rd1.getI sD).1 Ac (Af 2 Z ?_)
   refine Aw (v:=va) i Bo BQ Z Z ha.isSl Z sD Ac ?_
   refine Al (p:=Ax va i 1) (.inl Z) (zI<|a.getD i 0) AN Z (AQ a2.drew (ha.getI sD).1) Ac<|Af 3 Z<|Cb ((k-i:Nat):Int) Z Z (Bc oM oM) Ac ?_
   refine Aw (v:=vb) (k-i) Bo BQ Z Z hb.isSl Z sD Ac ?_
   refine Al (p:=Ax vb (k-i) 1) (.inl Z) (zI<|b.getD (k-i) 0) AN Z (AQ a2.drew (hb.getI sD).1) Ac<|FR (wr ((a.getD i 0)*(b.getD (k-i) 0))) Z Z Z Ac<|AG (wr ((((CJ k (Ch a b)<|List.replicate a.length 0).set k<|NU a b k i).getD k 0)+(wr ((a.getD i 0)*(b.getD (k-i) 0))))) Z Z Z Ac ?_
   refine E5 (md (NU a b k i+a.getD i 0*b.getD (k-i) 0)) Z Z (by decide) (by rw[BJ _ _ _ _ _ oM,if_pos rfl];exact fb (SI _ _ _ _) (Bk hqa _) (Bk hqb _)) Ac<|Aw (v:=v1) k Bo BQ Z Z a0.isSl Z sD Ac ?_
   refine ES (v:=v1) (w:=w4.drew) HV Z Z (E0 _) a0 sD Ac fun w6 F6 a4 al ah ai=>?_
   replace a4:=a4.of_drew
   have aj:AB w w6:=a4.below a2 (fun c hc=>Aa (A9 _) (ah c hc).1) a2.size
   have ak:=a4.size
   refine Ai<|Ad _ [0,0,0] Z<|Af 1 Z<|AG ((i+1:Nat):Int) Z Z (Bc oM sD) Ac<|Ae 1 Z ?_
   exact⟨i+1,_,rfl,zR,⟨aj,(by have h:=ai.up o1;rw[List.set_set]at h;exact h),sD⟩,zD⟩
  refine DE false Z Z (A8 ae) Ac<|Ai<|Aj Z<|A6<|At<|At<|An<|Ad _ [0,0] Z<|AG ((k+1:Nat):Int) Z Z (Bc oM sD) Ac<|Ae 1 Z ?_
  exact⟨k+1,_,rfl,zR,⟨a2,(by have h:=a0.up o1;rw[show i=k+1 from by omega]at h;unfold Ch;rw[FY sM oM];exact h),sD⟩,zD⟩
 exact Ay false Z Z (A8 ac) Ac<|Ai<|A0<|Aj Z<|A6<|At<|At<|An<|qC [0,0] Z<|Ae 2 Z<|A3<|Ah [4] Z v1 Z ⟨v1,rfl,a3,(by have h:=a1.up o1;rwa [DQ sM (by simp;omega)]at h)⟩
theorem FP (w:World)(va:Value)(a:Sr)(vb:Value)(b:Sr)(ha:Rd (B3 rI) w.heap va a)(hb:Rd (B3 rI) w.heap vb b)(hla:a.length≤1000000000000)(hl:a.length≤b.length)(h1:0<b.length)(hqa:B8 a=true)(hqb:B8 b=true) :
  Calls Tryz.prog 177 #[va,vb] w (fun e w'=>∃v0:Value,e=.returned (v0)∧AB w w'∧Fr (AX rI 2) w.heap.size w'.heap.size w'.heap v0 (C7 a b)):=by
 refine Au [va,vb] 53 Tryz.func177 Z Z sM ?_
 have a5:AB w w:=AB.refl w
 have am:=ha.lenle
 have an:=hb.lenle
 refine qD Z<|A0<|AS _ [0,0,3,0,0,1,0,0,0] mixed (by kernel_rfl)<|Af 1 Z<|AL (v:=va) Bo Z ha.isSl Ac (FJ (n:=a.length) Bo BQ Z Z Z sD Ac fun v1 w1 a2 ae a7=>?_)
 replace a2:=a2.of_drew
 have a6:=a2.size
 have a8:=a5.trans a2
 refine Af 1 Z<|Aw (v:=vb) 0 Bo BQ Z Z hb.isSl Z sD Ac ?_
 refine Al (p:=Ax vb 0 1) (.inl Z) (zI<|b.getD 0 0) AN Z (AQ a5.drew (hb.getI sD).1) Ac ?_
 refine AD 226 [] [] [zI<|b.getD 0 0] Z Z dO Ac (zI<|inv<|b.getD 0 0) (fun wq=>IJ wq _ (hb.getI sD).2)<|Ae 2 Z<|A0<|qC [0,0,0] Z<|Af 1 Z<|AL (v:=va) Bo Z ha.isSl Ac<|Ae 1 Z<|A5 ?_
 refine AR (S:=Nat) (fun k=>([(19,zI (k:Int)),(0,va),(1,vb),(5,v1),(6,zI<|inv<|b.getD 0 0),(18,zI (a.length:Int))])) (fun k W=>AB w W∧Fr (AX rI 2) w.heap.size W.heap.size W.heap v1 (CJ k (C7 a b)<|List.replicate a.length 0)∧k≤a.length) (fun k=>a.length-k) 0 ⟨rfl,rfl,rfl,rfl,rfl,rfl,trivial⟩ ⟨a8,(by rw[D6];exact a7.up o1),sD⟩ ?_
 clear a5 a7 ae a2 a6 a8
 rintro k ρ3 w3 ⟨a4,a1,a9⟩
 have af:w.heap.size≤w3.heap.size:=a4.size
 have hml:=Ey k (C7 a b) (List.replicate a.length 0) sM
 rw[z5]at hml
 have hga:=Bk hqa k
 refine qC [0] Z ?_
 by_cases aa:(k:Int)<(a.length:Int)
 ·refine Ay true Z Z (A7 aa) Ac<|Ai<|A0<|Ag Z<|A4<|A0<|A5<|qC [0,0] Z<|Ae 2 Z<|qC [0,0,0,2,0] Z<|Af 2 Z<|Aw (v:=va) k Bo BQ Z Z ha.isSl Z sD Ac ?_
  refine Al (p:=Ax va k 1) (.inr Z) (zI<|a.getD k 0) AN Z (AQ a4 (ha.getI sD).1) Ac<|Ae 1 Z<|A0<|qD Z<|A5 ?_
  refine AR (S:=Nat×Int) (fun⟨i,t⟩=>([(8,zI t),(9,zI (i:Int)),(0,va),(1,vb),(5,v1),(6,zI<|inv<|b.getD 0 0),(7,zI (k:Int)),(18,zI (a.length:Int)),(19,zI (k:Int))])) (fun⟨i,t⟩ W=>AB w W∧Fr (AX rI 2) w.heap.size w3.heap.size W.heap v1 (CJ k (C7 a b)<|List.replicate a.length 0)∧i≤k∧t=P4 a b (C7 a b) k i∧(0≤t∧t<1000003)) (fun⟨i,t⟩=>k-i) (0,a.getD k 0) ⟨rfl,rfl,rfl,rfl,rfl,rfl,rfl,rfl,rfl,trivial⟩ ⟨a4,a1,sD,(by rfl),(by exact Bk hqa k)⟩ ?_
  clear a1
  rintro⟨i,t⟩ ρ5 w5 ⟨a3,a0,ab,ht,htr⟩
  have ag:w.heap.size≤w5.heap.size:=a3.size
  refine A0<|qC [0,0,0] Z<|Af 2 Z ?_
  by_cases ac:(i:Int)<(k:Int)
  ·refine Ay true Z Z (A7 ac) Ac<|Ai<|Ag Z<|A4<|A0<|A5<|AS _ [0,0,0,0,1,0,0,0,0,0,1,0,0,0] mixed (by kernel_rfl)<|Af 3 Z<|Aw (v:=v1) i Bo BQ Z Z a0.isSl Z sD Ac ?_
   refine Al (p:=Ax v1 i 1) (.inl Z) (zI<|(CJ k (C7 a b)<|List.replicate a.length 0).getD i 0) AN Z (a0.rd1.getI sD).1 Ac (Af 3 Z<|Cb ((k-i:Nat):Int) Z Z (Bc oM oM) Ac ?_)
   refine Aw (v:=vb) (k-i) Bo BQ Z Z hb.isSl Z sD Ac ?_
   refine Al (p:=Ax vb (k-i) 1) (.inl Z) (zI<|b.getD (k-i) 0) AN Z (AQ a3.drew (hb.getI sD).1) Ac<|FR (wr (((CJ k (C7 a b)<|List.replicate a.length 0).getD i 0)*(b.getD (k-i) 0))) Z Z Z Ac ?_
   refine AD 191 [] [] [zI t,zI<|wr (((CJ k (C7 a b)<|List.replicate a.length 0).getD i 0)*(b.getD (k-i) 0))] Z Z Yk Ac (zI<|md (t-(wr (((CJ k (C7 a b)<|List.replicate a.length 0).getD i 0)*(b.getD (k-i) 0))))) (fun wq=>HW wq _ _ oM<|ON _)<|Ae 1 Z<|Ad _ [0,0,0] Z<|Af 1 Z<|AG ((i+1:Nat):Int) Z Z (Bc oM sD) Ac<|Ae 1 Z ?_
   exact⟨(i+1,md (t-(wr (((CJ k (C7 a b) (List.replicate a.length 0)).getD i 0)*(b.getD (k-i) 0))))),_,rfl,zR,⟨a3.drew,a0,sD,(by rw[ht,Ri 0 oM (by simp;omega)];exact Vt (Ez a b) hqb),(by exact BT _)⟩,zD⟩
  refine Ay false Z Z (A8 ac) Ac<|Ai<|Aj Z<|A6<|At<|At<|An<|Ad _ [0,0,0,0,0,0,0,4] Z<|Af 4 Z<|FR (wr (t*(inv<|b.getD 0 0))) Z Z Z Ac<|E5 (md (t*inv (b.getD 0 0))) Z Z (by decide) (Qe htr<|Zd _) Ac<|Aw (v:=v1) k Bo BQ Z Z a0.isSl Z sD Ac ?_
  refine ES (v:=v1) (w:=w5) HV Z Z (E0 _) a0 sD Ac fun w8 F8 ad al ah ai=>?_
  have aj:AB w w8:=ad.below a3 (fun c hc=>Aa (A9 _) (ah c hc).1) a3.size
  have ak:=ad.size
  refine Ai<|Ad _ [0,0] Z<|AG ((k+1:Nat):Int) Z Z (Bc oM sD) Ac<|Ae 1 Z ?_
  exact⟨k+1,_,rfl,zR,⟨aj,(by have h:=ai.up o1;rw[ht,show i=k from by omega]at h;rw[← Zg oM sM];exact h),sD⟩,zD⟩
 exact Ay false Z Z (A8 aa) Ac<|Ai<|A0<|Aj Z<|A6<|At<|At<|An<|qC [0,0] Z<|Ae 2 Z<|A3<|Ah [4] Z v1 Z ⟨v1,rfl,a4,(by have h:=a1.up o1;rwa [DQ sM (by simp;omega)]at h)⟩
theorem Nr (w:World)(va:Value)(a:Sr)(ha:Rd (B3 rI) w.heap va a)(hla:a.length≤1000000000000) :
  Calls Tryz.prog 89 #[va] w (fun e w'=>∃v0:Value,e=.returned (v0)∧AB w w'∧Fr (AX (AX rI 2) 27) w.heap.size w'.heap.size w'.heap v0 (Cc a)):=by
 refine Au [va] 20 Tryz.func89 Z Z sM ?_
 have a9:AB w w:=AB.refl w
 have au:=ha.lenle
 refine qD Z<|qC [3,0] Z (BU (AX rI 2) o1 Bm AV Ac fun v1 w1 a4 af aa=>?_)
 have a5:=a4.size
 have ab:=a9.trans a4
 refine Ae 1 Z<|A0<|qC [0,0,0] Z<|Af 1 Z<|AL (v:=va) Bo Z ha.isSl Ac<|Ae 1 Z<|A5 ?_
 refine AR (S:=Nat×Value) (fun⟨k,vo⟩=>([(3,vo),(9,zI (k:Int)),(7,va),(8,zI (a.length:Int))])) (fun⟨k,vo⟩ W=>AB w W∧Fr (AX (AX rI 2) 27) w.heap.size W.heap.size W.heap vo ((a.take k).map fun x=>[x])∧k≤a.length) (fun⟨k,vo⟩=>a.length-k) (0,v1) ⟨rfl,rfl,rfl,rfl,trivial⟩ ⟨ab,aa.up o2,sD⟩ ?_
 clear a9 aa af a4 a5 ab
 rintro⟨k,vo⟩ ρ2 w2 ⟨a3,a2,ac⟩
 have ag:w.heap.size≤w2.heap.size:=a3.size
 refine qC [0] Z ?_
 by_cases ad:(k:Int)<(a.length:Int)
 ·refine Ay true Z Z (A7 ad) Ac<|Ai<|A0<|Ag Z<|A4<|A0<|A5<|qC [0,2,0] Z<|Aw (v:=va) k Bo BQ Z Z ha.isSl Z sD Ac ?_
  refine Al (p:=Ax va k 1) (.inr Z) (zI<|a.getD k 0) AN Z (AQ a3 (ha.getI sD).1) Ac<|Ae 1 Z<|Ad _ [0,0,3,3,4,0] Z<|Af 2 Z ?_
  refine Bt (u:=zI<|a.getD k 0) (B:=w2.heap.size) AT Bo BQ Z Z (Mz w2.heap.size w2.heap.size _ _ (ha.getI sD).2) (A9 _) Ac fun v4 w4 a6 aq ah=>?_
  have ai:=a6.size
  have aj:=a3.trans a6
  have a0:=a2.ext (o2) a6
  refine Bt (u:=v4) (B:=w2.heap.size) o1 Bm AV Z Z ah (by first|exact A9 _|omega) Ac fun v5 w5 a7 ar ak=>?_
  have al:=a7.size
  have a8:=aj.trans a7
  have a1:=a0.ext (o2) a7
  refine DY o1 (v:=vo) (a:=v5) Bm AV Z Z Z a1 a8.size ak oM a3.size sD (by unfold maxLen;first|omega|assumption|(simp;done)|(simp;omega)) Ac fun v6 w6 F6 ae am an=>?_
  have ao:AB w w6:=ae.below a8 (fun c hc=>Aa (A9 _) (am c hc).1) a8.size
  have ap:=ae.size
  refine Ae 1 Z<|Ad _ [0,0] Z<|AG ((k+1:Nat):Int) Z Z (Bc oM sD) Ac<|Ae 1 Z ?_
  exact⟨(k+1,v6),_,rfl,zR,⟨ao,(by rw[DH 0 oM];exact an.up o2),sD⟩,zD⟩
 exact Ay false Z Z (A8 ad) Ac<|Ai<|A0<|Aj Z<|A6<|At<|At<|An<|qC [0,0] Z<|Ae 2 Z<|A3<|Ah [2] Z vo Z ⟨vo,rfl,a3,(by have h:=a2.up o2;rwa [za oM]at h)⟩
theorem Jy (w:World)(va:Value)(a:List (Sr))(ha:Rd (B3 (B3 rI)) w.heap va a)(hla:a.length≤1000000000000)(h1:∀k,k<a.length→0<(a.getD k []).length) :
  Calls Tryz.prog 106 #[va] w (fun e w'=>∃v0:Value,e=.returned (v0)∧AB w w'∧Fr (AX rI 2) w.heap.size w'.heap.size w'.heap v0 (a.map (fun s=>s.getD 0 0))):=by
 refine Au [va] 21 Tryz.func106 Z Z sM ?_
 have aa:AB w w:=AB.refl w
 have au:=ha.lenle
 refine qD Z<|qC [3,0] Z (BU (rI) AT Bo BQ Ac fun v1 w1 a4 ah ab=>?_)
 have a5:=a4.size
 have ac:=aa.trans a4
 refine Ae 1 Z<|A0<|qC [0,0,0] Z<|Af 1 Z<|AL (v:=va) Bm Z ha.isSl Ac<|Ae 1 Z<|A5 ?_
 refine AR (S:=Nat×Value) (fun⟨k,vo⟩=>([(3,vo),(9,zI (k:Int)),(7,va),(8,zI (a.length:Int))])) (fun⟨k,vo⟩ W=>AB w W∧Fr (AX rI 2) w.heap.size W.heap.size W.heap vo ((a.take k).map fun s=>s.getD 0 0)∧k≤a.length) (fun⟨k,vo⟩=>a.length-k) (0,v1) ⟨rfl,rfl,rfl,rfl,trivial⟩ ⟨ac,ab.up o1,sD⟩ ?_
 clear aa ab ah a4 a5 ac
 rintro⟨k,vo⟩ ρ2 w2 ⟨a2,a1,ad⟩
 have ai:w.heap.size≤w2.heap.size:=a2.size
 refine qC [0] Z ?_
 by_cases ae:(k:Int)<(a.length:Int)
 ·refine Ay true Z Z (A7 ae) Ac<|Ai<|A0<|Ag Z<|A4<|A0<|A5<|qC [0,2,0] Z<|Aw (v:=va) k Bm AV Z Z ha.isSl Z sD Ac ?_
  obtain⟨a6,aj,a3⟩:=ha.get (k:=k) [] sD
  have ak:=a3.lenle
  refine Al (p:=Ax va k 1) (.inr Z) a6 B7 Z (AQ a2 aj) Ac<|Ae 1 Z<|Ad _ [0,0,0,2,3,4,0] Z ?_
  have ap:=h1 k oM
  refine Af 2 Z<|Aw (v:=a6) 0 Bo BQ Z Z a3.isSl Z sD Ac ?_
  refine Al (p:=Ax a6 0 1) (.inr Z) (zI<|(a.getD k []).getD 0 0) AN Z (AQ a2 (a3.getI sD).1) Ac ?_
  refine Bt (u:=zI<|(a.getD k []).getD 0 0) (B:=w2.heap.size) AT Bo BQ Z Z (Mz w2.heap.size w2.heap.size _ _ (a3.getI sD).2) (A9 _) Ac fun v5 w5 a7 aq af=>?_
  have al:=a7.size
  have a8:=a2.trans a7
  have a0:=a1.ext (o1) a7
  refine FK (v:=vo) (a:=v5) Bo BQ Z Z Z a0 a8.size af.rd1 sD (by unfold maxLen;first|omega|assumption|(simp;done)|(simp;omega)) Ac fun v6 w6 F6 a9 ag am=>?_
  have an:AB w w6:=a9.below a8 (fun c hc=>Aa (A9 _) (ag c hc).1) a8.size
  have ao:=a9.size
  have ar:=af.chg (o1) a9 fun c hc=>zH<|ag c hc
  refine Ae 1 Z<|Ad _ [0,0] Z<|AG ((k+1:Nat):Int) Z Z (Bc oM sD) Ac<|Ae 1 Z ?_
  exact⟨(k+1,v6),_,rfl,zR,⟨an,(by rw[DH [] oM];exact am.up o1),sD⟩,zD⟩
 exact Ay false Z Z (A8 ae) Ac<|Ai<|A0<|Aj Z<|A6<|At<|At<|An<|qC [0,0] Z<|Ae 2 Z<|A3<|Ah [2] Z vo Z ⟨vo,rfl,a2,(by have h:=a1.up o1;rwa [za oM]at h)⟩
theorem Ie (w:World)(dex:Nat)(ve:Value)(ex:Ex)(hex:RX [] dex w.heap ve ex)(hs:ex.size≤1000000000) :
  Calls Tryz.prog 206 #[(.agg #[(zI ex.kind),(zI ex.num),(zI ex.pick),(zI ex.count),ve])] w (fun e w'=>e=.returned (zI (ex.size:Int))∧AB w w'):=by
 induction dex using Nat.strongRecOn generalizing w ve ex
 rename_i dex ih
 refine Au [.agg #[zI ex.kind,zI ex.num,zI ex.pick,zI ex.count,ve]] 19 Tryz.func206 Z Z sM ?_
 have ab:AB w w:=AB.refl w
 have aw:=hex.rn.lenle
 unfold maxLen at aw
 have hsk:=CS ex
 refine qC [3,0] Z (C9 (cs:=#[zI ex.kind,zI ex.num,zI ex.pick,zI ex.count,ve]) Z Ac fun w1 a2 aj a3=>?_)
 have a4:=a2.size
 have ac:=ab.trans a2
 replace a3:BX w1.heap w.heap.size [zI ex.kind,zI ex.num,zI ex.pick,zI ex.count,ve]:=a3
 refine Ae 1 Z<|qD Z<|A0<|qC [0,2,0,0] Z<|Ap (p:=zP w.heap.size) 4 Br Z Z Ac<|Al (p:=AA (zP w.heap.size) 4) (.inr Z) ve BA Z (a3.ldp (i:=4) sM) Ac<|AL (v:=ve) DD Z hex.rn.isSl Ac<|Ae 1 Z<|A5 ?_
 refine AR (S:=Nat×Nat) (fun⟨k,sz⟩=>([(3,zI (sz:Int)),(9,zI (k:Int)),(7,ve),(8,zI (ex.kids.length:Int))])) (fun⟨k,sz⟩ W=>AB w W∧k≤ex.kids.length∧sz=1+Ex.sizes (ex.kids.take k)) (fun⟨k,sz⟩=>ex.kids.length-k) (0,1) ⟨rfl,rfl,rfl,rfl,trivial⟩ ⟨ac,sD,(by rw[List.take_zero,Of])⟩ ?_
 clear ab aj a2 a4 ac
 rintro⟨k,sz⟩ ρ2 w2 ⟨a1,ad,hsz⟩
 have ak:w.heap.size≤w2.heap.size:=a1.size
 refine qC [0] Z ?_
 by_cases ae:(k:Int)<(ex.kids.length:Int)
 ·refine Ay true Z Z (A7 ae) Ac<|Ai<|A0<|Ag Z<|A4<|A0<|A5<|qC [0,2,3,4] Z ?_
  have hst:=Eg (l:=ex.kids) (k:=k) oM
  have hle:=DG ex.kids (k+1)
  have hdt:=HI (l:=ex.kids) (k:=k) oM
  have hda:=EV<|ex.kids.getD k Ex.zero
  refine Aw (v:=ve) k DD BC Z Z hex.rn.isSl Z sD Ac ?_
  obtain⟨cs4,al,am⟩:=hex.rn.get (AI dex) Ex.zero (k:=k) sD
  obtain⟨dd4,a0,ar,rfl,a5⟩:=RX.of al
  have a6:=a5.rn.lenle
  unfold maxLen at a6
  refine B2 (p:=Ax ve k 5) (.inr Z) [zI<|(ex.kids.getD k Ex.zero).kind,zI<|(ex.kids.getD k Ex.zero).num,zI<|(ex.kids.getD k Ex.zero).pick,zI<|(ex.kids.getD k Ex.zero).count,a0] Bh Z (fun ax a7=>am ax<|Az.of_ext []<|a1.trans a7) Z Ac (Bv (z:=.agg #[zI 0,zI 0,zI 0,zI 0,zN]) GS Ac fun w5 af au a8=>?_)
  have an:=af.size
  have ag:=a1.trans af
  replace a8:BX w5.heap w2.heap.size [zI 0,zI 0,zI 0,zI 0,zN]:=a8
  refine BR (vs:=[zI<|(ex.kids.getD k Ex.zero).kind,zI<|(ex.kids.getD k Ex.zero).num,zI<|(ex.kids.getD k Ex.zero).pick,zI<|(ex.kids.getD k Ex.zero).count,a0]) Bh Z Z a5.ones a8 Z Z Ac fun w6 ah av a9=>?_
  replace a9:BX w6.heap w2.heap.size [zI ((ex.kids.getD k Ex.zero).kind),zI ((ex.kids.getD k Ex.zero).num),zI ((ex.kids.getD k Ex.zero).pick),zI ((ex.kids.getD k Ex.zero).count),a0]:=a9
  have ai:AB w w6:=ah.below ag (fun _ h=>zE h) ag.size
  have ao:=ah.size
  refine Ai<|Ad _ [0,2,3,0,0] Z<|Af 1 Z<|B2 (p:=zP w2.heap.size) (.inr Z) [zI<|(ex.kids.getD k Ex.zero).kind,zI<|(ex.kids.getD k Ex.zero).num,zI<|(ex.kids.getD k Ex.zero).pick,zI<|(ex.kids.getD k Ex.zero).count,a0] Bh Z (fun ax a7=>LD.of_box<|BX.ext (w:=w6) a9 a7) Z Ac<|As 206 [] [] [.agg #[zI<|(ex.kids.getD k Ex.zero).kind,zI<|(ex.kids.getD k Ex.zero).num,zI<|(ex.kids.getD k Ex.zero).pick,zI<|(ex.kids.getD k Ex.zero).count,a0]] Z Z Yl Ac (ih dd4 oM _ a0 (ex.kids.getD k Ex.zero) (a5.ext ai) oM) ?_
  rintro e7 w7 ⟨rfl,aa⟩
  refine⟨_,rfl,aa,?_⟩
  have ap:=aa.size
  have aq:=ai.trans aa
  refine AG ((sz+(ex.kids.getD k Ex.zero).size:Nat):Int) Z Z (Bc oM oM) Ac<|Ae 1 Z<|Ad _ [0,0] Z<|AG ((k+1:Nat):Int) Z Z (Bc oM sD) Ac<|Ae 1 Z ?_
  exact⟨(k+1,sz+(ex.kids.getD k Ex.zero).size),_,rfl,zR,⟨aq,sD,oM⟩,zD⟩
 exact Ay false Z Z (A8 ae) Ac<|Ai<|A0<|Aj Z<|A6<|At<|At<|An<|qC [0,0] Z<|Ae 2 Z<|A3<|Ah [2] Z (zI (sz:Int)) Z ⟨B5 (by rw[hsz,Oh oM,hsk]),a1⟩
theorem Lv (w:World)(dex:Nat)(ve:Value)(ex:Ex)(hex:RX [] dex w.heap ve ex)(hs:ex.size≤1000000000) :
  Calls Tryz.prog 236 #[(.agg #[(zI ex.kind),(zI ex.num),(zI ex.pick),(zI ex.count),ve])] w (fun e w'=>e=.returned (zI (ex.deep:Int))∧AB w w'):=by
 induction dex using Nat.strongRecOn generalizing w ve ex
 rename_i dex ih
 refine Au [.agg #[zI ex.kind,zI ex.num,zI ex.pick,zI ex.count,ve]] 20 Tryz.func236 Z Z sM ?_
 have ab:AB w w:=AB.refl w
 have aw:=hex.rn.lenle
 unfold maxLen at aw
 have hsk:=CS ex
 have hdk:=EU ex
 refine qC [3,0] Z (C9 (cs:=#[zI ex.kind,zI ex.num,zI ex.pick,zI ex.count,ve]) Z Ac fun w1 a2 aj a3=>?_)
 have a4:=a2.size
 have ac:=ab.trans a2
 replace a3:BX w1.heap w.heap.size [zI ex.kind,zI ex.num,zI ex.pick,zI ex.count,ve]:=a3
 refine Ae 1 Z<|qD Z<|A0<|qC [0,2,0,0] Z<|Ap (p:=zP w.heap.size) 4 Br Z Z Ac<|Al (p:=AA (zP w.heap.size) 4) (.inr Z) ve BA Z (a3.ldp (i:=4) sM) Ac<|AL (v:=ve) DD Z hex.rn.isSl Ac<|Ae 1 Z<|A5 ?_
 refine AR (S:=Nat×Nat) (fun⟨k,sz⟩=>([(3,zI (sz:Int)),(9,zI (k:Int)),(7,ve),(8,zI (ex.kids.length:Int))])) (fun⟨k,sz⟩ W=>AB w W∧k≤ex.kids.length∧sz=Ex.deeps (ex.kids.take k)) (fun⟨k,sz⟩=>ex.kids.length-k) (0,0) ⟨rfl,rfl,rfl,rfl,trivial⟩ ⟨ac,sD,(by rw[List.take_zero,Og])⟩ ?_
 clear ab aj a2 a4 ac
 rintro⟨k,sz⟩ ρ2 w2 ⟨a1,ad,hsz⟩
 have ak:w.heap.size≤w2.heap.size:=a1.size
 refine qC [0] Z ?_
 by_cases ae:(k:Int)<(ex.kids.length:Int)
 ·refine Ay true Z Z (A7 ae) Ac<|Ai<|A0<|Ag Z<|A4<|A0<|A5<|qC [0,2,3,4] Z ?_
  have hst:=Eg (l:=ex.kids) (k:=k) oM
  have hle:=DG ex.kids (k+1)
  have hdt:=HI (l:=ex.kids) (k:=k) oM
  have hda:=EV<|ex.kids.getD k Ex.zero
  refine Aw (v:=ve) k DD BC Z Z hex.rn.isSl Z sD Ac ?_
  obtain⟨cs4,al,am⟩:=hex.rn.get (AI dex) Ex.zero (k:=k) sD
  obtain⟨dd4,a0,ar,rfl,a5⟩:=RX.of al
  have a6:=a5.rn.lenle
  unfold maxLen at a6
  refine B2 (p:=Ax ve k 5) (.inr Z) [zI<|(ex.kids.getD k Ex.zero).kind,zI<|(ex.kids.getD k Ex.zero).num,zI<|(ex.kids.getD k Ex.zero).pick,zI<|(ex.kids.getD k Ex.zero).count,a0] Bh Z (fun ax a7=>am ax<|Az.of_ext []<|a1.trans a7) Z Ac (Bv (z:=.agg #[zI 0,zI 0,zI 0,zI 0,zN]) GS Ac fun w5 af au a8=>?_)
  have an:=af.size
  have ag:=a1.trans af
  replace a8:BX w5.heap w2.heap.size [zI 0,zI 0,zI 0,zI 0,zN]:=a8
  refine BR (vs:=[zI<|(ex.kids.getD k Ex.zero).kind,zI<|(ex.kids.getD k Ex.zero).num,zI<|(ex.kids.getD k Ex.zero).pick,zI<|(ex.kids.getD k Ex.zero).count,a0]) Bh Z Z a5.ones a8 Z Z Ac fun w6 ah av a9=>?_
  replace a9:BX w6.heap w2.heap.size [zI ((ex.kids.getD k Ex.zero).kind),zI ((ex.kids.getD k Ex.zero).num),zI ((ex.kids.getD k Ex.zero).pick),zI ((ex.kids.getD k Ex.zero).count),a0]:=a9
  have ai:AB w w6:=ah.below ag (fun _ h=>zE h) ag.size
  have ao:=ah.size
  refine Ai<|Ad _ [0,2,3,0,0] Z<|Af 1 Z<|B2 (p:=zP w2.heap.size) (.inr Z) [zI<|(ex.kids.getD k Ex.zero).kind,zI<|(ex.kids.getD k Ex.zero).num,zI<|(ex.kids.getD k Ex.zero).pick,zI<|(ex.kids.getD k Ex.zero).count,a0] Bh Z (fun ax a7=>LD.of_box<|BX.ext (w:=w6) a9 a7) Z Ac<|As 236 [] [] [.agg #[zI<|(ex.kids.getD k Ex.zero).kind,zI<|(ex.kids.getD k Ex.zero).num,zI<|(ex.kids.getD k Ex.zero).pick,zI<|(ex.kids.getD k Ex.zero).count,a0]] Z Z dP Ac (ih dd4 oM _ a0 (ex.kids.getD k Ex.zero) (a5.ext ai) oM) ?_
  rintro e7 w7 ⟨rfl,aa⟩
  refine⟨_,rfl,aa,?_⟩
  have ap:=aa.size
  have aq:=ai.trans aa
  refine iS ((max sz ((ex.kids.getD k Ex.zero).deep):Nat):Int) oM Z Z Ac<|Ae 1 Z<|Ad _ [0,0] Z<|AG ((k+1:Nat):Int) Z Z (Bc oM sD) Ac<|Ae 1 Z ?_
  exact⟨(k+1,max sz ((ex.kids.getD k Ex.zero).deep)),_,rfl,zR,⟨aq,sD,oM⟩,zD⟩
 refine Ay false Z Z (A8 ae) Ac<|Ai<|A0<|Aj Z<|A6<|At<|At<|An<|qC [0,0,0] Z ?_
 have h8:=L9 (l:=ex.kids) (k:=k) oM
 have h9:=EV ex
 exact Af 1 Z<|AG ((sz+1:Nat):Int) Z Z (Bc oM oM) Ac<|Ae 1 Z<|A3<|Ah [2] Z (zI ((sz+1:Nat):Int)) Z ⟨B5 (by rw[hsz,L9 oM,hdk]),a1⟩
theorem dW {b:Bool}(h:(!b)=false):b=true:=by cases b <;> simp_all
theorem mJ {b:Bool}(h:(!b)=true):b=false:=by cases b <;> simp_all
theorem iB {p:List Fn}{funcs vars:Int}{e:Ex}{b:Bool}(h:e.kids.length=0∨b=false)(hb:HL p funcs vars e=b):Ending.returned (.bool b)=.returned (.bool (wf p funcs e vars)):=by
  rcases h with h|h
  · rw[OY h,hb]
  · subst h;rw[← Vh hb]
theorem Cq {p:Prop}(h:p:=by first|exact AH (OZ hwn fun j hj=>hall j oM)|exact AH (Vi (k:=k) oM (by first|(rw[if_pos oM])|(rw[if_neg oM])) (mJ ‹_›))|exact iB (by first|exact .inr Z|(left;omega)|(left;simp_all <;> omega)) (by(have hp9:=hpl.symm;clear hpl;unfold HL Gl;first|(simp[*];done)|(simp[*];omega)|(simp[*] <;> intros <;> omega)|(simp_all <;> omega)))):p:=h
theorem JV {p:Prop}(h:p:=by(have hp9:=hpl.symm;clear hpl;unfold HL Gl;first|(simp[*];done)|(simp[*];omega)|(simp[*] <;> intros <;> omega)|(simp_all <;> omega))):p:=h
theorem S3 {p:Prop}(h:p:=by intro j hj;by_cases e9:j=k;(rw[e9];first|(rw[if_pos oM];exact dW ‹_›)|(rw[if_neg oM];exact dW ‹_›));exact hall j oM):p:=h
theorem Yw {p:Prop}(h:p:=by unfold Ej;first|(simp[*];done)|(simp[*];intros;omega)|(simp[*];omega)):p:=h
theorem JW {p:Prop}(h:p:=by first|exact(A7 oM).symm|exact decide_eq_decide.2 oM):p:=h
theorem Hw (w:World)(dp:Nat)(vp:Value)(p:List Fn)(funcs:Int)(dex:Nat)(ve:Value)(ex:Ex)(vars:Int)(hp:RP [] dp w.heap vp p)(_hfuncs:BI funcs)(hex:RX [] dex w.heap ve ex)(_hvars:BI vars)(hs:0≤vars∧vars+(ex.deep:Int)≤2000000000)(hf:0≤funcs∧funcs≤(p.length:Int)) :
  Calls Tryz.prog 237 #[(.agg #[vp,(zI funcs)]),(.agg #[(zI ex.kind),(zI ex.num),(zI ex.pick),(zI ex.count),ve]),zI vars] w (fun e w'=>e=.returned (.bool (wf p funcs ex vars))∧AB w w'):=by
 induction dex using Nat.strongRecOn generalizing w dp vp p funcs ve ex vars
 rename_i dex ih
 refine Au [.agg #[vp,zI funcs],.agg #[zI ex.kind,zI ex.num,zI ex.pick,zI ex.count,ve],zI vars] 177 Tryz.func237 Z Z sM ?_
 have d2:AB w w:=AB.refl w
 have ec:=hp.lenle
 unfold maxLen at ec
 have ed:=hex.rn.lenle
 unfold maxLen at ed
 have hdk:=EU ex
 refine qC [3,3,0] Z (C9 (cs:=#[vp,zI funcs]) Z Ac fun w1 cq df co=>?_)
 have cr:=cq.size
 have d3:=d2.trans cq
 replace co:BX w1.heap w.heap.size [vp,zI funcs]:=co
 have e5:=co.lt
 refine C9 (cs:=#[zI ex.kind,zI ex.num,zI ex.pick,zI ex.count,ve]) Z Ac fun w2 cp dg bc=>?_
 have ct:=cp.size
 have cu:=d3.trans cp
 have bb:=co.ext cp
 replace bc:BX w2.heap w1.heap.size [zI ex.kind,zI ex.num,zI ex.pick,zI ex.count,ve]:=bc
 refine Ae 1 Z<|qC [0,2,0,0] Z<|Ap (p:=zP w1.heap.size) 4 Br Z Z Ac<|Al (p:=AA (zP w1.heap.size) 4) (.inr Z) ve BA Z (bc.ldp (i:=4) sM) Ac<|AL (v:=ve) DD Z hex.rn.isSl Ac<|Ae 1 Z<|A0<|I6 (S:=Bool) (fun(pl:Bool)=>([(8,.bool pl),(2,zI vars),(3,zP w.heap.size),(4,zP w1.heap.size),(7,zI (ex.kids.length:Int))])) (fun(pl:Bool) (W:World)=>AB w W∧BX W.heap w.heap.size [vp,zI funcs]∧BX W.heap w1.heap.size [zI ex.kind,zI ex.num,zI ex.pick,zI ex.count,ve]∧pl=Ej ex) ?_ ?_
 ·refine Ad _ [0,2,0,0,0,2,0,0,0] Z<|Ap (p:=zP w1.heap.size) 2 EG Z Z Ac<|Al (p:=AA (zP w1.heap.size) 2) (.inr Z) (zI ex.pick) AN Z (bc.ldp (i:=2) sM) Ac ?_
  by_cases d4:ex.pick=((0:Nat):Int)
  ·exact Av true Z Z (A7 d4) Ac<|Af 1 Z<|Ap (p:=zP w1.heap.size) 3 Ed Z Z (Ak (e:=19) Z Z Z)<|Al (p:=AA (zP w1.heap.size) 3) (.inr Z) (zI ex.count) AN Z (bc.ldp (i:=3) sM) (Ak (e:=19) Z Z Z)<|Av (decide (ex.count=((0:Nat):Int))) Z Z Z (Ak (e:=19) Z Z Z)<|Ae 2 Z ⟨decide (ex.count=((0:Nat):Int)),_,rfl,zR,⟨cu,bb,bc,Yw⟩⟩
  exact Av false Z Z (A8 d4) Ac<|Ae 6 Z ⟨false,_,rfl,zR,⟨cu,bb,bc,Yw⟩⟩
 clear d2 df cq cr d3 dg cp ct cu
 rintro pl ρ4 w4 ⟨ag,a4,a1,hpl⟩
 have bf:w.heap.size≤w4.heap.size:=ag.size
 have e6:=a4.lt
 have e7:=a1.lt
 refine A0<|I6 (S:=Unit) (fun(u:Unit)=>([(2,zI vars),(3,zP w.heap.size),(4,zP w1.heap.size)])) (fun(u:Unit) (W:World)=>AB w W∧BX W.heap w.heap.size [vp,zI funcs]∧BX W.heap w1.heap.size [zI ex.kind,zI ex.num,zI ex.pick,zI ex.count,ve]∧HL p funcs vars ex=true) ?_ ?_
 ·refine qC [0,2] Z<|Ap (p:=zP w1.heap.size) 0 Bz Z Z Ac<|Al (p:=AA (zP w1.heap.size) 0) (.inr Z) (zI ex.kind) AN Z (a1.ldp (i:=0) sM) Ac<|Ai<|A5<|qC [0,0] Z ?_
  by_cases d5:ex.kind=((1:Nat):Int)
  ·refine Av true Z Z (A7 d5) Ac<|Ae 1 Z<|Ag Z<|qC [0,0,0,0,0,0,0,2,0,0,0] Z<|Af 2 Z ?_
   cases dh:pl
   ·exact Ae 9 Z<|A3<|AJ<|Aq<|Ah [6] Z (.bool false) Z ⟨Cq,ag⟩
   refine Af 1 Z ?_
   by_cases bg:(ex.kids.length:Int)=((0:Nat):Int)
   ·refine Av true Z Z (A7 bg) (Ak (e:=29) Z Z Z)<|Af 2 Z<|Ap (p:=zP w1.heap.size) 1 Cm Z Z (Ak (e:=33) Z Z Z)<|Al (p:=AA (zP w1.heap.size) 1) (.inr Z) (zI ex.num) AN Z (a1.ldp (i:=1) sM) (Ak (e:=33) Z Z Z)<|AD 170 [] [] [zI ex.num] Z Z dI (Ak (e:=33) Z Z Z) (.bool<|Jp ex.num) (fun wq=>Id wq _ hex.rng.num)<|Ae 2 Z<|A3<|AJ<|Aq ?_
    exact Ah [6] Z (.bool<|Jp ex.num) Z ⟨Cq,ag⟩
   exact Av false Z Z (A8 bg) (Ak (e:=29) Z Z Z)<|Ae 7 Z<|A3<|AJ<|Aq<|Ah [6] Z (.bool false) Z ⟨Cq,ag⟩
  refine Av false Z Z (A8 d5) Ac<|Ae 1 Z<|Aj Z<|qC [0,0] Z ?_
  by_cases bh:ex.kind=((2:Nat):Int)
  ·refine Av true Z Z (A7 bh) Ac<|Ae 1 Z<|Ag Z<|qC [0,0,0,0,0,0,0,2,0,0,0,0,0] Z<|Af 2 Z ?_
   cases di:pl
   ·exact Ae 11 Z<|A3<|AJ<|Aq<|Ah [6] Z (.bool false) Z ⟨Cq,ag⟩
   refine Af 1 Z ?_
   by_cases bi:(ex.kids.length:Int)=((0:Nat):Int)
   ·refine Av true Z Z (A7 bi) (Ak (e:=41) Z Z Z)<|Af 2 Z<|Ap (p:=zP w1.heap.size) 1 Cm Z Z (Ak (e:=45) Z Z Z)<|Al (p:=AA (zP w1.heap.size) 1) (.inr Z) (zI ex.num) AN Z (a1.ldp (i:=1) sM) (Ak (e:=45) Z Z Z)<|Af 1 Z<|Cb (vars-1) Z Z (Do oM oM) (Ak (e:=45) Z Z Z)<|AD 117 [] [] [zI ex.num,zI ((0:Nat):Int),zI (vars-1)] Z Z GQ (Ak (e:=45) Z Z Z) (.bool (decide (((0:Nat):Int)≤ex.num) && decide (ex.num≤(vars-1)))) (fun wq=>BN wq _ _ _ hex.rng.num oM oM)<|Ae 2 Z<|A3<|AJ ?_
    exact Aq<|Ah [6] Z (.bool (decide (((0:Nat):Int)≤ex.num) && decide (ex.num≤(vars-1)))) Z ⟨Cq,ag⟩
   exact Av false Z Z (A8 bi) (Ak (e:=41) Z Z Z)<|Ae 9 Z<|A3<|AJ<|Aq<|Ah [6] Z (.bool false) Z ⟨Cq,ag⟩
  refine Av false Z Z (A8 bh) Ac<|Ae 1 Z<|Aj Z<|A0<|I6 (S:=Bool) (fun(b5:Bool)=>([(52,.bool b5),(2,zI vars),(3,zP w.heap.size),(4,zP w1.heap.size),(7,zI (ex.kids.length:Int)),(8,.bool pl),(25,zI ex.kind)])) (fun(b5:Bool) (W:World)=>AB w W∧BX W.heap w.heap.size [vp,zI funcs]∧BX W.heap w1.heap.size [zI ex.kind,zI ex.num,zI ex.pick,zI ex.count,ve]∧b5=decide (ex.kind=3∨ex.kind=4∨ex.kind=5∨ex.kind=6∨ex.kind=9)) ?_ ?_
  ·refine qC [0,0] Z ?_
   by_cases bj:ex.kind=((3:Nat):Int)
   ·exact Av true Z Z (A7 bj) Ac<|Ae 1 Z<|Ag Z<|A4 ⟨true,_,rfl,zR,⟨ag,a4,a1,JW⟩⟩
   refine Av false Z Z (A8 bj) Ac<|Ae 1 Z<|Aj Z<|qC [0,0] Z ?_
   by_cases bk:ex.kind=((4:Nat):Int)
   ·exact Av true Z Z (A7 bk) Ac<|Ae 1 Z<|Ag Z<|A4 ⟨true,_,rfl,zR,⟨ag,a4,a1,JW⟩⟩
   refine Av false Z Z (A8 bk) Ac<|Ae 1 Z<|Aj Z<|qC [0,0] Z ?_
   by_cases bl:ex.kind=((5:Nat):Int)
   ·exact Av true Z Z (A7 bl) Ac<|Ae 1 Z<|Ag Z<|A4 ⟨true,_,rfl,zR,⟨ag,a4,a1,JW⟩⟩
   refine Av false Z Z (A8 bl) Ac<|Ae 1 Z<|Aj Z<|qC [0,0] Z ?_
   by_cases bm:ex.kind=((6:Nat):Int)
   ·exact Av true Z Z (A7 bm) Ac<|Ae 1 Z<|Ag Z<|A4 ⟨true,_,rfl,zR,⟨ag,a4,a1,JW⟩⟩
   exact Av false Z Z (A8 bm) Ac<|Ae 1 Z<|Aj Z<|Ad _ [0,0] Z<|Av (decide (ex.kind=((9:Nat):Int))) Z Z Z Ac<|Ae 1 Z ⟨decide (ex.kind=((9:Nat):Int)),_,rfl,zR,⟨ag,a4,a1,JW⟩⟩
  clear a1 a4 ag bf
  rintro b5 ρ17 ef ⟨a2,a3,a0,h5b⟩
  have bn:w.heap.size≤ef.heap.size:=a2.size
  have dj:=a3.lt
  have dk:=a0.lt
  cases bo:b5
  ·refine Aj (by first|rfl|exact zW bo)<|qC [0,0] Z ?_
   have h5n:=of_decide_eq_false (h5b.symm.trans ‹_›)
   clear h5b
   by_cases bp:ex.kind=((7:Nat):Int)
   ·refine Av true Z Z (A7 bp) Ac<|Ae 1 Z<|Ag Z<|qC [0,0,0,0,2,0,0,0,0,0,0] Z<|Af 1 Z<|BF (!pl) Z Z Ac<|Af 1 Z ?_
    cases dl:(!pl)
    ·refine Ap (p:=zP w1.heap.size) 1 Cm Z Z (Ak (e:=73) Z Z Z)<|Al (p:=AA (zP w1.heap.size) 1) (.inr Z) (zI ex.num) AN Z (a0.ldp (i:=1) sM) (Ak (e:=73) Z Z Z) ?_
     by_cases bq:ex.num≠((0:Nat):Int)
     ·exact B4 true Z Z (A7 bq) (Ak (e:=73) Z Z Z)<|Ae 5 Z<|Ag Z<|qD Z<|A3<|AJ<|Aq<|Ah [6] Z (.bool false) Z ⟨Cq,a2⟩
     refine B4 false Z Z (A8 bq) (Ak (e:=73) Z Z Z)<|Af 3 Z ?_
     by_cases br:(ex.kids.length:Int)≠((1:Nat):Int)
     ·exact B4 true Z Z (A7 br) (Ak (e:=78) Z Z Z)<|Ae 1 Z<|Ag Z<|qD Z<|A3<|AJ<|Aq<|Ah [6] Z (.bool false) Z ⟨Cq,a2⟩
     exact B4 false Z Z (A8 br) (Ak (e:=78) Z Z Z)<|Ae 1 Z<|Aj Z<|A4 ⟨(),_,rfl,zR,⟨a2,a3,a0,JV⟩⟩
    exact Ae 8 Z<|Ag Z<|qD Z<|A3<|AJ<|Aq<|Ah [6] Z (.bool false) Z ⟨Cq,a2⟩
   refine Av false Z Z (A8 bp) Ac<|Ae 1 Z<|Aj Z<|qC [0,0] Z ?_
   by_cases bs:ex.kind=((8:Nat):Int)
   ·refine Av true Z Z (A7 bs) Ac<|Ae 1 Z<|Ag Z<|qC [0,0,0,0,2,0,0,0,0,0,0] Z<|Af 1 Z<|BF (!pl) Z Z Ac<|Af 1 Z ?_
    cases dm:(!pl)
    ·refine Ap (p:=zP w1.heap.size) 1 Cm Z Z (Ak (e:=86) Z Z Z)<|Al (p:=AA (zP w1.heap.size) 1) (.inr Z) (zI ex.num) AN Z (a0.ldp (i:=1) sM) (Ak (e:=86) Z Z Z) ?_
     by_cases bt:ex.num≠((0:Nat):Int)
     ·exact B4 true Z Z (A7 bt) (Ak (e:=86) Z Z Z)<|Ae 5 Z<|Ag Z<|qD Z<|A3<|AJ<|Aq<|Ah [6] Z (.bool false) Z ⟨Cq,a2⟩
     refine B4 false Z Z (A8 bt) (Ak (e:=86) Z Z Z)<|Af 3 Z ?_
     by_cases bu:(ex.kids.length:Int)≠((3:Nat):Int)
     ·exact B4 true Z Z (A7 bu) (Ak (e:=91) Z Z Z)<|Ae 1 Z<|Ag Z<|qD Z<|A3<|AJ<|Aq<|Ah [6] Z (.bool false) Z ⟨Cq,a2⟩
     exact B4 false Z Z (A8 bu) (Ak (e:=91) Z Z Z)<|Ae 1 Z<|Aj Z<|A4 ⟨(),_,rfl,zR,⟨a2,a3,a0,JV⟩⟩
    exact Ae 8 Z<|Ag Z<|qD Z<|A3<|AJ<|Aq<|Ah [6] Z (.bool false) Z ⟨Cq,a2⟩
   refine Av false Z Z (A8 bs) Ac<|Ae 1 Z<|Aj Z<|A0<|I6 (S:=Bool) (fun(b10:Bool)=>([(95,.bool b10),(2,zI vars),(3,zP w.heap.size),(4,zP w1.heap.size),(7,zI (ex.kids.length:Int))])) (fun(b10:Bool) (W:World)=>AB w W∧BX W.heap w.heap.size [vp,zI funcs]∧BX W.heap w1.heap.size [zI ex.kind,zI ex.num,zI ex.pick,zI ex.count,ve]∧b10=decide (ex.kind=10∨ex.kind=11)) ?_ ?_
   ·refine qC [0,0] Z ?_
    by_cases bv:ex.kind=((10:Nat):Int)
    ·exact Av true Z Z (A7 bv) Ac<|Ae 1 Z<|Ag Z<|A4 ⟨true,_,rfl,zR,⟨a2,a3,a0,JW⟩⟩
    exact Av false Z Z (A8 bv) Ac<|Ae 1 Z<|Aj Z<|Ad _ [0,0] Z<|Av (decide (ex.kind=((11:Nat):Int))) Z Z Z Ac<|Ae 1 Z ⟨decide (ex.kind=((11:Nat):Int)),_,rfl,zR,⟨a2,a3,a0,JW⟩⟩
   clear a0 a3 a2 bn
   rintro b10 ρ33 e8 ⟨an,a6,a7,h10b⟩
   have d6:w.heap.size≤e8.heap.size:=an.size
   have dn:=a6.lt
   have dq:=a7.lt
   cases bw:b10
   ·refine Aj (by first|rfl|exact zW bw)<|qC [0] Z ?_
    have h10n:=of_decide_eq_false (h10b.symm.trans ‹_›)
    clear h10b
    exact Ae 1 Z<|A3<|AJ<|Aq<|Ah [6] Z (.bool false) Z ⟨Cq,an⟩
   refine Ag (by first|rfl|exact zW bw)<|A0<|qC [0,2,0,2,0,0,0] Z ?_
   have h5k:=of_decide_eq_true (h10b.symm.trans ‹_›)
   clear h10b
   refine Ap (p:=zP w1.heap.size) 1 Cm Z Z Ac<|Al (p:=AA (zP w1.heap.size) 1) (.inr Z) (zI ex.num) AN Z (a7.ldp (i:=1) sM) Ac<|Ap (p:=zP w.heap.size) 1 aY Z Z Ac<|Al (p:=AA (zP w.heap.size) 1) (.inr Z) (zI funcs) AN Z (a6.ldp (i:=1) sM) Ac<|Cb (funcs-1) Z Z (Do oM oM) Ac<|AD 117 [] [] [zI ex.num,zI ((0:Nat):Int),zI (funcs-1)] Z Z GQ Ac (.bool (decide (((0:Nat):Int)≤ex.num) && decide (ex.num≤(funcs-1)))) (fun wq=>BN wq _ _ _ hex.rng.num oM oM) ?_
   refine BF (!(decide (((0:Nat):Int)≤ex.num) && decide (ex.num≤(funcs-1)))) Z Z Ac<|Ai ?_
   cases bx:(!(decide (((0:Nat):Int)≤ex.num) && decide (ex.num≤(funcs-1))))
   ·refine Aj (by first|rfl|exact zW bx)<|A4<|qC [0,0,2,0,2,0,2,3,4] Z ?_
    have hnr:0≤ex.num∧ex.num≤funcs-1:=by have h9:=‹(!(decide (((0:Nat):Int)≤ex.num) && decide (ex.num≤funcs-1)))=false›;simpa using h9
    refine Ap (p:=zP w.heap.size) 0 aX Z Z Ac<|Ap (p:=AA (zP w.heap.size) 0) (b:=w.heap.size) (o:=0) 0 BP Z Z Ac<|Al (p:=AA (AA (zP w.heap.size) 0) 0) (.inr Z) vp Cp Z (a6.ldp (i:=0) sM) Ac<|Ap (p:=zP w1.heap.size) 1 Cm Z Z Ac<|Al (p:=AA (zP w1.heap.size) 1) (.inr Z) (zI ex.num) AN Z (a7.ldp (i:=1) sM) Ac ?_
    refine Aw (v:=vp) ((ex.num).toNat) H1 CK Z Z hp.isSl oM sD Ac ?_
    obtain⟨cs40,cv,cw⟩:=hp.get (AC dp) Fn.zero (k:=(ex.num).toNat) sD
    obtain⟨aa,rfl,ao⟩:=RF.of cv
    have bz:=ao.rn.lenle
    unfold maxLen at bz
    refine B2 (p:=Ax vp ((ex.num).toNat) 3) (.inr Z) [.string<|(p.getD ((ex.num).toNat) Fn.zero).name,zI<|(p.getD ((ex.num).toNat) Fn.zero).params,aa] KO Z (fun e9 ad=>cw e9<|Az.of_ext []<|an.trans ad) Z Ac ?_
    have dr:=a6.lt
    have ds:=a7.lt
    refine Bv (z:=.agg #[.string ByteArray.empty,zI 0,zN]) aR Ac fun eg ax dt bd=>?_
    have d7:=ax.size
    have c0:=an.trans ax
    have ai:=a6.ext ax
    have aj:=a7.ext ax
    replace bd:BX eg.heap e8.heap.size [.string ByteArray.empty,zI 0,zN]:=bd
    refine BR (vs:=[.string<|(p.getD ((ex.num).toNat) Fn.zero).name,zI<|(p.getD ((ex.num).toNat) Fn.zero).params,aa]) KO Z Z ao.ones bd Z Z Ac fun ee ay du ac=>?_
    replace ac:BX ee.heap e8.heap.size [.string ((p.getD ((ex.num).toNat) Fn.zero).name),zI ((p.getD ((ex.num).toNat) Fn.zero).params),aa]:=ac
    have a8:AB w ee:=ay.below c0 (fun _ h=>zE h) c0.size
    have d8:=ay.size
    have az:=ai.chg ay (zB ·)
    have a9:=aj.chg ay (zB ·)
    refine Ai<|A0<|qC [0,0,2,0,0,0,2,0,2,0,0,0,0,0] Z<|Af 1 Z<|Ap (p:=zP e8.heap.size) 1 CF Z Z Ac<|Al (p:=AA (zP e8.heap.size) 1) (.inr Z) (zI<|(p.getD ((ex.num).toNat) Fn.zero).params) AN Z (ac.ldp (i:=1) sM) Ac ?_
    by_cases c1:(ex.kids.length:Int)≠(p.getD ((ex.num).toNat) Fn.zero).params
    ·exact B4 true Z Z (A7 c1) Ac<|Ae 10 Z<|Ag Z<|qD Z<|A3<|Aq<|AJ<|Aq<|Ah [6] Z (.bool false) Z ⟨Cq,a8⟩
    refine B4 false Z Z (A8 c1) Ac<|Af 1 Z<|Ap (p:=zP w1.heap.size) 2 EG Z Z (Ak (e:=116) Z Z Z)<|Al (p:=AA (zP w1.heap.size) 2) (.inr Z) (zI ex.pick) AN Z (a9.ldp (i:=2) sM) (Ak (e:=116) Z Z Z)<|Ap (p:=zP e8.heap.size) 2 Ck Z Z (Ak (e:=116) Z Z Z)<|Al (p:=AA (zP e8.heap.size) 2) (.inr Z) aa BA Z (ac.ldp (i:=2) sM) (Ak (e:=116) Z Z Z)<|AL (v:=aa) DD Z ao.rn.isSl (Ak (e:=116) Z Z Z) ?_
    refine Cb (((p.getD (ex.num).toNat Fn.zero).outs.length:Int)-1) Z Z (Do oM oM) (Ak (e:=116) Z Z Z)<|AD 117 [] [] [zI ex.pick,zI ((0:Nat):Int),zI (((p.getD (ex.num).toNat Fn.zero).outs.length:Int)-1)] Z Z GQ (Ak (e:=116) Z Z Z) (.bool (decide (((0:Nat):Int)≤ex.pick) && decide (ex.pick≤(((p.getD (ex.num).toNat Fn.zero).outs.length:Int)-1)))) (fun wq=>BN wq _ _ _ hex.rng.pick oM oM)<|BF (!(decide (((0:Nat):Int)≤ex.pick) && decide (ex.pick≤(((p.getD (ex.num).toNat Fn.zero).outs.length:Int)-1)))) Z Z (Ak (e:=116) Z Z Z)<|Ae 1 Z ?_
    cases c2:(!(decide (((0:Nat):Int)≤ex.pick) && decide (ex.pick≤(((p.getD (ex.num).toNat Fn.zero).outs.length:Int)-1))))
    ·refine Aj (by first|rfl|exact zW c2)<|A4<|qC [0,2,0,0,0,2,0,0,0,0,2,0,0,0,2,0,0,2,0,0,0,2,0,0,0,0,0] Z<|Ap (p:=zP w1.heap.size) 0 Bz Z Z Ac<|Al (p:=AA (zP w1.heap.size) 0) (.inr Z) (zI ex.kind) AN Z (a9.ldp (i:=0) sM) Ac ?_
     by_cases c3:ex.kind=((10:Nat):Int)
     ·refine Av true Z Z (A7 c3) Ac<|Af 1 Z<|Ap (p:=zP w1.heap.size) 3 Ed Z Z (Ak (e:=129) Z Z Z)<|Al (p:=AA (zP w1.heap.size) 3) (.inr Z) (zI ex.count) AN Z (a9.ldp (i:=3) sM) (Ak (e:=129) Z Z Z) ?_
      by_cases c4:ex.count≠((0:Nat):Int)
      ·exact B4 true Z Z (A7 c4) (Ak (e:=129) Z Z Z)<|Ae 20 Z<|Ag Z<|qD Z<|A3<|AJ<|Aq<|Ah [6] Z (.bool false) Z ⟨Cq,a8⟩
      refine B4 false Z Z (A8 c4) (Ak (e:=129) Z Z Z)<|Af 2 Z<|Ap (p:=zP w1.heap.size) 0 Bz Z Z (Ak (e:=134) Z Z Z)<|Al (p:=AA (zP w1.heap.size) 0) (.inr Z) (zI ex.kind) AN Z (a9.ldp (i:=0) sM) (Ak (e:=134) Z Z Z) ?_
      by_cases c5:ex.kind=((11:Nat):Int)
      ·refine Av true Z Z (A7 c5) (Ak (e:=134) Z Z Z)<|Af 1 Z<|Ap (p:=zP e8.heap.size) 2 Ck Z Z (Ak (e:=138) Z Z Z)<|Al (p:=AA (zP e8.heap.size) 2) (.inr Z) aa BA Z (ac.ldp (i:=2) sM) (Ak (e:=138) Z Z Z)<|AL (v:=aa) DD Z ao.rn.isSl (Ak (e:=138) Z Z Z)<|Ap (p:=zP e8.heap.size) 1 CF Z Z (Ak (e:=138) Z Z Z)<|Al (p:=AA (zP e8.heap.size) 1) (.inr Z) (zI<|(p.getD ((ex.num).toNat) Fn.zero).params) AN Z (ac.ldp (i:=1) sM) (Ak (e:=138) Z Z Z) ?_
       by_cases c6:((((p.getD ((ex.num).toNat) Fn.zero).outs).length:Nat):Int)≠(p.getD ((ex.num).toNat) Fn.zero).params
       ·exact B4 true Z Z (A7 c6) (Ak (e:=138) Z Z Z)<|Ae 8 Z<|Ag Z<|qD Z<|A3<|AJ<|Aq<|Ah [6] Z (.bool false) Z ⟨Cq,a8⟩
       refine B4 false Z Z (A8 c6) (Ak (e:=138) Z Z Z)<|Af 1 Z<|Ap (p:=zP w1.heap.size) 3 Ed Z Z (Ak (e:=145) Z Z Z)<|Al (p:=AA (zP w1.heap.size) 3) (.inr Z) (zI ex.count) AN Z (a9.ldp (i:=3) sM) (Ak (e:=145) Z Z Z)<|AD 117 [] [] [zI ex.count,zI ((0:Nat):Int),zI ((8:Nat):Int)] Z Z GQ (Ak (e:=145) Z Z Z) (.bool (decide (((0:Nat):Int)≤ex.count) && decide (ex.count≤((8:Nat):Int)))) (fun wq=>BN wq _ _ _ hex.rng.count oM oM)<|BF (!(decide (((0:Nat):Int)≤ex.count) && decide (ex.count≤((8:Nat):Int)))) Z Z (Ak (e:=145) Z Z Z) ?_
       refine Ae 3 Z ?_
       cases c7:(!(decide (((0:Nat):Int)≤ex.count) && decide (ex.count≤((8:Nat):Int))))
       ·exact Aj (by first|rfl|exact zW c7)<|A4 ⟨(),_,rfl,zR,⟨a8,az,a9,JV⟩⟩
       exact Ag (by first|rfl|exact zW c7)<|qD Z<|A3<|AJ<|Aq<|Ah [6] Z (.bool false) Z ⟨Cq,a8⟩
      exact Av false Z Z (A8 c5) (Ak (e:=134) Z Z Z)<|Ae 15 Z<|Aj Z<|A4 ⟨(),_,rfl,zR,⟨a8,az,a9,JV⟩⟩
     refine Av false Z Z (A8 c3) Ac<|Af 6 Z<|Ap (p:=zP w1.heap.size) 0 Bz Z Z (Ak (e:=134) Z Z Z)<|Al (p:=AA (zP w1.heap.size) 0) (.inr Z) (zI ex.kind) AN Z (a9.ldp (i:=0) sM) (Ak (e:=134) Z Z Z) ?_
     by_cases c8:ex.kind=((11:Nat):Int)
     ·refine Av true Z Z (A7 c8) (Ak (e:=134) Z Z Z)<|Af 1 Z<|Ap (p:=zP e8.heap.size) 2 Ck Z Z (Ak (e:=138) Z Z Z)<|Al (p:=AA (zP e8.heap.size) 2) (.inr Z) aa BA Z (ac.ldp (i:=2) sM) (Ak (e:=138) Z Z Z)<|AL (v:=aa) DD Z ao.rn.isSl (Ak (e:=138) Z Z Z)<|Ap (p:=zP e8.heap.size) 1 CF Z Z (Ak (e:=138) Z Z Z)<|Al (p:=AA (zP e8.heap.size) 1) (.inr Z) (zI<|(p.getD ((ex.num).toNat) Fn.zero).params) AN Z (ac.ldp (i:=1) sM) (Ak (e:=138) Z Z Z) ?_
      by_cases c9:((((p.getD ((ex.num).toNat) Fn.zero).outs).length:Nat):Int)≠(p.getD ((ex.num).toNat) Fn.zero).params
      ·exact B4 true Z Z (A7 c9) (Ak (e:=138) Z Z Z)<|Ae 8 Z<|Ag Z<|qD Z<|A3<|AJ<|Aq<|Ah [6] Z (.bool false) Z ⟨Cq,a8⟩
      refine B4 false Z Z (A8 c9) (Ak (e:=138) Z Z Z)<|Af 1 Z<|Ap (p:=zP w1.heap.size) 3 Ed Z Z (Ak (e:=145) Z Z Z)<|Al (p:=AA (zP w1.heap.size) 3) (.inr Z) (zI ex.count) AN Z (a9.ldp (i:=3) sM) (Ak (e:=145) Z Z Z)<|AD 117 [] [] [zI ex.count,zI ((0:Nat):Int),zI ((8:Nat):Int)] Z Z GQ (Ak (e:=145) Z Z Z) (.bool (decide (((0:Nat):Int)≤ex.count) && decide (ex.count≤((8:Nat):Int)))) (fun wq=>BN wq _ _ _ hex.rng.count oM oM)<|BF (!(decide (((0:Nat):Int)≤ex.count) && decide (ex.count≤((8:Nat):Int)))) Z Z (Ak (e:=145) Z Z Z) ?_
      refine Ae 3 Z ?_
      cases ca:(!(decide (((0:Nat):Int)≤ex.count) && decide (ex.count≤((8:Nat):Int))))
      ·exact Aj (by first|rfl|exact zW ca)<|A4 ⟨(),_,rfl,zR,⟨a8,az,a9,JV⟩⟩
      exact Ag (by first|rfl|exact zW ca)<|qD Z<|A3<|AJ<|Aq<|Ah [6] Z (.bool false) Z ⟨Cq,a8⟩
     exact Av false Z Z (A8 c8) (Ak (e:=134) Z Z Z)<|Ae 15 Z<|Aj Z<|A4 ⟨(),_,rfl,zR,⟨a8,az,a9,JV⟩⟩
    exact Ag (by first|rfl|exact zW c2)<|qD Z<|A3<|Aq<|AJ<|Aq<|Ah [6] Z (.bool false) Z ⟨Cq,a8⟩
   exact Ag (by first|rfl|exact zW bx)<|qD Z<|A3<|Aq<|AJ<|Aq<|Ah [6] Z (.bool false) Z ⟨Cq,an⟩
  refine Ag (by first|rfl|exact zW bo)<|qC [0,0,0,0,2,0,0,0,0,0,0] Z ?_
  have h5k:=of_decide_eq_true (h5b.symm.trans ‹_›)
  clear h5b
  refine Af 1 Z<|BF (!pl) Z Z Ac<|Af 1 Z ?_
  cases dv:(!pl)
  ·refine Ap (p:=zP w1.heap.size) 1 Cm Z Z (Ak (e:=60) Z Z Z)<|Al (p:=AA (zP w1.heap.size) 1) (.inr Z) (zI ex.num) AN Z (a0.ldp (i:=1) sM) (Ak (e:=60) Z Z Z) ?_
   by_cases cb:ex.num≠((0:Nat):Int)
   ·exact B4 true Z Z (A7 cb) (Ak (e:=60) Z Z Z)<|Ae 5 Z<|Ag Z<|qD Z<|A3<|AJ<|Aq<|Ah [6] Z (.bool false) Z ⟨Cq,a2⟩
   refine B4 false Z Z (A8 cb) (Ak (e:=60) Z Z Z)<|Af 3 Z ?_
   by_cases cc:(ex.kids.length:Int)≠((2:Nat):Int)
   ·exact B4 true Z Z (A7 cc) (Ak (e:=65) Z Z Z)<|Ae 1 Z<|Ag Z<|qD Z<|A3<|AJ<|Aq<|Ah [6] Z (.bool false) Z ⟨Cq,a2⟩
   exact B4 false Z Z (A8 cc) (Ak (e:=65) Z Z Z)<|Ae 1 Z<|Aj Z<|A4 ⟨(),_,rfl,zR,⟨a2,a3,a0,JV⟩⟩
  exact Ae 8 Z<|Ag Z<|qD Z<|A3<|AJ<|Aq<|Ah [6] Z (.bool false) Z ⟨Cq,a2⟩
 clear a1 a4 ag bf
 rintro u ρ8 w8 ⟨cx,ap,ah,hwn⟩
 have cy:w.heap.size≤w8.heap.size:=cx.size
 have dw:=ap.lt
 have dx:=ah.lt
 refine A0<|qC [0,2,0,0] Z<|Ap (p:=zP w1.heap.size) 4 Br Z Z Ac<|Al (p:=AA (zP w1.heap.size) 4) (.inr Z) ve BA Z (ah.ldp (i:=4) sM) Ac<|AL (v:=ve) DD Z hex.rn.isSl Ac<|Ae 1 Z<|A5 ?_
 refine AR (S:=Nat) (fun k=>([(156,zI (k:Int)),(2,zI vars),(3,zP w.heap.size),(4,zP w1.heap.size),(154,ve),(155,zI (ex.kids.length:Int))])) (fun k W=>AB w W∧BX W.heap w.heap.size [vp,zI funcs]∧BX W.heap w1.heap.size [zI ex.kind,zI ex.num,zI ex.pick,zI ex.count,ve]∧k≤ex.kids.length∧(∀j,j<k→wf p funcs (ex.kids.getD j Ex.zero) (if ex.kind=9∧j=1 then vars+1 else vars)=true)) (fun k=>ex.kids.length-k) 0 ⟨rfl,rfl,rfl,rfl,rfl,rfl,trivial⟩ ⟨cx,ap,ah,sD,(by intro j hj;omega)⟩ ?_
 clear ah ap cx cy
 rintro k ρ65 eb ⟨b0,ae,af,cz,hall⟩
 have d9:w.heap.size≤eb.heap.size:=b0.size
 have dy:=ae.lt
 have dz:=af.lt
 refine qC [0] Z ?_
 by_cases cd:(k:Int)<(ex.kids.length:Int)
 ·refine Ay true Z Z (A7 cd) Ac<|Ai<|A0<|Ag Z<|A4<|A0<|A5<|qC [0,0,2,3,0,4] Z ?_
  have hkd:=FT (l:=ex.kids) (k:=k) oM
  refine Af 1 Z<|Aw (v:=ve) k DD BC Z Z hex.rn.isSl Z sD Ac ?_
  obtain⟨cs69,d0,d1⟩:=hex.rn.get (AI dex) Ex.zero (k:=k) sD
  obtain⟨dd69,a5,e0,rfl,aq⟩:=RX.of d0
  have ce:=aq.rn.lenle
  unfold maxLen at ce
  refine B2 (p:=Ax ve k 5) (.inr Z) [zI<|(ex.kids.getD k Ex.zero).kind,zI<|(ex.kids.getD k Ex.zero).num,zI<|(ex.kids.getD k Ex.zero).pick,zI<|(ex.kids.getD k Ex.zero).count,a5] Bh Z (fun e9 ad=>d1 e9<|Az.of_ext []<|b0.trans ad) Z Ac ?_
  have e1:=ae.lt
  have e2:=af.lt
  refine Bv (z:=.agg #[zI 0,zI 0,zI 0,zI 0,zN]) GS Ac fun eh b1 e3 be=>?_
  have da:=b1.size
  have cf:=b0.trans b1
  have ak:=ae.ext b1
  have al:=af.ext b1
  replace be:BX eh.heap eb.heap.size [zI 0,zI 0,zI 0,zI 0,zN]:=be
  refine Af 1 Z (BR (vs:=[zI<|(ex.kids.getD k Ex.zero).kind,zI<|(ex.kids.getD k Ex.zero).num,zI<|(ex.kids.getD k Ex.zero).pick,zI<|(ex.kids.getD k Ex.zero).count,a5]) Bh Z Z aq.ones be Z Z Ac fun ea b2 e4 ar=>?_)
  replace ar:BX ea.heap eb.heap.size [zI ((ex.kids.getD k Ex.zero).kind),zI ((ex.kids.getD k Ex.zero).num),zI ((ex.kids.getD k Ex.zero).pick),zI ((ex.kids.getD k Ex.zero).count),a5]:=ar
  have ab:AB w ea:=b2.below cf (fun _ h=>zE h) cf.size
  have db:=b2.size
  have am:=ak.chg b2 (zB ·)
  have b3:=al.chg b2 (zB ·)
  refine Ai<|qC [0,0] Z<|Ae 2 Z<|A0<|qC [0,2,0,0,0,0,0] Z<|Ap (p:=zP w1.heap.size) 0 Bz Z Z Ac<|Al (p:=AA (zP w1.heap.size) 0) (.inr Z) (zI ex.kind) AN Z (b3.ldp (i:=0) sM) Ac ?_
  by_cases cg:ex.kind=((9:Nat):Int)
  ·refine Av true Z Z (A7 cg) Ac<|Af 2 Z ?_
   by_cases ch:(k:Int)=((1:Nat):Int)
   ·refine Av true Z Z (A7 ch) (Ak (e:=165) Z Z Z)<|Ae 1 Z<|Ag Z<|Ad _ [0,0,0] Z<|Af 1 Z<|AG (vars+1) Z Z (Do oM oM) Ac<|Ae 1 Z<|qC [2,2,0,3,0] Z<|B2 (p:=zP w.heap.size) (.inr Z) [vp,zI funcs] RY Z (fun e9 ad=>LD.of_box<|BX.ext (w:=ea) am ad) Z Ac<|B2 (p:=zP eb.heap.size) (.inr Z) [zI<|(ex.kids.getD k Ex.zero).kind,zI<|(ex.kids.getD k Ex.zero).num,zI<|(ex.kids.getD k Ex.zero).pick,zI<|(ex.kids.getD k Ex.zero).count,a5] Bh Z (fun e9 ad=>LD.of_box<|BX.ext (w:=ea) ar ad) Z Ac<|Af 1 Z ?_
    refine As 237 [] [] [.agg #[vp,zI funcs],.agg #[zI<|(ex.kids.getD k Ex.zero).kind,zI<|(ex.kids.getD k Ex.zero).num,zI<|(ex.kids.getD k Ex.zero).pick,zI<|(ex.kids.getD k Ex.zero).count,a5],zI (vars+1)] Z Z TR Ac (ih dd69 oM _ dp vp (p) (funcs) a5 (ex.kids.getD k Ex.zero) _ (hp.ext (Am<|AC dp) ab) _hfuncs (aq.ext ab) oM oM oM) ?_
    rintro ei ej ⟨rfl,au⟩
    refine⟨_,rfl,au,?_⟩
    have dc:=au.size
    have ci:=ab.trans au
    have b4:=am.ext au
    have b6:=b3.ext au
    refine BF (!(wf p funcs (ex.kids.getD k Ex.zero) (vars+1))) Z Z Ac<|Ai ?_
    cases cj:(!(wf p funcs (ex.kids.getD k Ex.zero) (vars+1)))
    ·refine Aj (by first|rfl|exact zW cj)<|A4<|Ad _ [0,0] Z<|AG ((k+1:Nat):Int) Z Z (Bc oM sD) Ac<|Ae 1 Z ?_
     exact⟨k+1,_,rfl,zR,⟨ci,b4,b6,sD,S3⟩,zD⟩
    exact Ag (by first|rfl|exact zW cj)<|qD Z<|A3<|AJ<|Aq<|Aq<|AJ<|Aq<|Ah [6] Z (.bool false) Z ⟨Cq,ci⟩
   refine Av false Z Z (A8 ch) (Ak (e:=165) Z Z Z)<|Ae 1 Z<|Aj Z<|A4<|qC [2,2,0,3,0] Z<|B2 (p:=zP w.heap.size) (.inr Z) [vp,zI funcs] RY Z (fun e9 ad=>LD.of_box<|BX.ext (w:=ea) am ad) Z Ac<|B2 (p:=zP eb.heap.size) (.inr Z) [zI<|(ex.kids.getD k Ex.zero).kind,zI<|(ex.kids.getD k Ex.zero).num,zI<|(ex.kids.getD k Ex.zero).pick,zI<|(ex.kids.getD k Ex.zero).count,a5] Bh Z (fun e9 ad=>LD.of_box<|BX.ext (w:=ea) ar ad) Z Ac<|Af 1 Z ?_
   refine As 237 [] [] [.agg #[vp,zI funcs],.agg #[zI<|(ex.kids.getD k Ex.zero).kind,zI<|(ex.kids.getD k Ex.zero).num,zI<|(ex.kids.getD k Ex.zero).pick,zI<|(ex.kids.getD k Ex.zero).count,a5],zI vars] Z Z TR Ac (ih dd69 oM _ dp vp (p) (funcs) a5 (ex.kids.getD k Ex.zero) _ (hp.ext (Am<|AC dp) ab) _hfuncs (aq.ext ab) _hvars oM oM) ?_
   rintro ek el ⟨rfl,av⟩
   refine⟨_,rfl,av,?_⟩
   have dd:=av.size
   have ck:=ab.trans av
   have b7:=am.ext av
   have b8:=b3.ext av
   refine BF (!(wf p funcs (ex.kids.getD k Ex.zero) vars)) Z Z Ac<|Ai ?_
   cases cl:(!(wf p funcs (ex.kids.getD k Ex.zero) vars))
   ·refine Aj (by first|rfl|exact zW cl)<|A4<|Ad _ [0,0] Z<|AG ((k+1:Nat):Int) Z Z (Bc oM sD) Ac<|Ae 1 Z ?_
    exact⟨k+1,_,rfl,zR,⟨ck,b7,b8,sD,S3⟩,zD⟩
   exact Ag (by first|rfl|exact zW cl)<|qD Z<|A3<|AJ<|Aq<|Aq<|AJ<|Aq<|Ah [6] Z (.bool false) Z ⟨Cq,ck⟩
  refine Av false Z Z (A8 cg) Ac<|Ae 4 Z<|Aj Z<|A4<|qC [2,2,0,3,0] Z<|B2 (p:=zP w.heap.size) (.inr Z) [vp,zI funcs] RY Z (fun e9 ad=>LD.of_box<|BX.ext (w:=ea) am ad) Z Ac<|B2 (p:=zP eb.heap.size) (.inr Z) [zI<|(ex.kids.getD k Ex.zero).kind,zI<|(ex.kids.getD k Ex.zero).num,zI<|(ex.kids.getD k Ex.zero).pick,zI<|(ex.kids.getD k Ex.zero).count,a5] Bh Z (fun e9 ad=>LD.of_box<|BX.ext (w:=ea) ar ad) Z Ac<|Af 1 Z ?_
  refine As 237 [] [] [.agg #[vp,zI funcs],.agg #[zI<|(ex.kids.getD k Ex.zero).kind,zI<|(ex.kids.getD k Ex.zero).num,zI<|(ex.kids.getD k Ex.zero).pick,zI<|(ex.kids.getD k Ex.zero).count,a5],zI vars] Z Z TR Ac (ih dd69 oM _ dp vp (p) (funcs) a5 (ex.kids.getD k Ex.zero) _ (hp.ext (Am<|AC dp) ab) _hfuncs (aq.ext ab) _hvars oM oM) ?_
  rintro em en ⟨rfl,aw⟩
  refine⟨_,rfl,aw,?_⟩
  have de:=aw.size
  have cm:=ab.trans aw
  have b9:=am.ext aw
  have ba:=b3.ext aw
  refine BF (!(wf p funcs (ex.kids.getD k Ex.zero) vars)) Z Z Ac<|Ai ?_
  cases cn:(!(wf p funcs (ex.kids.getD k Ex.zero) vars))
  ·refine Aj (by first|rfl|exact zW cn)<|A4<|Ad _ [0,0] Z<|AG ((k+1:Nat):Int) Z Z (Bc oM sD) Ac<|Ae 1 Z ?_
   exact⟨k+1,_,rfl,zR,⟨cm,b9,ba,sD,S3⟩,zD⟩
  exact Ag (by first|rfl|exact zW cn)<|qD Z<|A3<|AJ<|Aq<|Aq<|AJ<|Aq<|Ah [6] Z (.bool false) Z ⟨Cq,cm⟩
 exact Ay false Z Z (A8 cd) Ac<|Ai<|A0<|Aj Z<|A6<|At<|At<|An<|qD Z<|A3<|Ah [6] Z (.bool true) Z ⟨Cq,b0⟩
theorem S4 {s:ByteArray}{k:Nat}(hk:k<s.size)(h:(KX s k<97∨122<KX s k)∧(k=0∨KX s k<48∨57<KX s k)):false=MY s:=by
  have hc:bR s k=false:=by
    unfold bR
    rcases h with⟨h1|h1,h2|h2|h2⟩ <;> simp <;> omega
  unfold MY
  rw[Lj hk hc,Bool.and_false]
theorem TX {s:ByteArray}{k:Nat}(h:(97≤KX s k∧KX s k≤122)∨(k≠0∧48≤KX s k∧KX s k≤57)):bR s k=true:=by
  unfold bR
  rcases h with h|h <;> simp <;> omega
theorem Yx {s:ByteArray}{k:Nat}{b:Bool}(h:(List.range k).all (bR s)=true)(hk:k=s.size)(hb:b=(decide (1≤s.size) && decide (s.size≤12))):b=MY s:=by
  subst hk
  unfold MY
  rw[h,Bool.and_true,hb]
theorem IL {p:Prop}(h:p:=by first|exact AH (S4 (k:=k) oM oM)|exact AH (Yx hq oM (by first|(rw[A7 (show 1≤s.size by omega),Bool.true_and];exact decide_eq_decide.2 oM)|(rw[A8 (show ¬1≤s.size by omega)];rfl)))):p:=h
theorem NZ (w:World)(s:ByteArray)  (hl:s.size≤1000000000) :
  Calls Tryz.prog 203 #[.string s] w (fun e w'=>e=.returned (.bool (MY s))∧w'=w):=by
 refine Au [.string s] 44 Tryz.func203 Z Z sM ?_
 have a3:w=w:=rfl
 refine qD Z<|A0<|qC [0,0,0] Z<|Af 1 Z<|My (s:=s) u9 Z Ac<|Ae 1 Z<|A5 ?_
 refine AR (S:=Nat) (fun k=>([(6,zI (k:Int)),(0,.string s),(5,zI (s.size:Int))])) (fun k W=>W=w∧k≤s.size∧(List.range k).all (bR s)=true) (fun k=>s.size-k) 0 ⟨rfl,rfl,rfl,trivial⟩ ⟨a3,sD,(by rfl)⟩ ?_
 clear a3
 rintro k ρ1 w1 ⟨a0,a4,hq⟩
 refine qC [0] Z ?_
 by_cases a5:(k:Int)<(s.size:Int)
 ·refine Ay true Z Z (A7 a5) Ac<|Ai<|A0<|Ag Z<|A4<|A0<|A5<|qC [0,0] Z<|Ae 2 Z<|qC [0,0,0,0,0,0,0,0,0,0,0,0,0,0,0,0,0,0,0,0,0,0,0,0,0,0] Z<|Af 2 Z<|Dz (s:=s) k u9 Z Z Z sD Ac ?_
  by_cases a6:((KX s k:Nat):Int)<97
  ·refine Ay true Z Z (A7 a6) Ac<|Af 8 Z ?_
   by_cases a7:(k:Int)=((0:Nat):Int)
   ·exact Av true Z Z (A7 a7) (Ak (e:=19) Z Z Z)<|Ae 13 Z<|Ag Z<|qD Z<|A3<|AJ<|Aq<|Aq<|AJ<|Aq<|Ah [2] Z (.bool false) Z ⟨IL,a0⟩
   refine Av false Z Z (A8 a7) (Ak (e:=19) Z Z Z)<|Af 3 Z<|Dz (s:=s) k u9 Z Z Z sD (Ak (e:=22) Z Z Z) ?_
   by_cases a8:((KX s k:Nat):Int)<48
   ·exact Ay true Z Z (A7 a8) (Ak (e:=22) Z Z Z)<|Ae 8 Z<|Ag Z<|qD Z<|A3<|AJ<|Aq<|Aq<|AJ<|Aq<|Ah [2] Z (.bool false) Z ⟨IL,a0⟩
   refine Ay false Z Z (A8 a8) (Ak (e:=22) Z Z Z)<|Af 4 Z<|Dz (s:=s) k u9 Z Z Z sD (Ak (e:=28) Z Z Z) ?_
   by_cases a9:57<((KX s k:Nat):Int)
   ·exact C6 true Z Z (A7 a9) (Ak (e:=28) Z Z Z)<|Ae 2 Z<|Ag Z<|qD Z<|A3<|AJ<|Aq<|Aq<|AJ<|Aq<|Ah [2] Z (.bool false) Z ⟨IL,a0⟩
   refine C6 false Z Z (A8 a9) (Ak (e:=28) Z Z Z)<|Ae 2 Z<|Aj Z<|A4<|Ad _ [0,0] Z<|AG ((k+1:Nat):Int) Z Z (Bc oM sD) Ac<|Ae 1 Z ?_
   exact⟨k+1,_,rfl,zR,⟨a0,sD,(by exact Eo hq (TX oM))⟩,zD⟩
  refine Ay false Z Z (A8 a6) Ac<|Af 3 Z<|Dz (s:=s) k u9 Z Z Z sD (Ak (e:=13) Z Z Z) ?_
  by_cases aa:122<((KX s k:Nat):Int)
  ·refine C6 true Z Z (A7 aa) (Ak (e:=13) Z Z Z)<|Af 3 Z ?_
   by_cases ab:(k:Int)=((0:Nat):Int)
   ·exact Av true Z Z (A7 ab) (Ak (e:=19) Z Z Z)<|Ae 13 Z<|Ag Z<|qD Z<|A3<|AJ<|Aq<|Aq<|AJ<|Aq<|Ah [2] Z (.bool false) Z ⟨IL,a0⟩
   refine Av false Z Z (A8 ab) (Ak (e:=19) Z Z Z)<|Af 3 Z<|Dz (s:=s) k u9 Z Z Z sD (Ak (e:=22) Z Z Z) ?_
   by_cases ac:((KX s k:Nat):Int)<48
   ·exact Ay true Z Z (A7 ac) (Ak (e:=22) Z Z Z)<|Ae 8 Z<|Ag Z<|qD Z<|A3<|AJ<|Aq<|Aq<|AJ<|Aq<|Ah [2] Z (.bool false) Z ⟨IL,a0⟩
   refine Ay false Z Z (A8 ac) (Ak (e:=22) Z Z Z)<|Af 4 Z<|Dz (s:=s) k u9 Z Z Z sD (Ak (e:=28) Z Z Z) ?_
   by_cases a1:57<((KX s k:Nat):Int)
   ·exact C6 true Z Z (A7 a1) (Ak (e:=28) Z Z Z)<|Ae 2 Z<|Ag Z<|qD Z<|A3<|AJ<|Aq<|Aq<|AJ<|Aq<|Ah [2] Z (.bool false) Z ⟨IL,a0⟩
   refine C6 false Z Z (A8 a1) (Ak (e:=28) Z Z Z)<|Ae 2 Z<|Aj Z<|A4<|Ad _ [0,0] Z<|AG ((k+1:Nat):Int) Z Z (Bc oM sD) Ac<|Ae 1 Z ?_
   exact⟨k+1,_,rfl,zR,⟨a0,sD,(by exact Eo hq (TX oM))⟩,zD⟩
  refine C6 false Z Z (A8 aa) (Ak (e:=13) Z Z Z)<|Ae 17 Z<|Aj Z<|A4<|Ad _ [0,0] Z<|AG ((k+1:Nat):Int) Z Z (Bc oM sD) Ac<|Ae 1 Z ?_
  exact⟨k+1,_,rfl,zR,⟨a0,sD,(by exact Eo hq (TX oM))⟩,zD⟩
 refine Ay false Z Z (A8 a5) Ac<|Ai<|A0<|Aj Z<|A6<|At<|At<|An<|qC [0,0,0,0,0,0,0,0,0] Z<|Af 1 Z<|My (s:=s) u9 Z Ac ?_
 by_cases a2:((1:Nat):Int)≤(s.size:Int)
 ·exact Fy true Z Z (A7 a2) Ac<|Af 2 Z<|My (s:=s) u9 Z (Ak (e:=39) Z Z Z)<|DE (decide ((s.size:Int)≤((12:Nat):Int))) Z Z Z (Ak (e:=39) Z Z Z)<|Ae 2 Z<|A3<|Ah [2] Z (.bool<|decide ((s.size:Int)≤((12:Nat):Int))) Z ⟨IL,a0⟩
 exact Fy false Z Z (A8 a2) Ac<|Ae 6 Z<|A3<|Ah [2] Z (.bool false) Z ⟨IL,a0⟩
theorem Im (w:World)(dx:Nat)(vo:Value)(x:Fn)(bf:Nat)(vf:Value)(f:Fn)(hx:RF [] dx w.heap vo x)(hBf:BX w.heap bf [.string f.name,zI f.params,vf])  :
  Calls Tryz.prog 204 #[(.agg #[(.string x.name),(zI x.params),vo]),zP bf] w (fun e w'=>e=.returned (.bool (JO x.name f.name))∧AB w w'):=by
 refine Au [.agg #[.string x.name,zI x.params,vo],zP bf] 9 Tryz.func204 Z Z sM ?_
 have a3:AB w w:=AB.refl w
 have a8:=hx.rn.lenle
 unfold maxLen at a8
 refine qC [3,0] Z ?_
 have a6:=hBf.lt
 refine C9 (cs:=#[.string x.name,zI x.params,vo]) Z Ac fun w1 a1 a7 a2=>?_
 have a4:=a1.size
 have a5:=a3.trans a1
 have a0:=hBf.ext a1
 replace a2:BX w1.heap w.heap.size [.string x.name,zI x.params,vo]:=a2
 exact Ae 1 Z<|qC [0,2,0,2,0,0] Z<|Ap (p:=zP w.heap.size) 0 Lu Z Z Ac<|Al (p:=AA (zP w.heap.size) 0) (.inr Z) (.string x.name) RW Z (a2.ldp (i:=0) sM) Ac<|Ap (p:=zP bf) 0 Lu Z Z Ac<|Al (p:=AA (zP bf) 0) (.inr Z) (.string f.name) RW Z (a0.ldp (i:=0) sM) Ac<|Rh (JO x.name f.name) u9 Z Z Z Ac<|Ae 1 Z<|A3<|Ah [3] Z (.bool<|JO x.name f.name) Z ⟨rfl,a5⟩
theorem Dr (w:World) (da:Nat) (va:Value) (a:List Fn) (q:Nat) (qf qc:List Value) (pr:Fn→Bool) (ha:RP [] da w.heap va a) (hcf_q:((Tryz.prog.funcs[q]?).map fun fn=>(fn.name != "runtime.NumGoroutine") && fn.body.isSome) = some true) (hpr:∀ (d9:Nat) (u:Value) (x:Fn) w1,RF [] d9 w1.heap u x→AB w w1→Calls Tryz.prog q (qf++[Value.agg #[Value.string x.name,Value.int .i64 x.params,u]]++qc).toArray w1 (fun e w2=>e = .returned (.bool (pr x))∧AB w1 w2))  :
  Calls Tryz.prog 201 #[va,.func (.func q) qf.toArray qc.toArray] w (fun e w'=>e = .returned (zI (RZ pr a))∧AB w w'):=by
 refine Au [va,.func (.func q) qf.toArray qc.toArray] 19 Tryz.func201 Z Z sM ?_
 have a5:AB w w:=AB.refl w
 have ag:=ha.lenle
 unfold maxLen at ag
 refine qD Z<|A0<|qC [0,0,0] Z<|Af 1 Z<|AL (v:=va) H1 Z ha.isSl Ac<|Ae 1 Z<|A5 ?_
 refine AR (S:=Nat) (fun k=>([(8,zI ((k :Nat):Int)),(0,va),(1,.func (.func q) qf.toArray qc.toArray),(7,zI ((a.length :Nat):Int))])) (fun k W=>AB w W∧k≤a.length∧(∀ j,j < k→pr (a.getD j Fn.zero) = false)) (fun k=>a.length - k) 0 ⟨rfl,rfl,rfl,rfl,trivial⟩ ⟨a5,sD,(by intro j hj; omega)⟩ ?_
 clear a5
 rintro k ρ1 w1 ⟨a1,a6,hq⟩
 have aa:w.heap.size≤w1.heap.size:=a1.size
 refine qC [0] Z ?_
 by_cases a7:((k :Nat):Int) < ((a.length :Nat):Int)
 ·
  refine Ay true Z Z (A7 a7) Ac<|Ai<|A0<|Ag Z<|A4<|A0<|A5<|qC [0,0] Z<|Ae 2 Z<|qC [0,0,0,0,2,3] Z<|Af 3 Z<|Aw (v:=va) k H1 CK Z Z ha.isSl Z sD Ac ?_
  obtain ⟨cs3,ab,ac⟩:=ha.get (AC da) Fn.zero (k:=k) sD
  obtain ⟨a8,rfl,a2⟩:=RF.of ab
  have a3:=a2.rn.lenle
  unfold maxLen at a3
  refine B2 (p:=Ax va k 3) (.inr Z) [.string<|(a.getD k Fn.zero).name,zI<|(a.getD k Fn.zero).params,a8] KO Z (fun ah ad=>ac ah<|Az.of_ext []<|a1.trans ad) Z Ac ?_
  have a0:=hpr da a8 (a.getD k Fn.zero) w1 ⟨a2.rng,a2.rn.ext (Am<|AI da) a1⟩ a1
  refine As q qf qc _ Z Z hcf_q Ac a0 ?_
  rintro e4 w4 ⟨rfl,a4⟩
  refine ⟨_,rfl,a4,?_⟩
  have ae:=a4.size
  have a9:=a1.trans a4
  cases af:pr (a.getD k Fn.zero)
  ·
   refine Ai<|Aj Z<|A4<|Ad _ [0,0] Z<|AG ((k + 1 :Nat):Int) Z Z (Bc oM sD) Ac<|Ae 1 Z ?_
   exact ⟨k + 1,_,rfl,zR,⟨a9,sD,(by exact PO hq (by assumption))⟩,by first | omega | (dsimp only; omega)⟩
  
  exact Ai<|Ag Z<|qC [0,0] Z<|Ae 2 Z<|A3<|AJ<|Aq<|Aq<|AJ<|Aq<|Ah [4] Z (zI ((k :Nat):Int)) Z ⟨B5<|S0 Fn.zero hq oM (by assumption),a9⟩
 
 exact Ay false Z Z (A8 a7) Ac<|Ai<|A0<|Aj Z<|A6<|At<|At<|An<|qD Z<|A3<|Ah [4] Z (zI (-1)) Z ⟨B5<|Yt Fn.zero hq oM,a1⟩
theorem Da (w:World) (da:Nat) (va:Value) (a:List Fn) (q:Nat) (qf qc:List Value) (pr:Fn→Bool) (ha:RP [] da w.heap va a) (hcf_q:((Tryz.prog.funcs[q]?).map fun fn=>(fn.name != "runtime.NumGoroutine") && fn.body.isSome) = some true) (hpr:∀ (d9:Nat) (u:Value) (x:Fn) w1,RF [] d9 w1.heap u x→AB w w1→Calls Tryz.prog q (qf++[Value.agg #[Value.string x.name,Value.int .i64 x.params,u]]++qc).toArray w1 (fun e w2=>e = .returned (.bool (pr x))∧AB w1 w2))  :
  Calls Tryz.prog 133 #[va,.func (.func q) qf.toArray qc.toArray] w (fun e w'=>e = .returned (.bool (a.any pr))∧AB w w'):=by
 refine Au [va,.func (.func q) qf.toArray qc.toArray] 9 Tryz.func133 Z Z sM ?_
 have a0:AB w w:=AB.refl w
 have a4:=ha.lenle
 unfold maxLen at a4
 refine qD Z<|qC [0,0,3,0,0] Z<|Af 2 Z<|As 201 [] [] [va,.func (.func q) qf.toArray qc.toArray] Z Z lK Ac (Dr _ da va (a) q qf qc pr (ha.ext (Am<|AC da) a0) hcf_q fun d9 u x w1 hx hw=>hpr d9 u x w1 hx<|a0.trans hw) ?_
 rintro e1 w1 ⟨rfl,a1⟩
 refine ⟨_,rfl,a1,?_⟩
 have a2:=a1.size
 have a3:=a0.trans a1
 exact Fy (decide (((0 :Nat):Int)≤RZ pr a)) Z Z Z Ac<|Ae 1 Z<|A3<|Ah [4] Z (.bool<|decide (((0 :Nat):Int)≤RZ pr a)) Z ⟨AH<|Yu pr a,a3⟩
theorem Ns (w:World)(vars:Int)(_hvars:BI vars)  :
  Calls Tryz.prog 235 #[zI vars] w (fun e w'=>e=.returned (.bool (Gl vars 0 412))∧w'=w):=by
 refine Au [zI vars] 5 Tryz.func235 Z Z sM ?_
 have a0:w=w:=rfl
 exact qD Z<|qC [0,0,0] Z<|Af 1 Z<|AD 117 [] [] [zI vars,zI ((0:Nat):Int),zI ((412:Nat):Int)] Z Z GQ Ac (.bool (decide (((0:Nat):Int)≤vars) && decide (vars≤((412:Nat):Int)))) (fun wq=>BN wq _ _ _ _hvars oM oM)<|Ae 1 Z<|A3<|Ah [2] Z (.bool (decide (((0:Nat):Int)≤vars) && decide (vars≤((412:Nat):Int)))) Z ⟨rfl,a0⟩
theorem TY {p:List Fn}{e:Ex}{vars funcs:Int}(h:(0≤vars∧vars≤412)∧(0≤funcs∧funcs≤((p.length:Nat):Int))∧e.size≤400∧e.deep≤60):wf p funcs e vars=Ot p e vars funcs:=by
  unfold Ot
  rw[Cr.2 h.1,Cr.2 h.2.1,A7 h.2.2.1,A7 h.2.2.2];rfl
theorem OJ {p:List Fn}{e:Ex}{vars funcs:Int}(h:¬((0≤vars∧vars≤412)∧(0≤funcs∧funcs≤((p.length:Nat):Int))∧e.size≤400∧e.deep≤60)):false=Ot p e vars funcs:=by
  cases hh:Ot p e vars funcs with
  |false=>rfl
  |true =>
    unfold Ot at hh
    simp only[z7,decide_eq_true_eq,Cr]at hh
    exact absurd ⟨hh.1,hh.2.1,hh.2.2.1,hh.2.2.2.1⟩ h
theorem dX {p:List Fn}{e:Ex}{vars funcs:Int}(h:wf p funcs e vars=false):false=Ot p e vars funcs:=by
  unfold Ot;rw[h];simp
theorem Yy {x a b:Int}(h:Gl x a b=false):¬(a≤x∧x≤b):=fun hh=>by rw[Cr.2 hh]at h;cases h
theorem R2 {x a b:Int}(h:(decide (a≤x) && decide (x≤b))=false):¬(a≤x∧x≤b):=Yy h
theorem Hx {x a b:Int}(h:(decide (a≤x) && decide (x≤b))=true):a≤x∧x≤b:=Cr.1 h
theorem Nt {p:Prop}(h:p:=by first|exact AH (dX (by assumption))|exact AH (TY ⟨Cr.1 (by assumption),Hx (by assumption),zO,zO⟩)|exact AH ((by assumption:wf p funcs ex vars=true).symm.trans (TY ⟨Cr.1 (by assumption),Hx (by assumption),zO,zO⟩))|exact AH (OJ fun hh=>Yy (by assumption) hh.1)|exact AH (OJ fun hh=>R2 (by assumption) hh.2.1)|exact AH (OJ oM)):p:=h
theorem Lw (w:World)(dp:Nat)(vp:Value)(p:List Fn)(dex:Nat)(ve:Value)(ex:Ex)(vars:Int)(funcs:Int)(hp:RP [] dp w.heap vp p)(hex:RX [] dex w.heap ve ex)(_hvars:BI vars)(_hfuncs:BI funcs)(hs:ex.size≤1000000000) :
  Calls Tryz.prog 205 #[(.agg #[vp]),(.agg #[(zI ex.kind),(zI ex.num),(zI ex.pick),(zI ex.count),ve]),zI vars,zI funcs] w (fun e w'=>e=.returned (.bool (Ot p ex vars funcs))∧AB w w'):=by
 refine Au [.agg #[vp],.agg #[zI ex.kind,zI ex.num,zI ex.pick,zI ex.count,ve],zI vars,zI funcs] 36 Tryz.func205 Z Z sM ?_
 have am:AB w w:=AB.refl w
 have az:=hp.lenle
 unfold maxLen at az
 have b0:=hex.rn.lenle
 unfold maxLen at b0
 refine qC [3,3,0] Z (C9 (cs:=#[vp]) Z Ac fun w1 ai ar ac=>?_)
 have an:=ai.size
 have ao:=am.trans ai
 replace ac:BX w1.heap w.heap.size [vp]:=ac
 have au:=ac.lt
 refine C9 (cs:=#[zI ex.kind,zI ex.num,zI ex.pick,zI ex.count,ve]) Z Ac fun w2 af av ad=>?_
 have ap:=af.size
 have ae:=ao.trans af
 have a2:=ac.ext af
 replace ad:BX w2.heap w1.heap.size [zI ex.kind,zI ex.num,zI ex.pick,zI ex.count,ve]:=ad
 refine Ae 1 Z<|qC [0,0,0,0,0,2,0,0,0,0,2,3,0,0,0,2,3,0,0,0,2,0,0,2,0,3,0,0] Z<|Af 1 Z<|AD 235 [] [] [zI vars] Z Z lV Ac (.bool<|Gl vars 0 412) (fun wq=>Ns wq _ _hvars)<|Af 1 Z ?_
 cases aw:(Gl vars 0 412)
 ·exact Ae 25 Z<|A3<|Ah [8] Z (.bool false) Z ⟨Nt,ae⟩
 refine Af 1 Z<|Ap (p:=zP w.heap.size) 0 BP Z Z (Ak (e:=11) Z Z Z)<|Al (p:=AA (zP w.heap.size) 0) (.inr Z) vp Cp Z (a2.ldp (i:=0) sM) (Ak (e:=11) Z Z Z)<|AL (v:=vp) H1 Z hp.isSl (Ak (e:=11) Z Z Z)<|AD 117 [] [] [zI funcs,zI ((0:Nat):Int),zI (p.length:Int)] Z Z GQ (Ak (e:=11) Z Z Z) (.bool (decide (((0:Nat):Int)≤funcs) && decide (funcs≤(p.length:Int)))) (fun wq=>BN wq _ _ _ _hfuncs oM oM)<|Af 2 Z ?_
 cases ax:(decide (((0:Nat):Int)≤funcs) && decide (funcs≤(p.length:Int)))
 ·exact Ae 18 Z<|A3<|Ah [8] Z (.bool false) Z ⟨Nt,ae⟩
 refine B2 (p:=zP w1.heap.size) (.inr Z) [zI ex.kind,zI ex.num,zI ex.pick,zI ex.count,ve] Bh Z (fun b1 a4=>LD.of_box<|BX.ext (w:=w2) ad a4) Z (Ak (e:=18) Z Z Z)<|As 206 [] [] [.agg #[zI ex.kind,zI ex.num,zI ex.pick,zI ex.count,ve]] Z Z Yl (Ak (e:=18) Z Z Z) (Ie _ dex ve (ex) (hex.ext ae) oM) ?_
 rintro e8 w8 ⟨rfl,a8⟩
 refine⟨_,rfl,a8,?_⟩
 have aq:=a8.size
 have ag:=ae.trans a8
 have a9:=a2.ext a8
 have a3:=ad.ext a8
 by_cases aj:(ex.size:Int)≤((400:Nat):Int)
 ·refine DE true Z Z (A7 aj) (Ak (e:=18) Z Z Z)<|Af 2 Z<|B2 (p:=zP w1.heap.size) (.inr Z) [zI ex.kind,zI ex.num,zI ex.pick,zI ex.count,ve] Bh Z (fun b1 a4=>LD.of_box<|BX.ext (w:=w8) a3 a4) Z (Ak (e:=23) Z Z Z)<|As 236 [] [] [.agg #[zI ex.kind,zI ex.num,zI ex.pick,zI ex.count,ve]] Z Z dP (Ak (e:=23) Z Z Z) (Lv _ dex ve (ex) (hex.ext ag) oM) ?_
  rintro b4 b2 ⟨rfl,a0⟩
  refine⟨_,rfl,a0,?_⟩
  have ak:=a0.size
  have a1:=ag.trans a0
  have a5:=a9.ext a0
  have a6:=a3.ext a0
  by_cases aa:(ex.deep:Int)≤((60:Nat):Int)
  ·refine DE true Z Z (A7 aa) (Ak (e:=23) Z Z Z)<|Af 2 Z<|B2 (p:=zP w.heap.size) (.inr Z) [vp] D8 Z (fun b1 a4=>LD.of_box<|BX.ext (w:=b2) a5 a4) Z (Ak (e:=28) Z Z Z)<|Af 1 Z ?_
   have ab:∀(vp:Value) (ay:Nat) (h12_0:Eq vp ay) (wq:World),(Instr.build 249 #[(0,.agg #[vp]),(1,zI funcs)]).run Tryz.prog wq=.ok (.agg #[vp,zI funcs]) wq:=by intro vp ay h12_0 wq;obtain⟨a12_0,b3,rfl,_⟩:=h12_0;kernel_rfl
   refine Cd (ps:=#[(0,.agg #[vp]),(1,zI funcs)]) (.agg #[vp,zI funcs]) (by simp only[zc,zf,zh];rfl) (fun wq=>ab vp _ hp.isSl wq) (Ak (e:=28) Z Z Z)<|B2 (p:=zP w1.heap.size) (.inr Z) [zI ex.kind,zI ex.num,zI ex.pick,zI ex.count,ve] Bh Z (fun b1 a4=>LD.of_box<|BX.ext (w:=b2) a6 a4) Z (Ak (e:=28) Z Z Z)<|Af 1 Z ?_
   refine As 237 [] [] [.agg #[vp,zI funcs],.agg #[zI ex.kind,zI ex.num,zI ex.pick,zI ex.count,ve],zI vars] Z Z TR (Ak (e:=28) Z Z Z) (Hw _ dp vp (p) (funcs) dex ve (ex) _ (hp.ext (Am<|AC dp) a1) _hfuncs (hex.ext a1) _hvars (by have h1:=Cr.1 (by assumption:Gl vars 0 412=true);omega) (by have h2:=Hx (by assumption:(decide (((0:Nat):Int)≤funcs) && decide (funcs≤(p.length:Int)))=true);omega)) ?_
   rintro b5 b6 ⟨rfl,a7⟩
   refine⟨_,rfl,a7,?_⟩
   have al:=a7.size
   have ah:=a1.trans a7
   exact Ae 2 Z<|A3<|Ah [8] Z (.bool<|wf p funcs ex vars) Z ⟨Nt,ah⟩
  exact DE false Z Z (A8 aa) (Ak (e:=23) Z Z Z)<|Ae 10 Z<|A3<|Ah [8] Z (.bool false) Z ⟨Nt,a1⟩
 exact DE false Z Z (A8 aj) (Ak (e:=18) Z Z Z)<|Ae 15 Z<|A3<|Ah [8] Z (.bool false) Z ⟨Nt,ag⟩
theorem Yz {p:List Fn}(h:¬p.length≤16):false=Ky p:=by unfold Ky;rw[A8 h];rfl
theorem JX {p:List Fn}{k:Nat}(hk:k<p.length)(h:LR p k=false):false=Ky p:=by unfold Ky;rw[Lj hk h,Bool.and_false]
theorem YB {p:List Fn}{k:Nat}(hl:p.length≤16)(hk:p.length≤k)(hk2:k≤p.length)(h:(List.range k).all (LR p)=true):true=Ky p:=by
  have:k=p.length:=by omega
  subst this;unfold Ky;rw[h,A7 hl];rfl
section
variable {p:List Fn} {k:Nat}
theorem mK (h:MY (p.getD k Fn.zero).name=false):LR p k=false:=by unfold LR;rw[h];rfl
theorem mL (h:(p.take k).any (fun g=>JO g.name (p.getD k Fn.zero).name)=true):LR p k=false:=by unfold LR Uo;rw[h];simp
theorem mM (h:(decide (((0:Nat):Int)≤(p.getD k Fn.zero).params) && decide ((p.getD k Fn.zero).params≤((12:Nat):Int)))=false):LR p k=false:=by
  have h':Gl (p.getD k Fn.zero).params 0 12=false:=h
  unfold LR;rw[h'];simp
theorem mN (h:(decide (((1:Nat):Int)≤(((p.getD k Fn.zero).outs.length:Nat):Int)) && decide ((((p.getD k Fn.zero).outs.length:Nat):Int)≤((12:Nat):Int)))=false):LR p k=false:=by
  have h':Gl (((p.getD k Fn.zero).outs.length:Nat):Int) 1 12=false:=h
  unfold LR;rw[h'];simp
theorem mO {j:Nat}(hj:j<(p.getD k Fn.zero).outs.length)(h:Ot p ((p.getD k Fn.zero).outs.getD j Ex.zero) (p.getD k Fn.zero).params ((k:Nat):Int)=false):LR p k=false:=by
  unfold LR
  rw[Lj hj h];simp
theorem mP (h:¬Ex.sizes (p.getD k Fn.zero).outs≤400):LR p k=false:=by
  unfold LR;rw[A8 h];simp
theorem dY {j:Nat}(h1:MY (p.getD k Fn.zero).name=true)(h2:(p.take k).any (fun g=>JO g.name (p.getD k Fn.zero).name)=false)(h3:(decide (((0:Nat):Int)≤(p.getD k Fn.zero).params) && decide ((p.getD k Fn.zero).params≤((12:Nat):Int)))=true)(h4:(decide (((1:Nat):Int)≤(((p.getD k Fn.zero).outs.length:Nat):Int)) && decide ((((p.getD k Fn.zero).outs.length:Nat):Int)≤((12:Nat):Int)))=true)(h5:(List.range j).all (fun j=>Ot p ((p.getD k Fn.zero).outs.getD j Ex.zero) (p.getD k Fn.zero).params ((k:Nat):Int))=true)(hj:j=(p.getD k Fn.zero).outs.length)(h6:Ex.sizes (p.getD k Fn.zero).outs≤400):LR p k=true:=by
  have h3':Gl (p.getD k Fn.zero).params 0 12=true:=h3
  have h4':Gl (((p.getD k Fn.zero).outs.length:Nat):Int) 1 12=true:=h4
  subst hj
  unfold LR Uo
  rw[h1,h2,h3',h4',h5,A7 h6];rfl
end
theorem EO {b:Bool}(h:(!b)=false):b=true:=by cases b <;> simp_all
theorem GJ {b:Bool}(h:(!b)=true):b=false:=by cases b <;> simp_all
theorem IM {p:Prop}(h:p:=by first|exact AH (Yz oM)|exact AH (YB oM oM oM hq)|exact AH (JX (k:=k) oM (mK (GJ (by assumption))))|exact AH (JX (k:=k) oM (mL (by assumption)))|exact AH (JX (k:=k) oM (mM (GJ (by assumption))))|exact AH (JX (k:=k) oM (mN (GJ (by assumption))))|exact AH (JX (k:=k) oM (mO (j:=j) oM (GJ (by assumption))))|exact AH (JX (k:=k) oM (mP oM))):p:=h
theorem Jh (w:World)(dp:Nat)(vp:Value)(p:List Fn)(hp:RP [] dp w.heap vp p)(hz:PY p) :
  Calls Tryz.prog 137 #[(.agg #[vp])] w (fun e w'=>e=.returned (.bool (Ky p))∧AB w w'):=by
 refine Au [.agg #[vp]] 65 Tryz.func137 Z Z sM ?_
 have bq:AB w w:=AB.refl w
 have ch:=hp.lenle
 unfold maxLen at ch
 refine qC [3,0] Z (C9 (cs:=#[vp]) Z Ac fun w1 be c0 aw=>?_)
 have bf:=be.size
 have bg:=bq.trans be
 replace aw:BX w1.heap w.heap.size [vp]:=aw
 refine Ae 1 Z<|A0<|qC [0,2,0,0] Z<|Ap (p:=zP w.heap.size) 0 BP Z Z Ac<|Al (p:=AA (zP w.heap.size) 0) (.inr Z) vp Cp Z (aw.ldp (i:=0) sM) Ac<|AL (v:=vp) H1 Z hp.isSl Ac ?_
 by_cases br:((16:Nat):Int)<(p.length:Int)
 ·exact C6 true Z Z (A7 br) Ac<|Ai<|Ag Z<|qD Z<|A3<|Aq<|Ah [2] Z (.bool false) Z ⟨IM,bg⟩
 refine C6 false Z Z (A8 br) Ac<|Ai<|Aj Z<|A4<|A0<|qC [0,2,0,0] Z<|Ap (p:=zP w.heap.size) 0 BP Z Z Ac<|Al (p:=AA (zP w.heap.size) 0) (.inr Z) vp Cp Z (aw.ldp (i:=0) sM) Ac<|AL (v:=vp) H1 Z hp.isSl Ac<|Ae 1 Z<|A5 ?_
 refine AR (S:=Nat) (fun k=>([(15,zI (k:Int)),(1,zP w.heap.size),(13,vp),(14,zI (p.length:Int))])) (fun k W=>AB w W∧BX W.heap w.heap.size [vp]∧k≤p.length∧(List.range k).all (LR p)=true) (fun k=>p.length-k) 0 ⟨rfl,rfl,rfl,rfl,trivial⟩ ⟨bg,aw,sD,(by rfl)⟩ ?_
 clear bq c0 be bf bg
 rintro k ρ3 w3 ⟨ax,a4,bs,hq⟩
 have bh:w.heap.size≤w3.heap.size:=ax.size
 have ce:=a4.lt
 refine qC [0] Z ?_
 by_cases bt:(k:Int)<(p.length:Int)
 ·refine Ay true Z Z (A7 bt) Ac<|Ai<|A0<|Ag Z<|A4<|A0<|A5<|qC [0,0,2,3,0,4] Z<|Af 1 Z<|Aw (v:=vp) k H1 CK Z Z hp.isSl Z sD Ac ?_
  obtain⟨cs6,c1,c2⟩:=hp.get (AC dp) Fn.zero (k:=k) sD
  obtain⟨ab,rfl,ap⟩:=RF.of c1
  have ay:=ap.rn.lenle
  unfold maxLen at ay
  refine B2 (p:=Ax vp k 3) (.inr Z) [.string<|(p.getD k Fn.zero).name,zI<|(p.getD k Fn.zero).params,ab] KO Z (fun cg af=>c2 cg<|Az.of_ext []<|ax.trans af) Z Ac ?_
  have cf:=a4.lt
  refine Bv (z:=.agg #[.string ByteArray.empty,zI 0,zN]) aR Ac fun w7 bb c3 bi=>?_
  have bj:=bb.size
  have bk:=ax.trans bb
  have a5:=a4.ext bb
  replace bi:BX w7.heap w3.heap.size [.string ByteArray.empty,zI 0,zN]:=bi
  refine Af 1 Z (BR (vs:=[.string<|(p.getD k Fn.zero).name,zI<|(p.getD k Fn.zero).params,ab]) KO Z Z ap.ones bi Z Z Ac fun w9 bc c4 az=>?_)
  replace az:BX w9.heap w3.heap.size [.string ((p.getD k Fn.zero).name),zI ((p.getD k Fn.zero).params),ab]:=az
  have bd:AB w w9:=bc.below bk (fun _ h=>zE h) bk.size
  have bl:=bc.size
  have aq:=a5.chg bc (zB ·)
  refine Ai<|A0<|qC [0,2,0,0,0,0,2,0,0,0,3,0] Z ?_
  have hzk:=hz k oM
  refine Ap (p:=zP w3.heap.size) 0 Lu Z Z Ac<|Al (p:=AA (zP w3.heap.size) 0) (.inr Z) (.string<|(p.getD k Fn.zero).name) RW Z (az.ldp (i:=0) sM) Ac<|AD 203 [] [] [.string<|(p.getD k Fn.zero).name] Z Z lL Ac (.bool<|MY<|(p.getD k Fn.zero).name) (fun wq=>NZ wq ((p.getD k Fn.zero).name) oM)<|BF (!(MY<|(p.getD k Fn.zero).name)) Z Z Ac<|Af 1 Z ?_
  cases c5:(!(MY ((p.getD k Fn.zero).name)))
  ·refine Ap (p:=zP w.heap.size) 0 BP Z Z (Ak (e:=24) Z Z Z)<|Al (p:=AA (zP w.heap.size) 0) (.inr Z) vp Cp Z (aq.ldp (i:=0) sM) (Ak (e:=24) Z Z Z)<|Af 1 Z<|OT (v:=vp) (k:=k) H1 CK Z hp.isSl hp.capS Z sD (Ak (e:=24) Z Z Z) ?_
   have b0:=RN.pref (AC dp) (k:=k) hp sD
   refine Ra [] [zP w3.heap.size] Z Z (Ak (e:=24) Z Z Z)<|As 133 [] [] [Kk vp k,.func (.func 204) #[] #[zP w3.heap.size]] Z Z kQ (Ak (e:=24) Z Z Z) (Da _ dp (Kk vp k) (p.take k) 204 [] [zP w3.heap.size] (fun g=>JO g.name (p.getD k Fn.zero).name) (b0.ext (Am<|AC dp) bd) lM fun d9 u x w1 hx hw=>Im w1 d9 u x w3.heap.size ab (p.getD k Fn.zero) hx<|az.ext hw) ?_
   rintro cm cn ⟨rfl,a7⟩
   refine⟨_,rfl,a7,?_⟩
   have b1:=a7.size
   have ac:=bd.trans a7
   have a6:=aq.ext a7
   have a0:=az.ext a7
   refine Ae 1 Z ?_
   cases b2:((p.take k).any (fun g=>JO g.name (p.getD k Fn.zero).name))
   ·refine Aj (by first|rfl|exact zW b2)<|A4<|A0<|qC [0,2,0,0,0,0,2,0,0,0,0] Z<|Ap (p:=zP w3.heap.size) 1 CF Z Z Ac<|Al (p:=AA (zP w3.heap.size) 1) (.inr Z) (zI<|(p.getD k Fn.zero).params) AN Z (a0.ldp (i:=1) sM) Ac<|AD 117 [] [] [zI<|(p.getD k Fn.zero).params,zI ((0:Nat):Int),zI ((12:Nat):Int)] Z Z GQ Ac (.bool (decide (((0:Nat):Int)≤((p.getD k Fn.zero).params)) && decide (((p.getD k Fn.zero).params)≤((12:Nat):Int)))) (fun wq=>BN wq _ _ _ ap.rng oM oM) ?_
    refine BF (!(decide (((0:Nat):Int)≤((p.getD k Fn.zero).params)) && decide (((p.getD k Fn.zero).params)≤((12:Nat):Int)))) Z Z Ac<|Af 1 Z ?_
    cases c6:(!(decide (((0:Nat):Int)≤((p.getD k Fn.zero).params)) && decide (((p.getD k Fn.zero).params)≤((12:Nat):Int))))
    ·refine Ap (p:=zP w3.heap.size) 2 Ck Z Z (Ak (e:=36) Z Z Z)<|Al (p:=AA (zP w3.heap.size) 2) (.inr Z) ab BA Z (a0.ldp (i:=2) sM) (Ak (e:=36) Z Z Z)<|AL (v:=ab) DD Z ap.rn.isSl (Ak (e:=36) Z Z Z)<|AD 117 [] [] [zI ((((p.getD k Fn.zero).outs).length:Nat):Int),zI ((1:Nat):Int),zI ((12:Nat):Int)] Z Z GQ (Ak (e:=36) Z Z Z) (.bool (decide (((1:Nat):Int)≤((((p.getD k Fn.zero).outs).length:Nat):Int)) && decide (((((p.getD k Fn.zero).outs).length:Nat):Int)≤((12:Nat):Int)))) (fun wq=>BN wq _ _ _ oM oM oM) ?_
     refine BF (!(decide (((1:Nat):Int)≤((((p.getD k Fn.zero).outs).length:Nat):Int)) && decide (((((p.getD k Fn.zero).outs).length:Nat):Int)≤((12:Nat):Int)))) Z Z (Ak (e:=36) Z Z Z)<|Ae 1 Z ?_
     cases b3:(!(decide (((1:Nat):Int)≤((((p.getD k Fn.zero).outs).length:Nat):Int)) && decide (((((p.getD k Fn.zero).outs).length:Nat):Int)≤((12:Nat):Int))))
     ·refine Aj (by first|rfl|exact zW b3)<|A4<|qD Z<|A0<|qC [0,2,0,0] Z<|Ap (p:=zP w3.heap.size) 2 Ck Z Z Ac<|Al (p:=AA (zP w3.heap.size) 2) (.inr Z) ab BA Z (a0.ldp (i:=2) sM) Ac<|AL (v:=ab) DD Z ap.rn.isSl Ac<|Ae 1 Z<|A5 ?_
      refine AR (S:=Nat×Nat) (fun⟨j,sz⟩=>([(5,zI (sz:Int)),(46,zI (j:Int)),(1,zP w.heap.size),(3,zI (k:Int)),(4,zP w3.heap.size),(13,vp),(14,zI (p.length:Int)),(15,zI (k:Int)),(44,ab),(45,zI ((((p.getD k Fn.zero).outs).length:Nat):Int))])) (fun⟨j,sz⟩ W=>AB w W∧BX W.heap w.heap.size [vp]∧BX W.heap w3.heap.size [.string<|(p.getD k Fn.zero).name,zI<|(p.getD k Fn.zero).params,ab]∧j≤(p.getD k Fn.zero).outs.length∧sz=Ex.sizes ((p.getD k Fn.zero).outs.take j)∧(List.range j).all (fun j=>Ot p ((p.getD k Fn.zero).outs.getD j Ex.zero) (p.getD k Fn.zero).params (k:Int))=true) (fun⟨j,sz⟩=>(p.getD k Fn.zero).outs.length-j) (0,0) ⟨rfl,rfl,rfl,rfl,rfl,rfl,rfl,rfl,rfl,rfl,trivial⟩ ⟨ac,a6,a0,sD,(by rw[List.take_zero,Of]),(by rfl)⟩ ?_
      clear a4 ax bh ay c3 bb bj bk a5 c4 bc bd bl aq a7 b1 ac a6
      rintro⟨j,sz⟩ ρ20 ci ⟨ad,a1,a3,bm,hsz,hqe⟩
      have bu:w.heap.size≤ci.heap.size:=ad.size
      have c7:=a1.lt
      have c8:=a3.lt
      refine qC [0] Z ?_
      by_cases b4:(j:Int)<((((p.getD k Fn.zero).outs).length:Nat):Int)
      ·refine Ay true Z Z (A7 b4) Ac<|Ai<|A0<|Ag Z<|A4<|A0<|A5<|qC [0,2,3,4] Z<|Aw (v:=ab) j DD BC Z Z ap.rn.isSl Z sD Ac ?_
       obtain⟨cs24,bn,bo⟩:=ap.rn.get (AI dp) Ex.zero (k:=j) sD
       obtain⟨dd24,a2,c9,rfl,ag⟩:=RX.of bn
       have b5:=ag.rn.lenle
       unfold maxLen at b5
       refine B2 (p:=Ax ab j 5) (.inr Z) [zI<|(((p.getD k Fn.zero).outs).getD j Ex.zero).kind,zI<|(((p.getD k Fn.zero).outs).getD j Ex.zero).num,zI<|(((p.getD k Fn.zero).outs).getD j Ex.zero).pick,zI<|(((p.getD k Fn.zero).outs).getD j Ex.zero).count,a2] Bh Z (fun cg af=>bo cg<|Az.of_ext []<|ad.trans af) Z Ac ?_
       have ca:=a1.lt
       have cb:=a3.lt
       refine Bv (z:=.agg #[zI 0,zI 0,zI 0,zI 0,zN]) GS Ac fun ck ah cc ar=>?_
       have bv:=ah.size
       have b6:=ad.trans ah
       have a8:=a1.ext ah
       have a9:=a3.ext ah
       replace ar:BX ck.heap ci.heap.size [zI 0,zI 0,zI 0,zI 0,zN]:=ar
       refine BR (vs:=[zI<|(((p.getD k Fn.zero).outs).getD j Ex.zero).kind,zI<|(((p.getD k Fn.zero).outs).getD j Ex.zero).num,zI<|(((p.getD k Fn.zero).outs).getD j Ex.zero).pick,zI<|(((p.getD k Fn.zero).outs).getD j Ex.zero).count,a2]) Bh Z Z ag.ones ar Z Z Ac fun cj ai cd aj=>?_
       replace aj:BX cj.heap ci.heap.size [zI ((((p.getD k Fn.zero).outs).getD j Ex.zero).kind),zI ((((p.getD k Fn.zero).outs).getD j Ex.zero).num),zI ((((p.getD k Fn.zero).outs).getD j Ex.zero).pick),zI ((((p.getD k Fn.zero).outs).getD j Ex.zero).count),a2]:=aj
       have au:AB w cj:=ai.below b6 (fun _ h=>zE h) b6.size
       have bw:=ai.size
       have b7:=a8.chg ai (zB ·)
       have b8:=a9.chg ai (zB ·)
       refine Ai<|A0<|qC [2,2,0,2,0,3,0] Z ?_
       have hst:=Eg (l:=(p.getD k Fn.zero).outs) (k:=j) oM
       have hle:=DG (p.getD k Fn.zero).outs (j+1)
       refine B2 (p:=zP w.heap.size) (.inr Z) [vp] D8 Z (fun cg af=>LD.of_box<|BX.ext (w:=cj) b7 af) Z Ac<|B2 (p:=zP ci.heap.size) (.inr Z) [zI<|(((p.getD k Fn.zero).outs).getD j Ex.zero).kind,zI<|(((p.getD k Fn.zero).outs).getD j Ex.zero).num,zI<|(((p.getD k Fn.zero).outs).getD j Ex.zero).pick,zI<|(((p.getD k Fn.zero).outs).getD j Ex.zero).count,a2] Bh Z (fun cg af=>LD.of_box<|BX.ext (w:=cj) aj af) Z Ac<|Ap (p:=zP w3.heap.size) 1 CF Z Z Ac<|Al (p:=AA (zP w3.heap.size) 1) (.inr Z) (zI<|(p.getD k Fn.zero).params) AN Z (b8.ldp (i:=1) sM) Ac<|Af 1 Z ?_
       refine As 205 [] [] [.agg #[vp],.agg #[zI<|(((p.getD k Fn.zero).outs).getD j Ex.zero).kind,zI<|(((p.getD k Fn.zero).outs).getD j Ex.zero).num,zI<|(((p.getD k Fn.zero).outs).getD j Ex.zero).pick,zI<|(((p.getD k Fn.zero).outs).getD j Ex.zero).count,a2],zI<|(p.getD k Fn.zero).params,zI (k:Int)] Z Z lN Ac (Lw _ dp vp (p) dd24 a2 (((p.getD k Fn.zero).outs).getD j Ex.zero) _ _ (hp.ext (Am<|AC dp) au) (ag.ext au) ap.rng oM oM) ?_
       rintro co cl ⟨rfl,aa⟩
       refine⟨_,rfl,aa,?_⟩
       have bx:=aa.size
       have av:=au.trans aa
       have ak:=b7.ext aa
       have al:=b8.ext aa
       have am:=aj.ext aa
       refine BF (!(Ot p (((p.getD k Fn.zero).outs).getD j Ex.zero) ((p.getD k Fn.zero).params) (k:Int))) Z Z Ac<|Ai ?_
       cases b9:(!(Ot p (((p.getD k Fn.zero).outs).getD j Ex.zero) ((p.getD k Fn.zero).params) (k:Int)))
       ·refine Aj (by first|rfl|exact zW b9)<|A4<|Ad _ [0,2,3,0,0] Z<|Af 1 Z<|B2 (p:=zP ci.heap.size) (.inr Z) [zI<|(((p.getD k Fn.zero).outs).getD j Ex.zero).kind,zI<|(((p.getD k Fn.zero).outs).getD j Ex.zero).num,zI<|(((p.getD k Fn.zero).outs).getD j Ex.zero).pick,zI<|(((p.getD k Fn.zero).outs).getD j Ex.zero).count,a2] Bh Z (fun cg af=>LD.of_box<|BX.ext (w:=cl) am af) Z Ac ?_
        refine As 206 [] [] [.agg #[zI<|(((p.getD k Fn.zero).outs).getD j Ex.zero).kind,zI<|(((p.getD k Fn.zero).outs).getD j Ex.zero).num,zI<|(((p.getD k Fn.zero).outs).getD j Ex.zero).pick,zI<|(((p.getD k Fn.zero).outs).getD j Ex.zero).count,a2]] Z Z Yl Ac (Ie _ dd24 a2 (((p.getD k Fn.zero).outs).getD j Ex.zero) (ag.ext av) oM) ?_
        rintro cp cq ⟨rfl,ae⟩
        refine⟨_,rfl,ae,?_⟩
        have bz:=ae.size
        have bp:=av.trans ae
        have an:=ak.ext ae
        have ao:=al.ext ae
        refine AG ((sz+((p.getD k Fn.zero).outs.getD j Ex.zero).size:Nat):Int) Z Z (Bc oM oM) Ac<|Ae 1 Z<|Ad _ [0,0] Z<|AG ((j+1:Nat):Int) Z Z (Bc oM sD) Ac<|Ae 1 Z ?_
        exact⟨(j+1,sz+((p.getD k Fn.zero).outs.getD j Ex.zero).size),_,rfl,zR,⟨bp,an,ao,sD,oM,(by exact Eo hqe (EO (by assumption)))⟩,zD⟩
       refine Ag (by first|rfl|exact zW b9)<|qD Z<|A3<|Aq<|AJ<|Aq<|Aq<|AJ<|Aq<|AJ<|Aq<|Aq<|AJ<|Aq ?_
       exact Ah [2] Z (.bool false) Z ⟨IM,av⟩
      refine Ay false Z Z (A8 b4) Ac<|Ai<|A0<|Aj Z<|A6<|At<|At<|An<|qC [0,0] Z ?_
      have hal:=Oh (l:=(p.getD k Fn.zero).outs) (k:=j) oM
      refine Af 1 Z ?_
      by_cases ba:((400:Nat):Int)<(sz:Int)
      ·exact C6 true Z Z (A7 ba) Ac<|Ai<|Ag Z<|qD Z<|A3<|AJ<|Aq<|Aq<|AJ<|Aq<|Ah [2] Z (.bool false) Z ⟨IM,ad⟩
      refine C6 false Z Z (A8 ba) Ac<|Ai<|Aj Z<|A4<|Ad _ [0,0] Z<|AG ((k+1:Nat):Int) Z Z (Bc oM sD) Ac<|Ae 1 Z ?_
      exact⟨k+1,_,rfl,zR,⟨ad,a1,sD,(by exact Eo hq (dY (EO (by assumption)) (by assumption) (EO (by assumption)) (EO (by assumption)) hqe oM oM))⟩,zD⟩
     exact Ag (by first|rfl|exact zW b3)<|qD Z<|A3<|Aq<|AJ<|Aq<|Aq<|AJ<|Aq<|Ah [2] Z (.bool false) Z ⟨IM,ac⟩
    exact Ae 6 Z<|Ag Z<|qD Z<|A3<|Aq<|AJ<|Aq<|Aq<|AJ<|Aq<|Ah [2] Z (.bool false) Z ⟨IM,ac⟩
   exact Ag (by first|rfl|exact zW b2)<|qD Z<|A3<|Aq<|AJ<|Aq<|Aq<|AJ<|Aq<|Ah [2] Z (.bool false) Z ⟨IM,ac⟩
  exact Ae 7 Z<|Ag Z<|qD Z<|A3<|Aq<|AJ<|Aq<|Aq<|AJ<|Aq<|Ah [2] Z (.bool false) Z ⟨IM,bd⟩
 exact Ay false Z Z (A8 bt) Ac<|Ai<|A0<|Aj Z<|A6<|At<|At<|An<|qD Z<|A3<|Ah [2] Z (.bool true) Z ⟨IM,ax⟩
theorem dZ {p:List Fn}{f:Int}(h:Ky p=false):1=Js p f:=by unfold Js;rw[h];rfl
theorem eA {p:List Fn}{f:Int}(h:Ky p=true)(h2:¬(0≤f∧f≤((p.length:Nat):Int)-1)):2=Js p f:=by unfold Js;rw[if_pos h,if_neg h2]
theorem eB {p:List Fn}{f:Int}(h:Ky p=true)(h2:0≤f∧f≤((p.length:Nat):Int)-1):0=Js p f:=by unfold Js;rw[if_pos h,if_pos h2]
theorem S5 {p:Prop}(h:p:=by first|exact B5 (dZ (GJ (by assumption)))|exact B5 (eA (EO (by assumption)) (R2 (GJ (by assumption))))|exact B5 (eB (EO (by assumption)) (Hx (EO (by assumption))))):p:=h
theorem Jz (w:World)(dp:Nat)(vp:Value)(p:List Fn)(f:Int)(hp:RP [] dp w.heap vp p)(_hf:BI f)(hz:PY p) :
  Calls Tryz.prog 100 #[(.agg #[vp]),zI f] w (fun e w'=>e=.returned (zI (Js p f))∧AB w w'):=by
 refine Au [.agg #[vp],zI f] 17 Tryz.func100 Z Z sM ?_
 have a8:AB w w:=AB.refl w
 have ad:=hp.lenle
 unfold maxLen at ad
 refine qC [3,0] Z (C9 (cs:=#[vp]) Z Ac fun w1 a4 ac a1=>?_)
 have a9:=a4.size
 have a5:=a8.trans a4
 replace a1:BX w1.heap w.heap.size [vp]:=a1
 refine Ae 1 Z<|A0<|A5<|qC [2,3,0,0] Z<|B2 (p:=zP w.heap.size) (.inr Z) [vp] D8 Z (fun ae aa=>LD.of_box<|BX.ext (w:=w1) a1 aa) Z Ac<|As 137 [] [] [.agg #[vp]] Z Z kR Ac (Jh _ dp vp (p) (hp.ext (Am<|AC dp) a5) hz) ?_
 rintro e2 w2 ⟨rfl,a2⟩
 refine⟨_,rfl,a2,?_⟩
 have ab:=a2.size
 have a3:=a5.trans a2
 have a0:=a1.ext a2
 refine BF (!(Ky p)) Z Z Ac<|Ae 1 Z ?_
 cases a6:(!(Ky p))
 ·refine Aj (by first|rfl|exact zW a6)<|qC [0,0,2,0,0,0,0,0] Z<|Af 1 Z<|Ap (p:=zP w.heap.size) 0 BP Z Z Ac<|Al (p:=AA (zP w.heap.size) 0) (.inr Z) vp Cp Z (a0.ldp (i:=0) sM) Ac<|AL (v:=vp) H1 Z hp.isSl Ac<|Cb ((p.length:Int)-1) Z Z (Do oM oM) Ac<|AD 117 [] [] [zI f,zI ((0:Nat):Int),zI ((p.length:Int)-1)] Z Z GQ Ac (.bool (decide (((0:Nat):Int)≤f) && decide (f≤((p.length:Int)-1)))) (fun wq=>BN wq _ _ _ _hf oM oM) ?_
  refine BF (!(decide (((0:Nat):Int)≤f) && decide (f≤((p.length:Int)-1)))) Z Z Ac<|Ae 1 Z ?_
  cases a7:(!(decide (((0:Nat):Int)≤f) && decide (f≤((p.length:Int)-1))))
  ·exact Aj (by first|rfl|exact zW a7)<|A4<|qD Z<|A3<|Ah [4] Z (zI ((0:Nat):Int)) Z ⟨S5,a3⟩
  exact Ag (by first|rfl|exact zW a7)<|qD Z<|A3<|AJ<|Aq<|Ah [4] Z (zI ((2:Nat):Int)) Z ⟨S5,a3⟩
 exact Ag (by first|rfl|exact zW a6)<|qD Z<|A3<|AJ<|Aq<|Ah [4] Z (zI ((1:Nat):Int)) Z ⟨S5,a3⟩
theorem eC {p:List Fn}{f:Int}{pr:Int→Int→Bool}(h:Js p f≠0):Js p f=Ge p f pr:=by unfold Ge;rw[if_neg h]
theorem mQ {p:List Fn}{f:Int}{pr:Int→Int→Bool}(h:Js p f=0)(h2:pr (p.getD f.toNat Fn.zero).params (((p.getD f.toNat Fn.zero).outs.length:Nat):Int)=false):2=Ge p f pr:=by unfold Ge;rw[if_pos h,h2];rfl
theorem mR {p:List Fn}{f:Int}{pr:Int→Int→Bool}(h:Js p f=0)(h2:pr (p.getD f.toNat Fn.zero).params (((p.getD f.toNat Fn.zero).outs.length:Nat):Int)=true):Js p f=Ge p f pr:=by unfold Ge;rw[if_pos h,h2,h];rfl
theorem S6 {p:Prop}(h:p:=by first|exact B5 (eC oM)|exact B5 (mQ oM (by assumption))|exact B5 (mR oM (by assumption))):p:=h
theorem LV (w:World) (dp:Nat) (vp:Value) (p:List Fn) (f:Int) (q:Nat) (qf qc:List Value) (pr:Int→Int→Bool) (hp:RP [] dp w.heap vp p) (_hf:BI f) (hcf_q:((Tryz.prog.funcs[q]?).map fun fn=>(fn.name != "runtime.NumGoroutine") && fn.body.isSome) = some true) (hpr:∀ (a b:Int) w1,(BI a)→(BI b)→Calls Tryz.prog q (qf++[Value.int .i64 a,Value.int .i64 b]++qc).toArray w1 (fun e w2=>e = .returned (.bool (pr a b))∧w2 = w1)) (hz:PY p) :
  Calls Tryz.prog 166 #[(.agg #[vp]),zI f,.func (.func q) qf.toArray qc.toArray] w (fun e w'=>e = .returned (zI (Ge p f pr))∧AB w w'):=by
 refine Au [.agg #[vp],zI f,.func (.func q) qf.toArray qc.toArray] 32 Tryz.func166 Z Z sM ?_
 have ad:AB w w:=AB.refl w
 have an:=hp.lenle
 unfold maxLen at an
 refine qC [3,0] Z (C9 (cs:=#[vp]) Z Ac fun w1 a8 ak a3=>?_)
 have ae:=a8.size
 have a9:=ad.trans a8
 replace a3:BX w1.heap w.heap.size [vp]:=a3
 refine Ae 1 Z<|qC [2,0,3,0] Z<|B2 (p:=zP w.heap.size) (.inr Z) [vp] D8 Z (fun ao af=>LD.of_box<|BX.ext (w:=w1) a3 af) Z Ac<|Af 1 Z<|As 100 [] [] [.agg #[vp],zI f] Z Z dB Ac (Jz _ dp vp (p) _ (hp.ext (Am<|AC dp) a9) _hf hz) ?_
 rintro e2 w2 ⟨rfl,a4⟩
 refine ⟨_,rfl,a4,?_⟩
 have ag:=a4.size
 have a1:=a9.trans a4
 have a0:=a3.ext a4
 refine Ae 1 Z<|A0<|A0<|AS _ [0,0,0,0,0,1,0,0,0,1,0,1,0,0,0,1,0,3,0,0] mixed (by kernel_rfl)<|Af 1 Z ?_
 by_cases aa:Js p f = ((0 :Nat):Int)
 ·
  refine Av true Z Z (A7 aa) Ac<|Af 2 Z ?_
  have al:=Xb (p:=p) (f:=f) oM
  refine Ap (p:=zP w.heap.size) 0 BP Z Z (Ak (e:=13) Z Z Z)<|Al (p:=AA (zP w.heap.size) 0) (.inl Z) vp Cp Z (a0.ldp (i:=0) sM) (Ak (e:=13) Z Z Z)<|Af 1 Z<|Aw (v:=vp) ((f).toNat) H1 CK Z Z hp.isSl oM sD (Ak (e:=13) Z Z Z) ?_
  obtain ⟨cs4,ah,a5⟩:=hp.get (AC dp) Fn.zero (k:=(f).toNat) sD
  obtain ⟨ab,rfl,a6⟩:=RF.of ah
  have a7:=a6.rn.lenle
  unfold maxLen at a7
  refine AO (p:=Ax vp ((f).toNat) 3) 1 CF Z (a5 _<|Az.of_ext [] a1.drew) (Ak (e:=13) Z Z Z)<|Al (p:=AA (Ax vp ((f).toNat) 3) 1) (.inl Z) (zI<|(p.getD ((f).toNat) Fn.zero).params) AN Z ((a5 _<|Az.of_ext [] a1.drew).ld (i:=1) (by simp [Dc,FS])) (Ak (e:=13) Z Z Z)<|Ap (p:=zP w.heap.size) 0 BP Z Z (Ak (e:=13) Z Z Z)<|Al (p:=AA (zP w.heap.size) 0) (.inl Z) vp Cp Z (a0.ldp (i:=0) sM) (Ak (e:=13) Z Z Z)<|Af 1 Z ?_
  refine Aw (v:=vp) ((f).toNat) H1 CK Z Z hp.isSl oM sD (Ak (e:=13) Z Z Z)<|AO (p:=Ax vp ((f).toNat) 3) 2 Ck Z (a5 _<|Az.of_ext [] a1.drew) (Ak (e:=13) Z Z Z)<|Al (p:=AA (Ax vp ((f).toNat) 3) 2) (.inl Z) ab BA Z ((a5 _<|Az.of_ext [] a1.drew).ld (i:=2) (by simp [Dc,FS])) (Ak (e:=13) Z Z Z)<|AL (v:=ab) DD Z a6.rn.isSl (Ak (e:=13) Z Z Z) ?_
  refine As q qf qc _ Z Z hcf_q (Ak (e:=13) Z Z Z) (hpr ((p.getD ((f).toNat) Fn.zero).params) ((((p.getD ((f).toNat) Fn.zero).outs).length :Nat):Int) _ a6.rng oM) ?_
  rintro e5 w5 ⟨rfl,ai⟩
  have a2:AB w2.drew w5:=by rw [ai]; exact AB.refl _
  refine ⟨_,rfl,a2,?_⟩
  replace a2:=a2.of_drew
  have aj:=a2.size
  have ac:=a1.trans a2
  cases am:pr ((p.getD ((f).toNat) Fn.zero).params) ((((p.getD ((f).toNat) Fn.zero).outs).length :Nat):Int)
  ·
   exact BF true Z Z (Ak (e:=13) Z Z Z)<|Ae 1 Z<|Ag Z<|Ad _ [0] Z<|Ae 1 Z<|qC [0,0] Z<|Ae 2 Z<|A3<|Ah [6] Z (zI ((2 :Nat):Int)) Z ⟨S6,ac⟩
  
  exact BF false Z Z (Ak (e:=13) Z Z Z)<|Ae 1 Z<|Aj Z<|A4<|qC [0,0] Z<|Ae 2 Z<|A3<|Ah [6] Z (zI<|Js p f) Z ⟨S6,ac⟩
 
 exact Av false Z Z (A8 aa) Ac<|Ae 18 Z<|Aj Z<|A4<|qC [0,0] Z<|Ae 2 Z<|A3<|Ah [6] Z (zI<|Js p f) Z ⟨S6,a1.drew⟩
theorem EI (w:World)(va:Value)(a:List (Sr))(ha:RN [] (B3 (B3 rI)) w.heap va a)(hqa:Cn va)(h1:0<a.length→0<(a.getD 0 []).length) :
  Calls Tryz.prog 172 #[va] w (fun e w'=>e=.returned (zI ((EQ a:Nat):Int))∧AB w w'):=by
 refine Au [va] 11 Tryz.func172 Z Z sM ?_
 have a0:AB w w:=AB.refl w
 have a6:=ha.lenL
 unfold maxLen at a6
 refine qD Z<|A0<|qC [0,0,0] Z<|Af 1 Z<|AL (v:=va) Bm Z ha.slL Ac ?_
 by_cases a2:(a.length:Int)=((0:Nat):Int)
 ·exact Av true Z Z (A7 a2) Ac<|Ai<|Ag Z<|qD Z<|A3<|Aq<|Ah [2] Z (zI ((0:Nat):Int)) Z ⟨B5 (by unfold EQ;have:a=[]:=List.eq_nil_of_length_eq_zero oM;subst this;rfl),a0⟩
 refine Av false Z Z (A8 a2) Ac<|Ai<|Aj Z<|A4<|qC [0,0,2,0,0,0] Z<|Af 1 Z<|Aw (v:=va) 0 Bm AV Z Z ha.slL Z sD Ac ?_
 obtain⟨a3,a5,a4⟩:=RN.getL (w:=w) g1 [] (k:=0) ha sD
 have a1:=a4.lenL
 unfold maxLen at a1
 exact Al (p:=Ax va 0 1) (.inr Z) a3 B7 Z (a5 _<|Az.of_ext [] a0) Ac<|AL (v:=a3) Bo Z a4.slL Ac<|Cb (((a.getD 0 []).length-1:Nat):Int) Z Z (by rw[Do oM oM];omega) Ac<|Ae 1 Z<|A3<|Ah [2] Z (zI (((a.getD 0 []).length-1:Nat):Int)) Z ⟨B5 Z,a0⟩
theorem YC {p:Prop}(h:p:=by unfold Z4;first|(rw[‹(decide (((1:Nat):Int)≤((a.length:Nat):Int)) && decide (((a.length:Nat):Int)≤((13:Nat):Int)))=false›];rfl)|(rw[‹(decide (((1:Nat):Int)≤((a.length:Nat):Int)) && decide (((a.length:Nat):Int)≤((13:Nat):Int)))=true›];simp)):p:=h
theorem JY (w:World)(va:Value)(a:Sr)(ha:Rd (B3 rI) w.heap va a)  :
  Calls Tryz.prog 227 #[va] w (fun e w'=>e=.returned (.bool (Z4 a))∧AB w w'):=by
 refine Au [va] 12 Tryz.func227 Z Z sM ?_
 have a0:AB w w:=AB.refl w
 have a5:=ha.lenle
 refine qD Z<|qC [0,0,0,0,0,0,0,3,0,0] Z<|Af 1 Z<|AL (v:=va) Bo Z ha.isSl Ac<|AD 117 [] [] [zI (a.length:Int),zI ((1:Nat):Int),zI ((13:Nat):Int)] Z Z GQ Ac (.bool (decide (((1:Nat):Int)≤(a.length:Int)) && decide ((a.length:Int)≤((13:Nat):Int)))) (fun wq=>BN wq _ _ _ oM oM oM)<|Af 1 Z ?_
 cases a4:(decide (((1:Nat):Int)≤(a.length:Int)) && decide ((a.length:Int)≤((13:Nat):Int)))
 ·exact Ae 6 Z<|A3<|Ah [2] Z (.bool false) Z ⟨AH YC,a0⟩
 refine Af 2 Z<|AL (v:=va) Bo Z ha.isSl (Ak (e:=6) Z Z Z)<|As 86 [] [] [va,zI (a.length:Int)] Z Z gU (Ak (e:=6) Z Z Z) (EH _ _ _ _ (ha.ext g1 a0) oM) ?_
 rintro e3 w3 ⟨rfl,a1⟩
 refine⟨_,rfl,a1,?_⟩
 have a2:=a1.size
 have a3:=a0.trans a1
 exact Ae 2 Z<|A3<|Ah [2] Z (.bool (decide ((a.length:Int)=(a.length:Int)) && B8 a)) Z ⟨AH YC,a3⟩
theorem Nu (w:World)(va:Value)(a:List (Sr))(n:Int)(ha:Rd (B3 (B3 rI)) w.heap va a)(_hn:BI n)  :
  Calls Tryz.prog 180 #[va,zI n] w (fun e w'=>e=.returned (.bool (Lh a && decide ((a.length:Int)=n)))∧AB w w'):=by
 refine Au [va,zI n] 30 Tryz.func180 Z Z sM ?_
 have a5:AB w w:=AB.refl w
 have ai:=ha.lenle
 refine qD Z<|A0<|qC [0,0,0] Z<|Af 1 Z<|AL (v:=va) Bm Z ha.isSl Ac<|Ae 1 Z<|A5 ?_
 refine AR (S:=Nat) (fun k=>([(9,zI (k:Int)),(0,va),(1,zI n),(7,va),(8,zI (a.length:Int))])) (fun k W=>AB w W∧k≤a.length∧((a.take k).all (NV (a.getD 0 []).length)=true)) (fun k=>a.length-k) 0 ⟨rfl,rfl,rfl,rfl,rfl,trivial⟩ ⟨a5,sD,rfl⟩ ?_
 clear a5
 rintro k ρ1 w1 ⟨a0,a6,hq⟩
 have ab:w.heap.size≤w1.heap.size:=a0.size
 refine qC [0] Z ?_
 by_cases a7:(k:Int)<(a.length:Int)
 ·refine Ay true Z Z (A7 a7) Ac<|Ai<|A0<|Ag Z<|A4<|A0<|A5<|qC [0,2,0] Z<|Aw (v:=va) k Bm AV Z Z ha.isSl Z sD Ac ?_
  obtain⟨a2,ac,a3⟩:=ha.get (k:=k) [] sD
  have ad:=a3.lenle
  refine Al (p:=Ax va k 1) (.inr Z) a2 B7 Z (AQ a0 ac) Ac<|Ae 1 Z<|qC [0,3,0,0,0,0,0,0,2,0,0,0] Z<|Af 1 Z<|As 227 [] [] [a2] Z Z lS Ac (JY _ _ _<|a3.ext g1 a0) ?_
  rintro e4 w4 ⟨rfl,a4⟩
  refine⟨_,rfl,a4,?_⟩
  have ae:=a4.size
  have a1:=a0.trans a4
  refine BF (!(Z4<|a.getD k [])) Z Z Ac<|Af 1 Z ?_
  cases ah:(!(Z4 (a.getD k [])))
  ·refine Af 1 Z<|AL (v:=a2) Bo Z a3.isSl (Ak (e:=16) Z Z Z)<|Af 1 Z<|Aw (v:=va) 0 Bm AV Z Z ha.isSl Z sD (Ak (e:=16) Z Z Z) ?_
   obtain⟨a8,af,a9⟩:=ha.get (k:=0) [] sD
   have ag:=a9.lenle
   refine Al (p:=Ax va 0 1) (.inr Z) a8 B7 Z (AQ a1 af) (Ak (e:=16) Z Z Z)<|AL (v:=a8) Bo Z a9.isSl (Ak (e:=16) Z Z Z) ?_
   by_cases aa:(((a.getD k []).length:Nat):Int)≠(((a.getD 0 []).length:Nat):Int)
   ·exact B4 true Z Z (A7 aa) (Ak (e:=16) Z Z Z)<|Ae 1 Z<|Ag Z<|qD Z<|A3<|AJ<|Aq<|Aq<|AJ<|Aq<|Ah [4] Z (.bool false) Z ⟨AH (by unfold Lh;rw[MH (f:=NV (a.getD 0 []).length) (k:=k) [] oM (by unfold NV;rw[Bool.and_eq_false_iff];right;exact A8 oM)];rfl),a1⟩
   refine B4 false Z Z (A8 aa) (Ak (e:=16) Z Z Z)<|Ae 1 Z<|Aj Z<|A4<|Ad _ [0,0] Z<|AG ((k+1:Nat):Int) Z Z (Bc oM sD) Ac<|Ae 1 Z ?_
   exact⟨k+1,_,rfl,zR,⟨a1,sD,(by exact Qf (f:=NV (a.getD 0 []).length) [] hq oM (by unfold NV;simp only[z7,decide_eq_true_eq];exact⟨by simpa using ‹(!Z4 (a.getD k []))=false›,zO⟩))⟩,zD⟩
  exact Ae 8 Z<|Ag Z<|qD Z<|A3<|AJ<|Aq<|Aq<|AJ<|Aq<|Ah [4] Z (.bool false) Z ⟨AH (by unfold Lh;rw[MH (f:=NV (a.getD 0 []).length) (k:=k) [] oM (by unfold NV;rw[Bool.and_eq_false_iff];left;simpa using ‹(!Z4 (a.getD k []))=true›)];rfl),a1⟩
 exact Ay false Z Z (A8 a7) Ac<|Ai<|A0<|Aj Z<|A6<|At<|At<|An<|qC [0,0,0,0,0] Z<|Af 1 Z<|AL (v:=va) Bm Z ha.isSl Ac<|Af 1 Z<|Av (decide ((a.length:Int)=n)) Z Z Z Ac<|Ae 1 Z<|A3<|Ah [4] Z (.bool<|decide ((a.length:Int)=n)) Z ⟨AH (by unfold Lh;rw[Qg hq oM,Bool.true_and]),a0⟩
theorem eD {p:Prop}(h:p:=by first|(rw[A7 (show((3000:Nat):Int)<((cs.length:Nat):Int) by assumption)];rfl)|(rw[A8 (show ¬((3000:Nat):Int)<((cs.length:Nat):Int) by assumption),Bool.false_or])):p:=h
theorem O0 (w:World)(vc:Value)(cs:List UInt8)(vd:Value)(ds:List UInt8)(hcs:Rd (B3 rU) w.heap vc cs)(hds:Rd (B3 rU) w.heap vd ds)  :
  Calls Tryz.prog 12 #[vc,vd] w (fun e w'=>e=.returned (.bool (decide (((3000:Nat):Int)<(cs.length:Int)) || decide (((3000:Nat):Int)<(ds.length:Int))))∧AB w w'):=by
 refine Au [vc,vd] 13 Tryz.func12 Z Z sM ?_
 have a0:AB w w:=AB.refl w
 have a2:=hcs.lenle
 have a3:=hds.lenle
 refine qD Z<|qC [0,0,0,0,0,0,0,0,0] Z<|Af 1 Z<|AL (v:=vc) TV Z hcs.isSl Ac ?_
 by_cases a1:((3000:Nat):Int)<(cs.length:Int)
 ·exact C6 true Z Z (A7 a1) Ac<|Ae 6 Z<|A3<|Ah [4] Z (.bool true) Z ⟨AH eD,a0⟩
 exact C6 false Z Z (A8 a1) Ac<|Af 2 Z<|AL (v:=vd) TV Z hds.isSl (Ak (e:=8) Z Z Z)<|C6 (decide (((3000:Nat):Int)<(ds.length:Int))) Z Z Z (Ak (e:=8) Z Z Z)<|Ae 2 Z<|A3<|Ah [4] Z (.bool<|decide (((3000:Nat):Int)<(ds.length:Int))) Z ⟨AH eD,a0⟩
def Ds (cs:List UInt8)(k n:Int):Int:=if ((cs.length:Nat):Int)≤k∨n<1 then 0 else(((cs.getD k.toNat 0).toNat:Nat):Int) % n
theorem R3 (cs:List UInt8)(k n:Int):0≤Ds cs k n∧(1≤n→Ds cs k n<n):=by
  unfold Ds
  split
  · omega
  · rename_i h
    exact⟨Int.emod_nonneg _ zO,fun _=>Int.emod_lt_of_pos _ zO⟩
theorem YD {p:Prop}(h:p:=by unfold Ds;split <;> first|rfl|(exfalso;omega)):p:=h
theorem IN (w:World)(vc:Value)(cs:List UInt8)(k:Int)(n:Int)(hcs:Rd (B3 rU) w.heap vc cs)(_hk:BI k)(_hn:BI n)(hk:0≤k) :
  Calls Tryz.prog 15 #[vc,zI k,zI n] w (fun e w'=>e=.returned (zI (Ds cs k n))∧AB w w'):=by
 refine Au [vc,zI k,zI n] 22 Tryz.func15 Z Z sM ?_
 have a0:AB w w:=AB.refl w
 have a3:=hcs.lenle
 refine qD Z<|A0<|qC [0,0,0,0,0,0,0,0] Z<|Af 2 Z<|AL (v:=vc) TV Z hcs.isSl Ac ?_
 by_cases a1:(cs.length:Int)≤k
 ·exact Fy true Z Z (A7 a1) Ac<|Ae 4 Z<|Ag Z<|qD Z<|A3<|Aq<|Ah [6] Z (zI ((0:Nat):Int)) Z ⟨B5 YD,a0⟩
 refine Fy false Z Z (A8 a1) Ac<|Af 2 Z ?_
 by_cases a2:n<((1:Nat):Int)
 ·exact Ay true Z Z (A7 a2) (Ak (e:=11) Z Z Z)<|Ae 1 Z<|Ag Z<|qD Z<|A3<|Aq<|Ah [6] Z (zI ((0:Nat):Int)) Z ⟨B5 YD,a0⟩
 refine Ay false Z Z (A8 a2) (Ak (e:=11) Z Z Z)<|Ae 1 Z<|Aj Z<|A4<|qC [0,0,0,2,0,0,0,0] Z<|Af 2 Z<|Aw (v:=vc) ((k).toNat) TV pX Z Z hcs.isSl oM sD Ac ?_
 refine Al (p:=Ax vc ((k).toNat) 1) (.inr Z) (.int .u8 ((cs.getD ((k).toNat) 0).toNat:Int)) mG Z (AQ a0 (hcs.getU sD).1) Ac<|JH ((cs.getD ((k).toNat) 0).toNat:Int) u5 u2 Z (w8 _) Ac<|Af 1 Z<|E5 (((cs.getD ((k).toNat) 0).toNat:Int) % n) Z Z oM (Int.tmod_eq_emod_of_nonneg oM) Ac<|Ae 1 Z<|A3 ?_
 exact Ah [6] Z (zI (((cs.getD ((k).toNat) 0).toNat:Int) % n)) Z ⟨B5 YD,a0⟩
theorem JA (w:World)(va:Value)(a:Sr)(vb:Value)(b:Sr)(ha:Rd (B3 rI) w.heap va a)(hb:Rd (B3 rI) w.heap vb b)  :
  Calls Tryz.prog 22 #[va,vb] w (fun e w'=>e=.returned (.bool (decide (a=b)))∧AB w w'):=by
 refine Au [va,vb] 26 Tryz.func22 Z Z sM ?_
 have a1:AB w w:=AB.refl w
 have a7:=ha.lenle
 have a8:=hb.lenle
 refine qD Z<|A0<|qC [0,0,0,0,0] Z<|Af 1 Z<|AL (v:=va) Bo Z ha.isSl Ac<|Af 1 Z<|AL (v:=vb) Bo Z hb.isSl Ac ?_
 by_cases a2:(a.length:Int)≠(b.length:Int)
 ·exact B4 true Z Z (A7 a2) Ac<|Ai<|Ag Z<|qD Z<|A3<|Aq<|Ah [4] Z (.bool false) Z ⟨AH (A8<|Zf oM).symm,a1⟩
 refine B4 false Z Z (A8 a2) Ac<|Ai<|Aj Z<|A4<|A0<|qD Z<|A5<|AR (S:=Nat) (fun k=>([(5,zI (k:Int)),(0,va),(1,vb)])) (fun k W=>AB w W∧k≤a.length∧(∀j,j<k→a.getD j 0=b.getD j 0)) (fun k=>a.length-k) 0 ⟨rfl,rfl,rfl,trivial⟩ ⟨a1,sD,(by intro j hj;omega)⟩ ?_
 clear a1
 rintro k ρ2 w2 ⟨a0,a3,hq⟩
 have a6:w.heap.size≤w2.heap.size:=a0.size
 refine A0<|qC [0,0,0,0] Z<|Af 2 Z<|AL (v:=va) Bo Z ha.isSl Ac ?_
 by_cases a4:(k:Int)<(a.length:Int)
 ·refine Ay true Z Z (A7 a4) Ac<|Ai<|Ag Z<|A4<|A0<|A5<|A0<|AS _ [0,0,0,1,0,0,0,1,0] mixed (by kernel_rfl)<|Af 2 Z<|Aw (v:=va) k Bo BQ Z Z ha.isSl Z sD Ac ?_
  refine Al (p:=Ax va k 1) (.inl Z) (zI<|a.getD k 0) AN Z (AQ a0.drew (ha.getI sD).1) Ac<|Af 2 Z ?_
  refine Aw (v:=vb) k Bo BQ Z Z hb.isSl Z sD Ac ?_
  refine Al (p:=Ax vb k 1) (.inl Z) (zI<|b.getD k 0) AN Z (AQ a0.drew (hb.getI sD).1) Ac ?_
  by_cases a5:a.getD k 0≠b.getD k 0
  ·exact B4 true Z Z (A7 a5) Ac<|Ai<|Ag Z<|qD Z<|A3<|AJ<|Aq<|Aq<|AJ<|Aq<|Ah [4] Z (.bool false) Z ⟨AH (A8<|Vg (d:=0) (k:=k) oM).symm,a0.drew⟩
  refine B4 false Z Z (A8 a5) Ac<|Ai<|Aj Z<|A4<|Ad _ [0,0,0] Z<|Af 1 Z<|AG ((k+1:Nat):Int) Z Z (Bc oM sD) Ac<|Ae 1 Z ?_
  exact⟨k+1,_,rfl,zR,⟨a0.drew,sD,(by exact Vf hq oM)⟩,zD⟩
 exact Ay false Z Z (A8 a4) Ac<|Ai<|Aj Z<|A6<|At<|At<|An<|qD Z<|A3<|Ah [4] Z (.bool true) Z ⟨AH (A7<|Hd hq oM oM).symm,a0⟩
theorem PP {p:Prop}(h:p:=by first|omega|exact Sy _):p:=h
theorem CR {p:Prop}(h:p:=by kernel_rfl):p:=h
theorem Gy (w:World)(g:Nat)(sv:Value)(cs:List UInt8)(n0:Nat)(hs:ET w.heap g sv cs n0)(al:n0+1≤1000000000000)  :
  Calls Tryz.prog 151 #[zP g] w (fun e w'=>∃(x0:Int) (n1:Nat),e=.returned (zI x0)∧Az [g] w w'∧ET w'.heap g sv cs n1∧(n0≤n1∧n1≤n0+1)∧(0≤x0∧x0≤255)):=by
 refine Au [zP g] 62 Tryz.func151 Z Z sM ?_
 have a2:Az [g] w w:=Az.refl [g] w
 have aq:=hs.lt
 obtain⟨sd,hbx,hrs⟩:=hs.parts
 have hl_sv:=(hrs _<|Az.refl [g] w).lenle
 refine qD Z<|qD Z<|A0<|A0<|AS _ [0,0,0,1,0,0,0,1,0,0] mixed CR<|Af 1 Z<|Bd Z Ac<|EP 1 CR Z Ac<|Al (p:=.pointer<|some ⟨g,1,none⟩) (.inl Z) (zI (n0:Int)) NY Z (hbx.ld (k:=1) sM) Ac<|Af 1 Z<|Bd Z Ac<|EP 0 CR Z Ac<|Al (p:=zP g) (.inl Z) sv TU Z (hbx.ld (k:=0) sM) Ac<|AL (v:=sv) TV Z (hrs _ a2.drew).isSl Ac ?_
 by_cases aa:(n0:Int)<(cs.length:Int)
 ·refine Ay true Z Z (A7 aa) Ac<|Ai<|Ag Z<|AS _ [0,0,0,1,0,0,0,1,0,1,0,0] mixed CR<|Af 1 Z<|Bd Z Ac<|EP 0 CR Z Ac<|Al (p:=zP g) (.inl Z) sv TU Z (hbx.ld (k:=0) sM) Ac<|Af 1 Z<|Bd Z Ac<|EP 1 CR Z Ac<|Al (p:=.pointer<|some ⟨g,1,none⟩) (.inl Z) (zI (n0:Int)) NY Z (hbx.ld (k:=1) sM) Ac ?_
  refine Aw (v:=sv) n0 TV pX Z Z (hrs _ a2.drew.drew).isSl Z sD Ac ?_
  refine Al (p:=Ax sv n0 1) (.inl Z) (.int .u8 ((cs.getD n0 0).toNat:Int)) mG Z ((hrs _ a2.drew.drew).getU sD).1 Ac (JH ((cs.getD n0 0).toNat:Int) u5 u3 Z (w8 _) Ac<|Ae 1 Z<|qC [0,0,0,2,0,0,0,4] Z<|Af 1 Z<|Bd Z Ac<|EP 1 CR Z Ac<|Al (p:=.pointer<|some ⟨g,1,none⟩) (.inr Z) (zI (n0:Int)) NY Z (hbx.ld (k:=1) sM) Ac ?_)
  refine AG ((n0+1:Nat):Int) Z Z (Bc oM sD) Ac<|Bd Z Ac<|EP 1 CR Z Ac (BB (w:=w.drew.drew) qJ Z Z ⟨rfl,rfl⟩ hbx sM Ac fun w2 a3 am ad=>?_)
  replace a3:=a3.of_drew
  replace a3:=a3.of_drew
  have ae:Az [g] w w2:=a2.trans a3
  have a4:BX w2.heap g [sv,zI ((n0+1:Nat):Int),.int .u64 sd]:=ad
  refine Ai<|qC [0,0,0,0,2,0,0,0,0,0,0,0,4] Z<|Af 2 Z<|Bd Z Ac<|EP 2 CR Z Ac<|Al (p:=.pointer<|some ⟨g,2,none⟩) (.inr Z) (.int .u64 sd) PF Z (a4.ld (k:=2) sM) Ac<|FR (IntKind.u64.wrap (sd*6364136223846793005)) Z Z Z Ac<|Af 1 Z<|JH (IntKind.u64.wrap ((cs.getD n0 0).toNat:Int)) u3 aQ Z Z Ac<|AG (IntKind.u64.wrap ((IntKind.u64.wrap (sd*6364136223846793005))+(IntKind.u64.wrap ((cs.getD n0 0).toNat:Int)))) Z Z Z Ac<|AG (IntKind.u64.wrap ((IntKind.u64.wrap ((IntKind.u64.wrap (sd*6364136223846793005))+(IntKind.u64.wrap ((cs.getD n0 0).toNat:Int))))+1442695040888963407)) Z Z Z Ac<|Bd Z Ac ?_
  refine EP 2 CR Z Ac (BB (w:=w2) dV Z Z ⟨rfl,rfl⟩ a4 sM Ac fun w3 af an ag=>?_)
  have a5:Az [g] w w3:=ae.trans af
  have a0:BX w3.heap g [sv,zI ((n0+1:Nat):Int),.int .u64 (IntKind.u64.wrap ((IntKind.u64.wrap ((IntKind.u64.wrap (sd*6364136223846793005))+(IntKind.u64.wrap ((cs.getD n0 0).toNat:Int))))+1442695040888963407))]:=ag
  refine Ai<|A0<|A0<|AS _ [0,0,0,1,0,0,0,1,0,0] mixed CR<|Af 1 Z<|Bd Z Ac<|EP 1 CR Z Ac<|Al (p:=.pointer<|some ⟨g,1,none⟩) (.inl Z) (zI ((n0+1:Nat):Int)) NY Z (a0.ld (k:=1) sM) Ac<|Af 1 Z<|Bd Z Ac<|EP 0 CR Z Ac<|Al (p:=zP g) (.inl Z) sv TU Z (a0.ld (k:=0) sM) Ac<|AL (v:=sv) TV Z (hrs _ a5.drew).isSl Ac ?_
  by_cases ab:((n0+1:Nat):Int)≤(cs.length:Int)
  ·refine DE true Z Z (A7 ab) Ac<|Ai<|Ag Z<|qC [0,0] Z<|Ae 2 Z<|A3<|Aq ?_
   have a8:=Sx<|cs.getD n0 0
   exact Ah [2] Z (zI ((cs.getD n0 0).toNat:Int)) Z ⟨((cs.getD n0 0).toNat:Int),n0+1,rfl,a5.drew,hs.close a5.drew a0,⟨zO,zO⟩,PP⟩
  refine DE false Z Z (A8 ab) Ac<|Ai<|Aj Z<|A4<|qC [0,0,0,2,0,0,0,0] Z<|Af 1 Z<|Bd Z Ac<|EP 2 CR Z Ac<|Al (p:=.pointer<|some ⟨g,2,none⟩) (.inr Z) (.int .u64<|IntKind.u64.wrap ((IntKind.u64.wrap ((IntKind.u64.wrap (sd*6364136223846793005))+(IntKind.u64.wrap ((cs.getD n0 0).toNat:Int))))+1442695040888963407)) PF Z (a0.ld (k:=2) sM) Ac<|bI ((IntKind.u64.wrap ((IntKind.u64.wrap ((IntKind.u64.wrap (sd*6364136223846793005))+(IntKind.u64.wrap ((cs.getD n0 0).toNat:Int))))+1442695040888963407)).fdiv (2 ^ (min (40:Int).toNat (IntKind.u64).bits))) Z Z oM Z Ac<|bK Z Z Ac ?_
  refine JH (JK .u64 ((IntKind.u64.wrap ((IntKind.u64.wrap ((IntKind.u64.wrap (sd*6364136223846793005))+(IntKind.u64.wrap ((cs.getD n0 0).toNat:Int))))+1442695040888963407)).fdiv (2 ^ (min (40:Int).toNat (IntKind.u64).bits))) 255) aQ u2 Z (iR _) Ac<|Ae 1 Z<|A3 ?_
  have a8:=Sx<|cs.getD n0 0
  exact Ah [2] Z (zI<|JK .u64 ((IntKind.u64.wrap ((IntKind.u64.wrap ((IntKind.u64.wrap (sd*6364136223846793005))+(IntKind.u64.wrap ((cs.getD n0 0).toNat:Int))))+1442695040888963407)).fdiv (2 ^ (min (40:Int).toNat (IntKind.u64).bits))) 255) Z ⟨JK .u64 ((IntKind.u64.wrap ((IntKind.u64.wrap ((IntKind.u64.wrap (sd*6364136223846793005))+(IntKind.u64.wrap ((cs.getD n0 0).toNat:Int))))+1442695040888963407)).fdiv (2 ^ (min (40:Int).toNat (IntKind.u64).bits))) 255,n0+1,rfl,a5.drew,hs.close a5.drew a0,⟨zO,zO⟩,PP⟩
 refine Ay false Z Z (A8 aa) Ac<|Ai<|Aj Z<|A4<|qC [0,0,0,2,0,0,0,4] Z<|Af 1 Z<|Bd Z Ac<|EP 1 CR Z Ac<|Al (p:=.pointer<|some ⟨g,1,none⟩) (.inr Z) (zI (n0:Int)) NY Z (hbx.ld (k:=1) sM) Ac<|AG ((n0+1:Nat):Int) Z Z (Bc oM sD) Ac<|Bd Z Ac ?_
 refine EP 1 CR Z Ac (BB (w:=w.drew) qJ Z Z ⟨rfl,rfl⟩ hbx sM Ac fun w5 a9 ao ah=>?_)
 replace a9:=a9.of_drew
 have ai:Az [g] w w5:=a2.trans a9
 have a6:BX w5.heap g [sv,zI ((n0+1:Nat):Int),.int .u64 sd]:=ah
 refine Ai<|qC [0,0,0,0,2,0,0,0,0,0,0,0,4] Z<|Af 2 Z<|Bd Z Ac<|EP 2 CR Z Ac<|Al (p:=.pointer<|some ⟨g,2,none⟩) (.inr Z) (.int .u64 sd) PF Z (a6.ld (k:=2) sM) Ac<|FR (IntKind.u64.wrap (sd*6364136223846793005)) Z Z Z Ac<|Af 1 Z<|JH (IntKind.u64.wrap ((0:Nat):Int)) u3 aQ Z Z Ac<|AG (IntKind.u64.wrap ((IntKind.u64.wrap (sd*6364136223846793005))+(IntKind.u64.wrap ((0:Nat):Int)))) Z Z Z Ac<|AG (IntKind.u64.wrap ((IntKind.u64.wrap ((IntKind.u64.wrap (sd*6364136223846793005))+(IntKind.u64.wrap ((0:Nat):Int))))+1442695040888963407)) Z Z Z Ac<|Bd Z Ac<|EP 2 CR Z Ac ?_
 refine BB (w:=w5) dV Z Z ⟨rfl,rfl⟩ a6 sM Ac fun w6 aj ap ak=>?_
 have a7:Az [g] w w6:=ai.trans aj
 have a1:BX w6.heap g [sv,zI ((n0+1:Nat):Int),.int .u64 (IntKind.u64.wrap ((IntKind.u64.wrap ((IntKind.u64.wrap (sd*6364136223846793005))+(IntKind.u64.wrap ((0:Nat):Int))))+1442695040888963407))]:=ak
 refine Ai<|A0<|A0<|AS _ [0,0,0,1,0,0,0,1,0,0] mixed CR<|Af 1 Z<|Bd Z Ac<|EP 1 CR Z Ac<|Al (p:=.pointer<|some ⟨g,1,none⟩) (.inl Z) (zI ((n0+1:Nat):Int)) NY Z (a1.ld (k:=1) sM) Ac<|Af 1 Z<|Bd Z Ac<|EP 0 CR Z Ac<|Al (p:=zP g) (.inl Z) sv TU Z (a1.ld (k:=0) sM) Ac<|AL (v:=sv) TV Z (hrs _ a7.drew).isSl Ac ?_
 by_cases ac:((n0+1:Nat):Int)≤(cs.length:Int)
 ·refine DE true Z Z (A7 ac) Ac<|Ai<|Ag Z<|qC [0,0] Z<|Ae 2 Z<|A3<|Aq ?_
  have a8:=Sx<|cs.getD n0 0
  exact Ah [2] Z (zI ((0:Nat):Int)) Z ⟨((0:Nat):Int),n0+1,rfl,a7.drew,hs.close a7.drew a1,⟨zO,zO⟩,PP⟩
 refine DE false Z Z (A8 ac) Ac<|Ai<|Aj Z<|A4<|qC [0,0,0,2,0,0,0,0] Z<|Af 1 Z<|Bd Z Ac<|EP 2 CR Z Ac<|Al (p:=.pointer<|some ⟨g,2,none⟩) (.inr Z) (.int .u64<|IntKind.u64.wrap ((IntKind.u64.wrap ((IntKind.u64.wrap (sd*6364136223846793005))+(IntKind.u64.wrap ((0:Nat):Int))))+1442695040888963407)) PF Z (a1.ld (k:=2) sM) Ac<|bI ((IntKind.u64.wrap ((IntKind.u64.wrap ((IntKind.u64.wrap (sd*6364136223846793005))+(IntKind.u64.wrap ((0:Nat):Int))))+1442695040888963407)).fdiv (2 ^ (min (40:Int).toNat (IntKind.u64).bits))) Z Z oM Z Ac<|bK Z Z Ac ?_
 refine JH (JK .u64 ((IntKind.u64.wrap ((IntKind.u64.wrap ((IntKind.u64.wrap (sd*6364136223846793005))+(IntKind.u64.wrap ((0:Nat):Int))))+1442695040888963407)).fdiv (2 ^ (min (40:Int).toNat (IntKind.u64).bits))) 255) aQ u2 Z (iR _) Ac<|Ae 1 Z<|A3 ?_
 have a8:=Sx<|cs.getD n0 0
 exact Ah [2] Z (zI<|JK .u64 ((IntKind.u64.wrap ((IntKind.u64.wrap ((IntKind.u64.wrap (sd*6364136223846793005))+(IntKind.u64.wrap ((0:Nat):Int))))+1442695040888963407)).fdiv (2 ^ (min (40:Int).toNat (IntKind.u64).bits))) 255) Z ⟨JK .u64 ((IntKind.u64.wrap ((IntKind.u64.wrap ((IntKind.u64.wrap (sd*6364136223846793005))+(IntKind.u64.wrap ((0:Nat):Int))))+1442695040888963407)).fdiv (2 ^ (min (40:Int).toNat (IntKind.u64).bits))) 255,n0+1,rfl,a7.drew,hs.close a7.drew a1,⟨zO,zO⟩,PP⟩
theorem YE {p:Prop}(h:p:=by first|omega|exact⟨Int.emod_nonneg _ oM,Int.le_of_lt (Int.lt_of_lt_of_le (Int.emod_lt_of_pos _ oM) oM),fun _=>Int.emod_lt_of_pos _ oM⟩):p:=h
theorem B6 (w:World)(g:Nat)(sv:Value)(cs:List UInt8)(n0:Nat)(k:Int)(hs:ET w.heap g sv cs n0)(ad:n0+2≤1000000000000)(_hk:BI k)(hk:k≤1000000) :
  Calls Tryz.prog 68 #[zP g,zI k] w (fun e w'=>∃(x0:Int) (n1:Nat),e=.returned (zI x0)∧Az [g] w w'∧ET w'.heap g sv cs n1∧(n0≤n1∧n1≤n0+2)∧(0≤x0∧x0≤1000000∧(1≤k→x0<k))):=by
 refine Au [zP g,zI k] 20 Tryz.func68 Z Z sM ?_
 have a0:Az [g] w w:=Az.refl [g] w
 have ai:=hs.lt
 refine qD Z<|A0<|qC [0,0] Z<|Af 1 Z ?_
 by_cases a1:k≤((1:Nat):Int)
 ·exact DE true Z Z (A7 a1) Ac<|Ai<|Ag Z<|qD Z<|A3<|Aq<|Ah [4] Z (zI ((0:Nat):Int)) Z ⟨((0:Nat):Int),n0,rfl,a0,hs,⟨zO,zO⟩,YE⟩
 refine DE false Z Z (A8 a1) Ac<|Ai<|Aj Z<|A4<|qC [0,4,0] Z<|Af 1 Z<|AE 151 [] [] [zP g] Z Z dE Ac (Gy _ g _ _ _ hs oM) ?_
 rintro e2 w2 ⟨ag,n2,rfl,a2,a3,ae,a4⟩
 refine⟨_,rfl,?_⟩
 have a9:=a2.size
 have a5:Az [g] w w2:=a0.trans a2
 refine Ae 1 Z<|A0<|qC [0,0] Z<|Af 1 Z ?_
 by_cases a6:((200:Nat):Int)<k
 ·refine C6 true Z Z (A7 a6) Ac<|Ai<|Ag Z<|Ad _ [0,0,0,4,0,0] Z<|Af 1 Z ?_
  refine FR (ag*((256:Nat):Int)) Z Z (Do sD sD) Ac<|Af 1 Z ?_
  refine AE 151 [] [] [zP g] Z Z dE Ac (Gy _ g _ _ _ a3 oM) ?_
  rintro e4 w4 ⟨ah,n4,rfl,a7,aa,af,a8⟩
  refine⟨_,rfl,?_⟩
  have ab:=a7.size
  have ac:Az [g] w w4:=a5.trans a7
  refine AG ((ag*((256:Nat):Int))+ah) Z Z (Do sD sD) Ac<|Ae 1 Z<|qC [0,0,0,0] Z ?_
  exact Af 2 Z<|E5 (((ag*((256:Nat):Int))+ah) % k) Z Z oM (Int.tmod_eq_emod_of_nonneg oM) Ac<|Ae 1 Z<|A3<|Ah [4] Z (zI (((ag*((256:Nat):Int))+ah) % k)) Z ⟨((ag*((256:Nat):Int))+ah) % k,n4,rfl,ac,aa,⟨zO,zO⟩,YE⟩
 exact C6 false Z Z (A8 a6) Ac<|Ai<|Aj Z<|A4<|qC [0,0,0,0] Z<|Af 2 Z<|E5 ((ag) % k) Z Z oM (Int.tmod_eq_emod_of_nonneg oM) Ac<|Ae 1 Z<|A3<|Ah [4] Z (zI ((ag) % k)) Z ⟨(ag) % k,n2,rfl,a5,a3,⟨zO,zO⟩,YE⟩
theorem CW (w:World)(g:Nat)(sv:Value)(cs:List UInt8)(n0:Nat)(k:Int)(hs:ET w.heap g sv cs n0)(a6:n0+2≤1000000000000)(_hk:BI k)(hk:k≤1000000) :
  Calls Tryz.prog 122 #[zP g,zI k] w (fun e w'=>∃(x0:Bool) (n1:Nat),e=.returned (.bool x0)∧Az [g] w w'∧ET w'.heap g sv cs n1∧(n0≤n1∧n1≤n0+2)∧True):=by
 refine Au [zP g,zI k] 9 Tryz.func122 Z Z sM ?_
 have a2:Az [g] w w:=Az.refl [g] w
 have a9:=hs.lt
 refine qD Z<|qC [0,0,4,0,0] Z<|Af 2 Z<|AE 68 [] [] [zP g,zI k] Z Z Il Ac (B6 _ g _ _ _ _ hs oM _hk sD) ?_
 rintro e1 w1 ⟨a8,n1,rfl,a0,a3,a7,a1⟩
 refine⟨_,rfl,?_⟩
 have a4:=a0.size
 have a5:Az [g] w w1:=a2.trans a0
 exact Av (decide (a8=((0:Nat):Int))) Z Z Z Ac<|Ae 1 Z<|A3<|Ah [4] Z (.bool<|decide (a8=((0:Nat):Int))) Z ⟨decide (a8=((0:Nat):Int)),n1,rfl,a5,a3,⟨zO,zO⟩,(by trivial)⟩
theorem H3 (w:World)(g:Nat)(sv:Value)(cs:List UInt8)(n0:Nat)(hs:ET w.heap g sv cs n0)(az:n0+8≤1000000000000)  :
  Calls Tryz.prog 152 #[zP g] w (fun e w'=>∃(x0:Int) (n1:Nat),e=.returned (zI x0)∧Az [g] w w'∧ET w'.heap g sv cs n1∧(n0≤n1∧n1≤n0+8)∧(0≤x0∧x0<1000003)):=by
 refine Au [zP g] 25 Tryz.func152 Z Z sM ?_
 have ag:Az [g] w w:=Az.refl [g] w
 have bc:=hs.lt
 refine qD Z<|A0<|qC [0,4] Z<|Af 1 Z<|AE 68 [] [] [zP g,zI ((6:Nat):Int)] Z Z Il Ac (B6 _ g _ _ _ _ hs oM oM sD) ?_
 rintro e1 w1 ⟨ba,n1,rfl,a2,a0,b0,a3⟩
 refine⟨_,rfl,?_⟩
 have ah:=a2.size
 have a1:Az [g] w w1:=ag.trans a2
 refine Ai<|A5<|qC [0,0] Z ?_
 by_cases a4:ba=((0:Nat):Int)
 ·refine Av true Z Z (A7 a4) Ac<|Ae 1 Z<|Ag Z<|qC [0,4,0,0] Z<|Af 1 Z<|AE 68 [] [] [zP g,zI ((3:Nat):Int)] Z Z Il Ac (B6 _ g _ _ _ _ a0 oM oM sD) ?_
  rintro e3 w3 ⟨b9,n3,rfl,a5,ai,b1,a6⟩
  refine⟨_,rfl,?_⟩
  have aj:=a5.size
  have ak:Az [g] w w3:=a1.trans a5
  refine Cb (((1000002:Nat):Int)-b9) Z Z (Do sD sD) Ac<|Ae 1 Z<|A3<|AJ<|Aq ?_
  exact Ah [2] Z (zI (((1000002:Nat):Int)-b9)) Z ⟨((1000002:Nat):Int)-b9,n3,rfl,ak,ai,⟨zO,zO⟩,(by first|omega|exact BT _)⟩
 refine Av false Z Z (A8 a4) Ac<|Ae 1 Z<|Aj Z<|qC [0,0] Z ?_
 by_cases a7:ba=((1:Nat):Int)
 ·refine Av true Z Z (A7 a7) Ac<|Ae 1 Z<|Ag Z<|qC [0,4,0,0,4,0,0,0,4,0,0,0] Z<|Af 1 Z<|AE 68 [] [] [zP g,zI ((256:Nat):Int)] Z Z Il Ac (B6 _ g _ _ _ _ a0 oM oM sD) ?_
  rintro e5 w5 ⟨b6,n5,rfl,a8,al,b2,a9⟩
  refine⟨_,rfl,?_⟩
  have am:=a8.size
  have an:Az [g] w w5:=a1.trans a8
  refine FR (b6*((65536:Nat):Int)) Z Z (Do sD sD) Ac<|Af 1 Z ?_
  refine AE 68 [] [] [zP g,zI ((256:Nat):Int)] Z Z Il Ac (B6 _ g _ _ _ _ al oM oM sD) ?_
  rintro e6 w6 ⟨b7,n6,rfl,aa,ao,b3,ab⟩
  refine⟨_,rfl,?_⟩
  have ap:=aa.size
  have aq:Az [g] w w6:=an.trans aa
  refine FR (b7*((256:Nat):Int)) Z Z (Do sD sD) Ac ?_
  refine AG ((b6*((65536:Nat):Int))+(b7*((256:Nat):Int))) Z Z (Do sD sD) Ac<|Af 1 Z ?_
  refine AE 68 [] [] [zP g,zI ((256:Nat):Int)] Z Z Il Ac (B6 _ g _ _ _ _ ao oM oM sD) ?_
  rintro e7 w7 ⟨b8,n7,rfl,ac,ar,b4,ad⟩
  refine⟨_,rfl,?_⟩
  have au:=ac.size
  have av:Az [g] w w7:=aq.trans ac
  refine AG (((b6*((65536:Nat):Int))+(b7*((256:Nat):Int)))+b8) Z Z (Do sD sD) Ac ?_
  exact E5 (md (((b6*((65536:Nat):Int))+(b7*((256:Nat):Int)))+b8)) Z Z (by decide) (Int.tmod_eq_emod_of_nonneg oM) Ac<|Ae 1 Z<|A3<|AJ<|Aq<|Ah [2] Z (zI<|md (((b6*((65536:Nat):Int))+(b7*((256:Nat):Int)))+b8)) Z ⟨md (((b6*((65536:Nat):Int))+(b7*((256:Nat):Int)))+b8),n7,rfl,av,ar,⟨zO,zO⟩,(by first|omega|exact BT _)⟩
 refine Av false Z Z (A8 a7) Ac<|Ae 1 Z<|Aj Z<|A4<|qC [0,4,0] Z<|Af 1 Z<|AE 68 [] [] [zP g,zI ((7:Nat):Int)] Z Z Il Ac (B6 _ g _ _ _ _ a0 oM oM sD) ?_
 rintro e8 w8 ⟨bb,n8,rfl,ae,aw,b5,af⟩
 refine⟨_,rfl,?_⟩
 have ax:=ae.size
 have ay:Az [g] w w8:=a1.trans ae
 exact Ae 1 Z<|A3<|Ah [2] Z (zI bb) Z ⟨bb,n8,rfl,ay,aw,⟨zO,zO⟩,(by first|omega|exact BT _)⟩
theorem IO (w:World)(g:Nat)(sv:Value)(cs:List UInt8)(n0:Nat)(k:Int)(hs:ET w.heap g sv cs n0)(ax:n0+(8*k.toNat)≤1000000000000)(_hk:BI k)(hk:k≤1000) :
  Calls Tryz.prog 69 #[zP g,zI k] w (fun e w'=>∃(v0:Value) (x0:Sr) (n1:Nat),e=.returned (v0)∧Az [g] w w'∧ET w'.heap g sv cs n1∧(n0≤n1∧n1≤n0+(8*k.toNat))∧Fr (AX rI 2) w.heap.size w'.heap.size w'.heap v0 x0∧(x0.length=k.toNat∧B8 x0=true)):=by
 refine Au [zP g,zI k] 19 Tryz.func69 Z Z sM ?_
 have ac:Az [g] w w:=Az.refl [g] w
 have b2:=hs.lt
 refine qD Z<|qC [3,0] Z (BU (rI) AT Bo BQ Ac fun v1 w1 a4 ak ad=>?_)
 have a7:=a4.size
 have ae:Az [g] w w1:=ac.ext a4
 have a8:=hs.ext a4
 refine Ae 1 Z<|A0<|qD Z<|A5 ?_
 refine AR (S:=Nat×Value×Sr×Nat) (fun⟨j,vo,xs,m⟩=>([(5,vo),(6,zI (j:Int)),(0,zP g),(1,zI k)])) (fun⟨j,vo,xs,m⟩ W=>Az [g] w W∧Fr (AX rI 2) w.heap.size W.heap.size W.heap vo xs∧ET W.heap g sv cs m∧j≤k.toNat∧(n0≤m∧m≤n0+8*j)∧(xs.length=j∧B8 xs=true)) (fun⟨j,vo,xs,m⟩=>k.toNat-j) (0,v1,[],n0) ⟨rfl,rfl,rfl,rfl,trivial⟩ ⟨ae,ad.up o1,a8,sD,oM,(by exact⟨rfl,rfl⟩)⟩ ?_
 clear ac ad ak a4 a7 ae
 rintro⟨j,vo,xs,m⟩ ρ2 w2 ⟨a9,a0,a1,af,hm,hxs⟩
 have al:w.heap.size≤w2.heap.size:=a9.size
 refine A0<|qC [0,0,0] Z<|Af 2 Z ?_
 by_cases ag:(j:Int)<k
 ·refine Ay true Z Z (A7 ag) Ac<|Ai<|Ag Z<|A4<|A0<|A5<|Ad _ [0,0,4,3,4,0] Z<|Af 2 Z<|AE 152 [] [] [zP g] Z Z Yb Ac (H3 _ g _ _ _ a1 oM) ?_
  rintro e4 w4 ⟨b1,n4,rfl,aa,am,ay,ah⟩
  refine⟨_,rfl,?_⟩
  have an:=aa.size
  have ao:Az [g] w w4:=a9.trans aa
  have ap:=a0.chg (o1) aa fun b hb=>by have:b=g:=(by simpa using hb);omega
  refine Bt (u:=zI b1) (B:=w4.heap.size) AT Bo BQ Z Z (Mz w4.heap.size w4.heap.size _ _ oM) (A9 _) Ac fun v6 w6 a5 az ai=>?_
  have aq:=a5.size
  have aj:Az [g] w w6:=ao.ext a5
  have a2:=ap.ext (o1) a5
  have a3:=am.ext a5
  refine FK (v:=vo) (a:=v6) Bo BQ Z Z Z a2 aj.size ai.rd1 sD (by unfold maxLen;first|omega|assumption|(simp;done)|(simp;omega)) Ac fun v7 w7 F7 a6 ab ar=>?_
  have au:Az [g] w w7:=aj.fresh a6 (fun c hc=>Aa (A9 _) (ab c hc).1)
  have av:=a6.size
  have aw:=a3.chg a6 fun c hc=>zH<|ab c hc
  have b0:=ai.chg (o1) a6 fun c hc=>zH<|ab c hc
  refine Ae 1 Z<|Ad _ [0,0,0] Z<|Af 1 Z<|AG ((j+1:Nat):Int) Z Z (Bc oM oM) Ac<|Ae 1 Z ?_
  exact⟨(j+1,v7,xs++[b1],n4),_,rfl,zR,⟨au,ar.up o1,aw,sD,oM,(by exact⟨by rw[z4,hxs.1];rfl,by unfold B8 at *;rw[List.all_append,hxs.2];simp only[List.all_cons,List.all_nil,Bool.and_true,Bool.true_and];exact Ci.2 oM⟩)⟩,zD⟩
 exact Ay false Z Z (A8 ag) Ac<|Ai<|Aj Z<|A6<|At<|At<|An<|qC [0,0] Z<|Ae 2 Z<|A3<|Ah [4] Z vo Z ⟨vo,xs,m,rfl,a9,a1,⟨zO,zO⟩,a0.up o1,(by exact⟨zO,hxs.2⟩)⟩
theorem iC (a:Option Addr)(n c:Nat)(w:World):(Instr.build 180 #[(0,.slice a n c)]).run Tryz.prog w=.ok (.agg #[.slice a n c,zI 0,.int .u64 0]) w:=by
  kernel_rfl
theorem mS {v:Value}{n:Nat}(h:Eq v n)(w:World):(Instr.build 180 #[(0,v)]).run Tryz.prog w=.ok (.agg #[v,zI 0,.int .u64 0]) w:=by
  obtain⟨a,c,rfl,_⟩:=h
  exact iC a n c w
theorem IP (w:World)(vc:Value)(cs:List UInt8)(hcs:Rd (B3 rU) w.heap vc cs)  :
  Calls Tryz.prog 66 #[vc] w (fun e w'=>∃g:Nat,e=.returned (zP g)∧AB w w'∧ET w'.heap g vc cs 0∧w.heap.size≤g):=by
 refine Au [vc] 6 Tryz.func66 Z Z sM ?_
 have a0:AB w w:=AB.refl w
 have a7:=hcs.lenle
 refine qD Z<|qC [0,0,3,0] Z<|Af 1 Z<|Cd (ps:=#[(0,vc)]) (.agg #[vc,zI 0,.int .u64 0]) (by simp only[zc,zf,zh];rfl) (fun wq=>mS hcs.isSl wq) Ac (C9 Z Ac fun w1 a1 a6 a3=>?_)
 have a4:=a1.size
 have a2:=a0.trans a1
 have a5:=ET.new hcs a2 a3 a0.size
 exact Ae 1 Z<|A3<|Ah [2] Z (zP w.heap.size) Z ⟨w.heap.size,rfl,a2,a5,a0.size⟩
theorem UE {a b:List (List Int)}{k:Nat}(h:∀j,j<k→a.getD j []=b.getD j [])(h1:a.length=k)(h2:b.length=k):a=b:=ZP zO fun j hj=>h j zO
theorem UF {a b:List (List Int)}{k:Nat}(h:¬a.getD k []=b.getD k []):¬a=b:=fun e=>h (by rw[e])
theorem mT {p:Prop} [Decidable p] (h:(!decide p)=true):¬p:=by simpa using h
theorem mU {p:Prop} [Decidable p] (h:(!decide p)=false):p:=by simpa using h
theorem KS (w:World)(va:Value)(a:List (Sr))(vb:Value)(b:List (Sr))(ha:Rd (B3 (B3 rI)) w.heap va a)(hb:Rd (B3 (B3 rI)) w.heap vb b)  :
  Calls Tryz.prog 19 #[va,vb] w (fun e w'=>e=.returned (.bool (decide (a=b)))∧AB w w'):=by
 refine Au [va,vb] 27 Tryz.func19 Z Z sM ?_
 have a2:AB w w:=AB.refl w
 have ai:=ha.lenle
 have aj:=hb.lenle
 refine qD Z<|A0<|qC [0,0,0,0,0] Z<|Af 1 Z<|AL (v:=va) Bm Z ha.isSl Ac<|Af 1 Z<|AL (v:=vb) Bm Z hb.isSl Ac ?_
 by_cases a3:(a.length:Int)≠(b.length:Int)
 ·exact B4 true Z Z (A7 a3) Ac<|Ai<|Ag Z<|qD Z<|A3<|Aq<|Ah [4] Z (.bool false) Z ⟨AH (A8 fun e=>zH<|congrArg List.length e).symm,a2⟩
 refine B4 false Z Z (A8 a3) Ac<|Ai<|Aj Z<|A4<|A0<|qD Z<|A5<|AR (S:=Nat) (fun k=>([(5,zI (k:Int)),(0,va),(1,vb)])) (fun k W=>AB w W∧k≤a.length∧(∀j,j<k→a.getD j []=b.getD j [])) (fun k=>a.length-k) 0 ⟨rfl,rfl,rfl,trivial⟩ ⟨a2,sD,(by intro j hj;omega)⟩ ?_
 clear a2
 rintro k ρ2 w2 ⟨a0,a4,hq⟩
 have ac:w.heap.size≤w2.heap.size:=a0.size
 refine A0<|qC [0,0,0,0] Z<|Af 2 Z<|AL (v:=va) Bm Z ha.isSl Ac ?_
 by_cases a5:(k:Int)<(a.length:Int)
 ·refine Ay true Z Z (A7 a5) Ac<|Ai<|Ag Z<|A4<|A0<|A5<|A0<|AS _ [0,0,0,1,0,0,0,1,3,0] mixed (by kernel_rfl)<|Af 2 Z<|Aw (v:=va) k Bm AV Z Z ha.isSl Z sD Ac ?_
  obtain⟨a6,ad,a7⟩:=ha.get (k:=k) [] sD
  have ae:=a7.lenle
  refine Al (p:=Ax va k 1) (.inl Z) a6 B7 Z (AQ a0.drew ad) Ac<|Af 2 Z<|Aw (v:=vb) k Bm AV Z Z hb.isSl Z sD Ac ?_
  obtain⟨a8,af,a9⟩:=hb.get (k:=k) [] sD
  have ag:=a9.lenle
  refine Al (p:=Ax vb k 1) (.inl Z) a8 B7 Z (AQ a0.drew af) Ac<|As 22 [] [] [a6,a8] Z Z kF Ac (JA _ _ _ _ _ (a7.ext g1 a0.drew)<|a9.ext g1 a0.drew) ?_
  rintro e6 w6 ⟨rfl,a1⟩
  refine⟨_,rfl,a1,?_⟩
  replace a1:=a1.of_drew
  have ah:=a1.size
  have aa:=a0.trans a1
  refine BF (!(decide ((a.getD k [])=(b.getD k [])))) Z Z Ac<|Ai ?_
  cases ab:(!(decide ((a.getD k [])=(b.getD k []))))
  ·refine Aj (by first|rfl|exact zW ab)<|A4<|Ad _ [0,0,0] Z<|Af 1 Z<|AG ((k+1:Nat):Int) Z Z (Bc oM sD) Ac<|Ae 1 Z ?_
   exact⟨k+1,_,rfl,zR,⟨aa,sD,(by intro j hj;by_cases e:j=k;(subst e;exact mU (by assumption));exact hq j oM)⟩,zD⟩
  exact Ag (by first|rfl|exact zW ab)<|qD Z<|A3<|AJ<|Aq<|Aq<|AJ<|Aq<|Ah [4] Z (.bool false) Z ⟨AH (A8<|UF (k:=k)<|mT (by assumption)).symm,aa⟩
 exact Ay false Z Z (A8 a5) Ac<|Ai<|Aj Z<|A6<|At<|At<|An<|qD Z<|A3<|Ah [4] Z (.bool true) Z ⟨AH (A7<|UE hq oM oM).symm,a0⟩
def iN (a b:List Int)(n:Int):Bool:=(decide (n≤((a.length:Nat):Int)) && decide (n≤((b.length:Nat):Int))) && decide (a.take n.toNat=b.take n.toNat)
theorem YF {p:Prop}(h:p:=by unfold iN;first|(rw[A7 (show n≤((a.length:Nat):Int) by omega),A7 (show n≤((b.length:Nat):Int) by omega)];rfl)|(rw[A8 (show ¬n≤((a.length:Nat):Int) by omega)];rfl)|(rw[A8 (show ¬n≤((b.length:Nat):Int) by omega),Bool.and_false];rfl)):p:=h
theorem IQ (w:World)(va:Value)(a:Sr)(Ba Ua:Nat)(vb:Value)(b:Sr)(Bb Ub:Nat)(n:Int)(ha:Fr (AX rI 2) Ba Ua w.heap va a)(hUa:Ua≤w.heap.size)(hb:Fr (AX rI 2) Bb Ub w.heap vb b)(hUb:Ub≤w.heap.size)(_hn:BI n)(ae:0≤n) :
  Calls Tryz.prog 20 #[va,vb,zI n] w (fun e w'=>e=.returned (.bool (iN a b n))∧AB w w'):=by
 refine Au [va,vb,zI n] 24 Tryz.func20 Z Z sM ?_
 have a5:AB w w:=AB.refl w
 refine qD Z<|A0<|qC [0,0,0,0,0,0,0,0,0,0] Z<|Af 1 Z<|AL (v:=va) Bo Z ha.isSl Ac<|Af 1 Z ?_
 by_cases a8:(a.length:Int)<n
 ·exact Ay true Z Z (A7 a8) Ac<|Ae 6 Z<|Ag Z<|qD Z<|A3<|Aq<|Ah [6] Z (.bool false) Z ⟨AH YF,a5⟩
 refine Ay false Z Z (A8 a8) Ac<|Af 2 Z<|AL (v:=vb) Bo Z hb.isSl (Ak (e:=11) Z Z Z)<|Af 1 Z ?_
 by_cases a9:(b.length:Int)<n
 ·exact Ay true Z Z (A7 a9) (Ak (e:=11) Z Z Z)<|Ae 1 Z<|Ag Z<|qD Z<|A3<|Aq<|Ah [6] Z (.bool false) Z ⟨AH YF,a5⟩
 refine Ay false Z Z (A8 a9) (Ak (e:=11) Z Z Z)<|Ae 1 Z<|Aj Z<|A4<|A0<|AS _ [0,0,0,0,0,0,3,0] mixed (by kernel_rfl)<|Af 2 Z ?_
 have a1:(n).toNat≤a.length:=oM
 have a2:=Rd.pref (k:=(n).toNat) ha.rd1 a1
 refine OT (v:=va) (k:=(n).toNat) Bo BQ Z ha.isSl ha.cap (Xt oM) a1 Ac<|Af 2 Z ?_
 have a3:(n).toNat≤b.length:=oM
 have a4:=Rd.pref (k:=(n).toNat) hb.rd1 a3
 refine OT (v:=vb) (k:=(n).toNat) Bo BQ Z hb.isSl hb.cap (Xt oM) a3 Ac<|As 22 [] [] [Kk va<|(n).toNat,Kk vb<|(n).toNat] Z Z kF Ac (JA _ _ _ _ _ a2 a4) ?_
 rintro e5 w5 ⟨rfl,a0⟩
 refine⟨_,rfl,a0,?_⟩
 replace a0:=a0.of_drew
 have aa:=a0.size
 have ab:=a5.trans a0
 exact Ae 1 Z<|A3<|Ah [6] Z (.bool<|decide ((a.take<|(n).toNat)=(b.take<|(n).toNat))) Z ⟨AH YF,ab⟩
theorem eE {p:Prop}(h:p:=by unfold maxLen;first|omega|assumption|(simp only[zb,z9,z4,z6,z5];omega)|(simp[zb,z9,z4,z6,z5];done)|(simp[zb,z9,z4,z6,z5];omega)):p:=h
theorem Nv (w:World)(vc:Value)(cs:List UInt8)(vr:Value)(y:List (Sr))(m:Int)(hcs:Rd (B3 rU) w.heap vc cs)(hy:Rd (B3 (B3 rI)) w.heap vr y)(_hm:BI m)(hyl:y.length≤1000)(hyr:∀k,(y.getD k []).length≤1000)(hyn:∀k,B8 (y.getD k [])=true) :
  Calls Tryz.prog 17 #[vc,vr,zI m] w (fun e w'=>∃v0:Value,∃(x0:List (Sr)),e=.returned (v0)∧AB w w'∧Fr (AX (AX rI 2) 27) w.heap.size w'.heap.size w'.heap v0 x0∧(oF y m x0)):=by
 refine Au [vc,vr,zI m] 54 Tryz.func17 Z Z sM ?_
 have az:AB w w:=AB.refl w
 have cd:=hcs.lenle
 have ce:=hy.lenle
 refine qD Z<|qC [0,3,0] Z<|Af 1 Z<|As 66 [] [] [vc] Z Z kH Ac (IP _ _ _<|hcs.ext D5 az) ?_
 rintro e1 w1 ⟨gB1,rfl,av,bh,ca⟩
 refine⟨_,rfl,av,?_⟩
 have bz:=av.size
 have aw:=az.trans av
 refine Ae 1 Z<|qC [3,0] Z ?_
 have co:=bh.lt
 refine BU (AX rI 2) o1 Bm AV Ac fun v2 w2 ax c0 bi=>?_
 have b0:=ax.size
 have bj:=aw.trans ax
 have al:=bh.ext ax
 refine Ae 1 Z<|A0<|qD Z<|A5<|AR (S:=Nat×Value×List (Sr)×Nat) (fun⟨i,vo,ys,n⟩=>([(8,vo),(9,zI (i:Int)),(1,vr),(2,zI m),(7,zP gB1)])) (fun⟨i,vo,ys,n⟩ W=>AB w W∧Fr (AX (AX rI 2) 27) w1.heap.size W.heap.size W.heap vo ys∧ET W.heap gB1 vc cs n∧i≤y.length∧n≤8000*i∧ZR y m ys i∧gB1<w1.heap.size∧w1.heap.size≤W.heap.size) (fun⟨i,vo,ys,n⟩=>y.length-i) (0,v2,([]:List (Sr)),0) ⟨rfl,rfl,rfl,rfl,rfl,trivial⟩ ⟨bj,bi.up o2,al,oM,oM,(by exact ZR.nil _ _),oM,oM⟩ ?_
 clear az av bi c0 ax b0 bj
 rintro⟨i,vo,ys,n⟩ ρ3 w3 ⟨ak,a2,ad,bk,hni,hgs,hgw,c1⟩
 have c2:w.heap.size≤w3.heap.size:=ak.size
 refine A0<|qC [0,0,0,0] Z<|Af 2 Z<|AL (v:=vr) Bm Z hy.isSl Ac ?_
 by_cases bl:(i:Int)<(y.length:Int)
 ·refine Ay true Z Z (A7 bl) Ac<|Ai<|Ag Z<|A4<|A0<|A5<|qC [0,0,0,0,2,0,4,0] Z ?_
  have hyi:=hyr i
  refine Af 3 Z<|Aw (v:=vr) i Bm AV Z Z hy.isSl Z sD Ac ?_
  obtain⟨bm,c3,bn⟩:=hy.get (k:=i) [] sD
  have b1:=bn.lenle
  refine Al (p:=Ax vr i 1) (.inr Z) bm B7 Z (AQ ak c3) Ac<|AL (v:=bm) Bo Z bn.isSl Ac<|AE 69 [] [] [zP gB1,zI (((y.getD i []).length:Nat):Int)] Z Z kI Ac (IO _ gB1 _ _ _ (((y.getD i []).length:Nat):Int) ad oM oM oM) ?_
  rintro e7 w7 ⟨a1,cc,n7,rfl,ay,c4,cb,ae,am⟩
  refine⟨_,rfl,?_⟩
  have b2:w3.heap.size≤w7.heap.size:=ay.size
  have bo:AB w w7:=ay.below ak (fun _ h=>zE h) ak.size
  have bp:=a2.chg (o2) ay fun _ h=>zA h
  have hdr:=am
  refine Ae 1 Z<|A0<|qD Z<|A5 ?_
  refine AR (S:=Nat×Sr) (fun⟨k,xs⟩=>([(11,zI (k:Int)),(1,vr),(2,zI m),(7,zP gB1),(8,vo),(9,zI (i:Int)),(10,a1)])) (fun⟨k,xs⟩ W=>AB w W∧Fr (AX rI 2) w3.heap.size W.heap.size W.heap a1 xs∧ET W.heap gB1 vc cs n7∧Fr (AX (AX rI 2) 27) w1.heap.size w3.heap.size W.heap vo ys∧k≤(y.getD i []).length∧ZS (y.getD i []) xs k∧(w3.heap.size≤w3.heap.size∧gB1<w3.heap.size∧gB1<w1.heap.size)∧w3.heap.size≤W.heap.size) (fun⟨k,xs⟩=>(y.getD i []).length-k) (0,cc) ⟨rfl,rfl,rfl,rfl,rfl,rfl,rfl,trivial⟩ ⟨bo,ae.up o1,c4,bp,oM,(by exact ZS.start oM hdr.2),oM,oM⟩ ?_
  clear ad a2 b1 ae ay b2 bo bp
  rintro⟨k,xs⟩ ρ9 w9 ⟨af,a0,a3,a4,bq,hgk,hub,br⟩
  have c5:w.heap.size≤w9.heap.size:=af.size
  have c6:=hgk.1
  refine A0<|qC [0,0,0,0,0,0,0,0,0] Z<|Af 2 Z<|AL (v:=a1) Bo Z a0.isSl Ac ?_
  by_cases an:(k:Int)<(xs.length:Int)
  ·refine Ay true Z Z (A7 an) Ac<|Af 3 Z ?_
   by_cases ao:(k:Int)<m
   ·refine Ay true Z Z (A7 ao) (Ak (e:=32) Z Z Z)<|Ae 1 Z<|Ag Z<|A4<|A0<|A5<|Ad _ [0,0,0,0,0,2,0,0,2,0,4] Z<|Af 4 Z<|Aw (v:=vr) i Bm AV Z Z hy.isSl Z sD Ac ?_
    obtain⟨ag,b3,a9⟩:=hy.get (k:=i) [] sD
    have bs:=a9.lenle
    refine Al (p:=Ax vr i 1) (.inr Z) ag B7 Z (AQ af b3) Ac<|Af 1 Z<|Aw (v:=ag) k Bo BQ Z Z a9.isSl Z sD Ac ?_
    refine Al (p:=Ax ag k 1) (.inr Z) (zI<|(y.getD i []).getD k 0) AN Z (AQ af (a9.getI sD).1) Ac ?_
    refine Aw (v:=a1) k Bo BQ Z Z a0.isSl Z sD Ac ?_
    refine ES (v:=a1) (w:=w9) HV Z Z (a9.getI sD).2 a0 sD Ac fun cf cp aa c7 ah b4=>?_
    have b5:AB w cf:=aa.below af (fun c hc=>Aa ak.size (ah c hc).1) af.size
    have bt:w9.heap.size≤cf.heap.size:=aa.size
    have b6:=a3.chg aa fun c hc=>zH<|ah c hc
    have b7:=a4.chg (o2) aa fun c hc=>zH<|ah c hc
    exact Ai<|Ad _ [0,0,0] Z<|Af 1 Z<|AG ((k+1:Nat):Int) Z Z (Bc oM sD) Ac<|Ae 1 Z ⟨(k+1,xs.set k<|(y.getD i []).getD k 0),_,rfl,zR,⟨b5,b4.up o1,b6,b7,oM,(by exact hgk.step (hyn i) oM),oM,oM⟩,zD⟩
   refine Ay false Z Z (A8 ao) (Ak (e:=32) Z Z Z)<|Ae 1 Z<|Aj Z<|A6<|At<|At<|An<|Ad _ [0,0,3,4,0] Z ?_
   have b8:=hgs.1
   refine Af 2 Z (Bt (u:=a1) (B:=w3.heap.size) o1 Bm AV Z Z a0 (by first|exact A9 _|omega) Ac fun ci cj ab c8 b9=>?_)
   have bu:=ab.size
   have ap:=af.trans ab
   have a5:=a3.ext ab
   have a6:=a4.ext (o2) ab
   refine DY o1 (v:=vo) (a:=ci) Bm AV Z Z Z a6 oM b9 oM oM sD eE Ac fun ck cg cq ai aq ba=>?_
   have bb:AB w cg:=ai.below ap (fun c hc=>Aa aw.size (aq c hc).1) ap.size
   have bv:cj.heap.size≤cg.heap.size:=ai.size
   have bc:=a5.chg ai fun c hc=>zH<|aq c hc
   exact Ae 1 Z<|Ad _ [0,0,0] Z<|Af 1 Z<|AG ((i+1:Nat):Int) Z Z (Bc oM sD) Ac<|Ae 1 Z ⟨(i+1,ck,ys++[xs],n7),_,rfl,zR,⟨bb,ba.up o2,bc,oM,oM,(by exact hgs.snoc (hgk.done oM)),oM,oM⟩,zD⟩
  refine Ay false Z Z (A8 an) Ac<|Ae 5 Z<|Aj Z<|A6<|At<|At<|An<|Ad _ [0,0,3,4,0] Z ?_
  have b8:=hgs.1
  refine Af 2 Z (Bt (u:=a1) (B:=w3.heap.size) o1 Bm AV Z Z a0 (by first|exact A9 _|omega) Ac fun cl cm ac c9 bd=>?_)
  have bw:=ac.size
  have ar:=af.trans ac
  have a7:=a3.ext ac
  have a8:=a4.ext (o2) ac
  refine DY o1 (v:=vo) (a:=cl) Bm AV Z Z Z a8 oM bd oM oM sD eE Ac fun cn ch cr aj au be=>?_
  have bf:AB w ch:=aj.below ar (fun c hc=>Aa aw.size (au c hc).1) ar.size
  have bx:cm.heap.size≤ch.heap.size:=aj.size
  have bg:=a7.chg aj fun c hc=>zH<|au c hc
  exact Ae 1 Z<|Ad _ [0,0,0] Z<|Af 1 Z<|AG ((i+1:Nat):Int) Z Z (Bc oM sD) Ac<|Ae 1 Z ⟨(i+1,cn,ys++[xs],n7),_,rfl,zR,⟨bf,be.up o2,bg,oM,oM,(by exact hgs.snoc (hgk.done oM)),oM,oM⟩,zD⟩
 exact Ay false Z Z (A8 bl) Ac<|Ai<|Aj Z<|A6<|At<|At<|An<|qC [0,0] Z<|Ae 2 Z<|A3<|Ah [6] Z vo Z ⟨vo,ys,rfl,ak,(a2.up o2).low aw.size,(by exact hgs.done oM)⟩
end
end Go.Proofs.YtbajepcpgncekaaGreat
