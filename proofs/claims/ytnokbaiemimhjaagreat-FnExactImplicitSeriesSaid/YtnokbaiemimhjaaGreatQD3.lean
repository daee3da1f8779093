/- Hb, Hc, Hd, He, Hf, Hg, Hh, Hi, Hj, Hk, Hl, Hm, T, Sa, Sb, Sc, Sf, Sk, Va, Vb, Vg, Vh: texts of this claim, joined; what the claim does not come to is left out. -/
import Derived.Test.YtnokbaiemimhjaaGreatQD2
import Derived.Test.YtnokbaiemimhjaaGreatProg
set_option linter.unusedVariables false
set_option linter.unusedSimpArgs false
namespace Go.Proofs.YtnokbaiemimhjaaGreat
open Go Go.RowKit
section
def TH (cs:List AF)(L:List Sr):Nat→List Sr→List Sr
 |0,B=>B
 |k+1,B=>if (cs.getD k AF.zero).op=1 then FH (TH cs L k B) (cs.getD k AF.zero).num (L.getD k [])else TH cs L k B
def eE (ni m:Nat)(cs:List AF)(L:List Sr):List Sr:=TH cs L cs.length (List.replicate ni (List.replicate m 0))
section
variable {m ni:Nat} {cs:List AF} {L B:List Sr}
theorem MJ {k:Nat}(h:(cs.getD k AF.zero).op=1):TH cs L (k+1) B=FH (TH cs L k B) (cs.getD k AF.zero).num (L.getD k []):=if_pos h
theorem ML {k:Nat}(h:(cs.getD k AF.zero).op≠1):TH cs L (k+1) B=TH cs L k B:=if_neg h
@[simp] theorem Iz (k:Nat):(TH cs L k B).length=B.length:=by
 induction k with
 |zero=>rfl
 |succ k ih =>
  by_cases h:(cs.getD k AF.zero).op=1
  ·rw[MJ h,C0,ih]
  ·rw[ML h,ih]
theorem K5 (m ni:Nat):Bs m (List.replicate ni (List.replicate m 0)):=fun k hk=>by
 rw[List.length_replicate]at hk
 have e:(List.replicate ni (List.replicate m (0:Int))).getD k []=List.replicate m 0:=by simp[List.getD_eq_getElem?_getD,hk]
 rw[e]
 exact⟨List.length_replicate,GZ _⟩
theorem LP (hf:∀k,k<cs.length→GH B.length k (cs.getD k AF.zero))(h:Bs m B):∀k,k≤cs.length→Bs m (TH cs L k B)
 |0,_=>h
 |k+1,hk=>by
  have ih:=LP hf h k (by omega)
  by_cases h1:(cs.getD k AF.zero).op=1
  ·rw[MJ h1]
   have:=(hf k (by omega)).i1 h1
   exact D8 ih (by rw[Iz];omega)
  ·rw[ML h1];exact ih
theorem YY (hf:∀k,k<cs.length→GH ni k (cs.getD k AF.zero)):Bs m (eE ni m cs L):=LP (fun k hk=>by rw[List.length_replicate];exact hf k hk) (K5 m ni) _ (A9 _)
@[simp] theorem SB:(eE ni m cs L).length=ni:=by unfold eE;rw[Iz,List.length_replicate]
end
end
section
structure Gy {α:Type}(E:Bc α)(e:TypeId)(S:List Nat)(B:Nat)(H:Array Obj)(v:Value)(xs:List α)(us:List Value)(F:List Nat):Prop where
 own:AR rV e H v us F
 nd:F.Nodup
 low:∀b∈F,B≤b
 len:us.length=xs.length
 els:∀k x,xs[k]? = some x→RN (S++F) E H (us.getD k undef) x
section bld
variable {α:Type} {E:Bc α} {e:TypeId} {S F:List Nat} {B:Nat} {w w':World} {v:Value} {xs:List α} {us:List Value} {g:Nat}
theorem Gy.nil {U:Nat}{H:Array Obj}(h:Fr (AR rV e) B U H v []):∃us F,Gy E e S B H v [] us F:=by
 obtain⟨F,h1,h2,h3⟩:=h
 exact⟨[],F,h1,h2,fun b hb=>(h3 b hb).1,rfl,fun k x hk=>by simp at hk⟩
theorem Gy.lt {H:Array Obj}(h:Gy E e S B H v xs us F):∀b∈F,b<H.size:=(Bb Ba).lt h.own
theorem Gy.ext (hE:BI E)(h:Gy E e S B w.heap v xs us F)(k:Ay w w'):Gy E e S B w'.heap v xs us F :=
 ⟨(Bb Ba).stable h.own fun b hb=>k.heap (h.lt b hb),h.nd,h.low,h.len,fun i x hi=>(h.els i x hi).ext hE k⟩
theorem Gy.cap {H:Array Obj}(h:Gy E e S B H v xs us F):Cf v:=h.own.cap
theorem MM {S:List Nat}{H:Array Obj}:∀ {us:List Value}{xs:List α},us.length=xs.length→(∀k x,xs[k]? = some x→RN S E H (us.getD k undef) x)→∃G,Go.Proofs.YtnokbaiemimhjaaGreat.els E H us xs G∧∀b∈G,b∉S
 |[],[],_,_=>⟨[],rfl,fun b hb=>by cases hb⟩
 |u::us,x::xs,hl,h=>by
  obtain⟨G1,q1,q2⟩:=h 0 x (by simp)
  obtain⟨G2,r1,r2⟩:=MM (us:=us) (xs:=xs) (by simpa using hl) fun k y hk=>by
   have:=h (k+1) y (by simpa using hk)
   simpa using this
  exact⟨G1++G2,⟨G1,G2,rfl,by simpa using q1,r1⟩,fun b hb=>(List.mem_append.1 hb).elim (q2 b) (r2 b)⟩
theorem Gy.done {H:Array Obj}(h:Gy E e S B H v xs us F)(hS:∀b∈S,b<B):RN S (B3 E) H v xs:=by
 obtain⟨G,g1,g2⟩:=MM h.len h.els
 have g2':∀b∈G,b∉S:=fun b hb hm=>g2 b hb (List.mem_append_left _ hm)
 rcases h.own with⟨rfl,hus,rfl⟩|⟨vs,gb,cap,cur,F',hels,rfl,hg,r1,r2,r3,r4,hF⟩
 ·have:xs=[]:=List.eq_nil_of_length_eq_zero (by rw[← h.len,hus];rfl)
  subst this
  exact⟨[],.inl ⟨none,0,rfl,rfl,rfl⟩,fun b hb=>by cases hb⟩
 ·obtain⟨hv,hF0⟩:=FD hels
  subst hv
  have hl:=h.len
  refine⟨gb::G,.inr ⟨vs,gb,0,cap,cur,e,(0,0),G,g1,by rw[hl],hg,by simpa [hl]using r4,by omega,rfl⟩,fun b hb hm=>?_⟩
  rcases List.mem_cons.1 hb with rfl|hb
  ·have:=h.low b (by rw[hF];exact List.mem_cons_self ..)
   have:=hS b hm
   omega
  ·exact g2' b hb hm
end bld
section ops
variable {P:Program} {ops:Array Oper} {w0:World} {Q:Act→World→Prop} {os:List Oper} {ks:List Nat} {N:Nat} {ρ:Nat→Value} {w:World}
 {d:Nat} {ty:TypeId} {pos:String} {aft:Array Edge} {g:Option (Nat×Bool)} {t e:TypeId} {z:Value} {b:Nat}
theorem LQ {α:Type}{E:Bc α}(hE:BI E){x y:Operand}{v a u:Value}{xs:List α}{r:α}{us:List Value}{S F:List Nat}{B B' U':Nat}(ht:P.underlying t=some (.slice e))(hi:TI P e 1 z b)(hz:z.cells=#[z])(hx:Bm N ρ x=v)(hy:Bm N ρ y=a)
  (hv:Gy E e S B w.heap v xs us F) (hB:B≤w.heap.size) (ha:Fr (AR rV e) B' U' w.heap a [u]) (hr:RN (S++F) E w.heap u r) (hbytes:(xs.length+1)*b≤140737488355328) (hmx:xs.length+1≤maxLen)
  (hu:Up ops N ρ ⟨some d,.call ⟨.builtin .append,#[x,y],#[t,t]⟩,ty,pos,aft,g⟩)
  (h:∀v1 w1 F0,AE F0 w w1→(∀c∈F0,c∈F)→(∃us F,Gy E e S B w1.heap v1 (xs++[r]) us F)→LW P ops w0 Q os ks (mk N (CY ρ d v1)) w1) :
  LW P ops w0 Q (⟨some d,.call ⟨.builtin .append,#[x,y],#[t,t]⟩,ty,pos,aft,g⟩::os) (4::ks) (mk N ρ) w:=by
 obtain⟨G,g1',g2',g3'⟩:=ha
 have hG1:G.drop 1=[]:=by
  rcases g1' with⟨_,hc,_⟩|⟨vs,gb,cap,cur,F',hels,_,_,_,_,_,_,rfl⟩
  ·cases hc
  ·rw[(FD hels).2];rfl
 obtain⟨v',w',F',r1,r2,r3,r4,r5⟩:=Gl (P:=P) (ty:=ty) Ba ht hi hz hv.own hv.nd (g1'.rd id) rfl (by rw[hv.len];exact hbytes) (by rw[hv.len];exact hmx) (by rw[hG1];intro c hc;cases hc) (by rw[hG1];exact List.nodup_nil)
 rw[hG1]at r4
 refine Lc rfl hu v' w' (by simp only[execOp,resolve,invoke,builtin,List.map_toArray,List.map_cons,List.map_nil,Sem.run_bind,Sem.run_pure,Result.andThen_ok,hx,hy,r1]) (h v' w' (F.take 1) r5 (fun c hc=>List.mem_of_mem_take hc) ⟨us++[u],F',r2,r3,fun c hc=>?_,by simp[hv.len],fun k x0 hk0=>?_⟩)
 ·rcases r4 c hc with hh|hh|hh
  ·exact hv.low c hh
  ·cases hh
  ·omega
 ·have key:∀ {v0:Value} {x0:α},RN (S++F) E w.heap v0 x0→RN (S++F') E w'.heap v0 x0:=by
   rintro v0 x0 ⟨K,k1,k2⟩
   have hlt:=hE.lt k1
   refine⟨K,hE.stable k1 fun c hc=>r5.block c (hlt c hc) fun hm=>k2 c hc (List.mem_append_right _ (List.mem_of_mem_take hm)),fun c hc hm=>?_⟩
   rcases List.mem_append.1 hm with hm|hm
   ·exact k2 c hc (List.mem_append_left _ hm)
   ·rcases r4 c hm with hh|hh|hh
    ·exact k2 c hc (List.mem_append_right _ hh)
    ·cases hh
    ·have:=hlt c hc;omega
  by_cases hkx:k<xs.length
  ·have hku:k<us.length:=by rw[hv.len];exact hkx
   rw[List.getElem?_append_left hkx]at hk0
   rw[JF hku]
   exact key (hv.els k x0 hk0)
  ·rw[List.getElem?_append_right (by omega)]at hk0
   have e1:k=xs.length:=by
    rcases Nat.lt_or_ge (k-xs.length) 1 with h9|h9
    ·omega
    ·rw[List.getElem?_eq_none (by simpa using h9)]at hk0;cases hk0
   subst e1
   rw[JG (hv.len).symm]
   simp at hk0
   subst hk0
   exact key hr
end ops
def OW:Value→Value
 |.slice a n c=>.slice (if c=1 then a else a.map (·.add 1)) (n-1) (c-1)
 |v=>v
def HQ {α:Type}(E:Bc α):Bc (List α):=fun H v xs F=>B3 E H v xs F∧Cf v
theorem TJ {α:Type}{E:Bc α}(hE:BI E):BI (HQ E) where
 cells:=fun h=>(DS hE).cells h.1
 one:=fun h=>(DS hE).one h.1
 lt:=fun h=>(DS hE).lt h.1
 stable:=fun h hb=>⟨(DS hE).stable h.1 hb,h.2⟩
theorem Nr:BI (HQ (B3 rI)):=TJ g1
theorem kV:BI (B3 (HQ (B3 rI))):=DS Nr
theorem RN.mk2 {S:List Nat}{H:Array Obj}{v:Value}{x:List Sr}(h:RN S (B3 (B3 rI)) H v x)(hc:Cf v):RN S (HQ (B3 rI)) H v x:=by
 obtain⟨F,h,hb⟩:=h
 exact⟨F,⟨h,hc⟩,hb⟩
theorem RN.of2 {S:List Nat}{H:Array Obj}{v:Value}{x:List Sr}(h:RN S (HQ (B3 rI)) H v x):RN S (B3 (B3 rI)) H v x∧Cf v:=by
 obtain⟨F,h,hb⟩:=h
 exact⟨⟨F,h.1,hb⟩,h.2⟩
theorem VW {v:Value}(h:Cf v):Cf (OW v):=by
 cases v with
 |slice a n c=>have:n≤c:=h;show n-1≤c-1;omega
 |_=>exact h
def eF (L:List Sr)(ps:List Int):List Sr:=ps.map fun i=>L.getD i.toNat []
theorem VX {L:List Sr}{ps:List Int}{k:Nat}(hk:k<ps.length):eF L (ps.take (k+1))=eF L (ps.take k)++[L.getD (ps.getD k 0).toNat []]:=by
 unfold eF
 rw[Cq 0 hk,List.map_append];rfl
def IA (X:List (List Sr)):List (List Sr):=X.map fun r=>r.drop 1
theorem VY {X:List (List Sr)}{k:Nat}(hk:k<X.length):IA (X.take (k+1))=IA (X.take k)++[(X.getD k []).drop 1]:=by
 unfold IA
 rw[Cq [] hk,List.map_append];rfl
theorem RN.suf {α:Type}{E:Bc α}{S:List Nat}{H:Array Obj}{v:Value}{xs:List α}(hE:BI E)(h:RN S (B3 E) H v xs)(hl:1≤xs.length)(hc:Cf v):RN S (B3 E) H (OW v) (xs.drop 1):=by
 obtain⟨F,h,hb⟩:=h
 rcases h with⟨a,cap,rfl,rfl,rfl⟩|⟨us,g,off,cap,cur,e,fr,F',hels,rfl,hg,ht,hm,rfl⟩
 ·simp at hl
 ·have hlen:=hels.length
  cases us with
  |nil=>simp at hlen;omega
  |cons u us =>
   cases xs with
   |nil=>simp at hl
   |cons x xs =>
    obtain⟨F1,F2,rfl,h1,h2⟩:=hels
    simp only[List.drop_succ_cons,List.drop_zero,List.length_cons]at *
    by_cases h1c:cap=1
    ·have hx0:xs=[]:=by
      have:xs.length+1≤cap:=hc
      exact List.eq_nil_of_length_eq_zero (by omega)
     subst hx0
     subst h1c
     refine⟨[],.inl ⟨_,_,rfl,rfl,rfl⟩,fun b hb=>by cases hb⟩
    ·refine⟨g::F2,.inr ⟨us,g,off+1,cap-1,cur,e,fr,F2,h2,?_,hg,?_,by omega,rfl⟩,fun b hm2=>hb b ?_⟩
     ·simp[OW,h1c,Addr.add]
     ·have h9:(cur.toList.drop off).drop 1=cur.toList.drop (off+1):=by rw[List.drop_drop]
      rw[← h9]
      have h8:((cur.toList.drop off).take (xs.length+1)).drop 1=us:=by rw[ht];rfl
      rw[List.drop_take]at h8
      simpa using h8
     ·rcases List.mem_cons.1 hm2 with rfl|h9
      ·exact List.mem_cons_self ..
      ·exact List.mem_cons_of_mem _ (List.mem_append_right _ h9)
section ops
variable {P:Program} {ops:Array Oper} {w0:World} {Q:Act→World→Prop} {os:List Oper} {ks:List Nat} {N:Nat} {ρ:Nat→Value} {w:World}
 {d:Nat} {ty:TypeId} {pos:String} {aft:Array Edge} {g:Option (Nat×Bool)} {t e:TypeId} {z:Value} {b:Nat}
theorem ZV {x y:Operand}{v z:Value}{n b:Nat}(ht:P.underlying t=some (.slice e))(hi:TI P e 1 z b)(hx:Bm N ρ x=v)(hs:FC v n)(hc:Cf v)(hy:Bm N ρ y=.int .i64 1)(hk:1≤n)(hu:Up ops N ρ ⟨some d,.slice t x (some y) none none,ty,pos,aft,g⟩)
  (h:LW P ops w0 Q os ks (mk N (CY ρ d (OW v))) w):LW P ops w0 Q (⟨some d,.slice t x (some y) none none,ty,pos,aft,g⟩::os) (0::ks) (mk N ρ) w:=by
 obtain⟨a,cap,rfl,_⟩:=hs
 obtain⟨inf,h1,_,h3,_⟩:=hi.get
 refine CJ (by decide) rfl hu _ (fun w' _=>?_) h
 have hl:n≤cap:=hc
 have e1:((1:Int)≤(n:Int)):=by omega
 by_cases hc1:cap=1
 ·subst hc1
  have:n=1:=by omega
  subst this
  simp[execOp,hx,hy,Instr.sliceAt,Instr.slice,Instr.sliceBounds,Instr.sliceBound,asIntOf,run_underlying ht,sizeOf,typeInfo,h1,h3,OW]
 ·have e2:cap-1≠0:=by omega
  simp[execOp,hx,hy,Instr.sliceAt,Instr.slice,Instr.sliceBounds,Instr.sliceBound,asIntOf,run_underlying ht,sizeOf,typeInfo,h1,h3,OW,hk,hl,hc1,e2]
  intro h9;omega
end ops
end
section
theorem Jg {m:Nat}{a:List (List Int)}(h0:1≤m)(ha:0<a.length)(h:Bs m a):JY a+1=m:=by
 have:=(h 0 ha).1
 unfold JY;omega
def BN (A:List Sr):List Int:=A.map fun s=>s.getD 0 0
def Qi (m:Nat)(T:Tp)(xs:List Int)(A:List Sr)(i:Nat):List Sr:=eE A.length m T.code (Lj T.code (B9 m A T.code) xs (G3 xs.length [((i:Nat):Int)] 1))
def HV (m:Nat)(T:Tp)(xs:List Int)(A:List Sr)(k:Nat):List (List Sr):=(List.range k).map (Qi m T xs A)
section
variable {m:Nat} {A:List Sr} {T:Tp} {xs:List Int}
theorem VZ (k:Nat):HV m T xs A (k+1)=HV m T xs A k++[Qi m T xs A k]:=by unfold HV;rw[List.range_succ,List.map_append];rfl
theorem OX {k i:Nat}(hi:i<k):(HV m T xs A k).getD i []=Qi m T xs A i:=by unfold HV;simp[List.getD_eq_getElem?_getD,hi]
@[simp] theorem IB (k:Nat):(HV m T xs A k).length=k:=by simp[HV]
@[simp] theorem C9:(BN A).length=A.length:=by simp[BN]
theorem Ep (h:Bs m A):B8 (BN A)=true:=by
 unfold B8 BN
 rw[List.all_eq_true]
 intro x hx
 obtain⟨s,hs,rfl⟩:=List.mem_map.1 hx
 obtain⟨i,hi,rfl⟩:=List.mem_iff_getElem.1 hs
 have h9:=Be (h i hi).2 0
 rw[show A.getD i []=A[i]from by simp[List.getD_eq_getElem?_getD,hi]]at h9
 exact Cn.2 h9
theorem EG (h:Bs m A):QZ m (BN A) A:=⟨C9.symm,fun i hi=>h i (by rw[C9]at hi;exact hi),fun i hi=>by
 rw[C9]at hi
 unfold BN
 rw[B4 (d:=[]) hi]⟩
theorem DF.regs (h:DF m A T):Bs m (B9 m A T.code):=fun k hk=>(h.ser k (by rw[BE]at hk;exact hk)).1
theorem DF.outs (h:DF m A T)(hE:KJ T xs):∀k,k<xs.length→0≤xs.getD k 0∧xs.getD k 0<((T.code.length:Nat):Int):=fun k hk=>by have:=hE k hk;have:=h.cl;omega
theorem DF.adj (h:DF m A T)(hE:KJ T xs){ws:List Int}:Bs m (Lj T.code (Go.Proofs.YtnokbaiemimhjaaGreat.B9 m A T.code) xs ws):=by
 have ho:=h.outs hE
 refine SA (ni:=A.length) h.form _ _ (A9 _) (by rw[Eo,D7,BE];exact A9 _) (Iy (Hr h.regs) (fun q hq=>?_) _ (A9 _))
 have:=ho q hq
 rw[D7,BE];omega
theorem MN {cs:List AF}{R:List Sr}{os ws:List Int}:(Lj cs R os ws).length=R.length:=by unfold Lj;rw[Sz,Eo,D7]
end
end
section
def Ef (a b:Int):Bool:=HC a 2 7 && decide (b=a-1)
theorem X0 {p:List Fn}{f:Int}(h:I7 p f Ef=0):Lh p=true∧(0≤f∧f<((p.length:Nat):Int))∧(2≤(p.getD f.toNat Fn.zero).params∧(p.getD f.toNat Fn.zero).params≤7)∧(((p.getD f.toNat Fn.zero).outs.length:Nat):Int)=(p.getD f.toNat Fn.zero).params-1:=by
 obtain⟨h1,h2⟩:=fE h
 obtain⟨h3,h4⟩:=Vn h1
 unfold Ef at h2
 rw[Bool.and_eq_true,CL,decide_eq_true_eq]at h2
 exact⟨h3,h4,h2.1,h2.2⟩
section
variable {p:List Fn} {f:Int} {y:List Sr}
end
def OY (n:Nat):Sr:=(List.replicate n 0).set 1 1
def CO (y:List Sr):List Sr:=OY (y.getD 0 []).length::y
theorem YZ (n:Nat):Bt n (OY n):=by
 refine⟨by simp[OY],?_⟩
 match n with
 |0=>rfl
 |1=>rfl
 |n+2 =>
  show B8 (0::1::List.replicate n 0)=true
  have:=GZ n
  unfold B8 at this ⊢
  rw[List.all_cons,List.all_cons,this];rfl
@[simp] theorem DH {y:List Sr}:(CO y).length=y.length+1:=rfl
theorem K6 {m:Nat}{y:List Sr}(h:Bs m y)(h0:0<y.length):Bs m (CO y):=fun k hk=>by
 cases k with
 |zero=>show Bt m (OY (y.getD 0 []).length);rw[(h 0 h0).1];exact YZ m
 |succ k=>exact h k (by rw[DH]at hk;omega)
theorem OZ (n:Nat):cst n 0=List.replicate n 0:=by
 unfold cst
 cases n with
 |zero=>rfl
 |succ n=>rfl
theorem HO.one {e e1:TypeId}{B U B0 U0:Nat}{H:Array Obj}{v u:Value}{r:List Int}(h:Fr (AR rV e) B U H v [u])(hr:Fr (AR rI e1) B0 U0 H u r)(hU:U0≤B):∃us F,HO e [] B H v [r] us F:=by
 obtain⟨F,h1,h2,h3⟩:=h
 obtain⟨G,g1',g2',g3'⟩:=hr
 refine⟨[u],F,h1,h2,fun b hb=>(h3 b hb).1,rfl,fun k hk=>?_⟩
 have hk0:k=0:=by simp at hk;omega
 subst hk0
 exact⟨G,g1'.rd id,fun b hb hm=>by
  rw[List.nil_append]at hm
  have:=g3' b hb
  have:=h3 b hm
  omega⟩
theorem X1 {y:List Sr}{t:Sr}{k:Nat}(hk:k<y.length):(t::y.take k)++[y.getD k []]=t::y.take (k+1):=by rw[Cq [] hk];rfl
theorem lP {p:List Fn}{f:Int}(h:IX p f=0)(h1:(decide (((2:Nat):Int)≤(p.getD f.toNat Fn.zero).params) && decide ((p.getD f.toNat Fn.zero).params≤((7:Nat):Int)))=false):2=I7 p f Ef:=by
 have h1':HC (p.getD f.toNat Fn.zero).params 2 7=false:=h1
 unfold I7 Ef;rw[if_pos h,h1',Bool.false_and];rfl
theorem lQ {p:List Fn}{f:Int}(h:IX p f=0)(h1:¬((((p.getD f.toNat Fn.zero).outs.length:Nat):Int)=(p.getD f.toNat Fn.zero).params-1)):2=I7 p f Ef:=by
 unfold I7 Ef;rw[if_pos h,A8 h1,Bool.and_false];rfl
theorem lR {p:List Fn}{f:Int}(h:IX p f=0)(h1:(decide (((2:Nat):Int)≤(p.getD f.toNat Fn.zero).params) && decide ((p.getD f.toNat Fn.zero).params≤((7:Nat):Int)))=true)(h2:(((p.getD f.toNat Fn.zero).outs.length:Nat):Int)=(p.getD f.toNat Fn.zero).params-1):IX p f=I7 p f Ef:=by
 have h1':HC (p.getD f.toNat Fn.zero).params 2 7=true:=h1
 unfold I7 Ef;rw[if_pos h,h1',A7 h2,h];rfl
theorem RN.ofV {e:TypeId}{B U:Nat}{H:Array Obj}{v:Value}{us:List Value}{xs:List Sr}(h:Fr (AR rV e) B U H v us)(hl:us.length=xs.length)(hr:∀k,k<xs.length→RN [] (B3 rI) H (us.getD k undef) (xs.getD k [])):RN [] (B3 (B3 rI)) H v xs∧Cf v:=by
 refine⟨?_,h.cap⟩
 obtain⟨F,h1,h2,h3⟩:=h
 obtain⟨G,g1,g2⟩:=Kv hl hr
 rcases h1 with⟨rfl,hus,rfl⟩|⟨vs,gb,cap,cur,F',hels,rfl,hg,r1,r2,r3,r4,hF⟩
 ·have:xs=[]:=List.eq_nil_of_length_eq_zero (by rw[← hl,hus];rfl)
  subst this
  exact⟨[],.inl ⟨Option.none,0,rfl,rfl,rfl⟩,fun b hb=>by cases hb⟩
 ·obtain⟨hv,hF0⟩:=FD hels
  subst hv
  exact⟨gb::G,.inr ⟨vs,gb,0,cap,cur,e,(0,0),G,g1,by rw[hl],hg,by simpa [hl]using r4,by omega,rfl⟩,fun b _ hm=>by cases hm⟩
end
section
theorem Bt.ext {m:Nat}{a b:Sr}(ha:Bt m a)(hb:Bt m b)(h:∀k,k<m→a.getD k 0=b.getD k 0):a=b:=by
 refine List.ext_getElem (by rw[ha.1,hb.1]) fun k h1 h2=>?_
 have:=h k (by rw[← ha.1];exact h1)
 simpa [List.getD_eq_getElem?_getD,h1,h2]using this
section
variable {m:Nat} {a b c:Sr}
theorem SD (ha:Bt m a){k:Nat}(hk:k<m):(Em a b).getD k 0=md (a.getD k 0+b.getD k 0):=by unfold Em;exact Bj _ (by rw[ha.1];exact hk)
theorem SE (ha:Bt m a){y:Int}{k:Nat}(hk:k<m):(CK a y).getD k 0=md (a.getD k 0*y):=by unfold CK;exact Bj _ (by rw[ha.1];exact hk)
end
end
section
theorem fM {f:Nat→Int}:∀ {n:Nat},(∀i,i<n→f i=0)→sm n f=0
 |0,_=>rfl
 |n+1,h=>by unfold sm;rw[fM (n:=n) fun i hi=>h i (by omega),h n (by omega)];rfl
def ZW (M:List (List Int)):Nat→Nat→Int:=fun r k=>(M.getD r []).getD k 0
theorem SF {a:List (List Int)}{b:List Int}(hS:Sq a.length a)(hl:b.length=a.length)(hb:B8 b=true)(hs:IF a b≠none)(v:Nat→Int)
  (hv:∀r,r<a.length→md (sm a.length fun j=>ZW a r j*v j)=b.getD r 0):∀r,r<a.length→md (v r)=(IG a b).getD r 0:=by
 have hA:Sh (Bt 1) [] (mm (fun x:Int=>[x]) a).length ((mm (fun x:Int=>[x]) a).length+1) (GV (mm (fun x=>[x]) a) (C7 b)):=by
  rw[JP hS hl,KE];exact US (Gw hS hb)
 have hj:D5 (mm (fun x=>[x]) a) (C7 b)≠none:=by
  rw[Oy hS hl hb]
  obtain⟨M,hM⟩:=Option.ne_none_iff_exists'.1 hs
  rw[hM];simp
 have h:=(Mm (v:=fun j _=>v j) hA hj).1
 rw[KE,JP hS hl,S4 hS hl hb hs]at h
 intro r hr
 have hln:=Mk hS hb hs
 have h0:=h (fun r hr k hk=>?_) r hr 0 (by omega)
 ·have e:BM ((C7 (IG a b)).getD r []) 0=(IG a b).getD r 0:=by
   rw[PR _ (by omega)];rfl
  rw[e]at h0
  have hn:=Be (PQ hS hb hs) r
  rw[h0];exact L6 hn.1 hn.2
 ·have hk0:k=0:=by omega
  subst hk0
  have hrow:=(Gw hS hb).row r hr
  have hrl:=hrow.len
  rw[EF]
  unfold Dg
  have e1:(sm a.length fun j=>cv (BM ((((DU a b).getD r []).map fun x:Int=>[x]).getD j [])) (fun _=>v j) 0)=sm a.length fun j=>ZW a r j*v j:=by
   refine C8 fun j hj'=>?_
   rw[B4 (d:=0) (by omega),← Ov (b:=b) hS r (Nat.zero_le _) hr j hj']
   rfl
  have e2:BM ((((DU a b).getD r []).map fun x:Int=>[x]).getD a.length []) 0=b.getD r 0:=by
   rw[B4 (d:=0) (by omega)]
   unfold DU
   rw[Bj _ hr,GP (by rw[hS.row r hr];omega),hS.row r hr,Nat.sub_self]
   rfl
  rw[e1,e2,hv r hr]
  have hn:=Be hb r
  exact(L6 hn.1 hn.2).symm
section
variable {N N':Nat} {f f' g g':Nat→Int} {a b:Sr}
theorem EN.mono (h:EN N f g)(hN:N'≤N):EN N' f g:=fun k hk=>h k (by omega)
theorem EN.neg (hf:EN N f f'):EN N (fun k=>- f k) (fun k=>- f' k):=fun k hk=>by rw[← Ky,hf k hk,Ky]
theorem EN.eq (h:∀k,k<N→f k=g k):EN N f g:=fun k hk=>by rw[h k hk]
theorem X2 (ha:Bt N a):EN N (BM (CK a 1000002)) (fun k=>- BM a k):=EN.trans (lN (y:=1000002) ha) fun k _=>by
 show md (1000002*BM a k)=md (- BM a k)
 unfold md;omega
def Lo (r:Nat)(f:Nat→Int):Prop:=EN r f Hj
theorem Lo.mono {r r':Nat}(h:Lo r f)(hr:r'≤r):Lo r' f:=EN.mono h hr
theorem Lo.of {r:Nat}(h:EN r f g)(hg:Lo r g):Lo r f:=EN.trans h hg
theorem Lo.add {r:Nat}(h:Lo r f)(hg:Lo r g):Lo r fun k=>f k+g k:=(EN.add h hg).trans fun k _=>rfl
theorem Lo.sub {r:Nat}(h:Lo r f)(hg:Lo r g):Lo r fun k=>f k-g k:=(EN.sub h hg).trans fun k _=>rfl
theorem Lo.neg {r:Nat}(h:Lo r f):Lo r fun k=>- f k:=fun k hk=>by
 have:=h k hk
 show md (- f k)=md 0
 rw[← Ky,this];rfl
theorem Lo.cvl {r:Nat}(h:Lo r f)(g:Nat→Int):Lo r (cv f g):=(EN.cv h (EN.rfl' g)).trans fun k _=>by rw[DD];rfl
theorem Lo.cvr {r:Nat}(g:Nat→Int)(h:Lo r f):Lo r (cv g f):=fun k hk=>by rw[Cv];exact h.cvl g k hk
theorem Lo.cv2 {r s:Nat}(h:Lo r f)(hg:Lo s g):Lo (r+s) (cv f g):=fun k hk=>by
 rw[L7]
 have e:md (sm (k+1) fun i=>f i*g (k-i))=md (sm (k+1) fun _=>0):=Mh fun i hi=>by
  by_cases h1:i<r
  ·rw[← Df,h i h1]
   show md (md 0*_)=_
   rw[EP,Int.zero_mul]
  ·rw[← Df,hg (k-i) (by omega)]
   show md (_*md 0)=_
   rw[EQ,Int.mul_zero]
 rw[e,fM fun _ _=>rfl];rfl
theorem K7 (f g g':Nat→Int)(k:Nat):cv f (fun i=>g i-g' i) k=cv f g k-cv f g' k:=by rw[Cv,OG,Cv g,Cv g']
theorem SG (f g:Nat→Int)(k:Nat):cv f (fun i=>- g i) k = - cv f g k:=by
 have e:(fun i=>- g i)=fun i=>(-1)*g i:=funext fun i=>by omega
 rw[e,PL];omega
theorem P0 (f g:Nat→Int)(k:Nat):cv (fun i=>- f i) g k = - cv f g k:=by rw[Cv,SG,Cv]
theorem Lo.div {r:Nat}(hd:∃e:Int,md (g 0*e)=1)(h:Lo r (cv f g)):Lo r f:=Hk hd (h.trans fun k _=>by rw[DD];rfl)
end
section
variable {N m n:Nat} {B:List Sr} {v v':Nat→Nat→Int}
theorem R1 {f g:Nat→Int}{i:Nat}:∀ {n:Nat},i<n→(∀j,j<n→j≠i→f j=g j)→sm n f=sm n g+(f i-g i)
 |0,h,_=>absurd h (Nat.not_lt_zero i)
 |n+1,hi,h=>by
  show sm n f+f n=sm n g+g n+_
  by_cases e:i=n
  ·subst e
   rw[C8 fun j hj=>h j (by omega) (by omega)];omega
  ·rw[R1 (n:=n) (by omega) fun j hj he=>h j (by omega) he,h n (by omega) (fun h=>e h.symm)];omega
theorem fN {i:Nat}(hi:i<n)(h:∀j,j<n→j≠i→v j=v' j)(t:Nat):Dg n v B t=Dg n v' B t+(cv (BM (B.getD i [])) (v i) t-cv (BM (B.getD i [])) (v' i) t):=by
 unfold Dg
 exact R1 (f:=fun j=>cv (BM (B.getD j [])) (v j) t) (g:=fun j=>cv (BM (B.getD j [])) (v' j) t) hi fun j hj he=>by rw[h j hj he]
theorem SH {i:Nat}{s:Sr}{d:Nat→Int}(hi:i<n)(hb:i<B.length)(h:EN N (BM s) fun t=>BM (B.getD i []) t+d t):EN N (Dg n v (B.set i s)) fun t=>Dg n v B t+cv d (v i) t:=fun t ht=>by
 have e:Dg n v (B.set i s) t=Dg n v B t+(cv (BM s) (v i) t-cv (BM (B.getD i [])) (v i) t):=by
  unfold Dg
  have:=R1 (f:=fun j=>cv (BM ((B.set i s).getD j [])) (v j) t) (g:=fun j=>cv (BM (B.getD j [])) (v j) t) hi fun j hj he=>by rw[BA _ _ _ _ _ hb,if_neg he]
  rw[this,BA _ _ _ _ _ hb,if_pos rfl]
 have h2:md (cv (BM s) (v i) t)=md (cv (BM (B.getD i [])) (v i) t+cv d (v i) t):=by
  rw[EN.cv h (EN.rfl' (v i)) t ht,JQ]
 show md _=md (Dg n v B t+cv d (v i) t)
 rw[e,← Gm,← Fl,h2,Fl,Gm]
 congr 1;omega
theorem LR {r:Int}{s:Sr}(hB:Bs m B)(hN:N≤m)(hr:r.toNat<n)(hb:r.toNat<B.length):EN N (Dg n v (FH B r s)) fun t=>Dg n v B t+cv (BM s) (v r.toNat) t :=
 SH hr hb (EN.mono (eB (hB _ hb)) hN)
theorem Qj (h:∀j,j<n→∀t,BM (B.getD j []) t=0)(t:Nat):Dg n v B t=0:=by
 unfold Dg
 refine fM fun j hj=>?_
 rw[show BM (B.getD j [])=Hj from funext fun t=>h j hj t,DD]
end
structure fO (N:Nat)(cs:List AF)(R:List Sr)(z D:Nat→Nat→Int):Prop where
 t1:∀k,k<cs.length→(cs.getD k AF.zero).op=1→EN N (D k) (z (cs.getD k AF.zero).num.toNat)
 t2:∀k,k<cs.length→(cs.getD k AF.zero).op=2→EN N (D k) Hj
 t3:∀k,k<cs.length→(cs.getD k AF.zero).op=3→EN N (D k) fun t=>D (cs.getD k AF.zero).a.toNat t+D (cs.getD k AF.zero).b.toNat t
 t4:∀k,k<cs.length→(cs.getD k AF.zero).op=4→EN N (D k) fun t=>D (cs.getD k AF.zero).a.toNat t-D (cs.getD k AF.zero).b.toNat t
 t5:∀k,k<cs.length→(cs.getD k AF.zero).op=5→EN N (D k) fun t=>cv (BM (R.getD (cs.getD k AF.zero).b.toNat [])) (D (cs.getD k AF.zero).a.toNat) t+cv (BM (R.getD (cs.getD k AF.zero).a.toNat [])) (D (cs.getD k AF.zero).b.toNat) t
 t6:∀k,k<cs.length→(cs.getD k AF.zero).op=6→EN N (cv (BM (R.getD (cs.getD k AF.zero).b.toNat [])) (D k)) fun t=>D (cs.getD k AF.zero).a.toNat t-cv (BM (R.getD k [])) (D (cs.getD k AF.zero).b.toNat) t
 t7:∀k,k<cs.length→(cs.getD k AF.zero).op=7→EN N (D k) fun t=>- D (cs.getD k AF.zero).a.toNat t
def Fh (cs:List AF)(D:Nat→Nat→Int)(n k:Nat):Nat→Int:=if k<n∨(cs.getD k AF.zero).op=1 then D k else Hj
section
variable {N m ni:Nat} {cs:List AF} {R B:List Sr} {z D:Nat→Nat→Int} {os ws:List Int}
theorem Ht {n k:Nat}(h:k<n):Fh cs D n k=D k:=if_pos (.inl h)
theorem X3 {n k:Nat}(h:(cs.getD k AF.zero).op=1):Fh cs D n k=D k:=if_pos (.inr h)
theorem ZX {n k:Nat}(h:n≤k)(h1:(cs.getD k AF.zero).op≠1):Fh cs D n k=Hj:=if_neg (by omega)
theorem fP (hT:fO N cs R z D)(hN:N≤m)(hR:Bs m R)(hRl:R.length=cs.length)(hB:Bs m B)(hl:B.length=cs.length){k:Nat}(hk:k<cs.length)(hf:GH ni k (cs.getD k AF.zero))
  (hd:(cs.getD k AF.zero).op=6→(R.getD (cs.getD k AF.zero).b.toNat []).getD 0 0≠0) :
  EN N (Dg cs.length (Fh cs D k) (Og cs R k B)) (Dg cs.length (Fh cs D (k+1)) B):=by
 have hBk:=hB k (by omega)
 by_cases h1:(cs.getD k AF.zero).op=1
 ·rw[Qh (by omega)]
  have e:Dg cs.length (Fh cs D k) B=Dg cs.length (Fh cs D (k+1)) B:=funext fun t=>by
   unfold Dg
   refine C8 fun j hj=>?_
   by_cases e:j=k
   ·subst e;rw[X3 h1,X3 h1]
   ·by_cases e2:j<k
    ·rw[Ht e2,Ht (by omega)]
    ·unfold Fh
     by_cases e3:(cs.getD j AF.zero).op=1
     ·rw[if_pos (.inr e3),if_pos (.inr e3)]
     ·rw[if_neg (by omega),if_neg (by omega)]
  rw[e];exact EN.rfl' _
 have hup:Dg cs.length (Fh cs D (k+1)) B=fun t=>Dg cs.length (Fh cs D k) B t+cv (BM (B.getD k [])) (D k) t:=funext fun t=>by
  rw[fN (v:=Fh cs D (k+1)) (v':=Fh cs D k) hk (fun j hj he=>?_) t,Ht (Nat.lt_succ_self k),ZX (A9 k) h1,Cv _ Hj,DD]
  ·omega
  ·by_cases e2:j<k
   ·rw[Ht e2,Ht (by omega)]
   ·unfold Fh
    by_cases e3:(cs.getD j AF.zero).op=1
    ·rw[if_pos (.inr e3),if_pos (.inr e3)]
    ·rw[if_neg (by omega),if_neg (by omega)]
 rw[hup]
 have two:∀ {ra rb:Int} {sa sb:Sr},ra.toNat<k→rb.toNat<k→EN N (fun t=>cv (BM sa) (D ra.toNat) t+cv (BM sb) (D rb.toNat) t) (cv (BM (B.getD k [])) (D k)) →
   EN N (Dg cs.length (Fh cs D k) (FH (FH B ra sa) rb sb)) fun t=>Dg cs.length (Fh cs D k) B t+cv (BM (B.getD k [])) (D k) t:=fun {ra rb sa sb} ha hb h=>by
  have q1:=LR (v:=Fh cs D k) (s:=sa) (n:=cs.length) hB hN (r:=ra) (by omega) (by omega)
  have q2:=LR (v:=Fh cs D k) (s:=sb) (n:=cs.length) (D8 (s:=sa) hB (r:=ra) (by omega)) hN (r:=rb) (by omega) (by rw[C0];omega)
  rw[Ht ha]at q1
  rw[Ht hb]at q2
  refine q2.trans (EN.trans (EN.add q1 (EN.rfl' _)) ?_)
  refine EN.trans (EN.eq fun t _=>?_) (EN.add (EN.rfl' (Dg cs.length (Fh cs D k) B)) h)
  exact Int.add_assoc _ _ _
 have b2:=fun h=>hf.i2 h
 have b7:=fun h=>hf.i7 h
 by_cases h3:(cs.getD k AF.zero).op=3
 ·rw[Qc h3]
  have:=b2 (by omega)
  refine two (by omega) (by omega) ?_
  refine EN.trans (EN.eq fun t _=>?_) (EN.cv (EN.rfl' _) (hT.t3 k hk h3).symm)
  rw[JT]
 by_cases h4:(cs.getD k AF.zero).op=4
 ·rw[Qd h4]
  have:=b2 (by omega)
  refine two (by omega) (by omega) ?_
  refine EN.trans (EN.add (EN.rfl' _) (EN.cv (EN.mono (X2 hBk) hN) (EN.rfl' _))) ?_
  refine EN.trans (EN.eq fun t _=>?_) (EN.cv (EN.rfl' _) (hT.t4 k hk h4).symm)
  rw[K7,P0];omega
 by_cases h5:(cs.getD k AF.zero).op=5
 ·rw[Qe h5]
  have:=b2 (by omega)
  refine two (by omega) (by omega) ?_
  refine EN.trans (EN.add (EN.cv (EN.mono (QL hBk) hN) (EN.rfl' _)) (EN.cv (EN.mono (QL hBk) hN) (EN.rfl' _))) ?_
  refine EN.trans (EN.eq fun t _=>?_) (EN.cv (EN.rfl' _) (hT.t5 k hk h5).symm)
  rw[JT,Ff,Ff]
 by_cases h6:(cs.getD k AF.zero).op=6
 ·rw[Qf h6]
  have:=b2 (by omega)
  have hRb:=hR (cs.getD k AF.zero).b.toNat (by omega)
  refine two (by omega) (by omega) ?_
  have hq:=UV hBk hRb (hd h6)
  refine EN.trans (EN.add (EN.rfl' _) (EN.cv (EN.mono (EN.trans (X2 (I5 (H0 hBk))) (EN.neg (QL (H0 hBk)))) hN) (EN.rfl' _))) ?_
  refine EN.trans ?_ (EN.cv (EN.mono hq hN) (EN.rfl' _))
  refine EN.trans ?_ (EN.trans (EN.cv (EN.rfl' (BM (BT (B.getD k []) (R.getD (cs.getD k AF.zero).b.toNat [])))) (hT.t6 k hk h6).symm) (EN.eq fun t _=>(Ff _ _ _ t).symm))
  refine EN.eq fun t _=>?_
  rw[P0,K7,Ff];omega
 by_cases h7:(cs.getD k AF.zero).op=7
 ·rw[Qg h7]
  have:=b7 h7
  have q1:=LR (v:=Fh cs D k) (s:=CK (B.getD k []) 1000002) (n:=cs.length) hB hN (r:=(cs.getD k AF.zero).a) (by omega) (by omega)
  rw[Ht (by omega)]at q1
  refine q1.trans (EN.add (EN.rfl' _) ?_)
  refine EN.trans (EN.cv (EN.mono (X2 hBk) hN) (EN.rfl' _)) (EN.trans (EN.eq fun t _=>?_) (EN.cv (EN.rfl' _) (hT.t7 k hk h7).symm))
  rw[SG,P0]
 have h2:(cs.getD k AF.zero).op=2:=by unfold GH at hf;omega
 rw[Qh (by omega)]
 refine EN.trans (EN.eq fun t _=>?_) (EN.add (EN.rfl' _) (EN.cv (EN.rfl' _) (hT.t2 k hk h2).symm))
 rw[Cv,DD,Int.add_zero]
theorem ZY (hT:fO N cs R z D)(hN:N≤m)(hR:Bs m R)(hRl:R.length=cs.length)(hf:∀k,k<cs.length→GH ni k (cs.getD k AF.zero))
  (hd:∀k,k<cs.length→(cs.getD k AF.zero).op=6→(R.getD (cs.getD k AF.zero).b.toNat []).getD 0 0≠0) :
  ∀(n:Nat) (B:List Sr),n≤cs.length→Bs m B→B.length=cs.length→EN N (Dg cs.length (Fh cs D 0) (TT cs R n B)) (Dg cs.length (Fh cs D n) B)
 |0,B,_,_,_=>EN.rfl' _
 |n+1,B,hn,hB,hl=>by
  show EN N (Dg cs.length (Fh cs D 0) (TT cs R n (Og cs R n B))) _
  exact(ZY hT hN hR hRl hf hd n _ (by omega) (Hs hB (by omega) (hf n (by omega))) (by rw[LO,hl])).trans (fP hT hN hR hRl hB hl (by omega) (hf n (by omega)) (hd n (by omega)))
theorem SI {L B0:List Sr}(hT:fO N cs R z D)(hN:N≤m)(hB:Bs m B0)(hl:B0.length=ni)(hf:∀k,k<cs.length→GH ni k (cs.getD k AF.zero)) :
  ∀n,n≤cs.length→EN N (Dg ni z (TH cs L n B0)) fun t=>Dg ni z B0 t+sm n fun k=>cv (BM (L.getD k [])) (Fh cs D 0 k) t
 |0,_=>fun t _=>by show _=md (_+0);rw[Int.add_zero];rfl
 |n+1,hn=>by
  have ih:=SI (L:=L) hT hN hB hl hf n (by omega)
  by_cases h1:(cs.getD n AF.zero).op=1
  ·rw[MJ h1]
   have hi:=(hf n (by omega)).i1 h1
   refine(LR (LP (fun k hk=>by rw[hl];exact hf k hk) hB n (by omega)) hN (by omega) (by rw[Iz];omega)).trans ?_
   refine(EN.add ih (EN.cv (EN.rfl' _) (hT.t1 n (by omega) h1).symm)).trans (EN.eq fun t _=>?_)
   show _=Dg ni z B0 t+(sm n _+cv (BM (L.getD n [])) (Fh cs D 0 n) t)
   rw[X3 h1,Int.add_assoc]
  ·rw[ML h1]
   refine ih.trans (EN.eq fun t _=>?_)
   show _=Dg ni z B0 t+(sm n _+cv (BM (L.getD n [])) (Fh cs D 0 n) t)
   rw[ZX (Nat.zero_le n) h1,Cv _ Hj,DD,Int.add_zero]
theorem X4 {m:Nat}(t:Nat):BM (List.replicate m 0) t=0:=HF m t
theorem ZZ (hB:Bs m B)(hm:1≤m){n:Nat}(hn:n≤B.length):∀k,k≤os.length→(∀i,i<os.length→(os.getD i 0).toNat<n) →
  EN N (Dg n D (Nq os ws k B)) fun t=>Dg n D B t+sm k fun i=>ws.getD i 0*D (os.getD i 0).toNat t
 |0,_,_=>fun t _=>by show _=md (_+0);rw[Int.add_zero];rfl
 |k+1,hk,ho=>by
  have ih:=ZZ hB hm hn k (by omega) ho
  have h9:=ho k (by omega)
  have hs:=Iy (ws:=ws) hB (fun i hi=>by have:=ho i hi;omega) k (by omega) (os.getD k 0).toNat (by rw[Eo];omega)
  refine(SH (B:=Nq os ws k B) (s:=((Nq os ws k B).getD (os.getD k 0).toNat []).set 0 (md (((Nq os ws k B).getD (os.getD k 0).toNat []).getD 0 0+ws.getD k 0))) (d:=fun t=>ws.getD k 0*PS t) h9 (by rw[Eo];omega) (fun t _=>?_)).trans ?_
  ·unfold BM
   rw[BA _ _ _ _ _ (by rw[hs.1];omega)]
   unfold PS
   by_cases e:t=0
   ·subst e
    show _=md (_+ws.getD k 0*(if (0:Nat)=0 then 1 else 0))
    rw[if_pos rfl,if_pos rfl,EZ,Int.mul_one]
   ·show _=md (_+ws.getD k 0*(if t=0 then 1 else 0))
    rw[if_neg e,if_neg e,Int.mul_zero,Int.add_zero]
  ·refine(EN.add ih (EN.rfl' _)).trans (EN.eq fun t _=>?_)
   show _=_+(sm k _+_)
   rw[JS,OF,Int.add_assoc]
theorem Z0 (hT:fO N cs R z D)(hN:N≤m)(hm:1≤m)(hR:Bs m R)(hRl:R.length=cs.length)(hf:∀k,k<cs.length→GH ni k (cs.getD k AF.zero))
  (hd:∀k,k<cs.length→(cs.getD k AF.zero).op=6→(R.getD (cs.getD k AF.zero).b.toNat []).getD 0 0≠0) (ho:∀i,i<os.length→(os.getD i 0).toNat<cs.length) :
  EN N (Dg ni z (eE ni m cs (Lj cs R os ws))) fun t=>sm os.length fun i=>ws.getD i 0*D (os.getD i 0).toNat t:=by
 have h1:=SI (L:=Lj cs R os ws) (B0:=List.replicate ni (List.replicate m 0)) hT hN (K5 m ni) List.length_replicate hf cs.length (A9 _)
 have hw:Bs m (Nq os ws os.length (K4 R)):=Iy (Hr hR) (fun q hq=>by rw[D7,hRl];exact ho q hq) _ (A9 _)
 have h2:=ZY hT hN hR hRl hf hd cs.length (Nq os ws os.length (K4 R)) (A9 _) hw (by rw[Eo,D7,hRl])
 have h3:=ZZ (N:=N) (D:=D) (os:=os) (ws:=ws) (Hr hR) hm (n:=cs.length) (by rw[D7,hRl];exact A9 _) os.length (A9 _) ho
 have e1:∀t,Dg ni z (List.replicate ni (List.replicate m 0)) t=0:=Qj fun j hj t=>by
  rw[show(List.replicate ni (List.replicate m (0:Int))).getD j []=List.replicate m 0 from by simp[List.getD_eq_getElem?_getD,hj]];exact X4 t
 have e2:∀t,Dg cs.length D (K4 R) t=0:=Qj fun j hj t=>by
  rw[show(K4 R).getD j []=List.replicate (R.getD j []).length 0 from by unfold K4;rw[B4 (d:=[]) (by omega)]];exact X4 t
 have e3:Dg cs.length (Fh cs D cs.length) (Nq os ws os.length (K4 R))=Dg cs.length D (Nq os ws os.length (K4 R)):=funext fun t=>by
  unfold Dg
  exact C8 fun j hj=>by rw[Ht hj]
 rw[e3]at h2
 refine h1.trans (EN.trans (EN.eq fun t _=>?_) (EN.trans h2 (h3.trans (EN.eq fun t _=>?_))))
 ·rw[e1,Int.zero_add];rfl
 ·rw[e2,Int.zero_add]
end
end
section
def Bu (A A':List Sr)(j:Nat):Nat→Int:=fun t=>BM (A'.getD j []) t-BM (A.getD j []) t
section
variable {m r N k j:Nat} {A A':List Sr} {T:Tp} {cs:List AF}
theorem Gz (hk:k≤cs.length)(hj:j<k):(B9 m A (cs.take k)).getD j []=(B9 m A cs).getD j []:=by
 have:=MC (m:=m) (A:=A) (cs.take k) (cs.drop k) (k:=j) (by rw[List.length_take];omega)
 rw[List.take_append_drop]at this
 exact this.symm
theorem Jh (hk:k<cs.length):(B9 m A cs).getD k []=G5 m A (B9 m A (cs.take k)) (cs.getD k AF.zero):=by
 rw[← Gz (show k+1≤cs.length from hk) (Nat.lt_succ_self k),DG hk,JG (by rw[BE,List.length_take];omega)]
theorem DF.r1 (h:DF m A T)(hk:k<T.code.length)(h1:(T.code.getD k AF.zero).op=1):(Go.Proofs.YtnokbaiemimhjaaGreat.B9 m A T.code).getD k []=A.getD (T.code.getD k AF.zero).num.toNat []:=by rw[Jh hk,OU h1]
theorem DF.r2 (h:DF m A T)(hk:k<T.code.length)(h1:(T.code.getD k AF.zero).op=2):(Go.Proofs.YtnokbaiemimhjaaGreat.B9 m A T.code).getD k []=cst m (T.code.getD k AF.zero).num:=by rw[Jh hk,MI (by omega)]
theorem DF.r3 (h:DF m A T)(hk:k<T.code.length)(h1:(T.code.getD k AF.zero).op=3):(Go.Proofs.YtnokbaiemimhjaaGreat.B9 m A T.code).getD k []=Em ((Go.Proofs.YtnokbaiemimhjaaGreat.B9 m A T.code).getD (T.code.getD k AF.zero).a.toNat []) ((Go.Proofs.YtnokbaiemimhjaaGreat.B9 m A T.code).getD (T.code.getD k AF.zero).b.toNat []):=by
 have:=(h.form k hk).i2 (by omega)
 rw[Jh hk,MD h1,Gz (by omega) (by omega),Gz (by omega) (by omega)]
theorem DF.r4 (h:DF m A T)(hk:k<T.code.length)(h1:(T.code.getD k AF.zero).op=4):(Go.Proofs.YtnokbaiemimhjaaGreat.B9 m A T.code).getD k []=Dt ((Go.Proofs.YtnokbaiemimhjaaGreat.B9 m A T.code).getD (T.code.getD k AF.zero).a.toNat []) ((Go.Proofs.YtnokbaiemimhjaaGreat.B9 m A T.code).getD (T.code.getD k AF.zero).b.toNat []):=by
 have:=(h.form k hk).i2 (by omega)
 rw[Jh hk,ME h1,Gz (by omega) (by omega),Gz (by omega) (by omega)]
theorem DF.r5 (h:DF m A T)(hk:k<T.code.length)(h1:(T.code.getD k AF.zero).op=5):(Go.Proofs.YtnokbaiemimhjaaGreat.B9 m A T.code).getD k []=C5 ((Go.Proofs.YtnokbaiemimhjaaGreat.B9 m A T.code).getD (T.code.getD k AF.zero).a.toNat []) ((Go.Proofs.YtnokbaiemimhjaaGreat.B9 m A T.code).getD (T.code.getD k AF.zero).b.toNat []):=by
 have:=(h.form k hk).i2 (by omega)
 rw[Jh hk,MF h1,Gz (by omega) (by omega),Gz (by omega) (by omega)]
theorem DF.r6 (h:DF m A T)(hk:k<T.code.length)(h1:(T.code.getD k AF.zero).op=6):(Go.Proofs.YtnokbaiemimhjaaGreat.B9 m A T.code).getD k []=BT ((Go.Proofs.YtnokbaiemimhjaaGreat.B9 m A T.code).getD (T.code.getD k AF.zero).a.toNat []) ((Go.Proofs.YtnokbaiemimhjaaGreat.B9 m A T.code).getD (T.code.getD k AF.zero).b.toNat []):=by
 have:=(h.form k hk).i2 (by omega)
 rw[Jh hk,MH h1,Gz (by omega) (by omega),Gz (by omega) (by omega)]
theorem DF.r7 (h:DF m A T)(hk:k<T.code.length)(h1:(T.code.getD k AF.zero).op=7):(Go.Proofs.YtnokbaiemimhjaaGreat.B9 m A T.code).getD k []=CK ((Go.Proofs.YtnokbaiemimhjaaGreat.B9 m A T.code).getD (T.code.getD k AF.zero).a.toNat []) 1000002:=by
 have:=(h.form k hk).i7 h1
 rw[Jh hk,MG h1,Gz (by omega) (by omega)]
theorem DF.rz (h:DF m A T)(hk:k<T.code.length)(h1:(T.code.getD k AF.zero).op=6):((Go.Proofs.YtnokbaiemimhjaaGreat.B9 m A T.code).getD (T.code.getD k AF.zero).b.toNat []).getD 0 0≠0:=by
 have:=(h.form k hk).i2 (by omega)
 rw[(h.ser (T.code.getD k AF.zero).b.toNat (by omega)).2]
 exact h.dv k hk h1
theorem X5 (f g:Nat→Int):f=fun t=>g t+(f t-g t):=funext fun t=>by omega
theorem X6 (v w v' w':Nat→Int)(t:Nat):cv v' w' t-cv v w t=cv w (fun t=>v' t-v t) t+cv v (fun t=>w' t-w t) t+cv (fun t=>v' t-v t) (fun t=>w' t-w t) t:=by
 rw[OG,K7,K7,K7,Cv w,Cv w];omega
theorem aA (h:DF m A T)(h':DF m A' T)(hk:k<T.code.length)(h1:(T.code.getD k AF.zero).op=1):Bu (B9 m A T.code) (B9 m A' T.code) k=Bu A A' (T.code.getD k AF.zero).num.toNat:=by
 unfold Bu;rw[h.r1 hk h1,h'.r1 hk h1]
theorem aB (h:DF m A T)(h':DF m A' T)(hk:k<T.code.length)(h1:(T.code.getD k AF.zero).op=2):EN N (Bu (B9 m A T.code) (B9 m A' T.code) k) Hj:=EN.eq fun t _=>by
 unfold Bu;rw[h.r2 hk h1,h'.r2 hk h1,Int.sub_self];rfl
theorem aC (h:DF m A T)(h':DF m A' T)(hk:k<T.code.length)(h1:(T.code.getD k AF.zero).op=3) :
  EN m (Bu (B9 m A T.code) (B9 m A' T.code) k) fun t=>Bu (B9 m A T.code) (B9 m A' T.code) (T.code.getD k AF.zero).a.toNat t+Bu (B9 m A T.code) (B9 m A' T.code) (T.code.getD k AF.zero).b.toNat t:=by
 have hb:=(h.form k hk).i2 (by omega)
 unfold Bu;rw[h.r3 hk h1,h'.r3 hk h1]
 exact(EN.sub (eB (h'.ser _ (by omega)).1) (eB (h.ser _ (by omega)).1)).trans (EN.eq fun t _=>by omega)
theorem aD (h:DF m A T)(h':DF m A' T)(hk:k<T.code.length)(h1:(T.code.getD k AF.zero).op=4) :
  EN m (Bu (B9 m A T.code) (B9 m A' T.code) k) fun t=>Bu (B9 m A T.code) (B9 m A' T.code) (T.code.getD k AF.zero).a.toNat t-Bu (B9 m A T.code) (B9 m A' T.code) (T.code.getD k AF.zero).b.toNat t:=by
 have hb:=(h.form k hk).i2 (by omega)
 unfold Bu;rw[h.r4 hk h1,h'.r4 hk h1]
 exact(EN.sub (UT (h'.ser _ (by omega)).1) (UT (h.ser _ (by omega)).1)).trans (EN.eq fun t _=>by omega)
theorem aE (h:DF m A T)(h':DF m A' T)(hk:k<T.code.length)(h1:(T.code.getD k AF.zero).op=7) :
  EN m (Bu (B9 m A T.code) (B9 m A' T.code) k) fun t=>- Bu (B9 m A T.code) (B9 m A' T.code) (T.code.getD k AF.zero).a.toNat t:=by
 have hb:=(h.form k hk).i7 h1
 unfold Bu;rw[h.r7 hk h1,h'.r7 hk h1]
 exact(EN.sub (X2 (h'.ser _ (by omega)).1) (X2 (h.ser _ (by omega)).1)).trans (EN.eq fun t _=>by omega)
theorem aF (h:DF m A T)(h':DF m A' T)(hk:k<T.code.length)(h1:(T.code.getD k AF.zero).op=5) :
  EN m (Bu (B9 m A T.code) (B9 m A' T.code) k) fun t=>cv (BM ((B9 m A T.code).getD (T.code.getD k AF.zero).b.toNat [])) (Bu (B9 m A T.code) (B9 m A' T.code) (T.code.getD k AF.zero).a.toNat) t
   + cv (BM ((B9 m A T.code).getD (T.code.getD k AF.zero).a.toNat [])) (Bu (B9 m A T.code) (B9 m A' T.code) (T.code.getD k AF.zero).b.toNat) t
   + cv (Bu (B9 m A T.code) (B9 m A' T.code) (T.code.getD k AF.zero).a.toNat) (Bu (B9 m A T.code) (B9 m A' T.code) (T.code.getD k AF.zero).b.toNat) t:=by
 have hb:=(h.form k hk).i2 (by omega)
 unfold Bu;rw[h.r5 hk h1,h'.r5 hk h1]
 exact(EN.sub (QL (h'.ser _ (by omega)).1) (QL (h.ser _ (by omega)).1)).trans (EN.eq fun t _=>X6 _ _ _ _ t)
theorem aG (h:DF m A T)(h':DF m A' T)(hk:k<T.code.length)(h1:(T.code.getD k AF.zero).op=6) :
  EN m (Bu (B9 m A T.code) (B9 m A' T.code) (T.code.getD k AF.zero).a.toNat) fun t=>cv (BM ((B9 m A T.code).getD (T.code.getD k AF.zero).b.toNat [])) (Bu (B9 m A T.code) (B9 m A' T.code) k) t
   + cv (BM ((B9 m A T.code).getD k [])) (Bu (B9 m A T.code) (B9 m A' T.code) (T.code.getD k AF.zero).b.toNat) t
   + cv (Bu (B9 m A T.code) (B9 m A' T.code) k) (Bu (B9 m A T.code) (B9 m A' T.code) (T.code.getD k AF.zero).b.toNat) t:=by
 have hb:=(h.form k hk).i2 (by omega)
 have q:=UV (h.ser (T.code.getD k AF.zero).a.toNat (by omega)).1 (h.ser (T.code.getD k AF.zero).b.toNat (by omega)).1 (h.rz hk h1)
 have q':=UV (h'.ser (T.code.getD k AF.zero).a.toNat (by omega)).1 (h'.ser (T.code.getD k AF.zero).b.toNat (by omega)).1 (h'.rz hk h1)
 rw[← h.r6 hk h1]at q
 rw[← h'.r6 hk h1]at q'
 exact(EN.sub q'.symm q.symm).trans (EN.eq fun t _=>X6 _ _ _ _ t)
theorem X7 (h:DF m A T)(h':DF m A' T)(hr:r≤m)(hz:∀j,j<A.length→Lo r (Bu A A' j)):∀n k,k<n→k<T.code.length→Lo r (Bu (B9 m A T.code) (B9 m A' T.code) k)
 |0,k,hk,_=>absurd hk (Nat.not_lt_zero k)
 |n+1,k,hn,hk=>by
  have ih:=X7 h h' hr hz n
  have hf:=h.form k hk
  have b2:=fun h=>hf.i2 h
  have b7:=fun h=>hf.i7 h
  by_cases h1:(T.code.getD k AF.zero).op=1
  ·rw[aA h h' hk h1];have:=hf.i1 h1;exact hz _ (by omega)
  by_cases h2:(T.code.getD k AF.zero).op=2
  ·exact aB h h' hk h2
  by_cases h3:(T.code.getD k AF.zero).op=3
  ·have:=b2 (by omega)
   exact Lo.of (EN.mono (aC h h' hk h3) hr) ((ih _ (by omega) (by omega)).add (ih _ (by omega) (by omega)))
  by_cases h4:(T.code.getD k AF.zero).op=4
  ·have:=b2 (by omega)
   exact Lo.of (EN.mono (aD h h' hk h4) hr) ((ih _ (by omega) (by omega)).sub (ih _ (by omega) (by omega)))
  by_cases h5:(T.code.getD k AF.zero).op=5
  ·have:=b2 (by omega)
   exact Lo.of (EN.mono (aF h h' hk h5) hr) (((Lo.cvr _ (ih _ (by omega) (by omega))).add (Lo.cvr _ (ih _ (by omega) (by omega)))).add ((ih _ (by omega) (by omega)).cvl _))
  by_cases h6:(T.code.getD k AF.zero).op=6
  ·have:=b2 (by omega)
   have ha:=ih (T.code.getD k AF.zero).a.toNat (by omega) (by omega)
   have hb:=ih (T.code.getD k AF.zero).b.toNat (by omega) (by omega)
   have e:=EN.mono (aG h h' hk h6) hr
   refine Lo.div (g:=BM ((B9 m A' T.code).getD (T.code.getD k AF.zero).b.toNat [])) (OH (h'.ser (T.code.getD k AF.zero).b.toNat (by omega)).1 (h'.rz hk h6)) ?_
   refine Lo.of (g:=fun t=>Bu (B9 m A T.code) (B9 m A' T.code) (T.code.getD k AF.zero).a.toNat t-cv (BM ((B9 m A T.code).getD k [])) (Bu (B9 m A T.code) (B9 m A' T.code) (T.code.getD k AF.zero).b.toNat) t) ?_ (ha.sub (hb.cvr _))
   refine EN.trans (EN.eq fun t _=>?_) (EN.sub e.symm (EN.rfl' _))
   rw[X5 (BM ((B9 m A' T.code).getD (T.code.getD k AF.zero).b.toNat [])) (BM ((B9 m A T.code).getD (T.code.getD k AF.zero).b.toNat [])),JT,Cv _ (BM ((B9 m A T.code).getD (T.code.getD k AF.zero).b.toNat []))]
   show _+cv _ (Bu _ _ _) t=_
   omega
  have h7:(T.code.getD k AF.zero).op=7:=by unfold GH at hf;omega
  have:=b7 h7
  exact Lo.of (EN.mono (aE h h' hk h7) hr) (ih _ (by omega) (by omega)).neg
theorem Z1 (h:DF m A T)(h':DF m A' T)(hr:r≤m)(hz:∀j,j<A.length→Lo r (Bu A A' j))(hN:N≤m)(h2:N≤r+r):fO N T.code (B9 m A T.code) (Bu A A') (Bu (B9 m A T.code) (B9 m A' T.code)):=by
 have lo:=fun k (hk:k<T.code.length)=>X7 h h' hr hz (k+1) k (Nat.lt_succ_self k) hk
 refine⟨fun k hk h1=>by rw[aA h h' hk h1];exact EN.rfl' _,fun k hk h1=>aB h h' hk h1,fun k hk h1=>EN.mono (aC h h' hk h1) hN,fun k hk h1=>EN.mono (aD h h' hk h1) hN,fun k hk h1=>?_,fun k hk h1=>?_,fun k hk h1=>EN.mono (aE h h' hk h1) hN⟩
 ·have:=(h.form k hk).i2 (by omega)
  refine(EN.mono (aF h h' hk h1) hN).trans ?_
  refine(EN.add (EN.rfl' _) (Lo.mono (Lo.cv2 (lo _ (by omega)) (lo _ (by omega))) h2)).trans (EN.eq fun t _=>?_)
  exact Int.add_zero _
 ·have:=(h.form k hk).i2 (by omega)
  refine(EN.sub (EN.mono (aG h h' hk h1) hN) (EN.rfl' _) |>.trans ?_).symm
  refine(EN.sub (EN.add (EN.rfl' _) (Lo.mono (Lo.cv2 (lo k hk) (lo _ (by omega))) h2)) (EN.rfl' _)).trans (EN.eq fun t _=>?_)
  show _+_+(0:Int)-_=_
  omega
theorem tay (h:DF m A T)(h':DF m A' T)(hm:1≤m)(hr:r≤m)(hz:∀j,j<A.length→Lo r (Bu A A' j))(hN:N≤m)(h2:N≤r+r){xs:List Int}(hE:KJ T xs){i:Nat}(hi:i<xs.length) :
  EN N (Dg A.length (Bu A A') (Qi m T xs A i)) (Bu (B9 m A T.code) (B9 m A' T.code) (xs.getD i 0).toNat):=by
 have hx:=h.outs hE
 refine(Z0 (m:=m) (ni:=A.length) (os:=xs) (ws:=G3 xs.length [((i:Nat):Int)] 1) (Z1 h h' hr hz hN h2) hN hm h.regs (BE _) h.form (fun k hk h6=>h.rz hk h6) (fun q hq=>by have:=hx q hq;omega)).trans (EN.eq fun t _=>?_)
 have e:(sm xs.length fun q=>(G3 xs.length [((i:Nat):Int)] 1).getD q 0*Bu (B9 m A T.code) (B9 m A' T.code) (xs.getD q 0).toNat t)=sm xs.length fun q=>if i=q then Bu (B9 m A T.code) (B9 m A' T.code) (xs.getD q 0).toNat t else 0:=C8 fun q _=>by
  rw[show G3 xs.length [((i:Nat):Int)] 1=eV xs.length i from rfl,VJ hi]
  split
  ·rw[Int.one_mul]
  ·rw[Int.zero_mul]
 rw[e,JU i (fun q=>Bu (B9 m A T.code) (B9 m A' T.code) (xs.getD q 0).toNat t),if_pos hi]
end
end
section
section
variable {m n r N k:Nat}
theorem R2 {u:Nat→Nat→Int}{row:List Sr}(h:∀j,j<n→Lo k (u j)):md (Dg n u row k)=md (sm n fun j=>BM (row.getD j []) 0*u j k):=by
 unfold Dg
 refine Mh fun j hj=>?_
 cases k with
 |zero=>rfl
 |succ k =>
  show md (BM (row.getD j []) 0*u j (k+1)+cv (fun i=>BM (row.getD j []) (i+1)) (u j) k)=_
  have:=Lo.cvr (fun i=>BM (row.getD j []) (i+1)) (h j hj) k (Nat.lt_succ_self k)
  rw[← Gm,this]
  show md (_+md 0)=_
  rw[Gm,Int.add_zero]
theorem X8 {J:List (List Sr)}{J0:List (List Int)}{u:Nat→Nat→Int}(hJ:J.length=n)(hS:Sq n J0)(hJ0:I2 J=J0)(hJl:∀i,i<n→(J.getD i []).length=n)(hd:Ed J0≠0):∀N,(∀i,i<n→Lo N (Dg n u (J.getD i [])))→∀j,j<n→Lo N (u j)
 |0,_,j,_=>fun k hk=>absurd hk (Nat.not_lt_zero k)
 |N+1,h,j,hj=>by
  have ih:=X8 hJ hS hJ0 hJl hd N fun i hi=>(h i hi).mono (Nat.le_succ N)
  have hl:J0.length=n:=by rw[← hJ0,En,hJ]
  have hS':Sq J0.length J0:=by rw[hl];exact hS
  have hb:B8 (List.replicate n 0)=true:=GZ n
  have hjn:IF J0 (List.replicate n 0)≠none:=fun hn=>hd ((JN hS' hb).2 hn)
  have key:=SF hS' (by rw[List.length_replicate,hl]) hb hjn (fun j=>u j N) fun i hi=>by
   rw[hl]at hi ⊢
   rw[HF]
   have:=h i hi N (Nat.lt_succ_self N)
   rw[R2 ih]at this
   rw[show(sm n fun j=>ZW J0 i j*u j N)=sm n fun j=>BM ((J.getD i []).getD j []) 0*u j N from C8 fun j hj=>by
    unfold ZW;rw[← hJ0,GX];unfold Pp;rw[B4 (d:=[]) (by rw[hJl i hi];exact hj)];rfl,this];rfl
  have key0:=SF hS' (by rw[List.length_replicate,hl]) hb hjn (fun j=>0) fun i hi=>by
   rw[HF,fM fun j _=>Int.mul_zero _];rfl
  intro k hk
  by_cases e:k<N
  ·exact ih j hj k e
  ·have:k=N:=by omega
   subst this
   rw[key j (by rw[hl];exact hj),← key0 j (by rw[hl];exact hj)];rfl
structure TU (m n:Nat)(a:List Int)(J0:List (List Int))(G:List Sr→List Sr)(J:List Sr→List (List Sr)):Prop where
 al:a.length=n
 sq:Sq n J0
 gl:∀y,Bs m y→BN y=a→(G y).length=n∧Bs m (G y)
 jl:∀y,Bs m y→BN y=a→(J y).length=n∧∀i,i<n→((J y).getD i []).length=n∧Bs m ((J y).getD i [])
 j0:∀y,Bs m y→BN y=a→I2 (J y)=J0
 tay:∀y y' r N,Bs m y→Bs m y'→BN y=a→BN y'=a→1≤r→r≤m→(∀j,j<n→Lo r (Bu y y' j))→N≤m→N≤r+r→∀i,i<n→EN N (Dg n (Bu y y') ((J y).getD i [])) (Bu (G y) (G y') i)
variable {a:List Int} {J0:List (List Int)} {G:List Sr→List Sr} {J:List Sr→List (List Sr)} {y y' yS g:List Sr}
theorem Hu (h:BN y=a):y.length=a.length:=by rw[← h,C9]
def X9 (J:List (List Sr))(y g:List Sr):List Sr:=Fj y.length fun i=>Dt (y.getD i []) ((FF J g).getD i [])
theorem K8 {J:List (List Sr)}:(X9 J y g).length=y.length:=by simp[X9]
theorem R3 {J:List (List Sr)}{i:Nat}(hi:i<y.length):(X9 J y g).getD i []=Dt (y.getD i []) ((FF J g).getD i []):=Bj [] hi
theorem Z2 {J:List (List Sr)}(h:Bs m y):Bs m (X9 J y g):=fun k hk=>by
 rw[K8]at hk
 rw[R3 hk];exact Mp (h k hk)
theorem TU.sys (H:TU m n a J0 G J)(hy:Bs m y)(hf:BN y=a)(hm:1≤m∧m≤13)(hn:n≤6)(hg:g.length=n)(hgs:Bs m g):I1 (J y) g m:=by
 have h1:=H.jl y hy hf
 exact⟨by omega,by omega,fun i hi=>by rw[(h1.2 i (by omega)).1];omega,fun i j hi hj=>(h1.2 i (by omega)).2 j (by rw[(h1.2 i (by omega)).1];omega),fun i hi=>hgs i (by omega),hm.1,hm.2⟩
theorem TU.jor (H:TU m n a J0 G J)(hd:Ed J0≠0)(hy:Bs m y)(hf:BN y=a)(hm:1≤m∧m≤13)(hn:n≤6)(hg:g.length=n)(hgs:Bs m g):D5 (J y) g≠none:=fun h=>by
 have:=(H.sys hy hf hm hn hg hgs).jor.1 h
 rw[H.j0 y hy hf]at this
 exact hd this
theorem TU.sol (H:TU m n a J0 G J)(hd:Ed J0≠0)(hy:Bs m y)(hf:BN y=a)(hm:1≤m∧m≤13)(hn:n≤6)(hg:g.length=n)(hgs:Bs m g){i:Nat}(hi:i<n) :
  EN m (Dg n (fun j=>BM ((FF (J y) g).getD j [])) ((J y).getD i [])) (BM (g.getD i [])):=by
 have hs:=H.sys hy hf hm hn hg hgs
 have hj:=H.jor hd hy hf hm hn hg hgs
 have h1:=H.jl y hy hf
 have h:=(Mm (v:=fun j=>BM ((FF (J y) g).getD j [])) hs.sh hj).2 (fun r hr=>EN.rfl' _) i (by omega)
 unfold I0 at h
 rw[Ml _ _ (by omega),h1.1]at h
 have hl:=(h1.2 i hi).1
 have e:Dg n (fun j=>BM ((FF (J y) g).getD j [])) ((J y).getD i []++[g.getD i []])=Dg n (fun j=>BM ((FF (J y) g).getD j [])) ((J y).getD i []):=funext fun t=>by
  unfold Dg
  exact C8 fun j hj=>by rw[JM (by omega)]
 rw[e,GP (by omega),show n-((J y).getD i []).length=0 from by omega]at h
 exact h
theorem TU.step (H:TU m n a J0 G J) (hd:Ed J0≠0) (hm:1≤m∧m≤13) (hn:n≤6) (hy:Bs m y) (hf:BN y = a) (hyS:Bs m yS) (hfS:BN yS = a) (hg:g.length = n) (hgs:Bs m g)
  (hgG:∀ i,i < n→EN m (BM (g.getD i [])) fun t=>BM ((G y).getD i []) t - BM ((G yS).getD i []) t) (hr1:1≤r) (hr:r≤m) (hz:∀ j,j < n→Lo r (Bu y yS j)) (hN:N≤m) (h2:N≤r + r) :
  ∀ j,j < n→Lo N (Bu (X9 (J y) y g) yS j):=by
 have h1:=H.jl y hy hf
 have hyl:y.length = n:=by rw [Hu hf,H.al]
 have hsl:=(PU (H.sys hy hf hm hn hg hgs) (H.jor hd hy hf hm hn hg hgs))
 -- the solution and the difference have the same image,up to N
 have key:∀ j,j < n→Lo N (fun t=>BM ((FF (J y) g).getD j []) t + Bu y yS j t):=X8 h1.1 H.sq (H.j0 y hy hf) (fun i hi=>(h1.2 i hi).1) hd N fun i hi=>by
  have e:Dg n (fun j t=>BM ((FF (J y) g).getD j []) t + Bu y yS j t) ((J y).getD i []) = fun t=>Dg n (fun j=>BM ((FF (J y) g).getD j [])) ((J y).getD i []) t + Dg n (Bu y yS) ((J y).getD i []) t:=funext fun t=>by
   unfold Dg
   rw [← QJ]
   exact C8 fun j _=>JT _ _ _ _
  rw [e]
  refine Lo.of (EN.add ((EN.mono (H.sol hd hy hf hm hn hg hgs hi) hN).trans (EN.mono (hgG i hi) hN)) (H.tay y yS r N hy hyS hf hfS hr1 hr hz hN h2 i hi)) fun t _=>?_
  unfold Bu
  rw [show BM ((G y).getD i []) t - BM ((G yS).getD i []) t + (BM ((G yS).getD i []) t - BM ((G y).getD i []) t) = 0 from by omega]; rfl
 intro j hj
 refine Lo.of (g:=fun t=>BM ((FF (J y) g).getD j []) t + Bu y yS j t) ?_ (key j hj)
 unfold Bu
 rw [R3 (by omega)]
 refine (EN.sub (EN.rfl' _) (EN.mono (UT (hy j (by omega))) hN)).trans (EN.eq fun t _=>?_)
 (try dsimp only); omega
theorem fQ (hy:Bs m y)(hy':Bs m y')(hl:y.length=y'.length)(h:∀j,j<y.length→Lo m (Bu y y' j)):y=y':=by
 refine List.ext_getElem hl fun j h1 h2=>?_
 rw[← Dn (d:=[]) h1,← Dn (d:=[]) h2]
 refine Bt.ext (hy j h1) (hy' j h2) fun k hk=>?_
 have h3:md ((y'.getD j []).getD k 0-(y.getD j []).getD k 0)=md 0:=h j h1 k hk
 have h4:=Be (hy j h1).2 k
 have h5:=Be (hy' j h2).2 k
 unfold md at h3
 omega
theorem fR (hy:Bs m y)(hy':Bs m y')(hm:1≤m)(h:BN y=BN y'){j:Nat}(hj:j<y.length):Lo 1 (Bu y y' j):=fun k hk=>by
 have e:k=0:=by omega
 subst e
 have hl:y'.length=y.length:=by rw[← C9 (A:=y'),← h,C9]
 have h1:(BN y).getD j 0=(BN y').getD j 0:=by rw[h]
 unfold BN at h1
 rw[B4 (d:=[]) hj,B4 (d:=[]) (by omega)]at h1
 show md ((y'.getD j []).getD 0 0-(y.getD j []).getD 0 0)=_
 rw[h1,Int.sub_self];rfl
theorem Oh (hy:Bs m y)(hy':Bs m y')(hl:y.length=y'.length)(hm:1≤m)(h:∀j,j<y.length→Lo 1 (Bu y y' j)):BN y=BN y':=by
 refine List.ext_getElem (by rw[C9,C9,hl]) fun j h1 h2=>?_
 rw[← Dn (d:=(0:Int)) h1,← Dn (d:=(0:Int)) h2]
 rw[C9]at h1 h2
 unfold BN
 rw[B4 (d:=[]) h1,B4 (d:=[]) h2]
 have h3:md ((y'.getD j []).getD 0 0-(y.getD j []).getD 0 0)=md 0:=h j h1 0 (by omega)
 have h4:=Be (hy j h1).2 0
 have h5:=Be (hy' j h2).2 0
 unfold md at h3
 omega
theorem TU.at_ (H:TU m n a J0 G J)(hy:Bs m y)(hf:BN y=a)(hy':Bs m y')(hf':BN y'=a)(hk1:1≤k)(hk:k<m)(hz:∀j,j<n→Lo k (Bu y y' j)){i:Nat}(hi:i<n) :
  Lo k (Bu (G y) (G y') i)∧md (Bu (G y) (G y') i k)=md (sm n fun j=>ZW J0 i j*Bu y y' j k):=by
 have h:=H.tay y y' k (k+1) hy hy' hf hf' hk1 (by omega) hz (by omega) (by omega) i hi
 have h1:=H.jl y hy hf
 refine⟨?_,?_⟩
 ·refine Lo.of (EN.mono h.symm (Nat.le_succ k)) fun t ht=>?_
  show md (sm n fun j=>cv _ (Bu y y' j) t)=_
  rw[show md (sm n fun j=>cv (BM (((J y).getD i []).getD j [])) (Bu y y' j) t)=md (sm n fun _=>0)from Mh fun j hj=>Lo.cvr _ (hz j hj) t ht,fM fun _ _=>rfl];rfl
 ·rw[← h k (Nat.lt_succ_self k),R2 hz]
  congr 1
  exact C8 fun j hj=>by
   unfold ZW;rw[← H.j0 y hy hf,GX];unfold Pp;rw[B4 (d:=[]) (by rw[(h1.2 i hi).1];exact hj)];rfl
end
section
variable {m n k:Nat} {a:List Int} {J0:List (List Int)} {G:List Sr→List Sr} {J:List Sr→List (List Sr)} {L:Nat→Nat→Int} {nx:Nat→List Sr→List Int} {Y:List Sr}
def Fz (nx:Nat→List Sr→List Int)(Y:List Sr):Nat→List Sr
 |0=>Y
 |k+1=>Fj Y.length fun i=>((Fz nx Y k).getD i []).set (k+1) ((nx (k+1) (Fz nx Y k)).getD i 0)
@[simp] theorem IC:∀k,(Fz nx Y k).length=Y.length
 |0=>rfl
 |k+1=>by simp[Fz]
theorem R4 {i:Nat}(hi:i<Y.length):(Fz nx Y (k+1)).getD i []=((Fz nx Y k).getD i []).set (k+1) ((nx (k+1) (Fz nx Y k)).getD i 0):=Bj [] hi
theorem Z3 {i:Nat}(hi:i<Y.length):(Cu i (Fz nx Y (k+1)) (Fz nx Y k)).set i (((Cu i (Fz nx Y (k+1)) (Fz nx Y k)).getD i []).set (k+1) ((nx (k+1) (Fz nx Y k)).getD i 0))=Cu (i+1) (Fz nx Y (k+1)) (Fz nx Y k):=by
 rw[D4 [] (by simp) (A9 _) (by simpa using hi),← R4 hi,Ip [] (by simp) (by simpa using hi)]
theorem TK {s:Sr}{y:Int}:∀ {k:Nat},B8 s=true→0≤y∧y<1000003→B8 (s.set k y)=true:=fun {k} h hy=>by
 unfold B8 at h ⊢
 rw[List.all_eq_true]at h ⊢
 intro x hx
 rcases List.mem_or_eq_of_mem_set hx with h1|h1
 ·exact h x h1
 ·subst h1;exact Cn.2 hy
structure mG (m n:Nat)(J0:List (List Int))(G:List Sr→List Sr)(a:List Int)(L:Nat→Nat→Int)(nx:Nat→List Sr→List Int):Prop where
 e:∀k y,1≤k→k<m→Bs m y→BN y=a→nx k y=IG J0 (Fj n fun i=>md (L i k-BM ((G y).getD i []) k))
theorem aH (H:TU m n a J0 G J)(hd:Ed J0≠0)(hx:mG m n J0 G a L nx)(hY:Bs m Y)(hf:BN Y=a)(h0:∀j,j<n→∀k,1≤k→k<m→(Y.getD j []).getD k 0=0)(hL:∀i,i<n→EN 1 (BM ((G Y).getD i [])) (L i)) :
  ∀k,k<m→Bs m (Fz nx Y k)∧BN (Fz nx Y k)=a∧(∀j,j<n→∀q,k<q→q<m→((Fz nx Y k).getD j []).getD q 0=0)∧∀i,i<n→EN (k+1) (BM ((G (Fz nx Y k)).getD i [])) (L i)
 |0,_=>⟨hY,hf,fun j hj q h1 h2=>h0 j hj q h1 h2,hL⟩
 |k+1,hk=>by
  obtain⟨h1,h2,h3,h4⟩:=aH H hd hx hY hf h0 hL k (by omega)
  have hYl:Y.length=n:=by rw[Hu hf,H.al]
  have hl:J0.length=n:=by
   have:=H.j0 Y hY hf
   rw[← this,En];exact(H.jl Y hY hf).1
  have hS':Sq J0.length J0:=by rw[hl];exact H.sq
  have hb:B8 (Fj n fun i=>md (L i (k+1)-BM ((G (Fz nx Y k)).getD i []) (k+1)))=true:=FE fun _ _=>BK _
  have hbl:(Fj n fun i=>md (L i (k+1)-BM ((G (Fz nx Y k)).getD i []) (k+1))).length=J0.length:=by rw[hl];simp
  have hj:IF J0 (Fj n fun i=>md (L i (k+1)-BM ((G (Fz nx Y k)).getD i []) (k+1)))≠none:=fun hn=>hd ((JN hS' hb).2 hn)
  have e:=hx.e (k+1) (Fz nx Y k) (by omega) hk h1 h2
  have hnum:∀i,0≤(nx (k+1) (Fz nx Y k)).getD i 0∧(nx (k+1) (Fz nx Y k)).getD i 0<1000003:=fun i=>by rw[e];exact Be (PQ hS' hb hj) i
  have s1:Bs m (Fz nx Y (k+1)):=fun i hi=>by
   rw[IC]at hi
   rw[R4 hi]
   have:=h1 i (by rw[IC];exact hi)
   exact⟨by rw[List.length_set];exact this.1,TK this.2 (hnum i)⟩
  have g1:∀i,i<n→∀q,((Fz nx Y (k+1)).getD i []).getD q 0=if q=k+1 then(nx (k+1) (Fz nx Y k)).getD i 0 else((Fz nx Y k).getD i []).getD q 0:=fun i hi q=>by
   rw[R4 (by omega),BA _ _ _ _ _ (by rw[(h1 i (by rw[IC];omega)).1];exact hk)]
  have s2:BN (Fz nx Y (k+1))=a:=by
   rw[← h2]
   refine(Oh h1 s1 (by simp) (by omega) fun j hj t ht=>?_).symm
   rw[IC]at hj
   show md (((Fz nx Y (k+1)).getD j []).getD t 0-_)=_
   rw[g1 j (by omega),if_neg (by omega)]
   show md (((Fz nx Y k).getD j []).getD t 0-((Fz nx Y k).getD j []).getD t 0)=_
   rw[Int.sub_self];rfl
  have hz:∀j,j<n→Lo (k+1) (Bu (Fz nx Y k) (Fz nx Y (k+1)) j):=fun j hj t ht=>by
   show md (((Fz nx Y (k+1)).getD j []).getD t 0-_)=_
   rw[g1 j hj,if_neg (by omega)]
   show md (((Fz nx Y k).getD j []).getD t 0-((Fz nx Y k).getD j []).getD t 0)=_
   rw[Int.sub_self];rfl
  refine⟨s1,s2,fun j hj q hq hqm=>?_,fun i hi=>?_⟩
  ·rw[g1 j hj,if_neg (by omega)];exact h3 j hj q (by omega) hqm
  ·obtain⟨q1,q2⟩:=H.at_ h1 h2 s1 s2 (k:=k+1) (by omega) hk hz hi
   intro t ht
   by_cases e1:t<k+1
   ·have:=q1 t e1
    have h5:=h4 i hi t e1
    unfold Bu at this
    rw[← h5]
    unfold Hj at this
    unfold md at this ⊢
    omega
   ·have:t=k+1:=by omega
    subst this
    have h6:=PT hS' hbl hb hj (r:=i) (by omega)
    rw[← e,hl,Bj _ hi]at h6
    have e3:(sm n fun j=>ZW J0 i j*Bu (Fz nx Y k) (Fz nx Y (k+1)) j (k+1))=sm n fun j=>(J0.getD i []).getD j 0*(nx (k+1) (Fz nx Y k)).getD j 0:=C8 fun j hj=>by
     unfold ZW Bu BM
     rw[g1 j hj,if_pos rfl,h3 j hj (k+1) (by omega) hk,Int.sub_zero]
    rw[e3,h6]at q2
    unfold Bu at q2
    unfold md at q2 ⊢
    omega
end
end
section
structure HH (m m':Nat)(B B':List Sr):Prop where
 s:Bs m B
 s':Bs m' B'
 l:B.length=B'.length
 h:∀k,(B.getD k []).getD 0 0=(B'.getD k []).getD 0 0
section
variable {m m' ni k i:Nat} {B B' R R':List Sr} {s s':Sr} {cs:List AF} {r:Int} {os ws:List Int}
theorem SJ (l:List Sr)(i:Nat)(x:Sr)(j:Nat):(l.set i x).getD j []=if j=i∧i<l.length then x else l.getD j []:=by
 by_cases h:i<l.length
 ·rw[BA _ _ _ _ _ h]
  by_cases e:j=i
  ·rw[if_pos e,if_pos ⟨e,h⟩]
  ·rw[if_neg e,if_neg fun h=>e h.1]
 ·rw[List.set_eq_of_length_le (by omega),if_neg fun h9=>h h9.2]
theorem HH.set (h:HH m m' B B')(hs:Bt m s)(hs':Bt m' s')(e:s.getD 0 0=s'.getD 0 0):HH m m' (B.set i s) (B'.set i s'):=by
 refine⟨h.s.set hs,h.s'.set hs',by rw[List.length_set,List.length_set,h.l],fun k=>?_⟩
 rw[SJ,SJ,h.l]
 split
 ·exact e
 ·exact h.h k
theorem HH.adP (hm:1≤m)(hm':1≤m')(h:HH m m' B B')(hr:r.toNat<B.length)(e:s.getD 0 0=s'.getD 0 0):HH m m' (FH B r s) (Go.Proofs.YtnokbaiemimhjaaGreat.FH B' r s'):=by
 have h1:=h.s r.toNat hr
 have h2:=h.s' r.toNat (by rw[← h.l];exact hr)
 refine h.set (I4 h1) (I4 h2) ?_
 rw[SD h1 (by omega),SD h2 (by omega),h.h,e]
theorem HH.adI (hm:1≤m)(hm':1≤m')(h:HH m m' B B')(hR:HH m m' R R')(hk:k<B.length)(hf:GH ni k (cs.getD k AF.zero)):HH m m' (Og cs R k B) (Go.Proofs.YtnokbaiemimhjaaGreat.Og cs R' k B'):=by
 have b2:=fun h=>hf.i2 h
 have b7:=fun h=>hf.i7 h
 have h1:=h.s k hk
 have h2:=h.s' k (by rw[← h.l];exact hk)
 have hp:∀q,(C5 (B.getD k []) (R.getD q [])).getD 0 0=(C5 (B'.getD k []) (R'.getD q [])).getD 0 0:=fun q=>by
  rw[Mz (by rw[h1.1];omega),Mz (by rw[h2.1];omega),h.h,hR.h]
 have hq:∀q,(BT (B.getD k []) (R.getD q [])).getD 0 0=(BT (B'.getD k []) (R'.getD q [])).getD 0 0:=fun q=>by
  rw[Q9 (by rw[h1.1];omega),Q9 (by rw[h2.1];omega),h.h,hR.h]
 have hn:∀ {s s':Sr},Bt m s→Bt m' s'→s.getD 0 0=s'.getD 0 0→(CK s 1000002).getD 0 0=(CK s' 1000002).getD 0 0:=fun hs hs' e=>by
  rw[SE hs (by omega),SE hs' (by omega),e]
 by_cases h3:(cs.getD k AF.zero).op=3
 ·rw[Qc h3,Qc h3]
  have:=b2 (by omega)
  exact(h.adP hm hm' (by omega) (h.h k)).adP hm hm' (by rw[C0];omega) (h.h k)
 by_cases h4:(cs.getD k AF.zero).op=4
 ·rw[Qd h4,Qd h4]
  have:=b2 (by omega)
  exact(h.adP hm hm' (by omega) (h.h k)).adP hm hm' (by rw[C0];omega) (hn h1 h2 (h.h k))
 by_cases h5:(cs.getD k AF.zero).op=5
 ·rw[Qe h5,Qe h5]
  have:=b2 (by omega)
  exact(h.adP hm hm' (by omega) (hp _)).adP hm hm' (by rw[C0];omega) (hp _)
 by_cases h6:(cs.getD k AF.zero).op=6
 ·rw[Qf h6,Qf h6]
  have:=b2 (by omega)
  refine(h.adP hm hm' (by omega) (hq _)).adP hm hm' (by rw[C0];omega) (hn (I5 (H0 h1)) (I5 (H0 h2)) ?_)
  rw[Mz (by rw[DV,h1.1];omega),Mz (by rw[DV,h2.1];omega),hq,hR.h]
 by_cases h7:(cs.getD k AF.zero).op=7
 ·rw[Qg h7,Qg h7]
  have:=b7 h7
  exact h.adP hm hm' (by omega) (hn h1 h2 (h.h k))
 have:(cs.getD k AF.zero).op<3∨7<(cs.getD k AF.zero).op:=by omega
 rw[Qh this,Qh this];exact h
theorem HH.adA (hm:1≤m)(hm':1≤m')(hR:HH m m' R R')(hf:∀k,k<cs.length→GH ni k (cs.getD k AF.zero)):∀(n:Nat)(B B':List Sr),n≤cs.length→n≤B.length→HH m m' B B'→HH m m' (TT cs R n B) (Go.Proofs.YtnokbaiemimhjaaGreat.TT cs R' n B')
 |0,_,_,_,_,h=>h
 |n+1,B,B',hn,hb,h=>HH.adA hm hm' hR hf n _ _ (by omega) (by rw[LO];omega) (h.adI hm hm' hR (by omega) (hf n (by omega)))
theorem HH.wgt (hm:1≤m)(hm':1≤m')(h:HH m m' B B')(ho:∀k,k<os.length→(os.getD k 0).toNat<B.length):∀k,k≤os.length→HH m m' (Nq os ws k B) (Go.Proofs.YtnokbaiemimhjaaGreat.Nq os ws k B')
 |0,_=>h
 |k+1,hk=>by
  have ih:=HH.wgt hm hm' h ho k (by omega)
  have h1:=ih.s (os.getD k 0).toNat (by rw[Eo];exact ho k (by omega))
  have h2:=ih.s' (os.getD k 0).toNat (by rw[Eo,← h.l];exact ho k (by omega))
  refine ih.set ⟨by rw[List.length_set];exact h1.1,KN h1.2 (BK _)⟩ ⟨by rw[List.length_set];exact h2.1,KN h2.2 (BK _)⟩ ?_
  rw[BA _ _ _ _ _ (by rw[h1.1];omega),BA _ _ _ _ _ (by rw[h2.1];omega),if_pos rfl,if_pos rfl,ih.h]
theorem aI (k:Nat):((K4 R).getD k []).getD 0 0=0:=by
 by_cases h:k<R.length
 ·rw[show(K4 R).getD k []=List.replicate (R.getD k []).length 0 from by unfold K4;rw[B4 (d:=[]) h]];exact HF _ 0
 ·rw[show(K4 R).getD k []=[]from by rw[List.getD_eq_getElem?_getD,List.getElem?_eq_none (by rw[D7];omega)];rfl];rfl
theorem HH.zrs (h:HH m m' R R'):HH m m' (K4 R) (Go.Proofs.YtnokbaiemimhjaaGreat.K4 R'):=⟨Hr h.s,Hr h.s',by rw[D7,D7,h.l],fun k=>by rw[aI,aI]⟩
theorem HH.byN {L L':List Sr}(hm:1≤m)(hm':1≤m')(hL:HH m m' L L')(h:HH m m' B B')(hf:∀k,k<cs.length→GH B.length k (cs.getD k AF.zero)):∀k,k≤cs.length→HH m m' (TH cs L k B) (Go.Proofs.YtnokbaiemimhjaaGreat.TH cs L' k B')
 |0,_=>h
 |k+1,hk=>by
  have ih:=HH.byN hm hm' hL h hf k (by omega)
  by_cases h1:(cs.getD k AF.zero).op=1
  ·rw[MJ h1,MJ h1]
   have:=(hf k (by omega)).i1 h1
   exact ih.adP hm hm' (by rw[Iz];omega) (hL.h k)
  ·rw[ML h1,ML h1];exact ih
theorem HH.rep (m m' ni:Nat):HH m m' (List.replicate ni (List.replicate m 0)) (List.replicate ni (List.replicate m' 0)):=by
 refine⟨K5 _ _,K5 _ _,by simp,fun k=>?_⟩
 by_cases h:k<ni
 ·rw[show(List.replicate ni (List.replicate m (0:Int))).getD k []=List.replicate m 0 from by simp[List.getD_eq_getElem?_getD,h],show(List.replicate ni (List.replicate m' (0:Int))).getD k []=List.replicate m' 0 from by simp[List.getD_eq_getElem?_getD,h],HF,HF]
 ·rw[show(List.replicate ni (List.replicate m (0:Int))).getD k []=[]from by simp[List.getD_eq_getElem?_getD,h],show(List.replicate ni (List.replicate m' (0:Int))).getD k []=[]from by simp[List.getD_eq_getElem?_getD,h]]
theorem Xa {A A':List Sr}{T:Tp}{xs:List Int}(hm:1≤m)(hm':1≤m')(h:DF m A T)(h':DF m' A' T)(hl:A.length=A'.length)(hE:KJ T xs)(i:Nat):HH m m' (Qi m T xs A i) (Qi m' T xs A' i):=by
 have hR:HH m m' (B9 m A T.code) (B9 m' A' T.code):=⟨h.regs,h'.regs,by rw[BE,BE],fun k=>by
  by_cases hk:k<T.code.length
  ·rw[(h.ser k hk).2,(h'.ser k hk).2]
  ·rw[show(B9 m A T.code).getD k []=[]from by rw[List.getD_eq_getElem?_getD,List.getElem?_eq_none (by rw[BE];omega)];rfl,show(B9 m' A' T.code).getD k []=[]from by rw[List.getD_eq_getElem?_getD,List.getElem?_eq_none (by rw[BE];omega)];rfl]⟩
 have hx:=h.outs hE
 unfold Qi eE
 rw[← hl]
 refine HH.byN hm hm' ?_ (HH.rep m m' _) (fun k hk=>by rw[List.length_replicate];exact h.form k hk) _ (A9 _)
 unfold Lj
 refine HH.adA hm hm' hR h.form _ _ _ (A9 _) (by rw[Eo,D7,BE];exact A9 _) (hR.zrs.wgt hm hm' (fun q hq=>?_) _ (A9 _))
 rw[D7,BE]
 have:=hx q hq
 omega
end
section
variable {p:List Fn} {f m r N i j s:Nat} {a:List Int} {A A':List Sr} {xs:List Int} {T:Tp}
structure HR (p:List Fn)(f:Nat)(a:List Int)(xs:List Int)(T:Tp):Prop where
 v:IJ p
 lt:f<p.length
 l:((a.length:Nat):Int)=(p.getD f Fn.zero).params
 n:B8 a=true
 r:∃s,AT (Mv p f a) (xs,T) s 0
theorem LS (hA:Bs m A)(h:BN A=a):QZ m a A:=by rw[← h];exact EG hA
theorem HR.tp (h:HR p f a xs T)(hm:1≤m)(hA:Bs m A)(hf:BN A=a):DF m A T∧(E7 p m f A=xs.map fun r=>(B9 m A T.code).getD r.toNat [])∧Hl p m f A=0:=by
 obtain⟨s,hs⟩:=h.r
 have h1:=K3 hm h.v h.lt h.n (LS hA hf) h.l hs rfl
 exact⟨h1.1,h1.2,K2 hm h.v h.lt h.n (LS hA hf) h.l hs⟩
theorem G6 (a:List Int):BN (C7 a)=a:=by
 unfold BN C7
 rw[List.map_map]
 exact List.map_id'' (fun _=>rfl) a
theorem HR.en (h:HR p f a xs T):xs.length=(p.getD f Fn.zero).outs.length∧KJ T xs:=by
 obtain⟨s,hs⟩:=h.r
 have hT:=Sy (A9 1) h.v h.lt h.n (LS (Dv h.n) (G6 a)) h.l
 rw[hs.ok]at hT
 obtain⟨z,h1,h2,h3,h4⟩:=hT
 exact⟨h4.1,fun k hk=>(h4.2.2 k (by rw[h4.1]at hk;exact hk)).1⟩
theorem HR.at (h:HR p f a xs T):mM p f a:=⟨h.v,h.lt,h.l,h.n,(h.tp (A9 1) (Dv h.n) (G6 a)).2.2⟩
theorem HR.vals (h:HR p f a xs T)(hm:1≤m)(hA:Bs m A)(hf:BN A=a)(hi:i<xs.length):(E7 p m f A).getD i []=(B9 m A T.code).getD (xs.getD i 0).toNat []:=by
 rw[(h.tp hm hA hf).2.1,B4 (d:=0) hi]
theorem HR.ser (h:HR p f a xs T)(hm:1≤m)(hA:Bs m A)(hf:BN A=a):(E7 p m f A).length=xs.length∧Bs m (E7 p m f A):=by
 have hl:(E7 p m f A).length=xs.length:=by rw[(h.tp hm hA hf).2.1,List.length_map]
 refine⟨hl,fun k hk=>?_⟩
 rw[h.vals hm hA hf (by omega)]
 have:=(h.tp hm hA hf).1.outs h.en.2 k (by omega)
 exact((h.tp hm hA hf).1.ser _ (by omega)).1
theorem HR.tay (h:HR p f a xs T)(hm:1≤m)(hA:Bs m A)(hf:BN A=a)(hA':Bs m A')(hf':BN A'=a)(hr:r≤m)(hz:∀j,j<A.length→Lo r (Bu A A' j))(hN:N≤m)(h2:N≤r+r)(hi:i<xs.length) :
  EN N (Dg A.length (Bu A A') (Qi m T xs A i)) (Bu (E7 p m f A) (E7 p m f A') i):=by
 refine(Go.Proofs.YtnokbaiemimhjaaGreat.tay (h.tp hm hA hf).1 (h.tp hm hA' hf').1 hm hr hz hN h2 h.en.2 hi).trans (EN.eq fun t _=>?_)
 unfold Bu
 rw[h.vals hm hA hf hi,h.vals hm hA' hf' hi]
theorem HR.slo (h:HR p f a xs T)(hm:1≤m)(hA:Bs m A)(hf:BN A=a)(i:Nat):(Qi m T xs A i).length=A.length∧Bs m (Qi m T xs A i):=by
 refine⟨SB,?_⟩
 unfold Qi
 exact YY (h.tp hm hA hf).1.form
def R5 (p:List Fn)(f:Nat)(a:List Int)(n:Nat):List (List Int):=Fj n fun i=>Fj a.length fun k=>((Qa p f a (eV a.length k)).getD i []).getD 1 0
theorem EU (a d:List Int):BN (Gj a d 2)=a:=by
 refine List.ext_getElem (by simp) fun k h1 h2=>?_
 rw[← Dn (d:=(0:Int)) h1,← Dn (d:=(0:Int)) h2]
 unfold BN
 rw[B4 (d:=[]) (by rw[CQ];exact h2),VL h2]
theorem HR.jac (h:HR p f a xs T)(hm:1≤m)(hA:Bs m A)(hf:BN A=a){i j:Nat}(hi:i<xs.length)(hj:j<a.length):((Qi m T xs A i).getD j []).getD 0 0=((Qa p f a (eV a.length j)).getD i []).getD 1 0:=by
 have hn0:B8 (List.replicate a.length 0)=true:=GZ _
 have s0:Bs 2 (Gj a (List.replicate a.length 0) 2):=Hq h.n hn0
 have s1:Bs 2 (Gj a (eV a.length j) 2):=Hq h.n (QY _ _)
 have hl:A.length=a.length:=by rw[← hf,C9]
 have hd:=Xa (i:=i) hm (by decide:1≤2) (h.tp hm hA hf).1 (h.tp (by decide) s0 (EU _ _)).1 (by rw[CQ,hl]) h.en.2
 rw[hd.h j]
 have ho:∀q,q<a.length→Lo 1 (Bu (Gj a (List.replicate a.length 0) 2) (Gj a (eV a.length j) 2) q):=fun q hq=>fR s0 s1 (by decide) (by rw[EU,EU]) (by rw[CQ];exact hq)
 have ht:=h.tay (m:=2) (r:=1) (N:=2) (by decide) s0 (EU _ _) s1 (EU _ _) (by decide) (fun q hq=>ho q (by rw[CQ]at hq;exact hq)) (by decide) (by decide) hi 1 (by decide)
 rw[CQ,R2 (k:=1) ho]at ht
 have e:(sm a.length fun q=>BM ((Qi 2 T xs (Gj a (List.replicate a.length 0) 2) i).getD q []) 0*Bu (Gj a (List.replicate a.length 0) 2) (Gj a (eV a.length j) 2) q 1)=sm a.length fun q=>if j=q then BM ((Qi 2 T xs (Gj a (List.replicate a.length 0) 2) i).getD q []) 0 else 0:=C8 fun q hq=>by
  unfold Bu
  rw[show BM ((Gj a (eV a.length j) 2).getD q []) 1=_ from Sx hq,show BM ((Gj a (List.replicate a.length 0) 2).getD q []) 1=_ from Sx hq,HF,VJ hj,Int.sub_zero]
  split
  ·rw[Int.mul_one]
  ·rw[Int.mul_zero]
 rw[e,JU j (fun q=>BM ((Qi 2 T xs (Gj a (List.replicate a.length 0) 2) i).getD q []) 0),if_pos hj]at ht
 have hat:=h.at
 have hz:=VN (K:=0) (d:=List.replicate a.length 0) (D:=fun _=>[]) (c:=fun _=>0) h.v h.lt h.l h.n hn0 (fun k hk=>absurd hk (Nat.not_lt_zero k)) (fun i hi=>by rw[HF];rfl) hat.z (r:=i) (by rw[← h.en.1];exact hi)
 have hz':((E7 p 2 f (Gj a (List.replicate a.length 0) 2)).getD i []).getD 1 0=0:=hz
 unfold Bu at ht
 rw[show BM ((E7 p 2 f (Gj a (List.replicate a.length 0) 2)).getD i []) 1=0 from hz',Int.sub_zero]at ht
 have n1:=Be (((h.slo (by decide:1≤2) s0 (EU _ _) i).2 j (by rw[(h.slo (by decide:1≤2) s0 (EU _ _) i).1,CQ];exact hj)).2) 0
 have n2:=Be (((h.ser (by decide:1≤2) s1 (EU _ _)).2 i (by rw[(h.ser (by decide:1≤2) s1 (EU _ _)).1];exact hi)).2) 1
 have ht':md (((Qi 2 T xs (Gj a (List.replicate a.length 0) 2) i).getD j []).getD 0 0)=md (((E7 p 2 f (Gj a (eV a.length j) 2)).getD i []).getD 1 0):=ht
 rw[L6 n1.1 n1.2,L6 n2.1 n2.2]at ht'
 exact ht'
end
end
section
section
variable {p:List Fn} {f m r N i j k n:Nat} {a d:List Int} {y y':List Sr} {xs:List Int} {T:Tp}
theorem LT (hi:i<n):(R5 p f a n).getD i []=Fj a.length fun k=>((Qa p f a (eV a.length k)).getD i []).getD 1 0:=Bj [] hi
theorem Z4 (h:HR p f a xs T)(hn:n=xs.length)(i:Nat):B8 ((R5 p f a n).getD i [])=true:=by
 by_cases hi:i<n
 ·rw[LT hi]
  refine FE fun k _=>?_
  have:=(h.ser (m:=2) (by decide) (Hq h.n (QY a.length k)) (EU _ _))
  exact Be (this.2 i (by rw[this.1];omega)).2 1
 ·rw[show(R5 p f a n).getD i []=[]from by rw[List.getD_eq_getElem?_getD,List.getElem?_eq_none (by unfold R5;rw[DB];omega)];rfl];rfl
theorem Z5 (h:HR p f a xs T)(hm:1≤m)(hy:Bs m y)(hf:BN y=a)(hn:n=xs.length):I2 (HV m T xs y n)=R5 p f a n:=by
 have hl:y.length=a.length:=by rw[← hf,C9]
 refine List.ext_getElem (by rw[En];simp[R5]) fun i h1 h2=>?_
 have hi:i<n:=by rw[En,IB]at h1;exact h1
 rw[← Dn (d:=[]) h1,← Dn (d:=[]) h2,GX,OX hi,LT hi]
 have hs:=h.slo hm hy hf i
 refine List.ext_getElem (by rw[OI,hs.1];simp[hl]) fun j h3 h4=>?_
 have hj:j<a.length:=by rw[OI,hs.1]at h3;omega
 rw[← Dn (d:=(0:Int)) h3,← Dn (d:=(0:Int)) h4,Bj _ hj]
 unfold Pp
 rw[B4 (d:=[]) (by rw[hs.1];omega)]
 exact h.jac hm hy hf (by omega) hj
theorem K9 (h0:0<y.length):BN (CO y)=0::BN y:=by
 show(OY _).getD 0 0::_=_
 congr 1
 unfold OY
 generalize (y.getD 0 []).length=q
 match q with
 |0=>rfl
 |1=>rfl
 |q+2=>rfl
theorem Z6 (hy:Bs m y)(hy':Bs m y')(h0:0<y.length)(h0':0<y'.length)(t:Nat):Bu (CO y) (CO y') 0 t=0:=by
 show BM (OY (y'.getD 0 []).length) t-BM (OY (y.getD 0 []).length) t=0
 rw[(hy 0 h0).1,(hy' 0 h0').1,Int.sub_self]
theorem SK {row:List Sr}(j:Nat):(row.drop 1).getD j []=row.getD (j+1) []:=by rw[List.getD_eq_getElem?_getD,List.getElem?_drop,List.getD_eq_getElem?_getD,Nat.add_comm]
theorem eG {row:List Sr}{v:Nat→Nat→Int}(h:∀t,v 0 t=0)(n:Nat):Dg (n+1) v row=Dg n (fun j=>v (j+1)) (row.drop 1):=funext fun t=>by
 unfold Dg
 rw[OC,show v 0=Hj from funext h,Cv _ Hj,DD,Int.zero_add]
 exact C8 fun j _=>by rw[SK]
theorem Xb {X:List (List Sr)}(hi:i<X.length):(IA X).getD i []=(X.getD i []).drop 1:=by unfold IA;rw[B4 (d:=[]) hi]
@[simp] theorem Z7 (X:List (List Sr)):(IA X).length=X.length:=by simp[IA]
def Hb (p:List Fn)(f:Nat)(a:List Int):List (List Int):=(R5 p f (0::a) a.length).map fun r=>r.drop 1
@[simp] theorem Ka:(Hb p f a).length=a.length:=by simp[Hb,R5]
theorem SL (hi:i<a.length):(Hb p f a).getD i []=((R5 p f (0::a) a.length).getD i []).drop 1:=by unfold Hb;rw[B4 (d:=[]) (by simp[R5];exact hi)]
theorem TL {s:List Int}(h:B8 s=true)(k:Nat):B8 (s.drop k)=true:=by
 unfold B8 at h ⊢
 rw[List.all_eq_true]at h ⊢
 exact fun x hx=>h x (List.mem_of_mem_drop hx)
theorem R6 (h:HR p f (0::a) xs T)(hn:xs.length=a.length):Sq a.length (Hb p f a):=by
 refine⟨Ka,fun i hi=>?_,fun i=>?_⟩
 ·rw[SL hi,LT hi,List.length_drop,DB];rfl
 ·by_cases hi:i<a.length
  ·rw[SL hi];exact TL (Z4 h hn.symm i) 1
  ·rw[show(Hb p f a).getD i []=[]from by rw[List.getD_eq_getElem?_getD,List.getElem?_eq_none (by rw[Ka];omega)];rfl];rfl
theorem eH (X:List (List Sr)):I2 (IA X)=(I2 X).map fun r=>r.drop 1:=by
 unfold I2 IA
 rw[List.map_map,List.map_map]
 refine List.map_congr_left fun r _=>?_
 show Pp (r.drop 1)=(Pp r).drop 1
 unfold Pp
 rw[List.map_drop]
theorem R7 (h:HR p f (0::a) xs T)(hm:1≤m)(hn:xs.length=a.length)(ha:0<a.length):TU m a.length a (Hb p f a) (fun y=>E7 p m f (CO y)) (fun y=>IA (HV m T xs (CO y) xs.length)):=by
 have len:∀ {y:List Sr},BN y=a→y.length=a.length:=fun hf=>by rw[← hf,C9]
 have fs:∀ {y:List Sr},BN y=a→BN (CO y)=0::a:=fun hf=>by rw[K9 (by rw[len hf];exact ha),hf]
 have ws:∀ {y:List Sr},Bs m y→BN y=a→Bs m (CO y):=fun hy hf=>K6 hy (by rw[len hf];exact ha)
 exact {
  al:=rfl
  sq:=R6 h hn
  gl:=fun y hy hf=>by have:=h.ser hm (ws hy hf) (fs hf);exact⟨this.1.trans hn,this.2⟩
  jl:=fun y hy hf=>by
   refine⟨by rw[Z7,IB];exact hn,fun i hi=>?_⟩
   rw[Xb (by rw[IB];omega),OX (by omega)]
   have:=h.slo hm (ws hy hf) (fs hf) i
   have hl:=len hf
   refine⟨by rw[List.length_drop,this.1,DH];omega,fun k hk=>?_⟩
   rw[List.length_drop]at hk
   rw[SK];exact this.2 (k+1) (by omega)
  j0:=fun y hy hf=>by rw[eH,Z5 h hm (ws hy hf) (fs hf) rfl,hn];rfl
  tay:=fun y y' r N hy hy' hf hf' hr1 hr hz hN h2 i hi=>by
   have hl:=len hf
   have hl':=len hf'
   rw[Xb (by rw[IB];omega),OX (by omega)]
   have h0:=Z6 hy hy' (by omega) (by omega)
   have:=h.tay hm (ws hy hf) (fs hf) (ws hy' hf') (fs hf') hr (fun j hj=>by
    cases j with
    |zero=>exact fun t _=>by rw[h0];rfl
    |succ j=>exact hz j (by rw[DH]at hj;omega)) hN h2 (i:=i) (by omega)
   rw[DH,eG h0,hl]at this
   exact this }
end
def Kb (p:List Fn)(f:Int)(a:List Int)(o:Int):Int :=
 if I7 p f Ef=0 then(if ((decide (((a.length:Nat):Int)=(p.getD f.toNat Fn.zero).params-1) && B8 a) && HC o 0 12)=true then 0 else 2)else I7 p f Ef
def LU (p:List Fn)(f:Int)(a:List Int)(o:Int):Int :=
 if Kb p f a o=0 then(if ET p f.toNat (0::a)=0 then(if (FN p f.toNat (0::a)).any (fun x=>x != 0)=true then 4 else if Ed (Hb p f.toNat a)=0 then 6 else 0)else ET p f.toNat (0::a))else Kb p f a o
def Y9 (p:List Fn)(f:Nat)(a:List Int)(k:Nat)(y:List Sr):List Int:=IG (Hb p f a) (Fj a.length fun i=>md (-(((E7 p (k+1) f (CO (y.map (Cs (k+1))))).getD i []).getD k 0)))
def Kl (p:List Fn)(f:Nat)(a:List Int)(o:Nat)(k:Nat):List Sr:=Fz (Y9 p f a) (a.map fun x=>cst (o+1) x) k
def HG (p:List Fn)(f:Int)(a:List Int)(o:Int):List Sr:=if LU p f a o=0 then Kl p f.toNat a o.toNat o.toNat else []
section
variable {p:List Fn} {f m k n o r:Nat} {a d:List Int} {y:List Sr} {xs:List Int} {T:Tp}
theorem Z8 {q m:Nat}(h:2≤q)(hm:q≤m):OY q=Cs q (OY m):=by
 unfold OY Cs
 rw[List.take_set,List.take_replicate,Nat.min_eq_left hm]
theorem SN (hy:Bs m y)(h0:0<y.length)(h2:2≤k)(hk:k≤m):CO (y.map (Cs k))=(CO y).map (Cs k):=by
 show OY ((y.map (Cs k)).getD 0 []).length::y.map (Cs k)=Cs k (OY (y.getD 0 []).length)::y.map (Cs k)
 congr 1
 rw[B4 (d:=[]) h0,(hy 0 h0).1,Gp,(hy 0 h0).1,Nat.min_eq_left hk]
 exact Z8 h2 hk
theorem eI (m:Nat)(x:Int){q:Nat}(h:1≤q):(cst m x).getD q 0=0:=by
 unfold cst
 rw[QX,if_neg (by omega),HF]
theorem fS {m:Nat}(x:Int)(h:1≤m):(cst m x).getD 0 0=x:=by
 unfold cst
 rw[QX,if_pos ⟨rfl,by simp;omega⟩]
theorem P3 (hn:B8 a=true):Bs m (a.map fun x=>cst m x):=fun k hk=>by
 rw[List.length_map]at hk
 rw[B4 (d:=0) hk];exact ES (Cn.2 (Be hn k))
theorem P4 (hm:1≤m):BN (a.map fun x=>cst m x)=a:=by
 unfold BN
 rw[List.map_map]
 refine(List.map_congr_left fun x _=>?_).trans (List.map_id a)
 exact fS x hm
theorem eJ {q j:Nat}(h:1≤q)(hj:j<a.length):((a.map fun x=>cst m x).getD j []).getD q 0=0:=by
 rw[B4 (d:=0) hj];exact eI m _ h
theorem HR.v0 (h:HR p f a xs T)(hm:1≤m)(hy:Bs m y)(hf:BN y=a){i:Nat}(hi:i<xs.length):((E7 p m f y).getD i []).getD 0 0=(FN p f a).getD i 0:=by
 have hs:=Dv h.n
 have h1:=h.ser (A9 1) hs (G6 a)
 unfold FN
 rw[B4 (d:=[]) (by rw[h1.1];exact hi),h.vals hm hy hf hi,h.vals (A9 1) hs (G6 a) hi]
 have hx:=(h.tp hm hy hf).1.outs h.en.2 i hi
 rw[((h.tp hm hy hf).1.ser _ (by omega)).2,((h.tp (A9 1) hs (G6 a)).1.ser _ (by omega)).2]
theorem P5 (h:HR p f (0::a) xs T)(hn:xs.length=a.length)(ha:0<a.length)(hd:Ed (Hb p f a)≠0)(hz:∀i,i<a.length→(FN p f (0::a)).getD i 0=0)(hm:m=o+1) :
  ∀k,k≤o→Bs m (Kl p f a o k)∧BN (Kl p f a o k)=a∧∀i,i<a.length→EN (k+1) (BM ((E7 p m f (CO (Kl p f a o k))).getD i [])) Hj:=fun k hk=>by
 have hna:B8 a=true:=by have:=h.n;unfold B8 at this ⊢;rw[List.all_cons,Bool.and_eq_true]at this;exact this.2
 have H:=R7 (m:=m) h (by omega) hn ha
 subst hm
 have hx:mG (o+1) a.length (Hb p f a) (fun y=>E7 p (o+1) f (CO y)) a (fun _=>Hj) (Y9 p f a):=⟨fun k y h1 h2 hy hf=>by
  have hl:y.length=a.length:=by rw[← hf,C9]
  unfold Y9
  congr 1
  refine RM fun i hi=>?_
  rw[SN hy (by omega) (by omega) h2,Sv p (by omega) h2,B4 (d:=[]) (by rw[(H.gl y hy hf).1];exact hi),DE _ (Nat.lt_succ_self k)]
  show _=md (0-_)
  rw[Int.zero_sub];rfl⟩
 have:=aH H hd hx (Y:=a.map fun x=>cst (o+1) x) (P3 hna) (P4 (by omega)) (fun j hj q h1 _=>eJ h1 hj) (fun i hi t ht=>by
  have:t=0:=by omega
  subst this
  show md (((E7 p (o+1) f (CO (a.map fun x=>cst (o+1) x))).getD i []).getD 0 0)=_
  rw[h.v0 (by omega) (K6 (P3 hna) (by rw[List.length_map];exact ha)) (by rw[K9 (by rw[List.length_map];exact ha),P4 (by omega)]) (by omega),hz i hi];rfl) k (by omega)
 exact⟨this.1,this.2.1,this.2.2.2⟩
end
end
section
theorem B3.imp {α:Type}{E E':Bc α}(h:∀ {H v x F},E H v x F→E' H v x F){H:Array Obj}{v:Value}{xs:List α}{F:List Nat}(k:B3 E H v xs F):B3 E' H v xs F:=by
 rcases k with h0|⟨us,g,off,cap,cur,e,fr,F',h1,h2⟩
 ·exact .inl h0
 ·exact .inr ⟨us,g,off,cap,cur,e,fr,F',els.imp h h1,h2⟩
theorem RN.rd3 {S:List Nat}{H:Array Obj}{v:Value}{x:List (List Sr)}(h:RN S (B3 (HQ (B3 rI))) H v x):Rd (B3 (B3 (B3 rI))) H v x:=by
 obtain⟨F,h1,_⟩:=h
 exact⟨F,B3.imp (fun k=>k.1) h1⟩
def kW (y:List Sr)(J:List (List Sr))(g:List Sr):List Sr:=if (D5 J g).isSome=true then X9 J y g else []
theorem aJ {y g:List Sr}{J:List (List Sr)}(h:(D5 J g).isSome=true):kW y J g=X9 J y g:=if_pos h
theorem fT {y g:List Sr}{J:List (List Sr)}(h:(D5 J g).isSome=false):kW y J g=[]:=if_neg (by rw[h];decide)
theorem eK {J:List (List Sr)}{g:List Sr}(h:(D5 J g).isSome=true):D5 J g≠none:=fun h9=>by rw[h9]at h;cases h
section
variable {p:List Fn} {f m n o r s:Nat} {a d:List Int} {y g:List Sr} {xs:List Int} {T:Tp}
theorem eL {p:List Fn}{f:Nat}(hv:IJ p)(hf:f<p.length)(hl:((a.length:Nat):Int)=(p.getD f Fn.zero).params)(hn:B8 a=true)(h:AT (Mv p f a) (xs,T) s 0):HR p f a xs T:=⟨hv,hf,hl,hn,s,h⟩
theorem SP (h0:0<a.length):CO (C7 a)=C7 (0::a):=by
 cases a with
 |nil=>simp at h0
 |cons x l=>rfl
theorem eN (p:List Fn)(f:Nat)(a:List Int):(FN p f a).any (fun x=>x != 0)=(E7 p 1 f (C7 a)).any fun s=>s.getD 0 0 != 0:=by
 unfold FN;rw[List.any_map];rfl
theorem SQ {l:List Int}(h:l.any (fun x=>x != 0)=false)(i:Nat):l.getD i 0=0:=by
 by_cases hi:i<l.length
 ·rw[List.any_eq_false]at h
  have:=h l[i] (List.getElem_mem hi)
  rw[Dn hi]
  simpa using this
 ·rw[List.getD_eq_getElem?_getD,List.getElem?_eq_none (by omega)];rfl
structure SR (p:List Fn)(f:Nat)(a:List Int):Prop where
 v:IJ p
 lt:f<p.length
 l:((a.length:Nat):Int)=(p.getD f Fn.zero).params-1
 o:(((p.getD f Fn.zero).outs.length:Nat):Int)=((a.length:Nat):Int)
 n:B8 a=true
 b:1≤a.length∧a.length≤6
theorem SR.num (h:SR p f a):B8 (0::a)=true:=by have:=h.n;unfold B8 at this ⊢;rw[List.all_cons,this];rfl
theorem SR.rc (h:SR p f a)(hf:BN y=a)(hr:AT (Mv p f (BN (CO y))) (xs,T) s 0):HR p f (0::a) xs T:=by
 have hl:y.length=a.length:=by rw[← hf,C9]
 rw[K9 (by have:=h.b;omega),hf]at hr
 exact eL h.v h.lt (by rw[List.length_cons];have:=h.l;omega) h.num hr
theorem HR.xl (h:HR p f a xs T):xs.length=(p.getD f Fn.zero).outs.length:=h.en.1
theorem R8 (h:SR p f a)(hc:HR p f (0::a) xs T)(hm:1≤m∧m≤13)(hy:Bs m y)(hf:BN y=a) :
  I1 (IA (HV m T xs (CO y) xs.length)) (E7 p m f (CO y)) m∧I2 (IA (HV m T xs (CO y) xs.length))=Hb p f a∧(E7 p m f (CO y)).length=a.length∧Bs m (E7 p m f (CO y))∧y.length=a.length∧(IA (HV m T xs (CO y) xs.length)).length=a.length:=by
 have hx:xs.length=a.length:=by have:=hc.xl;have:=h.o;omega
 have H:=R7 hc hm.1 hx (by have:=h.b;omega)
 have hg:=H.gl y hy hf
 exact⟨H.sys hy hf hm h.b.2 hg.1 hg.2,H.j0 y hy hf,hg.1,hg.2,by rw[← hf,C9],(H.jl y hy hf).1⟩
theorem Xc (h:SR p f a)(hc:HR p f (0::a) xs T)(hm:1≤m∧m≤13)(hy:Bs m y)(hf:BN y=a) :
  (D5 (IA (HV m T xs (CO y) xs.length)) (E7 p m f (CO y))).isSome = !decide (Ed (Hb p f a)=0):=by
 have hs:=R8 h hc hm hy hf
 rw[UY hs.1,hs.2.1]
theorem Z9 (h:SR p f a)(hc:HR p f (0::a) xs T)(hm:1≤m)(hy:Bs m y)(hf:BN y=a):Hl p m f (CO y)=0:=by
 have hl:y.length=a.length:=by rw[← hf,C9]
 have:=h.b
 exact(hc.tp hm (K6 hy (by omega)) (by rw[K9 (by omega),hf])).2.2
theorem Za (h:SR p f a)(hc:HR p f (0::a) xs T)(hd:Ed (Hb p f a)≠0)(hz:(FN p f (0::a)).any (fun x=>x != 0)=false)(hm:m=o+1)(ho:o≤12)(hy:Bs m y)(hf:BN y=a)(hr1:1≤r)
  (hlo:∀j,j<a.length→Lo (min r m) (Bu y (Kl p f a o o) j)) :
  Bs m (X9 (IA (HV m T xs (CO y) xs.length)) y (E7 p m f (CO y)))∧BN (X9 (IA (HV m T xs (CO y) xs.length)) y (E7 p m f (CO y)))=a∧∀j,j<a.length→Lo (min (r*2) m) (Bu (X9 (IA (HV m T xs (CO y) xs.length)) y (E7 p m f (CO y))) (Kl p f a o o) j):=by
 have hx:xs.length=a.length:=by have:=hc.xl;have:=h.o;omega
 have H:=R7 (m:=m) hc (by omega) hx (by have:=h.b;omega)
 have hg:=H.gl y hy hf
 obtain⟨s1,s2,s3⟩:=P5 hc hx (by have:=h.b;omega) hd (fun i _=>SQ hz i) hm o (A9 _)
 have hl:y.length=a.length:=by rw[← hf,C9]
 have st:=H.step (r:=min r m) (N:=min (r*2) m) hd (by omega) h.b.2 hy hf s1 s2 hg.1 hg.2 (fun i hi=>EN.trans (EN.eq fun t _=>(Int.sub_zero _).symm) (EN.sub (EN.rfl' _) (fun t ht=>(s3 i hi t (by omega)).symm))) (by omega) (by omega) hlo (by omega) (by omega)
 have n1:=Z2 (J:=IA (HV m T xs (CO y) xs.length)) (g:=E7 p m f (CO y)) hy
 refine⟨n1,?_,st⟩
 exact(Oh n1 s1 (by rw[K8,hl];exact(Hu s2).symm) (by omega) fun j hj=>(st j (by rw[K8]at hj;omega)).mono (by omega)).trans s2
theorem Zb (h:SR p f a)(hd:Ed (Hb p f a)≠0)(hc:HR p f (0::a) xs T)(hz:(FN p f (0::a)).any (fun x=>x != 0)=false)(hm:m=o+1):Bs m (a.map fun x=>cst m x)∧BN (a.map fun x=>cst m x)=a∧∀j,j<a.length→Lo (min 1 m) (Bu (a.map fun x=>cst m x) (Kl p f a o o) j):=by
 have hx:xs.length=a.length:=by have:=hc.xl;have:=h.o;omega
 obtain⟨s1,s2,s3⟩:=P5 hc hx (by have:=h.b;omega) hd (fun i _=>SQ hz i) hm o (A9 _)
 have e1:Bs m (a.map fun x=>cst m x):=P3 h.n
 have e2:BN (a.map fun x=>cst m x)=a:=P4 (by omega)
 exact⟨e1,e2,fun j hj=>(fR e1 s1 (by omega) (e2.trans s2.symm) (by rw[List.length_map];exact hj)).mono (by omega)⟩
theorem Zc (h:SR p f a)(hd:Ed (Hb p f a)≠0)(hc:HR p f (0::a) xs T)(hz:(FN p f (0::a)).any (fun x=>x != 0)=false)(hm:m=o+1)(hy:Bs m y)(hf:BN y=a)(hr:m≤r)(hlo:∀j,j<a.length→Lo (min r m) (Bu y (Kl p f a o o) j)):y=Kl p f a o o:=by
 have hx:xs.length=a.length:=by have:=hc.xl;have:=h.o;omega
 obtain⟨s1,s2,s3⟩:=P5 hc hx (by have:=h.b;omega) hd (fun i _=>SQ hz i) hm o (A9 _)
 have hl:y.length=a.length:=by rw[← hf,C9]
 exact fQ hy s1 (by rw[hl];exact(Hu s2).symm) fun j hj=>(hlo j (by omega)).mono (by omega)
end
section
variable {p:List Fn} {f o:Int} {a d:List Int}
theorem aK (h:I7 p f Ef≠0):Kb p f a o=I7 p f Ef:=if_neg h
theorem SS (h:I7 p f Ef=0)(hb:((decide (((a.length:Nat):Int)=(p.getD f.toNat Fn.zero).params-1) && B8 a) && HC o 0 12)=false):Kb p f a o=2:=by unfold Kb;rw[if_pos h,hb];rfl
theorem aL (h:I7 p f Ef=0)(h1:(decide (((a.length:Nat):Int)=(p.getD f.toNat Fn.zero).params-1) && B8 a)=true)(h2:HC o 0 12=true):Kb p f a o=0:=by unfold Kb;rw[if_pos h,h1,h2];rfl
theorem Xd (h:Kb p f a o=0):SR p f.toNat a∧Lh p=true∧(0≤f∧f<((p.length:Nat):Int))∧(0≤o∧o≤12):=by
 unfold Kb at h
 split at h
 ·rename_i h1
  split at h
  ·rename_i h2
   rw[Bool.and_eq_true,Bool.and_eq_true,decide_eq_true_eq]at h2
   obtain⟨q1,q2,q3,q4⟩:=X0 h1
   exact⟨⟨Is q1,by omega,h2.1.1,by omega,h2.1.2,by omega⟩,q1,q2,CL.1 h2.2⟩
  ·omega
 ·rename_i h1;exact absurd h h1
theorem MO (h:Kb p f a o≠0):LU p f a o=Kb p f a o:=if_neg h
theorem Qk (h:Kb p f a o=0)(h1:ET p f.toNat (0::a)≠0):LU p f a o=ET p f.toNat (0::a):=by unfold LU;rw[if_pos h,if_neg h1]
theorem Xe (h:Kb p f a o=0)(h1:ET p f.toNat (0::a)=0)(h2:(FN p f.toNat (0::a)).any (fun x=>x != 0)=true):LU p f a o=4:=by unfold LU;rw[if_pos h,if_pos h1,if_pos h2]
theorem Xf (h:Kb p f a o=0)(h1:ET p f.toNat (0::a)=0)(h2:(FN p f.toNat (0::a)).any (fun x=>x != 0)=false)(hd:Ed (Hb p f.toNat a)=0):LU p f a o=6:=by
 unfold LU;rw[if_pos h,if_pos h1,if_neg (by rw[h2];decide),if_pos hd]
theorem aM (h:Kb p f a o=0)(h1:ET p f.toNat (0::a)=0)(h2:(FN p f.toNat (0::a)).any (fun x=>x != 0)=false)(hd:Ed (Hb p f.toNat a)≠0):LU p f a o=0:=by
 unfold LU;rw[if_pos h,if_pos h1,if_neg (by rw[h2];decide),if_neg hd]
theorem IY (h:LU p f a o≠0):HG p f a o=[]:=if_neg h
theorem Xg (h:LU p f a o=0):HG p f a o=Kl p f.toNat a o.toNat o.toNat:=if_pos h
end
theorem fU {p:List Fn}(hv:IJ p){n f:Nat}{a:List Sr}(hf:f<p.length)(ha:Bs n a)(hl:((a.length:Nat):Int)=(p.getD f Fn.zero).params):0≤Hl p n f a∧Hl p n f a≤9:=by
 rcases MA hv hf ha hl with⟨x,s,h1,_⟩|h1|h1
 ·rw[O5 h1];decide
 ·rw[I6 h1];decide
 ·rw[I6 h1];decide
theorem fV {p:List Fn}(hv:IJ p){f:Nat}{a:List Int}(hf:f<p.length)(ha:B8 a=true)(hl:((a.length:Nat):Int)=(p.getD f Fn.zero).params):0≤ET p f a∧ET p f a≤9:=fU hv hf (Dv ha) (by unfold C7;rw[List.length_map];exact hl)
theorem fW {M:List (List Int)}(h:(!(!decide (Ed M=0)))=true):Ed M=0:=by simpa using h
theorem fX {M:List (List Int)}(h:(!(!decide (Ed M=0)))=false):Ed M≠0:=by simpa using h
end
section
theorem ST {n k:Nat}:uN n k=eV n k:=by
 show(List.replicate n (0:Int)).set k 1=(List.replicate n (0:Int)).set (((k:Nat):Int)).toNat (md ((List.replicate n (0:Int)).getD (((k:Nat):Int)).toNat 0+1))
 rw[Int.toNat_natCast,HF];rfl
section
variable {p:List Fn} {f k o i m q:Nat} {a d:List Int} {y Y:List Sr} {xs:List Int} {T:Tp} {nx:Nat→List Sr→List Int}
theorem Xh (hv:IJ p)(hf:f<p.length)(hl:((a.length:Nat):Int)=(p.getD f Fn.zero).params)(hn:B8 a=true)(h0:ET p f a=0):∃xs T,HR p f a xs T:=by
 cases hr:Mv p f a with
 |ok x s=>exact⟨x.1,x.2,hv,hf,hl,hn,s,by rw[hr];exact AT.mk_ok rfl⟩
 |err c =>
  have hT:=Sy (A9 1) hv hf hn (LS (Dv hn) (G6 a)) hl
  rw[hr]at hT
  have h9:ev p 1 f (C7 a)=.err c:=hT
  have h8:ET p f a=c:=I6 h9
  rcases MA hv hf (Dv hn) (by unfold C7;rw[List.length_map];exact hl)with⟨z,t,h1,_⟩|h1|h1
  ·rw[h1]at h9;cases h9
  ·rw[h1]at h9;cases h9;omega
  ·rw[h1]at h9;cases h9;omega
theorem fY {l:List Int}(h:∀j,j<l.length→l.getD j 0=0):l.any (fun x=>x != 0)=false:=by
 rw[List.any_eq_false]
 intro x hx
 obtain⟨j,hj,rfl⟩:=List.mem_iff_getElem.1 hx
 have:=h j hj
 rw[Dn hj]at this
 simp[this]
theorem eO {l:List Int}{j:Nat}(hj:j<l.length)(h:l.getD j 0≠0):l.any (fun x=>x != 0)=true:=by
 rw[List.any_eq_true]
 rw[Dn hj]at h
 exact⟨l[j],List.getElem_mem hj,by simpa using h⟩
theorem Ql (h:Bs m y)(hq:q≤m):Bs q (y.map (Cs q)):=fun j hj=>by
 rw[List.length_map]at hj
 rw[B4 (d:=[]) hj]
 have:=h j hj
 refine⟨by rw[Gp,this.1];omega,?_⟩
 unfold Cs
 have h2:=this.2
 unfold B8 at h2 ⊢
 rw[List.all_eq_true]at h2 ⊢
 exact fun x hx=>h2 x (List.mem_of_mem_take hx)
theorem Xi (h:1≤k)(hi:i<Y.length):(Cu i (Fz nx Y k) (Fz nx Y (k-1))).getD i []=(Fz nx Y (k-1)).getD i []:=D4 [] (by simp) (A9 _) (by simpa using hi)
theorem Zd (h:1≤k)(hi:i<Y.length):(Cu i (Fz nx Y k) (Fz nx Y (k-1))).set i (((Fz nx Y (k-1)).getD i []).set k ((nx k (Fz nx Y (k-1))).getD i 0))=Cu (i+1) (Fz nx Y k) (Fz nx Y (k-1)):=by
 have:=Z3 (nx:=nx) (k:=k-1) hi
 rw[show k-1+1=k from by omega,Xi h hi]at this
 exact this
def aN (p:List Fn)(f:Nat)(a:List Int)(k:Nat)(y:List Sr):List Int:=Fj a.length fun i=>md (-(((E7 p (k+1) f (CO (y.map (Cs (k+1))))).getD i []).getD k 0))
@[simp] theorem FI:(aN p f a k y).length=a.length:=by simp[aN]
theorem P6:B8 (aN p f a k y)=true:=FE fun _ _=>BK _
theorem eP (hi:i<a.length):(aN p f a k y).getD i 0=md (-(((E7 p (k+1) f (CO (y.map (Cs (k+1))))).getD i []).getD k 0)):=Bj 0 hi
theorem eQ:Y9 p f a k y=IG (Hb p f a) (aN p f a k y):=rfl
theorem eR {y:List Sr}(hy:y=Kl p f a o (k-1))(h:1≤k)(hi:i<a.length):Cu (i+1) (Kl p f a o k) y=(Cu i (Kl p f a o k) y).set i ((y.getD i []).set k ((Y9 p f a k y).getD i 0)):=by
 subst hy
 exact(Zd (nx:=Y9 p f a) (Y:=a.map fun x=>cst (o+1) x) h (by rw[List.length_map];exact hi)).symm
theorem Xj (h:SR p f a)(hc:HR p f (0::a) xs T)(hd:Ed (Hb p f a)≠0)(hz:(FN p f (0::a)).any (fun x=>x != 0)=false)(hk:k≤o):Bs (o+1) (Kl p f a o k)∧(Kl p f a o k).length=a.length∧BN (Kl p f a o k)=a:=by
 have hx:xs.length=a.length:=by have:=hc.xl;have:=h.o;omega
 have s:=P5 hc hx (by have:=h.b;omega) hd (fun i _=>SQ hz i) (m:=o+1) rfl k hk
 exact⟨s.1,Hu s.2.1,s.2.1⟩
theorem eS (h:SR p f a)(hc:HR p f (0::a) xs T)(hy:Bs (o+1) y)(hf:BN y=a)(h1:1≤k)(hk:k≤o) :
  (E7 p (k+1) f (CO (y.map (Cs (k+1))))).length=a.length∧Bs (k+1) (E7 p (k+1) f (CO (y.map (Cs (k+1)))))∧Bs (k+1) (CO (y.map (Cs (k+1))))∧((y.map (Cs (k+1))).getD 0 []).length=k+1:=by
 have hl:y.length=a.length:=Hu hf
 have hb:=h.b
 have hw:Bs (o+1) (CO y):=K6 hy (by omega)
 have hs:=hc.ser (m:=o+1) (by omega) hw (by rw[K9 (by omega),hf])
 have hxl:xs.length=a.length:=by have:=hc.xl;have:=h.o;omega
 have e:=Sv p (show 1≤k+1 by omega) (show k+1≤o+1 by omega) f (CO y)
 rw[SN hy (by omega) (by omega) (by omega),e,List.length_map]
 refine⟨by rw[hs.1,hxl],Ql hs.2 (by omega),Ql hw (by omega),?_⟩
 rw[B4 (d:=[]) (by omega),Gp,(hy 0 (by omega)).1];omega
theorem eT (h:SR p f a)(hc:HR p f (0::a) xs T)(hd:Ed (Hb p f a)≠0){b:List Int}(hb:B8 b=true):Sq (Hb p f a).length (Hb p f a)∧(Hb p f a).length=a.length∧IF (Hb p f a) b≠none:=by
 have hx:xs.length=a.length:=by have:=hc.xl;have:=h.o;omega
 have hS:=R6 hc hx
 have hS':Sq (Hb p f a).length (Hb p f a):=by rw[Ka];exact hS
 exact⟨hS',Ka,fun hn=>hd ((JN hS' hb).2 hn)⟩
end
end
theorem mixed:Tryz.prog.follows .mixedOrders=true:=by kernel_rfl
abbrev BP (k:Nat):Prop:=((Tryz.prog.funcs[k]?).map fun fn=>(fn.name != "runtime.NumGoroutine") && fn.body.isSome) = some true
theorem BR {k:Nat} (h:((Tryz.prog.funcs[k]?).map fun fn=>(fn.name != "runtime.NumGoroutine") && fn.body.isSome) = some true):BP k:=h
theorem lS:BP 40:=BR (by kernel_rfl)
theorem Ze:BP 43:=BR (by kernel_rfl)
theorem lT:BP 46:=BR (by kernel_rfl)
theorem eU:BP 47:=BR (by kernel_rfl)
theorem Zf:BP 49:=BR (by kernel_rfl)
theorem fZ:BP 51:=BR (by kernel_rfl)
theorem lU:BP 52:=BR (by kernel_rfl)
theorem gA:BP 53:=BR (by kernel_rfl)
theorem lV:BP 54:=BR (by kernel_rfl)
theorem gB:BP 55:=BR (by kernel_rfl)
theorem lW:BP 56:=BR (by kernel_rfl)
theorem gC:BP 57:=BR (by kernel_rfl)
theorem gD:BP 68:=BR (by kernel_rfl)
theorem KO:BP 72:=BR (by kernel_rfl)
theorem gE:BP 75:=BR (by kernel_rfl)
theorem Ny:BP 76:=BR (by kernel_rfl)
theorem eW:BP 77:=BR (by kernel_rfl)
theorem eX:BP 78:=BR (by kernel_rfl)
theorem eY:BP 79:=BR (by kernel_rfl)
theorem gF:BP 84:=BR (by kernel_rfl)
theorem Zg:BP 87:=BR (by kernel_rfl)
theorem lX:BP 91:=BR (by kernel_rfl)
theorem IL:BP 92:=BR (by kernel_rfl)
theorem gG:BP 97:=BR (by kernel_rfl)
theorem lY:BP 98:=BR (by kernel_rfl)
theorem gH:BP 99:=BR (by kernel_rfl)
theorem SU:BP 102:=BR (by kernel_rfl)
theorem Qm:BP 103:=BR (by kernel_rfl)
theorem aO:BP 104:=BR (by kernel_rfl)
theorem Oi:BP 106:=BR (by kernel_rfl)
theorem gI:BP 107:=BR (by kernel_rfl)
theorem aP:BP 110:=BR (by kernel_rfl)
theorem gJ:BP 111:=BR (by kernel_rfl)
theorem gK:BP 112:=BR (by kernel_rfl)
theorem aQ:BP 114:=BR (by kernel_rfl)
theorem gL:BP 115:=BR (by kernel_rfl)
theorem gM:BP 117:=BR (by kernel_rfl)
theorem gN:BP 119:=BR (by kernel_rfl)
theorem gO:BP 120:=BR (by kernel_rfl)
theorem gP:BP 121:=BR (by kernel_rfl)
theorem Oj:BP 122:=BR (by kernel_rfl)
theorem gQ:BP 123:=BR (by kernel_rfl)
theorem aR:BP 124:=BR (by kernel_rfl)
theorem gR:BP 125:=BR (by kernel_rfl)
theorem gS:BP 127:=BR (by kernel_rfl)
theorem gT:BP 128:=BR (by kernel_rfl)
theorem aS:BP 129:=BR (by kernel_rfl)
theorem gU:BP 130:=BR (by kernel_rfl)
theorem gW:BP 131:=BR (by kernel_rfl)
theorem Xk:BP 132:=BR (by kernel_rfl)
theorem gX:BP 133:=BR (by kernel_rfl)
theorem gY:BP 134:=BR (by kernel_rfl)
theorem gZ:BP 135:=BR (by kernel_rfl)
theorem hZ:BP 136:=BR (by kernel_rfl)
theorem iA:BP 137:=BR (by kernel_rfl)
theorem aT:BP 138:=BR (by kernel_rfl)
theorem iB:BP 139:=BR (by kernel_rfl)
theorem iC:BP 140:=BR (by kernel_rfl)
theorem iD:BP 144:=BR (by kernel_rfl)
theorem Xl:BP 145:=BR (by kernel_rfl)
theorem aU:BP 147:=BR (by kernel_rfl)
theorem MP:BP 148:=BR (by kernel_rfl)
theorem Qn:BP 151:=BR (by kernel_rfl)
theorem iE:BP 152:=BR (by kernel_rfl)
theorem iF:BP 157:=BR (by kernel_rfl)
theorem iG:BP 159:=BR (by kernel_rfl)
theorem iH:BP 160:=BR (by kernel_rfl)
theorem aV:BP 161:=BR (by kernel_rfl)
theorem iI:BP 162:=BR (by kernel_rfl)
theorem iJ:BP 163:=BR (by kernel_rfl)
theorem SW:BP 165:=BR (by kernel_rfl)
theorem iK:BP 166:=BR (by kernel_rfl)
theorem iL:BP 167:=BR (by kernel_rfl)
theorem iM:BP 168:=BR (by kernel_rfl)
theorem iN:BP 169:=BR (by kernel_rfl)
theorem iO:BP 170:=BR (by kernel_rfl)
theorem iP:BP 171:=BR (by kernel_rfl)
theorem iQ:BP 172:=BR (by kernel_rfl)
theorem aW:BP 173:=BR (by kernel_rfl)
theorem aX:BP 174:=BR (by kernel_rfl)
theorem Xm:BP 175:=BR (by kernel_rfl)
theorem Xn:BP 176:=BR (by kernel_rfl)
theorem iR:BP 177:=BR (by kernel_rfl)
theorem Xo:BP 179:=BR (by kernel_rfl)
theorem Xp:BP 180:=BR (by kernel_rfl)
theorem Xq:BP 181:=BR (by kernel_rfl)
theorem Xr:BP 182:=BR (by kernel_rfl)
theorem Xs:BP 183:=BR (by kernel_rfl)
theorem aY:BP 184:=BR (by kernel_rfl)
theorem Xt:BP 185:=BR (by kernel_rfl)
theorem iS:BP 186:=BR (by kernel_rfl)
theorem aZ:BP 187:=BR (by kernel_rfl)
theorem iT:BP 188:=BR (by kernel_rfl)
theorem bA:BP 192:=BR (by kernel_rfl)
theorem Ia:BP 193:=BR (by kernel_rfl)
theorem iU:BP 194:=BR (by kernel_rfl)
theorem iV:BP 195:=BR (by kernel_rfl)
theorem iW:BP 196:=BR (by kernel_rfl)
theorem iX:BP 197:=BR (by kernel_rfl)
theorem Xu:BP 198:=BR (by kernel_rfl)
theorem iY:BP 202:=BR (by kernel_rfl)
theorem iZ:BP 203:=BR (by kernel_rfl)
theorem jA:BP 210:=BR (by kernel_rfl)
theorem bB:BP 211:=BR (by kernel_rfl)
theorem bC:BP 213:=BR (by kernel_rfl)
theorem bD:BP 214:=BR (by kernel_rfl)
theorem jB:BP 215:=BR (by kernel_rfl)
theorem jC:BP 216:=BR (by kernel_rfl)
theorem SX:BP 217:=BR (by kernel_rfl)
theorem Xv:BP 218:=BR (by kernel_rfl)
theorem jD:BP 219:=BR (by kernel_rfl)
theorem Kc:BP 220:=BR (by kernel_rfl)
theorem SY:BP 221:=BR (by kernel_rfl)
theorem jE:BP 222:=BR (by kernel_rfl)
theorem bE:BP 223:=BR (by kernel_rfl)
theorem bF:BP 224:=BR (by kernel_rfl)
theorem jF:BP 225:=BR (by kernel_rfl)
theorem jG:BP 226:=BR (by kernel_rfl)
theorem jH:BP 227:=BR (by kernel_rfl)
theorem jI:BP 228:=BR (by kernel_rfl)
theorem jJ:BP 229:=BR (by kernel_rfl)
theorem bG:BP 230:=BR (by kernel_rfl)
theorem SZ:BP 231:=BR (by kernel_rfl)
theorem jK:BP 234:=BR (by kernel_rfl)
theorem Xw:BP 235:=BR (by kernel_rfl)
theorem jL:BP 236:=BR (by kernel_rfl)
theorem jM:BP 241:=BR (by kernel_rfl)
theorem jN:BP 242:=BR (by kernel_rfl)
theorem jO:BP 243:=BR (by kernel_rfl)
theorem MQ:BP 244:=BR (by kernel_rfl)
theorem jP:BP 245:=BR (by kernel_rfl)
theorem bH:BP 246:=BR (by kernel_rfl)
theorem T4:BP 247:=BR (by kernel_rfl)
theorem jQ:BP 250:=BR (by kernel_rfl)
theorem jR:BP 251:=BR (by kernel_rfl)
theorem jS:BP 252:=BR (by kernel_rfl)
theorem jT:BP 253:=BR (by kernel_rfl)
theorem bI:BP 255:=BR (by kernel_rfl)
theorem AI:CT Tryz.prog 2:=by unfold CT;kernel_rfl
theorem Zh:CT Tryz.prog 3:=by unfold CT;kernel_rfl
theorem Nz:CT Tryz.prog 9:=by unfold CT;kernel_rfl
theorem Cx:CT Tryz.prog 24:=by unfold CT;kernel_rfl
theorem B6:CT Tryz.prog 27:=by unfold CT;kernel_rfl
theorem DL:CT Tryz.prog 32:=by unfold CT;kernel_rfl
theorem Bq:CT Tryz.prog 53:=by unfold CT;kernel_rfl
theorem bJ:CT Tryz.prog 66:=by unfold CT;kernel_rfl
theorem jU:CT Tryz.prog 93:=by unfold CT;kernel_rfl
theorem P7:CT Tryz.prog 183:=by unfold CT;kernel_rfl
theorem MS:CT Tryz.prog 196:=by unfold CT;kernel_rfl
theorem eZ:CT Tryz.prog 197:=by unfold CT;kernel_rfl
theorem ID:(Tryz.prog.info? 2).map (·.size)=some 1:=by kernel_rfl
theorem mH:(Tryz.prog.info? 9).map (·.size)=some 1:=by kernel_rfl
theorem lZ:(Tryz.prog.info? 24).map (·.size)=some 1:=by kernel_rfl
theorem Kd:(Tryz.prog.info? 27).map (·.size)=some 1:=by kernel_rfl
theorem Zi:(Tryz.prog.info? 32).map (·.size)=some 1:=by kernel_rfl
theorem jV:(Tryz.prog.info? 53).map (·.size)=some 1:=by kernel_rfl
theorem Xx:(Tryz.prog.info? 196).map (·.size)=some 1:=by kernel_rfl
theorem jW:(Tryz.prog.info? 197).map (·.size)=some 1:=by kernel_rfl
theorem Bx:TI Tryz.prog 2 1 (.int .i64 0) 8:=by unfold TI;kernel_rfl
theorem mN:TI Tryz.prog 5 1 (.int .u8 0) 1:=by unfold TI;kernel_rfl
theorem AW:TI Tryz.prog 27 1 (.slice none 0 0) 24:=by unfold TI;kernel_rfl
theorem DI:TI Tryz.prog 32 1 (.slice none 0 0) 24:=by unfold TI;kernel_rfl
theorem u2:Tryz.prog.underlying 2=some (.int .i64):=by kernel_rfl
theorem u3:Tryz.prog.underlying 3=some (.int .i64):=by kernel_rfl
theorem u4:Tryz.prog.underlying 4=some (.bool):=by kernel_rfl
theorem u5:Tryz.prog.underlying 5=some (.int .u8):=by kernel_rfl
theorem u9:Tryz.prog.underlying 9=some (.string):=by kernel_rfl
theorem mI:Tryz.prog.underlying 22=some (.slice 5):=by kernel_rfl
theorem GA:Tryz.prog.underlying 24=some (.slice 55):=by kernel_rfl
theorem Bh:Tryz.prog.underlying 27=some (.slice 2):=by kernel_rfl
theorem Bi:Tryz.prog.underlying 32=some (.slice 27):=by kernel_rfl
theorem DM:Tryz.prog.underlying 53=some (.slice 174):=by kernel_rfl
theorem f0:Tryz.prog.underlying 66=some (.slice 185):=by kernel_rfl
theorem Dd:Tryz.prog.underlying 132=some (.slice 32):=by kernel_rfl
theorem R9:Tryz.prog.underlying 183=some (.slice 248):=by kernel_rfl
theorem MT:Tryz.prog.underlying 196=some (.slice 231):=by kernel_rfl
theorem jX:Tryz.prog.underlying 197=some (.slice 255):=by kernel_rfl
theorem Eq:DT Tryz.prog 26 1=true:=by kernel_rfl
theorem f5:(Tryz.prog.info? 26).map (·.zero)=some (some (.agg #[.slice none 0 0])):=by kernel_rfl
theorem BU:GG Tryz.prog 26 0 0=true:=by kernel_rfl
theorem Ib:DT Tryz.prog 55 3=true:=by kernel_rfl
theorem Zj:(Tryz.prog.info? 55).map (·.zero)=some (some (.agg #[.string ByteArray.empty,.int .i64 0,.slice none 0 0])):=by kernel_rfl
theorem CE:TI Tryz.prog 55 3 (.agg #[.string ByteArray.empty,.int .i64 0,.slice none 0 0]) 48:=by unfold TI;kernel_rfl
theorem GB:GG Tryz.prog 55 0 0=true:=by kernel_rfl
theorem CH:GG Tryz.prog 55 1 1=true:=by kernel_rfl
theorem Cr:GG Tryz.prog 55 2 2=true:=by kernel_rfl
theorem Qo:DT Tryz.prog 68 1=true:=by kernel_rfl
theorem Xy:GG Tryz.prog 68 0 0=true:=by kernel_rfl
theorem Zk:GG Tryz.prog 157 0 0=true:=by kernel_rfl
theorem P8:GG Tryz.prog 157 1 1=true:=by kernel_rfl
theorem LV:GG Tryz.prog 157 2 2=true:=by kernel_rfl
theorem FJ:GG Tryz.prog 157 3 3=true:=by kernel_rfl
theorem BV:DT Tryz.prog 174 5=true:=by kernel_rfl
theorem MU:(Tryz.prog.info? 174).map (·.zero)=some (some (.agg #[.int .i64 0,.int .i64 0,.int .i64 0,.int .i64 0,.slice none 0 0])):=by kernel_rfl
theorem BB:TI Tryz.prog 174 5 (.agg #[.int .i64 0,.int .i64 0,.int .i64 0,.int .i64 0,.slice none 0 0]) 56:=by unfold TI;kernel_rfl
theorem C3:GG Tryz.prog 174 0 0=true:=by kernel_rfl
theorem BW:GG Tryz.prog 174 1 1=true:=by kernel_rfl
theorem Dp:GG Tryz.prog 174 2 2=true:=by kernel_rfl
theorem D9:GG Tryz.prog 174 3 3=true:=by kernel_rfl
theorem Bo:GG Tryz.prog 174 4 4=true:=by kernel_rfl
theorem Xz:DT Tryz.prog 185 3=true:=by kernel_rfl
theorem XA:TI Tryz.prog 185 3 (.agg #[.string ByteArray.empty,.int .i64 0,.slice none 0 0]) 48:=by unfold TI;kernel_rfl
theorem T5:GG Tryz.prog 185 0 0=true:=by kernel_rfl
theorem Zl:GG Tryz.prog 185 1 1=true:=by kernel_rfl
theorem T6:GG Tryz.prog 185 2 2=true:=by kernel_rfl
theorem Dw:DT Tryz.prog 199 4=true:=by kernel_rfl
theorem T7:(Tryz.prog.info? 199).map (·.zero)=some (some (.agg #[.int .i64 0,.slice none 0 0,.slice none 0 0,.slice none 0 0])):=by kernel_rfl
theorem Zm:GG Tryz.prog 199 0 0=true:=by kernel_rfl
theorem Gq:GG Tryz.prog 199 1 1=true:=by kernel_rfl
theorem T8:GG Tryz.prog 199 2 2=true:=by kernel_rfl
theorem Er:GG Tryz.prog 199 3 3=true:=by kernel_rfl
theorem Ta:GG Tryz.prog 228 0 0=true:=by kernel_rfl
theorem Gr:GG Tryz.prog 228 1 1=true:=by kernel_rfl
theorem E1:GG Tryz.prog 228 2 5=true:=by kernel_rfl
theorem P9:GG Tryz.prog 228 3 6=true:=by kernel_rfl
theorem FK:GG Tryz.prog 228 4 7=true:=by kernel_rfl
theorem Fq:DT Tryz.prog 231 4=true:=by kernel_rfl
theorem Tb:(Tryz.prog.info? 231).map (·.zero)=some (some (.agg #[.int .i64 0,.int .i64 0,.int .i64 0,.int .i64 0])):=by kernel_rfl
theorem Ic:TI Tryz.prog 231 4 (.agg #[.int .i64 0,.int .i64 0,.int .i64 0,.int .i64 0]) 32:=by unfold TI;kernel_rfl
theorem LX:GG Tryz.prog 231 0 0=true:=by kernel_rfl
theorem DJ:GG Tryz.prog 231 1 1=true:=by kernel_rfl
theorem Dq:GG Tryz.prog 231 2 2=true:=by kernel_rfl
theorem LY:GG Tryz.prog 231 3 3=true:=by kernel_rfl
theorem Ra:DT Tryz.prog 237 2=true:=by kernel_rfl
theorem Zn:GG Tryz.prog 237 0 0=true:=by kernel_rfl
theorem Zo:GG Tryz.prog 237 1 1=true:=by kernel_rfl
theorem XB:DT Tryz.prog 248 5=true:=by kernel_rfl
theorem XC:TI Tryz.prog 248 5 (.agg #[.int .i64 0,.int .i64 0,.int .i64 0,.int .i64 0,.slice none 0 0]) 56:=by unfold TI;kernel_rfl
theorem Zp:GG Tryz.prog 248 0 0=true:=by kernel_rfl
theorem Zq:GG Tryz.prog 248 1 1=true:=by kernel_rfl
theorem Zr:GG Tryz.prog 248 2 2=true:=by kernel_rfl
theorem Zs:GG Tryz.prog 248 3 3=true:=by kernel_rfl
theorem Tc:GG Tryz.prog 248 4 4=true:=by kernel_rfl
theorem XD:TI Tryz.prog 255 2 (.agg #[.int .i64 0,.bool false]) 16:=by unfold TI;kernel_rfl
section
set_option maxHeartbeats 4000000
set_option maxRecDepth 100000
attribute [local irreducible] LW
theorem BD (w:World)(n:Int)(low:Int)(high:Int)(_hn:BC n)(_hlow:BC low)(_hhigh:BC high)  :
  Calls Tryz.prog 72 #[.int .i64 n,.int .i64 low,.int .i64 high] w (fun e w'=>e=.returned (.bool (decide (low≤n) && decide (n≤high)))∧w'=w):=by
 refine At [.int .i64 n,.int .i64 low,.int .i64 high] 15 Tryz.func72 Z Z sM ?_
 have a0:w=w:=rfl
 refine A0 (Ad _ [0] Z (Ae 1 Z (A0 (Ad _ [0,0,0,0,0,0,0,0,0] Z (Af 2 Z ?_)))))
 by_cases a1:low≤n
 ·exact FR true Z Z (A7 a1) Ac (Af 3 Z (Ei (decide (n≤high)) Z Z Z (Al (e:=10) Z Z Z) (Ae 2 Z (A3 (Ag [6] Z (.bool (decide (n≤high))) Z ⟨(AG (by simp[*])),a0⟩)))))
 ·exact FR false Z Z (A8 a1) Ac (Ae 6 Z (A3 (Ag [6] Z (.bool false) Z ⟨(AG (by simp[*])),a0⟩)))
theorem Br (w:World)(n:Int)(low:Int)(high:Int)(_hn:BC n)(_hlow:BC low)(_hhigh:BC high)  :
  Calls Tryz.prog 92 #[.int .i64 n,.int .i64 low,.int .i64 high] w (fun e w'=>e=.returned (.bool (decide (low≤n) && decide (n≤high)))∧w'=w):=by
 refine At [.int .i64 n,.int .i64 low,.int .i64 high] 15 Tryz.func92 Z Z sM ?_
 have a0:w=w:=rfl
 refine A0 (Ad _ [0] Z (Ae 1 Z (A0 (Ad _ [0,0,0,0,0,0,0,0,0] Z (Af 2 Z ?_)))))
 by_cases a1:low≤n
 ·exact FR true Z Z (A7 a1) Ac (Af 3 Z (Ei (decide (n≤high)) Z Z Z (Al (e:=10) Z Z Z) (Ae 2 Z (A3 (Ag [6] Z (.bool (decide (n≤high))) Z ⟨(AG (by simp[*])),a0⟩)))))
 ·exact FR false Z Z (A8 a1) Ac (Ae 6 Z (A3 (Ag [6] Z (.bool false) Z ⟨(AG (by simp[*])),a0⟩)))
theorem CW (w:World)(n:Int)(_hn:BC n)  :
  Calls Tryz.prog 106 #[.int .i64 n] w (fun e w'=>e=.returned (.int .i64 (md n))∧w'=w):=by
 refine At [.int .i64 n] 7 Tryz.func106 Z Z sM ?_
 have a0:w=w:=rfl
 exact A0 (Ad _ [0] Z (Ae 1 Z (A0 (Ad _ [0,0,0,0,0] Z (Af 1 Z (Ew (n.tmod 1000003) Z Z (by decide) Z Ac (AH (wr ((n.tmod 1000003)+((1000003:Nat):Int))) Z Z Z Ac (Ew ((wr ((n.tmod 1000003)+((1000003:Nat):Int))).tmod 1000003) Z Z (by decide) Z Ac (Ae 1 Z (A3 (Ag [2] Z (.int .i64 ((wr ((n.tmod 1000003)+((1000003:Nat):Int))).tmod 1000003)) Z ⟨(AS (cI n)),a0⟩)))))))))))
theorem Id (w:World)(a:Int)(b:Int)(_ha:BC a)(_hb:BC b)  :
  Calls Tryz.prog 79 #[.int .i64 a,.int .i64 b] w (fun e w'=>e=.returned (.int .i64 (md (a+b)))∧w'=w):=by
 refine At [.int .i64 a,.int .i64 b] 11 Tryz.func79 Z Z sM ?_
 have a0:w=w:=rfl
 exact A0 (Ad _ [0] Z (Ae 1 Z (A0 (Ad _ [0,0,0,0,0,0,0] Z (Af 1 Z (AD 106 [] [] [(.int .i64 a)] Z Z Oi Ac (.int .i64 (md a)) (fun wq=>CW wq _ _ha) (Af 1 Z (AD 106 [] [] [(.int .i64 b)] Z Z Oi Ac (.int .i64 (md b)) (fun wq=>CW wq _ _hb) (AH (wr ((md a)+(md b))) Z Z Z Ac (Ew ((wr ((md a)+(md b))).tmod 1000003) Z Z (by decide) Z Ac (Ae 1 Z (A3 (Ag [4] Z (.int .i64 ((wr ((md a)+(md b))).tmod 1000003)) Z ⟨(AS (RK a b)),a0⟩)))))))))))))
theorem Ke (w:World)(a:Int)(b:Int)(_ha:BC a)(_hb:BC b)  :
  Calls Tryz.prog 147 #[.int .i64 a,.int .i64 b] w (fun e w'=>e=.returned (.int .i64 (md (a*b)))∧w'=w):=by
 refine At [.int .i64 a,.int .i64 b] 11 Tryz.func147 Z Z sM ?_
 have a0:w=w:=rfl
 exact A0 (Ad _ [0] Z (Ae 1 Z (A0 (Ad _ [0,0,0,0,0,0,0] Z (Af 1 Z (AD 106 [] [] [(.int .i64 a)] Z Z Oi Ac (.int .i64 (md a)) (fun wq=>CW wq _ _ha) (Af 1 Z (AD 106 [] [] [(.int .i64 b)] Z Z Oi Ac (.int .i64 (md b)) (fun wq=>CW wq _ _hb) (IU (wr ((md a)*(md b))) Z Z Z Ac (Ew ((wr ((md a)*(md b))).tmod 1000003) Z Z (by decide) Z Ac (Ae 1 Z (A3 (Ag [4] Z (.int .i64 ((wr ((md a)*(md b))).tmod 1000003)) Z ⟨(AS (PD a b)),a0⟩)))))))))))))
theorem Hv (w:World)(a:Int)(b:Int)(_ha:BC a)(_hb:BC b)  :
  Calls Tryz.prog 78 #[.int .i64 a,.int .i64 b] w (fun e w'=>e=.returned (.int .i64 (md (a-b)))∧w'=w):=by
 refine At [.int .i64 a,.int .i64 b] 10 Tryz.func78 Z Z sM ?_
 have a0:w=w:=rfl
 exact A0 (Ad _ [0] Z (Ae 1 Z (A0 (Ad _ [0,0,0,0,0,0] Z (Af 2 Z (AD 106 [] [] [(.int .i64 b)] Z Z Oi Ac (.int .i64 (md b)) (fun wq=>CW wq _ _hb) (Cj (wr (((1000003:Nat):Int)-(md b))) Z Z Z Ac (AD 79 [] [] [(.int .i64 a),(.int .i64 (wr (((1000003:Nat):Int)-(md b))))] Z Z eY Ac (.int .i64 (md (a+(wr (((1000003:Nat):Int)-(md b)))))) (fun wq=>Id wq _ _ _ha (Om _)) (Ae 1 Z (A3 (Ag [4] Z (.int .i64 (md (a+(wr (((1000003:Nat):Int)-(md b)))))) Z ⟨(AS (Ur a b)),a0⟩)))))))))))
theorem f6 (n:Int)(h:n.tmod 1000003<((0:Nat):Int)):wr (n.tmod 1000003+((1000003:Nat):Int))=md n:=by
  have h1:=Ci n;have h2:=FS n;have h3:=Ci (-n);have h4:=FS (-n)
  rw[tm n]at h ⊢
  split at h
  · omega
  · rename_i h0
    rw[if_neg h0,Gn (by omega) (by omega)]
    have e1:md (-(md (-n))+((1000003:Nat):Int))=md (-(md (-n))):=Uq _
    rw[Ky,Int.neg_neg,L6 (by omega) (by omega)]at e1
    exact e1
theorem f7 (n:Int)(h:¬n.tmod 1000003<((0:Nat):Int)):n.tmod 1000003=md n:=by
  have h1:=Ci n;have h2:=FS n;have h3:=Ci (-n);have h4:=FS (-n)
  rw[tm n]at h ⊢
  split
  · rfl
  · rename_i h0
    rw[if_neg h0]at h
    have e0:md (-n)=0:=by omega
    have e1:=Ky (-n)
    rw[e0,Int.neg_neg]at e1
    rw[e0,← e1]
    rfl
theorem XE {p:Prop}(h:p:=by first|exact AS (f6 n (by assumption))|exact AS (f7 n (by assumption))):p:=h
theorem CC (w:World)(n:Int)(_hn:BC n)  :
  Calls Tryz.prog 148 #[.int .i64 n] w (fun e w'=>e=.returned (.int .i64 (md n))∧w'=w):=by
 refine At [.int .i64 n] 11 Tryz.func148 Z Z sM ?_
 have a0:w=w:=rfl
 refine A0 (Ad _ [0] Z (Ae 1 Z (A0 (Ad _ [0,0,0] Z (Af 1 Z (Ew (n.tmod 1000003) Z Z (by decide) Z Ac (Ae 1 Z (A0 (A0 (Ad _ [0,0] Z (Af 1 Z ?_)))))))))))
 by_cases a1:n.tmod 1000003<((0:Nat):Int)
 ·exact Av true Z Z (A7 a1) Ac (Ah (Ai Z (Ad _ [0,0,0] Z (Af 1 Z (AH (wr ((n.tmod 1000003)+((1000003:Nat):Int))) Z Z Z Ac (Ae 1 Z (A0 (Ad _ [0,0] Z (Ae 2 Z (A3 (Ag [2] Z (.int .i64 (wr ((n.tmod 1000003)+((1000003:Nat):Int)))) Z ⟨XE,a0⟩)))))))))))
 ·exact Av false Z Z (A8 a1) Ac (Ah (Aj Z (A4 (A0 (Ad _ [0,0] Z (Ae 2 Z (A3 (Ag [2] Z (.int .i64 (n.tmod 1000003)) Z ⟨XE,a0⟩))))))))
theorem Lb (w:World)(a:Int)(b:Int)(_ha:BC a)(_hb:BC b)  :
  Calls Tryz.prog 75 #[.int .i64 a,.int .i64 b] w (fun e w'=>e=.returned (.int .i64 (md (a+b)))∧w'=w):=by
 refine At [.int .i64 a,.int .i64 b] 11 Tryz.func75 Z Z sM ?_
 have a0:w=w:=rfl
 exact A0 (Ad _ [0] Z (Ae 1 Z (A0 (Ad _ [0,0,0,0,0,0,0] Z (Af 1 Z (AD 148 [] [] [(.int .i64 a)] Z Z MP Ac (.int .i64 (md a)) (fun wq=>CC wq _ _ha) (Af 1 Z (AD 148 [] [] [(.int .i64 b)] Z Z MP Ac (.int .i64 (md b)) (fun wq=>CC wq _ _hb) (AH (wr ((md a)+(md b))) Z Z Z Ac (Ew ((wr ((md a)+(md b))).tmod 1000003) Z Z (by decide) Z Ac (Ae 1 Z (A3 (Ag [4] Z (.int .i64 ((wr ((md a)+(md b))).tmod 1000003)) Z ⟨(AS (RK a b)),a0⟩)))))))))))))
theorem Co (w:World)(a:Int)(b:Int)(_ha:BC a)(_hb:BC b)  :
  Calls Tryz.prog 76 #[.int .i64 a,.int .i64 b] w (fun e w'=>e=.returned (.int .i64 (md (a*b)))∧w'=w):=by
 refine At [.int .i64 a,.int .i64 b] 11 Tryz.func76 Z Z sM ?_
 have a0:w=w:=rfl
 exact A0 (Ad _ [0] Z (Ae 1 Z (A0 (Ad _ [0,0,0,0,0,0,0] Z (Af 1 Z (AD 148 [] [] [(.int .i64 a)] Z Z MP Ac (.int .i64 (md a)) (fun wq=>CC wq _ _ha) (Af 1 Z (AD 148 [] [] [(.int .i64 b)] Z Z MP Ac (.int .i64 (md b)) (fun wq=>CC wq _ _hb) (IU (wr ((md a)*(md b))) Z Z Z Ac (Ew ((wr ((md a)*(md b))).tmod 1000003) Z Z (by decide) Z Ac (Ae 1 Z (A3 (Ag [4] Z (.int .i64 ((wr ((md a)*(md b))).tmod 1000003)) Z ⟨(AS (PD a b)),a0⟩)))))))))))))
theorem IZ (w:World)(a:Int)(_ha:BC a)(hneg:0≤a) :
  Calls Tryz.prog 138 #[.int .i64 a] w (fun e w'=>e=.returned (.int .i64 (md (-a)))∧w'=w):=by
 refine At [.int .i64 a] 6 Tryz.func138 Z Z sM ?_
 have a0:w=w:=rfl
 exact A0 (Ad _ [0] Z (Ae 1 Z (A0 (Ad _ [0,0,0,0] Z (Af 1 Z (fk (wr (-a)) Z Z Ac (AD 148 [] [] [(.int .i64 (wr (-a)))] Z Z MP Ac (.int .i64 (md (wr (-a)))) (fun wq=>CC wq _ (Om _)) (Ae 1 Z (A3 (Ag [2] Z (.int .i64 (md (wr (-a)))) Z ⟨(AS (by rw[Gn oM oM])),a0⟩))))))))))
theorem HI (w:World)(a:Int)(b:Int)(_ha:BC a)(_hb:BC b)(hs:-9223372036854775808≤a-b∧a-b≤9223372036854775807) :
  Calls Tryz.prog 124 #[.int .i64 a,.int .i64 b] w (fun e w'=>e=.returned (.int .i64 (md (a-b)))∧w'=w):=by
 refine At [.int .i64 a,.int .i64 b] 9 Tryz.func124 Z Z sM ?_
 have a0:w=w:=rfl
 exact A0 (Ad _ [0] Z (Ae 1 Z (A0 (Ad _ [0,0,0,0,0] Z (Af 2 Z (Cj (wr (a-b)) Z Z Z Ac (AD 148 [] [] [(.int .i64 (wr (a-b)))] Z Z MP Ac (.int .i64 (md (wr (a-b)))) (fun wq=>CC wq _ (Om _)) (Ae 1 Z (A3 (Ag [4] Z (.int .i64 (md (wr (a-b)))) Z ⟨(AS (by rw[Gn hs.1 hs.2])),a0⟩))))))))))
theorem Pa {p:Prop}(h:p:=by exact⟨by omega,by first|exact cL hI.2 oM (by assumption)|exact Yi hI.2 oM (by assumption)⟩):p:=h
theorem Pb (w:World)(a:Int)(n:Int)(_ha:BC a)(_hn:BC n)  :
  Calls Tryz.prog 216 #[.int .i64 a,.int .i64 n] w (fun e w'=>e=.returned (.int .i64 (pw a n))∧w'=w):=by
 refine At [.int .i64 a,.int .i64 n] 25 Tryz.func216 Z Z sM ?_
 have a0:w=w:=rfl
 refine A0 (Ad _ [0] Z (Ae 1 Z (A0 (A0 (Ad _ [0,0] Z (Af 1 Z ?_))))))
 by_cases a2:n<((0:Nat):Int)
 ·exact Av true Z Z (A7 a2) Ac (Ah (Ai Z (A0 (Ad _ [0] Z (Ae 1 Z (A3 (Aq (Ag [4] Z (.int .i64 ((0:Nat):Int)) Z ⟨(AS (Ut (by assumption))),a0⟩))))))))
 ·refine Av false Z Z (A8 a2) Ac (Ah (Aj Z (A4 (A0 (Ad _ [0] Z (Ae 1 Z (A0 (Ad _ [0,0,0] Z (Af 1 Z (AD 148 [] [] [(.int .i64 a)] Z Z MP Ac (.int .i64 (md a)) (fun wq=>CC wq _ _ha) (Ae 1 Z (A0 (A5 ?_)))))))))))))
  refine AL (S:=Int×Int×Int) (fun⟨m,x,b⟩=>([(1,(.int .i64 m)),(5,(.int .i64 x)),(6,(.int .i64 b))])) (fun⟨m,x,b⟩ W=>W=w∧(0≤m∧md (x*b ^ m.toNat)=md (a ^ n.toNat))∧m≤9223372036854775807∧(0≤x∧x<1000003)∧(0≤b∧b<1000003)) (fun⟨m,x,b⟩=>m.toNat) (n,((1:Nat):Int),(md a)) ⟨rfl,rfl,rfl,trivial⟩ ⟨a0,(by exact⟨by omega,PE a n.toNat⟩),oM,oM,(by exact BK _)⟩ ?_
  clear a0
  rintro⟨m,x,b⟩ ρ3 w3 ⟨a1,hI,hm,hx,hb⟩
  refine A0 (A0 (Ad _ [0,0] Z (Af 1 Z ?_)))
  by_cases a3:((0:Nat):Int)<m
  ·refine C4 true Z Z (A7 a3) Ac (Ah (Ai Z (A4 (A5 (A0 (A0 (Ad _ [0,0,0] Z (Af 1 Z (Ew (m % 2) Z Z (by decide) (mE hI.1) Ac ?_)))))))))
   by_cases a4:m % 2=((1:Nat):Int)
   ·refine AA true Z Z (A7 a4) Ac (Ah (Ai Z (Ad _ [0,0,0,0] Z (Af 2 Z (AD 76 [] [] [(.int .i64 x),(.int .i64 b)] Z Z Ny Ac (.int .i64 (md (x*b))) (fun wq=>Co wq _ _ oM oM) (Ae 1 Z (A0 (Ad _ [0,0,0,0] Z (Af 2 Z (AD 76 [] [] [(.int .i64 b),(.int .i64 b)] Z Z Ny Ac (.int .i64 (md (b*b))) (fun wq=>Co wq _ _ oM oM) (Ae 1 Z (Ad _ [0,0,0] Z (Af 1 Z (Pu (m / 2) Z Z (by decide) (kS hI.1 hm) Ac (Ae 1 Z ?_)))))))))))))))
    exact⟨((m / 2),(md (x*b)),(md (b*b))),_,rfl,⟨rfl,rfl,rfl,trivial⟩,⟨a1,Pa,oM,(by first|exact hx|exact BK _),(by exact BK _)⟩,by first|omega|(dsimp only;omega)⟩
   ·exact AA false Z Z (A8 a4) Ac (Ah (Aj Z (A4 (A0 (Ad _ [0,0,0,0] Z (Af 2 Z (AD 76 [] [] [(.int .i64 b),(.int .i64 b)] Z Z Ny Ac (.int .i64 (md (b*b))) (fun wq=>Co wq _ _ oM oM) (Ae 1 Z (Ad _ [0,0,0] Z (Af 1 Z (Pu (m / 2) Z Z (by decide) (kS hI.1 hm) Ac (Ae 1 Z ⟨((m / 2),x,(md (b*b))),_,rfl,⟨rfl,rfl,rfl,trivial⟩,⟨a1,Pa,oM,(by first|exact hx|exact BK _),(by exact BK _)⟩,by first|omega|(dsimp only;omega)⟩))))))))))))
  ·exact C4 false Z Z (A8 a3) Ac (Ah (Aj Z (A6 (As (As (An (A0 (Ad _ [0,0] Z (Ae 2 Z (A3 (Ag [4] Z (.int .i64 x) Z ⟨(AS (Us hI.2 hI.1 (by assumption) (by assumption) hx)),a1⟩)))))))))))
theorem Pc (w:World)(a:Int)(n:Int)(_ha:BC a)(_hn:BC n)  :
  Calls Tryz.prog 162 #[.int .i64 a,.int .i64 n] w (fun e w'=>e=.returned (.int .i64 (pw a n))∧w'=w):=by
 refine At [.int .i64 a,.int .i64 n] 27 Tryz.func162 Z Z sM ?_
 have a0:w=w:=rfl
 refine A0 (Ad _ [0] Z (Ae 1 Z (A0 (A0 (Ad _ [0,0] Z (Af 1 Z ?_))))))
 by_cases a2:n<((0:Nat):Int)
 ·exact Av true Z Z (A7 a2) Ac (Ah (Ai Z (A0 (Ad _ [0] Z (Ae 1 Z (A3 (Aq (Ag [4] Z (.int .i64 ((0:Nat):Int)) Z ⟨(AS (Ut (by assumption))),a0⟩))))))))
 ·refine Av false Z Z (A8 a2) Ac (Ah (Aj Z (A4 (A0 (Ad _ [0] Z (Ae 1 Z (A0 (A0 (Ad _ [0,0,0] Z (Af 1 Z (AD 106 [] [] [(.int .i64 a)] Z Z Oi Ac (.int .i64 (md a)) (fun wq=>CW wq _ _ha) (Ae 1 Z (A5 ?_)))))))))))))
  refine AL (S:=Int×Int×Int) (fun⟨m,x,b⟩=>([(1,(.int .i64 m)),(5,(.int .i64 x)),(6,(.int .i64 b))])) (fun⟨m,x,b⟩ W=>W=w∧(0≤m∧md (x*b ^ m.toNat)=md (a ^ n.toNat))∧m≤9223372036854775807∧(0≤x∧x<1000003)∧(0≤b∧b<1000003)) (fun⟨m,x,b⟩=>m.toNat) (n,((1:Nat):Int),(md a)) ⟨rfl,rfl,rfl,trivial⟩ ⟨a0,(by exact⟨by omega,PE a n.toNat⟩),oM,oM,(by exact BK _)⟩ ?_
  clear a0
  rintro⟨m,x,b⟩ ρ3 w3 ⟨a1,hI,hm,hx,hb⟩
  refine A0 (A0 (Ad _ [0,0] Z (Af 1 Z ?_)))
  by_cases a3:((0:Nat):Int)<m
  ·refine C4 true Z Z (A7 a3) Ac (Ah (Ai Z (A4 (A0 (A5 (A0 (A0 (Ad _ [0,0,0] Z (Af 1 Z (Ew (m % 2) Z Z (by decide) (mE hI.1) Ac ?_))))))))))
   by_cases a4:m % 2=((1:Nat):Int)
   ·refine AA true Z Z (A7 a4) Ac (Ah (Ai Z (Ad _ [0,0,0,0,0] Z (Af 2 Z (IU (wr (x*b)) Z Z Z Ac (Ew (md (x*b)) Z Z (by decide) (PF hx hb) Ac (Ae 1 Z (Ad _ [0,0,0,0,0] Z (Af 2 Z (IU (wr (b*b)) Z Z Z Ac (Ew (md (b*b)) Z Z (by decide) (PF hb hb) Ac (Ae 1 Z (Ad _ [0,0,0] Z (Af 1 Z (Pu (m / 2) Z Z (by decide) (kS hI.1 hm) Ac (Ae 1 Z ?_))))))))))))))))
    exact⟨((m / 2),(md (x*b)),(md (b*b))),_,rfl,⟨rfl,rfl,rfl,trivial⟩,⟨a1,Pa,oM,(by first|exact hx|exact BK _),(by exact BK _)⟩,by first|omega|(dsimp only;omega)⟩
   ·exact AA false Z Z (A8 a4) Ac (Ah (Aj Z (A4 (Ad _ [0,0,0,0,0] Z (Af 2 Z (IU (wr (b*b)) Z Z Z Ac (Ew (md (b*b)) Z Z (by decide) (PF hb hb) Ac (Ae 1 Z (Ad _ [0,0,0] Z (Af 1 Z (Pu (m / 2) Z Z (by decide) (kS hI.1 hm) Ac (Ae 1 Z ⟨((m / 2),x,(md (b*b))),_,rfl,⟨rfl,rfl,rfl,trivial⟩,⟨a1,Pa,oM,(by first|exact hx|exact BK _),(by exact BK _)⟩,by first|omega|(dsimp only;omega)⟩))))))))))))
  ·exact C4 false Z Z (A8 a3) Ac (Ah (Aj Z (A6 (As (As (An (A0 (Ad _ [0,0] Z (Ae 2 Z (A3 (Ag [4] Z (.int .i64 x) Z ⟨(AS (Us hI.2 hI.1 (by assumption) (by assumption) hx)),a1⟩)))))))))))
theorem GC (w:World)(a:Int)(_ha:BC a)  :
  Calls Tryz.prog 175 #[.int .i64 a] w (fun e w'=>e=.returned (.int .i64 (inv a))∧w'=w):=by
 refine At [.int .i64 a] 5 Tryz.func175 Z Z sM ?_
 have a0:w=w:=rfl
 exact A0 (Ad _ [0] Z (Ae 1 Z (A0 (Ad _ [0,0,0] Z (Af 1 Z (AD 216 [] [] [(.int .i64 a),(.int .i64 ((1000001:Nat):Int))] Z Z jC Ac (.int .i64 (pw a ((1000001:Nat):Int))) (fun wq=>Pb wq _ _ _ha oM) (Ae 1 Z (A3 (Ag [2] Z (.int .i64 (pw a ((1000001:Nat):Int))) Z ⟨rfl,a0⟩)))))))))
theorem Ie (w:World)(a:Int)(_ha:BC a)  :
  Calls Tryz.prog 104 #[.int .i64 a] w (fun e w'=>e=.returned (.int .i64 (inv a))∧w'=w):=by
 refine At [.int .i64 a] 5 Tryz.func104 Z Z sM ?_
 have a0:w=w:=rfl
 exact A0 (Ad _ [0] Z (Ae 1 Z (A0 (Ad _ [0,0,0] Z (Af 1 Z (AD 162 [] [] [(.int .i64 a),(.int .i64 ((1000001:Nat):Int))] Z Z iI Ac (.int .i64 (pw a ((1000001:Nat):Int))) (fun wq=>Pc wq _ _ _ha oM) (Ae 1 Z (A3 (Ag [2] Z (.int .i64 (pw a ((1000001:Nat):Int))) Z ⟨rfl,a0⟩)))))))))
theorem HJ (w:World)(n:Int)(_hn:BC n)  :
  Calls Tryz.prog 161 #[.int .i64 n] w (fun e w'=>e=.returned (.bool (Jb n))∧w'=w):=by
 refine At [.int .i64 n] 5 Tryz.func161 Z Z sM ?_
 have a0:w=w:=rfl
 exact A0 (Ad _ [0] Z (Ae 1 Z (A0 (Ad _ [0,0,0] Z (Af 1 Z (AD 72 [] [] [(.int .i64 n),(.int .i64 ((0:Nat):Int)),(.int .i64 ((1000002:Nat):Int))] Z Z KO Ac (.bool (decide (((0:Nat):Int)≤n) && decide (n≤((1000002:Nat):Int)))) (fun wq=>BD wq _ _ _ _hn oM oM) (Ae 1 Z (A3 (Ag [2] Z (.bool (decide (((0:Nat):Int)≤n) && decide (n≤((1000002:Nat):Int)))) Z ⟨(AG (by unfold Jb;rfl)),a0⟩)))))))))
theorem H5 (w:World)(n:Int)(_hn:BC n)  :
  Calls Tryz.prog 192 #[.int .i64 n] w (fun e w'=>e=.returned (.bool (Jb n))∧w'=w):=by
 refine At [.int .i64 n] 5 Tryz.func192 Z Z sM ?_
 have a0:w=w:=rfl
 exact A0 (Ad _ [0] Z (Ae 1 Z (A0 (Ad _ [0,0,0] Z (Af 1 Z (AD 92 [] [] [(.int .i64 n),(.int .i64 ((0:Nat):Int)),(.int .i64 ((1000002:Nat):Int))] Z Z IL Ac (.bool (decide (((0:Nat):Int)≤n) && decide (n≤((1000002:Nat):Int)))) (fun wq=>Br wq _ _ _ _hn oM oM) (Ae 1 Z (A3 (Ag [2] Z (.bool (decide (((0:Nat):Int)≤n) && decide (n≤((1000002:Nat):Int)))) Z ⟨(AG (by unfold Jb;rfl)),a0⟩)))))))))
theorem IM (w:World)(n:Int)(_hn:BC n)  :
  Calls Tryz.prog 160 #[.int .i64 n] w (fun e w'=>e=.returned (.bool (!Jb n))∧Ay w w'):=by
 refine At [.int .i64 n] 6 Tryz.func160 Z Z sM ?_
 have a0:Ay w w:=Ay.refl w
 exact A0 (Ad _ [0] Z (Ae 1 Z (A0 (Ad _ [0,0,0,0] Z (Af 1 Z (AD 161 [] [] [(.int .i64 n)] Z Z aV Ac (.bool (Jb n)) (fun wq=>HJ wq _ _hn) (Bp (!(Jb n)) Z Z Ac (Ae 1 Z (A3 (Ag [2] Z (.bool (!(Jb n))) Z ⟨rfl,a0⟩))))))))))
end
section
set_option maxHeartbeats 4000000
set_option maxRecDepth 100000
attribute [local irreducible] LW
def Rb {α:Type}(p:α→Bool)(l:List α):Int:=if l.any p then((l.findIdx p:Nat):Int)else -1
theorem Rc {α:Type}{p:α→Bool}{l:List α}{k:Nat}(d:α)(h:∀j,j<k→p (l.getD j d)=false)(hk:k<l.length)(hp:p (l.getD k d)=true):((k:Nat):Int)=Rb p l:=by
  have e:∀j,(hj:j<l.length)→l.getD j d=l[j]:=fun j hj=>by simp[hj]
  have h1:l.any p=true:=List.any_eq_true.2 ⟨l[k],List.getElem_mem hk,by rw[← e k hk];exact hp⟩
  have h2:l.findIdx p=k:=by
    rw[List.findIdx_eq hk]
    refine⟨by rw[← e k hk];exact hp,fun j hj=>?_⟩
    have:=h j hj
    rw[e j (by omega)]at this
    exact this
  unfold Rb;rw[if_pos h1,h2]
theorem XF {α:Type}{p:α→Bool}{l:List α}{k:Nat}(d:α)(h:∀j,j<k→p (l.getD j d)=false)(hk:l.length≤k):(-1:Int)=Rb p l:=by
  have h1:l.any p=false:=by
    rw[List.any_eq_false]
    intro x hx
    obtain⟨j,hj,rfl⟩:=List.getElem_of_mem hx
    have:=h j (by omega)
    have e:l.getD j d=l[j]:=by simp[hj]
    rw[e]at this
    simp[this]
  unfold Rb;rw[h1];rfl
theorem XG {α:Type}(p:α→Bool)(l:List α):decide (((0:Nat):Int)≤Rb p l)=l.any p:=by
  unfold Rb
  split
  · rename_i h;rw[h];exact A7 (by omega)
  · rename_i h;rw[Bool.not_eq_true]at h;rw[h];exact A8 (by omega)
theorem Pd {α:Type}{p:α→Bool}{l:List α}{k:Nat}{d:α}(h:∀j,j<k→p (l.getD j d)=false)(hp:p (l.getD k d)=false):∀j,j<k+1→p (l.getD j d)=false:=by
  intro j hj
  by_cases e:j=k
  · subst e;exact hp
  · exact h j (by omega)
theorem Eg (w:World) (va:Value) (a:List Int) (q:Nat) (qf qc:List Value) (p:Int→Bool) (ha:Rd (B3 rI) w.heap va a) (hcf_q:((Tryz.prog.funcs[q]?).map fun fn=>(fn.name != "runtime.NumGoroutine") && fn.body.isSome) = some true) (hp:∀ (x:Int),BC x→∀ w1,Ay w w1→Calls Tryz.prog q (qf++[Value.int .i64 x]++qc).toArray w1 (fun e w2=>e = .returned (.bool (p x))∧Ay w1 w2))  :
  Calls Tryz.prog 210 #[va,.func (.func q) qf.toArray qc.toArray] w (fun e w'=>e = .returned (.int .i64 (Rb p a))∧Ay w w'):=by
 refine At [va,.func (.func q) qf.toArray qc.toArray] 19 Tryz.func210 Z Z sM ?_
 have a3:Ay w w:=Ay.refl w
 have hl_va:=ha.lenle
 refine A0 (Ad _ [0] Z (Ae 1 Z (A0 (A0 (Ad _ [0,0,0] Z (Af 1 Z (AJ (v:=va) Bh Z ha.isSl Ac (Ae 1 Z (A5 ?_)))))))))
 refine AL (S:=Nat) (fun k=>([(8,(.int .i64 ((k :Nat):Int))),(0,va),(1,(.func (.func q) qf.toArray qc.toArray)),(7,(.int .i64 ((a.length :Nat):Int)))])) (fun k W=>Ay w W∧k≤a.length∧(∀ j,j < k→p (a.getD j 0) = false)) (fun k=>a.length - k) 0 ⟨rfl,rfl,rfl,rfl,trivial⟩ ⟨a3,sD,(by intro j hj; omega)⟩ ?_
 clear a3
 rintro k ρ1 w1 ⟨a1,a4,hq⟩
 have a7:w.heap.size≤w1.heap.size:=a1.size
 refine A0 (Ad _ [0] Z ?_)
 by_cases a5:((k :Nat):Int) < ((a.length :Nat):Int)
 ·
  refine Av true Z Z (A7 a5) Ac (Ah (A0 (Ai Z (A4 (A0 (A5 (A0 (Ad _ [0,0] Z (Ae 2 Z (A0 (Ad _ [0,0,0,0,2,3] Z (Af 3 Z (Au (v:=va) k Bh Bx Z Z ha.isSl Z sD Ac ?_)))))))))))))
  refine Ak (p:=Aw va k 1) (.inr Z) (.int .i64 (a.getD k 0)) AI Z (AU a1 (ha.getI sD).1) Ac ?_
  have a0:=hp (a.getD k 0) (ha.getI sD).2 _ a1
  refine Ap q qf qc _ Z Z hcf_q Ac a0 ?_
  rintro e3 w3 ⟨rfl,a2⟩
  refine ⟨_,rfl,a2,?_⟩
  have a8:=a2.size
  have a6:=a1.trans a2
  cases a9:p (a.getD k 0)
  ·
   refine Ah (Aj Z (A4 (Ad _ [0,0] Z (AH ((k + 1 :Nat):Int) Z Z (B7 oM sD) Ac (Ae 1 Z ?_)))))
   exact ⟨(k + 1),_,rfl,⟨rfl,rfl,rfl,rfl,trivial⟩,⟨a6,sD,(by exact Pd hq (by assumption))⟩,by first | omega | (dsimp only; omega)⟩
  ·
   exact Ah (Ai Z (A0 (Ad _ [0,0] Z (Ae 2 Z (A3 (AK (Aq (Aq (AK (Aq (Ag [4] Z (.int .i64 ((k :Nat):Int)) Z ⟨(AS (Rc 0 hq oM (by assumption))),a6⟩)))))))))))
 ·
  exact Av false Z Z (A8 a5) Ac (Ah (A0 (Aj Z (A6 (As (As (An (A0 (Ad _ [0] Z (Ae 1 Z (A3 (Ag [4] Z (.int .i64 (-1)) Z ⟨(AS (XF 0 hq oM)),a1⟩))))))))))))
theorem DQ (w:World) (va:Value) (a:List Int) (q:Nat) (qf qc:List Value) (p:Int→Bool) (ha:Rd (B3 rI) w.heap va a) (hcf_q:((Tryz.prog.funcs[q]?).map fun fn=>(fn.name != "runtime.NumGoroutine") && fn.body.isSome) = some true) (hp:∀ (x:Int),BC x→∀ w1,Ay w w1→Calls Tryz.prog q (qf++[Value.int .i64 x]++qc).toArray w1 (fun e w2=>e = .returned (.bool (p x))∧Ay w1 w2))  :
  Calls Tryz.prog 159 #[va,.func (.func q) qf.toArray qc.toArray] w (fun e w'=>e = .returned (.bool (a.any p))∧Ay w w'):=by
 refine At [va,.func (.func q) qf.toArray qc.toArray] 9 Tryz.func159 Z Z sM ?_
 have a0:Ay w w:=Ay.refl w
 have hl_va:=ha.lenle
 refine A0 (Ad _ [0] Z (Ae 1 Z (A0 (Ad _ [0,0,3,0,0] Z (Af 2 Z (Ap 210 [] [] [va,(.func (.func q) qf.toArray qc.toArray)] Z Z jA Ac (Eg _ _ _ q qf qc p (ha.ext g1 a0) hcf_q (fun x hx w1 hw=>hp x hx w1 (a0.trans hw))) ?_))))))
 rintro e1 w1 ⟨rfl,a1⟩
 refine ⟨_,rfl,a1,?_⟩
 have a2:=a1.size
 have a3:=a0.trans a1
 exact FR (decide (((0 :Nat):Int)≤Rb p a)) Z Z Z Ac (Ae 1 Z (A3 (Ag [4] Z (.bool (decide (((0 :Nat):Int)≤Rb p a))) Z ⟨(AG (XG p a)),a3⟩)))
theorem Gt (w:World)(va:Value)(a:List Int)(count:Int)(ha:Rd (B3 rI) w.heap va a)(_hcount:BC count)  :
  Calls Tryz.prog 97 #[va,.int .i64 count] w (fun e w'=>e=.returned (.bool (decide (((a.length:Nat):Int)=count) && B8 a))∧Ay w w'):=by
 refine At [va,.int .i64 count] 14 Tryz.func97 Z Z sM ?_
 have a0:Ay w w:=Ay.refl w
 have hl_va:=ha.lenle
 refine A0 (Ad _ [0] Z (Ae 1 Z (A0 (Ad _ [0,0,0,0,0,0,3,0,0,0] Z (Af 1 Z (AJ (v:=va) Bh Z ha.isSl Ac (Af 1 Z ?_)))))))
 by_cases a2:((a.length:Nat):Int)=count
 ·refine AA true Z Z (A7 a2) Ac (Af 2 Z (Ap 159 [] [] [va,(.func (.func 160) #[] #[])] Z Z iG (Al (e:=9) Z Z Z) (DQ _ _ _ 160 [] [] (fun x=>!Jb x) (ha.ext g1 a0) iH (fun x hx w1 hw=>IM w1 x hx)) ?_))
  rintro e2 w2 ⟨rfl,a1⟩
  refine⟨_,rfl,a1,?_⟩
  have a3:=a1.size
  have a4:=a0.trans a1
  exact Bp (!(a.any (fun x=>!Jb x))) Z Z (Al (e:=9) Z Z Z) (Ae 2 Z (A3 (Ag [4] Z (.bool (!(a.any (fun x=>!Jb x)))) Z ⟨(AG (by first|(rw[RO];simp[*];done)|simp[*])),a4⟩)))
 ·exact AA false Z Z (A8 a2) Ac (Ae 6 Z (A3 (Ag [4] Z (.bool false) Z ⟨(AG (by first|(rw[RO];simp[*];done)|simp[*])),a0⟩)))
theorem Kf (w:World)(va:Value)(a:List Int)(ha:Rd (B3 rI) w.heap va a)  :
  Calls Tryz.prog 144 #[va] w (fun e w'=>e=.returned (.bool (B8 a))∧Ay w w'):=by
 refine At [va] 16 Tryz.func144 Z Z sM ?_
 have a1:Ay w w:=Ay.refl w
 have hl_va:=ha.lenle
 refine A0 (Ad _ [0] Z (Ae 1 Z (A0 (A0 (Ad _ [0] Z (Ae 1 Z (A5 (AL (S:=Nat) (fun k=>([(3,(.int .i64 ((k:Nat):Int))),(0,va)])) (fun k W=>Ay w W∧k≤a.length∧((a.take k).all Jb=true)) (fun k=>a.length-k) 0 ⟨rfl,rfl,trivial⟩ ⟨a1,sD,(by exact Uu _ _)⟩ ?_))))))))
 clear a1
 rintro k ρ1 w1 ⟨a0,a2,hq⟩
 have a5:w.heap.size≤w1.heap.size:=a0.size
 refine A0 (A0 (Ad _ [0,0,0,0] Z (Af 2 Z (AJ (v:=va) Bh Z ha.isSl Ac ?_))))
 by_cases a3:((k:Nat):Int)<((a.length:Nat):Int)
 ·refine Av true Z Z (A7 a3) Ac (Ah (Ai Z (A4 (A0 (A5 (A0 (Ad _ [0,0,0,2,0,0] Z (Af 2 Z (Au (v:=va) k Bh Bx Z Z ha.isSl Z sD Ac ?_)))))))))
  refine Ak (p:=Aw va k 1) (.inr Z) (.int .i64 (a.getD k 0)) AI Z (AU a0 (ha.getI sD).1) Ac ?_
  refine AD 192 [] [] [(.int .i64 (a.getD k 0))] Z Z bA Ac (.bool (Jb (a.getD k 0))) (fun wq=>H5 wq _ (ha.getI sD).2) (Bp (!(Jb (a.getD k 0))) Z Z Ac (Ah ?_))
  cases a4:(!(Jb (a.getD k 0)))
  ·refine Aj (by first|rfl|(show Value.bool _=_;rw[a4])) (A4 (Ad _ [0,0,0] Z (Af 1 Z (AH ((k+1:Nat):Int) Z Z (B7 oM sD) Ac (Ae 1 Z ?_)))))
   exact⟨(k+1),_,rfl,⟨rfl,rfl,trivial⟩,⟨a0,sD,(by exact Uv 0 hq oM (by simpa using ‹(!Jb (a.getD k 0))=false›))⟩,by first|omega|(dsimp only;omega)⟩
  ·exact Ai (by first|rfl|(show Value.bool _=_;rw[a4])) (A0 (Ad _ [0] Z (Ae 1 Z (A3 (AK (Aq (Aq (AK (Aq (Ag [2] Z (.bool false) Z ⟨(AG (Uw (k:=k) 0 oM (by simpa using ‹(!Jb (a.getD k 0))=true›)).symm),a0⟩))))))))))
 ·exact Av false Z Z (A8 a3) Ac (Ah (Aj Z (A6 (As (As (An (A0 (Ad _ [0] Z (Ae 1 Z (A3 (Ag [2] Z (.bool true) Z ⟨(AG (Ux hq oM).symm),a0⟩)))))))))))
theorem EV (w:World)(va:Value)(a:List Int)(ha:Rd (B3 rI) w.heap va a)(hla:a.length≤1000000000000) :
  Calls Tryz.prog 165 #[va] w (fun e w'=>∃v0:Value,e=.returned (v0)∧Ay w w'∧Fr (AR rI 2) w.heap.size w'.heap.size w'.heap v0 a):=by
 refine At [va] 6 Tryz.func165 Z Z sM ?_
 have a3:Ay w w:=Ay.refl w
 have hl_va:=ha.lenle
 refine A0 (Ad _ [0] Z (Ae 1 Z (A0 (Ad _ [3,0,4,0] Z (BH (rI) AO Bh Bx Ac fun v1 w1 a1 aa a4=>?_)))))
 have a5:=a1.size
 have a0:=a3.trans a1
 refine Af 1 Z (Gv (v:=v1) (a:=va) Bh Bx Z Z Z a4 a0.size (ha.ext g1 a0) sD (by unfold maxLen;first|omega|assumption|(simp;done)|(simp;omega)) Ac fun v2 w2 F2 a2 a6 a7=>?_)
 have a8:Ay w w2:=a2.below a0 (fun c hc=>Aa (A9 _) (a6 c hc).1) a0.size
 have a9:=a2.size
 exact Ae 1 Z (A3 (Ag [2] Z v2 Z ⟨v2,rfl,a8,a7.up o1⟩))
theorem J1 (w:World)(va:Value)(a:List (List Int))(ha:Rd (B3 (B3 rI)) w.heap va a)(hla:a.length≤1000000000000)(hlr:∀k,(a.getD k []).length≤1000000000000) :
  Calls Tryz.prog 173 #[va] w (fun e w'=>∃v0:Value,e=.returned (v0)∧Ay w w'∧Fr (AR (AR rI 2) 27) w.heap.size w'.heap.size w'.heap v0 a):=by
 refine At [va] 21 Tryz.func173 Z Z sM ?_
 have ab:Ay w w:=Ay.refl w
 have hl_va:=ha.lenle
 refine A0 (Ad _ [0] Z (Ae 1 Z (A0 (Ad _ [3,0] Z (BH (AR rI 2) o1 Bi AW Ac fun v1 w1 a6 aj ac=>?_)))))
 have a7:=a6.size
 have ad:=ab.trans a6
 refine Ae 1 Z (A0 (A0 (Ad _ [0] Z (Ae 1 Z (A5 (AL (S:=Nat×Value) (fun⟨k,vo⟩=>([(3,vo),(4,(.int .i64 ((k:Nat):Int))),(0,va)])) (fun⟨k,vo⟩ W=>Ay w W∧Fr (AR (AR rI 2) 27) w.heap.size W.heap.size W.heap vo (a.take k)∧k≤a.length) (fun⟨k,vo⟩=>a.length-k) (0,v1) ⟨rfl,rfl,rfl,trivial⟩ ⟨ad,ac.up o2,sD⟩ ?_))))))
 clear ab ac aj a6 a7 ad
 rintro⟨k,vo⟩ ρ2 w2 ⟨a3,a2,ae⟩
 have ak:w.heap.size≤w2.heap.size:=a3.size
 refine A0 (A0 (Ad _ [0,0,0,0] Z (Af 2 Z (AJ (v:=va) Bi Z ha.isSl Ac ?_))))
 by_cases af:((k:Nat):Int)<((a.length:Nat):Int)
 ·refine Av true Z Z (A7 af) Ac (Ah (Ai Z (A4 (A0 (A5 (Ad _ [0,0,0,0,2,3,3,4,0] Z (Af 3 Z (Au (v:=va) k Bi AW Z Z ha.isSl Z sD Ac ?_))))))))
  obtain⟨ag,al,ah⟩:=ha.get (k:=k) [] sD
  have am:=ah.lenle
  refine Ak (p:=Aw va k 1) (.inr Z) ag B6 Z (AU a3 al) Ac (Ap 165 [] [] [ag] Z Z SW Ac (EV _ _ _ (ah.ext g1 a3) (by exact hlr _)) ?_)
  rintro e5 w5 ⟨a8,rfl,a5,a4⟩
  refine⟨_,rfl,a5,?_⟩
  have an:=a5.size
  have ao:=a3.trans a5
  have a0:=a2.ext (o2) a5
  refine Bn (u:=a8) (B:=w2.heap.size) o1 Bi AW Z Z a4 (by first|exact A9 _|omega) Ac fun v6 w6 a9 ax ap=>?_
  have aq:=a9.size
  have aa:=ao.trans a9
  have a1:=a0.ext (o2) a9
  refine Ej o1 (v:=vo) (a:=v6) Bi AW Z Z Z a1 aa.size ap oM a3.size sD (by unfold maxLen;first|omega|assumption|(simp;done)|(simp;omega)) Ac fun v7 w7 F7 ai ar au=>?_
  have av:Ay w w7:=ai.below aa (fun c hc=>Aa (A9 _) (ar c hc).1) aa.size
  have aw:=ai.size
  refine Ae 1 Z (Ad _ [0,0,0] Z (Af 1 Z (AH ((k+1:Nat):Int) Z Z (B7 oM sD) Ac (Ae 1 Z ?_))))
  exact⟨((k+1),v7),_,rfl,⟨rfl,rfl,rfl,trivial⟩,⟨av,(by rw[Cq [] oM];exact au.up o2),sD⟩,by first|omega|(dsimp only;omega)⟩
 ·exact Av false Z Z (A8 af) Ac (Ah (Aj Z (A6 (As (As (An (A0 (Ad _ [0,0] Z (Ae 2 Z (A3 (Ag [2] Z vo Z ⟨vo,rfl,a3,(by have h:=a2.up o2;rwa [List.take_of_length_le oM]at h)⟩)))))))))))
end
section
set_option maxHeartbeats 4000000
set_option maxRecDepth 100000
attribute [local irreducible] LW
theorem If (w:World)(va:Value)(a:List Int)(Fa:List Nat)(vb:Value)(b:List Int)(y:Int)(ha:AR rI 2 w.heap va a Fa)(hna:Fa.Nodup)(hb:∀w',AE Fa w w'→Rd (B3 rI) w'.heap vb b)(_hy:BC y)(hl:a.length≤b.length)(hqa:B8 a=true)(hqb:B8 b=true)(hy:0≤y∧y<1000003) :
  Calls Tryz.prog 174 #[va,vb,.int .i64 y] w (fun e w'=>e=.returned (.tuple #[])∧AE Fa w w'∧AR rI 2 w'.heap va (NZ a b y) Fa):=by
 refine At [va,vb,.int .i64 y] 27 Tryz.func174 Z Z sM ?_
 have a2:AE Fa w w:=AE.refl Fa w
 have hl_va:=ha.lenle
 unfold maxLen at hl_va
 have hl_vb:=(hb _ a2).lenle
 refine A0 (Ad _ [0] Z (Ae 1 Z (A5 ?_)))
 refine AL (S:=Nat) (fun k=>([(6,(.int .i64 ((k:Nat):Int))),(0,va),(1,vb),(2,(.int .i64 y))])) (fun k W=>AE Fa w W∧AR rI 2 W.heap va (Cu k (NZ a b y) a) Fa∧k≤a.length) (fun k=>a.length-k) 0 ⟨rfl,rfl,rfl,rfl,trivial⟩ ⟨a2,(by first|(rw[Ch];exact ha)|(have h:=ha;rw[D4 0 (Hi a b y) (A9 _) oM]at h;unfold NZ;rw[DC Z oM];exact h)),sD⟩ ?_
 clear a2
 rintro k ρ1 w1 ⟨a1,a0,a4⟩
 have a7:w.heap.size≤w1.heap.size:=a1.size
 have hml:=Dm k (NZ a b y) a (Hi a b y)
 have hgb:=Be hqb k
 have hga:=Be hqa k
 refine A0 (A0 (Ad _ [0,0,0,0] Z (Af 2 Z (AJ (v:=va) Bh Z (a0.rd id).isSl Ac ?_))))
 by_cases a5:((k:Nat):Int)<(((Cu k (NZ a b y) a).length:Nat):Int)
 ·refine Av true Z Z (A7 a5) Ac (Ah (Ai Z (A4 (A0 (A5 (B1 _ [0,0,0,0,0,1,0,0,0,0,1,0,0,0,4] mixed (by kernel_rfl) (Af 4 Z (Au (v:=va) k Bh Bx Z Z (a0.rd id).isSl Z sD Ac ?_))))))))
  refine Ak (p:=Aw va k 1) (.inl Z) (.int .i64 ((Cu k (NZ a b y) a).getD k 0)) AI Z ((On a0).getI (k:=k) sD).1 Ac (Af 3 Z ?_)
  refine Au (v:=vb) k Bh Bx Z Z (hb _ a1.drew).isSl Z sD Ac ?_
  refine Ak (p:=Aw vb k 1) (.inl Z) (.int .i64 (b.getD k 0)) AI Z ((hb _ a1.drew).getI sD).1 Ac ?_
  refine AD 76 [] [] [(.int .i64 y),(.int .i64 (b.getD k 0))] Z Z Ny Ac (.int .i64 (md (y*(b.getD k 0)))) (fun wq=>Co wq _ _ _hy ((hb _ a1.drew).getI sD).2) ?_
  refine AD 124 [] [] [(.int .i64 ((Cu k (NZ a b y) a).getD k 0)),(.int .i64 (md (y*(b.getD k 0))))] Z Z aR Ac (.int .i64 (md (((Cu k (NZ a b y) a).getD k 0)-(md (y*(b.getD k 0)))))) (fun wq=>HI wq _ _ ((On a0).getI (k:=k) sD).2 (DO _) (by have h1:=BK (y*b.getD k 0);rw[D4 0 (Hi a b y) (A9 _) oM];omega)) ?_
  refine Au (v:=va) k Bh Bx Z Z (a0.rd id).isSl Z sD Ac ?_
  refine U5 (v:=va) (w:=w1.drew) ID Z Z (DO _) a0 hna sD Ac fun w5 a3 a9 a6=>?_
  replace a3:=a3.of_drew
  have a8:AE Fa w w5:=a1.trans a3
  refine Ah (Ad _ [0,0,0] Z (Af 1 Z (AH ((k+1:Nat):Int) Z Z (B7 oM sD) Ac (Ae 1 Z ?_))))
  exact⟨(k+1),_,rfl,⟨rfl,rfl,rfl,rfl,trivial⟩,⟨a8,(by first|(rw[Ch];exact a6)|(have h:=a6;rw[D4 0 (Hi a b y) (A9 _) oM]at h;unfold NZ;rw[DC Z oM];exact h)),sD⟩,by first|omega|(dsimp only;omega)⟩
 ·exact Av false Z Z (A8 a5) Ac (Ah (Aj Z (A6 (As (As (An (Pt [] Z (.tuple #[]) Z ⟨rfl,a1,(by have h:=a0;rwa [CP (Hi a b y) oM]at h)⟩)))))))
theorem HK (w:World)(va:Value)(a:List Int)(vb:Value)(b:List Int)(ha:Rd (B3 rI) w.heap va a)(hb:Rd (B3 rI) w.heap vb b)  :
  Calls Tryz.prog 51 #[va,vb] w (fun e w'=>e=.returned (.bool (decide (a=b)))∧Ay w w'):=by
 refine At [va,vb] 26 Tryz.func51 Z Z sM ?_
 have a1:Ay w w:=Ay.refl w
 have hl_va:=ha.lenle
 have hl_vb:=hb.lenle
 refine A0 (Ad _ [0] Z (Ae 1 Z (A0 (A0 (Ad _ [0,0,0,0,0] Z (Af 1 Z (AJ (v:=va) Bh Z ha.isSl Ac (Af 1 Z (AJ (v:=vb) Bh Z hb.isSl Ac ?_)))))))))
 by_cases a2:((a.length:Nat):Int)≠((b.length:Nat):Int)
 ·exact AY true Z Z (A7 a2) Ac (Ah (Ai Z (A0 (Ad _ [0] Z (Ae 1 Z (A3 (Aq (Ag [4] Z (.bool false) Z ⟨(AG (A8 (RR oM)).symm),a1⟩))))))))
 ·refine AY false Z Z (A8 a2) Ac (Ah (Aj Z (A4 (A0 (A0 (Ad _ [0] Z (Ae 1 Z (A5 (AL (S:=Nat) (fun k=>([(5,(.int .i64 ((k:Nat):Int))),(0,va),(1,vb)])) (fun k W=>Ay w W∧k≤a.length∧(∀j,j<k→a.getD j 0=b.getD j 0)) (fun k=>a.length-k) 0 ⟨rfl,rfl,rfl,trivial⟩ ⟨a1,sD,(by intro j hj;omega)⟩ ?_)))))))))
  clear a1
  rintro k ρ2 w2 ⟨a0,a3,hq⟩
  have a6:w.heap.size≤w2.heap.size:=a0.size
  refine A0 (A0 (Ad _ [0,0,0,0] Z (Af 2 Z (AJ (v:=va) Bh Z ha.isSl Ac ?_))))
  by_cases a4:((k:Nat):Int)<((a.length:Nat):Int)
  ·refine Av true Z Z (A7 a4) Ac (Ah (Ai Z (A4 (A0 (A5 (A0 (B1 _ [0,0,0,1,0,0,0,1,0] mixed (by kernel_rfl) (Af 2 Z (Au (v:=va) k Bh Bx Z Z ha.isSl Z sD Ac ?_)))))))))
   refine Ak (p:=Aw va k 1) (.inl Z) (.int .i64 (a.getD k 0)) AI Z (AU a0.drew (ha.getI sD).1) Ac (Af 2 Z ?_)
   refine Au (v:=vb) k Bh Bx Z Z hb.isSl Z sD Ac ?_
   refine Ak (p:=Aw vb k 1) (.inl Z) (.int .i64 (b.getD k 0)) AI Z (AU a0.drew (hb.getI sD).1) Ac ?_
   by_cases a5:a.getD k 0≠b.getD k 0
   ·exact AY true Z Z (A7 a5) Ac (Ah (Ai Z (A0 (Ad _ [0] Z (Ae 1 Z (A3 (AK (Aq (Aq (AK (Aq (Ag [4] Z (.bool false) Z ⟨(AG (A8 (PH (d:=0) (k:=k) oM)).symm),a0.drew⟩))))))))))))
   ·refine AY false Z Z (A8 a5) Ac (Ah (Aj Z (A4 (Ad _ [0,0,0] Z (Af 1 Z (AH ((k+1:Nat):Int) Z Z (B7 oM sD) Ac (Ae 1 Z ?_)))))))
    exact⟨(k+1),_,rfl,⟨rfl,rfl,rfl,trivial⟩,⟨a0.drew,sD,(by exact PG hq oM)⟩,by first|omega|(dsimp only;omega)⟩
  ·exact Av false Z Z (A8 a4) Ac (Ah (Aj Z (A6 (As (As (An (A0 (Ad _ [0] Z (Ae 1 Z (A3 (Ag [4] Z (.bool true) Z ⟨(AG (A7 (FT hq oM oM)).symm),a0⟩)))))))))))
theorem EH (w:World)(va:Value)(a:List (List Int))(vb:Value)(b:List (List Int))(ha:Rd (B3 (B3 rI)) w.heap va a)(hb:Rd (B3 (B3 rI)) w.heap vb b)  :
  Calls Tryz.prog 47 #[va,vb] w (fun e w'=>e=.returned (.bool (decide (a=b)))∧Ay w w'):=by
 refine At [va,vb] 27 Tryz.func47 Z Z sM ?_
 have a2:Ay w w:=Ay.refl w
 have hl_va:=ha.lenle
 have hl_vb:=hb.lenle
 refine A0 (Ad _ [0] Z (Ae 1 Z (A0 (A0 (Ad _ [0,0,0,0,0] Z (Af 1 Z (AJ (v:=va) Bi Z ha.isSl Ac (Af 1 Z (AJ (v:=vb) Bi Z hb.isSl Ac ?_)))))))))
 by_cases a3:((a.length:Nat):Int)≠((b.length:Nat):Int)
 ·exact AY true Z Z (A7 a3) Ac (Ah (Ai Z (A0 (Ad _ [0] Z (Ae 1 Z (A3 (Aq (Ag [4] Z (.bool false) Z ⟨(AG (A8 (RR oM)).symm),a2⟩))))))))
 ·refine AY false Z Z (A8 a3) Ac (Ah (Aj Z (A4 (A0 (A0 (Ad _ [0] Z (Ae 1 Z (A5 (AL (S:=Nat) (fun k=>([(5,(.int .i64 ((k:Nat):Int))),(0,va),(1,vb)])) (fun k W=>Ay w W∧k≤a.length∧(∀j,j<k→a.getD j []=b.getD j [])) (fun k=>a.length-k) 0 ⟨rfl,rfl,rfl,trivial⟩ ⟨a2,sD,(by intro j hj;omega)⟩ ?_)))))))))
  clear a2
  rintro k ρ2 w2 ⟨a0,a4,hq⟩
  have ac:w.heap.size≤w2.heap.size:=a0.size
  refine A0 (A0 (Ad _ [0,0,0,0] Z (Af 2 Z (AJ (v:=va) Bi Z ha.isSl Ac ?_))))
  by_cases a5:((k:Nat):Int)<((a.length:Nat):Int)
  ·refine Av true Z Z (A7 a5) Ac (Ah (Ai Z (A4 (A0 (A5 (A0 (B1 _ [0,0,0,1,0,0,0,1,3,0] mixed (by kernel_rfl) (Af 2 Z (Au (v:=va) k Bi AW Z Z ha.isSl Z sD Ac ?_)))))))))
   obtain⟨a6,ad,a7⟩:=ha.get (k:=k) [] sD
   have ae:=a7.lenle
   refine Ak (p:=Aw va k 1) (.inl Z) a6 B6 Z (AU a0.drew ad) Ac (Af 2 Z (Au (v:=vb) k Bi AW Z Z hb.isSl Z sD Ac ?_))
   obtain⟨a8,af,a9⟩:=hb.get (k:=k) [] sD
   have ag:=a9.lenle
   refine Ak (p:=Aw vb k 1) (.inl Z) a8 B6 Z (AU a0.drew af) Ac (Ap 51 [] [] [a6,a8] Z Z fZ Ac (HK _ _ _ _ _ (a7.ext g1 a0.drew) (a9.ext g1 a0.drew)) ?_)
   rintro e6 w6 ⟨rfl,a1⟩
   refine⟨_,rfl,a1,?_⟩
   replace a1:=a1.of_drew
   have ah:=a1.size
   have aa:=a0.trans a1
   refine Bp (!(decide ((a.getD k [])=(b.getD k [])))) Z Z Ac (Ah ?_)
   cases ab:(!(decide ((a.getD k [])=(b.getD k []))))
   ·refine Aj (by first|rfl|(show Value.bool _=_;rw[ab])) (A4 (Ad _ [0,0,0] Z (Af 1 Z (AH ((k+1:Nat):Int) Z Z (B7 oM sD) Ac (Ae 1 Z ?_)))))
    exact⟨(k+1),_,rfl,⟨rfl,rfl,rfl,trivial⟩,⟨aa,sD,(by exact PG hq (by simpa using ‹(!decide (a.getD k []=b.getD k []))=false›))⟩,by first|omega|(dsimp only;omega)⟩
   ·exact Ai (by first|rfl|(show Value.bool _=_;rw[ab])) (A0 (Ad _ [0] Z (Ae 1 Z (A3 (AK (Aq (Aq (AK (Aq (Ag [4] Z (.bool false) Z ⟨(AG (A8 (PH (d:=[]) (k:=k) (by simpa using ‹(!decide (a.getD k []=b.getD k []))=true›))).symm),aa⟩))))))))))
  ·exact Av false Z Z (A8 a5) Ac (Ah (Aj Z (A6 (As (As (An (A0 (Ad _ [0] Z (Ae 1 Z (A3 (Ag [4] Z (.bool true) Z ⟨(AG (A7 (FT hq oM oM)).symm),a0⟩)))))))))))
theorem E2 (w:World)(va:Value)(a:List Int)(ha:Rd (B3 rI) w.heap va a)(hla:a.length≤1000000000000) :
  Calls Tryz.prog 49 #[va] w (fun e w'=>∃v0:Value,e=.returned (v0)∧Ay w w'∧Fr (AR rI 2) w.heap.size w'.heap.size w'.heap v0 a):=by
 refine At [va] 22 Tryz.func49 Z Z sM ?_
 have a4:Ay w w:=Ay.refl w
 have hl_va:=ha.lenle
 refine A0 (Ad _ [0] Z (Ae 1 Z (A0 (Ad _ [0,0,3,0] Z (Af 1 Z (AJ (v:=va) Bh Z ha.isSl Ac (EA (n:=a.length) Bh Bx Z Z Z sD Ac fun v1 w1 a2 aa a5=>?_)))))))
 have a3:=a2.size
 have a6:=a4.trans a2
 refine Ae 1 Z (A0 (A0 (Ad _ [0] Z (Ae 1 Z (A5 (AL (S:=Nat) (fun k=>([(4,(.int .i64 ((k:Nat):Int))),(0,va),(3,v1)])) (fun k W=>Ay w W∧Fr (AR rI 2) w.heap.size W.heap.size W.heap v1 (Cu k a (List.replicate a.length 0))∧k≤a.length) (fun k=>a.length-k) 0 ⟨rfl,rfl,rfl,trivial⟩ ⟨a6,(by rw[Ch];exact a5.up o1),sD⟩ ?_))))))
 clear a4 a5 aa a2 a3 a6
 rintro k ρ2 w2 ⟨a1,a0,a7⟩
 have ab:w.heap.size≤w2.heap.size:=a1.size
 have hml:=Dm k a (List.replicate a.length 0) sM
 rw[List.length_replicate]at hml
 refine A0 (A0 (Ad _ [0,0,0,0] Z (Af 2 Z (AJ (v:=va) Bh Z ha.isSl Ac ?_))))
 by_cases a8:((k:Nat):Int)<((a.length:Nat):Int)
 ·refine Av true Z Z (A7 a8) Ac (Ah (Ai Z (A4 (A0 (A5 (Ad _ [0,0,0,0,0,2,0,4] Z (Af 4 Z (Au (v:=va) k Bh Bx Z Z ha.isSl Z sD Ac ?_))))))))
  refine Ak (p:=Aw va k 1) (.inr Z) (.int .i64 (a.getD k 0)) AI Z (AU a1 (ha.getI sD).1) Ac ?_
  refine Au (v:=v1) k Bh Bx Z Z a0.isSl Z sD Ac ?_
  refine EB (v:=v1) (w:=w2) ID Z Z (ha.getI sD).2 a0 sD Ac fun w4 F4 a9 ag ac ad=>?_
  have ae:Ay w w4:=a9.below a1 (fun c hc=>Aa (A9 _) (ac c hc).1) a1.size
  have af:=a9.size
  refine Ah (Ad _ [0,0,0] Z (Af 1 Z (AH ((k+1:Nat):Int) Z Z (B7 oM sD) Ac (Ae 1 Z ?_))))
  exact⟨(k+1),_,rfl,⟨rfl,rfl,rfl,trivial⟩,⟨ae,(by rw[← Ip 0 sM (by simp;omega)];exact ad.up o1),sD⟩,by first|omega|(dsimp only;omega)⟩
 ·exact Av false Z Z (A8 a8) Ac (Ah (Aj Z (A6 (As (As (An (A0 (Ad _ [0,0] Z (Ae 2 Z (A3 (Ag [2] Z v1 Z ⟨v1,rfl,a1,(by have h:=a0.up o1;rwa [CP sM (by simp;omega)]at h)⟩)))))))))))
end
section
set_option maxHeartbeats 4000000
set_option maxRecDepth 100000
attribute [local irreducible] LW
theorem Gu (w:World)(va:Value)(a:List Int)(Fa:List Nat)(k:Int)(ha:AR rI 2 w.heap va a Fa)(hna:Fa.Nodup)(_hk:BC k)(hk:0≤k∧k+(a.length:Int)≤4611686018427387904) :
  Calls Tryz.prog 53 #[va,.int .i64 k] w (fun e w'=>e=.returned (.int .i64 (k+((a.length:Nat):Int)))∧AE Fa w w'∧AR rI 2 w'.heap va (up a.length k) Fa):=by
 refine At [va,.int .i64 k] 19 Tryz.func53 Z Z sM ?_
 have a2:AE Fa w w:=AE.refl Fa w
 have hl_va:=ha.lenle
 unfold maxLen at hl_va
 refine A0 (Ad _ [0] Z (Ae 1 Z (A0 (A0 (Ad _ [0] Z (Ae 1 Z (A5 ?_)))))))
 refine AL (S:=Nat×Int) (fun⟨j,l⟩=>([(1,(.int .i64 l)),(5,(.int .i64 ((j:Nat):Int))),(0,va)])) (fun⟨j,l⟩ W=>AE Fa w W∧AR rI 2 W.heap va (Cu j (up a.length k) a) Fa∧j≤a.length∧l=k+((j:Nat):Int)) (fun⟨j,l⟩=>a.length-j) (0,k) ⟨rfl,rfl,rfl,trivial⟩ ⟨a2,(by first|(rw[Ch];exact ha)|(have h:=ha;rw[hl]at h;unfold up;rw[DC Z oM];exact h)),sD,oM⟩ ?_
 clear a2
 rintro⟨j,l⟩ ρ1 w1 ⟨a1,a0,a3,hl⟩
 have a6:w.heap.size≤w1.heap.size:=a1.size
 have hml:=Dm j (up a.length k) a (QF _ _)
 refine A0 (A0 (Ad _ [0,0,0,0] Z (Af 2 Z (AJ (v:=va) Bh Z (a0.rd id).isSl Ac ?_))))
 by_cases a4:((j:Nat):Int)<(((Cu j (up a.length k) a).length:Nat):Int)
 ·refine Av true Z Z (A7 a4) Ac (Ah (Ai Z (A4 (A0 (A5 (A0 (Ad _ [0,0,0,0,4] Z (Af 3 Z (Au (v:=va) j Bh Bx Z Z (a0.rd id).isSl Z sD Ac ?_)))))))))
  refine U5 (v:=va) (w:=w1) ID Z Z oM a0 hna sD Ac fun w3 a7 a9 a5=>?_
  have a8:AE Fa w w3:=a1.trans a7
  refine Ah (Ad _ [0,0,0] Z (Af 1 Z (AH (l+((1:Nat):Int)) Z Z (DX sD sD) Ac (Ae 1 Z ?_))))
  refine Ad _ [0,0,0] Z (Af 1 Z (AH ((j+1:Nat):Int) Z Z (B7 oM sD) Ac (Ae 1 Z ?_)))
  exact⟨((j+1),(l+((1:Nat):Int))),_,rfl,⟨rfl,rfl,rfl,trivial⟩,⟨a8,(by first|(rw[Ch];exact a5)|(have h:=a5;rw[hl]at h;unfold up;rw[DC Z oM];exact h)),sD,oM⟩,by first|omega|(dsimp only;omega)⟩
 ·exact Av false Z Z (A8 a4) Ac (Ah (Aj Z (A6 (As (As (An (A0 (Ad _ [0,0] Z (Ae 2 Z (A3 (Ag [4] Z (.int .i64 l) Z ⟨(AS (by rw[hl,show j=a.length from by omega])),a1,(by have h:=a0;rwa [CP (QF _ _) oM]at h)⟩)))))))))))
theorem Kg (w:World)(va:Value)(a:List Int)(k:Int)(ha:Rd (B3 rI) w.heap va a)(_hk:BC k)(hk:0≤k∧k+(a.length:Int)≤4611686018427387904)(heq:∀i,i<a.length→a.getD i 0=k+((i:Nat):Int)) :
  Calls Tryz.prog 135 #[va,.int .i64 k] w (fun e w'=>e=.returned (.int .i64 (k+((a.length:Nat):Int)))∧Ay w w'):=by
 refine At [va,.int .i64 k] 21 Tryz.func135 Z Z sM ?_
 have a1:Ay w w:=Ay.refl w
 have hl_va:=ha.lenle
 refine A0 (Ad _ [0] Z (Ae 1 Z (A0 (A0 (Ad _ [0] Z (Ae 1 Z (A5 (AL (S:=Nat×Int) (fun⟨j,l⟩=>([(1,(.int .i64 l)),(5,(.int .i64 ((j:Nat):Int))),(0,va)])) (fun⟨j,l⟩ W=>Ay w W∧j≤a.length∧l=k+((j:Nat):Int)) (fun⟨j,l⟩=>a.length-j) (0,k) ⟨rfl,rfl,rfl,trivial⟩ ⟨a1,sD,oM⟩ ?_))))))))
 clear a1
 rintro⟨j,l⟩ ρ1 w1 ⟨a0,a2,hl⟩
 have a5:w.heap.size≤w1.heap.size:=a0.size
 refine A0 (A0 (Ad _ [0,0,0,0] Z (Af 2 Z (AJ (v:=va) Bh Z ha.isSl Ac ?_))))
 by_cases a3:((j:Nat):Int)<((a.length:Nat):Int)
 ·refine Av true Z Z (A7 a3) Ac (Ah (Ai Z (A4 (A0 (A5 (A0 (A0 (Ad _ [0,0,0,2,0,0] Z (Af 2 Z (Au (v:=va) j Bh Bx Z Z ha.isSl Z sD Ac ?_))))))))))
  refine Ak (p:=Aw va j 1) (.inr Z) (.int .i64 (a.getD j 0)) AI Z (AU a0 (ha.getI sD).1) Ac (Af 1 Z ?_)
  by_cases a4:a.getD j 0≠l
  ·exact absurd (by rw[heq j oM];omega) a4
  ·refine AY false Z Z (A8 a4) Ac (Ah (Aj Z (A4 (Ad _ [0,0,0] Z (Af 1 Z ?_)))))
   refine AH (l+((1:Nat):Int)) Z Z (DX sD sD) Ac (Ae 1 Z (Ad _ [0,0,0] Z (Af 1 Z ?_)))
   refine AH ((j+1:Nat):Int) Z Z (B7 oM sD) Ac (Ae 1 Z ?_)
   exact⟨((j+1),(l+((1:Nat):Int))),_,rfl,⟨rfl,rfl,rfl,trivial⟩,⟨a0,sD,oM⟩,by first|omega|(dsimp only;omega)⟩
 ·exact Av false Z Z (A8 a3) Ac (Ah (Aj Z (A6 (As (As (An (A0 (Ad _ [0,0] Z (Ae 2 Z (A3 (Ag [4] Z (.int .i64 l) Z ⟨(AS (by rw[hl,show j=a.length from by omega])),a0⟩)))))))))))
theorem Ji (w:World)(va:Value)(a:List (List Int))(Fa:List Nat)(k:Int)(ha:AR (AR rI 2) 27 w.heap va a Fa)(hna:Fa.Nodup)(_hk:BC k)(hk:0≤k∧k+(Jc a a.length:Int)≤4611686018427387904) :
  Calls Tryz.prog 54 #[va,.int .i64 k] w (fun e w'=>e=.returned (.int .i64 (k+((Jc a a.length:Nat):Int)))∧AE Fa w w'∧AR (AR rI 2) 27 w'.heap va (Lf a k) Fa):=by
 refine At [va,.int .i64 k] 19 Tryz.func54 Z Z sM ?_
 have a2:AE Fa w w:=AE.refl Fa w
 have hl_va:=ha.lenle
 unfold maxLen at hl_va
 refine A0 (Ad _ [0] Z (Ae 1 Z (A0 (A0 (Ad _ [0] Z (Ae 1 Z (A5 ?_)))))))
 refine AL (S:=Nat×Int) (fun⟨j,l⟩=>([(1,(.int .i64 l)),(5,(.int .i64 ((j:Nat):Int))),(0,va)])) (fun⟨j,l⟩ W=>AE Fa w W∧AR (AR rI 2) 27 W.heap va (Cu j (Lf a k) a) Fa∧j≤a.length∧l=k+((Jc a j:Nat):Int)) (fun⟨j,l⟩=>a.length-j) (0,k) ⟨rfl,rfl,rfl,trivial⟩ ⟨a2,(by first|(rw[Ch];exact ha)|(have h:=ha;rw[hl,D4 [] (Ek _ _) (A9 _) oM]at h;unfold Lf;rw[DC Z oM];exact h)),sD,(by rw[Me];omega)⟩ ?_
 clear a2
 rintro⟨j,l⟩ ρ1 w1 ⟨a1,a0,a3,hl⟩
 have a9:w.heap.size≤w1.heap.size:=a1.size
 have hml:=Dm j (Lf a k) a (Ek _ _)
 have hmo:=JL a (j+1)
 have hmi:=JL a j
 refine A0 (A0 (Ad _ [0,0,0,0] Z (Af 2 Z (AJ (v:=va) Bi Z (GM a0).isSl Ac ?_))))
 by_cases a4:((j:Nat):Int)<(((Cu j (Lf a k) a).length:Nat):Int)
 ·refine Av true Z Z (A7 a4) Ac (Ah (Ai Z (A4 (A0 (A5 (Ad _ [0,0,0,2,0,4,0] Z (Af 2 Z (Au (v:=va) j Bi AW Z Z (GM a0).isSl Z sD Ac ?_))))))))
  obtain⟨a5,a6,aa⟩:=(GM a0).get (k:=j) [] sD
  have ab:=aa.lenle
  refine Ak (p:=Aw va j 1) (.inr Z) a5 B6 Z a6 Ac (Af 1 Z ?_)
  obtain⟨G4,ac,ad,ae,af⟩:=Yd o1 [] a0 hna sD a6
  refine B2 53 [] [] [a5,(.int .i64 l)] Z Z gA Ac (Gu _ _ _ _ _ ac ad oM (by rw[D4 [] (Ek _ _) (A9 _) oM];have:=FU (a:=a) (i:=j) oM;omega)) ?_
  rintro e4 w4 ⟨rfl,a7,ag⟩
  refine⟨_,rfl,?_⟩
  have ah:AE Fa w w4:=a1.trans (a7.sub ae)
  have a8:=af a7 ag
  refine Ae 1 Z (Ad _ [0,0,0] Z (Af 1 Z (AH ((j+1:Nat):Int) Z Z (B7 oM sD) Ac (Ae 1 Z ?_))))
  exact⟨((j+1),(l+((((Cu j (Lf a k) a).getD j []).length:Nat):Int))),_,rfl,⟨rfl,rfl,rfl,trivial⟩,⟨ah,(by first|(rw[Ch];exact a8)|(have h:=a8;rw[hl,D4 [] (Ek _ _) (A9 _) oM]at h;unfold Lf;rw[DC Z oM];exact h)),sD,(by rw[FU oM,D4 [] (Ek _ _) (A9 _) oM];omega)⟩,by first|omega|(dsimp only;omega)⟩
 ·exact Av false Z Z (A8 a4) Ac (Ah (Aj Z (A6 (As (As (An (A0 (Ad _ [0,0] Z (Ae 2 Z (A3 (Ag [4] Z (.int .i64 l) Z ⟨(AS (by rw[hl,show j=a.length from by omega])),a1,(by have h:=a0;rwa [CP (Ek _ _) oM]at h)⟩)))))))))))
theorem G7 (w:World)(va:Value)(a:List (List Int))(k:Int)(ha:Rd (B3 (B3 rI)) w.heap va a)(_hk:BC k)(hk:0≤k∧k+(Jc a a.length:Int)≤4611686018427387904)(heq:∀i,i<a.length→a.getD i []=up (a.getD i []).length (k+((Jc a i:Nat):Int))) :
  Calls Tryz.prog 55 #[va,.int .i64 k] w (fun e w'=>e=.returned (.int .i64 (k+((Jc a a.length:Nat):Int)))∧Ay w w'):=by
 refine At [va,.int .i64 k] 21 Tryz.func55 Z Z sM ?_
 have a2:Ay w w:=Ay.refl w
 have hl_va:=ha.lenle
 refine A0 (Ad _ [0] Z (Ae 1 Z (A0 (A0 (Ad _ [0] Z (Ae 1 Z (A5 (AL (S:=Nat×Int) (fun⟨j,l⟩=>([(1,(.int .i64 l)),(5,(.int .i64 ((j:Nat):Int))),(0,va)])) (fun⟨j,l⟩ W=>Ay w W∧j≤a.length∧l=k+((Jc a j:Nat):Int)) (fun⟨j,l⟩=>a.length-j) (0,k) ⟨rfl,rfl,rfl,trivial⟩ ⟨a2,sD,(by rw[Me];omega)⟩ ?_))))))))
 clear a2
 rintro⟨j,l⟩ ρ1 w1 ⟨a0,a3,hl⟩
 have a8:w.heap.size≤w1.heap.size:=a0.size
 have hmo:=JL a (j+1)
 have hmi:=JL a j
 refine A0 (A0 (Ad _ [0,0,0,0] Z (Af 2 Z (AJ (v:=va) Bi Z ha.isSl Ac ?_))))
 by_cases a4:((j:Nat):Int)<((a.length:Nat):Int)
 ·refine Av true Z Z (A7 a4) Ac (Ah (Ai Z (A4 (A0 (A5 (A0 (Ad _ [0,0,0,2,0,3,0] Z (Af 2 Z (Au (v:=va) j Bi AW Z Z ha.isSl Z sD Ac ?_)))))))))
  obtain⟨a5,a9,a6⟩:=ha.get (k:=j) [] sD
  have aa:=a6.lenle
  refine Ak (p:=Aw va j 1) (.inr Z) a5 B6 Z (AU a0 a9) Ac (Af 1 Z (Ap 135 [] [] [a5,(.int .i64 l)] Z Z gZ Ac (Kg _ _ _ _ (a6.ext g1 a0) oM (by have:=FU (a:=a) (i:=j) oM;omega) (by intro i hi;rw[heq j oM,cQ oM,hl])) ?_))
  rintro e4 w4 ⟨rfl,a1⟩
  refine⟨_,rfl,a1,?_⟩
  have ab:=a1.size
  have ac:=a0.trans a1
  refine Ae 1 Z (A0 (Ad _ [0,0] Z (Af 1 Z ?_)))
  by_cases a7:l+(((a.getD j []).length:Nat):Int)<((0:Nat):Int)
  ·exact absurd a7 oM
  ·refine Av false Z Z (A8 a7) Ac (Ah (Aj Z (A4 (Ad _ [0,0,0] Z (Af 1 Z (AH ((j+1:Nat):Int) Z Z (B7 oM sD) Ac (Ae 1 Z ?_)))))))
   exact⟨((j+1),(l+(((a.getD j []).length:Nat):Int))),_,rfl,⟨rfl,rfl,rfl,trivial⟩,⟨ac,sD,(by rw[FU oM];omega)⟩,by first|omega|(dsimp only;omega)⟩
 ·exact Av false Z Z (A8 a4) Ac (Ah (Aj Z (A6 (As (As (An (A0 (Ad _ [0,0] Z (Ae 2 Z (A3 (Ag [4] Z (.int .i64 l) Z ⟨(AS (by rw[hl,show j=a.length from by omega])),a0⟩)))))))))))
theorem Ft (w:World)(va:Value)(a:List Int)(y:Int)(ha:Rd (B3 rI) w.heap va a)(_hy:BC y)(hla:a.length≤1000000000000) :
  Calls Tryz.prog 176 #[va,.int .i64 y] w (fun e w'=>∃v0:Value,e=.returned (v0)∧Ay w w'∧Fr (AR rI 2) w.heap.size w'.heap.size w'.heap v0 (scl a y)):=by
 refine At [va,.int .i64 y] 24 Tryz.func176 Z Z sM ?_
 have a8:Ay w w:=Ay.refl w
 have hl_va:=ha.lenle
 refine A0 (Ad _ [0] Z (Ae 1 Z (A0 (Ad _ [3,0] Z (BH (rI) AO Bh Bx Ac fun v1 w1 a3 af a9=>?_)))))
 have a4:=a3.size
 have aa:=a8.trans a3
 refine Ae 1 Z (A0 (A0 (Ad _ [0] Z (Ae 1 Z (A5 ?_)))))
 refine AL (S:=Nat×Value) (fun⟨k,vo⟩=>([(5,vo),(6,(.int .i64 ((k:Nat):Int))),(0,va),(1,(.int .i64 y))])) (fun⟨k,vo⟩ W=>Ay w W∧Fr (AR rI 2) w.heap.size W.heap.size W.heap vo ((a.take k).map (fun x=>md (x*y)))∧k≤a.length) (fun⟨k,vo⟩=>a.length-k) (0,v1) ⟨rfl,rfl,rfl,rfl,trivial⟩ ⟨aa,a9.up o1,sD⟩ ?_
 clear a8 a9 af a3 a4 aa
 rintro⟨k,vo⟩ ρ2 w2 ⟨a2,a1,ab⟩
 have ag:w.heap.size≤w2.heap.size:=a2.size
 refine A0 (A0 (Ad _ [0,0,0,0] Z (Af 2 Z (AJ (v:=va) Bh Z ha.isSl Ac ?_))))
 by_cases ac:((k:Nat):Int)<((a.length:Nat):Int)
 ·refine Av true Z Z (A7 ac) Ac (Ah (Ai Z (A4 (A0 (A5 (Ad _ [0,0,0,0,2,0,0,3,4,0] Z (Af 3 Z (Au (v:=va) k Bh Bx Z Z ha.isSl Z sD Ac ?_))))))))
  refine Ak (p:=Aw va k 1) (.inr Z) (.int .i64 (a.getD k 0)) AI Z (AU a2 (ha.getI sD).1) Ac (Af 1 Z ?_)
  refine AD 76 [] [] [(.int .i64 (a.getD k 0)),(.int .i64 y)] Z Z Ny Ac (.int .i64 (md ((a.getD k 0)*y))) (fun wq=>Co wq _ _ (ha.getI sD).2 _hy) (Bn (u:=(.int .i64 (md ((a.getD k 0)*y)))) (B:=w2.heap.size) AO Bh Bx Z Z (Nt w2.heap.size w2.heap.size _ _ (DO _)) (A9 _) Ac fun v5 w5 a5 al ad=>?_)
  have ah:=a5.size
  have a6:=a2.trans a5
  have a0:=a1.ext (o1) a5
  refine Gv (v:=vo) (a:=v5) Bh Bx Z Z Z a0 a6.size ad.rd1 sD (by unfold maxLen;first|omega|assumption|(simp;done)|(simp;omega)) Ac fun v6 w6 F6 a7 ae ai=>?_
  have aj:Ay w w6:=a7.below a6 (fun c hc=>Aa (A9 _) (ae c hc).1) a6.size
  have ak:=a7.size
  have am:=ad.chg (o1) a7 (fun c hc=>by have:=ae c hc;omega)
  refine Ae 1 Z (Ad _ [0,0,0] Z (Af 1 Z (AH ((k+1:Nat):Int) Z Z (B7 oM sD) Ac (Ae 1 Z ?_))))
  exact⟨((k+1),v6),_,rfl,⟨rfl,rfl,rfl,rfl,trivial⟩,⟨aj,(by rw[Dc 0 oM];exact ai.up o1),sD⟩,by first|omega|(dsimp only;omega)⟩
 ·exact Av false Z Z (A8 ac) Ac (Ah (Aj Z (A6 (As (As (An (A0 (Ad _ [0,0] Z (Ae 2 Z (A3 (Ag [4] Z vo Z ⟨vo,rfl,a2,(by have h:=a1.up o1;rwa [List.take_of_length_le oM]at h)⟩)))))))))))
theorem Kh (w:World)(va:Value)(a:List Int)(n:Int)(ha:Rd (B3 rI) w.heap va a)(_hn:BC n)  :
  Calls Tryz.prog 119 #[va,.int .i64 n] w (fun e w'=>e=.returned (.bool (decide (((a.length:Nat):Int)=n) && B8 a))∧Ay w w'):=by
 refine At [va,.int .i64 n] 13 Tryz.func119 Z Z sM ?_
 have a0:Ay w w:=Ay.refl w
 have hl_va:=ha.lenle
 refine A0 (Ad _ [0] Z (Ae 1 Z (A0 (Ad _ [0,0,0,0,0,0,3,0,0] Z (Af 1 Z (AJ (v:=va) Bh Z ha.isSl Ac (Af 1 Z ?_)))))))
 by_cases a2:((a.length:Nat):Int)=n
 ·refine AA true Z Z (A7 a2) Ac (Af 2 Z (Ap 144 [] [] [va] Z Z iD (Al (e:=9) Z Z Z) (Kf _ _ _ (ha.ext g1 a0)) ?_))
  rintro e2 w2 ⟨rfl,a1⟩
  refine⟨_,rfl,a1,?_⟩
  have a3:=a1.size
  have a4:=a0.trans a1
  exact Ae 2 Z (A3 (Ag [4] Z (.bool (B8 a)) Z ⟨(AG (by simp[*])),a4⟩))
 ·exact AA false Z Z (A8 a2) Ac (Ae 5 Z (A3 (Ag [4] Z (.bool false) Z ⟨(AG (by simp[*])),a0⟩)))
theorem MV (w:World)(n:Int)(_hn:BC n)  :
  Calls Tryz.prog 127 #[.int .i64 n] w (fun e w'=>e=.returned (.bool (decide (((0:Nat):Int)≤n) && decide (n≤((12:Nat):Int))))∧Ay w w'):=by
 refine At [.int .i64 n] 5 Tryz.func127 Z Z sM ?_
 have a0:Ay w w:=Ay.refl w
 exact A0 (Ad _ [0] Z (Ae 1 Z (A0 (Ad _ [0,0,0] Z (Af 1 Z (AD 72 [] [] [(.int .i64 n),(.int .i64 ((0:Nat):Int)),(.int .i64 ((12:Nat):Int))] Z Z KO Ac (.bool (decide (((0:Nat):Int)≤n) && decide (n≤((12:Nat):Int)))) (fun wq=>BD wq _ _ _ _hn oM oM) (Ae 1 Z (A3 (Ag [2] Z (.bool (decide (((0:Nat):Int)≤n) && decide (n≤((12:Nat):Int)))) Z ⟨rfl,a0⟩)))))))))
theorem Lk (w:World)(va:Value)(a:List Int)(o:Int)(ha:Rd (B3 rI) w.heap va a)(_ho:BC o)(hla:a.length≤1000000000000)(ho:0≤o∧o≤12) :
  Calls Tryz.prog 130 #[va,.int .i64 o] w (fun e w'=>∃v0:Value,e=.returned (v0)∧Ay w w'∧Fr (AR (AR rI 2) 27) w.heap.size w'.heap.size w'.heap v0 (a.map (fun x=>(List.replicate (o.toNat+1) 0).set 0 x))):=by
 refine At [va,.int .i64 o] 28 Tryz.func130 Z Z sM ?_
 have aa:Ay w w:=Ay.refl w
 have hl_va:=ha.lenle
 refine A0 (Ad _ [0] Z (Ae 1 Z (A0 (Ad _ [3,0] Z (BH (AR rI 2) o1 Bi AW Ac fun v1 w1 a4 aj ab=>?_)))))
 have a5:=a4.size
 have ac:=aa.trans a4
 refine Ae 1 Z (A0 (A0 (Ad _ [0,0,0] Z (Af 1 Z (AJ (v:=va) Bh Z ha.isSl Ac (Ae 1 Z (A5 ?_)))))))
 refine AL (S:=Nat×Value) (fun⟨k,vo⟩=>([(5,vo),(12,(.int .i64 ((k:Nat):Int))),(1,(.int .i64 o)),(10,va),(11,(.int .i64 ((a.length:Nat):Int)))])) (fun⟨k,vo⟩ W=>Ay w W∧Fr (AR (AR rI 2) 27) w.heap.size W.heap.size W.heap vo ((a.take k).map (fun x=>(List.replicate (o.toNat+1) 0).set 0 x))∧k≤a.length) (fun⟨k,vo⟩=>a.length-k) (0,v1) ⟨rfl,rfl,rfl,rfl,rfl,trivial⟩ ⟨ac,ab.up o2,sD⟩ ?_
 clear aa ab aj a4 a5 ac
 rintro⟨k,vo⟩ ρ2 w2 ⟨a2,a1,ad⟩
 have ak:w.heap.size≤w2.heap.size:=a2.size
 refine A0 (Ad _ [0] Z ?_)
 by_cases ae:((k:Nat):Int)<((a.length:Nat):Int)
 ·refine Av true Z Z (A7 ae) Ac (Ah (A0 (Ai Z (A4 (A0 (A5 (A0 (Ad _ [0,2,0] Z (Au (v:=va) k Bh Bx Z Z ha.isSl Z sD Ac ?_)))))))))
  refine Ak (p:=Aw va k 1) (.inr Z) (.int .i64 (a.getD k 0)) AI Z (AU a2 (ha.getI sD).1) Ac (Ae 1 Z (A0 (Ad _ [0,0,3,0] Z (Af 1 Z (AH ((o.toNat+1:Nat):Int) Z Z (B7 oM oM) Ac ?_)))))
  refine EA (n:=o.toNat+1) Bh Bx Z Z Z sD Ac fun v4 w4 a6 ay af=>?_
  have al:=a6.size
  have ag:=a2.trans a6
  have a0:=a1.ext (o2) a6
  refine Ae 1 Z (A0 (Ad _ [0,0,0,4] Z (Af 2 Z (Au (v:=v4) 0 Bh Bx Z Z af.isSl Z sD Ac ?_))))
  refine EB (v:=v4) (w:=w4) ID Z Z (ha.getI sD).2 af sD Ac fun w5 F5 a7 az ah am=>?_
  have an:Ay w w5:=a7.below ag (fun c hc=>Aa a2.size (ah c hc).1) ag.size
  have ao:=a7.size
  have ap:=a0.chg (o2) a7 (fun c hc=>by have:=ah c hc;omega)
  refine Ah (Ad _ [0,0,3,4,0] Z (Af 2 Z (Bn (u:=v4) (B:=w2.heap.size) o1 Bi AW Z Z am (by first|exact A9 _|omega) Ac fun v7 w7 a8 b0 aq=>?_)))
  have ar:=a8.size
  have a9:=an.trans a8
  have a3:=ap.ext (o2) a8
  refine Ej o1 (v:=vo) (a:=v7) Bi AW Z Z Z a3 a9.size aq oM a2.size sD (by unfold maxLen;first|omega|assumption|(simp;done)|(simp;omega)) Ac fun v8 w8 F8 ai au av=>?_
  have aw:Ay w w8:=ai.below a9 (fun c hc=>Aa (A9 _) (au c hc).1) a9.size
  have ax:=ai.size
  refine Ae 1 Z (Ad _ [0,0] Z (AH ((k+1:Nat):Int) Z Z (B7 oM sD) Ac (Ae 1 Z ?_)))
  exact⟨((k+1),v8),_,rfl,⟨rfl,rfl,rfl,rfl,rfl,trivial⟩,⟨aw,(by rw[Dc 0 oM];exact av.up o2),sD⟩,by first|omega|(dsimp only;omega)⟩
 ·exact Av false Z Z (A8 ae) Ac (Ah (A0 (Aj Z (A6 (As (As (An (A0 (Ad _ [0,0] Z (Ae 2 Z (A3 (Ag [4] Z vo Z ⟨vo,rfl,a2,(by have h:=a1.up o2;rwa [List.take_of_length_le oM]at h)⟩))))))))))))
end
section
set_option maxHeartbeats 4000000
set_option maxRecDepth 100000
attribute [local irreducible] LW
theorem DW (w:World)(va:Value)(a:List Int)(y:Int)(ha:Rd (B3 rI) w.heap va a)(_hy:BC y)(hla:a.length≤1000000000000)(hqa:B8 a=true)(hy:0≤y∧y<1000003) :
  Calls Tryz.prog 103 #[va,.int .i64 y] w (fun e w'=>∃v0:Value,e=.returned (v0)∧Ay w w'∧Fr (AR rI 2) w.heap.size w'.heap.size w'.heap v0 (CK a y)):=by
 refine At [va,.int .i64 y] 27 Tryz.func103 Z Z sM ?_
 have a4:Ay w w:=Ay.refl w
 have hl_va:=ha.lenle
 refine A0 (Ad _ [0] Z (Ae 1 Z (A0 (Ad _ [0,0,3,0] Z (Af 1 Z (AJ (v:=va) Bh Z ha.isSl Ac (EA (n:=a.length) Bh Bx Z Z Z sD Ac fun v1 w1 a2 aa a5=>?_)))))))
 have a3:=a2.size
 have a6:=a4.trans a2
 refine Ae 1 Z (A0 (A0 (Ad _ [0,0,0] Z (Af 1 Z (AJ (v:=va) Bh Z ha.isSl Ac (Ae 1 Z (A5 ?_)))))))
 refine AL (S:=Nat) (fun k=>([(12,(.int .i64 ((k:Nat):Int))),(0,va),(1,(.int .i64 y)),(5,v1),(11,(.int .i64 ((a.length:Nat):Int)))])) (fun k W=>Ay w W∧Fr (AR rI 2) w.heap.size W.heap.size W.heap v1 (Cu k (CK a y) (List.replicate a.length 0))∧k≤a.length) (fun k=>a.length-k) 0 ⟨rfl,rfl,rfl,rfl,rfl,trivial⟩ ⟨a6,(by rw[Ch];exact a5.up o1),sD⟩ ?_
 clear a4 a5 aa a2 a3 a6
 rintro k ρ2 w2 ⟨a1,a0,a7⟩
 have ab:w.heap.size≤w2.heap.size:=a1.size
 have hml:=Dm k (CK a y) (List.replicate a.length 0) sM
 rw[List.length_replicate]at hml
 have hga:=Be hqa k
 refine A0 (Ad _ [0] Z ?_)
 by_cases a8:((k:Nat):Int)<((a.length:Nat):Int)
 ·refine Av true Z Z (A7 a8) Ac (Ah (A0 (Ai Z (A4 (A0 (A5 (A0 (Ad _ [0,0] Z (Ae 2 Z (Ad _ [0,0,0,0,0,2,0,0,0,0,4] Z (Af 4 Z (Au (v:=va) k Bh Bx Z Z ha.isSl Z sD Ac ?_))))))))))))
  refine Ak (p:=Aw va k 1) (.inr Z) (.int .i64 (a.getD k 0)) AI Z (AU a1 (ha.getI sD).1) Ac (Af 1 Z (IU (wr ((a.getD k 0)*y)) Z Z Z Ac (Ew (md (a.getD k 0*y)) Z Z (by decide) (PF hga hy) Ac ?_)))
  refine Au (v:=v1) k Bh Bx Z Z a0.isSl Z sD Ac (EB (v:=v1) (w:=w2) ID Z Z (DO _) a0 sD Ac fun w4 F4 a9 ag ac ad=>?_)
  have ae:Ay w w4:=a9.below a1 (fun c hc=>Aa (A9 _) (ac c hc).1) a1.size
  have af:=a9.size
  refine Ah (Ad _ [0,0] Z (AH ((k+1:Nat):Int) Z Z (B7 oM sD) Ac (Ae 1 Z ?_)))
  exact⟨(k+1),_,rfl,⟨rfl,rfl,rfl,rfl,rfl,trivial⟩,⟨ae,(by unfold CK;rw[DC sM oM];exact ad.up o1),sD⟩,by first|omega|(dsimp only;omega)⟩
 ·exact Av false Z Z (A8 a8) Ac (Ah (A0 (Aj Z (A6 (As (As (An (A0 (Ad _ [0,0] Z (Ae 2 Z (A3 (Ag [4] Z v1 Z ⟨v1,rfl,a1,(by have h:=a0.up o1;rwa [CP sM (by simp;omega)]at h)⟩))))))))))))
theorem FL (w:World)(va:Value)(a:List Int)(vb:Value)(b:List Int)(ha:Rd (B3 rI) w.heap va a)(hb:Rd (B3 rI) w.heap vb b)(hla:a.length≤1000000000000)(hl:a.length≤b.length)(hqa:B8 a=true)(hqb:B8 b=true) :
  Calls Tryz.prog 102 #[va,vb] w (fun e w'=>∃v0:Value,e=.returned (v0)∧Ay w w'∧Fr (AR rI 2) w.heap.size w'.heap.size w'.heap v0 (Em a b)):=by
 refine At [va,vb] 30 Tryz.func102 Z Z sM ?_
 have a5:Ay w w:=Ay.refl w
 have hl_va:=ha.lenle
 have hl_vb:=hb.lenle
 refine A0 (Ad _ [0] Z (Ae 1 Z (A0 (Ad _ [0,0,3,0] Z (Af 1 Z (AJ (v:=va) Bh Z ha.isSl Ac (EA (n:=a.length) Bh Bx Z Z Z sD Ac fun v1 w1 a3 aa a6=>?_)))))))
 have a4:=a3.size
 have a7:=a5.trans a3
 refine Ae 1 Z (A0 (A0 (Ad _ [0,0,0] Z (Af 1 Z (AJ (v:=va) Bh Z ha.isSl Ac (Ae 1 Z (A5 ?_)))))))
 refine AL (S:=Nat) (fun k=>([(12,(.int .i64 ((k:Nat):Int))),(0,va),(1,vb),(5,v1),(11,(.int .i64 ((a.length:Nat):Int)))])) (fun k W=>Ay w W∧Fr (AR rI 2) w.heap.size W.heap.size W.heap v1 (Cu k (Em a b) (List.replicate a.length 0))∧k≤a.length) (fun k=>a.length-k) 0 ⟨rfl,rfl,rfl,rfl,rfl,trivial⟩ ⟨a7,(by rw[Ch];exact a6.up o1),sD⟩ ?_
 clear a5 a6 aa a3 a4 a7
 rintro k ρ2 w2 ⟨a1,a0,a8⟩
 have ab:w.heap.size≤w2.heap.size:=a1.size
 have hml:=Dm k (Em a b) (List.replicate a.length 0) sM
 rw[List.length_replicate]at hml
 have hga:=Be hqa k
 have hgb:=Be hqb k
 refine A0 (Ad _ [0] Z ?_)
 by_cases a9:((k:Nat):Int)<((a.length:Nat):Int)
 ·refine Av true Z Z (A7 a9) Ac (Ah (A0 (Ai Z (A4 (A0 (A5 (A0 (Ad _ [0,0] Z (Ae 2 Z (B1 _ [0,0,0,0,0,1,0,0,0,1,0,0,0,4] mixed (by kernel_rfl) (Af 4 Z (Au (v:=va) k Bh Bx Z Z ha.isSl Z sD Ac ?_))))))))))))
  refine Ak (p:=Aw va k 1) (.inl Z) (.int .i64 (a.getD k 0)) AI Z (AU a1.drew (ha.getI sD).1) Ac (Af 2 Z ?_)
  refine Au (v:=vb) k Bh Bx Z Z hb.isSl Z sD Ac ?_
  refine Ak (p:=Aw vb k 1) (.inl Z) (.int .i64 (b.getD k 0)) AI Z (AU a1.drew (hb.getI sD).1) Ac (AH (wr ((a.getD k 0)+(b.getD k 0))) Z Z Z Ac (Ew (md (a.getD k 0+b.getD k 0)) Z Z (by decide) (Yl hga hgb) Ac ?_))
  refine Au (v:=v1) k Bh Bx Z Z a0.isSl Z sD Ac (EB (v:=v1) (w:=w2.drew) ID Z Z (DO _) a0 sD Ac fun w4 F4 a2 ag ac ad=>?_)
  replace a2:=a2.of_drew
  have ae:Ay w w4:=a2.below a1 (fun c hc=>Aa (A9 _) (ac c hc).1) a1.size
  have af:=a2.size
  refine Ah (Ad _ [0,0] Z (AH ((k+1:Nat):Int) Z Z (B7 oM sD) Ac (Ae 1 Z ?_)))
  exact⟨(k+1),_,rfl,⟨rfl,rfl,rfl,rfl,rfl,trivial⟩,⟨ae,(by unfold Em;rw[DC sM oM];exact ad.up o1),sD⟩,by first|omega|(dsimp only;omega)⟩
 ·exact Av false Z Z (A8 a9) Ac (Ah (A0 (Aj Z (A6 (As (As (An (A0 (Ad _ [0,0] Z (Ae 2 Z (A3 (Ag [4] Z v1 Z ⟨v1,rfl,a1,(by have h:=a0.up o1;rwa [CP sM (by simp;omega)]at h)⟩))))))))))))
theorem Ga (w:World)(va:Value)(a:List Int)(vb:Value)(b:List Int)(ha:Rd (B3 rI) w.heap va a)(hb:Rd (B3 rI) w.heap vb b)(hla:a.length≤1000000000000)(hlb:b.length≤1000000000000)(hl:a.length≤b.length)(hqa:B8 a=true)(hqb:B8 b=true) :
  Calls Tryz.prog 132 #[va,vb] w (fun e w'=>∃v0:Value,e=.returned (v0)∧Ay w w'∧Fr (AR rI 2) w.heap.size w'.heap.size w'.heap v0 (Dt a b)):=by
 refine At [va,vb] 9 Tryz.func132 Z Z sM ?_
 have a7:Ay w w:=Ay.refl w
 have hl_va:=ha.lenle
 have hl_vb:=hb.lenle
 refine A0 (Ad _ [0] Z (Ae 1 Z (A0 (Ad _ [0,0,3,3,0] Z (Af 2 Z (Ap 103 [] [] [vb,(.int .i64 ((1000002:Nat):Int))] Z Z Qm Ac (DW _ _ _ _ (hb.ext g1 a7) oM (by exact hlb) (by exact hqb) oM) ?_))))))
 rintro e1 w1 ⟨a3,rfl,a4,a0⟩
 refine⟨_,rfl,a4,?_⟩
 have a8:=a4.size
 have a5:=a7.trans a4
 refine Ap 102 [] [] [va,a3] Z Z SU Ac (FL _ _ _ _ _ (ha.ext g1 a5) a0.rd1 (by exact hla) (by simp;omega) (by exact hqa) (by exact Fe _ _)) ?_
 rintro e2 w2 ⟨a1,rfl,a6,a2⟩
 refine⟨_,rfl,a6,?_⟩
 have a9:=a6.size
 have aa:=a5.trans a6
 exact Ae 1 Z (A3 (Ag [4] Z a1 Z ⟨a1,rfl,aa,(by rw[← UL hl];exact(a2.up o1).low a5.size)⟩))
theorem Dx (w:World)(va:Value)(a:List Int)(vb:Value)(b:List Int)(ha:Rd (B3 rI) w.heap va a)(hb:Rd (B3 rI) w.heap vb b)(hla:a.length≤1000000000000)(hl:a.length≤b.length)(hqa:B8 a=true)(hqb:B8 b=true) :
  Calls Tryz.prog 151 #[va,vb] w (fun e w'=>∃v0:Value,e=.returned (v0)∧Ay w w'∧Fr (AR rI 2) w.heap.size w'.heap.size w'.heap v0 (C5 a b)):=by
 refine At [va,vb] 43 Tryz.func151 Z Z sM ?_
 have a8:Ay w w:=Ay.refl w
 have hl_va:=ha.lenle
 have hl_vb:=hb.lenle
 refine A0 (Ad _ [0] Z (Ae 1 Z (A0 (Ad _ [0,0,3,0] Z (Af 1 Z (AJ (v:=va) Bh Z ha.isSl Ac (EA (n:=a.length) Bh Bx Z Z Z sD Ac fun v1 w1 a5 af a9=>?_)))))))
 have a6:=a5.size
 have aa:=a8.trans a5
 refine Ae 1 Z (A0 (A0 (Ad _ [0,0,0] Z (Af 1 Z (AJ (v:=va) Bh Z ha.isSl Ac (Ae 1 Z (A5 ?_)))))))
 refine AL (S:=Nat) (fun k=>([(13,(.int .i64 ((k:Nat):Int))),(0,va),(1,vb),(5,v1),(12,(.int .i64 ((a.length:Nat):Int)))])) (fun k W=>Ay w W∧Fr (AR rI 2) w.heap.size W.heap.size W.heap v1 (Cu k (C5 a b) (List.replicate a.length 0))∧k≤a.length) (fun k=>a.length-k) 0 ⟨rfl,rfl,rfl,rfl,rfl,trivial⟩ ⟨aa,(by rw[Ch];exact a9.up o1),sD⟩ ?_
 clear a8 a9 af a5 a6 aa
 rintro k ρ2 w2 ⟨a3,a1,ab⟩
 have a7:w.heap.size≤w2.heap.size:=a3.size
 have hml:=Dm k (C5 a b) (List.replicate a.length 0) sM
 rw[List.length_replicate]at hml
 have hga:=Be hqa k
 refine A0 (Ad _ [0] Z ?_)
 by_cases ac:((k:Nat):Int)<((a.length:Nat):Int)
 ·refine Av true Z Z (A7 ac) Ac (Ah (A0 (Ai Z (A4 (A0 (A5 (A0 (Ad _ [0,0] Z (Ae 2 Z (A0 (Ad _ [0] Z (Ae 1 Z (A5 ?_)))))))))))))
  refine AL (S:=Nat) (fun i=>([(7,(.int .i64 ((i:Nat):Int))),(0,va),(1,vb),(5,v1),(6,(.int .i64 ((k:Nat):Int))),(12,(.int .i64 ((a.length:Nat):Int))),(13,(.int .i64 ((k:Nat):Int)))])) (fun i W=>Ay w W∧Fr (AR rI 2) w.heap.size W.heap.size W.heap v1 ((Cu k (C5 a b) (List.replicate a.length 0)).set k (Nw a b k i))∧i≤k+1) (fun i=>k+1-i) 0 ⟨rfl,rfl,rfl,rfl,rfl,rfl,rfl,trivial⟩ ⟨a3,(by have h:=a1.up o1;rw[← UM (T:=C5 a b) sM oM]at h;exact h),sD⟩ ?_
  clear a1 a3 a7
  rintro i ρ4 w4 ⟨a2,a0,ad⟩
  have ag:w.heap.size≤w4.heap.size:=a2.size
  have hms:((Cu k (C5 a b) (List.replicate a.length 0)).set k (Nw a b k i)).length=a.length:=by rw[List.length_set];exact hml
  refine A0 (A0 (Ad _ [0,0,0] Z (Af 2 Z ?_)))
  by_cases ae:((i:Nat):Int)≤((k:Nat):Int)
  ·refine Ei true Z Z (A7 ae) Ac (Ah (Ai Z (A4 (A0 (A5 (B1 _ [0,0,0,0,0,1,0,0,0,1,0,0,0,0,0,1,0,0,0,0,4] mixed (by kernel_rfl) (Af 4 Z (Au (v:=v1) k Bh Bx Z Z a0.isSl Z sD Ac ?_))))))))
   refine Ak (p:=Aw v1 k 1) (.inl Z) (.int .i64 (((Cu k (C5 a b) (List.replicate a.length 0)).set k (Nw a b k i)).getD k 0)) AI Z (a0.rd1.getI sD).1 Ac (Af 2 Z ?_)
   refine Au (v:=va) i Bh Bx Z Z ha.isSl Z sD Ac ?_
   refine Ak (p:=Aw va i 1) (.inl Z) (.int .i64 (a.getD i 0)) AI Z (AU a2.drew (ha.getI sD).1) Ac (Af 3 Z (Cj ((k-i:Nat):Int) Z Z (B7 oM oM) Ac ?_))
   refine Au (v:=vb) (k-i) Bh Bx Z Z hb.isSl Z sD Ac ?_
   refine Ak (p:=Aw vb (k-i) 1) (.inl Z) (.int .i64 (b.getD (k-i) 0)) AI Z (AU a2.drew (hb.getI sD).1) Ac (IU (wr ((a.getD i 0)*(b.getD (k-i) 0))) Z Z Z Ac (AH (wr ((((Cu k (C5 a b) (List.replicate a.length 0)).set k (Nw a b k i)).getD k 0)+(wr ((a.getD i 0)*(b.getD (k-i) 0))))) Z Z Z Ac ?_))
   refine Ew (md (Nw a b k i+a.getD i 0*b.getD (k-i) 0)) Z Z (by decide) (by rw[BA _ _ _ _ _ oM,if_pos rfl];exact cO (RZ _ _ _ _) (Be hqa _) (Be hqb _)) Ac (Au (v:=v1) k Bh Bx Z Z a0.isSl Z sD Ac ?_)
   refine EB (v:=v1) (w:=w4.drew) ID Z Z (DO _) a0 sD Ac fun w6 F6 a4 al ah ai=>?_
   replace a4:=a4.of_drew
   have aj:Ay w w6:=a4.below a2 (fun c hc=>Aa (A9 _) (ah c hc).1) a2.size
   have ak:=a4.size
   refine Ah (Ad _ [0,0,0] Z (Af 1 Z (AH ((i+1:Nat):Int) Z Z (B7 oM sD) Ac (Ae 1 Z ?_))))
   exact⟨(i+1),_,rfl,⟨rfl,rfl,rfl,rfl,rfl,rfl,rfl,trivial⟩,⟨aj,(by have h:=ai.up o1;rw[List.set_set]at h;exact h),sD⟩,by first|omega|(dsimp only;omega)⟩
  ·refine Ei false Z Z (A8 ae) Ac (Ah (Aj Z (A6 (As (As (An (Ad _ [0,0] Z (AH ((k+1:Nat):Int) Z Z (B7 oM sD) Ac (Ae 1 Z ?_)))))))))
   exact⟨(k+1),_,rfl,⟨rfl,rfl,rfl,rfl,rfl,trivial⟩,⟨a2,(by have h:=a0.up o1;rw[show i=k+1 from by omega]at h;unfold C5;rw[DC sM oM];exact h),sD⟩,by first|omega|(dsimp only;omega)⟩
 ·exact Av false Z Z (A8 ac) Ac (Ah (A0 (Aj Z (A6 (As (As (An (A0 (Ad _ [0,0] Z (Ae 2 Z (A3 (Ag [4] Z v1 Z ⟨v1,rfl,a3,(by have h:=a1.up o1;rwa [CP sM (by simp;omega)]at h)⟩))))))))))))
theorem Fu (w:World)(va:Value)(a:List Int)(vb:Value)(b:List Int)(ha:Rd (B3 rI) w.heap va a)(hb:Rd (B3 rI) w.heap vb b)(hla:a.length≤1000000000000)(hl:a.length≤b.length)(h1:0<b.length)(hqa:B8 a=true)(hqb:B8 b=true) :
  Calls Tryz.prog 185 #[va,vb] w (fun e w'=>∃v0:Value,e=.returned (v0)∧Ay w w'∧Fr (AR rI 2) w.heap.size w'.heap.size w'.heap v0 (BT a b)):=by
 refine At [va,vb] 53 Tryz.func185 Z Z sM ?_
 have a5:Ay w w:=Ay.refl w
 have hl_va:=ha.lenle
 have hl_vb:=hb.lenle
 refine A0 (Ad _ [0] Z (Ae 1 Z (A0 (B1 _ [0,0,3,0,0,1,0,0,0] mixed (by kernel_rfl) (Af 1 Z (AJ (v:=va) Bh Z ha.isSl Ac (EA (n:=a.length) Bh Bx Z Z Z sD Ac fun v1 w1 a2 ae a7=>?_)))))))
 replace a2:=a2.of_drew
 have a6:=a2.size
 have a8:=a5.trans a2
 refine Af 1 Z (Au (v:=vb) 0 Bh Bx Z Z hb.isSl Z sD Ac ?_)
 refine Ak (p:=Aw vb 0 1) (.inl Z) (.int .i64 (b.getD 0 0)) AI Z (AU a5.drew (hb.getI sD).1) Ac ?_
 refine AD 104 [] [] [(.int .i64 (b.getD 0 0))] Z Z aO Ac (.int .i64 (inv (b.getD 0 0))) (fun wq=>Ie wq _ (hb.getI sD).2) (Ae 2 Z (A0 (A0 (Ad _ [0,0,0] Z (Af 1 Z (AJ (v:=va) Bh Z ha.isSl Ac (Ae 1 Z (A5 ?_))))))))
 refine AL (S:=Nat) (fun k=>([(19,(.int .i64 ((k:Nat):Int))),(0,va),(1,vb),(5,v1),(6,(.int .i64 (inv (b.getD 0 0)))),(18,(.int .i64 ((a.length:Nat):Int)))])) (fun k W=>Ay w W∧Fr (AR rI 2) w.heap.size W.heap.size W.heap v1 (Cu k (BT a b) (List.replicate a.length 0))∧k≤a.length) (fun k=>a.length-k) 0 ⟨rfl,rfl,rfl,rfl,rfl,rfl,trivial⟩ ⟨a8,(by rw[Ch];exact a7.up o1),sD⟩ ?_
 clear a5 a7 ae a2 a6 a8
 rintro k ρ3 w3 ⟨a4,a1,a9⟩
 have af:w.heap.size≤w3.heap.size:=a4.size
 have hml:=Dm k (BT a b) (List.replicate a.length 0) sM
 rw[List.length_replicate]at hml
 have hga:=Be hqa k
 refine A0 (Ad _ [0] Z ?_)
 by_cases aa:((k:Nat):Int)<((a.length:Nat):Int)
 ·refine Av true Z Z (A7 aa) Ac (Ah (A0 (Ai Z (A4 (A0 (A5 (A0 (Ad _ [0,0] Z (Ae 2 Z (A0 (Ad _ [0,0,0,2,0] Z (Af 2 Z (Au (v:=va) k Bh Bx Z Z ha.isSl Z sD Ac ?_)))))))))))))
  refine Ak (p:=Aw va k 1) (.inr Z) (.int .i64 (a.getD k 0)) AI Z (AU a4 (ha.getI sD).1) Ac (Ae 1 Z (A0 (A0 (Ad _ [0] Z (Ae 1 Z (A5 ?_))))))
  refine AL (S:=Nat×Int) (fun⟨i,t⟩=>([(8,(.int .i64 t)),(9,(.int .i64 ((i:Nat):Int))),(0,va),(1,vb),(5,v1),(6,(.int .i64 (inv (b.getD 0 0)))),(7,(.int .i64 ((k:Nat):Int))),(18,(.int .i64 ((a.length:Nat):Int))),(19,(.int .i64 ((k:Nat):Int)))])) (fun⟨i,t⟩ W=>Ay w W∧Fr (AR rI 2) w.heap.size w3.heap.size W.heap v1 (Cu k (BT a b) (List.replicate a.length 0))∧i≤k∧t=Ox a b (BT a b) k i∧(0≤t∧t<1000003)) (fun⟨i,t⟩=>k-i) (0,(a.getD k 0)) ⟨rfl,rfl,rfl,rfl,rfl,rfl,rfl,rfl,rfl,trivial⟩ ⟨a4,a1,sD,(by rfl),(by exact Be hqa k)⟩ ?_
  clear a1
  rintro⟨i,t⟩ ρ5 w5 ⟨a3,a0,ab,ht,htr⟩
  have ag:w.heap.size≤w5.heap.size:=a3.size
  refine A0 (A0 (Ad _ [0,0,0] Z (Af 2 Z ?_)))
  by_cases ac:((i:Nat):Int)<((k:Nat):Int)
  ·refine Av true Z Z (A7 ac) Ac (Ah (Ai Z (A4 (A0 (A5 (B1 _ [0,0,0,0,1,0,0,0,0,0,1,0,0,0] mixed (by kernel_rfl) (Af 3 Z (Au (v:=v1) i Bh Bx Z Z a0.isSl Z sD Ac ?_))))))))
   refine Ak (p:=Aw v1 i 1) (.inl Z) (.int .i64 ((Cu k (BT a b) (List.replicate a.length 0)).getD i 0)) AI Z (a0.rd1.getI sD).1 Ac (Af 3 Z (Cj ((k-i:Nat):Int) Z Z (B7 oM oM) Ac ?_))
   refine Au (v:=vb) (k-i) Bh Bx Z Z hb.isSl Z sD Ac ?_
   refine Ak (p:=Aw vb (k-i) 1) (.inl Z) (.int .i64 (b.getD (k-i) 0)) AI Z (AU a3.drew (hb.getI sD).1) Ac (IU (wr (((Cu k (BT a b) (List.replicate a.length 0)).getD i 0)*(b.getD (k-i) 0))) Z Z Z Ac ?_)
   refine AD 78 [] [] [(.int .i64 t),(.int .i64 (wr (((Cu k (BT a b) (List.replicate a.length 0)).getD i 0)*(b.getD (k-i) 0))))] Z Z eX Ac (.int .i64 (md (t-(wr (((Cu k (BT a b) (List.replicate a.length 0)).getD i 0)*(b.getD (k-i) 0)))))) (fun wq=>Hv wq _ _ oM (Om _)) (Ae 1 Z (Ad _ [0,0,0] Z (Af 1 Z (AH ((i+1:Nat):Int) Z Z (B7 oM sD) Ac (Ae 1 Z ?_)))))
   exact⟨((i+1),(md (t-(wr (((Cu k (BT a b) (List.replicate a.length 0)).getD i 0)*(b.getD (k-i) 0)))))),_,rfl,⟨rfl,rfl,rfl,rfl,rfl,rfl,rfl,rfl,rfl,trivial⟩,⟨a3.drew,a0,sD,(by rw[ht,QE 0 oM (by simp;omega)];exact UN (El a b) hqb),(by exact BK _)⟩,by first|omega|(dsimp only;omega)⟩
  ·refine Av false Z Z (A8 ac) Ac (Ah (Aj Z (A6 (As (As (An (Ad _ [0,0,0,0,0,0,0,4] Z (Af 4 Z (IU (wr (t*(inv (b.getD 0 0)))) Z Z Z Ac (Ew (md (t*inv (b.getD 0 0))) Z Z (by decide) (PF htr (Yh _)) Ac (Au (v:=v1) k Bh Bx Z Z a0.isSl Z sD Ac ?_)))))))))))
   refine EB (v:=v1) (w:=w5) ID Z Z (DO _) a0 sD Ac fun w8 F8 ad al ah ai=>?_
   have aj:Ay w w8:=ad.below a3 (fun c hc=>Aa (A9 _) (ah c hc).1) a3.size
   have ak:=ad.size
   refine Ah (Ad _ [0,0] Z (AH ((k+1:Nat):Int) Z Z (B7 oM sD) Ac (Ae 1 Z ?_)))
   exact⟨(k+1),_,rfl,⟨rfl,rfl,rfl,rfl,rfl,rfl,trivial⟩,⟨aj,(by have h:=ai.up o1;rw[ht,show i=k from by omega]at h;rw[← Yk oM sM];exact h),sD⟩,by first|omega|(dsimp only;omega)⟩
 ·exact Av false Z Z (A8 aa) Ac (Ah (A0 (Aj Z (A6 (As (As (An (A0 (Ad _ [0,0] Z (Ae 2 Z (A3 (Ag [4] Z v1 Z ⟨v1,rfl,a4,(by have h:=a1.up o1;rwa [CP sM (by simp;omega)]at h)⟩))))))))))))
theorem MW (w:World)(va:Value)(a:List Int)(ha:Rd (B3 rI) w.heap va a)(hla:a.length≤1000000000000) :
  Calls Tryz.prog 98 #[va] w (fun e w'=>∃v0:Value,e=.returned (v0)∧Ay w w'∧Fr (AR (AR rI 2) 27) w.heap.size w'.heap.size w'.heap v0 (C7 a)):=by
 refine At [va] 20 Tryz.func98 Z Z sM ?_
 have a9:Ay w w:=Ay.refl w
 have hl_va:=ha.lenle
 refine A0 (Ad _ [0] Z (Ae 1 Z (A0 (Ad _ [3,0] Z (BH (AR rI 2) o1 Bi AW Ac fun v1 w1 a4 af aa=>?_)))))
 have a5:=a4.size
 have ab:=a9.trans a4
 refine Ae 1 Z (A0 (A0 (Ad _ [0,0,0] Z (Af 1 Z (AJ (v:=va) Bh Z ha.isSl Ac (Ae 1 Z (A5 ?_)))))))
 refine AL (S:=Nat×Value) (fun⟨k,vo⟩=>([(3,vo),(9,(.int .i64 ((k:Nat):Int))),(7,va),(8,(.int .i64 ((a.length:Nat):Int)))])) (fun⟨k,vo⟩ W=>Ay w W∧Fr (AR (AR rI 2) 27) w.heap.size W.heap.size W.heap vo ((a.take k).map (fun x=>[x]))∧k≤a.length) (fun⟨k,vo⟩=>a.length-k) (0,v1) ⟨rfl,rfl,rfl,rfl,trivial⟩ ⟨ab,aa.up o2,sD⟩ ?_
 clear a9 aa af a4 a5 ab
 rintro⟨k,vo⟩ ρ2 w2 ⟨a3,a2,ac⟩
 have ag:w.heap.size≤w2.heap.size:=a3.size
 refine A0 (Ad _ [0] Z ?_)
 by_cases ad:((k:Nat):Int)<((a.length:Nat):Int)
 ·refine Av true Z Z (A7 ad) Ac (Ah (A0 (Ai Z (A4 (A0 (A5 (A0 (Ad _ [0,2,0] Z (Au (v:=va) k Bh Bx Z Z ha.isSl Z sD Ac ?_)))))))))
  refine Ak (p:=Aw va k 1) (.inr Z) (.int .i64 (a.getD k 0)) AI Z (AU a3 (ha.getI sD).1) Ac (Ae 1 Z (Ad _ [0,0,3,3,4,0] Z (Af 2 Z ?_)))
  refine Bn (u:=(.int .i64 (a.getD k 0))) (B:=w2.heap.size) AO Bh Bx Z Z (Nt w2.heap.size w2.heap.size _ _ (ha.getI sD).2) (A9 _) Ac fun v4 w4 a6 aq ah=>?_
  have ai:=a6.size
  have aj:=a3.trans a6
  have a0:=a2.ext (o2) a6
  refine Bn (u:=v4) (B:=w2.heap.size) o1 Bi AW Z Z ah (by first|exact A9 _|omega) Ac fun v5 w5 a7 ar ak=>?_
  have al:=a7.size
  have a8:=aj.trans a7
  have a1:=a0.ext (o2) a7
  refine Ej o1 (v:=vo) (a:=v5) Bi AW Z Z Z a1 a8.size ak oM a3.size sD (by unfold maxLen;first|omega|assumption|(simp;done)|(simp;omega)) Ac fun v6 w6 F6 ae am an=>?_
  have ao:Ay w w6:=ae.below a8 (fun c hc=>Aa (A9 _) (am c hc).1) a8.size
  have ap:=ae.size
  refine Ae 1 Z (Ad _ [0,0] Z (AH ((k+1:Nat):Int) Z Z (B7 oM sD) Ac (Ae 1 Z ?_)))
  exact⟨((k+1),v6),_,rfl,⟨rfl,rfl,rfl,rfl,trivial⟩,⟨ao,(by rw[Dc 0 oM];exact an.up o2),sD⟩,by first|omega|(dsimp only;omega)⟩
 ·exact Av false Z Z (A8 ad) Ac (Ah (A0 (Aj Z (A6 (As (As (An (A0 (Ad _ [0,0] Z (Ae 2 Z (A3 (Ag [2] Z vo Z ⟨vo,rfl,a3,(by have h:=a2.up o2;rwa [List.take_of_length_le oM]at h)⟩))))))))))))
theorem J2 (w:World)(va:Value)(a:List (List Int))(ha:Rd (B3 (B3 rI)) w.heap va a)(hla:a.length≤1000000000000)(h1:∀k,k<a.length→0<(a.getD k []).length) :
  Calls Tryz.prog 99 #[va] w (fun e w'=>∃v0:Value,e=.returned (v0)∧Ay w w'∧Fr (AR rI 2) w.heap.size w'.heap.size w'.heap v0 (a.map (fun s=>s.getD 0 0))):=by
 refine At [va] 21 Tryz.func99 Z Z sM ?_
 have aa:Ay w w:=Ay.refl w
 have hl_va:=ha.lenle
 refine A0 (Ad _ [0] Z (Ae 1 Z (A0 (Ad _ [3,0] Z (BH (rI) AO Bh Bx Ac fun v1 w1 a4 ah ab=>?_)))))
 have a5:=a4.size
 have ac:=aa.trans a4
 refine Ae 1 Z (A0 (A0 (Ad _ [0,0,0] Z (Af 1 Z (AJ (v:=va) Bi Z ha.isSl Ac (Ae 1 Z (A5 ?_)))))))
 refine AL (S:=Nat×Value) (fun⟨k,vo⟩=>([(3,vo),(9,(.int .i64 ((k:Nat):Int))),(7,va),(8,(.int .i64 ((a.length:Nat):Int)))])) (fun⟨k,vo⟩ W=>Ay w W∧Fr (AR rI 2) w.heap.size W.heap.size W.heap vo ((a.take k).map (fun s=>s.getD 0 0))∧k≤a.length) (fun⟨k,vo⟩=>a.length-k) (0,v1) ⟨rfl,rfl,rfl,rfl,trivial⟩ ⟨ac,ab.up o1,sD⟩ ?_
 clear aa ab ah a4 a5 ac
 rintro⟨k,vo⟩ ρ2 w2 ⟨a2,a1,ad⟩
 have ai:w.heap.size≤w2.heap.size:=a2.size
 refine A0 (Ad _ [0] Z ?_)
 by_cases ae:((k:Nat):Int)<((a.length:Nat):Int)
 ·refine Av true Z Z (A7 ae) Ac (Ah (A0 (Ai Z (A4 (A0 (A5 (A0 (Ad _ [0,2,0] Z (Au (v:=va) k Bi AW Z Z ha.isSl Z sD Ac ?_)))))))))
  obtain⟨a6,aj,a3⟩:=ha.get (k:=k) [] sD
  have ak:=a3.lenle
  refine Ak (p:=Aw va k 1) (.inr Z) a6 B6 Z (AU a2 aj) Ac (Ae 1 Z (Ad _ [0,0,0,2,3,4,0] Z ?_))
  have ap:=h1 k oM
  refine Af 2 Z (Au (v:=a6) 0 Bh Bx Z Z a3.isSl Z sD Ac ?_)
  refine Ak (p:=Aw a6 0 1) (.inr Z) (.int .i64 ((a.getD k []).getD 0 0)) AI Z (AU a2 (a3.getI sD).1) Ac ?_
  refine Bn (u:=(.int .i64 ((a.getD k []).getD 0 0))) (B:=w2.heap.size) AO Bh Bx Z Z (Nt w2.heap.size w2.heap.size _ _ (a3.getI sD).2) (A9 _) Ac fun v5 w5 a7 aq af=>?_
  have al:=a7.size
  have a8:=a2.trans a7
  have a0:=a1.ext (o1) a7
  refine Gv (v:=vo) (a:=v5) Bh Bx Z Z Z a0 a8.size af.rd1 sD (by unfold maxLen;first|omega|assumption|(simp;done)|(simp;omega)) Ac fun v6 w6 F6 a9 ag am=>?_
  have an:Ay w w6:=a9.below a8 (fun c hc=>Aa (A9 _) (ag c hc).1) a8.size
  have ao:=a9.size
  have ar:=af.chg (o1) a9 (fun c hc=>by have:=ag c hc;omega)
  refine Ae 1 Z (Ad _ [0,0] Z (AH ((k+1:Nat):Int) Z Z (B7 oM sD) Ac (Ae 1 Z ?_)))
  exact⟨((k+1),v6),_,rfl,⟨rfl,rfl,rfl,rfl,trivial⟩,⟨an,(by rw[Dc [] oM];exact am.up o1),sD⟩,by first|omega|(dsimp only;omega)⟩
 ·exact Av false Z Z (A8 ae) Ac (Ah (A0 (Aj Z (A6 (As (As (An (A0 (Ad _ [0,0] Z (Ae 2 Z (A3 (Ag [2] Z vo Z ⟨vo,rfl,a2,(by have h:=a1.up o1;rwa [List.take_of_length_le oM]at h)⟩))))))))))))
end
section
set_option maxHeartbeats 4000000
set_option maxRecDepth 100000
attribute [local irreducible] LW
theorem HL (w:World)(dex:Nat)(ve:Value)(ex:Ex)(hex:RX [] dex w.heap ve ex)(hs:ex.size≤1000000000) :
  Calls Tryz.prog 198 #[(.agg #[(.int .i64 ex.kind),(.int .i64 ex.num),(.int .i64 ex.pick),(.int .i64 ex.count),ve])] w (fun e w'=>e=.returned (.int .i64 ((ex.size:Nat):Int))∧Ay w w'):=by
 induction dex using Nat.strongRecOn generalizing w ve ex
 rename_i dex ih
 refine At [(.agg #[(.int .i64 ex.kind),(.int .i64 ex.num),(.int .i64 ex.pick),(.int .i64 ex.count),ve])] 19 Tryz.func198 Z Z sM ?_
 have ab:Ay w w:=Ay.refl w
 have hl_ve:=hex.rn.lenle
 unfold maxLen at hl_ve
 have hsk:=Cb ex
 refine A0 (Ad _ [3,0] Z (Bv (cs:=#[(.int .i64 ex.kind),(.int .i64 ex.num),(.int .i64 ex.pick),(.int .i64 ex.count),ve]) Z Ac fun w1 a2 aj a3=>?_))
 have a4:=a2.size
 have ac:=ab.trans a2
 replace a3:BX w1.heap w.heap.size [(.int .i64 ex.kind),(.int .i64 ex.num),(.int .i64 ex.pick),(.int .i64 ex.count),ve]:=a3
 refine Ae 1 Z (A0 (Ad _ [0] Z (Ae 1 Z (A0 (A0 (Ad _ [0,2,0,0] Z (Ao (p:=(.pointer (some ⟨w.heap.size,0,none⟩))) (b:=w.heap.size) (o:=0) 4 Bo Z Z Ac (Ak (p:=(Az (.pointer (some ⟨w.heap.size,0,none⟩)) 4)) (.inr Z) ve Bq Z (a3.ldp (i:=4) sM) Ac (AJ (v:=ve) DM Z hex.rn.isSl Ac (Ae 1 Z (A5 ?_)))))))))))
 refine AL (S:=Nat×Nat) (fun⟨k,sz⟩=>([(3,(.int .i64 ((sz:Nat):Int))),(9,(.int .i64 ((k:Nat):Int))),(7,ve),(8,(.int .i64 ((ex.kids.length:Nat):Int)))])) (fun⟨k,sz⟩ W=>Ay w W∧k≤ex.kids.length∧sz=1+Ex.sizes (ex.kids.take k)) (fun⟨k,sz⟩=>ex.kids.length-k) (0,1) ⟨rfl,rfl,rfl,rfl,trivial⟩ ⟨ac,sD,(by rw[List.take_zero,Io])⟩ ?_
 clear ab aj a2 a4 ac
 rintro⟨k,sz⟩ ρ2 w2 ⟨a1,ad,hsz⟩
 have ak:w.heap.size≤w2.heap.size:=a1.size
 refine A0 (Ad _ [0] Z ?_)
 by_cases ae:((k:Nat):Int)<((ex.kids.length:Nat):Int)
 ·refine Av true Z Z (A7 ae) Ac (Ah (A0 (Ai Z (A4 (A0 (A5 (A0 (Ad _ [0,2,3,4] Z ?_))))))))
  have hst:=D3 (l:=ex.kids) (k:=k) oM
  have hle:=CN ex.kids (k+1)
  have hdt:=Hh (l:=ex.kids) (k:=k) oM
  have hda:=ED (ex.kids.getD k Ex.zero)
  refine Au (v:=ve) k DM BB Z Z hex.rn.isSl Z sD Ac ?_
  obtain⟨cs4,al,am⟩:=hex.rn.get (AC dex) Ex.zero (k:=k) sD
  obtain⟨dd4,a0,ar,rfl,a5⟩:=RX.of al
  have a6:=a5.rn.lenle
  unfold maxLen at a6
  refine AP (p:=Aw ve k 5) (.inr Z) [(.int .i64 ((ex.kids.getD k Ex.zero).kind)),(.int .i64 ((ex.kids.getD k Ex.zero).num)),(.int .i64 ((ex.kids.getD k Ex.zero).pick)),(.int .i64 ((ex.kids.getD k Ex.zero).count)),a0] BV Z (fun wq9 a7=>am wq9 (AE.of_ext [] (a1.trans a7))) Z Ac (BJ (z:=.agg #[.int .i64 0,.int .i64 0,.int .i64 0,.int .i64 0,.slice none 0 0]) MU Ac fun w5 af au a8=>?_)
  have an:=af.size
  have ag:=a1.trans af
  replace a8:BX w5.heap w2.heap.size [(.int .i64 0),(.int .i64 0),(.int .i64 0),(.int .i64 0),(.slice none 0 0)]:=a8
  refine CU (vs:=[(.int .i64 ((ex.kids.getD k Ex.zero).kind)),(.int .i64 ((ex.kids.getD k Ex.zero).num)),(.int .i64 ((ex.kids.getD k Ex.zero).pick)),(.int .i64 ((ex.kids.getD k Ex.zero).count)),a0]) BV Z Z a5.ones a8 Z Z Ac fun w6 ah av a9=>?_
  replace a9:BX w6.heap w2.heap.size [(.int .i64 ((ex.kids.getD k Ex.zero).kind)),(.int .i64 ((ex.kids.getD k Ex.zero).num)),(.int .i64 ((ex.kids.getD k Ex.zero).pick)),(.int .i64 ((ex.kids.getD k Ex.zero).count)),a0]:=a9
  have ai:Ay w w6:=ah.below ag (fun c hc=>by have:=Ab hc;omega) ag.size
  have ao:=ah.size
  refine Ah (Ad _ [0,2,3,0,0] Z (Af 1 Z (AP (p:=(.pointer (some ⟨w2.heap.size,0,none⟩))) (.inr Z) [(.int .i64 ((ex.kids.getD k Ex.zero).kind)),(.int .i64 ((ex.kids.getD k Ex.zero).num)),(.int .i64 ((ex.kids.getD k Ex.zero).pick)),(.int .i64 ((ex.kids.getD k Ex.zero).count)),a0] BV Z (fun wq9 a7=>LD.of_box (BX.ext (w:=w6) a9 a7)) Z Ac (Ap 198 [] [] [(.agg #[(.int .i64 ((ex.kids.getD k Ex.zero).kind)),(.int .i64 ((ex.kids.getD k Ex.zero).num)),(.int .i64 ((ex.kids.getD k Ex.zero).pick)),(.int .i64 ((ex.kids.getD k Ex.zero).count)),a0])] Z Z Xu Ac (ih dd4 oM _ a0 (ex.kids.getD k Ex.zero) (a5.ext ai) oM) ?_))))
  rintro e7 w7 ⟨rfl,aa⟩
  refine⟨_,rfl,aa,?_⟩
  have ap:=aa.size
  have aq:=ai.trans aa
  refine AH ((sz+(ex.kids.getD k Ex.zero).size:Nat):Int) Z Z (B7 oM oM) Ac (Ae 1 Z (Ad _ [0,0] Z (AH ((k+1:Nat):Int) Z Z (B7 oM sD) Ac (Ae 1 Z ?_))))
  exact⟨((k+1),(sz+(ex.kids.getD k Ex.zero).size)),_,rfl,⟨rfl,rfl,rfl,rfl,trivial⟩,⟨aq,sD,oM⟩,by first|omega|(dsimp only;omega)⟩
 ·exact Av false Z Z (A8 ae) Ac (Ah (A0 (Aj Z (A6 (As (As (An (A0 (Ad _ [0,0] Z (Ae 2 Z (A3 (Ag [2] Z (.int .i64 ((sz:Nat):Int)) Z ⟨(AS (by rw[hsz,Kt oM,hsk])),a1⟩))))))))))))
theorem KP (w:World)(dex:Nat)(ve:Value)(ex:Ex)(hex:RX [] dex w.heap ve ex)(hs:ex.size≤1000000000) :
  Calls Tryz.prog 230 #[(.agg #[(.int .i64 ex.kind),(.int .i64 ex.num),(.int .i64 ex.pick),(.int .i64 ex.count),ve])] w (fun e w'=>e=.returned (.int .i64 ((ex.deep:Nat):Int))∧Ay w w'):=by
 induction dex using Nat.strongRecOn generalizing w ve ex
 rename_i dex ih
 refine At [(.agg #[(.int .i64 ex.kind),(.int .i64 ex.num),(.int .i64 ex.pick),(.int .i64 ex.count),ve])] 20 Tryz.func230 Z Z sM ?_
 have ab:Ay w w:=Ay.refl w
 have hl_ve:=hex.rn.lenle
 unfold maxLen at hl_ve
 have hsk:=Cb ex
 have hdk:=EC ex
 refine A0 (Ad _ [3,0] Z (Bv (cs:=#[(.int .i64 ex.kind),(.int .i64 ex.num),(.int .i64 ex.pick),(.int .i64 ex.count),ve]) Z Ac fun w1 a2 aj a3=>?_))
 have a4:=a2.size
 have ac:=ab.trans a2
 replace a3:BX w1.heap w.heap.size [(.int .i64 ex.kind),(.int .i64 ex.num),(.int .i64 ex.pick),(.int .i64 ex.count),ve]:=a3
 refine Ae 1 Z (A0 (Ad _ [0] Z (Ae 1 Z (A0 (A0 (Ad _ [0,2,0,0] Z (Ao (p:=(.pointer (some ⟨w.heap.size,0,none⟩))) (b:=w.heap.size) (o:=0) 4 Bo Z Z Ac (Ak (p:=(Az (.pointer (some ⟨w.heap.size,0,none⟩)) 4)) (.inr Z) ve Bq Z (a3.ldp (i:=4) sM) Ac (AJ (v:=ve) DM Z hex.rn.isSl Ac (Ae 1 Z (A5 ?_)))))))))))
 refine AL (S:=Nat×Nat) (fun⟨k,sz⟩=>([(3,(.int .i64 ((sz:Nat):Int))),(9,(.int .i64 ((k:Nat):Int))),(7,ve),(8,(.int .i64 ((ex.kids.length:Nat):Int)))])) (fun⟨k,sz⟩ W=>Ay w W∧k≤ex.kids.length∧sz=Ex.deeps (ex.kids.take k)) (fun⟨k,sz⟩=>ex.kids.length-k) (0,0) ⟨rfl,rfl,rfl,rfl,trivial⟩ ⟨ac,sD,(by rw[List.take_zero,NV])⟩ ?_
 clear ab aj a2 a4 ac
 rintro⟨k,sz⟩ ρ2 w2 ⟨a1,ad,hsz⟩
 have ak:w.heap.size≤w2.heap.size:=a1.size
 refine A0 (Ad _ [0] Z ?_)
 by_cases ae:((k:Nat):Int)<((ex.kids.length:Nat):Int)
 ·refine Av true Z Z (A7 ae) Ac (Ah (A0 (Ai Z (A4 (A0 (A5 (A0 (Ad _ [0,2,3,4] Z ?_))))))))
  have hst:=D3 (l:=ex.kids) (k:=k) oM
  have hle:=CN ex.kids (k+1)
  have hdt:=Hh (l:=ex.kids) (k:=k) oM
  have hda:=ED (ex.kids.getD k Ex.zero)
  refine Au (v:=ve) k DM BB Z Z hex.rn.isSl Z sD Ac ?_
  obtain⟨cs4,al,am⟩:=hex.rn.get (AC dex) Ex.zero (k:=k) sD
  obtain⟨dd4,a0,ar,rfl,a5⟩:=RX.of al
  have a6:=a5.rn.lenle
  unfold maxLen at a6
  refine AP (p:=Aw ve k 5) (.inr Z) [(.int .i64 ((ex.kids.getD k Ex.zero).kind)),(.int .i64 ((ex.kids.getD k Ex.zero).num)),(.int .i64 ((ex.kids.getD k Ex.zero).pick)),(.int .i64 ((ex.kids.getD k Ex.zero).count)),a0] BV Z (fun wq9 a7=>am wq9 (AE.of_ext [] (a1.trans a7))) Z Ac (BJ (z:=.agg #[.int .i64 0,.int .i64 0,.int .i64 0,.int .i64 0,.slice none 0 0]) MU Ac fun w5 af au a8=>?_)
  have an:=af.size
  have ag:=a1.trans af
  replace a8:BX w5.heap w2.heap.size [(.int .i64 0),(.int .i64 0),(.int .i64 0),(.int .i64 0),(.slice none 0 0)]:=a8
  refine CU (vs:=[(.int .i64 ((ex.kids.getD k Ex.zero).kind)),(.int .i64 ((ex.kids.getD k Ex.zero).num)),(.int .i64 ((ex.kids.getD k Ex.zero).pick)),(.int .i64 ((ex.kids.getD k Ex.zero).count)),a0]) BV Z Z a5.ones a8 Z Z Ac fun w6 ah av a9=>?_
  replace a9:BX w6.heap w2.heap.size [(.int .i64 ((ex.kids.getD k Ex.zero).kind)),(.int .i64 ((ex.kids.getD k Ex.zero).num)),(.int .i64 ((ex.kids.getD k Ex.zero).pick)),(.int .i64 ((ex.kids.getD k Ex.zero).count)),a0]:=a9
  have ai:Ay w w6:=ah.below ag (fun c hc=>by have:=Ab hc;omega) ag.size
  have ao:=ah.size
  refine Ah (Ad _ [0,2,3,0,0] Z (Af 1 Z (AP (p:=(.pointer (some ⟨w2.heap.size,0,none⟩))) (.inr Z) [(.int .i64 ((ex.kids.getD k Ex.zero).kind)),(.int .i64 ((ex.kids.getD k Ex.zero).num)),(.int .i64 ((ex.kids.getD k Ex.zero).pick)),(.int .i64 ((ex.kids.getD k Ex.zero).count)),a0] BV Z (fun wq9 a7=>LD.of_box (BX.ext (w:=w6) a9 a7)) Z Ac (Ap 230 [] [] [(.agg #[(.int .i64 ((ex.kids.getD k Ex.zero).kind)),(.int .i64 ((ex.kids.getD k Ex.zero).num)),(.int .i64 ((ex.kids.getD k Ex.zero).pick)),(.int .i64 ((ex.kids.getD k Ex.zero).count)),a0])] Z Z bG Ac (ih dd4 oM _ a0 (ex.kids.getD k Ex.zero) (a5.ext ai) oM) ?_))))
  rintro e7 w7 ⟨rfl,aa⟩
  refine⟨_,rfl,aa,?_⟩
  have ap:=aa.size
  have aq:=ai.trans aa
  refine fm ((max sz ((ex.kids.getD k Ex.zero).deep):Nat):Int) oM Z Z Ac (Ae 1 Z (Ad _ [0,0] Z (AH ((k+1:Nat):Int) Z Z (B7 oM sD) Ac (Ae 1 Z ?_))))
  exact⟨((k+1),(max sz ((ex.kids.getD k Ex.zero).deep))),_,rfl,⟨rfl,rfl,rfl,rfl,trivial⟩,⟨aq,sD,oM⟩,by first|omega|(dsimp only;omega)⟩
 ·refine Av false Z Z (A8 ae) Ac (Ah (A0 (Aj Z (A6 (As (As (An (A0 (Ad _ [0,0,0] Z ?_)))))))))
  have h8:=Ku (l:=ex.kids) (k:=k) oM
  have h9:=ED ex
  exact Af 1 Z (AH ((sz+1:Nat):Int) Z Z (B7 oM oM) Ac (Ae 1 Z (A3 (Ag [2] Z (.int .i64 ((sz+1:Nat):Int)) Z ⟨(AS (by rw[hsz,Ku oM,hdk])),a1⟩))))
end
section
set_option maxHeartbeats 4000000
set_option maxRecDepth 100000
attribute [local irreducible] LW
theorem bK {b:Bool}(h:(!b)=false):b=true:=by cases b <;> simp_all
theorem jY {b:Bool}(h:(!b)=true):b=false:=by cases b <;> simp_all
theorem f9 {p:List Fn}{funcs vars:Int}{e:Ex}{b:Bool}(h:e.kids.length=0∨b=false)(hb:Kz p funcs vars e=b):Ending.returned (.bool b)=.returned (.bool (wf p funcs e vars)):=by
  rcases h with h|h
  · rw[Yj h,hb]
  · subst h;rw[← UA hb]
theorem Cd {p:Prop}(h:p:=by first|exact AG (RU hwn fun j hj=>hall j oM)|exact AG (UB (k:=k) oM (by first|(rw[if_pos oM])|(rw[if_neg oM])) (jY ‹_›))|exact f9 (by first|exact .inr Z|(left;omega)|(left;simp_all <;> omega)) (by(have hp9:=hpl.symm;clear hpl;unfold Kz HC;first|(simp[*];done)|(simp[*];omega)|(simp[*] <;> intros <;> omega)|(simp_all <;> omega)))):p:=h
theorem Jj {p:Prop}(h:p:=by(have hp9:=hpl.symm;clear hpl;unfold Kz HC;first|(simp[*];done)|(simp[*];omega)|(simp[*] <;> intros <;> omega)|(simp_all <;> omega))):p:=h
theorem Re {p:Prop}(h:p:=by intro j hj;by_cases e9:j=k;(rw[e9];first|(rw[if_pos oM];exact bK ‹_›)|(rw[if_neg oM];exact bK ‹_›));exact hall j oM):p:=h
theorem XH {p:Prop}(h:p:=by unfold Fm;first|(simp[*];done)|(simp[*];intros;omega)|(simp[*];omega)):p:=h
theorem Jk {p:Prop}(h:p:=by first|exact(A7 oM).symm|exact decide_eq_decide.2 oM):p:=h
theorem H6 (w:World)(dp:Nat)(vp:Value)(p:List Fn)(funcs:Int)(dex:Nat)(ve:Value)(ex:Ex)(vars:Int)(hp:RP [] dp w.heap vp p)(_hfuncs:BC funcs)(hex:RX [] dex w.heap ve ex)(_hvars:BC vars)(hs:0≤vars∧vars+(ex.deep:Int)≤2000000000)(hf:0≤funcs∧funcs≤(p.length:Int)) :
  Calls Tryz.prog 231 #[(.agg #[vp,(.int .i64 funcs)]),(.agg #[(.int .i64 ex.kind),(.int .i64 ex.num),(.int .i64 ex.pick),(.int .i64 ex.count),ve]),.int .i64 vars] w (fun e w'=>e=.returned (.bool (wf p funcs ex vars))∧Ay w w'):=by
 induction dex using Nat.strongRecOn generalizing w dp vp p funcs ve ex vars
 rename_i dex ih
 refine At [(.agg #[vp,(.int .i64 funcs)]),(.agg #[(.int .i64 ex.kind),(.int .i64 ex.num),(.int .i64 ex.pick),(.int .i64 ex.count),ve]),.int .i64 vars] 177 Tryz.func231 Z Z sM ?_
 have d2:Ay w w:=Ay.refl w
 have hl_vp:=hp.lenle
 unfold maxLen at hl_vp
 have hl_ve:=hex.rn.lenle
 unfold maxLen at hl_ve
 have hdk:=EC ex
 refine A0 (Ad _ [3,3,0] Z (Bv (cs:=#[vp,(.int .i64 funcs)]) Z Ac fun w1 cq df co=>?_))
 have cr:=cq.size
 have d3:=d2.trans cq
 replace co:BX w1.heap w.heap.size [vp,(.int .i64 funcs)]:=co
 have e5:=co.lt
 refine Bv (cs:=#[(.int .i64 ex.kind),(.int .i64 ex.num),(.int .i64 ex.pick),(.int .i64 ex.count),ve]) Z Ac fun w2 cp dg bc=>?_
 have ct:=cp.size
 have cu:=d3.trans cp
 have bb:=co.ext cp
 replace bc:BX w2.heap w1.heap.size [(.int .i64 ex.kind),(.int .i64 ex.num),(.int .i64 ex.pick),(.int .i64 ex.count),ve]:=bc
 refine Ae 1 Z (A0 (Ad _ [0,2,0,0] Z (Ao (p:=(.pointer (some ⟨w1.heap.size,0,none⟩))) (b:=w1.heap.size) (o:=0) 4 Bo Z Z Ac (Ak (p:=(Az (.pointer (some ⟨w1.heap.size,0,none⟩)) 4)) (.inr Z) ve Bq Z (bc.ldp (i:=4) sM) Ac (AJ (v:=ve) DM Z hex.rn.isSl Ac (Ae 1 Z (A0 (L5 (S:=Bool) (fun(pl:Bool)=>([(8,(.bool pl)),(2,(.int .i64 vars)),(3,(.pointer (some ⟨w.heap.size,0,none⟩))),(4,(.pointer (some ⟨w1.heap.size,0,none⟩))),(7,(.int .i64 ((ex.kids.length:Nat):Int)))])) (fun(pl:Bool) (W:World)=>Ay w W∧BX W.heap w.heap.size [vp,(.int .i64 funcs)]∧BX W.heap w1.heap.size [(.int .i64 ex.kind),(.int .i64 ex.num),(.int .i64 ex.pick),(.int .i64 ex.count),ve]∧pl=Fm ex) ?_ ?_))))))))
 ·refine Ad _ [0,2,0,0,0,2,0,0,0] Z (Ao (p:=(.pointer (some ⟨w1.heap.size,0,none⟩))) (b:=w1.heap.size) (o:=0) 2 Dp Z Z Ac (Ak (p:=(Az (.pointer (some ⟨w1.heap.size,0,none⟩)) 2)) (.inr Z) (.int .i64 ex.pick) AI Z (bc.ldp (i:=2) sM) Ac ?_))
  by_cases d4:ex.pick=((0:Nat):Int)
  ·exact AA true Z Z (A7 d4) Ac (Af 1 Z (Ao (p:=(.pointer (some ⟨w1.heap.size,0,none⟩))) (b:=w1.heap.size) (o:=0) 3 D9 Z Z (Al (e:=19) Z Z Z) (Ak (p:=(Az (.pointer (some ⟨w1.heap.size,0,none⟩)) 3)) (.inr Z) (.int .i64 ex.count) AI Z (bc.ldp (i:=3) sM) (Al (e:=19) Z Z Z) (AA (decide (ex.count=((0:Nat):Int))) Z Z Z (Al (e:=19) Z Z Z) (Ae 2 Z ⟨(decide (ex.count=((0:Nat):Int))),_,rfl,⟨rfl,rfl,rfl,rfl,rfl,trivial⟩,⟨cu,bb,bc,XH⟩⟩)))))
  ·exact AA false Z Z (A8 d4) Ac (Ae 6 Z ⟨false,_,rfl,⟨rfl,rfl,rfl,rfl,rfl,trivial⟩,⟨cu,bb,bc,XH⟩⟩)
 ·clear d2 df cq cr d3 dg cp ct cu
  rintro pl ρ4 w4 ⟨ag,a4,a1,hpl⟩
  have bf:w.heap.size≤w4.heap.size:=ag.size
  have e6:=a4.lt
  have e7:=a1.lt
  refine A0 (L5 (S:=Unit) (fun(u:Unit)=>([(2,(.int .i64 vars)),(3,(.pointer (some ⟨w.heap.size,0,none⟩))),(4,(.pointer (some ⟨w1.heap.size,0,none⟩)))])) (fun(u:Unit) (W:World)=>Ay w W∧BX W.heap w.heap.size [vp,(.int .i64 funcs)]∧BX W.heap w1.heap.size [(.int .i64 ex.kind),(.int .i64 ex.num),(.int .i64 ex.pick),(.int .i64 ex.count),ve]∧Kz p funcs vars ex=true) ?_ ?_)
  ·refine A0 (Ad _ [0,2] Z (Ao (p:=(.pointer (some ⟨w1.heap.size,0,none⟩))) (b:=w1.heap.size) (o:=0) 0 C3 Z Z Ac (Ak (p:=(Az (.pointer (some ⟨w1.heap.size,0,none⟩)) 0)) (.inr Z) (.int .i64 ex.kind) AI Z (a1.ldp (i:=0) sM) Ac (Ah (A5 (A0 (Ad _ [0,0] Z ?_)))))))
   by_cases d5:ex.kind=((1:Nat):Int)
   ·refine AA true Z Z (A7 d5) Ac (Ae 1 Z (Ai Z (A0 (Ad _ [0,0,0,0,0,0,0,2,0,0,0] Z (Af 2 Z ?_)))))
    cases dh:pl
    ·exact Ae 9 Z (A3 (AK (Aq (Ag [6] Z (.bool false) Z ⟨Cd,ag⟩))))
    ·refine Af 1 Z ?_
     by_cases bg:((ex.kids.length:Nat):Int)=((0:Nat):Int)
     ·refine AA true Z Z (A7 bg) (Al (e:=29) Z Z Z) (Af 2 Z (Ao (p:=(.pointer (some ⟨w1.heap.size,0,none⟩))) (b:=w1.heap.size) (o:=0) 1 BW Z Z (Al (e:=33) Z Z Z) (Ak (p:=(Az (.pointer (some ⟨w1.heap.size,0,none⟩)) 1)) (.inr Z) (.int .i64 ex.num) AI Z (a1.ldp (i:=1) sM) (Al (e:=33) Z Z Z) (AD 161 [] [] [(.int .i64 ex.num)] Z Z aV (Al (e:=33) Z Z Z) (.bool (Jb ex.num)) (fun wq=>HJ wq _ hex.rng.num) (Ae 2 Z (A3 (AK (Aq ?_))))))))
      exact Ag [6] Z (.bool (Jb ex.num)) Z ⟨Cd,ag⟩
     ·exact AA false Z Z (A8 bg) (Al (e:=29) Z Z Z) (Ae 7 Z (A3 (AK (Aq (Ag [6] Z (.bool false) Z ⟨Cd,ag⟩)))))
   ·refine AA false Z Z (A8 d5) Ac (Ae 1 Z (Aj Z (A0 (Ad _ [0,0] Z ?_))))
    by_cases bh:ex.kind=((2:Nat):Int)
    ·refine AA true Z Z (A7 bh) Ac (Ae 1 Z (Ai Z (A0 (Ad _ [0,0,0,0,0,0,0,2,0,0,0,0,0] Z (Af 2 Z ?_)))))
     cases di:pl
     ·exact Ae 11 Z (A3 (AK (Aq (Ag [6] Z (.bool false) Z ⟨Cd,ag⟩))))
     ·refine Af 1 Z ?_
      by_cases bi:((ex.kids.length:Nat):Int)=((0:Nat):Int)
      ·refine AA true Z Z (A7 bi) (Al (e:=41) Z Z Z) (Af 2 Z (Ao (p:=(.pointer (some ⟨w1.heap.size,0,none⟩))) (b:=w1.heap.size) (o:=0) 1 BW Z Z (Al (e:=45) Z Z Z) (Ak (p:=(Az (.pointer (some ⟨w1.heap.size,0,none⟩)) 1)) (.inr Z) (.int .i64 ex.num) AI Z (a1.ldp (i:=1) sM) (Al (e:=45) Z Z Z) (Af 1 Z (Cj (vars-1) Z Z (DX oM oM) (Al (e:=45) Z Z Z) (AD 72 [] [] [(.int .i64 ex.num),(.int .i64 ((0:Nat):Int)),(.int .i64 (vars-1))] Z Z KO (Al (e:=45) Z Z Z) (.bool (decide (((0:Nat):Int)≤ex.num) && decide (ex.num≤(vars-1)))) (fun wq=>BD wq _ _ _ hex.rng.num oM oM) (Ae 2 Z (A3 (AK ?_)))))))))
       exact Aq (Ag [6] Z (.bool (decide (((0:Nat):Int)≤ex.num) && decide (ex.num≤(vars-1)))) Z ⟨Cd,ag⟩)
      ·exact AA false Z Z (A8 bi) (Al (e:=41) Z Z Z) (Ae 9 Z (A3 (AK (Aq (Ag [6] Z (.bool false) Z ⟨Cd,ag⟩)))))
    ·refine AA false Z Z (A8 bh) Ac (Ae 1 Z (Aj Z (A0 (L5 (S:=Bool) (fun(b5:Bool)=>([(52,(.bool b5)),(2,(.int .i64 vars)),(3,(.pointer (some ⟨w.heap.size,0,none⟩))),(4,(.pointer (some ⟨w1.heap.size,0,none⟩))),(7,(.int .i64 ((ex.kids.length:Nat):Int))),(8,(.bool pl)),(25,(.int .i64 ex.kind))])) (fun(b5:Bool) (W:World)=>Ay w W∧BX W.heap w.heap.size [vp,(.int .i64 funcs)]∧BX W.heap w1.heap.size [(.int .i64 ex.kind),(.int .i64 ex.num),(.int .i64 ex.pick),(.int .i64 ex.count),ve]∧b5=decide (ex.kind=3∨ex.kind=4∨ex.kind=5∨ex.kind=6∨ex.kind=9)) ?_ ?_))))
     ·refine A0 (Ad _ [0,0] Z ?_)
      by_cases bj:ex.kind=((3:Nat):Int)
      ·exact AA true Z Z (A7 bj) Ac (Ae 1 Z (Ai Z (A4 ⟨true,_,rfl,⟨rfl,rfl,rfl,rfl,rfl,rfl,rfl,trivial⟩,⟨ag,a4,a1,Jk⟩⟩)))
      ·refine AA false Z Z (A8 bj) Ac (Ae 1 Z (Aj Z (A0 (Ad _ [0,0] Z ?_))))
       by_cases bk:ex.kind=((4:Nat):Int)
       ·exact AA true Z Z (A7 bk) Ac (Ae 1 Z (Ai Z (A4 ⟨true,_,rfl,⟨rfl,rfl,rfl,rfl,rfl,rfl,rfl,trivial⟩,⟨ag,a4,a1,Jk⟩⟩)))
       ·refine AA false Z Z (A8 bk) Ac (Ae 1 Z (Aj Z (A0 (Ad _ [0,0] Z ?_))))
        by_cases bl:ex.kind=((5:Nat):Int)
        ·exact AA true Z Z (A7 bl) Ac (Ae 1 Z (Ai Z (A4 ⟨true,_,rfl,⟨rfl,rfl,rfl,rfl,rfl,rfl,rfl,trivial⟩,⟨ag,a4,a1,Jk⟩⟩)))
        ·refine AA false Z Z (A8 bl) Ac (Ae 1 Z (Aj Z (A0 (Ad _ [0,0] Z ?_))))
         by_cases bm:ex.kind=((6:Nat):Int)
         ·exact AA true Z Z (A7 bm) Ac (Ae 1 Z (Ai Z (A4 ⟨true,_,rfl,⟨rfl,rfl,rfl,rfl,rfl,rfl,rfl,trivial⟩,⟨ag,a4,a1,Jk⟩⟩)))
         ·exact AA false Z Z (A8 bm) Ac (Ae 1 Z (Aj Z (Ad _ [0,0] Z (AA (decide (ex.kind=((9:Nat):Int))) Z Z Z Ac (Ae 1 Z ⟨(decide (ex.kind=((9:Nat):Int))),_,rfl,⟨rfl,rfl,rfl,rfl,rfl,rfl,rfl,trivial⟩,⟨ag,a4,a1,Jk⟩⟩)))))
     ·clear a1 a4 ag bf
      rintro b5 ρ17 w17 ⟨a2,a3,a0,h5b⟩
      have bn:w.heap.size≤w17.heap.size:=a2.size
      have dj:=a3.lt
      have dk:=a0.lt
      cases bo:b5
      ·refine Aj (by first|rfl|(show Value.bool _=_;rw[bo])) (A0 (Ad _ [0,0] Z ?_))
       have h5n:=of_decide_eq_false (h5b.symm.trans ‹_›)
       clear h5b
       by_cases bp:ex.kind=((7:Nat):Int)
       ·refine AA true Z Z (A7 bp) Ac (Ae 1 Z (Ai Z (A0 (Ad _ [0,0,0,0,2,0,0,0,0,0,0] Z (Af 1 Z (Bp (!pl) Z Z Ac (Af 1 Z ?_)))))))
        cases dl:(!pl)
        ·refine Ao (p:=(.pointer (some ⟨w1.heap.size,0,none⟩))) (b:=w1.heap.size) (o:=0) 1 BW Z Z (Al (e:=73) Z Z Z) (Ak (p:=(Az (.pointer (some ⟨w1.heap.size,0,none⟩)) 1)) (.inr Z) (.int .i64 ex.num) AI Z (a0.ldp (i:=1) sM) (Al (e:=73) Z Z Z) ?_)
         by_cases bq:ex.num≠((0:Nat):Int)
         ·exact AY true Z Z (A7 bq) (Al (e:=73) Z Z Z) (Ae 5 Z (Ai Z (A0 (Ad _ [0] Z (Ae 1 Z (A3 (AK (Aq (Ag [6] Z (.bool false) Z ⟨Cd,a2⟩)))))))))
         ·refine AY false Z Z (A8 bq) (Al (e:=73) Z Z Z) (Af 3 Z ?_)
          by_cases br:((ex.kids.length:Nat):Int)≠((1:Nat):Int)
          ·exact AY true Z Z (A7 br) (Al (e:=78) Z Z Z) (Ae 1 Z (Ai Z (A0 (Ad _ [0] Z (Ae 1 Z (A3 (AK (Aq (Ag [6] Z (.bool false) Z ⟨Cd,a2⟩)))))))))
          ·exact AY false Z Z (A8 br) (Al (e:=78) Z Z Z) (Ae 1 Z (Aj Z (A4 ⟨(),_,rfl,⟨rfl,rfl,rfl,trivial⟩,⟨a2,a3,a0,Jj⟩⟩)))
        ·exact Ae 8 Z (Ai Z (A0 (Ad _ [0] Z (Ae 1 Z (A3 (AK (Aq (Ag [6] Z (.bool false) Z ⟨Cd,a2⟩))))))))
       ·refine AA false Z Z (A8 bp) Ac (Ae 1 Z (Aj Z (A0 (Ad _ [0,0] Z ?_))))
        by_cases bs:ex.kind=((8:Nat):Int)
        ·refine AA true Z Z (A7 bs) Ac (Ae 1 Z (Ai Z (A0 (Ad _ [0,0,0,0,2,0,0,0,0,0,0] Z (Af 1 Z (Bp (!pl) Z Z Ac (Af 1 Z ?_)))))))
         cases dm:(!pl)
         ·refine Ao (p:=(.pointer (some ⟨w1.heap.size,0,none⟩))) (b:=w1.heap.size) (o:=0) 1 BW Z Z (Al (e:=86) Z Z Z) (Ak (p:=(Az (.pointer (some ⟨w1.heap.size,0,none⟩)) 1)) (.inr Z) (.int .i64 ex.num) AI Z (a0.ldp (i:=1) sM) (Al (e:=86) Z Z Z) ?_)
          by_cases bt:ex.num≠((0:Nat):Int)
          ·exact AY true Z Z (A7 bt) (Al (e:=86) Z Z Z) (Ae 5 Z (Ai Z (A0 (Ad _ [0] Z (Ae 1 Z (A3 (AK (Aq (Ag [6] Z (.bool false) Z ⟨Cd,a2⟩)))))))))
          ·refine AY false Z Z (A8 bt) (Al (e:=86) Z Z Z) (Af 3 Z ?_)
           by_cases bu:((ex.kids.length:Nat):Int)≠((3:Nat):Int)
           ·exact AY true Z Z (A7 bu) (Al (e:=91) Z Z Z) (Ae 1 Z (Ai Z (A0 (Ad _ [0] Z (Ae 1 Z (A3 (AK (Aq (Ag [6] Z (.bool false) Z ⟨Cd,a2⟩)))))))))
           ·exact AY false Z Z (A8 bu) (Al (e:=91) Z Z Z) (Ae 1 Z (Aj Z (A4 ⟨(),_,rfl,⟨rfl,rfl,rfl,trivial⟩,⟨a2,a3,a0,Jj⟩⟩)))
         ·exact Ae 8 Z (Ai Z (A0 (Ad _ [0] Z (Ae 1 Z (A3 (AK (Aq (Ag [6] Z (.bool false) Z ⟨Cd,a2⟩))))))))
        ·refine AA false Z Z (A8 bs) Ac (Ae 1 Z (Aj Z (A0 (L5 (S:=Bool) (fun(b10:Bool)=>([(95,(.bool b10)),(2,(.int .i64 vars)),(3,(.pointer (some ⟨w.heap.size,0,none⟩))),(4,(.pointer (some ⟨w1.heap.size,0,none⟩))),(7,(.int .i64 ((ex.kids.length:Nat):Int)))])) (fun(b10:Bool) (W:World)=>Ay w W∧BX W.heap w.heap.size [vp,(.int .i64 funcs)]∧BX W.heap w1.heap.size [(.int .i64 ex.kind),(.int .i64 ex.num),(.int .i64 ex.pick),(.int .i64 ex.count),ve]∧b10=decide (ex.kind=10∨ex.kind=11)) ?_ ?_))))
         ·refine A0 (Ad _ [0,0] Z ?_)
          by_cases bv:ex.kind=((10:Nat):Int)
          ·exact AA true Z Z (A7 bv) Ac (Ae 1 Z (Ai Z (A4 ⟨true,_,rfl,⟨rfl,rfl,rfl,rfl,rfl,trivial⟩,⟨a2,a3,a0,Jk⟩⟩)))
          ·exact AA false Z Z (A8 bv) Ac (Ae 1 Z (Aj Z (Ad _ [0,0] Z (AA (decide (ex.kind=((11:Nat):Int))) Z Z Z Ac (Ae 1 Z ⟨(decide (ex.kind=((11:Nat):Int))),_,rfl,⟨rfl,rfl,rfl,rfl,rfl,trivial⟩,⟨a2,a3,a0,Jk⟩⟩)))))
         ·clear a0 a3 a2 bn
          rintro b10 ρ33 w33 ⟨an,a6,a7,h10b⟩
          have d6:w.heap.size≤w33.heap.size:=an.size
          have dn:=a6.lt
          have dq:=a7.lt
          cases bw:b10
          ·refine Aj (by first|rfl|(show Value.bool _=_;rw[bw])) (A0 (Ad _ [0] Z ?_))
           have h10n:=of_decide_eq_false (h10b.symm.trans ‹_›)
           clear h10b
           exact Ae 1 Z (A3 (AK (Aq (Ag [6] Z (.bool false) Z ⟨Cd,an⟩))))
          ·refine Ai (by first|rfl|(show Value.bool _=_;rw[bw])) (A0 (A0 (Ad _ [0,2,0,2,0,0,0] Z ?_)))
           have h5k:=of_decide_eq_true (h10b.symm.trans ‹_›)
           clear h10b
           refine Ao (p:=(.pointer (some ⟨w1.heap.size,0,none⟩))) (b:=w1.heap.size) (o:=0) 1 BW Z Z Ac (Ak (p:=(Az (.pointer (some ⟨w1.heap.size,0,none⟩)) 1)) (.inr Z) (.int .i64 ex.num) AI Z (a7.ldp (i:=1) sM) Ac (Ao (p:=(.pointer (some ⟨w.heap.size,0,none⟩))) (b:=w.heap.size) (o:=0) 1 Zo Z Z Ac (Ak (p:=(Az (.pointer (some ⟨w.heap.size,0,none⟩)) 1)) (.inr Z) (.int .i64 funcs) AI Z (a6.ldp (i:=1) sM) Ac (Cj (funcs-1) Z Z (DX oM oM) Ac (AD 72 [] [] [(.int .i64 ex.num),(.int .i64 ((0:Nat):Int)),(.int .i64 (funcs-1))] Z Z KO Ac (.bool (decide (((0:Nat):Int)≤ex.num) && decide (ex.num≤(funcs-1)))) (fun wq=>BD wq _ _ _ hex.rng.num oM oM) ?_)))))
           refine Bp (!(decide (((0:Nat):Int)≤ex.num) && decide (ex.num≤(funcs-1)))) Z Z Ac (Ah ?_)
           cases bx:(!(decide (((0:Nat):Int)≤ex.num) && decide (ex.num≤(funcs-1))))
           ·refine Aj (by first|rfl|(show Value.bool _=_;rw[bx])) (A4 (A0 (Ad _ [0,0,2,0,2,0,2,3,4] Z ?_)))
            have hnr:0≤ex.num∧ex.num≤funcs-1:=by have h9:=‹(!(decide (((0:Nat):Int)≤ex.num) && decide (ex.num≤funcs-1)))=false›;simpa using h9
            refine Ao (p:=(.pointer (some ⟨w.heap.size,0,none⟩))) (b:=w.heap.size) (o:=0) 0 Zn Z Z Ac (Ao (p:=(Az (.pointer (some ⟨w.heap.size,0,none⟩)) 0)) (b:=w.heap.size) (o:=0) 0 BU Z Z Ac (Ak (p:=(Az (Az (.pointer (some ⟨w.heap.size,0,none⟩)) 0) 0)) (.inr Z) vp Cx Z (a6.ldp (i:=0) sM) Ac (Ao (p:=(.pointer (some ⟨w1.heap.size,0,none⟩))) (b:=w1.heap.size) (o:=0) 1 BW Z Z Ac (Ak (p:=(Az (.pointer (some ⟨w1.heap.size,0,none⟩)) 1)) (.inr Z) (.int .i64 ex.num) AI Z (a7.ldp (i:=1) sM) Ac ?_))))
            refine Au (v:=vp) ((ex.num).toNat) GA CE Z Z hp.isSl oM sD Ac ?_
            obtain⟨cs40,cv,cw⟩:=hp.get (AB dp) Fn.zero (k:=((ex.num).toNat)) sD
            obtain⟨aa,rfl,ao⟩:=RF.of cv
            have bz:=ao.rn.lenle
            unfold maxLen at bz
            refine AP (p:=Aw vp ((ex.num).toNat) 3) (.inr Z) [(.string ((p.getD ((ex.num).toNat) Fn.zero).name)),(.int .i64 ((p.getD ((ex.num).toNat) Fn.zero).params)),aa] Ib Z (fun wq9 ad=>cw wq9 (AE.of_ext [] (an.trans ad))) Z Ac ?_
            have dr:=a6.lt
            have ds:=a7.lt
            refine BJ (z:=.agg #[.string ByteArray.empty,.int .i64 0,.slice none 0 0]) Zj Ac fun w41 ax dt bd=>?_
            have d7:=ax.size
            have c0:=an.trans ax
            have ai:=a6.ext ax
            have aj:=a7.ext ax
            replace bd:BX w41.heap w33.heap.size [(.string ByteArray.empty),(.int .i64 0),(.slice none 0 0)]:=bd
            refine CU (vs:=[(.string ((p.getD ((ex.num).toNat) Fn.zero).name)),(.int .i64 ((p.getD ((ex.num).toNat) Fn.zero).params)),aa]) Ib Z Z ao.ones bd Z Z Ac fun w44 ay du ac=>?_
            replace ac:BX w44.heap w33.heap.size [(.string ((p.getD ((ex.num).toNat) Fn.zero).name)),(.int .i64 ((p.getD ((ex.num).toNat) Fn.zero).params)),aa]:=ac
            have a8:Ay w w44:=ay.below c0 (fun c hc=>by have:=Ab hc;omega) c0.size
            have d8:=ay.size
            have az:=ai.chg ay (fun hm=>by have:=Ab hm;omega)
            have a9:=aj.chg ay (fun hm=>by have:=Ab hm;omega)
            refine Ah (A0 (A0 (Ad _ [0,0,2,0,0,0,2,0,2,0,0,0,0,0] Z (Af 1 Z (Ao (p:=(.pointer (some ⟨w33.heap.size,0,none⟩))) (b:=w33.heap.size) (o:=0) 1 CH Z Z Ac (Ak (p:=(Az (.pointer (some ⟨w33.heap.size,0,none⟩)) 1)) (.inr Z) (.int .i64 ((p.getD ((ex.num).toNat) Fn.zero).params)) AI Z (ac.ldp (i:=1) sM) Ac ?_))))))
            by_cases c1:((ex.kids.length:Nat):Int)≠(p.getD ((ex.num).toNat) Fn.zero).params
            ·exact AY true Z Z (A7 c1) Ac (Ae 10 Z (Ai Z (A0 (Ad _ [0] Z (Ae 1 Z (A3 (Aq (AK (Aq (Ag [6] Z (.bool false) Z ⟨Cd,a8⟩))))))))))
            ·refine AY false Z Z (A8 c1) Ac (Af 1 Z (Ao (p:=(.pointer (some ⟨w1.heap.size,0,none⟩))) (b:=w1.heap.size) (o:=0) 2 Dp Z Z (Al (e:=116) Z Z Z) (Ak (p:=(Az (.pointer (some ⟨w1.heap.size,0,none⟩)) 2)) (.inr Z) (.int .i64 ex.pick) AI Z (a9.ldp (i:=2) sM) (Al (e:=116) Z Z Z) (Ao (p:=(.pointer (some ⟨w33.heap.size,0,none⟩))) (b:=w33.heap.size) (o:=0) 2 Cr Z Z (Al (e:=116) Z Z Z) (Ak (p:=(Az (.pointer (some ⟨w33.heap.size,0,none⟩)) 2)) (.inr Z) aa Bq Z (ac.ldp (i:=2) sM) (Al (e:=116) Z Z Z) (AJ (v:=aa) DM Z ao.rn.isSl (Al (e:=116) Z Z Z) ?_))))))
             refine Cj (((p.getD (ex.num).toNat Fn.zero).outs.length:Int)-1) Z Z (DX oM oM) (Al (e:=116) Z Z Z) (AD 72 [] [] [(.int .i64 ex.pick),(.int .i64 ((0:Nat):Int)),(.int .i64 (((p.getD (ex.num).toNat Fn.zero).outs.length:Int)-1))] Z Z KO (Al (e:=116) Z Z Z) (.bool (decide (((0:Nat):Int)≤ex.pick) && decide (ex.pick≤(((p.getD (ex.num).toNat Fn.zero).outs.length:Int)-1)))) (fun wq=>BD wq _ _ _ hex.rng.pick oM oM) (Bp (!(decide (((0:Nat):Int)≤ex.pick) && decide (ex.pick≤(((p.getD (ex.num).toNat Fn.zero).outs.length:Int)-1)))) Z Z (Al (e:=116) Z Z Z) (Ae 1 Z ?_)))
             cases c2:(!(decide (((0:Nat):Int)≤ex.pick) && decide (ex.pick≤(((p.getD (ex.num).toNat Fn.zero).outs.length:Int)-1))))
             ·refine Aj (by first|rfl|(show Value.bool _=_;rw[c2])) (A4 (A0 (Ad _ [0,2,0,0,0,2,0,0,0,0,2,0,0,0,2,0,0,2,0,0,0,2,0,0,0,0,0] Z (Ao (p:=(.pointer (some ⟨w1.heap.size,0,none⟩))) (b:=w1.heap.size) (o:=0) 0 C3 Z Z Ac (Ak (p:=(Az (.pointer (some ⟨w1.heap.size,0,none⟩)) 0)) (.inr Z) (.int .i64 ex.kind) AI Z (a9.ldp (i:=0) sM) Ac ?_)))))
              by_cases c3:ex.kind=((10:Nat):Int)
              ·refine AA true Z Z (A7 c3) Ac (Af 1 Z (Ao (p:=(.pointer (some ⟨w1.heap.size,0,none⟩))) (b:=w1.heap.size) (o:=0) 3 D9 Z Z (Al (e:=129) Z Z Z) (Ak (p:=(Az (.pointer (some ⟨w1.heap.size,0,none⟩)) 3)) (.inr Z) (.int .i64 ex.count) AI Z (a9.ldp (i:=3) sM) (Al (e:=129) Z Z Z) ?_)))
               by_cases c4:ex.count≠((0:Nat):Int)
               ·exact AY true Z Z (A7 c4) (Al (e:=129) Z Z Z) (Ae 20 Z (Ai Z (A0 (Ad _ [0] Z (Ae 1 Z (A3 (AK (Aq (Ag [6] Z (.bool false) Z ⟨Cd,a8⟩)))))))))
               ·refine AY false Z Z (A8 c4) (Al (e:=129) Z Z Z) (Af 2 Z (Ao (p:=(.pointer (some ⟨w1.heap.size,0,none⟩))) (b:=w1.heap.size) (o:=0) 0 C3 Z Z (Al (e:=134) Z Z Z) (Ak (p:=(Az (.pointer (some ⟨w1.heap.size,0,none⟩)) 0)) (.inr Z) (.int .i64 ex.kind) AI Z (a9.ldp (i:=0) sM) (Al (e:=134) Z Z Z) ?_)))
                by_cases c5:ex.kind=((11:Nat):Int)
                ·refine AA true Z Z (A7 c5) (Al (e:=134) Z Z Z) (Af 1 Z (Ao (p:=(.pointer (some ⟨w33.heap.size,0,none⟩))) (b:=w33.heap.size) (o:=0) 2 Cr Z Z (Al (e:=138) Z Z Z) (Ak (p:=(Az (.pointer (some ⟨w33.heap.size,0,none⟩)) 2)) (.inr Z) aa Bq Z (ac.ldp (i:=2) sM) (Al (e:=138) Z Z Z) (AJ (v:=aa) DM Z ao.rn.isSl (Al (e:=138) Z Z Z) (Ao (p:=(.pointer (some ⟨w33.heap.size,0,none⟩))) (b:=w33.heap.size) (o:=0) 1 CH Z Z (Al (e:=138) Z Z Z) (Ak (p:=(Az (.pointer (some ⟨w33.heap.size,0,none⟩)) 1)) (.inr Z) (.int .i64 ((p.getD ((ex.num).toNat) Fn.zero).params)) AI Z (ac.ldp (i:=1) sM) (Al (e:=138) Z Z Z) ?_))))))
                 by_cases c6:((((p.getD ((ex.num).toNat) Fn.zero).outs).length:Nat):Int)≠(p.getD ((ex.num).toNat) Fn.zero).params
                 ·exact AY true Z Z (A7 c6) (Al (e:=138) Z Z Z) (Ae 8 Z (Ai Z (A0 (Ad _ [0] Z (Ae 1 Z (A3 (AK (Aq (Ag [6] Z (.bool false) Z ⟨Cd,a8⟩)))))))))
                 ·refine AY false Z Z (A8 c6) (Al (e:=138) Z Z Z) (Af 1 Z (Ao (p:=(.pointer (some ⟨w1.heap.size,0,none⟩))) (b:=w1.heap.size) (o:=0) 3 D9 Z Z (Al (e:=145) Z Z Z) (Ak (p:=(Az (.pointer (some ⟨w1.heap.size,0,none⟩)) 3)) (.inr Z) (.int .i64 ex.count) AI Z (a9.ldp (i:=3) sM) (Al (e:=145) Z Z Z) (AD 72 [] [] [(.int .i64 ex.count),(.int .i64 ((0:Nat):Int)),(.int .i64 ((8:Nat):Int))] Z Z KO (Al (e:=145) Z Z Z) (.bool (decide (((0:Nat):Int)≤ex.count) && decide (ex.count≤((8:Nat):Int)))) (fun wq=>BD wq _ _ _ hex.rng.count oM oM) (Bp (!(decide (((0:Nat):Int)≤ex.count) && decide (ex.count≤((8:Nat):Int)))) Z Z (Al (e:=145) Z Z Z) ?_)))))
                  refine Ae 3 Z ?_
                  cases c7:(!(decide (((0:Nat):Int)≤ex.count) && decide (ex.count≤((8:Nat):Int))))
                  ·exact Aj (by first|rfl|(show Value.bool _=_;rw[c7])) (A4 ⟨(),_,rfl,⟨rfl,rfl,rfl,trivial⟩,⟨a8,az,a9,Jj⟩⟩)
                  ·exact Ai (by first|rfl|(show Value.bool _=_;rw[c7])) (A0 (Ad _ [0] Z (Ae 1 Z (A3 (AK (Aq (Ag [6] Z (.bool false) Z ⟨Cd,a8⟩)))))))
                ·exact AA false Z Z (A8 c5) (Al (e:=134) Z Z Z) (Ae 15 Z (Aj Z (A4 ⟨(),_,rfl,⟨rfl,rfl,rfl,trivial⟩,⟨a8,az,a9,Jj⟩⟩)))
              ·refine AA false Z Z (A8 c3) Ac (Af 6 Z (Ao (p:=(.pointer (some ⟨w1.heap.size,0,none⟩))) (b:=w1.heap.size) (o:=0) 0 C3 Z Z (Al (e:=134) Z Z Z) (Ak (p:=(Az (.pointer (some ⟨w1.heap.size,0,none⟩)) 0)) (.inr Z) (.int .i64 ex.kind) AI Z (a9.ldp (i:=0) sM) (Al (e:=134) Z Z Z) ?_)))
               by_cases c8:ex.kind=((11:Nat):Int)
               ·refine AA true Z Z (A7 c8) (Al (e:=134) Z Z Z) (Af 1 Z (Ao (p:=(.pointer (some ⟨w33.heap.size,0,none⟩))) (b:=w33.heap.size) (o:=0) 2 Cr Z Z (Al (e:=138) Z Z Z) (Ak (p:=(Az (.pointer (some ⟨w33.heap.size,0,none⟩)) 2)) (.inr Z) aa Bq Z (ac.ldp (i:=2) sM) (Al (e:=138) Z Z Z) (AJ (v:=aa) DM Z ao.rn.isSl (Al (e:=138) Z Z Z) (Ao (p:=(.pointer (some ⟨w33.heap.size,0,none⟩))) (b:=w33.heap.size) (o:=0) 1 CH Z Z (Al (e:=138) Z Z Z) (Ak (p:=(Az (.pointer (some ⟨w33.heap.size,0,none⟩)) 1)) (.inr Z) (.int .i64 ((p.getD ((ex.num).toNat) Fn.zero).params)) AI Z (ac.ldp (i:=1) sM) (Al (e:=138) Z Z Z) ?_))))))
                by_cases c9:((((p.getD ((ex.num).toNat) Fn.zero).outs).length:Nat):Int)≠(p.getD ((ex.num).toNat) Fn.zero).params
                ·exact AY true Z Z (A7 c9) (Al (e:=138) Z Z Z) (Ae 8 Z (Ai Z (A0 (Ad _ [0] Z (Ae 1 Z (A3 (AK (Aq (Ag [6] Z (.bool false) Z ⟨Cd,a8⟩)))))))))
                ·refine AY false Z Z (A8 c9) (Al (e:=138) Z Z Z) (Af 1 Z (Ao (p:=(.pointer (some ⟨w1.heap.size,0,none⟩))) (b:=w1.heap.size) (o:=0) 3 D9 Z Z (Al (e:=145) Z Z Z) (Ak (p:=(Az (.pointer (some ⟨w1.heap.size,0,none⟩)) 3)) (.inr Z) (.int .i64 ex.count) AI Z (a9.ldp (i:=3) sM) (Al (e:=145) Z Z Z) (AD 72 [] [] [(.int .i64 ex.count),(.int .i64 ((0:Nat):Int)),(.int .i64 ((8:Nat):Int))] Z Z KO (Al (e:=145) Z Z Z) (.bool (decide (((0:Nat):Int)≤ex.count) && decide (ex.count≤((8:Nat):Int)))) (fun wq=>BD wq _ _ _ hex.rng.count oM oM) (Bp (!(decide (((0:Nat):Int)≤ex.count) && decide (ex.count≤((8:Nat):Int)))) Z Z (Al (e:=145) Z Z Z) ?_)))))
                 refine Ae 3 Z ?_
                 cases ca:(!(decide (((0:Nat):Int)≤ex.count) && decide (ex.count≤((8:Nat):Int))))
                 ·exact Aj (by first|rfl|(show Value.bool _=_;rw[ca])) (A4 ⟨(),_,rfl,⟨rfl,rfl,rfl,trivial⟩,⟨a8,az,a9,Jj⟩⟩)
                 ·exact Ai (by first|rfl|(show Value.bool _=_;rw[ca])) (A0 (Ad _ [0] Z (Ae 1 Z (A3 (AK (Aq (Ag [6] Z (.bool false) Z ⟨Cd,a8⟩)))))))
               ·exact AA false Z Z (A8 c8) (Al (e:=134) Z Z Z) (Ae 15 Z (Aj Z (A4 ⟨(),_,rfl,⟨rfl,rfl,rfl,trivial⟩,⟨a8,az,a9,Jj⟩⟩)))
             ·exact Ai (by first|rfl|(show Value.bool _=_;rw[c2])) (A0 (Ad _ [0] Z (Ae 1 Z (A3 (Aq (AK (Aq (Ag [6] Z (.bool false) Z ⟨Cd,a8⟩))))))))
           ·exact Ai (by first|rfl|(show Value.bool _=_;rw[bx])) (A0 (Ad _ [0] Z (Ae 1 Z (A3 (Aq (AK (Aq (Ag [6] Z (.bool false) Z ⟨Cd,an⟩))))))))
      ·refine Ai (by first|rfl|(show Value.bool _=_;rw[bo])) (A0 (Ad _ [0,0,0,0,2,0,0,0,0,0,0] Z ?_))
       have h5k:=of_decide_eq_true (h5b.symm.trans ‹_›)
       clear h5b
       refine Af 1 Z (Bp (!pl) Z Z Ac (Af 1 Z ?_))
       cases dv:(!pl)
       ·refine Ao (p:=(.pointer (some ⟨w1.heap.size,0,none⟩))) (b:=w1.heap.size) (o:=0) 1 BW Z Z (Al (e:=60) Z Z Z) (Ak (p:=(Az (.pointer (some ⟨w1.heap.size,0,none⟩)) 1)) (.inr Z) (.int .i64 ex.num) AI Z (a0.ldp (i:=1) sM) (Al (e:=60) Z Z Z) ?_)
        by_cases cb:ex.num≠((0:Nat):Int)
        ·exact AY true Z Z (A7 cb) (Al (e:=60) Z Z Z) (Ae 5 Z (Ai Z (A0 (Ad _ [0] Z (Ae 1 Z (A3 (AK (Aq (Ag [6] Z (.bool false) Z ⟨Cd,a2⟩)))))))))
        ·refine AY false Z Z (A8 cb) (Al (e:=60) Z Z Z) (Af 3 Z ?_)
         by_cases cc:((ex.kids.length:Nat):Int)≠((2:Nat):Int)
         ·exact AY true Z Z (A7 cc) (Al (e:=65) Z Z Z) (Ae 1 Z (Ai Z (A0 (Ad _ [0] Z (Ae 1 Z (A3 (AK (Aq (Ag [6] Z (.bool false) Z ⟨Cd,a2⟩)))))))))
         ·exact AY false Z Z (A8 cc) (Al (e:=65) Z Z Z) (Ae 1 Z (Aj Z (A4 ⟨(),_,rfl,⟨rfl,rfl,rfl,trivial⟩,⟨a2,a3,a0,Jj⟩⟩)))
       ·exact Ae 8 Z (Ai Z (A0 (Ad _ [0] Z (Ae 1 Z (A3 (AK (Aq (Ag [6] Z (.bool false) Z ⟨Cd,a2⟩))))))))
  ·clear a1 a4 ag bf
   rintro u ρ8 w8 ⟨cx,ap,ah,hwn⟩
   have cy:w.heap.size≤w8.heap.size:=cx.size
   have dw:=ap.lt
   have dx:=ah.lt
   refine A0 (A0 (Ad _ [0,2,0,0] Z (Ao (p:=(.pointer (some ⟨w1.heap.size,0,none⟩))) (b:=w1.heap.size) (o:=0) 4 Bo Z Z Ac (Ak (p:=(Az (.pointer (some ⟨w1.heap.size,0,none⟩)) 4)) (.inr Z) ve Bq Z (ah.ldp (i:=4) sM) Ac (AJ (v:=ve) DM Z hex.rn.isSl Ac (Ae 1 Z (A5 ?_)))))))
   refine AL (S:=Nat) (fun k=>([(156,(.int .i64 ((k:Nat):Int))),(2,(.int .i64 vars)),(3,(.pointer (some ⟨w.heap.size,0,none⟩))),(4,(.pointer (some ⟨w1.heap.size,0,none⟩))),(154,ve),(155,(.int .i64 ((ex.kids.length:Nat):Int)))])) (fun k W=>Ay w W∧BX W.heap w.heap.size [vp,(.int .i64 funcs)]∧BX W.heap w1.heap.size [(.int .i64 ex.kind),(.int .i64 ex.num),(.int .i64 ex.pick),(.int .i64 ex.count),ve]∧k≤ex.kids.length∧(∀j,j<k→wf p funcs (ex.kids.getD j Ex.zero) (if ex.kind=9∧j=1 then vars+1 else vars)=true)) (fun k=>ex.kids.length-k) 0 ⟨rfl,rfl,rfl,rfl,rfl,rfl,trivial⟩ ⟨cx,ap,ah,sD,(by intro j hj;omega)⟩ ?_
   clear ah ap cx cy
   rintro k ρ65 w65 ⟨b0,ae,af,cz,hall⟩
   have d9:w.heap.size≤w65.heap.size:=b0.size
   have dy:=ae.lt
   have dz:=af.lt
   refine A0 (Ad _ [0] Z ?_)
   by_cases cd:((k:Nat):Int)<((ex.kids.length:Nat):Int)
   ·refine Av true Z Z (A7 cd) Ac (Ah (A0 (Ai Z (A4 (A0 (A5 (A0 (Ad _ [0,0,2,3,0,4] Z ?_))))))))
    have hkd:=Fy (l:=ex.kids) (k:=k) oM
    refine Af 1 Z (Au (v:=ve) k DM BB Z Z hex.rn.isSl Z sD Ac ?_)
    obtain⟨cs69,d0,d1⟩:=hex.rn.get (AC dex) Ex.zero (k:=k) sD
    obtain⟨dd69,a5,e0,rfl,aq⟩:=RX.of d0
    have ce:=aq.rn.lenle
    unfold maxLen at ce
    refine AP (p:=Aw ve k 5) (.inr Z) [(.int .i64 ((ex.kids.getD k Ex.zero).kind)),(.int .i64 ((ex.kids.getD k Ex.zero).num)),(.int .i64 ((ex.kids.getD k Ex.zero).pick)),(.int .i64 ((ex.kids.getD k Ex.zero).count)),a5] BV Z (fun wq9 ad=>d1 wq9 (AE.of_ext [] (b0.trans ad))) Z Ac ?_
    have e1:=ae.lt
    have e2:=af.lt
    refine BJ (z:=.agg #[.int .i64 0,.int .i64 0,.int .i64 0,.int .i64 0,.slice none 0 0]) MU Ac fun w70 b1 e3 be=>?_
    have da:=b1.size
    have cf:=b0.trans b1
    have ak:=ae.ext b1
    have al:=af.ext b1
    replace be:BX w70.heap w65.heap.size [(.int .i64 0),(.int .i64 0),(.int .i64 0),(.int .i64 0),(.slice none 0 0)]:=be
    refine Af 1 Z (CU (vs:=[(.int .i64 ((ex.kids.getD k Ex.zero).kind)),(.int .i64 ((ex.kids.getD k Ex.zero).num)),(.int .i64 ((ex.kids.getD k Ex.zero).pick)),(.int .i64 ((ex.kids.getD k Ex.zero).count)),a5]) BV Z Z aq.ones be Z Z Ac fun w73 b2 e4 ar=>?_)
    replace ar:BX w73.heap w65.heap.size [(.int .i64 ((ex.kids.getD k Ex.zero).kind)),(.int .i64 ((ex.kids.getD k Ex.zero).num)),(.int .i64 ((ex.kids.getD k Ex.zero).pick)),(.int .i64 ((ex.kids.getD k Ex.zero).count)),a5]:=ar
    have ab:Ay w w73:=b2.below cf (fun c hc=>by have:=Ab hc;omega) cf.size
    have db:=b2.size
    have am:=ak.chg b2 (fun hm=>by have:=Ab hm;omega)
    have b3:=al.chg b2 (fun hm=>by have:=Ab hm;omega)
    refine Ah (A0 (Ad _ [0,0] Z (Ae 2 Z (A0 (A0 (Ad _ [0,2,0,0,0,0,0] Z (Ao (p:=(.pointer (some ⟨w1.heap.size,0,none⟩))) (b:=w1.heap.size) (o:=0) 0 C3 Z Z Ac (Ak (p:=(Az (.pointer (some ⟨w1.heap.size,0,none⟩)) 0)) (.inr Z) (.int .i64 ex.kind) AI Z (b3.ldp (i:=0) sM) Ac ?_))))))))
    by_cases cg:ex.kind=((9:Nat):Int)
    ·refine AA true Z Z (A7 cg) Ac (Af 2 Z ?_)
     by_cases ch:((k:Nat):Int)=((1:Nat):Int)
     ·refine AA true Z Z (A7 ch) (Al (e:=165) Z Z Z) (Ae 1 Z (Ai Z (Ad _ [0,0,0] Z (Af 1 Z (AH (vars+1) Z Z (DX oM oM) Ac (Ae 1 Z (A0 (Ad _ [2,2,0,3,0] Z (AP (p:=(.pointer (some ⟨w.heap.size,0,none⟩))) (.inr Z) [vp,(.int .i64 funcs)] Ra Z (fun wq9 ad=>LD.of_box (BX.ext (w:=w73) am ad)) Z Ac (AP (p:=(.pointer (some ⟨w65.heap.size,0,none⟩))) (.inr Z) [(.int .i64 ((ex.kids.getD k Ex.zero).kind)),(.int .i64 ((ex.kids.getD k Ex.zero).num)),(.int .i64 ((ex.kids.getD k Ex.zero).pick)),(.int .i64 ((ex.kids.getD k Ex.zero).count)),a5] BV Z (fun wq9 ad=>LD.of_box (BX.ext (w:=w73) ar ad)) Z Ac (Af 1 Z ?_)))))))))))
      refine Ap 231 [] [] [(.agg #[vp,(.int .i64 funcs)]),(.agg #[(.int .i64 ((ex.kids.getD k Ex.zero).kind)),(.int .i64 ((ex.kids.getD k Ex.zero).num)),(.int .i64 ((ex.kids.getD k Ex.zero).pick)),(.int .i64 ((ex.kids.getD k Ex.zero).count)),a5]),(.int .i64 (vars+1))] Z Z SZ Ac (ih dd69 oM _ dp vp (p) (funcs) a5 (ex.kids.getD k Ex.zero) _ (hp.ext (Am (AB dp)) ab) _hfuncs (aq.ext ab) oM oM oM) ?_
      rintro e78 w78 ⟨rfl,au⟩
      refine⟨_,rfl,au,?_⟩
      have dc:=au.size
      have ci:=ab.trans au
      have b4:=am.ext au
      have b6:=b3.ext au
      refine Bp (!(wf p funcs (ex.kids.getD k Ex.zero) (vars+1))) Z Z Ac (Ah ?_)
      cases cj:(!(wf p funcs (ex.kids.getD k Ex.zero) (vars+1)))
      ·refine Aj (by first|rfl|(show Value.bool _=_;rw[cj])) (A4 (Ad _ [0,0] Z (AH ((k+1:Nat):Int) Z Z (B7 oM sD) Ac (Ae 1 Z ?_))))
       exact⟨(k+1),_,rfl,⟨rfl,rfl,rfl,rfl,rfl,rfl,trivial⟩,⟨ci,b4,b6,sD,Re⟩,by first|omega|(dsimp only;omega)⟩
      ·exact Ai (by first|rfl|(show Value.bool _=_;rw[cj])) (A0 (Ad _ [0] Z (Ae 1 Z (A3 (AK (Aq (Aq (AK (Aq (Ag [6] Z (.bool false) Z ⟨Cd,ci⟩))))))))))
     ·refine AA false Z Z (A8 ch) (Al (e:=165) Z Z Z) (Ae 1 Z (Aj Z (A4 (A0 (Ad _ [2,2,0,3,0] Z (AP (p:=(.pointer (some ⟨w.heap.size,0,none⟩))) (.inr Z) [vp,(.int .i64 funcs)] Ra Z (fun wq9 ad=>LD.of_box (BX.ext (w:=w73) am ad)) Z Ac (AP (p:=(.pointer (some ⟨w65.heap.size,0,none⟩))) (.inr Z) [(.int .i64 ((ex.kids.getD k Ex.zero).kind)),(.int .i64 ((ex.kids.getD k Ex.zero).num)),(.int .i64 ((ex.kids.getD k Ex.zero).pick)),(.int .i64 ((ex.kids.getD k Ex.zero).count)),a5] BV Z (fun wq9 ad=>LD.of_box (BX.ext (w:=w73) ar ad)) Z Ac (Af 1 Z ?_))))))))
      refine Ap 231 [] [] [(.agg #[vp,(.int .i64 funcs)]),(.agg #[(.int .i64 ((ex.kids.getD k Ex.zero).kind)),(.int .i64 ((ex.kids.getD k Ex.zero).num)),(.int .i64 ((ex.kids.getD k Ex.zero).pick)),(.int .i64 ((ex.kids.getD k Ex.zero).count)),a5]),(.int .i64 vars)] Z Z SZ Ac (ih dd69 oM _ dp vp (p) (funcs) a5 (ex.kids.getD k Ex.zero) _ (hp.ext (Am (AB dp)) ab) _hfuncs (aq.ext ab) _hvars oM oM) ?_
      rintro e80 w80 ⟨rfl,av⟩
      refine⟨_,rfl,av,?_⟩
      have dd:=av.size
      have ck:=ab.trans av
      have b7:=am.ext av
      have b8:=b3.ext av
      refine Bp (!(wf p funcs (ex.kids.getD k Ex.zero) vars)) Z Z Ac (Ah ?_)
      cases cl:(!(wf p funcs (ex.kids.getD k Ex.zero) vars))
      ·refine Aj (by first|rfl|(show Value.bool _=_;rw[cl])) (A4 (Ad _ [0,0] Z (AH ((k+1:Nat):Int) Z Z (B7 oM sD) Ac (Ae 1 Z ?_))))
       exact⟨(k+1),_,rfl,⟨rfl,rfl,rfl,rfl,rfl,rfl,trivial⟩,⟨ck,b7,b8,sD,Re⟩,by first|omega|(dsimp only;omega)⟩
      ·exact Ai (by first|rfl|(show Value.bool _=_;rw[cl])) (A0 (Ad _ [0] Z (Ae 1 Z (A3 (AK (Aq (Aq (AK (Aq (Ag [6] Z (.bool false) Z ⟨Cd,ck⟩))))))))))
    ·refine AA false Z Z (A8 cg) Ac (Ae 4 Z (Aj Z (A4 (A0 (Ad _ [2,2,0,3,0] Z (AP (p:=(.pointer (some ⟨w.heap.size,0,none⟩))) (.inr Z) [vp,(.int .i64 funcs)] Ra Z (fun wq9 ad=>LD.of_box (BX.ext (w:=w73) am ad)) Z Ac (AP (p:=(.pointer (some ⟨w65.heap.size,0,none⟩))) (.inr Z) [(.int .i64 ((ex.kids.getD k Ex.zero).kind)),(.int .i64 ((ex.kids.getD k Ex.zero).num)),(.int .i64 ((ex.kids.getD k Ex.zero).pick)),(.int .i64 ((ex.kids.getD k Ex.zero).count)),a5] BV Z (fun wq9 ad=>LD.of_box (BX.ext (w:=w73) ar ad)) Z Ac (Af 1 Z ?_))))))))
     refine Ap 231 [] [] [(.agg #[vp,(.int .i64 funcs)]),(.agg #[(.int .i64 ((ex.kids.getD k Ex.zero).kind)),(.int .i64 ((ex.kids.getD k Ex.zero).num)),(.int .i64 ((ex.kids.getD k Ex.zero).pick)),(.int .i64 ((ex.kids.getD k Ex.zero).count)),a5]),(.int .i64 vars)] Z Z SZ Ac (ih dd69 oM _ dp vp (p) (funcs) a5 (ex.kids.getD k Ex.zero) _ (hp.ext (Am (AB dp)) ab) _hfuncs (aq.ext ab) _hvars oM oM) ?_
     rintro e82 w82 ⟨rfl,aw⟩
     refine⟨_,rfl,aw,?_⟩
     have de:=aw.size
     have cm:=ab.trans aw
     have b9:=am.ext aw
     have ba:=b3.ext aw
     refine Bp (!(wf p funcs (ex.kids.getD k Ex.zero) vars)) Z Z Ac (Ah ?_)
     cases cn:(!(wf p funcs (ex.kids.getD k Ex.zero) vars))
     ·refine Aj (by first|rfl|(show Value.bool _=_;rw[cn])) (A4 (Ad _ [0,0] Z (AH ((k+1:Nat):Int) Z Z (B7 oM sD) Ac (Ae 1 Z ?_))))
      exact⟨(k+1),_,rfl,⟨rfl,rfl,rfl,rfl,rfl,rfl,trivial⟩,⟨cm,b9,ba,sD,Re⟩,by first|omega|(dsimp only;omega)⟩
     ·exact Ai (by first|rfl|(show Value.bool _=_;rw[cn])) (A0 (Ad _ [0] Z (Ae 1 Z (A3 (AK (Aq (Aq (AK (Aq (Ag [6] Z (.bool false) Z ⟨Cd,cm⟩))))))))))
   ·exact Av false Z Z (A8 cd) Ac (Ah (A0 (Aj Z (A6 (As (As (An (A0 (Ad _ [0] Z (Ae 1 Z (A3 (Ag [6] Z (.bool true) Z ⟨Cd,b0⟩))))))))))))
end
section
set_option maxHeartbeats 4000000
set_option maxRecDepth 100000
attribute [local irreducible] LW
theorem Rf {s:ByteArray}{k:Nat}(hk:k<s.size)(h:(Kk s k<97∨122<Kk s k)∧(k=0∨Kk s k<48∨57<Kk s k)):false=Pq s:=by
  have hc:ZI s k=false:=by
    unfold ZI
    rcases h with⟨h1|h1,h2|h2|h2⟩ <;> simp <;> omega
  unfold Pq
  rw[KG hk hc,Bool.and_false]
theorem Td {s:ByteArray}{k:Nat}(h:(97≤Kk s k∧Kk s k≤122)∨(k≠0∧48≤Kk s k∧Kk s k≤57)):ZI s k=true:=by
  unfold ZI
  rcases h with h|h <;> simp <;> omega
theorem XI {s:ByteArray}{k:Nat}{b:Bool}(h:(List.range k).all (ZI s)=true)(hk:k=s.size)(hb:b=(decide (1≤s.size) && decide (s.size≤12))):b=Pq s:=by
  subst hk
  unfold Pq
  rw[h,Bool.and_true,hb]
theorem Ig {p:Prop}(h:p:=by first|exact AG (Rf (k:=k) oM oM)|exact AG (XI hq oM (by first|(rw[A7 (show 1≤s.size by omega),Bool.true_and];exact decide_eq_decide.2 oM)|(rw[A8 (show ¬1≤s.size by omega)];rfl)))):p:=h
theorem NA (w:World)(s:ByteArray)  (hl:s.size≤1000000000) :
  Calls Tryz.prog 194 #[.string s] w (fun e w'=>e=.returned (.bool (Pq s))∧w'=w):=by
 refine At [.string s] 44 Tryz.func194 Z Z sM ?_
 have a3:w=w:=rfl
 refine A0 (Ad _ [0] Z (Ae 1 Z (A0 (A0 (Ad _ [0,0,0] Z (Af 1 Z (Ko (s:=s) u9 Z Ac (Ae 1 Z (A5 ?_)))))))))
 refine AL (S:=Nat) (fun k=>([(6,(.int .i64 ((k:Nat):Int))),(0,(.string s)),(5,(.int .i64 ((s.size:Nat):Int)))])) (fun k W=>W=w∧k≤s.size∧(List.range k).all (ZI s)=true) (fun k=>s.size-k) 0 ⟨rfl,rfl,rfl,trivial⟩ ⟨a3,sD,(by rfl)⟩ ?_
 clear a3
 rintro k ρ1 w1 ⟨a0,a4,hq⟩
 refine A0 (Ad _ [0] Z ?_)
 by_cases a5:((k:Nat):Int)<((s.size:Nat):Int)
 ·refine Av true Z Z (A7 a5) Ac (Ah (A0 (Ai Z (A4 (A0 (A5 (A0 (Ad _ [0,0] Z (Ae 2 Z (A0 (Ad _ [0,0,0,0,0,0,0,0,0,0,0,0,0,0,0,0,0,0,0,0,0,0,0,0,0,0] Z (Af 2 Z (Dl (s:=s) k u9 Z Z Z sD Ac ?_)))))))))))))
  by_cases a6:((Kk s k:Nat):Int)<97
  ·refine Av true Z Z (A7 a6) Ac (Af 8 Z ?_)
   by_cases a7:((k:Nat):Int)=((0:Nat):Int)
   ·exact AA true Z Z (A7 a7) (Al (e:=19) Z Z Z) (Ae 13 Z (Ai Z (A0 (Ad _ [0] Z (Ae 1 Z (A3 (AK (Aq (Aq (AK (Aq (Ag [2] Z (.bool false) Z ⟨Ig,a0⟩))))))))))))
   ·refine AA false Z Z (A8 a7) (Al (e:=19) Z Z Z) (Af 3 Z (Dl (s:=s) k u9 Z Z Z sD (Al (e:=22) Z Z Z) ?_))
    by_cases a8:((Kk s k:Nat):Int)<48
    ·exact Av true Z Z (A7 a8) (Al (e:=22) Z Z Z) (Ae 8 Z (Ai Z (A0 (Ad _ [0] Z (Ae 1 Z (A3 (AK (Aq (Aq (AK (Aq (Ag [2] Z (.bool false) Z ⟨Ig,a0⟩))))))))))))
    ·refine Av false Z Z (A8 a8) (Al (e:=22) Z Z Z) (Af 4 Z (Dl (s:=s) k u9 Z Z Z sD (Al (e:=28) Z Z Z) ?_))
     by_cases a9:57<((Kk s k:Nat):Int)
     ·exact C4 true Z Z (A7 a9) (Al (e:=28) Z Z Z) (Ae 2 Z (Ai Z (A0 (Ad _ [0] Z (Ae 1 Z (A3 (AK (Aq (Aq (AK (Aq (Ag [2] Z (.bool false) Z ⟨Ig,a0⟩))))))))))))
     ·refine C4 false Z Z (A8 a9) (Al (e:=28) Z Z Z) (Ae 2 Z (Aj Z (A4 (Ad _ [0,0] Z (AH ((k+1:Nat):Int) Z Z (B7 oM sD) Ac (Ae 1 Z ?_))))))
      exact⟨(k+1),_,rfl,⟨rfl,rfl,rfl,trivial⟩,⟨a0,sD,(by exact Eb hq (Td oM))⟩,by first|omega|(dsimp only;omega)⟩
  ·refine Av false Z Z (A8 a6) Ac (Af 3 Z (Dl (s:=s) k u9 Z Z Z sD (Al (e:=13) Z Z Z) ?_))
   by_cases aa:122<((Kk s k:Nat):Int)
   ·refine C4 true Z Z (A7 aa) (Al (e:=13) Z Z Z) (Af 3 Z ?_)
    by_cases ab:((k:Nat):Int)=((0:Nat):Int)
    ·exact AA true Z Z (A7 ab) (Al (e:=19) Z Z Z) (Ae 13 Z (Ai Z (A0 (Ad _ [0] Z (Ae 1 Z (A3 (AK (Aq (Aq (AK (Aq (Ag [2] Z (.bool false) Z ⟨Ig,a0⟩))))))))))))
    ·refine AA false Z Z (A8 ab) (Al (e:=19) Z Z Z) (Af 3 Z (Dl (s:=s) k u9 Z Z Z sD (Al (e:=22) Z Z Z) ?_))
     by_cases ac:((Kk s k:Nat):Int)<48
     ·exact Av true Z Z (A7 ac) (Al (e:=22) Z Z Z) (Ae 8 Z (Ai Z (A0 (Ad _ [0] Z (Ae 1 Z (A3 (AK (Aq (Aq (AK (Aq (Ag [2] Z (.bool false) Z ⟨Ig,a0⟩))))))))))))
     ·refine Av false Z Z (A8 ac) (Al (e:=22) Z Z Z) (Af 4 Z (Dl (s:=s) k u9 Z Z Z sD (Al (e:=28) Z Z Z) ?_))
      by_cases a1:57<((Kk s k:Nat):Int)
      ·exact C4 true Z Z (A7 a1) (Al (e:=28) Z Z Z) (Ae 2 Z (Ai Z (A0 (Ad _ [0] Z (Ae 1 Z (A3 (AK (Aq (Aq (AK (Aq (Ag [2] Z (.bool false) Z ⟨Ig,a0⟩))))))))))))
      ·refine C4 false Z Z (A8 a1) (Al (e:=28) Z Z Z) (Ae 2 Z (Aj Z (A4 (Ad _ [0,0] Z (AH ((k+1:Nat):Int) Z Z (B7 oM sD) Ac (Ae 1 Z ?_))))))
       exact⟨(k+1),_,rfl,⟨rfl,rfl,rfl,trivial⟩,⟨a0,sD,(by exact Eb hq (Td oM))⟩,by first|omega|(dsimp only;omega)⟩
   ·refine C4 false Z Z (A8 aa) (Al (e:=13) Z Z Z) (Ae 17 Z (Aj Z (A4 (Ad _ [0,0] Z (AH ((k+1:Nat):Int) Z Z (B7 oM sD) Ac (Ae 1 Z ?_))))))
    exact⟨(k+1),_,rfl,⟨rfl,rfl,rfl,trivial⟩,⟨a0,sD,(by exact Eb hq (Td oM))⟩,by first|omega|(dsimp only;omega)⟩
 ·refine Av false Z Z (A8 a5) Ac (Ah (A0 (Aj Z (A6 (As (As (An (A0 (Ad _ [0,0,0,0,0,0,0,0,0] Z (Af 1 Z (Ko (s:=s) u9 Z Ac ?_)))))))))))
  by_cases a2:((1:Nat):Int)≤((s.size:Nat):Int)
  ·exact FR true Z Z (A7 a2) Ac (Af 2 Z (Ko (s:=s) u9 Z (Al (e:=39) Z Z Z) (Ei (decide (((s.size:Nat):Int)≤((12:Nat):Int))) Z Z Z (Al (e:=39) Z Z Z) (Ae 2 Z (A3 (Ag [2] Z (.bool (decide (((s.size:Nat):Int)≤((12:Nat):Int)))) Z ⟨Ig,a0⟩))))))
  ·exact FR false Z Z (A8 a2) Ac (Ae 6 Z (A3 (Ag [2] Z (.bool false) Z ⟨Ig,a0⟩)))
theorem HS (w:World)(dx:Nat)(vo:Value)(x:Fn)(bf:Nat)(vf:Value)(f:Fn)(hx:RF [] dx w.heap vo x)(hBf:BX w.heap bf [.string f.name,.int .i64 f.params,vf])  :
  Calls Tryz.prog 196 #[(.agg #[(.string x.name),(.int .i64 x.params),vo]),.pointer (some ⟨bf,0,none⟩)] w (fun e w'=>e=.returned (.bool (GN x.name f.name))∧Ay w w'):=by
 refine At [(.agg #[(.string x.name),(.int .i64 x.params),vo]),.pointer (some ⟨bf,0,none⟩)] 9 Tryz.func196 Z Z sM ?_
 have a3:Ay w w:=Ay.refl w
 have hl_vo:=hx.rn.lenle
 unfold maxLen at hl_vo
 refine A0 (Ad _ [3,0] Z ?_)
 have a6:=hBf.lt
 refine Bv (cs:=#[(.string x.name),(.int .i64 x.params),vo]) Z Ac fun w1 a1 a7 a2=>?_
 have a4:=a1.size
 have a5:=a3.trans a1
 have a0:=hBf.ext a1
 replace a2:BX w1.heap w.heap.size [(.string x.name),(.int .i64 x.params),vo]:=a2
 exact Ae 1 Z (A0 (Ad _ [0,2,0,2,0,0] Z (Ao (p:=(.pointer (some ⟨w.heap.size,0,none⟩))) (b:=w.heap.size) (o:=0) 0 GB Z Z Ac (Ak (p:=(Az (.pointer (some ⟨w.heap.size,0,none⟩)) 0)) (.inr Z) (.string x.name) Nz Z (a2.ldp (i:=0) sM) Ac (Ao (p:=(.pointer (some ⟨bf,0,none⟩))) (b:=bf) (o:=0) 0 GB Z Z Ac (Ak (p:=(Az (.pointer (some ⟨bf,0,none⟩)) 0)) (.inr Z) (.string f.name) Nz Z (a0.ldp (i:=0) sM) Ac (QB (GN x.name f.name) u9 Z Z Z Ac (Ae 1 Z (A3 (Ag [3] Z (.bool (GN x.name f.name)) Z ⟨rfl,a5⟩))))))))))
theorem De (w:World) (da:Nat) (va:Value) (a:List Fn) (q:Nat) (qf qc:List Value) (pr:Fn→Bool) (ha:RP [] da w.heap va a) (hcf_q:((Tryz.prog.funcs[q]?).map fun fn=>(fn.name != "runtime.NumGoroutine") && fn.body.isSome) = some true) (hpr:∀ (d9:Nat) (u:Value) (x:Fn) w1,RF [] d9 w1.heap u x→Ay w w1→Calls Tryz.prog q (qf++[Value.agg #[Value.string x.name,Value.int .i64 x.params,u]]++qc).toArray w1 (fun e w2=>e = .returned (.bool (pr x))∧Ay w1 w2))  :
  Calls Tryz.prog 228 #[va,.func (.func q) qf.toArray qc.toArray] w (fun e w'=>e = .returned (.int .i64 (Rb pr a))∧Ay w w'):=by
 refine At [va,.func (.func q) qf.toArray qc.toArray] 19 Tryz.func228 Z Z sM ?_
 have a5:Ay w w:=Ay.refl w
 have hl_va:=ha.lenle
 unfold maxLen at hl_va
 refine A0 (Ad _ [0] Z (Ae 1 Z (A0 (A0 (Ad _ [0,0,0] Z (Af 1 Z (AJ (v:=va) GA Z ha.isSl Ac (Ae 1 Z (A5 ?_)))))))))
 refine AL (S:=Nat) (fun k=>([(8,(.int .i64 ((k :Nat):Int))),(0,va),(1,(.func (.func q) qf.toArray qc.toArray)),(7,(.int .i64 ((a.length :Nat):Int)))])) (fun k W=>Ay w W∧k≤a.length∧(∀ j,j < k→pr (a.getD j Fn.zero) = false)) (fun k=>a.length - k) 0 ⟨rfl,rfl,rfl,rfl,trivial⟩ ⟨a5,sD,(by intro j hj; omega)⟩ ?_
 clear a5
 rintro k ρ1 w1 ⟨a1,a6,hq⟩
 have aa:w.heap.size≤w1.heap.size:=a1.size
 refine A0 (Ad _ [0] Z ?_)
 by_cases a7:((k :Nat):Int) < ((a.length :Nat):Int)
 ·
  refine Av true Z Z (A7 a7) Ac (Ah (A0 (Ai Z (A4 (A0 (A5 (A0 (Ad _ [0,0] Z (Ae 2 Z (A0 (Ad _ [0,0,0,0,2,3] Z (Af 3 Z (Au (v:=va) k GA CE Z Z ha.isSl Z sD Ac ?_)))))))))))))
  obtain ⟨cs3,ab,ac⟩:=ha.get (AB da) Fn.zero (k:=k) sD
  obtain ⟨a8,rfl,a2⟩:=RF.of ab
  have a3:=a2.rn.lenle
  unfold maxLen at a3
  refine AP (p:=Aw va k 3) (.inr Z) [(.string ((a.getD k Fn.zero).name)),(.int .i64 ((a.getD k Fn.zero).params)),a8] Ib Z (fun wq9 ad=>ac wq9 (AE.of_ext [] (a1.trans ad))) Z Ac ?_
  have a0:=hpr da a8 (a.getD k Fn.zero) w1 ⟨a2.rng,(a2.rn.ext (Am (AC da)) a1)⟩ a1
  refine Ap q qf qc _ Z Z hcf_q Ac a0 ?_
  rintro e4 w4 ⟨rfl,a4⟩
  refine ⟨_,rfl,a4,?_⟩
  have ae:=a4.size
  have a9:=a1.trans a4
  cases af:pr (a.getD k Fn.zero)
  ·
   refine Ah (Aj Z (A4 (Ad _ [0,0] Z (AH ((k + 1 :Nat):Int) Z Z (B7 oM sD) Ac (Ae 1 Z ?_)))))
   exact ⟨(k + 1),_,rfl,⟨rfl,rfl,rfl,rfl,trivial⟩,⟨a9,sD,(by exact Pd hq (by assumption))⟩,by first | omega | (dsimp only; omega)⟩
  ·
   exact Ah (Ai Z (A0 (Ad _ [0,0] Z (Ae 2 Z (A3 (AK (Aq (Aq (AK (Aq (Ag [4] Z (.int .i64 ((k :Nat):Int)) Z ⟨(AS (Rc Fn.zero hq oM (by assumption))),a9⟩)))))))))))
 ·
  exact Av false Z Z (A8 a7) Ac (Ah (A0 (Aj Z (A6 (As (As (An (A0 (Ad _ [0] Z (Ae 1 Z (A3 (Ag [4] Z (.int .i64 (-1)) Z ⟨(AS (XF Fn.zero hq oM)),a1⟩))))))))))))
theorem CX (w:World) (da:Nat) (va:Value) (a:List Fn) (q:Nat) (qf qc:List Value) (pr:Fn→Bool) (ha:RP [] da w.heap va a) (hcf_q:((Tryz.prog.funcs[q]?).map fun fn=>(fn.name != "runtime.NumGoroutine") && fn.body.isSome) = some true) (hpr:∀ (d9:Nat) (u:Value) (x:Fn) w1,RF [] d9 w1.heap u x→Ay w w1→Calls Tryz.prog q (qf++[Value.agg #[Value.string x.name,Value.int .i64 x.params,u]]++qc).toArray w1 (fun e w2=>e = .returned (.bool (pr x))∧Ay w1 w2))  :
  Calls Tryz.prog 195 #[va,.func (.func q) qf.toArray qc.toArray] w (fun e w'=>e = .returned (.bool (a.any pr))∧Ay w w'):=by
 refine At [va,.func (.func q) qf.toArray qc.toArray] 9 Tryz.func195 Z Z sM ?_
 have a0:Ay w w:=Ay.refl w
 have hl_va:=ha.lenle
 unfold maxLen at hl_va
 refine A0 (Ad _ [0] Z (Ae 1 Z (A0 (Ad _ [0,0,3,0,0] Z (Af 2 Z (Ap 228 [] [] [va,(.func (.func q) qf.toArray qc.toArray)] Z Z jI Ac (De _ da va (a) q qf qc pr (ha.ext (Am (AB da)) a0) hcf_q (fun d9 u x w1 hx hw=>hpr d9 u x w1 hx (a0.trans hw))) ?_))))))
 rintro e1 w1 ⟨rfl,a1⟩
 refine ⟨_,rfl,a1,?_⟩
 have a2:=a1.size
 have a3:=a0.trans a1
 exact FR (decide (((0 :Nat):Int)≤Rb pr a)) Z Z Z Ac (Ae 1 Z (A3 (Ag [4] Z (.bool (decide (((0 :Nat):Int)≤Rb pr a))) Z ⟨(AG (XG pr a)),a3⟩)))
theorem MX (w:World)(vars:Int)(_hvars:BC vars)  :
  Calls Tryz.prog 229 #[.int .i64 vars] w (fun e w'=>e=.returned (.bool (HC vars 0 412))∧w'=w):=by
 refine At [.int .i64 vars] 5 Tryz.func229 Z Z sM ?_
 have a0:w=w:=rfl
 exact A0 (Ad _ [0] Z (Ae 1 Z (A0 (Ad _ [0,0,0] Z (Af 1 Z (AD 72 [] [] [(.int .i64 vars),(.int .i64 ((0:Nat):Int)),(.int .i64 ((412:Nat):Int))] Z Z KO Ac (.bool (decide (((0:Nat):Int)≤vars) && decide (vars≤((412:Nat):Int)))) (fun wq=>BD wq _ _ _ _hvars oM oM) (Ae 1 Z (A3 (Ag [2] Z (.bool (decide (((0:Nat):Int)≤vars) && decide (vars≤((412:Nat):Int)))) Z ⟨rfl,a0⟩)))))))))
theorem Te {p:List Fn}{e:Ex}{vars funcs:Int}(h:(0≤vars∧vars≤412)∧(0≤funcs∧funcs≤((p.length:Nat):Int))∧e.size≤400∧e.deep≤60):wf p funcs e vars=O6 p e vars funcs:=by
  unfold O6
  rw[CL.2 h.1,CL.2 h.2.1,A7 h.2.2.1,A7 h.2.2.2];rfl
theorem Ok {p:List Fn}{e:Ex}{vars funcs:Int}(h:¬((0≤vars∧vars≤412)∧(0≤funcs∧funcs≤((p.length:Nat):Int))∧e.size≤400∧e.deep≤60)):false=O6 p e vars funcs:=by
  cases hh:O6 p e vars funcs with
  |false=>rfl
  |true =>
    unfold O6 at hh
    simp only[Bool.and_eq_true,decide_eq_true_eq,CL]at hh
    exact absurd ⟨hh.1,hh.2.1,hh.2.2.1,hh.2.2.2.1⟩ h
theorem bL {p:List Fn}{e:Ex}{vars funcs:Int}(h:wf p funcs e vars=false):false=O6 p e vars funcs:=by
  unfold O6;rw[h];simp
theorem XJ {x a b:Int}(h:HC x a b=false):¬(a≤x∧x≤b):=fun hh=>by rw[CL.2 hh]at h;cases h
theorem Qp {x a b:Int}(h:(decide (a≤x) && decide (x≤b))=false):¬(a≤x∧x≤b):=XJ h
theorem H7 {x a b:Int}(h:(decide (a≤x) && decide (x≤b))=true):a≤x∧x≤b:=CL.1 h
theorem MY {p:Prop}(h:p:=by first|exact AG (bL (by assumption))|exact AG (Te ⟨CL.1 (by assumption),H7 (by assumption),by omega,by omega⟩)|exact AG ((by assumption:wf p funcs ex vars=true).symm.trans (Te ⟨CL.1 (by assumption),H7 (by assumption),by omega,by omega⟩))|exact AG (Ok fun hh=>XJ (by assumption) hh.1)|exact AG (Ok fun hh=>Qp (by assumption) hh.2.1)|exact AG (Ok oM)):p:=h
theorem KQ (w:World)(dp:Nat)(vp:Value)(p:List Fn)(dex:Nat)(ve:Value)(ex:Ex)(vars:Int)(funcs:Int)(hp:RP [] dp w.heap vp p)(hex:RX [] dex w.heap ve ex)(_hvars:BC vars)(_hfuncs:BC funcs)(hs:ex.size≤1000000000) :
  Calls Tryz.prog 197 #[(.agg #[vp]),(.agg #[(.int .i64 ex.kind),(.int .i64 ex.num),(.int .i64 ex.pick),(.int .i64 ex.count),ve]),.int .i64 vars,.int .i64 funcs] w (fun e w'=>e=.returned (.bool (O6 p ex vars funcs))∧Ay w w'):=by
 refine At [(.agg #[vp]),(.agg #[(.int .i64 ex.kind),(.int .i64 ex.num),(.int .i64 ex.pick),(.int .i64 ex.count),ve]),.int .i64 vars,.int .i64 funcs] 36 Tryz.func197 Z Z sM ?_
 have am:Ay w w:=Ay.refl w
 have hl_vp:=hp.lenle
 unfold maxLen at hl_vp
 have hl_ve:=hex.rn.lenle
 unfold maxLen at hl_ve
 refine A0 (Ad _ [3,3,0] Z (Bv (cs:=#[vp]) Z Ac fun w1 ai ar ac=>?_))
 have an:=ai.size
 have ao:=am.trans ai
 replace ac:BX w1.heap w.heap.size [vp]:=ac
 have au:=ac.lt
 refine Bv (cs:=#[(.int .i64 ex.kind),(.int .i64 ex.num),(.int .i64 ex.pick),(.int .i64 ex.count),ve]) Z Ac fun w2 af av ad=>?_
 have ap:=af.size
 have ae:=ao.trans af
 have a2:=ac.ext af
 replace ad:BX w2.heap w1.heap.size [(.int .i64 ex.kind),(.int .i64 ex.num),(.int .i64 ex.pick),(.int .i64 ex.count),ve]:=ad
 refine Ae 1 Z (A0 (Ad _ [0,0,0,0,0,2,0,0,0,0,2,3,0,0,0,2,3,0,0,0,2,0,0,2,0,3,0,0] Z (Af 1 Z (AD 229 [] [] [(.int .i64 vars)] Z Z jJ Ac (.bool (HC vars 0 412)) (fun wq=>MX wq _ _hvars) (Af 1 Z ?_)))))
 cases aw:(HC vars 0 412)
 ·exact Ae 25 Z (A3 (Ag [8] Z (.bool false) Z ⟨MY,ae⟩))
 ·refine Af 1 Z (Ao (p:=(.pointer (some ⟨w.heap.size,0,none⟩))) (b:=w.heap.size) (o:=0) 0 BU Z Z (Al (e:=11) Z Z Z) (Ak (p:=(Az (.pointer (some ⟨w.heap.size,0,none⟩)) 0)) (.inr Z) vp Cx Z (a2.ldp (i:=0) sM) (Al (e:=11) Z Z Z) (AJ (v:=vp) GA Z hp.isSl (Al (e:=11) Z Z Z) (AD 72 [] [] [(.int .i64 funcs),(.int .i64 ((0:Nat):Int)),(.int .i64 ((p.length:Nat):Int))] Z Z KO (Al (e:=11) Z Z Z) (.bool (decide (((0:Nat):Int)≤funcs) && decide (funcs≤((p.length:Nat):Int)))) (fun wq=>BD wq _ _ _ _hfuncs oM oM) (Af 2 Z ?_)))))
  cases ax:(decide (((0:Nat):Int)≤funcs) && decide (funcs≤((p.length:Nat):Int)))
  ·exact Ae 18 Z (A3 (Ag [8] Z (.bool false) Z ⟨MY,ae⟩))
  ·refine AP (p:=(.pointer (some ⟨w1.heap.size,0,none⟩))) (.inr Z) [(.int .i64 ex.kind),(.int .i64 ex.num),(.int .i64 ex.pick),(.int .i64 ex.count),ve] BV Z (fun wq9 a4=>LD.of_box (BX.ext (w:=w2) ad a4)) Z (Al (e:=18) Z Z Z) (Ap 198 [] [] [(.agg #[(.int .i64 ex.kind),(.int .i64 ex.num),(.int .i64 ex.pick),(.int .i64 ex.count),ve])] Z Z Xu (Al (e:=18) Z Z Z) (HL _ dex ve (ex) (hex.ext ae) oM) ?_)
   rintro e8 w8 ⟨rfl,a8⟩
   refine⟨_,rfl,a8,?_⟩
   have aq:=a8.size
   have ag:=ae.trans a8
   have a9:=a2.ext a8
   have a3:=ad.ext a8
   by_cases aj:((ex.size:Nat):Int)≤((400:Nat):Int)
   ·refine Ei true Z Z (A7 aj) (Al (e:=18) Z Z Z) (Af 2 Z (AP (p:=(.pointer (some ⟨w1.heap.size,0,none⟩))) (.inr Z) [(.int .i64 ex.kind),(.int .i64 ex.num),(.int .i64 ex.pick),(.int .i64 ex.count),ve] BV Z (fun wq9 a4=>LD.of_box (BX.ext (w:=w8) a3 a4)) Z (Al (e:=23) Z Z Z) (Ap 230 [] [] [(.agg #[(.int .i64 ex.kind),(.int .i64 ex.num),(.int .i64 ex.pick),(.int .i64 ex.count),ve])] Z Z bG (Al (e:=23) Z Z Z) (KP _ dex ve (ex) (hex.ext ag) oM) ?_)))
    rintro e10 w10 ⟨rfl,a0⟩
    refine⟨_,rfl,a0,?_⟩
    have ak:=a0.size
    have a1:=ag.trans a0
    have a5:=a9.ext a0
    have a6:=a3.ext a0
    by_cases aa:((ex.deep:Nat):Int)≤((60:Nat):Int)
    ·refine Ei true Z Z (A7 aa) (Al (e:=23) Z Z Z) (Af 2 Z (AP (p:=(.pointer (some ⟨w.heap.size,0,none⟩))) (.inr Z) [vp] Eq Z (fun wq9 a4=>LD.of_box (BX.ext (w:=w10) a5 a4)) Z (Al (e:=28) Z Z Z) (Af 1 Z ?_)))
     have ab:∀(vp:Value) (m12_0:Nat) (h12_0:FC vp m12_0) (wq:World),(Instr.build 237 #[(0,(.agg #[vp])),(1,(.int .i64 funcs))]).run Tryz.prog wq=.ok (.agg #[vp,(.int .i64 funcs)]) wq:=by intro vp m12_0 h12_0 wq;obtain⟨a12_0,c12_0,rfl,_⟩:=h12_0;kernel_rfl
     refine EO (ps:=#[(0,(.agg #[vp])),(1,(.int .i64 funcs))]) (.agg #[vp,(.int .i64 funcs)]) (by simp only[List.map_toArray,List.map_cons,List.map_nil];rfl) (fun wq=>ab vp _ hp.isSl wq) (Al (e:=28) Z Z Z) (AP (p:=(.pointer (some ⟨w1.heap.size,0,none⟩))) (.inr Z) [(.int .i64 ex.kind),(.int .i64 ex.num),(.int .i64 ex.pick),(.int .i64 ex.count),ve] BV Z (fun wq9 a4=>LD.of_box (BX.ext (w:=w10) a6 a4)) Z (Al (e:=28) Z Z Z) (Af 1 Z ?_))
     refine Ap 231 [] [] [(.agg #[vp,(.int .i64 funcs)]),(.agg #[(.int .i64 ex.kind),(.int .i64 ex.num),(.int .i64 ex.pick),(.int .i64 ex.count),ve]),(.int .i64 vars)] Z Z SZ (Al (e:=28) Z Z Z) (H6 _ dp vp (p) (funcs) dex ve (ex) _ (hp.ext (Am (AB dp)) a1) _hfuncs (hex.ext a1) _hvars (by have h1:=CL.1 (by assumption:HC vars 0 412=true);omega) (by have h2:=H7 (by assumption:(decide (((0:Nat):Int)≤funcs) && decide (funcs≤((p.length:Nat):Int)))=true);omega)) ?_
     rintro e13 w13 ⟨rfl,a7⟩
     refine⟨_,rfl,a7,?_⟩
     have al:=a7.size
     have ah:=a1.trans a7
     exact Ae 2 Z (A3 (Ag [8] Z (.bool (wf p funcs ex vars)) Z ⟨MY,ah⟩))
    ·exact Ei false Z Z (A8 aa) (Al (e:=23) Z Z Z) (Ae 10 Z (A3 (Ag [8] Z (.bool false) Z ⟨MY,a1⟩)))
   ·exact Ei false Z Z (A8 aj) (Al (e:=18) Z Z Z) (Ae 15 Z (A3 (Ag [8] Z (.bool false) Z ⟨MY,ag⟩)))
theorem XK {p:List Fn}(h:¬p.length≤16):false=Lh p:=by unfold Lh;rw[A8 h];rfl
theorem Jl {p:List Fn}{k:Nat}(hk:k<p.length)(h:Lg p k=false):false=Lh p:=by unfold Lh;rw[KG hk h,Bool.and_false]
theorem XL {p:List Fn}{k:Nat}(hl:p.length≤16)(hk:p.length≤k)(hk2:k≤p.length)(h:(List.range k).all (Lg p)=true):true=Lh p:=by
  have:k=p.length:=by omega
  subst this;unfold Lh;rw[h,A7 hl];rfl
section
variable {p:List Fn} {k:Nat}
theorem jZ (h:Pq (p.getD k Fn.zero).name=false):Lg p k=false:=by unfold Lg;rw[h];rfl
theorem kA (h:(p.take k).any (fun g=>GN g.name (p.getD k Fn.zero).name)=true):Lg p k=false:=by unfold Lg dI;rw[h];simp
theorem kB (h:(decide (((0:Nat):Int)≤(p.getD k Fn.zero).params) && decide ((p.getD k Fn.zero).params≤((12:Nat):Int)))=false):Lg p k=false:=by
  have h':HC (p.getD k Fn.zero).params 0 12=false:=h
  unfold Lg;rw[h'];simp
theorem kC (h:(decide (((1:Nat):Int)≤(((p.getD k Fn.zero).outs.length:Nat):Int)) && decide ((((p.getD k Fn.zero).outs.length:Nat):Int)≤((12:Nat):Int)))=false):Lg p k=false:=by
  have h':HC (((p.getD k Fn.zero).outs.length:Nat):Int) 1 12=false:=h
  unfold Lg;rw[h'];simp
theorem kD {j:Nat}(hj:j<(p.getD k Fn.zero).outs.length)(h:O6 p ((p.getD k Fn.zero).outs.getD j Ex.zero) (p.getD k Fn.zero).params ((k:Nat):Int)=false):Lg p k=false:=by
  unfold Lg
  rw[KG hj h];simp
theorem kE (h:¬Ex.sizes (p.getD k Fn.zero).outs≤400):Lg p k=false:=by
  unfold Lg;rw[A8 h];simp
theorem bM {j:Nat}(h1:Pq (p.getD k Fn.zero).name=true)(h2:(p.take k).any (fun g=>GN g.name (p.getD k Fn.zero).name)=false)(h3:(decide (((0:Nat):Int)≤(p.getD k Fn.zero).params) && decide ((p.getD k Fn.zero).params≤((12:Nat):Int)))=true)(h4:(decide (((1:Nat):Int)≤(((p.getD k Fn.zero).outs.length:Nat):Int)) && decide ((((p.getD k Fn.zero).outs.length:Nat):Int)≤((12:Nat):Int)))=true)(h5:(List.range j).all (fun j=>O6 p ((p.getD k Fn.zero).outs.getD j Ex.zero) (p.getD k Fn.zero).params ((k:Nat):Int))=true)(hj:j=(p.getD k Fn.zero).outs.length)(h6:Ex.sizes (p.getD k Fn.zero).outs≤400):Lg p k=true:=by
  have h3':HC (p.getD k Fn.zero).params 0 12=true:=h3
  have h4':HC (((p.getD k Fn.zero).outs.length:Nat):Int) 1 12=true:=h4
  subst hj
  unfold Lg dI
  rw[h1,h2,h3',h4',h5,A7 h6];rfl
end
theorem Fi {b:Bool}(h:(!b)=false):b=true:=by cases b <;> simp_all
theorem GD {b:Bool}(h:(!b)=true):b=false:=by cases b <;> simp_all
theorem Ih {p:Prop}(h:p:=by first|exact AG (XK oM)|exact AG (XL oM oM oM hq)|exact AG (Jl (k:=k) oM (jZ (GD (by assumption))))|exact AG (Jl (k:=k) oM (kA (by assumption)))|exact AG (Jl (k:=k) oM (kB (GD (by assumption))))|exact AG (Jl (k:=k) oM (kC (GD (by assumption))))|exact AG (Jl (k:=k) oM (kD (j:=j) oM (GD (by assumption))))|exact AG (Jl (k:=k) oM (kE oM))):p:=h
theorem IN (w:World)(dp:Nat)(vp:Value)(p:List Fn)(hp:RP [] dp w.heap vp p)(hz:Sf p) :
  Calls Tryz.prog 152 #[(.agg #[vp])] w (fun e w'=>e=.returned (.bool (Lh p))∧Ay w w'):=by
 refine At [(.agg #[vp])] 65 Tryz.func152 Z Z sM ?_
 have bq:Ay w w:=Ay.refl w
 have hl_vp:=hp.lenle
 unfold maxLen at hl_vp
 refine A0 (Ad _ [3,0] Z (Bv (cs:=#[vp]) Z Ac fun w1 be c0 aw=>?_))
 have bf:=be.size
 have bg:=bq.trans be
 replace aw:BX w1.heap w.heap.size [vp]:=aw
 refine Ae 1 Z (A0 (A0 (Ad _ [0,2,0,0] Z (Ao (p:=(.pointer (some ⟨w.heap.size,0,none⟩))) (b:=w.heap.size) (o:=0) 0 BU Z Z Ac (Ak (p:=(Az (.pointer (some ⟨w.heap.size,0,none⟩)) 0)) (.inr Z) vp Cx Z (aw.ldp (i:=0) sM) Ac (AJ (v:=vp) GA Z hp.isSl Ac ?_))))))
 by_cases br:((16:Nat):Int)<((p.length:Nat):Int)
 ·exact C4 true Z Z (A7 br) Ac (Ah (Ai Z (A0 (Ad _ [0] Z (Ae 1 Z (A3 (Aq (Ag [2] Z (.bool false) Z ⟨Ih,bg⟩))))))))
 ·refine C4 false Z Z (A8 br) Ac (Ah (Aj Z (A4 (A0 (A0 (Ad _ [0,2,0,0] Z (Ao (p:=(.pointer (some ⟨w.heap.size,0,none⟩))) (b:=w.heap.size) (o:=0) 0 BU Z Z Ac (Ak (p:=(Az (.pointer (some ⟨w.heap.size,0,none⟩)) 0)) (.inr Z) vp Cx Z (aw.ldp (i:=0) sM) Ac (AJ (v:=vp) GA Z hp.isSl Ac (Ae 1 Z (A5 ?_)))))))))))
  refine AL (S:=Nat) (fun k=>([(15,(.int .i64 ((k:Nat):Int))),(1,(.pointer (some ⟨w.heap.size,0,none⟩))),(13,vp),(14,(.int .i64 ((p.length:Nat):Int)))])) (fun k W=>Ay w W∧BX W.heap w.heap.size [vp]∧k≤p.length∧(List.range k).all (Lg p)=true) (fun k=>p.length-k) 0 ⟨rfl,rfl,rfl,rfl,trivial⟩ ⟨bg,aw,sD,(by rfl)⟩ ?_
  clear bq c0 be bf bg
  rintro k ρ3 w3 ⟨ax,a4,bs,hq⟩
  have bh:w.heap.size≤w3.heap.size:=ax.size
  have ce:=a4.lt
  refine A0 (Ad _ [0] Z ?_)
  by_cases bt:((k:Nat):Int)<((p.length:Nat):Int)
  ·refine Av true Z Z (A7 bt) Ac (Ah (A0 (Ai Z (A4 (A0 (A5 (A0 (Ad _ [0,0,2,3,0,4] Z (Af 1 Z (Au (v:=vp) k GA CE Z Z hp.isSl Z sD Ac ?_))))))))))
   obtain⟨cs6,c1,c2⟩:=hp.get (AB dp) Fn.zero (k:=k) sD
   obtain⟨ab,rfl,ap⟩:=RF.of c1
   have ay:=ap.rn.lenle
   unfold maxLen at ay
   refine AP (p:=Aw vp k 3) (.inr Z) [(.string ((p.getD k Fn.zero).name)),(.int .i64 ((p.getD k Fn.zero).params)),ab] Ib Z (fun wq9 af=>c2 wq9 (AE.of_ext [] (ax.trans af))) Z Ac ?_
   have cf:=a4.lt
   refine BJ (z:=.agg #[.string ByteArray.empty,.int .i64 0,.slice none 0 0]) Zj Ac fun w7 bb c3 bi=>?_
   have bj:=bb.size
   have bk:=ax.trans bb
   have a5:=a4.ext bb
   replace bi:BX w7.heap w3.heap.size [(.string ByteArray.empty),(.int .i64 0),(.slice none 0 0)]:=bi
   refine Af 1 Z (CU (vs:=[(.string ((p.getD k Fn.zero).name)),(.int .i64 ((p.getD k Fn.zero).params)),ab]) Ib Z Z ap.ones bi Z Z Ac fun w9 bc c4 az=>?_)
   replace az:BX w9.heap w3.heap.size [(.string ((p.getD k Fn.zero).name)),(.int .i64 ((p.getD k Fn.zero).params)),ab]:=az
   have bd:Ay w w9:=bc.below bk (fun c hc=>by have:=Ab hc;omega) bk.size
   have bl:=bc.size
   have aq:=a5.chg bc (fun hm=>by have:=Ab hm;omega)
   refine Ah (A0 (A0 (Ad _ [0,2,0,0,0,0,2,0,0,0,3,0] Z ?_)))
   have hzk:=hz k oM
   refine Ao (p:=(.pointer (some ⟨w3.heap.size,0,none⟩))) (b:=w3.heap.size) (o:=0) 0 GB Z Z Ac (Ak (p:=(Az (.pointer (some ⟨w3.heap.size,0,none⟩)) 0)) (.inr Z) (.string ((p.getD k Fn.zero).name)) Nz Z (az.ldp (i:=0) sM) Ac (AD 194 [] [] [(.string ((p.getD k Fn.zero).name))] Z Z iU Ac (.bool (Pq ((p.getD k Fn.zero).name))) (fun wq=>NA wq ((p.getD k Fn.zero).name) oM) (Bp (!(Pq ((p.getD k Fn.zero).name))) Z Z Ac (Af 1 Z ?_))))
   cases c5:(!(Pq ((p.getD k Fn.zero).name)))
   ·refine Ao (p:=(.pointer (some ⟨w.heap.size,0,none⟩))) (b:=w.heap.size) (o:=0) 0 BU Z Z (Al (e:=24) Z Z Z) (Ak (p:=(Az (.pointer (some ⟨w.heap.size,0,none⟩)) 0)) (.inr Z) vp Cx Z (aq.ldp (i:=0) sM) (Al (e:=24) Z Z Z) (Af 1 Z (Uf (v:=vp) (k:=k) GA CE Z hp.isSl hp.capS Z sD (Al (e:=24) Z Z Z) ?_)))
    have b0:=RN.pref (AB dp) (k:=k) hp sD
    refine Qu [] [(.pointer (some ⟨w3.heap.size,0,none⟩))] Z Z (Al (e:=24) Z Z Z) (Ap 195 [] [] [(M9 vp k),(.func (.func 196) #[] #[(.pointer (some ⟨w3.heap.size,0,none⟩))])] Z Z iV (Al (e:=24) Z Z Z) (CX _ dp (M9 vp k) (p.take k) 196 [] [(.pointer (some ⟨w3.heap.size,0,none⟩))] (fun g=>GN g.name (p.getD k Fn.zero).name) (b0.ext (Am (AB dp)) bd) iW (fun d9 u x w1 hx hw=>HS w1 d9 u x w3.heap.size ab (p.getD k Fn.zero) hx (az.ext hw))) ?_)
    rintro e14 w14 ⟨rfl,a7⟩
    refine⟨_,rfl,a7,?_⟩
    have b1:=a7.size
    have ac:=bd.trans a7
    have a6:=aq.ext a7
    have a0:=az.ext a7
    refine Ae 1 Z ?_
    cases b2:((p.take k).any (fun g=>GN g.name (p.getD k Fn.zero).name))
    ·refine Aj (by first|rfl|(show Value.bool _=_;rw[b2])) (A4 (A0 (A0 (Ad _ [0,2,0,0,0,0,2,0,0,0,0] Z (Ao (p:=(.pointer (some ⟨w3.heap.size,0,none⟩))) (b:=w3.heap.size) (o:=0) 1 CH Z Z Ac (Ak (p:=(Az (.pointer (some ⟨w3.heap.size,0,none⟩)) 1)) (.inr Z) (.int .i64 ((p.getD k Fn.zero).params)) AI Z (a0.ldp (i:=1) sM) Ac (AD 72 [] [] [(.int .i64 ((p.getD k Fn.zero).params)),(.int .i64 ((0:Nat):Int)),(.int .i64 ((12:Nat):Int))] Z Z KO Ac (.bool (decide (((0:Nat):Int)≤((p.getD k Fn.zero).params)) && decide (((p.getD k Fn.zero).params)≤((12:Nat):Int)))) (fun wq=>BD wq _ _ _ ap.rng oM oM) ?_)))))))
     refine Bp (!(decide (((0:Nat):Int)≤((p.getD k Fn.zero).params)) && decide (((p.getD k Fn.zero).params)≤((12:Nat):Int)))) Z Z Ac (Af 1 Z ?_)
     cases c6:(!(decide (((0:Nat):Int)≤((p.getD k Fn.zero).params)) && decide (((p.getD k Fn.zero).params)≤((12:Nat):Int))))
     ·refine Ao (p:=(.pointer (some ⟨w3.heap.size,0,none⟩))) (b:=w3.heap.size) (o:=0) 2 Cr Z Z (Al (e:=36) Z Z Z) (Ak (p:=(Az (.pointer (some ⟨w3.heap.size,0,none⟩)) 2)) (.inr Z) ab Bq Z (a0.ldp (i:=2) sM) (Al (e:=36) Z Z Z) (AJ (v:=ab) DM Z ap.rn.isSl (Al (e:=36) Z Z Z) (AD 72 [] [] [(.int .i64 ((((p.getD k Fn.zero).outs).length:Nat):Int)),(.int .i64 ((1:Nat):Int)),(.int .i64 ((12:Nat):Int))] Z Z KO (Al (e:=36) Z Z Z) (.bool (decide (((1:Nat):Int)≤((((p.getD k Fn.zero).outs).length:Nat):Int)) && decide (((((p.getD k Fn.zero).outs).length:Nat):Int)≤((12:Nat):Int)))) (fun wq=>BD wq _ _ _ oM oM oM) ?_)))
      refine Bp (!(decide (((1:Nat):Int)≤((((p.getD k Fn.zero).outs).length:Nat):Int)) && decide (((((p.getD k Fn.zero).outs).length:Nat):Int)≤((12:Nat):Int)))) Z Z (Al (e:=36) Z Z Z) (Ae 1 Z ?_)
      cases b3:(!(decide (((1:Nat):Int)≤((((p.getD k Fn.zero).outs).length:Nat):Int)) && decide (((((p.getD k Fn.zero).outs).length:Nat):Int)≤((12:Nat):Int))))
      ·refine Aj (by first|rfl|(show Value.bool _=_;rw[b3])) (A4 (A0 (Ad _ [0] Z (Ae 1 Z (A0 (A0 (Ad _ [0,2,0,0] Z (Ao (p:=(.pointer (some ⟨w3.heap.size,0,none⟩))) (b:=w3.heap.size) (o:=0) 2 Cr Z Z Ac (Ak (p:=(Az (.pointer (some ⟨w3.heap.size,0,none⟩)) 2)) (.inr Z) ab Bq Z (a0.ldp (i:=2) sM) Ac (AJ (v:=ab) DM Z ap.rn.isSl Ac (Ae 1 Z (A5 ?_))))))))))))
       refine AL (S:=Nat×Nat) (fun⟨j,sz⟩=>([(5,(.int .i64 ((sz:Nat):Int))),(46,(.int .i64 ((j:Nat):Int))),(1,(.pointer (some ⟨w.heap.size,0,none⟩))),(3,(.int .i64 ((k:Nat):Int))),(4,(.pointer (some ⟨w3.heap.size,0,none⟩))),(13,vp),(14,(.int .i64 ((p.length:Nat):Int))),(15,(.int .i64 ((k:Nat):Int))),(44,ab),(45,(.int .i64 ((((p.getD k Fn.zero).outs).length:Nat):Int)))])) (fun⟨j,sz⟩ W=>Ay w W∧BX W.heap w.heap.size [vp]∧BX W.heap w3.heap.size [(.string ((p.getD k Fn.zero).name)),(.int .i64 ((p.getD k Fn.zero).params)),ab]∧j≤(p.getD k Fn.zero).outs.length∧sz=Ex.sizes ((p.getD k Fn.zero).outs.take j)∧(List.range j).all (fun j=>O6 p ((p.getD k Fn.zero).outs.getD j Ex.zero) (p.getD k Fn.zero).params ((k:Nat):Int))=true) (fun⟨j,sz⟩=>(p.getD k Fn.zero).outs.length-j) (0,0) ⟨rfl,rfl,rfl,rfl,rfl,rfl,rfl,rfl,rfl,rfl,trivial⟩ ⟨ac,a6,a0,sD,(by rw[List.take_zero,Io]),(by rfl)⟩ ?_
       clear a4 ax bh ay c3 bb bj bk a5 c4 bc bd bl aq a7 b1 ac a6
       rintro⟨j,sz⟩ ρ20 w20 ⟨ad,a1,a3,bm,hsz,hqe⟩
       have bu:w.heap.size≤w20.heap.size:=ad.size
       have c7:=a1.lt
       have c8:=a3.lt
       refine A0 (Ad _ [0] Z ?_)
       by_cases b4:((j:Nat):Int)<((((p.getD k Fn.zero).outs).length:Nat):Int)
       ·refine Av true Z Z (A7 b4) Ac (Ah (A0 (Ai Z (A4 (A0 (A5 (A0 (Ad _ [0,2,3,4] Z (Au (v:=ab) j DM BB Z Z ap.rn.isSl Z sD Ac ?_)))))))))
        obtain⟨cs24,bn,bo⟩:=ap.rn.get (AC dp) Ex.zero (k:=j) sD
        obtain⟨dd24,a2,c9,rfl,ag⟩:=RX.of bn
        have b5:=ag.rn.lenle
        unfold maxLen at b5
        refine AP (p:=Aw ab j 5) (.inr Z) [(.int .i64 ((((p.getD k Fn.zero).outs).getD j Ex.zero).kind)),(.int .i64 ((((p.getD k Fn.zero).outs).getD j Ex.zero).num)),(.int .i64 ((((p.getD k Fn.zero).outs).getD j Ex.zero).pick)),(.int .i64 ((((p.getD k Fn.zero).outs).getD j Ex.zero).count)),a2] BV Z (fun wq9 af=>bo wq9 (AE.of_ext [] (ad.trans af))) Z Ac ?_
        have ca:=a1.lt
        have cb:=a3.lt
        refine BJ (z:=.agg #[.int .i64 0,.int .i64 0,.int .i64 0,.int .i64 0,.slice none 0 0]) MU Ac fun w25 ah cc ar=>?_
        have bv:=ah.size
        have b6:=ad.trans ah
        have a8:=a1.ext ah
        have a9:=a3.ext ah
        replace ar:BX w25.heap w20.heap.size [(.int .i64 0),(.int .i64 0),(.int .i64 0),(.int .i64 0),(.slice none 0 0)]:=ar
        refine CU (vs:=[(.int .i64 ((((p.getD k Fn.zero).outs).getD j Ex.zero).kind)),(.int .i64 ((((p.getD k Fn.zero).outs).getD j Ex.zero).num)),(.int .i64 ((((p.getD k Fn.zero).outs).getD j Ex.zero).pick)),(.int .i64 ((((p.getD k Fn.zero).outs).getD j Ex.zero).count)),a2]) BV Z Z ag.ones ar Z Z Ac fun w28 ai cd aj=>?_
        replace aj:BX w28.heap w20.heap.size [(.int .i64 ((((p.getD k Fn.zero).outs).getD j Ex.zero).kind)),(.int .i64 ((((p.getD k Fn.zero).outs).getD j Ex.zero).num)),(.int .i64 ((((p.getD k Fn.zero).outs).getD j Ex.zero).pick)),(.int .i64 ((((p.getD k Fn.zero).outs).getD j Ex.zero).count)),a2]:=aj
        have au:Ay w w28:=ai.below b6 (fun c hc=>by have:=Ab hc;omega) b6.size
        have bw:=ai.size
        have b7:=a8.chg ai (fun hm=>by have:=Ab hm;omega)
        have b8:=a9.chg ai (fun hm=>by have:=Ab hm;omega)
        refine Ah (A0 (A0 (Ad _ [2,2,0,2,0,3,0] Z ?_)))
        have hst:=D3 (l:=(p.getD k Fn.zero).outs) (k:=j) oM
        have hle:=CN (p.getD k Fn.zero).outs (j+1)
        refine AP (p:=(.pointer (some ⟨w.heap.size,0,none⟩))) (.inr Z) [vp] Eq Z (fun wq9 af=>LD.of_box (BX.ext (w:=w28) b7 af)) Z Ac (AP (p:=(.pointer (some ⟨w20.heap.size,0,none⟩))) (.inr Z) [(.int .i64 ((((p.getD k Fn.zero).outs).getD j Ex.zero).kind)),(.int .i64 ((((p.getD k Fn.zero).outs).getD j Ex.zero).num)),(.int .i64 ((((p.getD k Fn.zero).outs).getD j Ex.zero).pick)),(.int .i64 ((((p.getD k Fn.zero).outs).getD j Ex.zero).count)),a2] BV Z (fun wq9 af=>LD.of_box (BX.ext (w:=w28) aj af)) Z Ac (Ao (p:=(.pointer (some ⟨w3.heap.size,0,none⟩))) (b:=w3.heap.size) (o:=0) 1 CH Z Z Ac (Ak (p:=(Az (.pointer (some ⟨w3.heap.size,0,none⟩)) 1)) (.inr Z) (.int .i64 ((p.getD k Fn.zero).params)) AI Z (b8.ldp (i:=1) sM) Ac (Af 1 Z ?_))))
        refine Ap 197 [] [] [(.agg #[vp]),(.agg #[(.int .i64 ((((p.getD k Fn.zero).outs).getD j Ex.zero).kind)),(.int .i64 ((((p.getD k Fn.zero).outs).getD j Ex.zero).num)),(.int .i64 ((((p.getD k Fn.zero).outs).getD j Ex.zero).pick)),(.int .i64 ((((p.getD k Fn.zero).outs).getD j Ex.zero).count)),a2]),(.int .i64 ((p.getD k Fn.zero).params)),(.int .i64 ((k:Nat):Int))] Z Z iX Ac (KQ _ dp vp (p) dd24 a2 (((p.getD k Fn.zero).outs).getD j Ex.zero) _ _ (hp.ext (Am (AB dp)) au) (ag.ext au) ap.rng oM oM) ?_
        rintro e31 w31 ⟨rfl,aa⟩
        refine⟨_,rfl,aa,?_⟩
        have bx:=aa.size
        have av:=au.trans aa
        have ak:=b7.ext aa
        have al:=b8.ext aa
        have am:=aj.ext aa
        refine Bp (!(O6 p (((p.getD k Fn.zero).outs).getD j Ex.zero) ((p.getD k Fn.zero).params) ((k:Nat):Int))) Z Z Ac (Ah ?_)
        cases b9:(!(O6 p (((p.getD k Fn.zero).outs).getD j Ex.zero) ((p.getD k Fn.zero).params) ((k:Nat):Int)))
        ·refine Aj (by first|rfl|(show Value.bool _=_;rw[b9])) (A4 (Ad _ [0,2,3,0,0] Z (Af 1 Z (AP (p:=(.pointer (some ⟨w20.heap.size,0,none⟩))) (.inr Z) [(.int .i64 ((((p.getD k Fn.zero).outs).getD j Ex.zero).kind)),(.int .i64 ((((p.getD k Fn.zero).outs).getD j Ex.zero).num)),(.int .i64 ((((p.getD k Fn.zero).outs).getD j Ex.zero).pick)),(.int .i64 ((((p.getD k Fn.zero).outs).getD j Ex.zero).count)),a2] BV Z (fun wq9 af=>LD.of_box (BX.ext (w:=w31) am af)) Z Ac ?_))))
         refine Ap 198 [] [] [(.agg #[(.int .i64 ((((p.getD k Fn.zero).outs).getD j Ex.zero).kind)),(.int .i64 ((((p.getD k Fn.zero).outs).getD j Ex.zero).num)),(.int .i64 ((((p.getD k Fn.zero).outs).getD j Ex.zero).pick)),(.int .i64 ((((p.getD k Fn.zero).outs).getD j Ex.zero).count)),a2])] Z Z Xu Ac (HL _ dd24 a2 (((p.getD k Fn.zero).outs).getD j Ex.zero) (ag.ext av) oM) ?_
         rintro e33 w33 ⟨rfl,ae⟩
         refine⟨_,rfl,ae,?_⟩
         have bz:=ae.size
         have bp:=av.trans ae
         have an:=ak.ext ae
         have ao:=al.ext ae
         refine AH ((sz+((p.getD k Fn.zero).outs.getD j Ex.zero).size:Nat):Int) Z Z (B7 oM oM) Ac (Ae 1 Z (Ad _ [0,0] Z (AH ((j+1:Nat):Int) Z Z (B7 oM sD) Ac (Ae 1 Z ?_))))
         exact⟨((j+1),(sz+((p.getD k Fn.zero).outs.getD j Ex.zero).size)),_,rfl,⟨rfl,rfl,rfl,rfl,rfl,rfl,rfl,rfl,rfl,rfl,trivial⟩,⟨bp,an,ao,sD,oM,(by exact Eb hqe (Fi (by assumption)))⟩,by first|omega|(dsimp only;omega)⟩
        ·refine Ai (by first|rfl|(show Value.bool _=_;rw[b9])) (A0 (Ad _ [0] Z (Ae 1 Z (A3 (Aq (AK (Aq (Aq (AK (Aq (AK (Aq (Aq (AK (Aq ?_)))))))))))))))
         exact Ag [2] Z (.bool false) Z ⟨Ih,av⟩
       ·refine Av false Z Z (A8 b4) Ac (Ah (A0 (Aj Z (A6 (As (As (An (A0 (Ad _ [0,0] Z ?_)))))))))
        have hal:=Kt (l:=(p.getD k Fn.zero).outs) (k:=j) oM
        refine Af 1 Z ?_
        by_cases ba:((400:Nat):Int)<((sz:Nat):Int)
        ·exact C4 true Z Z (A7 ba) Ac (Ah (Ai Z (A0 (Ad _ [0] Z (Ae 1 Z (A3 (AK (Aq (Aq (AK (Aq (Ag [2] Z (.bool false) Z ⟨Ih,ad⟩))))))))))))
        ·refine C4 false Z Z (A8 ba) Ac (Ah (Aj Z (A4 (Ad _ [0,0] Z (AH ((k+1:Nat):Int) Z Z (B7 oM sD) Ac (Ae 1 Z ?_))))))
         exact⟨(k+1),_,rfl,⟨rfl,rfl,rfl,rfl,trivial⟩,⟨ad,a1,sD,(by exact Eb hq (bM (Fi (by assumption)) (by assumption) (Fi (by assumption)) (Fi (by assumption)) hqe oM oM))⟩,by first|omega|(dsimp only;omega)⟩
      ·exact Ai (by first|rfl|(show Value.bool _=_;rw[b3])) (A0 (Ad _ [0] Z (Ae 1 Z (A3 (Aq (AK (Aq (Aq (AK (Aq (Ag [2] Z (.bool false) Z ⟨Ih,ac⟩)))))))))))
     ·exact Ae 6 Z (Ai Z (A0 (Ad _ [0] Z (Ae 1 Z (A3 (Aq (AK (Aq (Aq (AK (Aq (Ag [2] Z (.bool false) Z ⟨Ih,ac⟩))))))))))))
    ·exact Ai (by first|rfl|(show Value.bool _=_;rw[b2])) (A0 (Ad _ [0] Z (Ae 1 Z (A3 (Aq (AK (Aq (Aq (AK (Aq (Ag [2] Z (.bool false) Z ⟨Ih,ac⟩)))))))))))
   ·exact Ae 7 Z (Ai Z (A0 (Ad _ [0] Z (Ae 1 Z (A3 (Aq (AK (Aq (Aq (AK (Aq (Ag [2] Z (.bool false) Z ⟨Ih,bd⟩))))))))))))
  ·exact Av false Z Z (A8 bt) Ac (Ah (A0 (Aj Z (A6 (As (As (An (A0 (Ad _ [0] Z (Ae 1 Z (A3 (Ag [2] Z (.bool true) Z ⟨Ih,ax⟩))))))))))))
end
section
set_option maxHeartbeats 4000000
set_option maxRecDepth 100000
attribute [local irreducible] LW
theorem bN {p:List Fn}{f:Int}(h:Lh p=false):1=IX p f:=by unfold IX;rw[h];rfl
theorem bO {p:List Fn}{f:Int}(h:Lh p=true)(h2:¬(0≤f∧f≤((p.length:Nat):Int)-1)):2=IX p f:=by unfold IX;rw[if_pos h,if_neg h2]
theorem bP {p:List Fn}{f:Int}(h:Lh p=true)(h2:0≤f∧f≤((p.length:Nat):Int)-1):0=IX p f:=by unfold IX;rw[if_pos h,if_pos h2]
theorem XM {p:Prop}(h:p:=by first|exact AS (bN (GD (by assumption)))|exact AS (bO (Fi (by assumption)) (Qp (GD (by assumption))))|exact AS (bP (Fi (by assumption)) (H7 (Fi (by assumption))))):p:=h
theorem J3 (w:World)(dp:Nat)(vp:Value)(p:List Fn)(f:Int)(hp:RP [] dp w.heap vp p)(_hf:BC f)(hz:Sf p) :
  Calls Tryz.prog 84 #[(.agg #[vp]),.int .i64 f] w (fun e w'=>e=.returned (.int .i64 (IX p f))∧Ay w w'):=by
 refine At [(.agg #[vp]),.int .i64 f] 17 Tryz.func84 Z Z sM ?_
 have a8:Ay w w:=Ay.refl w
 have hl_vp:=hp.lenle
 unfold maxLen at hl_vp
 refine A0 (Ad _ [3,0] Z (Bv (cs:=#[vp]) Z Ac fun w1 a4 ac a1=>?_))
 have a9:=a4.size
 have a5:=a8.trans a4
 replace a1:BX w1.heap w.heap.size [vp]:=a1
 refine Ae 1 Z (A0 (A5 (A0 (Ad _ [2,3,0,0] Z (AP (p:=(.pointer (some ⟨w.heap.size,0,none⟩))) (.inr Z) [vp] Eq Z (fun wq9 aa=>LD.of_box (BX.ext (w:=w1) a1 aa)) Z Ac (Ap 152 [] [] [(.agg #[vp])] Z Z iE Ac (IN _ dp vp (p) (hp.ext (Am (AB dp)) a5) (by exact hz)) ?_))))))
 rintro e2 w2 ⟨rfl,a2⟩
 refine⟨_,rfl,a2,?_⟩
 have ab:=a2.size
 have a3:=a5.trans a2
 have a0:=a1.ext a2
 refine Bp (!(Lh p)) Z Z Ac (Ae 1 Z ?_)
 cases a6:(!(Lh p))
 ·refine Aj (by first|rfl|(show Value.bool _=_;rw[a6])) (A0 (Ad _ [0,0,2,0,0,0,0,0] Z (Af 1 Z (Ao (p:=(.pointer (some ⟨w.heap.size,0,none⟩))) (b:=w.heap.size) (o:=0) 0 BU Z Z Ac (Ak (p:=(Az (.pointer (some ⟨w.heap.size,0,none⟩)) 0)) (.inr Z) vp Cx Z (a0.ldp (i:=0) sM) Ac (AJ (v:=vp) GA Z hp.isSl Ac (Cj (((p.length:Nat):Int)-1) Z Z (DX oM oM) Ac (AD 72 [] [] [(.int .i64 f),(.int .i64 ((0:Nat):Int)),(.int .i64 (((p.length:Nat):Int)-1))] Z Z KO Ac (.bool (decide (((0:Nat):Int)≤f) && decide (f≤(((p.length:Nat):Int)-1)))) (fun wq=>BD wq _ _ _ _hf oM oM) ?_))))))))
  refine Bp (!(decide (((0:Nat):Int)≤f) && decide (f≤(((p.length:Nat):Int)-1)))) Z Z Ac (Ae 1 Z ?_)
  cases a7:(!(decide (((0:Nat):Int)≤f) && decide (f≤(((p.length:Nat):Int)-1))))
  ·exact Aj (by first|rfl|(show Value.bool _=_;rw[a7])) (A4 (A0 (Ad _ [0] Z (Ae 1 Z (A3 (Ag [4] Z (.int .i64 ((0:Nat):Int)) Z ⟨XM,a3⟩))))))
  ·exact Ai (by first|rfl|(show Value.bool _=_;rw[a7])) (A0 (Ad _ [0] Z (Ae 1 Z (A3 (AK (Aq (Ag [4] Z (.int .i64 ((2:Nat):Int)) Z ⟨XM,a3⟩)))))))
 ·exact Ai (by first|rfl|(show Value.bool _=_;rw[a6])) (A0 (Ad _ [0] Z (Ae 1 Z (A3 (AK (Aq (Ag [4] Z (.int .i64 ((1:Nat):Int)) Z ⟨XM,a3⟩)))))))
theorem bQ {p:List Fn}{f:Int}{pr:Int→Int→Bool}(h:IX p f≠0):IX p f=I7 p f pr:=by unfold I7;rw[if_neg h]
theorem kF {p:List Fn}{f:Int}{pr:Int→Int→Bool}(h:IX p f=0)(h2:pr (p.getD f.toNat Fn.zero).params (((p.getD f.toNat Fn.zero).outs.length:Nat):Int)=false):2=I7 p f pr:=by unfold I7;rw[if_pos h,h2];rfl
theorem kG {p:List Fn}{f:Int}{pr:Int→Int→Bool}(h:IX p f=0)(h2:pr (p.getD f.toNat Fn.zero).params (((p.getD f.toNat Fn.zero).outs.length:Nat):Int)=true):IX p f=I7 p f pr:=by unfold I7;rw[if_pos h,h2,h];rfl
theorem Rg {p:Prop}(h:p:=by first|exact AS (bQ oM)|exact AS (kF oM (by assumption))|exact AS (kG oM (by assumption))):p:=h
theorem Ll (w:World) (dp:Nat) (vp:Value) (p:List Fn) (f:Int) (q:Nat) (qf qc:List Value) (pr:Int→Int→Bool) (hp:RP [] dp w.heap vp p) (_hf:BC f) (hcf_q:((Tryz.prog.funcs[q]?).map fun fn=>(fn.name != "runtime.NumGoroutine") && fn.body.isSome) = some true) (hpr:∀ (a b:Int) w1,(BC a)→(BC b)→Calls Tryz.prog q (qf++[Value.int .i64 a,Value.int .i64 b]++qc).toArray w1 (fun e w2=>e = .returned (.bool (pr a b))∧w2 = w1)) (hz:Sf p) :
  Calls Tryz.prog 177 #[(.agg #[vp]),.int .i64 f,.func (.func q) qf.toArray qc.toArray] w (fun e w'=>e = .returned (.int .i64 (I7 p f pr))∧Ay w w'):=by
 refine At [(.agg #[vp]),.int .i64 f,.func (.func q) qf.toArray qc.toArray] 32 Tryz.func177 Z Z sM ?_
 have ad:Ay w w:=Ay.refl w
 have hl_vp:=hp.lenle
 unfold maxLen at hl_vp
 refine A0 (Ad _ [3,0] Z (Bv (cs:=#[vp]) Z Ac fun w1 a8 ak a3=>?_))
 have ae:=a8.size
 have a9:=ad.trans a8
 replace a3:BX w1.heap w.heap.size [vp]:=a3
 refine Ae 1 Z (A0 (Ad _ [2,0,3,0] Z (AP (p:=(.pointer (some ⟨w.heap.size,0,none⟩))) (.inr Z) [vp] Eq Z (fun wq9 af=>LD.of_box (BX.ext (w:=w1) a3 af)) Z Ac (Af 1 Z (Ap 84 [] [] [(.agg #[vp]),(.int .i64 f)] Z Z gF Ac (J3 _ dp vp (p) _ (hp.ext (Am (AB dp)) a9) _hf (by exact hz)) ?_)))))
 rintro e2 w2 ⟨rfl,a4⟩
 refine ⟨_,rfl,a4,?_⟩
 have ag:=a4.size
 have a1:=a9.trans a4
 have a0:=a3.ext a4
 refine Ae 1 Z (A0 (A0 (B1 _ [0,0,0,0,0,1,0,0,0,1,0,1,0,0,0,1,0,3,0,0] mixed (by kernel_rfl) (Af 1 Z ?_))))
 by_cases aa:IX p f = ((0 :Nat):Int)
 ·
  refine AA true Z Z (A7 aa) Ac (Af 2 Z ?_)
  have al:=Vn (p:=p) (f:=f) oM
  refine Ao (p:=(.pointer (some ⟨w.heap.size,0,none⟩))) (b:=w.heap.size) (o:=0) 0 BU Z Z (Al (e:=13) Z Z Z) (Ak (p:=(Az (.pointer (some ⟨w.heap.size,0,none⟩)) 0)) (.inl Z) vp Cx Z (a0.ldp (i:=0) sM) (Al (e:=13) Z Z Z) (Af 1 Z (Au (v:=vp) ((f).toNat) GA CE Z Z hp.isSl oM sD (Al (e:=13) Z Z Z) ?_)))
  obtain ⟨cs4,ah,a5⟩:=hp.get (AB dp) Fn.zero (k:=((f).toNat)) sD
  obtain ⟨ab,rfl,a6⟩:=RF.of ah
  have a7:=a6.rn.lenle
  unfold maxLen at a7
  refine AM (p:=Aw vp ((f).toNat) 3) 1 CH Z (a5 _ (AE.of_ext [] a1.drew)) (Al (e:=13) Z Z Z) (Ak (p:=(Az (Aw vp ((f).toNat) 3) 1)) (.inl Z) (.int .i64 ((p.getD ((f).toNat) Fn.zero).params)) AI Z ((a5 _ (AE.of_ext [] a1.drew)).ld (i:=1) (by simp [Ge,Gf])) (Al (e:=13) Z Z Z) (Ao (p:=(.pointer (some ⟨w.heap.size,0,none⟩))) (b:=w.heap.size) (o:=0) 0 BU Z Z (Al (e:=13) Z Z Z) (Ak (p:=(Az (.pointer (some ⟨w.heap.size,0,none⟩)) 0)) (.inl Z) vp Cx Z (a0.ldp (i:=0) sM) (Al (e:=13) Z Z Z) (Af 1 Z ?_))))
  refine Au (v:=vp) ((f).toNat) GA CE Z Z hp.isSl oM sD (Al (e:=13) Z Z Z) (AM (p:=Aw vp ((f).toNat) 3) 2 Cr Z (a5 _ (AE.of_ext [] a1.drew)) (Al (e:=13) Z Z Z) (Ak (p:=(Az (Aw vp ((f).toNat) 3) 2)) (.inl Z) ab Bq Z ((a5 _ (AE.of_ext [] a1.drew)).ld (i:=2) (by simp [Ge,Gf])) (Al (e:=13) Z Z Z) (AJ (v:=ab) DM Z a6.rn.isSl (Al (e:=13) Z Z Z) ?_)))
  refine Ap q qf qc _ Z Z hcf_q (Al (e:=13) Z Z Z) (hpr ((p.getD ((f).toNat) Fn.zero).params) ((((p.getD ((f).toNat) Fn.zero).outs).length :Nat):Int) _ a6.rng oM) ?_
  rintro e5 w5 ⟨rfl,ai⟩
  have a2:Ay w2.drew w5:=by rw [ai]; exact Ay.refl _
  refine ⟨_,rfl,a2,?_⟩
  replace a2:=a2.of_drew
  have aj:=a2.size
  have ac:=a1.trans a2
  cases am:pr ((p.getD ((f).toNat) Fn.zero).params) ((((p.getD ((f).toNat) Fn.zero).outs).length :Nat):Int)
  ·
   exact Bp true Z Z (Al (e:=13) Z Z Z) (Ae 1 Z (Ai Z (Ad _ [0] Z (Ae 1 Z (A0 (Ad _ [0,0] Z (Ae 2 Z (A3 (Ag [6] Z (.int .i64 ((2 :Nat):Int)) Z ⟨Rg,ac⟩)))))))))
  ·
   exact Bp false Z Z (Al (e:=13) Z Z Z) (Ae 1 Z (Aj Z (A4 (A0 (Ad _ [0,0] Z (Ae 2 Z (A3 (Ag [6] Z (.int .i64 (IX p f)) Z ⟨Rg,ac⟩))))))))
 ·
  exact AA false Z Z (A8 aa) Ac (Ae 18 Z (Aj Z (A4 (A0 (Ad _ [0,0] Z (Ae 2 Z (A3 (Ag [6] Z (.int .i64 (IX p f)) Z ⟨Rg,a1.drew⟩))))))))
theorem Es (w:World)(va:Value)(a:List (List Int))(ha:RN [] (B3 (B3 rI)) w.heap va a)(hqa:Cf va)(h1:0<a.length→0<(a.getD 0 []).length) :
  Calls Tryz.prog 87 #[va] w (fun e w'=>e=.returned (.int .i64 ((JY a:Nat):Int))∧Ay w w'):=by
 refine At [va] 11 Tryz.func87 Z Z sM ?_
 have a0:Ay w w:=Ay.refl w
 have hl_va:=ha.lenL
 unfold maxLen at hl_va
 refine A0 (Ad _ [0] Z (Ae 1 Z (A0 (A0 (Ad _ [0,0,0] Z (Af 1 Z (AJ (v:=va) Bi Z ha.slL Ac ?_)))))))
 by_cases a2:((a.length:Nat):Int)=((0:Nat):Int)
 ·exact AA true Z Z (A7 a2) Ac (Ah (Ai Z (A0 (Ad _ [0] Z (Ae 1 Z (A3 (Aq (Ag [2] Z (.int .i64 ((0:Nat):Int)) Z ⟨(AS (by unfold JY;have:a=[]:=List.eq_nil_of_length_eq_zero oM;subst this;rfl)),a0⟩))))))))
 ·refine AA false Z Z (A8 a2) Ac (Ah (Aj Z (A4 (A0 (Ad _ [0,0,2,0,0,0] Z (Af 1 Z (Au (v:=va) 0 Bi AW Z Z ha.slL Z sD Ac ?_)))))))
  obtain⟨a3,a5,a4⟩:=RN.getL (w:=w) g1 [] (k:=0) ha sD
  have a1:=a4.lenL
  unfold maxLen at a1
  exact Ak (p:=Aw va 0 1) (.inr Z) a3 B6 Z (a5 _ (AE.of_ext [] a0)) Ac (AJ (v:=a3) Bh Z a4.slL Ac (Cj (((a.getD 0 []).length-1:Nat):Int) Z Z (by rw[DX oM oM];omega) Ac (Ae 1 Z (A3 (Ag [2] Z (.int .i64 (((a.getD 0 []).length-1:Nat):Int)) Z ⟨(AS Z),a0⟩)))))
end
end Go.Proofs.YtnokbaiemimhjaaGreat
