/- Hc, Hd, He, Hf, Hg, Hh, Hi, Hj, Hk, Hl, Hm, Hq, Hu, T, Sa, Sb, Sc, Sf, Sk, Va, Vb, Vg, Vh, Vm, Sx, Sv, Sw, Xd: texts of this claim, joined; what the claim does not come to is left out. -/
import Derived.Test.YtbajepcpgncekaaGreatQH2
import Derived.Test.YtbajepcpgncekaaGreatProg
set_option linter.unusedVariables false
set_option linter.unusedSimpArgs false
namespace Go.Proofs.YtbajepcpgncekaaGreat
open Go Go.RowKit
section
structure H4 {α:Type}(E:Bk α)(e:TypeId)(S:List Nat)(B:Nat)(H:Array Obj)(v:Value)(xs:List α)(us:List Value)(F:List Nat):Prop where
 own:AY rV e H v us F
 nd:F.Nodup
 low:∀b∈F,B≤b
 len:us.length=xs.length
 els:∀k x,xs[k]? = some x→RN (S++F) E H (us.getD k undef) x
section bld
variable {α:Type} {E:Bk α} {e:TypeId} {S F:List Nat} {B:Nat} {w w':World} {v:Value} {xs:List α} {us:List Value} {g:Nat}
theorem H4.nil {U:Nat}{H:Array Obj}(h:Fr (AY rV e) B U H v []):∃us F,H4 E e S B H v [] us F:=by
 obtain⟨F,h1,h2,h3⟩:=h
 exact⟨[],F,h1,h2,fun b hb=>(h3 b hb).1,rfl,fun k x hk=>by simp at hk⟩
theorem H4.lt {H:Array Obj}(h:H4 E e S B H v xs us F):∀b∈F,b<H.size:=(Bj Bc).lt h.own
theorem H4.ext (hE:BT E)(h:H4 E e S B w.heap v xs us F)(k:AB w w'):H4 E e S B w'.heap v xs us F :=
 ⟨(Bj Bc).stable h.own fun b hb=>k.heap (h.lt b hb),h.nd,h.low,h.len,fun i x hi=>(h.els i x hi).ext hE k⟩
theorem H4.cap {H:Array Obj}(h:H4 E e S B H v xs us F):Cj v:=h.own.cap
theorem Nu {S:List Nat}{H:Array Obj}:∀ {us:List Value}{xs:List α},us.length=xs.length→(∀k x,xs[k]? = some x→RN S E H (us.getD k undef) x)→∃G,Go.Proofs.YtbajepcpgncekaaGreat.els E H us xs G∧∀b∈G,b∉S
 |[],[],_,_=>⟨[],rfl,fun b hb=>by cases hb⟩
 |u::us,x::xs,hl,h=>by
  obtain⟨G1,q1,q2⟩:=h 0 x (by simp)
  obtain⟨G2,r1,r2⟩:=Nu (us:=us) (xs:=xs) (by simpa using hl) fun k y hk=>by
   have:=h (k+1) y (by simpa using hk)
   simpa using this
  exact⟨G1++G2,⟨G1,G2,rfl,by simpa using q1,r1⟩,fun b hb=>(zi.1 hb).elim (q2 b) (r2 b)⟩
theorem H4.done {H:Array Obj}(h:H4 E e S B H v xs us F)(hS:∀b∈S,b<B):RN S (B3 E) H v xs:=by
 obtain⟨G,g1,g2⟩:=Nu h.len h.els
 have g2':∀b∈G,b∉S:=fun b hb hm=>g2 b hb (z8 _ hm)
 rcases h.own with⟨rfl,hus,rfl⟩|⟨vs,gb,cap,cur,F',hels,rfl,hg,r1,r2,r3,r4,hF⟩
 ·have:xs=[]:=List.eq_nil_of_length_eq_zero (by rw[← h.len,hus];rfl)
  subst this
  exact⟨[],.inl ⟨none,0,rfl,rfl,rfl⟩,fun b hb=>by cases hb⟩
 ·obtain⟨hv,hF0⟩:=G3 hels
  subst hv
  have hl:=h.len
  refine⟨gb::G,.inr ⟨vs,gb,0,cap,cur,e,(0,0),G,g1,by rw[hl],hg,by simpa [hl]using r4,zO,rfl⟩,fun b hb hm=>?_⟩
  rcases ze.1 hb with rfl|hb
  ·have:=h.low b (by rw[hF];exact z0 ..)
   have:=hS b hm
   omega
  ·exact g2' b hb hm
end bld
section ops
variable {P:Program} {ops:Array Oper} {w0:World} {Q:Act→World→Prop} {os:List Oper} {ks:List Nat} {N:Nat} {ρ:Nat→Value} {w:World}
 {d:Nat} {ty:TypeId} {pos:String} {aft:Array Edge} {g:Option (Nat×Bool)} {t e:TypeId} {z:Value} {b:Nat}
theorem My {α:Type}{E:Bk α}(hE:BT E){x y:Operand}{v a u:Value}{xs:List α}{r:α}{us:List Value}{S F:List Nat}{B B' U':Nat}(ht:P.underlying t=some (.slice e))(hi:TI P e 1 z b)(hz:z.cells=#[z])(hx:Bw N ρ x=v)(hy:Bw N ρ y=a)
  (hv:H4 E e S B w.heap v xs us F) (hB:B≤w.heap.size) (ha:Fr (AY rV e) B' U' w.heap a [u]) (hr:RN (S++F) E w.heap u r) (hbytes:(xs.length+1)*b≤140737488355328) (hmx:xs.length+1≤maxLen)
  (hu:Up ops N ρ ⟨some d,.call ⟨.builtin .append,#[x,y],#[t,t]⟩,ty,pos,aft,g⟩)
  (h:∀v1 w1 F0,Az F0 w w1→(∀c∈F0,c∈F)→(∃us F,H4 E e S B w1.heap v1 (xs++[r]) us F)→LW P ops w0 Q os ks (mk N (D3 ρ d v1)) w1) :
  LW P ops w0 Q (⟨some d,.call ⟨.builtin .append,#[x,y],#[t,t]⟩,ty,pos,aft,g⟩::os) (4::ks) (mk N ρ) w:=by
 obtain⟨G,g1',g2',g3'⟩:=ha
 have hG1:G.drop 1=[]:=by
  rcases g1' with⟨_,hc,_⟩|⟨vs,gb,cap,cur,F',hels,_,_,_,_,_,_,rfl⟩
  ·cases hc
  ·rw[(G3 hels).2];rfl
 obtain⟨v',w',F',r1,r2,r3,r4,r5⟩:=GN (P:=P) (ty:=ty) Bc ht hi hz hv.own hv.nd (g1'.rd id) rfl (by rw[hv.len];exact hbytes) (by rw[hv.len];exact hmx) (by rw[hG1];intro c hc;cases hc) (by rw[hG1];exact zk)
 rw[hG1]at r4
 refine Kn rfl hu v' w' (by simp only[execOp,resolve,invoke,builtin,zc,zf,zh,Sem.run_bind,Sem.run_pure,Result.andThen_ok,hx,hy,r1])<|h v' w' (F.take 1) r5 (fun c hc=>zj hc) ⟨us++[u],F',r2,r3,fun c hc=>?_,by simp[hv.len],fun k x0 hk0=>?_⟩
 ·rcases r4 c hc with hh|hh|hh
  ·exact hv.low c hh
  ·cases hh
  ·omega
 ·have key:∀ {v0:Value} {x0:α},RN (S++F) E w.heap v0 x0→RN (S++F') E w'.heap v0 x0:=by
   rintro v0 x0 ⟨K,k1,k2⟩
   have hlt:=hE.lt k1
   refine⟨K,hE.stable k1 fun c hc=>r5.block c (hlt c hc) fun hm=>k2 c hc (z1 _ (zj hm)),fun c hc hm=>?_⟩
   rcases zi.1 hm with hm|hm
   ·exact k2 c hc<|z8 _ hm
   ·rcases r4 c hm with hh|hh|hh
    ·exact k2 c hc<|z1 _ hh
    ·cases hh
    ·have:=hlt c hc;omega
  by_cases hkx:k<xs.length
  ·have hku:k<us.length:=by rw[hv.len];exact hkx
   rw[List.getElem?_append_left hkx]at hk0
   rw[Hi hku]
   exact key<|hv.els k x0 hk0
  ·rw[List.getElem?_append_right (by omega)]at hk0
   have e1:k=xs.length:=by
    rcases Nat.lt_or_ge (k-xs.length) 1 with h9|h9
    ·omega
    ·rw[List.getElem?_eq_none (by simpa using h9)]at hk0;cases hk0
   subst e1
   rw[GZ (hv.len).symm]
   simp at hk0
   subst hk0
   exact key hr
end ops
def PK:Value→Value
 |.slice a n c=>.slice (if c=1 then a else a.map (·.add 1)) (n-1) (c-1)
 |v=>v
def Io {α:Type}(E:Bk α):Bk (List α):=fun H v xs F=>B3 E H v xs F∧Cj v
theorem UK {α:Type}{E:Bk α}(hE:BT E):BT (Io E) where
 cells:=fun h=>(DG hE).cells h.1
 one:=fun h=>(DG hE).one h.1
 lt:=fun h=>(DG hE).lt h.1
 stable:=fun h hb=>⟨(DG hE).stable h.1 hb,h.2⟩
theorem O5:BT (Io (B3 rI)):=UK g1
theorem nU:BT (B3 (Io (B3 rI))):=DG O5
theorem RN.mk2 {S:List Nat}{H:Array Obj}{v:Value}{x:List Sr}(h:RN S (B3 (B3 rI)) H v x)(hc:Cj v):RN S (Io (B3 rI)) H v x:=by
 obtain⟨F,h,hb⟩:=h
 exact⟨F,⟨h,hc⟩,hb⟩
theorem RN.of2 {S:List Nat}{H:Array Obj}{v:Value}{x:List Sr}(h:RN S (Io (B3 rI)) H v x):RN S (B3 (B3 rI)) H v x∧Cj v:=by
 obtain⟨F,h,hb⟩:=h
 exact⟨⟨F,h.1,hb⟩,h.2⟩
theorem XT {v:Value}(h:Cj v):Cj (PK v):=by
 cases v with
 |slice a n c=>have:n≤c:=h;show n-1≤c-1;omega
 |_=>exact h
def gL (L:List Sr)(ps:List Int):List Sr:=ps.map fun i=>L.getD i.toNat []
theorem XU {L:List Sr}{ps:List Int}{k:Nat}(hk:k<ps.length):gL L (ps.take (k+1))=gL L (ps.take k)++[L.getD (ps.getD k 0).toNat []]:=by
 unfold gL
 rw[Cp 0 hk,List.map_append];rfl
def GS (X:List (List Sr)):List (List Sr):=X.map fun r=>r.drop 1
theorem XV {X:List (List Sr)}{k:Nat}(hk:k<X.length):GS (X.take (k+1))=GS (X.take k)++[(X.getD k []).drop 1]:=by
 unfold GS
 rw[Cp [] hk,List.map_append];rfl
theorem RN.suf {α:Type}{E:Bk α}{S:List Nat}{H:Array Obj}{v:Value}{xs:List α}(hE:BT E)(h:RN S (B3 E) H v xs)(hl:1≤xs.length)(hc:Cj v):RN S (B3 E) H (PK v) (xs.drop 1):=by
 obtain⟨F,h,hb⟩:=h
 rcases h with⟨a,cap,rfl,rfl,rfl⟩|⟨us,g,off,cap,cur,e,fr,F',hels,rfl,hg,ht,hm,rfl⟩
 ·simp at hl
 ·have hlen:=hels.length
  cases us with
  |nil=>simp at hlen;omega
  |cons u us =>
   cases xs with
   |nil=>simp at hl
   |cons x xs =>
    obtain⟨F1,F2,rfl,h1,h2⟩:=hels
    simp only[List.drop_succ_cons,List.drop_zero,z9]at *
    by_cases h1c:cap=1
    ·have hx0:xs=[]:=by
      have:xs.length+1≤cap:=hc
      exact List.eq_nil_of_length_eq_zero zO
     subst hx0
     subst h1c
     refine⟨[],.inl ⟨_,_,rfl,rfl,rfl⟩,fun b hb=>by cases hb⟩
    ·refine⟨g::F2,.inr ⟨us,g,off+1,cap-1,cur,e,fr,F2,h2,?_,hg,?_,zO,rfl⟩,fun b hm2=>hb b ?_⟩
     ·simp[PK,h1c,Addr.add]
     ·have h9:(cur.toList.drop off).drop 1=cur.toList.drop (off+1):=by rw[List.drop_drop]
      rw[← h9]
      have h8:((cur.toList.drop off).take (xs.length+1)).drop 1=us:=by rw[ht];rfl
      rw[List.drop_take]at h8
      simpa using h8
     ·rcases ze.1 hm2 with rfl|h9
      ·exact z0 ..
      ·exact z3 _<|z1 _ h9
section ops
variable {P:Program} {ops:Array Oper} {w0:World} {Q:Act→World→Prop} {os:List Oper} {ks:List Nat} {N:Nat} {ρ:Nat→Value} {w:World}
 {d:Nat} {ty:TypeId} {pos:String} {aft:Array Edge} {g:Option (Nat×Bool)} {t e:TypeId} {z:Value} {b:Nat}
theorem cR {x y:Operand}{v z:Value}{n b:Nat}(ht:P.underlying t=some (.slice e))(hi:TI P e 1 z b)(hx:Bw N ρ x=v)(hs:Er v n)(hc:Cj v)(hy:Bw N ρ y=.int .i64 1)(hk:1≤n)(hu:Up ops N ρ ⟨some d,.slice t x (some y) none none,ty,pos,aft,g⟩)
  (h:LW P ops w0 Q os ks (mk N (D3 ρ d (PK v))) w):LW P ops w0 Q (⟨some d,.slice t x (some y) none none,ty,pos,aft,g⟩::os) (0::ks) (mk N ρ) w:=by
 obtain⟨a,cap,rfl,_⟩:=hs
 obtain⟨inf,h1,_,h3,_⟩:=hi.get
 refine CP (by decide) rfl hu _ (fun w' _=>?_) h
 have hl:n≤cap:=hc
 have e1:((1:Int)≤(n:Int)):=by omega
 by_cases hc1:cap=1
 ·subst hc1
  have:n=1:=by omega
  subst this
  simp[execOp,hx,hy,Instr.sliceAt,Instr.slice,Instr.sliceBounds,Instr.sliceBound,asIntOf,run_underlying ht,sizeOf,typeInfo,h1,h3,PK]
 ·have e2:cap-1≠0:=by omega
  simp[execOp,hx,hy,Instr.sliceAt,Instr.slice,Instr.sliceBounds,Instr.sliceBound,asIntOf,run_underlying ht,sizeOf,typeInfo,h1,h3,PK,hk,hl,hc1,e2]
  intro h9;omega
end ops
end
section
theorem IL {m:Nat}{a:List (List Int)}(h0:1≤m)(ha:0<a.length)(h:BC m a):E1 a+1=m:=by
 have:=(h 0 ha).1
 unfold E1;omega
def BF (A:List Sr):List Int:=A.map fun s=>s.getD 0 0
def R4 (m:Nat)(T:Tp)(xs:List Int)(A:List Sr)(i:Nat):List Sr:=gK A.length m T.code (M5 T.code (Bh m A T.code) xs (Gw xs.length [((i:Nat):Int)] 1))
def HG (m:Nat)(T:Tp)(xs:List Int)(A:List Sr)(k:Nat):List (List Sr):=(List.range k).map (R4 m T xs A)
section
variable {m:Nat} {A:List Sr} {T:Tp} {xs:List Int}
theorem XW (k:Nat):HG m T xs A (k+1)=HG m T xs A k++[R4 m T xs A k]:=by unfold HG;rw[List.range_succ,List.map_append];rfl
theorem PL {k i:Nat}(hi:i<k):(HG m T xs A k).getD i []=R4 m T xs A i:=by unfold HG;simp[List.getD_eq_getElem?_getD,hi]
@[simp] theorem Jc (k:Nat):(HG m T xs A k).length=k:=by simp[HG]
@[simp] theorem C7:(BF A).length=A.length:=by simp[BF]
theorem E8 (h:BC m A):B9 (BF A)=true:=by
 unfold B9 BF
 rw[zm]
 intro x hx
 obtain⟨s,hs,rfl⟩:=List.mem_map.1 hx
 obtain⟨i,hi,rfl⟩:=List.mem_iff_getElem.1 hs
 have h9:=Bg (h i hi).2 0
 rw[show A.getD i []=A[i]from by simp[List.getD_eq_getElem?_getD,hi]]at h9
 exact Ck.2 h9
theorem EZ (h:BC m A):RY m (BF A) A:=⟨C7.symm,fun i hi=>h i (by rw[C7]at hi;exact hi),fun i hi=>by
 rw[C7]at hi
 unfold BF
 rw[B8 (d:=[]) hi]⟩
theorem DV.regs (h:DV m A T):BC m (Bh m A T.code):=fun k hk=>(h.ser k (by rw[BV]at hk;exact hk)).1
theorem DV.outs (h:DV m A T)(hE:Lu T xs):∀k,k<xs.length→0≤xs.getD k 0∧xs.getD k 0<((T.code.length:Nat):Int):=fun k hk=>by have:=hE k hk;have:=h.cl;omega
theorem DV.adj (h:DV m A T)(hE:Lu T xs){ws:List Int}:BC m (M5 T.code (Go.Proofs.YtbajepcpgncekaaGreat.Bh m A T.code) xs ws):=by
 have ho:=h.outs hE
 refine TB (ni:=A.length) h.form _ _ (A9 _) (by rw[EH,Dk,BV];exact A9 _)<|Ja (HX h.regs) (fun q hq=>?_) _<|A9 _
 have:=ho q hq
 rw[Dk,BV];omega
theorem Nv {cs:List AM}{R:List Sr}{os ws:List Int}:(M5 cs R os ws).length=R.length:=by unfold M5;rw[TA,EH,Dk]
end
end
section
def D2 (a b:Int):Bool:=Gp a 2 7 && decide (b=a-1)
theorem R5 {p:List Fn}{f:Int}(h:Gg p f D2=0):KE p=true∧(0≤f∧f<((p.length:Nat):Int))∧(2≤(p.getD f.toNat Fn.zero).params∧(p.getD f.toNat Fn.zero).params≤7)∧(((p.getD f.toNat Fn.zero).outs.length:Nat):Int)=(p.getD f.toNat Fn.zero).params-1:=by
 obtain⟨h1,h2⟩:=jY h
 obtain⟨h3,h4⟩:=Xn h1
 unfold D2 at h2
 rw[z7,Ct,decide_eq_true_eq]at h2
 exact⟨h3,h4,h2.1,h2.2⟩
def Nw (p:List Fn)(f:Int)(y:List Sr):Int :=
 if Gg p f D2=0 then(if (Ln y && decide (((y.length:Nat):Int)=(p.getD f.toNat Fn.zero).params-1))=true then 0 else 2)else Gg p f D2
section
variable {p:List Fn} {f:Int} {y:List Sr}
theorem XX (h:Nw p f y=0):KE p=true∧(0≤f∧f<((p.length:Nat):Int))∧(2≤(p.getD f.toNat Fn.zero).params∧(p.getD f.toNat Fn.zero).params≤7)∧((((p.getD f.toNat Fn.zero).outs.length:Nat):Int)=(p.getD f.toNat Fn.zero).params-1∧((y.length:Nat):Int)=(p.getD f.toNat Fn.zero).params-1)∧BC (E1 y+1) y∧E1 y≤12:=by
 unfold Nw at h
 split at h
 ·rename_i h1
  split at h
  ·rename_i h2
   rw[z7,decide_eq_true_eq]at h2
   obtain⟨q1,q2,q3,q4⟩:=R5 h1
   have q5:=Xu h2.1 zO
   exact⟨q1,q2,q3,⟨q4,h2.2⟩,q5.1,q5.2⟩
  ·omega
 ·rename_i h1;exact absurd h h1
theorem pE (h:Gg p f D2≠0):Gg p f D2=Nw p f y:=by unfold Nw;rw[if_neg h]
theorem pF (h:Gg p f D2=0)(h2:(Ln y && decide (((y.length:Nat):Int)=(p.getD f.toNat Fn.zero).params-1))=false):2=Nw p f y:=by unfold Nw;rw[if_pos h,h2];rfl
theorem kG (h:Gg p f D2=0)(h2:(Ln y && decide (((y.length:Nat):Int)=(p.getD f.toNat Fn.zero).params-1))=true):Gg p f D2=Nw p f y:=by unfold Nw;rw[if_pos h,h2,h];rfl
end
def PM (n:Nat):Sr:=(List.replicate n 0).set 1 1
def Cc (y:List Sr):List Sr:=PM (y.getD 0 []).length::y
theorem aR (n:Nat):BN n (PM n):=by
 refine⟨by simp[PM],?_⟩
 match n with
 |0=>rfl
 |1=>rfl
 |n+2 =>
  show B9 (0::1::List.replicate n 0)=true
  have:=Gu n
  unfold B9 at this ⊢
  rw[List.all_cons,List.all_cons,this];rfl
@[simp] theorem DC {y:List Sr}:(Cc y).length=y.length+1:=rfl
theorem Jd {m:Nat}{y:List Sr}(h:BC m y)(h0:0<y.length):BC m (Cc y):=fun k hk=>by
 cases k with
 |zero=>show BN m (PM (y.getD 0 []).length);rw[(h 0 h0).1];exact aR m
 |succ k=>exact h k (by rw[DC]at hk;omega)
structure Lz (rows:List Sr)(n r:Nat):Prop where
 le:r≤n
 z:∀i,i<rows.length→∀j,j<r→(rows.getD i []).getD j 0=0
 nz:r=n∨∃i,i<rows.length∧(rows.getD i []).getD r 0≠0
theorem Lz.uniq {rows:List Sr}{n r r':Nat}(h:Lz rows n r)(h':Lz rows n r'):r=r':=by
 have key:∀ {r r':Nat},Lz rows n r→Lz rows n r'→¬r<r':=fun {r r'} h h' hl=>by
  rcases h.nz with e|⟨i,hi,hn⟩
  ·have:=h'.le;omega
  ·exact hn<|h'.z i hi r hl
 have h1:=key h h'
 have h2:=key h' h
 omega
def nV (rows:List Sr)(n:Nat):Nat→Nat
 |0=>n
 |k+1=>if rows.any (fun s=>s.getD (n-(k+1)) 0 != 0)=true then n-(k+1)else nV rows n k
def nW (rows:List Sr)(n:Nat):Nat:=nV rows n n
theorem XY {rows:List Sr}{m:Nat}(h:rows.any (fun s=>s.getD m 0 != 0)=true):∃i,i<rows.length∧(rows.getD i []).getD m 0≠0:=by
 rw[List.any_eq_true]at h
 obtain⟨s,hs,h⟩:=h
 obtain⟨i,hi,rfl⟩:=List.mem_iff_getElem.1 hs
 exact⟨i,hi,by rw[show rows.getD i []=rows[i]from by simp[List.getD_eq_getElem?_getD,hi]];simpa using h⟩
theorem S0 {rows:List Sr}{m:Nat}(h:rows.any (fun s=>s.getD m 0 != 0)=false):∀i,i<rows.length→(rows.getD i []).getD m 0=0:=fun i hi=>by
 rw[List.any_eq_false]at h
 have:=h rows[i] (List.getElem_mem hi)
 rw[show rows.getD i []=rows[i]from by simp[List.getD_eq_getElem?_getD,hi]]
 simpa using this
theorem XZ {rows:List Sr}{n:Nat}:∀k,k≤n→(∀i,i<rows.length→∀j,j<n-k→(rows.getD i []).getD j 0=0)→Lz rows n (nV rows n k)
 |0,_,hz=>⟨A9 _,fun i hi j hj=>hz i hi j hj,.inl rfl⟩
 |k+1,hk,hz=>by
  unfold nV
  split
  ·rename_i h;exact⟨zO,hz,.inr (XY h)⟩
  ·rename_i h
   refine XZ k zO fun i hi j hj=>?_
   by_cases e:j=n-(k+1)
   ·subst e;exact S0 (Bool.not_eq_true _ ▸ h) i hi
   ·exact hz i hi j zO
theorem gM (rows:List Sr)(n:Nat):Lz rows n (nW rows n):=XZ n (A9 _) fun i hi j hj=>by omega
theorem Lz.eq {rows:List Sr}{n r:Nat}(h:Lz rows n r):r=nW rows n:=h.uniq (gM rows n)
def LA (p:List Fn)(f:Int)(y:List Sr):Int:=if Nw p f y=0 then H2 p (E1 y+1) f.toNat (Cc y)else Nw p f y
def S3 (p:List Fn)(f:Int)(y:List Sr):Int:=if LA p f y=0 then((nW (CS p (E1 y+1) f.toNat (Cc y)) (y.getD 0 []).length:Nat):Int)else 0
theorem TD {p:List Fn}{f:Int}{y:List Sr}(h:Nw p f y≠0):LA p f y=Nw p f y:=if_neg h
theorem Nx {p:List Fn}{f:Int}{y:List Sr}(h:Nw p f y=0):LA p f y=H2 p (E1 y+1) f.toNat (Cc y):=if_pos h
theorem cS {p:List Fn}{f:Int}{y:List Sr}(h:LA p f y≠0):S3 p f y=0:=if_neg h
theorem TF {p:List Fn}{f:Int}{y:List Sr}(h:LA p f y=0):S3 p f y=((nW (CS p (E1 y+1) f.toNat (Cc y)) (y.getD 0 []).length:Nat):Int):=if_pos h
theorem PN (n:Nat):cst n 0=List.replicate n 0:=by
 unfold cst
 cases n with
 |zero=>rfl
 |succ n=>rfl
theorem Ic.one {e e1:TypeId}{B U B0 U0:Nat}{H:Array Obj}{v u:Value}{r:List Int}(h:Fr (AY rV e) B U H v [u])(hr:Fr (AY rI e1) B0 U0 H u r)(hU:U0≤B):∃us F,Ic e [] B H v [r] us F:=by
 obtain⟨F,h1,h2,h3⟩:=h
 obtain⟨G,g1',g2',g3'⟩:=hr
 refine⟨[u],F,h1,h2,fun b hb=>(h3 b hb).1,rfl,fun k hk=>?_⟩
 have hk0:k=0:=by simp at hk;omega
 subst hk0
 exact⟨G,g1'.rd id,fun b hb hm=>by
  rw[zl]at hm
  have:=g3' b hb
  have:=h3 b hm
  omega⟩
theorem Y0 {y:List Sr}{t:Sr}{k:Nat}(hk:k<y.length):(t::y.take k)++[y.getD k []]=t::y.take (k+1):=by rw[Cp [] hk];rfl
theorem pG {p:List Fn}{f:Int}(h:Jz p f=0)(h1:(decide (((2:Nat):Int)≤(p.getD f.toNat Fn.zero).params) && decide ((p.getD f.toNat Fn.zero).params≤((7:Nat):Int)))=false):2=Gg p f D2:=by
 have h1':Gp (p.getD f.toNat Fn.zero).params 2 7=false:=h1
 unfold Gg D2;rw[if_pos h,h1',Bool.false_and];rfl
theorem pH {p:List Fn}{f:Int}(h:Jz p f=0)(h1:¬((((p.getD f.toNat Fn.zero).outs.length:Nat):Int)=(p.getD f.toNat Fn.zero).params-1)):2=Gg p f D2:=by
 unfold Gg D2;rw[if_pos h,A8 h1,Bool.and_false];rfl
theorem pI {p:List Fn}{f:Int}(h:Jz p f=0)(h1:(decide (((2:Nat):Int)≤(p.getD f.toNat Fn.zero).params) && decide ((p.getD f.toNat Fn.zero).params≤((7:Nat):Int)))=true)(h2:(((p.getD f.toNat Fn.zero).outs.length:Nat):Int)=(p.getD f.toNat Fn.zero).params-1):Jz p f=Gg p f D2:=by
 have h1':Gp (p.getD f.toNat Fn.zero).params 2 7=true:=h1
 unfold Gg D2;rw[if_pos h,h1',A7 h2,h];rfl
theorem RN.ofV {e:TypeId}{B U:Nat}{H:Array Obj}{v:Value}{us:List Value}{xs:List Sr}(h:Fr (AY rV e) B U H v us)(hl:us.length=xs.length)(hr:∀k,k<xs.length→RN [] (B3 rI) H (us.getD k undef) (xs.getD k [])):RN [] (B3 (B3 rI)) H v xs∧Cj v:=by
 refine⟨?_,h.cap⟩
 obtain⟨F,h1,h2,h3⟩:=h
 obtain⟨G,g1,g2⟩:=Lg hl hr
 rcases h1 with⟨rfl,hus,rfl⟩|⟨vs,gb,cap,cur,F',hels,rfl,hg,r1,r2,r3,r4,hF⟩
 ·have:xs=[]:=List.eq_nil_of_length_eq_zero (by rw[← hl,hus];rfl)
  subst this
  exact⟨[],.inl ⟨Option.none,0,rfl,rfl,rfl⟩,fun b hb=>by cases hb⟩
 ·obtain⟨hv,hF0⟩:=G3 hels
  subst hv
  exact⟨gb::G,.inr ⟨vs,gb,0,cap,cur,e,(0,0),G,g1,by rw[hl],hg,by simpa [hl]using r4,zO,rfl⟩,fun b _ hm=>by cases hm⟩
end
section
theorem BN.ext {m:Nat}{a b:Sr}(ha:BN m a)(hb:BN m b)(h:∀k,k<m→a.getD k 0=b.getD k 0):a=b:=by
 refine List.ext_getElem (by rw[ha.1,hb.1]) fun k h1 h2=>?_
 have:=h k (by rw[← ha.1];exact h1)
 simpa [List.getD_eq_getElem?_getD,h1,h2]using this
section
variable {m:Nat} {a b c:Sr}
theorem TG (ha:BN m a){k:Nat}(hk:k<m):(EE a b).getD k 0=md (a.getD k 0+b.getD k 0):=by unfold EE;exact Bx _ (by rw[ha.1];exact hk)
theorem TH (ha:BN m a){y:Int}{k:Nat}(hk:k<m):(CX a y).getD k 0=md (a.getD k 0*y):=by unfold CX;exact Bx _ (by rw[ha.1];exact hk)
end
end
section
theorem jB {f:Nat→Int}:∀ {n:Nat},(∀i,i<n→f i=0)→sm n f=0
 |0,_=>rfl
 |n+1,h=>by unfold sm;rw[jB (n:=n) fun i hi=>h i zO,h n (by omega)];rfl
def cT (M:List (List Int)):Nat→Nat→Int:=fun r k=>(M.getD r []).getD k 0
theorem Mz {a:List (List Int)}{b:List Int}(hS:Sq a.length a)(hl:b.length=a.length)(hb:B9 b=true)(hs:Iy a b≠none)(v:Nat→Int)
  (hv:∀r,r<a.length→md (sm a.length fun j=>cT a r j*v j)=b.getD r 0):∀r,r<a.length→md (v r)=(Ji a b).getD r 0:=by
 have hA:Sh (BN 1) [] (mm (fun x:Int=>[x]) a).length ((mm (fun x:Int=>[x]) a).length+1) (Hq (mm (fun x=>[x]) a) (Cd b)):=by
  rw[Ky hS hl,Lm];exact VJ (H0 hS hb)
 have hj:CR (mm (fun x=>[x]) a) (Cd b)≠none:=by
  rw[Pk hS hl hb]
  obtain⟨M,hM⟩:=Option.ne_none_iff_exists'.1 hs
  rw[hM];simp
 have h:=(N6 (v:=fun j _=>v j) hA hj).1
 rw[Lm,Ky hS hl,T5 hS hl hb hs]at h
 intro r hr
 have hln:=N4 hS hb hs
 have h0:=h (fun r hr k hk=>?_) r hr 0 zO
 ·have e:C0 ((Cd (Ji a b)).getD r []) 0=(Ji a b).getD r 0:=by
   rw[QC _ (by omega)];rfl
  rw[e]at h0
  have hn:=Bg (QB hS hb hs) r
  rw[h0];exact Jv hn.1 hn.2
 ·have hk0:k=0:=by omega
  subst hk0
  have hrow:=(H0 hS hb).row r hr
  have hrl:=hrow.len
  rw[EY]
  unfold Dv
  have e1:(sm a.length fun j=>cv (C0 ((((E6 a b).getD r []).map fun x:Int=>[x]).getD j [])) (fun _=>v j) 0)=sm a.length fun j=>cT a r j*v j:=by
   refine Cm fun j hj'=>?_
   rw[B8 (d:=0) zO,← Pi (b:=b) hS r (Nat.zero_le _) hr j hj']
   rfl
  have e2:C0 ((((E6 a b).getD r []).map fun x:Int=>[x]).getD a.length []) 0=b.getD r 0:=by
   rw[B8 (d:=0) (by omega)]
   unfold E6
   rw[Bx _ hr,Hk (by rw[hS.row r hr];omega),hS.row r hr,Nat.sub_self]
   rfl
  rw[e1,e2,hv r hr]
  have hn:=Bg hb r
  exact (Jv hn.1 hn.2).symm
section
variable {N N':Nat} {f f' g g':Nat→Int} {a b:Sr}
theorem EN.mono (h:EN N f g)(hN:N'≤N):EN N' f g:=fun k hk=>h k zO
theorem EN.neg (hf:EN N f f'):EN N (fun k=>- f k) (fun k=>- f' k):=fun k hk=>by rw[← Lh,hf k hk,Lh]
theorem EN.eq (h:∀k,k<N→f k=g k):EN N f g:=fun k hk=>by rw[h k hk]
theorem Y1 (ha:BN N a):EN N (C0 (CX a 1000002)) (fun k=>- C0 a k):=EN.trans (pB (y:=1000002) ha) fun k _=>by
 show md (1000002*C0 a k)=md (- C0 a k)
 unfold md;omega
def Lo (r:Nat)(f:Nat→Int):Prop:=EN r f Hr
theorem Lo.mono {r r':Nat}(h:Lo r f)(hr:r'≤r):Lo r' f:=EN.mono h hr
theorem Lo.of {r:Nat}(h:EN r f g)(hg:Lo r g):Lo r f:=EN.trans h hg
theorem Lo.add {r:Nat}(h:Lo r f)(hg:Lo r g):Lo r fun k=>f k+g k:=(EN.add h hg).trans fun k _=>rfl
theorem Lo.sub {r:Nat}(h:Lo r f)(hg:Lo r g):Lo r fun k=>f k-g k:=(EN.sub h hg).trans fun k _=>rfl
theorem Lo.neg {r:Nat}(h:Lo r f):Lo r fun k=>- f k:=fun k hk=>by
 have:=h k hk
 show md (- f k)=md 0
 rw[← Lh,this];rfl
theorem Lo.cvl {r:Nat}(h:Lo r f)(g:Nat→Int):Lo r (cv f g):=(EN.cv h (EN.rfl' g)).trans fun k _=>by rw[DT];rfl
theorem Lo.cvr {r:Nat}(g:Nat→Int)(h:Lo r f):Lo r (cv g f):=fun k hk=>by rw[CF];exact h.cvl g k hk
theorem Lo.cv2 {r s:Nat}(h:Lo r f)(hg:Lo s g):Lo (r+s) (cv f g):=fun k hk=>by
 rw[LT]
 have e:md (sm (k+1) fun i=>f i*g (k-i))=md (sm (k+1) fun _=>0):=N0 fun i hi=>by
  by_cases h1:i<r
  ·rw[← Du,h i h1]
   show md (md 0*_)=_
   rw[Fm,Int.zero_mul]
  ·rw[← Du,hg (k-i) (by omega)]
   show md (_*md 0)=_
   rw[Fp,Int.mul_zero]
 rw[e,jB fun _ _=>rfl];rfl
theorem KN (f g g':Nat→Int)(k:Nat):cv f (fun i=>g i-g' i) k=cv f g k-cv f g' k:=by rw[CF,Ps,CF g,CF g']
theorem TJ (f g:Nat→Int)(k:Nat):cv f (fun i=>- g i) k = - cv f g k:=by
 have e:(fun i=>- g i)=fun i=>(-1)*g i:=funext fun i=>by omega
 rw[e,Qv];omega
theorem PO (f g:Nat→Int)(k:Nat):cv (fun i=>- f i) g k = - cv f g k:=by rw[CF,TJ,CF]
theorem Lo.div {r:Nat}(hd:∃e:Int,md (g 0*e)=1)(h:Lo r (cv f g)):Lo r f:=HR hd (h.trans fun k _=>by rw[DT];rfl)
end
section
variable {N m n:Nat} {B:List Sr} {v v':Nat→Nat→Int}
theorem S4 {f g:Nat→Int}{i:Nat}:∀ {n:Nat},i<n→(∀j,j<n→j≠i→f j=g j)→sm n f=sm n g+(f i-g i)
 |0,h,_=>absurd h (Nat.not_lt_zero i)
 |n+1,hi,h=>by
  show sm n f+f n=sm n g+g n+_
  by_cases e:i=n
  ·subst e
   rw[Cm fun j hj=>h j zO (by omega)];omega
  ·rw[S4 (n:=n) zO fun j hj he=>h j zO he,h n zO (fun h=>e h.symm)];omega
theorem kH {i:Nat}(hi:i<n)(h:∀j,j<n→j≠i→v j=v' j)(t:Nat):Dv n v B t=Dv n v' B t+(cv (C0 (B.getD i [])) (v i) t-cv (C0 (B.getD i [])) (v' i) t):=by
 unfold Dv
 exact S4 (f:=fun j=>cv (C0 (B.getD j [])) (v j) t) (g:=fun j=>cv (C0 (B.getD j [])) (v' j) t) hi fun j hj he=>by rw[h j hj he]
theorem TK {i:Nat}{s:Sr}{d:Nat→Int}(hi:i<n)(hb:i<B.length)(h:EN N (C0 s) fun t=>C0 (B.getD i []) t+d t):EN N (Dv n v (B.set i s)) fun t=>Dv n v B t+cv d (v i) t:=fun t ht=>by
 have e:Dv n v (B.set i s) t=Dv n v B t+(cv (C0 s) (v i) t-cv (C0 (B.getD i [])) (v i) t):=by
  unfold Dv
  have:=S4 (f:=fun j=>cv (C0 ((B.set i s).getD j [])) (v j) t) (g:=fun j=>cv (C0 (B.getD j [])) (v j) t) hi fun j hj he=>by rw[BK _ _ _ _ _ hb,if_neg he]
  rw[this,BK _ _ _ _ _ hb,if_pos rfl]
 have h2:md (cv (C0 s) (v i) t)=md (cv (C0 (B.getD i [])) (v i) t+cv d (v i) t):=by
  rw[EN.cv h (EN.rfl' (v i)) t ht,Kz]
 show md _=md (Dv n v B t+cv d (v i) t)
 rw[e,← GO,← EB,h2,EB,GO]
 congr 1;omega
theorem MA {r:Int}{s:Sr}(hB:BC m B)(hN:N≤m)(hr:r.toNat<n)(hb:r.toNat<B.length):EN N (Dv n v (Ga B r s)) fun t=>Dv n v B t+cv (C0 s) (v r.toNat) t :=
 TK hr hb (EN.mono (gH (hB _ hb)) hN)
theorem R6 (h:∀j,j<n→∀t,C0 (B.getD j []) t=0)(t:Nat):Dv n v B t=0:=by
 unfold Dv
 refine jB fun j hj=>?_
 rw[show C0 (B.getD j [])=Hr from funext fun t=>h j hj t,DT]
end
structure kI (N:Nat)(cs:List AM)(R:List Sr)(z D:Nat→Nat→Int):Prop where
 t1:∀k,k<cs.length→(cs.getD k AM.zero).op=1→EN N (D k) (z (cs.getD k AM.zero).num.toNat)
 t2:∀k,k<cs.length→(cs.getD k AM.zero).op=2→EN N (D k) Hr
 t3:∀k,k<cs.length→(cs.getD k AM.zero).op=3→EN N (D k) fun t=>D (cs.getD k AM.zero).a.toNat t+D (cs.getD k AM.zero).b.toNat t
 t4:∀k,k<cs.length→(cs.getD k AM.zero).op=4→EN N (D k) fun t=>D (cs.getD k AM.zero).a.toNat t-D (cs.getD k AM.zero).b.toNat t
 t5:∀k,k<cs.length→(cs.getD k AM.zero).op=5→EN N (D k) fun t=>cv (C0 (R.getD (cs.getD k AM.zero).b.toNat [])) (D (cs.getD k AM.zero).a.toNat) t+cv (C0 (R.getD (cs.getD k AM.zero).a.toNat [])) (D (cs.getD k AM.zero).b.toNat) t
 t6:∀k,k<cs.length→(cs.getD k AM.zero).op=6→EN N (cv (C0 (R.getD (cs.getD k AM.zero).b.toNat [])) (D k)) fun t=>D (cs.getD k AM.zero).a.toNat t-cv (C0 (R.getD k [])) (D (cs.getD k AM.zero).b.toNat) t
 t7:∀k,k<cs.length→(cs.getD k AM.zero).op=7→EN N (D k) fun t=>- D (cs.getD k AM.zero).a.toNat t
def FJ (cs:List AM)(D:Nat→Nat→Int)(n k:Nat):Nat→Int:=if k<n∨(cs.getD k AM.zero).op=1 then D k else Hr
section
variable {N m ni:Nat} {cs:List AM} {R B:List Sr} {z D:Nat→Nat→Int} {os ws:List Int}
theorem HZ {n k:Nat}(h:k<n):FJ cs D n k=D k:=if_pos (.inl h)
theorem Y2 {n k:Nat}(h:(cs.getD k AM.zero).op=1):FJ cs D n k=D k:=if_pos (.inr h)
theorem cU {n k:Nat}(h:n≤k)(h1:(cs.getD k AM.zero).op≠1):FJ cs D n k=Hr:=if_neg zO
theorem kJ (hT:kI N cs R z D)(hN:N≤m)(hR:BC m R)(hRl:R.length=cs.length)(hB:BC m B)(hl:B.length=cs.length){k:Nat}(hk:k<cs.length)(hf:Hd ni k (cs.getD k AM.zero))
  (hd:(cs.getD k AM.zero).op=6→(R.getD (cs.getD k AM.zero).b.toNat []).getD 0 0≠0) :
  EN N (Dv cs.length (FJ cs D k) (OT cs R k B)) (Dv cs.length (FJ cs D (k+1)) B):=by
 have hBk:=hB k zO
 by_cases h1:(cs.getD k AM.zero).op=1
 ·rw[R3 (by omega)]
  have e:Dv cs.length (FJ cs D k) B=Dv cs.length (FJ cs D (k+1)) B:=funext fun t=>by
   unfold Dv
   refine Cm fun j hj=>?_
   by_cases e:j=k
   ·subst e;rw[Y2 h1,Y2 h1]
   ·by_cases e2:j<k
    ·rw[HZ e2,HZ (by omega)]
    ·unfold FJ
     by_cases e3:(cs.getD j AM.zero).op=1
     ·rw[if_pos (.inr e3),if_pos (.inr e3)]
     ·rw[if_neg zO,if_neg (by omega)]
  rw[e];exact EN.rfl' _
 have hup:Dv cs.length (FJ cs D (k+1)) B=fun t=>Dv cs.length (FJ cs D k) B t+cv (C0 (B.getD k [])) (D k) t:=funext fun t=>by
  rw[kH (v:=FJ cs D (k+1)) (v':=FJ cs D k) hk (fun j hj he=>?_) t,HZ (Nat.lt_succ_self k),cU (A9 k) h1,CF _ Hr,DT]
  ·omega
  ·by_cases e2:j<k
   ·rw[HZ e2,HZ (by omega)]
   ·unfold FJ
    by_cases e3:(cs.getD j AM.zero).op=1
    ·rw[if_pos (.inr e3),if_pos (.inr e3)]
    ·rw[if_neg zO,if_neg (by omega)]
 rw[hup]
 have two:∀ {ra rb:Int} {sa sb:Sr},ra.toNat<k→rb.toNat<k→EN N (fun t=>cv (C0 sa) (D ra.toNat) t+cv (C0 sb) (D rb.toNat) t) (cv (C0 (B.getD k [])) (D k)) →
   EN N (Dv cs.length (FJ cs D k) (Ga (Ga B ra sa) rb sb)) fun t=>Dv cs.length (FJ cs D k) B t+cv (C0 (B.getD k [])) (D k) t:=fun {ra rb sa sb} ha hb h=>by
  have q1:=MA (v:=FJ cs D k) (s:=sa) (n:=cs.length) hB hN (r:=ra) zO zO
  have q2:=MA (v:=FJ cs D k) (s:=sb) (n:=cs.length) (Dl (s:=sa) hB (r:=ra) zO) hN (r:=rb) zO (by rw[Cf];omega)
  rw[HZ ha]at q1
  rw[HZ hb]at q2
  refine q2.trans<|EN.trans (EN.add q1<|EN.rfl' _) ?_
  refine EN.trans (EN.eq fun t _=>?_)<|EN.add (EN.rfl'<|Dv cs.length (FJ cs D k) B) h
  exact Int.add_assoc _ _ _
 have b2:=fun h=>hf.i2 h
 have b7:=fun h=>hf.i7 h
 by_cases h3:(cs.getD k AM.zero).op=3
 ·rw[QY h3]
  have:=b2 zO
  refine two zO zO ?_
  refine EN.trans (EN.eq fun t _=>?_)<|EN.cv (EN.rfl' _) (hT.t3 k hk h3).symm
  rw[KB]
 by_cases h4:(cs.getD k AM.zero).op=4
 ·rw[QZ h4]
  have:=b2 zO
  refine two zO zO ?_
  refine EN.trans (EN.add (EN.rfl' _)<|EN.cv (EN.mono (Y1 hBk) hN)<|EN.rfl' _) ?_
  refine EN.trans (EN.eq fun t _=>?_)<|EN.cv (EN.rfl' _) (hT.t4 k hk h4).symm
  rw[KN,PO];omega
 by_cases h5:(cs.getD k AM.zero).op=5
 ·rw[R0 h5]
  have:=b2 zO
  refine two zO zO ?_
  refine EN.trans (EN.add (EN.cv (EN.mono (RA hBk) hN)<|EN.rfl' _)<|EN.cv (EN.mono (RA hBk) hN)<|EN.rfl' _) ?_
  refine EN.trans (EN.eq fun t _=>?_)<|EN.cv (EN.rfl' _) (hT.t5 k hk h5).symm
  rw[KB,FI,FI]
 by_cases h6:(cs.getD k AM.zero).op=6
 ·rw[R1 h6]
  have:=b2 zO
  have hRb:=hR (cs.getD k AM.zero).b.toNat zO
  refine two zO zO ?_
  have hq:=VO hBk hRb<|hd h6
  refine EN.trans (EN.add (EN.rfl' _)<|EN.cv (EN.mono (EN.trans (Y1<|II<|Hu hBk)<|EN.neg<|RA<|Hu hBk) hN)<|EN.rfl' _) ?_
  refine EN.trans ?_<|EN.cv (EN.mono hq hN)<|EN.rfl' _
  refine EN.trans ?_<|EN.trans (EN.cv (EN.rfl'<|C0<|C6 (B.getD k [])<|R.getD (cs.getD k AM.zero).b.toNat []) (hT.t6 k hk h6).symm) (EN.eq fun t _=>(FI _ _ _ t).symm)
  refine EN.eq fun t _=>?_
  rw[PO,KN,FI];omega
 by_cases h7:(cs.getD k AM.zero).op=7
 ·rw[R2 h7]
  have:=b7 h7
  have q1:=MA (v:=FJ cs D k) (s:=CX (B.getD k []) 1000002) (n:=cs.length) hB hN (r:=(cs.getD k AM.zero).a) zO zO
  rw[HZ (by omega)]at q1
  refine q1.trans<|EN.add (EN.rfl' _) ?_
  refine EN.trans (EN.cv (EN.mono (Y1 hBk) hN)<|EN.rfl' _)<|EN.trans (EN.eq fun t _=>?_)<|EN.cv (EN.rfl' _) (hT.t7 k hk h7).symm
  rw[TJ,PO]
 have h2:(cs.getD k AM.zero).op=2:=by unfold Hd at hf;omega
 rw[R3 (by omega)]
 refine EN.trans (EN.eq fun t _=>?_)<|EN.add (EN.rfl' _)<|EN.cv (EN.rfl' _) (hT.t2 k hk h2).symm
 rw[CF,DT,Int.add_zero]
theorem cV (hT:kI N cs R z D)(hN:N≤m)(hR:BC m R)(hRl:R.length=cs.length)(hf:∀k,k<cs.length→Hd ni k (cs.getD k AM.zero))
  (hd:∀k,k<cs.length→(cs.getD k AM.zero).op=6→(R.getD (cs.getD k AM.zero).b.toNat []).getD 0 0≠0) :
  ∀(n:Nat) (B:List Sr),n≤cs.length→BC m B→B.length=cs.length→EN N (Dv cs.length (FJ cs D 0) (UW cs R n B)) (Dv cs.length (FJ cs D n) B)
 |0,B,_,_,_=>EN.rfl' _
 |n+1,B,hn,hB,hl=>by
  show EN N (Dv cs.length (FJ cs D 0) (UW cs R n (OT cs R n B))) _
  exact (cV hT hN hR hRl hf hd n _ zO (HY hB zO<|hf n zO) (by rw[Mw,hl])).trans<|kJ hT hN hR hRl hB hl zO (hf n zO)<|hd n zO
theorem TL {L B0:List Sr}(hT:kI N cs R z D)(hN:N≤m)(hB:BC m B0)(hl:B0.length=ni)(hf:∀k,k<cs.length→Hd ni k (cs.getD k AM.zero)) :
  ∀n,n≤cs.length→EN N (Dv ni z (UJ cs L n B0)) fun t=>Dv ni z B0 t+sm n fun k=>cv (C0 (L.getD k [])) (FJ cs D 0 k) t
 |0,_=>fun t _=>by show _=md (_+0);rw[Int.add_zero];rfl
 |n+1,hn=>by
  have ih:=TL (L:=L) hT hN hB hl hf n zO
  by_cases h1:(cs.getD n AM.zero).op=1
  ·rw[Ns h1]
   have hi:=(hf n zO).i1 h1
   refine (MA (Mx (fun k hk=>by rw[hl];exact hf k hk) hB n zO) hN zO (by rw[Jb];omega)).trans ?_
   refine (EN.add ih<|EN.cv (EN.rfl' _) (hT.t1 n zO h1).symm).trans (EN.eq fun t _=>?_)
   show _=Dv ni z B0 t+(sm n _+cv (C0 (L.getD n [])) (FJ cs D 0 n) t)
   rw[Y2 h1,Int.add_assoc]
  ·rw[Nt h1]
   refine ih.trans (EN.eq fun t _=>?_)
   show _=Dv ni z B0 t+(sm n _+cv (C0 (L.getD n [])) (FJ cs D 0 n) t)
   rw[cU (Nat.zero_le n) h1,CF _ Hr,DT,Int.add_zero]
theorem Y3 {m:Nat}(t:Nat):C0 (List.replicate m 0) t=0:=GR m t
theorem cW (hB:BC m B)(hm:1≤m){n:Nat}(hn:n≤B.length):∀k,k≤os.length→(∀i,i<os.length→(os.getD i 0).toNat<n) →
  EN N (Dv n D (O4 os ws k B)) fun t=>Dv n D B t+sm k fun i=>ws.getD i 0*D (os.getD i 0).toNat t
 |0,_,_=>fun t _=>by show _=md (_+0);rw[Int.add_zero];rfl
 |k+1,hk,ho=>by
  have ih:=cW hB hm hn k zO ho
  have h9:=ho k zO
  have hs:=Ja (ws:=ws) hB (fun i hi=>by have:=ho i hi;omega) k zO (os.getD k 0).toNat (by rw[EH];omega)
  refine (TK (B:=O4 os ws k B) (s:=((O4 os ws k B).getD (os.getD k 0).toNat []).set 0<|md (((O4 os ws k B).getD (os.getD k 0).toNat []).getD 0 0+ws.getD k 0)) (d:=fun t=>ws.getD k 0*QD t) h9 (by rw[EH];omega) fun t _=>?_).trans ?_
  ·unfold C0
   rw[BK _ _ _ _ _ (by rw[hs.1];omega)]
   unfold QD
   by_cases e:t=0
   ·subst e
    show _=md (_+ws.getD k 0*(if (0:Nat)=0 then 1 else 0))
    rw[if_pos rfl,if_pos rfl,FE,Int.mul_one]
   ·show _=md (_+ws.getD k 0*(if t=0 then 1 else 0))
    rw[if_neg e,if_neg e,Int.mul_zero,Int.add_zero]
  ·refine (EN.add ih<|EN.rfl' _).trans (EN.eq fun t _=>?_)
   show _=_+(sm k _+_)
   rw[KA,Pr,Int.add_assoc]
theorem aS (hT:kI N cs R z D)(hN:N≤m)(hm:1≤m)(hR:BC m R)(hRl:R.length=cs.length)(hf:∀k,k<cs.length→Hd ni k (cs.getD k AM.zero))
  (hd:∀k,k<cs.length→(cs.getD k AM.zero).op=6→(R.getD (cs.getD k AM.zero).b.toNat []).getD 0 0≠0) (ho:∀i,i<os.length→(os.getD i 0).toNat<cs.length) :
  EN N (Dv ni z (gK ni m cs (M5 cs R os ws))) fun t=>sm os.length fun i=>ws.getD i 0*D (os.getD i 0).toNat t:=by
 have h1:=TL (L:=M5 cs R os ws) (B0:=List.replicate ni<|List.replicate m 0) hT hN (KM m ni) z5 hf cs.length<|A9 _
 have hw:BC m (O4 os ws os.length (KL R)):=Ja (HX hR) (fun q hq=>by rw[Dk,hRl];exact ho q hq) _ (A9 _)
 have h2:=cV hT hN hR hRl hf hd cs.length (O4 os ws os.length<|KL R) (A9 _) hw (by rw[EH,Dk,hRl])
 have h3:=cW (N:=N) (D:=D) (os:=os) (ws:=ws) (HX hR) hm (n:=cs.length) (by rw[Dk,hRl];exact A9 _) os.length (A9 _) ho
 have e1:∀t,Dv ni z (List.replicate ni (List.replicate m 0)) t=0:=R6 fun j hj t=>by
  rw[show(List.replicate ni (List.replicate m (0:Int))).getD j []=List.replicate m 0 from by simp[List.getD_eq_getElem?_getD,hj]];exact Y3 t
 have e2:∀t,Dv cs.length D (KL R) t=0:=R6 fun j hj t=>by
  rw[show(KL R).getD j []=List.replicate (R.getD j []).length 0 from by unfold KL;rw[B8 (d:=[]) (by omega)]];exact Y3 t
 have e3:Dv cs.length (FJ cs D cs.length) (O4 os ws os.length (KL R))=Dv cs.length D (O4 os ws os.length (KL R)):=funext fun t=>by
  unfold Dv
  exact Cm fun j hj=>by rw[HZ hj]
 rw[e3]at h2
 refine h1.trans<|EN.trans (EN.eq fun t _=>?_)<|EN.trans h2<|h3.trans (EN.eq fun t _=>?_)
 ·rw[e1,Int.zero_add];rfl
 ·rw[e2,Int.zero_add]
end
end
section
def BD (A A':List Sr)(j:Nat):Nat→Int:=fun t=>C0 (A'.getD j []) t-C0 (A.getD j []) t
section
variable {m r N k j:Nat} {A A':List Sr} {T:Tp} {cs:List AM}
theorem H5 (hk:k≤cs.length)(hj:j<k):(Bh m A (cs.take k)).getD j []=(Bh m A cs).getD j []:=by
 have:=Nk (m:=m) (A:=A) (cs.take k) (cs.drop k) (k:=j) (by rw[List.length_take];omega)
 rw[List.take_append_drop]at this
 exact this.symm
theorem K2 (hk:k<cs.length):(Bh m A cs).getD k []=Gx m A (Bh m A (cs.take k)) (cs.getD k AM.zero):=by
 rw[← H5 (show k+1≤cs.length from hk) (Nat.lt_succ_self k),DW hk,GZ (by rw[BV,List.length_take];omega)]
theorem DV.r1 (h:DV m A T)(hk:k<T.code.length)(h1:(T.code.getD k AM.zero).op=1):(Go.Proofs.YtbajepcpgncekaaGreat.Bh m A T.code).getD k []=A.getD (T.code.getD k AM.zero).num.toNat []:=by rw[K2 hk,PI h1]
theorem DV.r2 (h:DV m A T)(hk:k<T.code.length)(h1:(T.code.getD k AM.zero).op=2):(Go.Proofs.YtbajepcpgncekaaGreat.Bh m A T.code).getD k []=cst m (T.code.getD k AM.zero).num:=by rw[K2 hk,Nr (by omega)]
theorem DV.r3 (h:DV m A T)(hk:k<T.code.length)(h1:(T.code.getD k AM.zero).op=3):(Go.Proofs.YtbajepcpgncekaaGreat.Bh m A T.code).getD k []=EE ((Go.Proofs.YtbajepcpgncekaaGreat.Bh m A T.code).getD (T.code.getD k AM.zero).a.toNat []) ((Go.Proofs.YtbajepcpgncekaaGreat.Bh m A T.code).getD (T.code.getD k AM.zero).b.toNat []):=by
 have:=(h.form k hk).i2 zO
 rw[K2 hk,Nl h1,H5 zO zO,H5 zO (by omega)]
theorem DV.r4 (h:DV m A T)(hk:k<T.code.length)(h1:(T.code.getD k AM.zero).op=4):(Go.Proofs.YtbajepcpgncekaaGreat.Bh m A T.code).getD k []=DJ ((Go.Proofs.YtbajepcpgncekaaGreat.Bh m A T.code).getD (T.code.getD k AM.zero).a.toNat []) ((Go.Proofs.YtbajepcpgncekaaGreat.Bh m A T.code).getD (T.code.getD k AM.zero).b.toNat []):=by
 have:=(h.form k hk).i2 zO
 rw[K2 hk,Nn h1,H5 zO zO,H5 zO (by omega)]
theorem DV.r5 (h:DV m A T)(hk:k<T.code.length)(h1:(T.code.getD k AM.zero).op=5):(Go.Proofs.YtbajepcpgncekaaGreat.Bh m A T.code).getD k []=Ci ((Go.Proofs.YtbajepcpgncekaaGreat.Bh m A T.code).getD (T.code.getD k AM.zero).a.toNat []) ((Go.Proofs.YtbajepcpgncekaaGreat.Bh m A T.code).getD (T.code.getD k AM.zero).b.toNat []):=by
 have:=(h.form k hk).i2 zO
 rw[K2 hk,No h1,H5 zO zO,H5 zO (by omega)]
theorem DV.r6 (h:DV m A T)(hk:k<T.code.length)(h1:(T.code.getD k AM.zero).op=6):(Go.Proofs.YtbajepcpgncekaaGreat.Bh m A T.code).getD k []=C6 ((Go.Proofs.YtbajepcpgncekaaGreat.Bh m A T.code).getD (T.code.getD k AM.zero).a.toNat []) ((Go.Proofs.YtbajepcpgncekaaGreat.Bh m A T.code).getD (T.code.getD k AM.zero).b.toNat []):=by
 have:=(h.form k hk).i2 zO
 rw[K2 hk,Nq h1,H5 zO zO,H5 zO (by omega)]
theorem DV.r7 (h:DV m A T)(hk:k<T.code.length)(h1:(T.code.getD k AM.zero).op=7):(Go.Proofs.YtbajepcpgncekaaGreat.Bh m A T.code).getD k []=CX ((Go.Proofs.YtbajepcpgncekaaGreat.Bh m A T.code).getD (T.code.getD k AM.zero).a.toNat []) 1000002:=by
 have:=(h.form k hk).i7 h1
 rw[K2 hk,Np h1,H5 zO (by omega)]
theorem DV.rz (h:DV m A T)(hk:k<T.code.length)(h1:(T.code.getD k AM.zero).op=6):((Go.Proofs.YtbajepcpgncekaaGreat.Bh m A T.code).getD (T.code.getD k AM.zero).b.toNat []).getD 0 0≠0:=by
 have:=(h.form k hk).i2 zO
 rw[(h.ser (T.code.getD k AM.zero).b.toNat zO).2]
 exact h.dv k hk h1
theorem Y4 (f g:Nat→Int):f=fun t=>g t+(f t-g t):=funext fun t=>by omega
theorem Y5 (v w v' w':Nat→Int)(t:Nat):cv v' w' t-cv v w t=cv w (fun t=>v' t-v t) t+cv v (fun t=>w' t-w t) t+cv (fun t=>v' t-v t) (fun t=>w' t-w t) t:=by
 rw[Ps,KN,KN,KN,CF w,CF w];omega
theorem cX (h:DV m A T)(h':DV m A' T)(hk:k<T.code.length)(h1:(T.code.getD k AM.zero).op=1):BD (Bh m A T.code) (Bh m A' T.code) k=BD A A' (T.code.getD k AM.zero).num.toNat:=by
 unfold BD;rw[h.r1 hk h1,h'.r1 hk h1]
theorem cY (h:DV m A T)(h':DV m A' T)(hk:k<T.code.length)(h1:(T.code.getD k AM.zero).op=2):EN N (BD (Bh m A T.code) (Bh m A' T.code) k) Hr:=EN.eq fun t _=>by
 unfold BD;rw[h.r2 hk h1,h'.r2 hk h1,Int.sub_self];rfl
theorem cZ (h:DV m A T)(h':DV m A' T)(hk:k<T.code.length)(h1:(T.code.getD k AM.zero).op=3) :
  EN m (BD (Bh m A T.code) (Bh m A' T.code) k) fun t=>BD (Bh m A T.code) (Bh m A' T.code) (T.code.getD k AM.zero).a.toNat t+BD (Bh m A T.code) (Bh m A' T.code) (T.code.getD k AM.zero).b.toNat t:=by
 have hb:=(h.form k hk).i2 zO
 unfold BD;rw[h.r3 hk h1,h'.r3 hk h1]
 exact (EN.sub (gH (h'.ser _ zO).1) (gH (h.ser _ zO).1)).trans (EN.eq fun t _=>by omega)
theorem dA (h:DV m A T)(h':DV m A' T)(hk:k<T.code.length)(h1:(T.code.getD k AM.zero).op=4) :
  EN m (BD (Bh m A T.code) (Bh m A' T.code) k) fun t=>BD (Bh m A T.code) (Bh m A' T.code) (T.code.getD k AM.zero).a.toNat t-BD (Bh m A T.code) (Bh m A' T.code) (T.code.getD k AM.zero).b.toNat t:=by
 have hb:=(h.form k hk).i2 zO
 unfold BD;rw[h.r4 hk h1,h'.r4 hk h1]
 exact (EN.sub (VL (h'.ser _ zO).1) (VL (h.ser _ zO).1)).trans (EN.eq fun t _=>by omega)
theorem dB (h:DV m A T)(h':DV m A' T)(hk:k<T.code.length)(h1:(T.code.getD k AM.zero).op=7) :
  EN m (BD (Bh m A T.code) (Bh m A' T.code) k) fun t=>- BD (Bh m A T.code) (Bh m A' T.code) (T.code.getD k AM.zero).a.toNat t:=by
 have hb:=(h.form k hk).i7 h1
 unfold BD;rw[h.r7 hk h1,h'.r7 hk h1]
 exact (EN.sub (Y1 (h'.ser _ zO).1) (Y1 (h.ser _ zO).1)).trans (EN.eq fun t _=>by omega)
theorem dC (h:DV m A T)(h':DV m A' T)(hk:k<T.code.length)(h1:(T.code.getD k AM.zero).op=5) :
  EN m (BD (Bh m A T.code) (Bh m A' T.code) k) fun t=>cv (C0 ((Bh m A T.code).getD (T.code.getD k AM.zero).b.toNat [])) (BD (Bh m A T.code) (Bh m A' T.code) (T.code.getD k AM.zero).a.toNat) t
   + cv (C0 ((Bh m A T.code).getD (T.code.getD k AM.zero).a.toNat [])) (BD (Bh m A T.code) (Bh m A' T.code) (T.code.getD k AM.zero).b.toNat) t
   + cv (BD (Bh m A T.code) (Bh m A' T.code) (T.code.getD k AM.zero).a.toNat) (BD (Bh m A T.code) (Bh m A' T.code) (T.code.getD k AM.zero).b.toNat) t:=by
 have hb:=(h.form k hk).i2 zO
 unfold BD;rw[h.r5 hk h1,h'.r5 hk h1]
 exact (EN.sub (RA (h'.ser _ zO).1) (RA (h.ser _ zO).1)).trans (EN.eq fun t _=>Y5 _ _ _ _ t)
theorem dD (h:DV m A T)(h':DV m A' T)(hk:k<T.code.length)(h1:(T.code.getD k AM.zero).op=6) :
  EN m (BD (Bh m A T.code) (Bh m A' T.code) (T.code.getD k AM.zero).a.toNat) fun t=>cv (C0 ((Bh m A T.code).getD (T.code.getD k AM.zero).b.toNat [])) (BD (Bh m A T.code) (Bh m A' T.code) k) t
   + cv (C0 ((Bh m A T.code).getD k [])) (BD (Bh m A T.code) (Bh m A' T.code) (T.code.getD k AM.zero).b.toNat) t
   + cv (BD (Bh m A T.code) (Bh m A' T.code) k) (BD (Bh m A T.code) (Bh m A' T.code) (T.code.getD k AM.zero).b.toNat) t:=by
 have hb:=(h.form k hk).i2 zO
 have q:=VO (h.ser (T.code.getD k AM.zero).a.toNat zO).1 (h.ser (T.code.getD k AM.zero).b.toNat zO).1 (h.rz hk h1)
 have q':=VO (h'.ser (T.code.getD k AM.zero).a.toNat zO).1 (h'.ser (T.code.getD k AM.zero).b.toNat zO).1 (h'.rz hk h1)
 rw[← h.r6 hk h1]at q
 rw[← h'.r6 hk h1]at q'
 exact (EN.sub q'.symm q.symm).trans (EN.eq fun t _=>Y5 _ _ _ _ t)
theorem Y6 (h:DV m A T)(h':DV m A' T)(hr:r≤m)(hz:∀j,j<A.length→Lo r (BD A A' j)):∀n k,k<n→k<T.code.length→Lo r (BD (Bh m A T.code) (Bh m A' T.code) k)
 |0,k,hk,_=>absurd hk (Nat.not_lt_zero k)
 |n+1,k,hn,hk=>by
  have ih:=Y6 h h' hr hz n
  have hf:=h.form k hk
  have b2:=fun h=>hf.i2 h
  have b7:=fun h=>hf.i7 h
  by_cases h1:(T.code.getD k AM.zero).op=1
  ·rw[cX h h' hk h1];have:=hf.i1 h1;exact hz _ zO
  by_cases h2:(T.code.getD k AM.zero).op=2
  ·exact cY h h' hk h2
  by_cases h3:(T.code.getD k AM.zero).op=3
  ·have:=b2 zO
   exact Lo.of (EN.mono (cZ h h' hk h3) hr)<|(ih _ zO zO).add<|ih _ zO zO
  by_cases h4:(T.code.getD k AM.zero).op=4
  ·have:=b2 zO
   exact Lo.of (EN.mono (dA h h' hk h4) hr)<|(ih _ zO zO).sub<|ih _ zO zO
  by_cases h5:(T.code.getD k AM.zero).op=5
  ·have:=b2 zO
   exact Lo.of (EN.mono (dC h h' hk h5) hr)<|((Lo.cvr _<|ih _ zO zO).add<|Lo.cvr _<|ih _ zO zO).add<|(ih _ zO zO).cvl _
  by_cases h6:(T.code.getD k AM.zero).op=6
  ·have:=b2 zO
   have ha:=ih (T.code.getD k AM.zero).a.toNat zO zO
   have hb:=ih (T.code.getD k AM.zero).b.toNat zO zO
   have e:=EN.mono (dD h h' hk h6) hr
   refine Lo.div (g:=C0<|(Bh m A' T.code).getD (T.code.getD k AM.zero).b.toNat []) (Pt (h'.ser (T.code.getD k AM.zero).b.toNat zO).1 (h'.rz hk h6)) ?_
   refine Lo.of (g:=fun t=>BD (Bh m A T.code) (Bh m A' T.code) (T.code.getD k AM.zero).a.toNat t-cv (C0<|(Bh m A T.code).getD k []) (BD (Bh m A T.code) (Bh m A' T.code) (T.code.getD k AM.zero).b.toNat) t) ?_<|ha.sub<|hb.cvr _
   refine EN.trans (EN.eq fun t _=>?_)<|EN.sub e.symm<|EN.rfl' _
   rw[Y4 (C0 ((Bh m A' T.code).getD (T.code.getD k AM.zero).b.toNat [])) (C0 ((Bh m A T.code).getD (T.code.getD k AM.zero).b.toNat [])),KB,CF _ (C0 ((Bh m A T.code).getD (T.code.getD k AM.zero).b.toNat []))]
   show _+cv _ (BD _ _ _) t=_
   omega
  have h7:(T.code.getD k AM.zero).op=7:=by unfold Hd at hf;omega
  have:=b7 h7
  exact Lo.of (EN.mono (dB h h' hk h7) hr) (ih _ zO zO).neg
theorem aT (h:DV m A T)(h':DV m A' T)(hr:r≤m)(hz:∀j,j<A.length→Lo r (BD A A' j))(hN:N≤m)(h2:N≤r+r):kI N T.code (Bh m A T.code) (BD A A') (BD (Bh m A T.code) (Bh m A' T.code)):=by
 have lo:=fun k (hk:k<T.code.length)=>Y6 h h' hr hz (k+1) k (Nat.lt_succ_self k) hk
 refine⟨fun k hk h1=>by rw[cX h h' hk h1];exact EN.rfl' _,fun k hk h1=>cY h h' hk h1,fun k hk h1=>EN.mono (cZ h h' hk h1) hN,fun k hk h1=>EN.mono (dA h h' hk h1) hN,fun k hk h1=>?_,fun k hk h1=>?_,fun k hk h1=>EN.mono (dB h h' hk h1) hN⟩
 ·have:=(h.form k hk).i2 zO
  refine (EN.mono (dC h h' hk h1) hN).trans ?_
  refine (EN.add (EN.rfl' _)<|Lo.mono (Lo.cv2 (lo _ zO)<|lo _ zO) h2).trans (EN.eq fun t _=>?_)
  exact Int.add_zero _
 ·have:=(h.form k hk).i2 zO
  refine (EN.sub (EN.mono (dD h h' hk h1) hN) (EN.rfl' _) |>.trans ?_).symm
  refine (EN.sub (EN.add (EN.rfl' _)<|Lo.mono (Lo.cv2 (lo k hk)<|lo _ zO) h2)<|EN.rfl' _).trans (EN.eq fun t _=>?_)
  show _+_+(0:Int)-_=_
  omega
theorem tay (h:DV m A T)(h':DV m A' T)(hm:1≤m)(hr:r≤m)(hz:∀j,j<A.length→Lo r (BD A A' j))(hN:N≤m)(h2:N≤r+r){xs:List Int}(hE:Lu T xs){i:Nat}(hi:i<xs.length) :
  EN N (Dv A.length (BD A A') (R4 m T xs A i)) (BD (Bh m A T.code) (Bh m A' T.code) (xs.getD i 0).toNat):=by
 have hx:=h.outs hE
 refine (aS (m:=m) (ni:=A.length) (os:=xs) (ws:=Gw xs.length [((i:Nat):Int)] 1) (aT h h' hr hz hN h2) hN hm h.regs (BV _) h.form (fun k hk h6=>h.rz hk h6) fun q hq=>by have:=hx q hq;omega).trans (EN.eq fun t _=>?_)
 have e:(sm xs.length fun q=>(Gw xs.length [((i:Nat):Int)] 1).getD q 0*BD (Bh m A T.code) (Bh m A' T.code) (xs.getD q 0).toNat t)=sm xs.length fun q=>if i=q then BD (Bh m A T.code) (Bh m A' T.code) (xs.getD q 0).toNat t else 0:=Cm fun q _=>by
  rw[show Gw xs.length [((i:Nat):Int)] 1=eV xs.length i from rfl,XJ hi]
  split
  ·rw[Int.one_mul]
  ·rw[Int.zero_mul]
 rw[e,KC i (fun q=>BD (Bh m A T.code) (Bh m A' T.code) (xs.getD q 0).toNat t),if_pos hi]
end
end
section
section
variable {m n r N k:Nat}
theorem S5 {u:Nat→Nat→Int}{row:List Sr}(h:∀j,j<n→Lo k (u j)):md (Dv n u row k)=md (sm n fun j=>C0 (row.getD j []) 0*u j k):=by
 unfold Dv
 refine N0 fun j hj=>?_
 cases k with
 |zero=>rfl
 |succ k =>
  show md (C0 (row.getD j []) 0*u j (k+1)+cv (fun i=>C0 (row.getD j []) (i+1)) (u j) k)=_
  have:=Lo.cvr (fun i=>C0 (row.getD j []) (i+1)) (h j hj) k (Nat.lt_succ_self k)
  rw[← GO,this]
  show md (_+md 0)=_
  rw[GO,Int.add_zero]
theorem Y7 {J:List (List Sr)}{J0:List (List Int)}{u:Nat→Nat→Int}(hJ:J.length=n)(hS:Sq n J0)(hJ0:IE J=J0)(hJl:∀i,i<n→(J.getD i []).length=n)(hd:DD J0≠0):∀N,(∀i,i<n→Lo N (Dv n u (J.getD i [])))→∀j,j<n→Lo N (u j)
 |0,_,j,_=>fun k hk=>absurd hk (Nat.not_lt_zero k)
 |N+1,h,j,hj=>by
  have ih:=Y7 hJ hS hJ0 hJl hd N fun i hi=>(h i hi).mono<|Nat.le_succ N
  have hl:J0.length=n:=by rw[← hJ0,EF,hJ]
  have hS':Sq J0.length J0:=by rw[hl];exact hS
  have hb:B9 (List.replicate n 0)=true:=Gu n
  have hjn:Iy J0 (List.replicate n 0)≠none:=fun hn=>hd ((Iz hS' hb).2 hn)
  have key:=Mz hS' (by rw[z5,hl]) hb hjn (fun j=>u j N) fun i hi=>by
   rw[hl]at hi ⊢
   rw[GR]
   have:=h i hi N (Nat.lt_succ_self N)
   rw[S5 ih]at this
   rw[show(sm n fun j=>cT J0 i j*u j N)=sm n fun j=>C0 ((J.getD i []).getD j []) 0*u j N from Cm fun j hj=>by
    unfold cT;rw[← hJ0,Ht];unfold Qe;rw[B8 (d:=[]) (by rw[hJl i hi];exact hj)];rfl,this];rfl
  have key0:=Mz hS' (by rw[z5,hl]) hb hjn (fun j=>0) fun i hi=>by
   rw[GR,jB fun j _=>Int.mul_zero _];rfl
  intro k hk
  by_cases e:k<N
  ·exact ih j hj k e
  ·have:k=N:=by omega
   subst this
   rw[key j (by rw[hl];exact hj),← key0 j (by rw[hl];exact hj)];rfl
structure UL (m n:Nat)(a:List Int)(J0:List (List Int))(G:List Sr→List Sr)(J:List Sr→List (List Sr)):Prop where
 al:a.length=n
 sq:Sq n J0
 gl:∀y,BC m y→BF y=a→(G y).length=n∧BC m (G y)
 jl:∀y,BC m y→BF y=a→(J y).length=n∧∀i,i<n→((J y).getD i []).length=n∧BC m ((J y).getD i [])
 j0:∀y,BC m y→BF y=a→IE (J y)=J0
 tay:∀y y' r N,BC m y→BC m y'→BF y=a→BF y'=a→1≤r→r≤m→(∀j,j<n→Lo r (BD y y' j))→N≤m→N≤r+r→∀i,i<n→EN N (Dv n (BD y y') ((J y).getD i [])) (BD (G y) (G y') i)
variable {a:List Int} {J0:List (List Int)} {G:List Sr→List Sr} {J:List Sr→List (List Sr)} {y y' yS g:List Sr}
theorem EI (h:BF y=a):y.length=a.length:=by rw[← h,C7]
def TM (J:List (List Sr))(y g:List Sr):List Sr:=FN y.length fun i=>DJ (y.getD i []) ((G6 J g).getD i [])
theorem Je {J:List (List Sr)}:(TM J y g).length=y.length:=by simp[TM]
theorem S6 {J:List (List Sr)}{i:Nat}(hi:i<y.length):(TM J y g).getD i []=DJ (y.getD i []) ((G6 J g).getD i []):=Bx [] hi
theorem TN {J:List (List Sr)}(h:BC m y):BC m (TM J y g):=fun k hk=>by
 rw[Je]at hk
 rw[S6 hk];exact N9 (h k hk)
theorem UL.sys (H:UL m n a J0 G J)(hy:BC m y)(hf:BF y=a)(hm:1≤m∧m≤13)(hn:n≤6)(hg:g.length=n)(hgs:BC m g):ID (J y) g m:=by
 have h1:=H.jl y hy hf
 exact⟨zO,zO,fun i hi=>by rw[(h1.2 i zO).1];omega,fun i j hi hj=>(h1.2 i zO).2 j (by rw[(h1.2 i zO).1];omega),fun i hi=>hgs i zO,hm.1,hm.2⟩
theorem UL.jor (H:UL m n a J0 G J)(hd:DD J0≠0)(hy:BC m y)(hf:BF y=a)(hm:1≤m∧m≤13)(hn:n≤6)(hg:g.length=n)(hgs:BC m g):CR (J y) g≠none:=fun h=>by
 have:=(H.sys hy hf hm hn hg hgs).jor.1 h
 rw[H.j0 y hy hf]at this
 exact hd this
theorem UL.sol (H:UL m n a J0 G J)(hd:DD J0≠0)(hy:BC m y)(hf:BF y=a)(hm:1≤m∧m≤13)(hn:n≤6)(hg:g.length=n)(hgs:BC m g){i:Nat}(hi:i<n) :
  EN m (Dv n (fun j=>C0 ((G6 (J y) g).getD j [])) ((J y).getD i [])) (C0 (g.getD i [])):=by
 have hs:=H.sys hy hf hm hn hg hgs
 have hj:=H.jor hd hy hf hm hn hg hgs
 have h1:=H.jl y hy hf
 have h:=(N6 (v:=fun j=>C0<|(G6 (J y) g).getD j []) hs.sh hj).2 (fun r hr=>EN.rfl' _) i zO
 unfold IC at h
 rw[N5 _ _ zO,h1.1]at h
 have hl:=(h1.2 i hi).1
 have e:Dv n (fun j=>C0 ((G6 (J y) g).getD j [])) ((J y).getD i []++[g.getD i []])=Dv n (fun j=>C0 ((G6 (J y) g).getD j [])) ((J y).getD i []):=funext fun t=>by
  unfold Dv
  exact Cm fun j hj=>by rw[Kw (by omega)]
 rw[e,Hk zO,show n-((J y).getD i []).length=0 from by omega]at h
 exact h
theorem UL.step (H:UL m n a J0 G J) (hd:DD J0≠0) (hm:1≤m∧m≤13) (hn:n≤6) (hy:BC m y) (hf:BF y = a) (hyS:BC m yS) (hfS:BF yS = a) (hg:g.length = n) (hgs:BC m g)
  (hgG:∀ i,i < n→EN m (C0 (g.getD i [])) fun t=>C0 ((G y).getD i []) t - C0 ((G yS).getD i []) t) (hr1:1≤r) (hr:r≤m) (hz:∀ j,j < n→Lo r (BD y yS j)) (hN:N≤m) (h2:N≤r + r) :
  ∀ j,j < n→Lo N (BD (TM (J y) y g) yS j):=by
 have h1:=H.jl y hy hf
 have hyl:y.length = n:=by rw [EI hf,H.al]
 have hsl:=(QF (H.sys hy hf hm hn hg hgs)<|H.jor hd hy hf hm hn hg hgs)
 -- the solution and the difference have the same image,up to N
 have key:∀ j,j < n→Lo N (fun t=>C0 ((G6 (J y) g).getD j []) t + BD y yS j t):=Y7 h1.1 H.sq (H.j0 y hy hf) (fun i hi=>(h1.2 i hi).1) hd N fun i hi=>by
  have e:Dv n (fun j t=>C0 ((G6 (J y) g).getD j []) t + BD y yS j t) ((J y).getD i []) = fun t=>Dv n (fun j=>C0 ((G6 (J y) g).getD j [])) ((J y).getD i []) t + Dv n (BD y yS) ((J y).getD i []) t:=funext fun t=>by
   unfold Dv
   rw [← Ry]
   exact Cm fun j _=>KB _ _ _ _
  rw [e]
  refine Lo.of (EN.add ((EN.mono (H.sol hd hy hf hm hn hg hgs hi) hN).trans<|EN.mono (hgG i hi) hN)<|H.tay y yS r N hy hyS hf hfS hr1 hr hz hN h2 i hi) fun t _=>?_
  unfold BD
  rw [show C0 ((G y).getD i []) t - C0 ((G yS).getD i []) t + (C0 ((G yS).getD i []) t - C0 ((G y).getD i []) t) = 0 from by omega]; rfl
 intro j hj
 refine Lo.of (g:=fun t=>C0 ((G6 (J y) g).getD j []) t + BD y yS j t) ?_<|key j hj
 unfold BD
 rw [S6 (by omega)]
 refine (EN.sub (EN.rfl' _)<|EN.mono (VL<|hy j zO) hN).trans (EN.eq fun t _=>?_)
 (try dsimp only); omega
theorem dE (hy:BC m y)(hy':BC m y')(hl:y.length=y'.length)(h:∀j,j<y.length→Lo m (BD y y' j)):y=y':=by
 refine List.ext_getElem hl fun j h1 h2=>?_
 rw[← D9 (d:=[]) h1,← D9 (d:=[]) h2]
 refine BN.ext (hy j h1) (hy' j h2) fun k hk=>?_
 have h3:md ((y'.getD j []).getD k 0-(y.getD j []).getD k 0)=md 0:=h j h1 k hk
 have h4:=Bg (hy j h1).2 k
 have h5:=Bg (hy' j h2).2 k
 unfold md at h3
 omega
theorem kK (hy:BC m y)(hy':BC m y')(hm:1≤m)(h:BF y=BF y'){j:Nat}(hj:j<y.length):Lo 1 (BD y y' j):=fun k hk=>by
 have e:k=0:=by omega
 subst e
 have hl:y'.length=y.length:=by rw[← C7 (A:=y'),← h,C7]
 have h1:(BF y).getD j 0=(BF y').getD j 0:=by rw[h]
 unfold BF at h1
 rw[B8 (d:=[]) hj,B8 (d:=[]) (by omega)]at h1
 show md ((y'.getD j []).getD 0 0-(y.getD j []).getD 0 0)=_
 rw[h1,Int.sub_self];rfl
theorem LB (hy:BC m y)(hy':BC m y')(hl:y.length=y'.length)(hm:1≤m)(h:∀j,j<y.length→Lo 1 (BD y y' j)):BF y=BF y':=by
 refine List.ext_getElem (by rw[C7,C7,hl]) fun j h1 h2=>?_
 rw[← D9 (d:=(0:Int)) h1,← D9 (d:=(0:Int)) h2]
 rw[C7]at h1 h2
 unfold BF
 rw[B8 (d:=[]) h1,B8 (d:=[]) h2]
 have h3:md ((y'.getD j []).getD 0 0-(y.getD j []).getD 0 0)=md 0:=h j h1 0 zO
 have h4:=Bg (hy j h1).2 0
 have h5:=Bg (hy' j h2).2 0
 unfold md at h3
 omega
theorem UL.at_ (H:UL m n a J0 G J)(hy:BC m y)(hf:BF y=a)(hy':BC m y')(hf':BF y'=a)(hk1:1≤k)(hk:k<m)(hz:∀j,j<n→Lo k (BD y y' j)){i:Nat}(hi:i<n) :
  Lo k (BD (G y) (G y') i)∧md (BD (G y) (G y') i k)=md (sm n fun j=>cT J0 i j*BD y y' j k):=by
 have h:=H.tay y y' k (k+1) hy hy' hf hf' hk1 zO hz zO zO i hi
 have h1:=H.jl y hy hf
 refine⟨?_,?_⟩
 ·refine Lo.of (EN.mono h.symm<|Nat.le_succ k) fun t ht=>?_
  show md (sm n fun j=>cv _ (BD y y' j) t)=_
  rw[show md (sm n fun j=>cv (C0 (((J y).getD i []).getD j [])) (BD y y' j) t)=md (sm n fun _=>0)from N0 fun j hj=>Lo.cvr _ (hz j hj) t ht,jB fun _ _=>rfl];rfl
 ·rw[← h k (Nat.lt_succ_self k),S5 hz]
  congr 1
  exact Cm fun j hj=>by
   unfold cT;rw[← H.j0 y hy hf,Ht];unfold Qe;rw[B8 (d:=[]) (by rw[(h1.2 i hi).1];exact hj)];rfl
end
section
variable {m n k:Nat} {a:List Int} {J0:List (List Int)} {G:List Sr→List Sr} {J:List Sr→List (List Sr)} {L:Nat→Nat→Int} {nx:Nat→List Sr→List Int} {Y:List Sr}
def FW (nx:Nat→List Sr→List Int)(Y:List Sr):Nat→List Sr
 |0=>Y
 |k+1=>FN Y.length fun i=>((FW nx Y k).getD i []).set (k+1) ((nx (k+1) (FW nx Y k)).getD i 0)
@[simp] theorem Jf:∀k,(FW nx Y k).length=Y.length
 |0=>rfl
 |k+1=>by simp[FW]
theorem S7 {i:Nat}(hi:i<Y.length):(FW nx Y (k+1)).getD i []=((FW nx Y k).getD i []).set (k+1) ((nx (k+1) (FW nx Y k)).getD i 0):=Bx [] hi
theorem aU {i:Nat}(hi:i<Y.length):(CK i (FW nx Y (k+1)) (FW nx Y k)).set i (((CK i (FW nx Y (k+1)) (FW nx Y k)).getD i []).set (k+1) ((nx (k+1) (FW nx Y k)).getD i 0))=CK (i+1) (FW nx Y (k+1)) (FW nx Y k):=by
 rw[Ek [] (by simp) (A9 _) (by simpa using hi),← S7 hi,Ku [] (by simp) (by simpa using hi)]
theorem OU {s:Sr}{y:Int}:∀ {k:Nat},B9 s=true→0≤y∧y<1000003→B9 (s.set k y)=true:=fun {k} h hy=>by
 unfold B9 at h ⊢
 rw[zm]at h ⊢
 intro x hx
 rcases List.mem_or_eq_of_mem_set hx with h1|h1
 ·exact h x h1
 ·subst h1;exact Ck.2 hy
structure qY (m n:Nat)(J0:List (List Int))(G:List Sr→List Sr)(a:List Int)(L:Nat→Nat→Int)(nx:Nat→List Sr→List Int):Prop where
 e:∀k y,1≤k→k<m→BC m y→BF y=a→nx k y=Ji J0 (FN n fun i=>md (L i k-C0 ((G y).getD i []) k))
theorem dF (H:UL m n a J0 G J)(hd:DD J0≠0)(hx:qY m n J0 G a L nx)(hY:BC m Y)(hf:BF Y=a)(h0:∀j,j<n→∀k,1≤k→k<m→(Y.getD j []).getD k 0=0)(hL:∀i,i<n→EN 1 (C0 ((G Y).getD i [])) (L i)) :
  ∀k,k<m→BC m (FW nx Y k)∧BF (FW nx Y k)=a∧(∀j,j<n→∀q,k<q→q<m→((FW nx Y k).getD j []).getD q 0=0)∧∀i,i<n→EN (k+1) (C0 ((G (FW nx Y k)).getD i [])) (L i)
 |0,_=>⟨hY,hf,fun j hj q h1 h2=>h0 j hj q h1 h2,hL⟩
 |k+1,hk=>by
  obtain⟨h1,h2,h3,h4⟩:=dF H hd hx hY hf h0 hL k zO
  have hYl:Y.length=n:=by rw[EI hf,H.al]
  have hl:J0.length=n:=by
   have:=H.j0 Y hY hf
   rw[← this,EF];exact(H.jl Y hY hf).1
  have hS':Sq J0.length J0:=by rw[hl];exact H.sq
  have hb:B9 (FN n fun i=>md (L i (k+1)-C0 ((G (FW nx Y k)).getD i []) (k+1)))=true:=G5 fun _ _=>BU _
  have hbl:(FN n fun i=>md (L i (k+1)-C0 ((G (FW nx Y k)).getD i []) (k+1))).length=J0.length:=by rw[hl];simp
  have hj:Iy J0 (FN n fun i=>md (L i (k+1)-C0 ((G (FW nx Y k)).getD i []) (k+1)))≠none:=fun hn=>hd ((Iz hS' hb).2 hn)
  have e:=hx.e (k+1) (FW nx Y k) zO hk h1 h2
  have hnum:∀i,0≤(nx (k+1) (FW nx Y k)).getD i 0∧(nx (k+1) (FW nx Y k)).getD i 0<1000003:=fun i=>by rw[e];exact Bg (QB hS' hb hj) i
  have s1:BC m (FW nx Y (k+1)):=fun i hi=>by
   rw[Jf]at hi
   rw[S7 hi]
   have:=h1 i (by rw[Jf];exact hi)
   exact⟨by rw[z6];exact this.1,OU this.2 (hnum i)⟩
  have g1:∀i,i<n→∀q,((FW nx Y (k+1)).getD i []).getD q 0=if q=k+1 then(nx (k+1) (FW nx Y k)).getD i 0 else((FW nx Y k).getD i []).getD q 0:=fun i hi q=>by
   rw[S7 zO,BK _ _ _ _ _ (by rw[(h1 i (by rw[Jf];omega)).1];exact hk)]
  have s2:BF (FW nx Y (k+1))=a:=by
   rw[← h2]
   refine (LB h1 s1 (by simp) zO fun j hj t ht=>?_).symm
   rw[Jf]at hj
   show md (((FW nx Y (k+1)).getD j []).getD t 0-_)=_
   rw[g1 j zO,if_neg (by omega)]
   show md (((FW nx Y k).getD j []).getD t 0-((FW nx Y k).getD j []).getD t 0)=_
   rw[Int.sub_self];rfl
  have hz:∀j,j<n→Lo (k+1) (BD (FW nx Y k) (FW nx Y (k+1)) j):=fun j hj t ht=>by
   show md (((FW nx Y (k+1)).getD j []).getD t 0-_)=_
   rw[g1 j hj,if_neg (by omega)]
   show md (((FW nx Y k).getD j []).getD t 0-((FW nx Y k).getD j []).getD t 0)=_
   rw[Int.sub_self];rfl
  refine⟨s1,s2,fun j hj q hq hqm=>?_,fun i hi=>?_⟩
  ·rw[g1 j hj,if_neg (by omega)];exact h3 j hj q zO hqm
  ·obtain⟨q1,q2⟩:=H.at_ h1 h2 s1 s2 (k:=k+1) zO hk hz hi
   intro t ht
   by_cases e1:t<k+1
   ·have:=q1 t e1
    have h5:=h4 i hi t e1
    unfold BD at this
    rw[← h5]
    unfold Hr at this
    unfold md at this ⊢
    omega
   ·have:t=k+1:=by omega
    subst this
    have h6:=QE hS' hbl hb hj (r:=i) zO
    rw[← e,hl,Bx _ hi]at h6
    have e3:(sm n fun j=>cT J0 i j*BD (FW nx Y k) (FW nx Y (k+1)) j (k+1))=sm n fun j=>(J0.getD i []).getD j 0*(nx (k+1) (FW nx Y k)).getD j 0:=Cm fun j hj=>by
     unfold cT BD C0
     rw[g1 j hj,if_pos rfl,h3 j hj (k+1) zO hk,Int.sub_zero]
    rw[e3,h6]at q2
    unfold BD at q2
    unfold md at q2 ⊢
    omega
end
end
section
structure HH (m m':Nat)(B B':List Sr):Prop where
 s:BC m B
 s':BC m' B'
 l:B.length=B'.length
 h:∀k,(B.getD k []).getD 0 0=(B'.getD k []).getD 0 0
section
variable {m m' ni k i:Nat} {B B' R R':List Sr} {s s':Sr} {cs:List AM} {r:Int} {os ws:List Int}
theorem TO (l:List Sr)(i:Nat)(x:Sr)(j:Nat):(l.set i x).getD j []=if j=i∧i<l.length then x else l.getD j []:=by
 by_cases h:i<l.length
 ·rw[BK _ _ _ _ _ h]
  by_cases e:j=i
  ·rw[if_pos e,if_pos ⟨e,h⟩]
  ·rw[if_neg e,if_neg fun h=>e h.1]
 ·rw[List.set_eq_of_length_le zO,if_neg fun h9=>h h9.2]
theorem HH.set (h:HH m m' B B')(hs:BN m s)(hs':BN m' s')(e:s.getD 0 0=s'.getD 0 0):HH m m' (B.set i s) (B'.set i s'):=by
 refine⟨h.s.set hs,h.s'.set hs',by rw[z6,z6,h.l],fun k=>?_⟩
 rw[TO,TO,h.l]
 split
 ·exact e
 ·exact h.h k
theorem HH.adP (hm:1≤m)(hm':1≤m')(h:HH m m' B B')(hr:r.toNat<B.length)(e:s.getD 0 0=s'.getD 0 0):HH m m' (Ga B r s) (Go.Proofs.YtbajepcpgncekaaGreat.Ga B' r s'):=by
 have h1:=h.s r.toNat hr
 have h2:=h.s' r.toNat (by rw[← h.l];exact hr)
 refine h.set (IG h1) (IG h2) ?_
 rw[TG h1 zO,TG h2 zO,h.h,e]
theorem HH.adI (hm:1≤m)(hm':1≤m')(h:HH m m' B B')(hR:HH m m' R R')(hk:k<B.length)(hf:Hd ni k (cs.getD k AM.zero)):HH m m' (OT cs R k B) (Go.Proofs.YtbajepcpgncekaaGreat.OT cs R' k B'):=by
 have b2:=fun h=>hf.i2 h
 have b7:=fun h=>hf.i7 h
 have h1:=h.s k hk
 have h2:=h.s' k (by rw[← h.l];exact hk)
 have hp:∀q,(Ci (B.getD k []) (R.getD q [])).getD 0 0=(Ci (B'.getD k []) (R'.getD q [])).getD 0 0:=fun q=>by
  rw[Nh (by rw[h1.1];omega),Nh (by rw[h2.1];omega),h.h,hR.h]
 have hq:∀q,(C6 (B.getD k []) (R.getD q [])).getD 0 0=(C6 (B'.getD k []) (R'.getD q [])).getD 0 0:=fun q=>by
  rw[QV (by rw[h1.1];omega),QV (by rw[h2.1];omega),h.h,hR.h]
 have hn:∀ {s s':Sr},BN m s→BN m' s'→s.getD 0 0=s'.getD 0 0→(CX s 1000002).getD 0 0=(CX s' 1000002).getD 0 0:=fun hs hs' e=>by
  rw[TH hs zO,TH hs' zO,e]
 by_cases h3:(cs.getD k AM.zero).op=3
 ·rw[QY h3,QY h3]
  have:=b2 zO
  exact (h.adP hm hm' zO<|h.h k).adP hm hm' (by rw[Cf];omega)<|h.h k
 by_cases h4:(cs.getD k AM.zero).op=4
 ·rw[QZ h4,QZ h4]
  have:=b2 zO
  exact (h.adP hm hm' zO<|h.h k).adP hm hm' (by rw[Cf];omega)<|hn h1 h2<|h.h k
 by_cases h5:(cs.getD k AM.zero).op=5
 ·rw[R0 h5,R0 h5]
  have:=b2 zO
  exact (h.adP hm hm' zO<|hp _).adP hm hm' (by rw[Cf];omega)<|hp _
 by_cases h6:(cs.getD k AM.zero).op=6
 ·rw[R1 h6,R1 h6]
  have:=b2 zO
  refine (h.adP hm hm' zO<|hq _).adP hm hm' (by rw[Cf];omega)<|hn (II<|Hu h1) (II<|Hu h2) ?_
  rw[Nh (by rw[E7,h1.1];omega),Nh (by rw[E7,h2.1];omega),hq,hR.h]
 by_cases h7:(cs.getD k AM.zero).op=7
 ·rw[R2 h7,R2 h7]
  have:=b7 h7
  exact h.adP hm hm' zO<|hn h1 h2<|h.h k
 have:(cs.getD k AM.zero).op<3∨7<(cs.getD k AM.zero).op:=by omega
 rw[R3 this,R3 this];exact h
theorem HH.adA (hm:1≤m)(hm':1≤m')(hR:HH m m' R R')(hf:∀k,k<cs.length→Hd ni k (cs.getD k AM.zero)):∀(n:Nat)(B B':List Sr),n≤cs.length→n≤B.length→HH m m' B B'→HH m m' (UW cs R n B) (Go.Proofs.YtbajepcpgncekaaGreat.UW cs R' n B')
 |0,_,_,_,_,h=>h
 |n+1,B,B',hn,hb,h=>HH.adA hm hm' hR hf n _ _ zO (by rw[Mw];omega) (h.adI hm hm' hR zO (hf n zO))
theorem HH.wgt (hm:1≤m)(hm':1≤m')(h:HH m m' B B')(ho:∀k,k<os.length→(os.getD k 0).toNat<B.length):∀k,k≤os.length→HH m m' (O4 os ws k B) (Go.Proofs.YtbajepcpgncekaaGreat.O4 os ws k B')
 |0,_=>h
 |k+1,hk=>by
  have ih:=HH.wgt hm hm' h ho k zO
  have h1:=ih.s (os.getD k 0).toNat (by rw[EH];exact ho k zO)
  have h2:=ih.s' (os.getD k 0).toNat (by rw[EH,← h.l];exact ho k zO)
  refine ih.set ⟨by rw[z6];exact h1.1,Ly h1.2<|BU _⟩ ⟨by rw[z6];exact h2.1,Ly h2.2<|BU _⟩ ?_
  rw[BK _ _ _ _ _ (by rw[h1.1];omega),BK _ _ _ _ _ (by rw[h2.1];omega),if_pos rfl,if_pos rfl,ih.h]
theorem dG (k:Nat):((KL R).getD k []).getD 0 0=0:=by
 by_cases h:k<R.length
 ·rw[show(KL R).getD k []=List.replicate (R.getD k []).length 0 from by unfold KL;rw[B8 (d:=[]) h]];exact GR _ 0
 ·rw[show(KL R).getD k []=[]from by rw[List.getD_eq_getElem?_getD,List.getElem?_eq_none (by rw[Dk];omega)];rfl];rfl
theorem HH.zrs (h:HH m m' R R'):HH m m' (KL R) (Go.Proofs.YtbajepcpgncekaaGreat.KL R'):=⟨HX h.s,HX h.s',by rw[Dk,Dk,h.l],fun k=>by rw[dG,dG]⟩
theorem HH.byN {L L':List Sr}(hm:1≤m)(hm':1≤m')(hL:HH m m' L L')(h:HH m m' B B')(hf:∀k,k<cs.length→Hd B.length k (cs.getD k AM.zero)):∀k,k≤cs.length→HH m m' (UJ cs L k B) (Go.Proofs.YtbajepcpgncekaaGreat.UJ cs L' k B')
 |0,_=>h
 |k+1,hk=>by
  have ih:=HH.byN hm hm' hL h hf k zO
  by_cases h1:(cs.getD k AM.zero).op=1
  ·rw[Ns h1,Ns h1]
   have:=(hf k zO).i1 h1
   exact ih.adP hm hm' (by rw[Jb];omega)<|hL.h k
  ·rw[Nt h1,Nt h1];exact ih
theorem HH.rep (m m' ni:Nat):HH m m' (List.replicate ni (List.replicate m 0)) (List.replicate ni (List.replicate m' 0)):=by
 refine⟨KM _ _,KM _ _,by simp,fun k=>?_⟩
 by_cases h:k<ni
 ·rw[show(List.replicate ni (List.replicate m (0:Int))).getD k []=List.replicate m 0 from by simp[List.getD_eq_getElem?_getD,h],show(List.replicate ni (List.replicate m' (0:Int))).getD k []=List.replicate m' 0 from by simp[List.getD_eq_getElem?_getD,h],GR,GR]
 ·rw[show(List.replicate ni (List.replicate m (0:Int))).getD k []=[]from by simp[List.getD_eq_getElem?_getD,h],show(List.replicate ni (List.replicate m' (0:Int))).getD k []=[]from by simp[List.getD_eq_getElem?_getD,h]]
theorem Y8 {A A':List Sr}{T:Tp}{xs:List Int}(hm:1≤m)(hm':1≤m')(h:DV m A T)(h':DV m' A' T)(hl:A.length=A'.length)(hE:Lu T xs)(i:Nat):HH m m' (R4 m T xs A i) (R4 m' T xs A' i):=by
 have hR:HH m m' (Bh m A T.code) (Bh m' A' T.code):=⟨h.regs,h'.regs,by rw[BV,BV],fun k=>by
  by_cases hk:k<T.code.length
  ·rw[(h.ser k hk).2,(h'.ser k hk).2]
  ·rw[show(Bh m A T.code).getD k []=[]from by rw[List.getD_eq_getElem?_getD,List.getElem?_eq_none (by rw[BV];omega)];rfl,show(Bh m' A' T.code).getD k []=[]from by rw[List.getD_eq_getElem?_getD,List.getElem?_eq_none (by rw[BV];omega)];rfl]⟩
 have hx:=h.outs hE
 unfold R4 gK
 rw[← hl]
 refine HH.byN hm hm' ?_ (HH.rep m m' _) (fun k hk=>by rw[z5];exact h.form k hk) _<|A9 _
 unfold M5
 refine HH.adA hm hm' hR h.form _ _ _ (A9 _) (by rw[EH,Dk,BV];exact A9 _)<|hR.zrs.wgt hm hm' (fun q hq=>?_) _<|A9 _
 rw[Dk,BV]
 have:=hx q hq
 omega
end
section
variable {p:List Fn} {f m r N i j s:Nat} {a:List Int} {A A':List Sr} {xs:List Int} {T:Tp}
structure If (p:List Fn)(f:Nat)(a:List Int)(xs:List Int)(T:Tp):Prop where
 v:J2 p
 lt:f<p.length
 l:((a.length:Nat):Int)=(p.getD f Fn.zero).params
 n:B9 a=true
 r:∃s,AX (KI p f a) (xs,T) s 0
theorem MB (hA:BC m A)(h:BF A=a):RY m a A:=by rw[← h];exact EZ hA
theorem If.tp (h:If p f a xs T)(hm:1≤m)(hA:BC m A)(hf:BF A=a):DV m A T∧(CS p m f A=xs.map fun r=>(Bh m A T.code).getD r.toNat [])∧H2 p m f A=0:=by
 obtain⟨s,hs⟩:=h.r
 have h1:=KK hm h.v h.lt h.n (MB hA hf) h.l hs rfl
 exact⟨h1.1,h1.2,KJ hm h.v h.lt h.n (MB hA hf) h.l hs⟩
theorem Gy (a:List Int):BF (Cd a)=a:=by
 unfold BF Cd
 rw[List.map_map]
 exact List.map_id'' (fun _=>rfl) a
theorem If.en (h:If p f a xs T):xs.length=(p.getD f Fn.zero).outs.length∧Lu T xs:=by
 obtain⟨s,hs⟩:=h.r
 have hT:=Tz (A9 1) h.v h.lt h.n (MB (DL h.n)<|Gy a) h.l
 rw[hs.ok]at hT
 obtain⟨z,h1,h2,h3,h4⟩:=hT
 exact⟨h4.1,fun k hk=>(h4.2.2 k (by rw[h4.1]at hk;exact hk)).1⟩
theorem If.at (h:If p f a xs T):ri p f a:=⟨h.v,h.lt,h.l,h.n,(h.tp (A9 1) (DL h.n) (Gy a)).2.2⟩
theorem If.vals (h:If p f a xs T)(hm:1≤m)(hA:BC m A)(hf:BF A=a)(hi:i<xs.length):(CS p m f A).getD i []=(Bh m A T.code).getD (xs.getD i 0).toNat []:=by
 rw[(h.tp hm hA hf).2.1,B8 (d:=0) hi]
theorem If.ser (h:If p f a xs T)(hm:1≤m)(hA:BC m A)(hf:BF A=a):(CS p m f A).length=xs.length∧BC m (CS p m f A):=by
 have hl:(CS p m f A).length=xs.length:=by rw[(h.tp hm hA hf).2.1,zg]
 refine⟨hl,fun k hk=>?_⟩
 rw[h.vals hm hA hf (by omega)]
 have:=(h.tp hm hA hf).1.outs h.en.2 k zO
 exact ((h.tp hm hA hf).1.ser _ zO).1
theorem If.tay (h:If p f a xs T)(hm:1≤m)(hA:BC m A)(hf:BF A=a)(hA':BC m A')(hf':BF A'=a)(hr:r≤m)(hz:∀j,j<A.length→Lo r (BD A A' j))(hN:N≤m)(h2:N≤r+r)(hi:i<xs.length) :
  EN N (Dv A.length (BD A A') (R4 m T xs A i)) (BD (CS p m f A) (CS p m f A') i):=by
 refine (Go.Proofs.YtbajepcpgncekaaGreat.tay (h.tp hm hA hf).1 (h.tp hm hA' hf').1 hm hr hz hN h2 h.en.2 hi).trans (EN.eq fun t _=>?_)
 unfold BD
 rw[h.vals hm hA hf hi,h.vals hm hA' hf' hi]
theorem If.slo (h:If p f a xs T)(hm:1≤m)(hA:BC m A)(hf:BF A=a)(i:Nat):(R4 m T xs A i).length=A.length∧BC m (R4 m T xs A i):=by
 refine⟨TC,?_⟩
 unfold R4
 exact aQ (h.tp hm hA hf).1.form
def S8 (p:List Fn)(f:Nat)(a:List Int)(n:Nat):List (List Int):=FN n fun i=>FN a.length fun k=>((QW p f a (eV a.length k)).getD i []).getD 1 0
theorem Fw (a d:List Int):BF (GK a d 2)=a:=by
 refine List.ext_getElem (by simp) fun k h1 h2=>?_
 rw[← D9 (d:=(0:Int)) h1,← D9 (d:=(0:Int)) h2]
 unfold BF
 rw[B8 (d:=[]) (by rw[D4];exact h2),XK h2]
theorem If.jac (h:If p f a xs T)(hm:1≤m)(hA:BC m A)(hf:BF A=a){i j:Nat}(hi:i<xs.length)(hj:j<a.length):((R4 m T xs A i).getD j []).getD 0 0=((QW p f a (eV a.length j)).getD i []).getD 1 0:=by
 have hn0:B9 (List.replicate a.length 0)=true:=Gu _
 have s0:BC 2 (GK a (List.replicate a.length 0) 2):=HW h.n hn0
 have s1:BC 2 (GK a (eV a.length j) 2):=HW h.n (RW _ _)
 have hl:A.length=a.length:=by rw[← hf,C7]
 have hd:=Y8 (i:=i) hm (by decide:1≤2) (h.tp hm hA hf).1 (h.tp (by decide) s0<|Fw _ _).1 (by rw[D4,hl]) h.en.2
 rw[hd.h j]
 have ho:∀q,q<a.length→Lo 1 (BD (GK a (List.replicate a.length 0) 2) (GK a (eV a.length j) 2) q):=fun q hq=>kK s0 s1 (by decide) (by rw[Fw,Fw]) (by rw[D4];exact hq)
 have ht:=h.tay (m:=2) (r:=1) (N:=2) (by decide) s0 (Fw _ _) s1 (Fw _ _) (by decide) (fun q hq=>ho q (by rw[D4]at hq;exact hq)) (by decide) (by decide) hi 1 (by decide)
 rw[D4,S5 (k:=1) ho]at ht
 have e:(sm a.length fun q=>C0 ((R4 2 T xs (GK a (List.replicate a.length 0) 2) i).getD q []) 0*BD (GK a (List.replicate a.length 0) 2) (GK a (eV a.length j) 2) q 1)=sm a.length fun q=>if j=q then C0 ((R4 2 T xs (GK a (List.replicate a.length 0) 2) i).getD q []) 0 else 0:=Cm fun q hq=>by
  unfold BD
  rw[show C0 ((GK a (eV a.length j) 2).getD q []) 1=_ from Ty hq,show C0 ((GK a (List.replicate a.length 0) 2).getD q []) 1=_ from Ty hq,GR,XJ hj,Int.sub_zero]
  split
  ·rw[Int.mul_one]
  ·rw[Int.mul_zero]
 rw[e,KC j (fun q=>C0 ((R4 2 T xs (GK a (List.replicate a.length 0) 2) i).getD q []) 0),if_pos hj]at ht
 have hat:=h.at
 have hz:=XL (K:=0) (d:=List.replicate a.length 0) (D:=fun _=>[]) (c:=fun _=>0) h.v h.lt h.l h.n hn0 (fun k hk=>absurd hk<|Nat.not_lt_zero k) (fun i hi=>by rw[GR];rfl) hat.z (r:=i) (by rw[← h.en.1];exact hi)
 have hz':((CS p 2 f (GK a (List.replicate a.length 0) 2)).getD i []).getD 1 0=0:=hz
 unfold BD at ht
 rw[show C0 ((CS p 2 f (GK a (List.replicate a.length 0) 2)).getD i []) 1=0 from hz',Int.sub_zero]at ht
 have n1:=Bg (((h.slo (by decide:1≤2) s0 (Fw _ _) i).2 j (by rw[(h.slo (by decide:1≤2) s0 (Fw _ _) i).1,D4];exact hj)).2) 0
 have n2:=Bg (((h.ser (by decide:1≤2) s1<|Fw _ _).2 i (by rw[(h.ser (by decide:1≤2) s1<|Fw _ _).1];exact hi)).2) 1
 have ht':md (((R4 2 T xs (GK a (List.replicate a.length 0) 2) i).getD j []).getD 0 0)=md (((CS p 2 f (GK a (eV a.length j) 2)).getD i []).getD 1 0):=ht
 rw[Jv n1.1 n1.2,Jv n2.1 n2.2]at ht'
 exact ht'
end
end
section
section
variable {p:List Fn} {f m r N i j k n:Nat} {a d:List Int} {y y':List Sr} {xs:List Int} {T:Tp}
theorem MC (hi:i<n):(S8 p f a n).getD i []=FN a.length fun k=>((QW p f a (eV a.length k)).getD i []).getD 1 0:=Bx [] hi
theorem aV (h:If p f a xs T)(hn:n=xs.length)(i:Nat):B9 ((S8 p f a n).getD i [])=true:=by
 by_cases hi:i<n
 ·rw[MC hi]
  refine G5 fun k _=>?_
  have:=(h.ser (m:=2) (by decide) (HW h.n (RW a.length k)) (Fw _ _))
  exact Bg (this.2 i (by rw[this.1];omega)).2 1
 ·rw[show(S8 p f a n).getD i []=[]from by rw[List.getD_eq_getElem?_getD,List.getElem?_eq_none (by unfold S8;rw[DR];omega)];rfl];rfl
theorem aW (h:If p f a xs T)(hm:1≤m)(hy:BC m y)(hf:BF y=a)(hn:n=xs.length):IE (HG m T xs y n)=S8 p f a n:=by
 have hl:y.length=a.length:=by rw[← hf,C7]
 refine List.ext_getElem (by rw[EF];simp[S8]) fun i h1 h2=>?_
 have hi:i<n:=by rw[EF,Jc]at h1;exact h1
 rw[← D9 (d:=[]) h1,← D9 (d:=[]) h2,Ht,PL hi,MC hi]
 have hs:=h.slo hm hy hf i
 refine List.ext_getElem (by rw[Pv,hs.1];simp[hl]) fun j h3 h4=>?_
 have hj:j<a.length:=by rw[Pv,hs.1]at h3;omega
 rw[← D9 (d:=(0:Int)) h3,← D9 (d:=(0:Int)) h4,Bx _ hj]
 unfold Qe
 rw[B8 (d:=[]) (by rw[hs.1];omega)]
 exact h.jac hm hy hf zO hj
theorem Jg (h0:0<y.length):BF (Cc y)=0::BF y:=by
 show(PM _).getD 0 0::_=_
 congr 1
 unfold PM
 generalize (y.getD 0 []).length=q
 match q with
 |0=>rfl
 |1=>rfl
 |q+2=>rfl
theorem aX (hy:BC m y)(hy':BC m y')(h0:0<y.length)(h0':0<y'.length)(t:Nat):BD (Cc y) (Cc y') 0 t=0:=by
 show C0 (PM (y'.getD 0 []).length) t-C0 (PM (y.getD 0 []).length) t=0
 rw[(hy 0 h0).1,(hy' 0 h0').1,Int.sub_self]
theorem TP {row:List Sr}(j:Nat):(row.drop 1).getD j []=row.getD (j+1) []:=by rw[List.getD_eq_getElem?_getD,List.getElem?_drop,List.getD_eq_getElem?_getD,Nat.add_comm]
theorem gN {row:List Sr}{v:Nat→Nat→Int}(h:∀t,v 0 t=0)(n:Nat):Dv (n+1) v row=Dv n (fun j=>v (j+1)) (row.drop 1):=funext fun t=>by
 unfold Dv
 rw[Po,show v 0=Hr from funext h,CF _ Hr,DT,Int.zero_add]
 exact Cm fun j _=>by rw[TP]
theorem Y9 {X:List (List Sr)}(hi:i<X.length):(GS X).getD i []=(X.getD i []).drop 1:=by unfold GS;rw[B8 (d:=[]) hi]
@[simp] theorem aY (X:List (List Sr)):(GS X).length=X.length:=by simp[GS]
def FP (p:List Fn)(f:Nat)(a:List Int):List (List Int):=(S8 p f (0::a) a.length).map fun r=>r.drop 1
@[simp] theorem Jh:(FP p f a).length=a.length:=by simp[FP,S8]
theorem TQ (hi:i<a.length):(FP p f a).getD i []=((S8 p f (0::a) a.length).getD i []).drop 1:=by unfold FP;rw[B8 (d:=[]) (by simp[S8];exact hi)]
theorem UM {s:List Int}(h:B9 s=true)(k:Nat):B9 (s.drop k)=true:=by
 unfold B9 at h ⊢
 rw[zm]at h ⊢
 exact fun x hx=>h x<|List.mem_of_mem_drop hx
theorem Sa (h:If p f (0::a) xs T)(hn:xs.length=a.length):Sq a.length (FP p f a):=by
 refine⟨Jh,fun i hi=>?_,fun i=>?_⟩
 ·rw[TQ hi,MC hi,List.length_drop,DR];rfl
 ·by_cases hi:i<a.length
  ·rw[TQ hi];exact UM (aV h hn.symm i) 1
  ·rw[show(FP p f a).getD i []=[]from by rw[List.getD_eq_getElem?_getD,List.getElem?_eq_none (by rw[Jh];omega)];rfl];rfl
theorem gO (X:List (List Sr)):IE (GS X)=(IE X).map fun r=>r.drop 1:=by
 unfold IE GS
 rw[List.map_map,List.map_map]
 refine List.map_congr_left fun r _=>?_
 show Qe (r.drop 1)=(Qe r).drop 1
 unfold Qe
 rw[List.map_drop]
theorem PP (h:If p f (0::a) xs T)(hm:1≤m)(hn:xs.length=a.length)(ha:0<a.length):UL m a.length a (FP p f a) (fun y=>CS p m f (Cc y)) (fun y=>GS (HG m T xs (Cc y) xs.length)):=by
 have len:∀ {y:List Sr},BF y=a→y.length=a.length:=fun hf=>by rw[← hf,C7]
 have fs:∀ {y:List Sr},BF y=a→BF (Cc y)=0::a:=fun hf=>by rw[Jg (by rw[len hf];exact ha),hf]
 have ws:∀ {y:List Sr},BC m y→BF y=a→BC m (Cc y):=fun hy hf=>Jd hy (by rw[len hf];exact ha)
 exact {
  al:=rfl
  sq:=Sa h hn
  gl:=fun y hy hf=>by have:=h.ser hm (ws hy hf) (fs hf);exact⟨this.1.trans hn,this.2⟩
  jl:=fun y hy hf=>by
   refine⟨by rw[aY,Jc];exact hn,fun i hi=>?_⟩
   rw[Y9 (by rw[Jc];omega),PL (by omega)]
   have:=h.slo hm (ws hy hf) (fs hf) i
   have hl:=len hf
   refine⟨by rw[List.length_drop,this.1,DC];omega,fun k hk=>?_⟩
   rw[List.length_drop]at hk
   rw[TP];exact this.2 (k+1) zO
  j0:=fun y hy hf=>by rw[gO,aW h hm (ws hy hf) (fs hf) rfl,hn];rfl
  tay:=fun y y' r N hy hy' hf hf' hr1 hr hz hN h2 i hi=>by
   have hl:=len hf
   have hl':=len hf'
   rw[Y9 (by rw[Jc];omega),PL (by omega)]
   have h0:=aX hy hy' zO zO
   have:=h.tay hm (ws hy hf) (fs hf) (ws hy' hf') (fs hf') hr (fun j hj=>by
    cases j with
    |zero=>exact fun t _=>by rw[h0];rfl
    |succ j=>exact hz j (by rw[DC]at hj;omega)) hN h2 (i:=i) zO
   rw[DC,gN h0,hl]at this
   exact this }
end
def KO (p:List Fn)(f:Int)(a:List Int)(o:Int):Int :=
 if Gg p f D2=0 then(if ((decide (((a.length:Nat):Int)=(p.getD f.toNat Fn.zero).params-1) && B9 a) && Gp o 0 12)=true then 0 else 2)else Gg p f D2
def Ny (p:List Fn)(f:Int)(a:List Int)(o:Int):Int :=
 if KO p f a o=0 then(if Et p f.toNat (0::a)=0 then(if (Eq p f.toNat (0::a)).any (fun x=>x != 0)=true then 4 else if DD (FP p f.toNat a)=0 then 6 else 0)else Et p f.toNat (0::a))else KO p f a o
def Zl (p:List Fn)(f:Nat)(a:List Int)(k:Nat)(y:List Sr):List Int:=Ji (FP p f a) (FN a.length fun i=>md (-(((CS p (k+1) f (Cc (y.map (CC (k+1))))).getD i []).getD k 0)))
def L7 (p:List Fn)(f:Nat)(a:List Int)(o:Nat)(k:Nat):List Sr:=FW (Zl p f a) (a.map fun x=>cst (o+1) x) k
def DP (p:List Fn)(f:Int)(a:List Int)(o:Int):List Sr:=if Ny p f a o=0 then L7 p f.toNat a o.toNat o.toNat else []
section
variable {p:List Fn} {f m k n o r:Nat} {a d:List Int} {y:List Sr} {xs:List Int} {T:Tp}
theorem aZ {q m:Nat}(h:2≤q)(hm:q≤m):PM q=CC q (PM m):=by
 unfold PM CC
 rw[List.take_set,List.take_replicate,Nat.min_eq_left hm]
theorem TR (hy:BC m y)(h0:0<y.length)(h2:2≤k)(hk:k≤m):Cc (y.map (CC k))=(Cc y).map (CC k):=by
 show PM ((y.map (CC k)).getD 0 []).length::y.map (CC k)=CC k (PM (y.getD 0 []).length)::y.map (CC k)
 congr 1
 rw[B8 (d:=[]) h0,(hy 0 h0).1,GQ,(hy 0 h0).1,Nat.min_eq_left hk]
 exact aZ h2 hk
theorem gP (m:Nat)(x:Int){q:Nat}(h:1≤q):(cst m x).getD q 0=0:=by
 unfold cst
 rw[RV,if_neg zO,GR]
theorem kM {m:Nat}(x:Int)(h:1≤m):(cst m x).getD 0 0=x:=by
 unfold cst
 rw[RV,if_pos ⟨rfl,by simp;omega⟩]
theorem PQ (hn:B9 a=true):BC m (a.map fun x=>cst m x):=fun k hk=>by
 rw[zg]at hk
 rw[B8 (d:=0) hk];exact Ft (Ck.2 (Bg hn k))
theorem PR (hm:1≤m):BF (a.map fun x=>cst m x)=a:=by
 unfold BF
 rw[List.map_map]
 refine (List.map_congr_left fun x _=>?_).trans<|List.map_id a
 exact kM x hm
theorem gQ {q j:Nat}(h:1≤q)(hj:j<a.length):((a.map fun x=>cst m x).getD j []).getD q 0=0:=by
 rw[B8 (d:=0) hj];exact gP m _ h
theorem If.v0 (h:If p f a xs T)(hm:1≤m)(hy:BC m y)(hf:BF y=a){i:Nat}(hi:i<xs.length):((CS p m f y).getD i []).getD 0 0=(Eq p f a).getD i 0:=by
 have hs:=DL h.n
 have h1:=h.ser (A9 1) hs<|Gy a
 unfold Eq
 rw[B8 (d:=[]) (by rw[h1.1];exact hi),h.vals hm hy hf hi,h.vals (A9 1) hs (Gy a) hi]
 have hx:=(h.tp hm hy hf).1.outs h.en.2 i hi
 rw[((h.tp hm hy hf).1.ser _ zO).2,((h.tp (A9 1) hs (Gy a)).1.ser _ zO).2]
theorem Nz (h:If p f (0::a) xs T)(hn:xs.length=a.length)(ha:0<a.length)(hd:DD (FP p f a)≠0)(hz:∀i,i<a.length→(Eq p f (0::a)).getD i 0=0)(hm:m=o+1) :
  ∀k,k≤o→BC m (L7 p f a o k)∧BF (L7 p f a o k)=a∧∀i,i<a.length→EN (k+1) (C0 ((CS p m f (Cc (L7 p f a o k))).getD i [])) Hr:=fun k hk=>by
 have hna:B9 a=true:=by have:=h.n;unfold B9 at this ⊢;rw[List.all_cons,z7]at this;exact this.2
 have H:=PP (m:=m) h zO hn ha
 subst hm
 have hx:qY (o+1) a.length (FP p f a) (fun y=>CS p (o+1) f (Cc y)) a (fun _=>Hr) (Zl p f a):=⟨fun k y h1 h2 hy hf=>by
  have hl:y.length=a.length:=by rw[← hf,C7]
  unfold Zl
  congr 1
  refine SQ fun i hi=>?_
  rw[TR hy zO zO h2,Tw p zO h2,B8 (d:=[]) (by rw[(H.gl y hy hf).1];exact hi),DU _ (Nat.lt_succ_self k)]
  show _=md (0-_)
  rw[Int.zero_sub];rfl⟩
 have:=dF H hd hx (Y:=a.map fun x=>cst (o+1) x) (PQ hna) (PR zO) (fun j hj q h1 _=>gQ h1 hj) (fun i hi t ht=>by
  have:t=0:=by omega
  subst this
  show md (((CS p (o+1) f (Cc (a.map fun x=>cst (o+1) x))).getD i []).getD 0 0)=_
  rw[h.v0 zO (Jd (PQ hna) (by rw[zg];exact ha)) (by rw[Jg (by rw[zg];exact ha),PR (by omega)]) zO,hz i hi];rfl) k zO
 exact⟨this.1,this.2.1,this.2.2.2⟩
end
end
section
theorem B3.imp {α:Type}{E E':Bk α}(h:∀ {H v x F},E H v x F→E' H v x F){H:Array Obj}{v:Value}{xs:List α}{F:List Nat}(k:B3 E H v xs F):B3 E' H v xs F:=by
 rcases k with h0|⟨us,g,off,cap,cur,e,fr,F',h1,h2⟩
 ·exact .inl h0
 ·exact .inr ⟨us,g,off,cap,cur,e,fr,F',els.imp h h1,h2⟩
theorem RN.rd3 {S:List Nat}{H:Array Obj}{v:Value}{x:List (List Sr)}(h:RN S (B3 (Io (B3 rI))) H v x):Rd (B3 (B3 (B3 rI))) H v x:=by
 obtain⟨F,h1,_⟩:=h
 exact⟨F,B3.imp (fun k=>k.1) h1⟩
def nX (y:List Sr)(J:List (List Sr))(g:List Sr):List Sr:=if (CR J g).isSome=true then TM J y g else []
theorem Ya {y g:List Sr}{J:List (List Sr)}(h:(CR J g).isSome=true):nX y J g=TM J y g:=if_pos h
theorem kN {y g:List Sr}{J:List (List Sr)}(h:(CR J g).isSome=false):nX y J g=[]:=if_neg (by rw[h];decide)
theorem gR {J:List (List Sr)}{g:List Sr}(h:(CR J g).isSome=true):CR J g≠none:=fun h9=>by rw[h9]at h;cases h
def Yb (p:List Fn)(f:Nat)(a:List Int):RL:=match KI p f a with
 |.ok x _=>x
 |.err _=>([],⟨[],[],[]⟩)
theorem TS {p:List Fn}{f:Nat}{a:List Int}{x:RL}{s:Nat}(h:AX (KI p f a) x s 0):Yb p f a=x:=by unfold Yb;rw[h.ok]
def Yc (p:List Fn)(m f:Nat)(A:List Sr):List (List Sr):=HG m (Yb p f (BF A)).2 (Yb p f (BF A)).1 A (Yb p f (BF A)).1.length
section
variable {p:List Fn} {f m n o r s:Nat} {a d:List Int} {y g:List Sr} {xs:List Int} {T:Tp}
theorem gS {A:List Sr}(h:AX (KI p f (BF A)) (xs,T) s 0):HG m T xs A xs.length=Yc p m f A:=by unfold Yc;rw[TS h]
theorem gT {p:List Fn}{f:Nat}(hv:J2 p)(hf:f<p.length)(hl:((a.length:Nat):Int)=(p.getD f Fn.zero).params)(hn:B9 a=true)(h:AX (KI p f a) (xs,T) s 0):If p f a xs T:=⟨hv,hf,hl,hn,s,h⟩
theorem TT (h0:0<a.length):Cc (Cd a)=Cd (0::a):=by
 cases a with
 |nil=>simp at h0
 |cons x l=>rfl
theorem gU (p:List Fn)(f:Nat)(a:List Int):(Eq p f a).any (fun x=>x != 0)=(CS p 1 f (Cd a)).any fun s=>s.getD 0 0 != 0:=by
 unfold Eq;rw[List.any_map];rfl
theorem R7 {l:List Int}(h:l.any (fun x=>x != 0)=false)(i:Nat):l.getD i 0=0:=by
 by_cases hi:i<l.length
 ·rw[List.any_eq_false]at h
  have:=h l[i] (List.getElem_mem hi)
  rw[D9 hi]
  simpa using this
 ·rw[List.getD_eq_getElem?_getD,List.getElem?_eq_none (by omega)];rfl
structure Rj (p:List Fn)(f:Nat)(a:List Int):Prop where
 v:J2 p
 lt:f<p.length
 l:((a.length:Nat):Int)=(p.getD f Fn.zero).params-1
 o:(((p.getD f Fn.zero).outs.length:Nat):Int)=((a.length:Nat):Int)
 n:B9 a=true
 b:1≤a.length∧a.length≤6
theorem Rj.num (h:Rj p f a):B9 (0::a)=true:=by have:=h.n;unfold B9 at this ⊢;rw[List.all_cons,this];rfl
theorem Rj.rc (h:Rj p f a)(hf:BF y=a)(hr:AX (KI p f (BF (Cc y))) (xs,T) s 0):If p f (0::a) xs T:=by
 have hl:y.length=a.length:=by rw[← hf,C7]
 rw[Jg (by have:=h.b;omega),hf]at hr
 exact gT h.v h.lt (by rw[z9];have:=h.l;omega) h.num hr
theorem If.xl (h:If p f a xs T):xs.length=(p.getD f Fn.zero).outs.length:=h.en.1
theorem PS (h:Rj p f a)(hc:If p f (0::a) xs T)(hm:1≤m∧m≤13)(hy:BC m y)(hf:BF y=a) :
  ID (GS (HG m T xs (Cc y) xs.length)) (CS p m f (Cc y)) m∧IE (GS (HG m T xs (Cc y) xs.length))=FP p f a∧(CS p m f (Cc y)).length=a.length∧BC m (CS p m f (Cc y))∧y.length=a.length∧(GS (HG m T xs (Cc y) xs.length)).length=a.length:=by
 have hx:xs.length=a.length:=by have:=hc.xl;have:=h.o;omega
 have H:=PP hc hm.1 hx (by have:=h.b;omega)
 have hg:=H.gl y hy hf
 exact⟨H.sys hy hf hm h.b.2 hg.1 hg.2,H.j0 y hy hf,hg.1,hg.2,by rw[← hf,C7],(H.jl y hy hf).1⟩
theorem Sb (h:Rj p f a)(hc:If p f (0::a) xs T)(hm:1≤m∧m≤13)(hy:BC m y)(hf:BF y=a) :
  (CR (GS (HG m T xs (Cc y) xs.length)) (CS p m f (Cc y))).isSome = !decide (DD (FP p f a)=0):=by
 have hs:=PS h hc hm hy hf
 rw[VS hs.1,hs.2.1]
theorem TU (h:Rj p f a)(hc:If p f (0::a) xs T)(hm:1≤m)(hy:BC m y)(hf:BF y=a):H2 p m f (Cc y)=0:=by
 have hl:y.length=a.length:=by rw[← hf,C7]
 have:=h.b
 exact (hc.tp hm (Jd hy zO) (by rw[Jg zO,hf])).2.2
theorem bA (h:Rj p f a)(hc:If p f (0::a) xs T)(hd:DD (FP p f a)≠0)(hz:(Eq p f (0::a)).any (fun x=>x != 0)=false)(hm:m=o+1)(ho:o≤12)(hy:BC m y)(hf:BF y=a)(hr1:1≤r)
  (hlo:∀j,j<a.length→Lo (min r m) (BD y (L7 p f a o o) j)) :
  BC m (TM (GS (HG m T xs (Cc y) xs.length)) y (CS p m f (Cc y)))∧BF (TM (GS (HG m T xs (Cc y) xs.length)) y (CS p m f (Cc y)))=a∧∀j,j<a.length→Lo (min (r*2) m) (BD (TM (GS (HG m T xs (Cc y) xs.length)) y (CS p m f (Cc y))) (L7 p f a o o) j):=by
 have hx:xs.length=a.length:=by have:=hc.xl;have:=h.o;omega
 have H:=PP (m:=m) hc zO hx (by have:=h.b;omega)
 have hg:=H.gl y hy hf
 obtain⟨s1,s2,s3⟩:=Nz hc hx (by have:=h.b;omega) hd (fun i _=>R7 hz i) hm o (A9 _)
 have hl:y.length=a.length:=by rw[← hf,C7]
 have st:=H.step (r:=min r m) (N:=min (r*2) m) hd zO h.b.2 hy hf s1 s2 hg.1 hg.2 (fun i hi=>EN.trans (EN.eq fun t _=>(Int.sub_zero _).symm)<|EN.sub (EN.rfl' _) fun t ht=>(s3 i hi t zO).symm) zO zO hlo zO zO
 have n1:=TN (J:=GS<|HG m T xs (Cc y) xs.length) (g:=CS p m f<|Cc y) hy
 refine⟨n1,?_,st⟩
 exact (LB n1 s1 (by rw[Je,hl];exact(EI s2).symm) zO fun j hj=>(st j (by rw[Je]at hj;omega)).mono zO).trans s2
theorem bB (h:Rj p f a)(hd:DD (FP p f a)≠0)(hc:If p f (0::a) xs T)(hz:(Eq p f (0::a)).any (fun x=>x != 0)=false)(hm:m=o+1):BC m (a.map fun x=>cst m x)∧BF (a.map fun x=>cst m x)=a∧∀j,j<a.length→Lo (min 1 m) (BD (a.map fun x=>cst m x) (L7 p f a o o) j):=by
 have hx:xs.length=a.length:=by have:=hc.xl;have:=h.o;omega
 obtain⟨s1,s2,s3⟩:=Nz hc hx (by have:=h.b;omega) hd (fun i _=>R7 hz i) hm o (A9 _)
 have e1:BC m (a.map fun x=>cst m x):=PQ h.n
 have e2:BF (a.map fun x=>cst m x)=a:=PR zO
 exact⟨e1,e2,fun j hj=>(kK e1 s1 zO (e2.trans s2.symm) (by rw[zg];exact hj)).mono zO⟩
theorem bC (h:Rj p f a)(hd:DD (FP p f a)≠0)(hc:If p f (0::a) xs T)(hz:(Eq p f (0::a)).any (fun x=>x != 0)=false)(hm:m=o+1)(hy:BC m y)(hf:BF y=a)(hr:m≤r)(hlo:∀j,j<a.length→Lo (min r m) (BD y (L7 p f a o o) j)):y=L7 p f a o o:=by
 have hx:xs.length=a.length:=by have:=hc.xl;have:=h.o;omega
 obtain⟨s1,s2,s3⟩:=Nz hc hx (by have:=h.b;omega) hd (fun i _=>R7 hz i) hm o (A9 _)
 have hl:y.length=a.length:=by rw[← hf,C7]
 exact dE hy s1 (by rw[hl];exact(EI s2).symm) fun j hj=>(hlo j zO).mono zO
end
def Rk (p:List Fn)(f:Int)(y:List Sr):Int:=if LA p f y=0 then(if DD (FP p f.toNat (BF y))=0 then 6 else 0)else LA p f y
def bD (p:List Fn)(f:Int)(y:List Sr):List Sr:=if Rk p f y=0 then TM (GS (Yc p (E1 y+1) f.toNat (Cc y))) y (CS p (E1 y+1) f.toNat (Cc y))else []
theorem TV {p:List Fn}{f:Int}{y:List Sr}(h:LA p f y≠0):Rk p f y=LA p f y:=if_neg h
theorem Yd {p:List Fn}{f:Int}{y:List Sr}(h:LA p f y=0)(hd:DD (FP p f.toNat (BF y))≠0):Rk p f y=0:=by unfold Rk;rw[if_pos h,if_neg hd]
theorem dH {p:List Fn}{f:Int}{y:List Sr}(h:LA p f y=0)(hd:DD (FP p f.toNat (BF y))=0):Rk p f y=6:=by unfold Rk;rw[if_pos h,if_pos hd]
theorem Ye {p:List Fn}{f:Int}{y:List Sr}(h:Rk p f y≠0):bD p f y=[]:=if_neg h
theorem dI {p:List Fn}{f:Int}{y:List Sr}(h:Rk p f y=0):bD p f y=TM (GS (Yc p (E1 y+1) f.toNat (Cc y))) y (CS p (E1 y+1) f.toNat (Cc y)):=if_pos h
section
variable {p:List Fn} {f o:Int} {a d:List Int}
theorem Yf (h:Gg p f D2≠0):KO p f a o=Gg p f D2:=if_neg h
theorem TW (h:Gg p f D2=0)(hb:((decide (((a.length:Nat):Int)=(p.getD f.toNat Fn.zero).params-1) && B9 a) && Gp o 0 12)=false):KO p f a o=2:=by unfold KO;rw[if_pos h,hb];rfl
theorem dJ (h:Gg p f D2=0)(h1:(decide (((a.length:Nat):Int)=(p.getD f.toNat Fn.zero).params-1) && B9 a)=true)(h2:Gp o 0 12=true):KO p f a o=0:=by unfold KO;rw[if_pos h,h1,h2];rfl
theorem Yg (h:KO p f a o=0):Rj p f.toNat a∧KE p=true∧(0≤f∧f<((p.length:Nat):Int))∧(0≤o∧o≤12):=by
 unfold KO at h
 split at h
 ·rename_i h1
  split at h
  ·rename_i h2
   rw[z7,z7,decide_eq_true_eq]at h2
   obtain⟨q1,q2,q3,q4⟩:=R5 h1
   exact⟨⟨Fu q1,zO,h2.1.1,zO,h2.1.2,zO⟩,q1,q2,Ct.1 h2.2⟩
  ·omega
 ·rename_i h1;exact absurd h h1
theorem NA (h:KO p f a o≠0):Ny p f a o=KO p f a o:=if_neg h
theorem R8 (h:KO p f a o=0)(h1:Et p f.toNat (0::a)≠0):Ny p f a o=Et p f.toNat (0::a):=by unfold Ny;rw[if_pos h,if_neg h1]
theorem Yh (h:KO p f a o=0)(h1:Et p f.toNat (0::a)=0)(h2:(Eq p f.toNat (0::a)).any (fun x=>x != 0)=true):Ny p f a o=4:=by unfold Ny;rw[if_pos h,if_pos h1,if_pos h2]
theorem Yi (h:KO p f a o=0)(h1:Et p f.toNat (0::a)=0)(h2:(Eq p f.toNat (0::a)).any (fun x=>x != 0)=false)(hd:DD (FP p f.toNat a)=0):Ny p f a o=6:=by
 unfold Ny;rw[if_pos h,if_pos h1,if_neg (by rw[h2];decide),if_pos hd]
theorem dK (h:KO p f a o=0)(h1:Et p f.toNat (0::a)=0)(h2:(Eq p f.toNat (0::a)).any (fun x=>x != 0)=false)(hd:DD (FP p f.toNat a)≠0):Ny p f a o=0:=by
 unfold Ny;rw[if_pos h,if_pos h1,if_neg (by rw[h2];decide),if_neg hd]
theorem KP (h:Ny p f a o≠0):DP p f a o=[]:=if_neg h
theorem Yj (h:Ny p f a o=0):DP p f a o=L7 p f.toNat a o.toNat o.toNat:=if_pos h
end
theorem kO {p:List Fn}(hv:J2 p){n f:Nat}{a:List Sr}(hf:f<p.length)(ha:BC n a)(hl:((a.length:Nat):Int)=(p.getD f Fn.zero).params):0≤H2 p n f a∧H2 p n f a≤9:=by
 rcases Ni hv hf ha hl with⟨x,s,h1,_⟩|h1|h1
 ·rw[LU h1];decide
 ·rw[Hv h1];decide
 ·rw[Hv h1];decide
theorem kP {p:List Fn}(hv:J2 p){f:Nat}{a:List Int}(hf:f<p.length)(ha:B9 a=true)(hl:((a.length:Nat):Int)=(p.getD f Fn.zero).params):0≤Et p f a∧Et p f a≤9:=kO hv hf (DL ha) (by unfold Cd;rw[zg];exact hl)
theorem gW {p:List Fn}{f:Int}{y:List Sr}(h:Nw p f y=0):Rj p f.toNat (BF y):=by
 have h0:=XX h
 refine⟨Fu h0.1,zO,by rw[C7];exact h0.2.2.2.1.2,by rw[C7,h0.2.2.2.1.1,h0.2.2.2.1.2],E8 h0.2.2.2.2.1,by rw[C7];omega⟩
theorem dL {M:List (List Int)}(h:(!(!decide (DD M=0)))=true):DD M=0:=by simpa using h
theorem dM {M:List (List Int)}(h:(!(!decide (DD M=0)))=false):DD M≠0:=by simpa using h
end
section
theorem TX {n k:Nat}:uN n k=eV n k:=by
 show(List.replicate n (0:Int)).set k 1=(List.replicate n (0:Int)).set (((k:Nat):Int)).toNat (md ((List.replicate n (0:Int)).getD (((k:Nat):Int)).toNat 0+1))
 rw[Int.toNat_natCast,GR];rfl
section
variable {p:List Fn} {f k o i m q:Nat} {a d:List Int} {y Y:List Sr} {xs:List Int} {T:Tp} {nx:Nat→List Sr→List Int}
theorem Yk (hv:J2 p)(hf:f<p.length)(hl:((a.length:Nat):Int)=(p.getD f Fn.zero).params)(hn:B9 a=true)(h0:Et p f a=0):∃xs T,If p f a xs T:=by
 cases hr:KI p f a with
 |ok x s=>exact⟨x.1,x.2,hv,hf,hl,hn,s,by rw[hr];exact AX.mk_ok rfl⟩
 |err c =>
  have hT:=Tz (A9 1) hv hf hn (MB (DL hn)<|Gy a) hl
  rw[hr]at hT
  have h9:ev p 1 f (Cd a)=.err c:=hT
  have h8:Et p f a=c:=Hv h9
  rcases Ni hv hf (DL hn) (by unfold Cd;rw[zg];exact hl)with⟨z,t,h1,_⟩|h1|h1
  ·rw[h1]at h9;cases h9
  ·rw[h1]at h9;cases h9;omega
  ·rw[h1]at h9;cases h9;omega
theorem kQ {l:List Int}(h:∀j,j<l.length→l.getD j 0=0):l.any (fun x=>x != 0)=false:=by
 rw[List.any_eq_false]
 intro x hx
 obtain⟨j,hj,rfl⟩:=List.mem_iff_getElem.1 hx
 have:=h j hj
 rw[D9 hj]at this
 simp[this]
theorem gX {l:List Int}{j:Nat}(hj:j<l.length)(h:l.getD j 0≠0):l.any (fun x=>x != 0)=true:=by
 rw[List.any_eq_true]
 rw[D9 hj]at h
 exact⟨l[j],List.getElem_mem hj,by simpa using h⟩
theorem R9 (h:BC m y)(hq:q≤m):BC q (y.map (CC q)):=fun j hj=>by
 rw[zg]at hj
 rw[B8 (d:=[]) hj]
 have:=h j hj
 refine⟨by rw[GQ,this.1];omega,?_⟩
 unfold CC
 have h2:=this.2
 unfold B9 at h2 ⊢
 rw[zm]at h2 ⊢
 exact fun x hx=>h2 x<|zj hx
theorem Yl (h:1≤k)(hi:i<Y.length):(CK i (FW nx Y k) (FW nx Y (k-1))).getD i []=(FW nx Y (k-1)).getD i []:=Ek [] (by simp) (A9 _) (by simpa using hi)
theorem bE (h:1≤k)(hi:i<Y.length):(CK i (FW nx Y k) (FW nx Y (k-1))).set i (((FW nx Y (k-1)).getD i []).set k ((nx k (FW nx Y (k-1))).getD i 0))=CK (i+1) (FW nx Y k) (FW nx Y (k-1)):=by
 have:=aU (nx:=nx) (k:=k-1) hi
 rw[show k-1+1=k from by omega,Yl h hi]at this
 exact this
def dN (p:List Fn)(f:Nat)(a:List Int)(k:Nat)(y:List Sr):List Int:=FN a.length fun i=>md (-(((CS p (k+1) f (Cc (y.map (CC (k+1))))).getD i []).getD k 0))
@[simp] theorem Gb:(dN p f a k y).length=a.length:=by simp[dN]
theorem PT:B9 (dN p f a k y)=true:=G5 fun _ _=>BU _
theorem gY (hi:i<a.length):(dN p f a k y).getD i 0=md (-(((CS p (k+1) f (Cc (y.map (CC (k+1))))).getD i []).getD k 0)):=Bx 0 hi
theorem gZ:Zl p f a k y=Ji (FP p f a) (dN p f a k y):=rfl
theorem hZ {y:List Sr}(hy:y=L7 p f a o (k-1))(h:1≤k)(hi:i<a.length):CK (i+1) (L7 p f a o k) y=(CK i (L7 p f a o k) y).set i ((y.getD i []).set k ((Zl p f a k y).getD i 0)):=by
 subst hy
 exact (bE (nx:=Zl p f a) (Y:=a.map fun x=>cst (o+1) x) h (by rw[zg];exact hi)).symm
theorem iA (h:Rj p f a)(hc:If p f (0::a) xs T)(hd:DD (FP p f a)≠0)(hz:(Eq p f (0::a)).any (fun x=>x != 0)=false)(hk:k≤o):BC (o+1) (L7 p f a o k)∧(L7 p f a o k).length=a.length∧BF (L7 p f a o k)=a:=by
 have hx:xs.length=a.length:=by have:=hc.xl;have:=h.o;omega
 have s:=Nz hc hx (by have:=h.b;omega) hd (fun i _=>R7 hz i) (m:=o+1) rfl k hk
 exact⟨s.1,EI s.2.1,s.2.1⟩
theorem iB (h:Rj p f a)(hc:If p f (0::a) xs T)(hy:BC (o+1) y)(hf:BF y=a)(h1:1≤k)(hk:k≤o) :
  (CS p (k+1) f (Cc (y.map (CC (k+1))))).length=a.length∧BC (k+1) (CS p (k+1) f (Cc (y.map (CC (k+1)))))∧BC (k+1) (Cc (y.map (CC (k+1))))∧((y.map (CC (k+1))).getD 0 []).length=k+1:=by
 have hl:y.length=a.length:=EI hf
 have hb:=h.b
 have hw:BC (o+1) (Cc y):=Jd hy zO
 have hs:=hc.ser (m:=o+1) zO hw (by rw[Jg zO,hf])
 have hxl:xs.length=a.length:=by have:=hc.xl;have:=h.o;omega
 have e:=Tw p (show 1≤k+1 by omega) (show k+1≤o+1 by omega) f<|Cc y
 rw[TR hy zO zO zO,e,zg]
 refine⟨by rw[hs.1,hxl],R9 hs.2 zO,R9 hw zO,?_⟩
 rw[B8 (d:=[]) zO,GQ,(hy 0 zO).1];omega
theorem iC (h:Rj p f a)(hc:If p f (0::a) xs T)(hd:DD (FP p f a)≠0){b:List Int}(hb:B9 b=true):Sq (FP p f a).length (FP p f a)∧(FP p f a).length=a.length∧Iy (FP p f a) b≠none:=by
 have hx:xs.length=a.length:=by have:=hc.xl;have:=h.o;omega
 have hS:=Sa hc hx
 have hS':Sq (FP p f a).length (FP p f a):=by rw[Jh];exact hS
 exact⟨hS',Jh,fun hn=>hd ((Iz hS' hb).2 hn)⟩
end
end
section
structure Oc (p:List Fn)(f:Int)(a:List Int)(o:Int)(m:Nat)(xs:List Int)(T:Tp):Prop where
 I:Rj p f.toNat a
 rc:If p f.toNat (0::a) xs T
 hd:DD (FP p f.toNat a)≠0
 sh:Gg p f D2=0
 ob:0≤o∧o≤12
 me:((m:Nat):Int)=o+1
 s:BC m (DP p f a o)
 fs:BF (DP p f a o)=a
 l:(DP p f a o).length=a.length
 z:∀i,i<a.length→EN m (C0 ((CS p m f.toNat (Cc (DP p f a o))).getD i [])) Hr
theorem iD {p:List Fn}{f o:Int}{a:List Int}(hc:Ny p f a o=0):∃xs T,Oc p f a o (o.toNat+1) xs T:=by
 have hk:KO p f a o=0:=by
  by_cases h:KO p f a o=0
  ·exact h
  ·rw[NA h]at hc;exact absurd hc h
 have hsh:Gg p f D2=0:=by
  by_cases h:Gg p f D2=0
  ·exact h
  ·rw[Yf h]at hk;exact absurd hk h
 obtain⟨hI,_,_,ho⟩:=Yg hk
 have hb:=hI.b
 have hx0:Et p f.toNat (0::a)=0:=by
  by_cases h:Et p f.toNat (0::a)=0
  ·exact h
  ·rw[R8 hk h]at hc;exact absurd hc h
 have hz:(Eq p f.toNat (0::a)).any (fun x=>x != 0)=false:=by
  cases h:(Eq p f.toNat (0::a)).any (fun x=>x != 0)with
  |false=>rfl
  |true=>rw[Yh hk hx0 h]at hc;omega
 have hd:DD (FP p f.toNat a)≠0:=fun h=>by rw[Yi hk hx0 hz h]at hc;omega
 obtain⟨xs,T,hr⟩:=Yk hI.v hI.lt (by rw[z9];have:=hI.l;omega) hI.num hx0
 have hx:xs.length=a.length:=by have:=hr.xl;have:=hI.o;omega
 obtain⟨s1,s2,s3⟩:=Nz hr hx zO hd (fun i _=>R7 hz i) (m:=o.toNat+1) rfl o.toNat (A9 _)
 rw[← Yj hc]at s1 s2 s3
 exact⟨xs,T,hI,hr,hd,hsh,ho,zO,s1,s2,EI s2,s3⟩
section
variable {p:List Fn} {f o:Int} {a:List Int} {m r N k:Nat} {xs:List Int} {T:Tp} {g:List Sr}
theorem Oc.nws (S:Oc p f a o m xs T):UL m a.length a (FP p f.toNat a) (fun y=>CS p m f.toNat (Cc y)) (fun y=>GS (HG m T xs (Cc y) xs.length)) :=
 PP S.rc (by have:=S.me;have:=S.ob;omega) (by have:=S.rc.xl;have:=S.I.o;omega) (by have:=S.I.b;omega)
theorem Oc.mb (S:Oc p f a o m xs T):1≤m∧m≤13:=by have:=S.me;have:=S.ob;omega
theorem Oc.oo (S:Oc p f a o m xs T)(hg:BC m g)(hf:BF g=a):E1 g+1=m:=IL S.mb.1 (by rw[EI hf];have:=S.I.b;omega) hg
theorem Oc.gq (S:Oc p f a o m xs T)(hg:BC m g)(hf:BF g=a):Nw p f g=0:=by
 have hl:g.length=a.length:=EI hf
 have h9:=S.I.l
 obtain⟨n,hn⟩:∃n,m=n+1:=⟨m-1,by have:=S.mb;omega⟩
 subst hn
 rw[← kG S.sh (by rw[aI (by have:=S.mb;omega) hg,Bool.true_and];exact A7 zO)];exact S.sh
theorem Oc.rq (S:Oc p f a o m xs T)(hg:BC m g)(hf:BF g=a):LA p f g=0:=by
 rw[Nx (S.gq hg hf),S.oo hg hf]
 exact TU S.I S.rc S.mb.1 hg hf
theorem Oc.step (S:Oc p f a o m xs T)(hg:BC m g)(hf:BF g=a)(hr1:1≤r)(hr:r≤m)(hlo:∀j,j<a.length→Lo r (BD g (DP p f a o) j))(hN:N≤m)(h2:N≤r+r) :
  Rk p f g=0∧BC m (bD p f g)∧(bD p f g).length=a.length∧∀j,j<a.length→Lo N (BD (bD p f g) (DP p f a o) j):=by
 have hrq:=S.rq hg hf
 have hns:Rk p f g=0:=Yd hrq (by rw[hf];exact S.hd)
 have hl:g.length=a.length:=EI hf
 have hw:BF (Cc g)=0::a:=by rw[Jg (by have:=S.I.b;omega),hf]
 obtain⟨s,hrl⟩:=S.rc.r
 have e:bD p f g=TM (GS (HG m T xs (Cc g) xs.length)) g (CS p m f.toNat (Cc g)):=by
  rw[dI hns,S.oo hg hf]
  congr 2
  unfold Yc
  rw[hw,TS hrl]
 have H:=S.nws
 have hG:=H.gl g hg hf
 have st:=H.step (N:=N) S.hd S.mb S.I.b.2 hg hf S.s S.fs hG.1 hG.2 (fun i hi=>EN.trans (EN.eq fun t _=>(Int.sub_zero _).symm)<|EN.sub (EN.rfl' _) fun t ht=>(S.z i hi t ht).symm) hr1 hr hlo hN h2
 rw[e]
 exact⟨hns,TN hg,by rw[Je];exact hl,st⟩
theorem Oc.same (S:Oc p f a o m xs T):Rk p f (DP p f a o)=0∧bD p f (DP p f a o)=DP p f a o:=by
 have h:=S.step (r:=m) (N:=m) S.s S.fs S.mb.1 (A9 _) (fun j _ t _=>by unfold BD;rw[Int.sub_self];rfl) (A9 _) zO
 exact⟨h.1,dE h.2.1 S.s (by rw[h.2.2.1,S.l]) fun j hj=>h.2.2.2 j (by rw[h.2.2.1]at hj;exact hj)⟩
theorem Oc.res (S:Oc p f a o m xs T):S3 p f (DP p f a o)=((m:Nat):Int):=by
 have hG:=S.nws.gl _ S.s S.fs
 have h0:0<(DP p f a o).length:=by rw[S.l];have:=S.I.b;omega
 rw[TF (S.rq S.s S.fs),S.oo S.s S.fs,(S.s 0 h0).1]
 congr 1
 refine (Lz.eq ⟨A9 _,fun i hi j hj=>?_,.inl rfl⟩).symm
 rw[hG.1]at hi
 have h1:=S.z i hi j hj
 have h2:=Bg (hG.2 i (by rw[hG.1];exact hi)).2 j
 have h3:md (((CS p m f.toNat (Cc (DP p f a o))).getD i []).getD j 0)=0:=h1
 rwa [Jv h2.1 h2.2]at h3
theorem Oc.wrong (S:Oc p f a o m xs T) (hg:BC m g) (hl:g.length = a.length) (hk1:1≤k) (hk:k < m) (hlo:∀ j,j < a.length→Lo k (BD (DP p f a o) g j)) {q:Nat} (hq:q < a.length)
  (hne:((g.getD q []).getD k 0)≠((DP p f a o).getD q []).getD k 0):LA p f g = 0∧S3 p f g = ((k:Nat):Int):=by
 have hf:BF g = a:=by
  rw [← S.fs]
  exact (LB S.s hg (by rw [S.l,hl]) S.mb.1 fun j hj=>(hlo j (by rw [S.l] at hj; exact hj)).mono hk1).symm
 have H:=S.nws
 have hG:=H.gl _ hg hf
 have hat:=fun i (hi:i < a.length)=>H.at_ S.s S.fs hg hf hk1 hk hlo hi
 have val:∀ i,i < a.length→∀ t,t < m→md (((CS p m f.toNat (Cc g)).getD i []).getD t 0) = md (BD (CS p m f.toNat (Cc (DP p f a o))) (CS p m f.toNat (Cc g)) i t):=fun i hi t ht=>by
  have h1:md (((CS p m f.toNat (Cc (DP p f a o))).getD i []).getD t 0) = md 0:=S.z i hi t ht
  unfold BD C0
  rw [← EB,h1,EB,Int.sub_zero]
 have num:∀ i,i < a.length→∀ t,md (((CS p m f.toNat (Cc g)).getD i []).getD t 0) = ((CS p m f.toNat (Cc g)).getD i []).getD t 0:=fun i hi t=>by
  have:=Bg (hG.2 i (by rw [hG.1]; exact hi)).2 t
  exact Jv this.1 this.2
 have h0:0 < g.length:=by have:=S.I.b; omega
 refine ⟨S.rq hg hf,?_⟩
 rw [TF (S.rq hg hf),S.oo hg hf,(hg 0 h0).1]
 congr 1
 refine (Lz.eq ⟨zO,fun i hi j hj=>?_,.inr ?_⟩).symm
 ·rw [hG.1] at hi
  rw [← num i hi j,val i hi j (by omega)]
  exact (hat i hi).1 j hj
 ·-- otherwise the Jacobian sends the difference to 0
  apply Classical.byContradiction
  intro hno
  have hS:=H.sq
  have hJl:(FP p f.toNat a).length = a.length:=Jh
  have hS':Sq (FP p f.toNat a).length (FP p f.toNat a):=by rw [hJl]; exact hS
  have hb:B9 (List.replicate a.length 0) = true:=Gu _
  have hjn:Iy (FP p f.toNat a) (List.replicate a.length 0)≠none:=fun hn=>S.hd ((Iz hS' hb).2 hn)
  have z1:=Mz hS' (by rw [z5,hJl]) hb hjn (fun j=>BD (DP p f a o) g j k) fun i hi=>by
   rw [hJl] at hi ⊢
   rw [GR,← (hat i hi).2,← val i hi k hk,num i hi k]
   apply Classical.byContradiction
   intro h9
   exact hno ⟨i,by rw [hG.1]; exact hi,h9⟩
  have z2:=Mz hS' (by rw [z5,hJl]) hb hjn (fun j=>0) fun i hi=>by
   rw [GR,jB fun j _=>Int.mul_zero _]; rfl
  have z3:md (BD (DP p f a o) g q k) = md 0:=by rw [z1 q (by rw [hJl]; exact hq),← z2 q (by rw [hJl]; exact hq)]
  have n1:=Bg (hg q (by rw [hl]; exact hq)).2 k
  have n2:=Bg (S.s q (by rw [S.l]; exact hq)).2 k
  unfold BD C0 md at z3
  omega
end
end
section
theorem RN.of_frU {e:TypeId}{B U:Nat}{S:List Nat}{H:Array Obj}{v:Value}{xs:List Int}(h:Fr (AY rI e) B U H v xs)(hS:∀b∈S,U≤b):RN S (B3 rI) H v xs:=by
 obtain⟨F,h1,_,h3⟩:=h
 exact⟨F,h1.rd id,fun b hb hm=>by have:=h3 b hb;have:=hS b hm;omega⟩
theorem KQ {α:Type}(d:α)(l:List α)(q j:Nat)(r:α):(l.set q r).getD j d=if q=j∧q<l.length then r else l.getD j d:=by
 rw[List.getD_eq_getElem?_getD,List.getElem?_set,List.getD_eq_getElem?_getD]
 by_cases h:q=j
 ·by_cases h2:q<l.length
  ·rw[if_pos h,if_pos h2,if_pos ⟨h,h2⟩];rfl
  ·rw[if_pos h,if_neg h2,if_neg zO,← h,List.getElem?_eq_none (by omega)]
 ·rw[if_neg h,if_neg (by omega)]
def O6 (Y:List (List Int))(q k:Nat)(x:Int):List (List Int):=Y.set q ((Y.getD q []).set k (md ((Y.getD q []).getD k 0+x)))
theorem iE {Y:List (List Int)}{q k i:Nat}{x:Int}(hi:i=q)(h:i<Y.length):(O6 Y q k x).take i++[(Y.getD i []).set k (md ((Y.getD i []).getD k 0+x))]=(O6 Y q k x).take (i+1):=by
 subst hi
 rw[Cp [] (by unfold O6;rw[z6];omega)]
 unfold O6
 rw[KQ,if_pos ⟨rfl,h⟩]
theorem iF {Y:List (List Int)}{q k i:Nat}{x:Int}(h:i<Y.length)(hi:¬i=q):(O6 Y q k x).take i++[Y.getD i []]=(O6 Y q k x).take (i+1):=by
 rw[Cp [] (by unfold O6;rw[z6];omega)]
 unfold O6
 rw[KQ,if_neg (by omega)]
theorem MD {Y:List (List Int)}{q k:Nat}{x:Int}:(O6 Y q k x).length=Y.length:=z6
section
variable {p:List Fn} {f o:Int} {a:List Int} {m q k:Nat} {x:Int} {xs:List Int} {T:Tp}
theorem Oc.wrG (S:Oc p f a o m xs T)(hq:q<a.length)(hk1:1≤k)(hk:k<m)(hx:1≤x∧x≤1000):LA p f (O6 (DP p f a o) q k x)=0∧S3 p f (Go.Proofs.YtbajepcpgncekaaGreat.O6 (DP p f a o) q k x)=((k:Nat):Int):=by
 have hl:=S.l
 have hs:=S.s
 have hr:∀j,(Go.Proofs.YtbajepcpgncekaaGreat.O6 (DP p f a o) q k x).getD j []=if q=j∧q<(DP p f a o).length then((DP p f a o).getD q []).set k (md (((DP p f a o).getD q []).getD k 0+x))else(DP p f a o).getD j []:=fun j=>KQ [] _ _ _ _
 have hmb:∀z:Int,0≤md z∧md z<1000003:=fun z=>by unfold md;omega
 have hsq:=hs q zO
 have hg:BC m (Go.Proofs.YtbajepcpgncekaaGreat.O6 (DP p f a o) q k x):=fun j hj=>by
  rw[hr j]
  by_cases h:q=j∧q<(DP p f a o).length
  ·rw[if_pos h]
   exact⟨by rw[z6];exact hsq.1,OU hsq.2 (hmb _)⟩
  ·rw[if_neg h];exact hs j (by rw[MD]at hj;exact hj)
 refine S.wrong hg (by rw[MD,hl]) hk1 hk (fun j hj t ht=>?_) hq ?_
 ·show md (((Go.Proofs.YtbajepcpgncekaaGreat.O6 (DP p f a o) q k x).getD j []).getD t 0-((DP p f a o).getD j []).getD t 0)=md 0
  rw[hr j]
  by_cases h:q=j∧q<(DP p f a o).length
  ·rw[if_pos h,KQ,if_neg zO,← h.1,Int.sub_self]
  ·rw[if_neg h,Int.sub_self]
 ·rw[hr q,if_pos ⟨rfl,zO⟩,KQ,if_pos ⟨rfl,by rw[hsq.1];exact hk⟩]
  have:=Bg hsq.2 k
  unfold md;omega
end
end
theorem mixed:Tryz.prog.follows .mixedOrders=true:=by kernel_rfl
abbrev C3 (k:Nat):Prop:=((Tryz.prog.funcs[k]?).map fun fn=>(fn.name != "runtime.NumGoroutine") && fn.body.isSome) = some true
theorem C4 {k:Nat} (h:((Tryz.prog.funcs[k]?).map fun fn=>(fn.name != "runtime.NumGoroutine") && fn.body.isSome) = some true):C3 k:=h
theorem pJ:C3 12:=C4 (by kernel_rfl)
theorem pK:C3 13:=C4 (by kernel_rfl)
theorem pL:C3 14:=C4 (by kernel_rfl)
theorem bF:C3 15:=C4 (by kernel_rfl)
theorem pM:C3 16:=C4 (by kernel_rfl)
theorem pN:C3 18:=C4 (by kernel_rfl)
theorem pO:C3 19:=C4 (by kernel_rfl)
theorem pP:C3 21:=C4 (by kernel_rfl)
theorem kR:C3 22:=C4 (by kernel_rfl)
theorem pQ:C3 23:=C4 (by kernel_rfl)
theorem kS:C3 24:=C4 (by kernel_rfl)
theorem pR:C3 25:=C4 (by kernel_rfl)
theorem iG:C3 29:=C4 (by kernel_rfl)
theorem iH:C3 50:=C4 (by kernel_rfl)
theorem pS:C3 66:=C4 (by kernel_rfl)
theorem pT:C3 67:=C4 (by kernel_rfl)
theorem Ip:C3 68:=C4 (by kernel_rfl)
theorem pU:C3 69:=C4 (by kernel_rfl)
theorem pV:C3 70:=C4 (by kernel_rfl)
theorem pW:C3 71:=C4 (by kernel_rfl)
theorem pX:C3 72:=C4 (by kernel_rfl)
theorem pY:C3 73:=C4 (by kernel_rfl)
theorem Jl:C3 74:=C4 (by kernel_rfl)
theorem iI:C3 75:=C4 (by kernel_rfl)
theorem pZ:C3 76:=C4 (by kernel_rfl)
theorem qA:C3 77:=C4 (by kernel_rfl)
theorem qB:C3 78:=C4 (by kernel_rfl)
theorem UN:C3 79:=C4 (by kernel_rfl)
theorem kT:C3 80:=C4 (by kernel_rfl)
theorem qC:C3 81:=C4 (by kernel_rfl)
theorem qD:C3 82:=C4 (by kernel_rfl)
theorem kU:C3 83:=C4 (by kernel_rfl)
theorem qE:C3 84:=C4 (by kernel_rfl)
theorem kV:C3 85:=C4 (by kernel_rfl)
theorem iJ:C3 86:=C4 (by kernel_rfl)
theorem qF:C3 87:=C4 (by kernel_rfl)
theorem bG:C3 88:=C4 (by kernel_rfl)
theorem qG:C3 89:=C4 (by kernel_rfl)
theorem kW:C3 90:=C4 (by kernel_rfl)
theorem qH:C3 91:=C4 (by kernel_rfl)
theorem kX:C3 92:=C4 (by kernel_rfl)
theorem qI:C3 93:=C4 (by kernel_rfl)
theorem kY:C3 94:=C4 (by kernel_rfl)
theorem kZ:C3 95:=C4 (by kernel_rfl)
theorem qJ:C3 96:=C4 (by kernel_rfl)
theorem dO:C3 100:=C4 (by kernel_rfl)
theorem TY:C3 101:=C4 (by kernel_rfl)
theorem Ym:C3 102:=C4 (by kernel_rfl)
theorem dP:C3 106:=C4 (by kernel_rfl)
theorem Yn:C3 107:=C4 (by kernel_rfl)
theorem Yo:C3 109:=C4 (by kernel_rfl)
theorem Yp:C3 111:=C4 (by kernel_rfl)
theorem JA:C3 112:=C4 (by kernel_rfl)
theorem GT:C3 117:=C4 (by kernel_rfl)
theorem Ra:C3 122:=C4 (by kernel_rfl)
theorem lA:C3 123:=C4 (by kernel_rfl)
theorem OV:C3 124:=C4 (by kernel_rfl)
theorem NB:C3 132:=C4 (by kernel_rfl)
theorem lB:C3 133:=C4 (by kernel_rfl)
theorem lC:C3 137:=C4 (by kernel_rfl)
theorem dQ:C3 138:=C4 (by kernel_rfl)
theorem TZ:C3 143:=C4 (by kernel_rfl)
theorem lD:C3 150:=C4 (by kernel_rfl)
theorem dR:C3 151:=C4 (by kernel_rfl)
theorem Yq:C3 152:=C4 (by kernel_rfl)
theorem Yr:C3 153:=C4 (by kernel_rfl)
theorem dS:C3 154:=C4 (by kernel_rfl)
theorem lE:C3 155:=C4 (by kernel_rfl)
theorem lF:C3 156:=C4 (by kernel_rfl)
theorem lG:C3 157:=C4 (by kernel_rfl)
theorem Ys:C3 158:=C4 (by kernel_rfl)
theorem lH:C3 159:=C4 (by kernel_rfl)
theorem lI:C3 160:=C4 (by kernel_rfl)
theorem dT:C3 161:=C4 (by kernel_rfl)
theorem dU:C3 162:=C4 (by kernel_rfl)
theorem Yt:C3 163:=C4 (by kernel_rfl)
theorem lJ:C3 164:=C4 (by kernel_rfl)
theorem Yu:C3 165:=C4 (by kernel_rfl)
theorem lK:C3 166:=C4 (by kernel_rfl)
theorem lL:C3 167:=C4 (by kernel_rfl)
theorem lM:C3 168:=C4 (by kernel_rfl)
theorem lN:C3 169:=C4 (by kernel_rfl)
theorem dV:C3 170:=C4 (by kernel_rfl)
theorem lO:C3 171:=C4 (by kernel_rfl)
theorem U1:C3 172:=C4 (by kernel_rfl)
theorem lP:C3 173:=C4 (by kernel_rfl)
theorem lQ:C3 174:=C4 (by kernel_rfl)
theorem lR:C3 175:=C4 (by kernel_rfl)
theorem dW:C3 176:=C4 (by kernel_rfl)
theorem Yw:C3 177:=C4 (by kernel_rfl)
theorem Yx:C3 178:=C4 (by kernel_rfl)
theorem Rb:C3 179:=C4 (by kernel_rfl)
theorem lS:C3 180:=C4 (by kernel_rfl)
theorem NC:C3 181:=C4 (by kernel_rfl)
theorem Yy:C3 182:=C4 (by kernel_rfl)
theorem Yz:C3 184:=C4 (by kernel_rfl)
theorem U2:C3 185:=C4 (by kernel_rfl)
theorem lT:C3 186:=C4 (by kernel_rfl)
theorem Rc:C3 187:=C4 (by kernel_rfl)
theorem dX:C3 190:=C4 (by kernel_rfl)
theorem YB:C3 191:=C4 (by kernel_rfl)
theorem U3:C3 196:=C4 (by kernel_rfl)
theorem lU:C3 197:=C4 (by kernel_rfl)
theorem dY:C3 198:=C4 (by kernel_rfl)
theorem lV:C3 201:=C4 (by kernel_rfl)
theorem lW:C3 203:=C4 (by kernel_rfl)
theorem lX:C3 204:=C4 (by kernel_rfl)
theorem lY:C3 205:=C4 (by kernel_rfl)
theorem YC:C3 206:=C4 (by kernel_rfl)
theorem lZ:C3 207:=C4 (by kernel_rfl)
theorem dZ:C3 220:=C4 (by kernel_rfl)
theorem IM:C3 221:=C4 (by kernel_rfl)
theorem mA:C3 222:=C4 (by kernel_rfl)
theorem eA:C3 223:=C4 (by kernel_rfl)
theorem mB:C3 224:=C4 (by kernel_rfl)
theorem mC:C3 225:=C4 (by kernel_rfl)
theorem eB:C3 226:=C4 (by kernel_rfl)
theorem mD:C3 227:=C4 (by kernel_rfl)
theorem mE:C3 228:=C4 (by kernel_rfl)
theorem mF:C3 229:=C4 (by kernel_rfl)
theorem YD:C3 230:=C4 (by kernel_rfl)
theorem KR:C3 231:=C4 (by kernel_rfl)
theorem OW:C3 232:=C4 (by kernel_rfl)
theorem mG:C3 235:=C4 (by kernel_rfl)
theorem eC:C3 236:=C4 (by kernel_rfl)
theorem U4:C3 237:=C4 (by kernel_rfl)
theorem mH:C3 238:=C4 (by kernel_rfl)
theorem YE:C3 239:=C4 (by kernel_rfl)
theorem mI:C3 240:=C4 (by kernel_rfl)
theorem U5:C3 250:=C4 (by kernel_rfl)
theorem mJ:C3 251:=C4 (by kernel_rfl)
theorem eD:C3 252:=C4 (by kernel_rfl)
theorem eE:C3 253:=C4 (by kernel_rfl)
theorem mK:C3 254:=C4 (by kernel_rfl)
theorem mL:C3 255:=C4 (by kernel_rfl)
theorem mM:C3 256:=C4 (by kernel_rfl)
theorem mN:C3 257:=C4 (by kernel_rfl)
theorem eF:C3 258:=C4 (by kernel_rfl)
theorem mO:C3 270:=C4 (by kernel_rfl)
theorem eG:C3 271:=C4 (by kernel_rfl)
theorem U6:C3 272:=C4 (by kernel_rfl)
theorem mP:C3 286:=C4 (by kernel_rfl)
theorem mQ:C3 287:=C4 (by kernel_rfl)
theorem AO:CD Tryz.prog 2:=by unfold CD;kernel_rfl
theorem M6:CD Tryz.prog 3:=by unfold CD;kernel_rfl
theorem qK:CD Tryz.prog 4:=by unfold CD;kernel_rfl
theorem mR:CD Tryz.prog 5:=by unfold CD;kernel_rfl
theorem Sc:CD Tryz.prog 9:=by unfold CD;kernel_rfl
theorem U7:CD Tryz.prog 22:=by unfold CD;kernel_rfl
theorem Cr:CD Tryz.prog 24:=by unfold CD;kernel_rfl
theorem B7:CD Tryz.prog 27:=by unfold CD;kernel_rfl
theorem DY:CD Tryz.prog 30:=by unfold CD;kernel_rfl
theorem BA:CD Tryz.prog 47:=by unfold CD;kernel_rfl
theorem Re:CD Tryz.prog 52:=by unfold CD;kernel_rfl
theorem mS:CD Tryz.prog 53:=by unfold CD;kernel_rfl
theorem JB:CD Tryz.prog 91:=by unfold CD;kernel_rfl
theorem eH:CD Tryz.prog 97:=by unfold CD;kernel_rfl
theorem PU:CD Tryz.prog 178:=by unfold CD;kernel_rfl
theorem I0:(Tryz.prog.info? 2).map (·.size)=some 1:=by kernel_rfl
theorem qL:(Tryz.prog.info? 3).map (·.size)=some 1:=by kernel_rfl
theorem mT:(Tryz.prog.info? 24).map (·.size)=some 1:=by kernel_rfl
theorem KS:(Tryz.prog.info? 27).map (·.size)=some 1:=by kernel_rfl
theorem bH:(Tryz.prog.info? 30).map (·.size)=some 1:=by kernel_rfl
theorem UO:(Tryz.prog.info? 47).map (·.size)=some 1:=by kernel_rfl
theorem iK:(Tryz.prog.info? 52).map (·.size)=some 1:=by kernel_rfl
theorem qM:(Tryz.prog.info? 53).map (·.size)=some 1:=by kernel_rfl
theorem eI:(Tryz.prog.info? 178).map (·.size)=some 1:=by kernel_rfl
theorem BM:TI Tryz.prog 2 1 (.int .i64 0) 8:=by unfold TI;kernel_rfl
theorem qN:TI Tryz.prog 5 1 (.int .u8 0) 1:=by unfold TI;kernel_rfl
theorem qZ:TI Tryz.prog 9 1 (.string ByteArray.empty) 16:=by unfold TI;kernel_rfl
theorem AU:TI Tryz.prog 27 1 (.slice none 0 0) 24:=by unfold TI;kernel_rfl
theorem DX:TI Tryz.prog 30 1 (.slice none 0 0) 24:=by unfold TI;kernel_rfl
theorem u2:Tryz.prog.underlying 2=some (.int .i64):=by kernel_rfl
theorem u3:Tryz.prog.underlying 3=some (.int .i64):=by kernel_rfl
theorem u4:Tryz.prog.underlying 4=some (.bool):=by kernel_rfl
theorem u5:Tryz.prog.underlying 5=some (.int .u8):=by kernel_rfl
theorem u9:Tryz.prog.underlying 9=some (.string):=by kernel_rfl
theorem U8:Tryz.prog.underlying 22=some (.slice 5):=by kernel_rfl
theorem H6:Tryz.prog.underlying 24=some (.slice 49):=by kernel_rfl
theorem Bm:Tryz.prog.underlying 27=some (.slice 2):=by kernel_rfl
theorem Bn:Tryz.prog.underlying 30=some (.slice 27):=by kernel_rfl
theorem DE:Tryz.prog.underlying 47=some (.slice 153):=by kernel_rfl
theorem YF:Tryz.prog.underlying 52=some (.slice 69):=by kernel_rfl
theorem r8:Tryz.prog.underlying 53=some (.slice 208):=by kernel_rfl
theorem Ds:Tryz.prog.underlying 112=some (.slice 30):=by kernel_rfl
theorem iL:Tryz.prog.underlying 148=some (.slice 9):=by kernel_rfl
theorem bI:Tryz.prog.underlying 178=some (.int .u64):=by kernel_rfl
theorem CL:EA Tryz.prog 26 1=true:=by kernel_rfl
theorem YG:(Tryz.prog.info? 26).map (·.zero)=some (some (.agg #[.slice none 0 0])):=by kernel_rfl
theorem BQ:Im Tryz.prog 26 0 0=true:=by kernel_rfl
theorem KT:EA Tryz.prog 49 3=true:=by kernel_rfl
theorem bJ:(Tryz.prog.info? 49).map (·.zero)=some (some (.agg #[.string ByteArray.empty,.int .i64 0,.slice none 0 0])):=by kernel_rfl
theorem CM:TI Tryz.prog 49 3 (.agg #[.string ByteArray.empty,.int .i64 0,.slice none 0 0]) 48:=by unfold TI;kernel_rfl
theorem LC:Im Tryz.prog 49 0 0=true:=by kernel_rfl
theorem CG:Im Tryz.prog 49 1 1=true:=by kernel_rfl
theorem Cn:Im Tryz.prog 49 2 2=true:=by kernel_rfl
theorem FK:EA Tryz.prog 55 4=true:=by kernel_rfl
theorem bK:(Tryz.prog.info? 55).map (·.zero)=some (some (.agg #[.int .i64 0,.slice none 0 0,.slice none 0 0,.slice none 0 0])):=by kernel_rfl
theorem iM:Im Tryz.prog 55 0 0=true:=by kernel_rfl
theorem IN:Im Tryz.prog 55 1 1=true:=by kernel_rfl
theorem YH:Im Tryz.prog 55 2 2=true:=by kernel_rfl
theorem Gz:Im Tryz.prog 55 3 3=true:=by kernel_rfl
theorem Ig:EA Tryz.prog 69 4=true:=by kernel_rfl
theorem bL:(Tryz.prog.info? 69).map (·.zero)=some (some (.agg #[.int .i64 0,.int .i64 0,.int .i64 0,.int .i64 0])):=by kernel_rfl
theorem LY:TI Tryz.prog 69 4 (.agg #[.int .i64 0,.int .i64 0,.int .i64 0,.int .i64 0]) 32:=by unfold TI;kernel_rfl
theorem PV:Im Tryz.prog 69 0 0=true:=by kernel_rfl
theorem Fd:Im Tryz.prog 69 1 1=true:=by kernel_rfl
theorem EJ:Im Tryz.prog 69 2 2=true:=by kernel_rfl
theorem PW:Im Tryz.prog 69 3 3=true:=by kernel_rfl
theorem U9:Im Tryz.prog 129 0 0=true:=by kernel_rfl
theorem GU:Im Tryz.prog 129 1 1=true:=by kernel_rfl
theorem Ed:Im Tryz.prog 129 2 5=true:=by kernel_rfl
theorem PX:Im Tryz.prog 129 3 6=true:=by kernel_rfl
theorem Gc:Im Tryz.prog 129 4 7=true:=by kernel_rfl
theorem Fx:Im Tryz.prog 151 0 0=true:=by kernel_rfl
theorem bM:Im Tryz.prog 151 1 1=true:=by kernel_rfl
theorem PY:Im Tryz.prog 151 2 2=true:=by kernel_rfl
theorem bN:Im Tryz.prog 151 3 3=true:=by kernel_rfl
theorem Bi:EA Tryz.prog 153 5=true:=by kernel_rfl
theorem GV:(Tryz.prog.info? 153).map (·.zero)=some (some (.agg #[.int .i64 0,.int .i64 0,.int .i64 0,.int .i64 0,.slice none 0 0])):=by kernel_rfl
theorem BE:TI Tryz.prog 153 5 (.agg #[.int .i64 0,.int .i64 0,.int .i64 0,.int .i64 0,.slice none 0 0]) 56:=by unfold TI;kernel_rfl
theorem Bz:Im Tryz.prog 153 0 0=true:=by kernel_rfl
theorem Co:Im Tryz.prog 153 1 1=true:=by kernel_rfl
theorem EK:Im Tryz.prog 153 2 2=true:=by kernel_rfl
theorem Ee:Im Tryz.prog 153 3 3=true:=by kernel_rfl
theorem Bt:Im Tryz.prog 153 4 4=true:=by kernel_rfl
theorem bO:Im Tryz.prog 187 0 0=true:=by kernel_rfl
theorem PZ:Im Tryz.prog 187 1 1=true:=by kernel_rfl
theorem ME:Im Tryz.prog 187 2 2=true:=by kernel_rfl
theorem Gd:Im Tryz.prog 187 3 3=true:=by kernel_rfl
theorem YI:TI Tryz.prog 208 2 (.agg #[.int .i64 0,.bool false]) 16:=by unfold TI;kernel_rfl
theorem Sd:EA Tryz.prog 249 2=true:=by kernel_rfl
theorem bP:Im Tryz.prog 249 0 0=true:=by kernel_rfl
theorem bQ:Im Tryz.prog 249 1 1=true:=by kernel_rfl
section
set_option maxHeartbeats 4000000
set_option maxRecDepth 100000
attribute [local irreducible] LW
theorem BP (w:World)(n:Int)(low:Int)(high:Int)(_hn:BI n)(_hlow:BI low)(_hhigh:BI high)  :
  Calls Tryz.prog 117 #[zI n,zI low,zI high] w (fun e w'=>e=.returned (.bool (decide (low≤n) && decide (n≤high)))∧w'=w):=by
 refine At [zI n,zI low,zI high] 15 Tryz.func117 Z Z sM ?_
 have a0:w=w:=rfl
 refine qT Z<|qS [0,0,0,0,0,0,0,0,0] Z<|Af 2 Z ?_
 by_cases a1:low≤n
 ·exact FB true Z Z (A7 a1) Ac<|Af 3 Z<|DF (decide (n≤high)) Z Z Z (Ak (e:=10) Z Z Z)<|Ae 2 Z<|A3<|Ah [6] Z (.bool<|decide (n≤high)) Z ⟨AF (by simp[*]),a0⟩
 exact FB false Z Z (A8 a1) Ac<|Ae 6 Z<|A3<|Ah [6] Z (.bool false) Z ⟨AF (by simp[*]),a0⟩
theorem BJ (w:World)(n:Int)(low:Int)(high:Int)(_hn:BI n)(_hlow:BI low)(_hhigh:BI high)  :
  Calls Tryz.prog 74 #[zI n,zI low,zI high] w (fun e w'=>e=.returned (.bool (decide (low≤n) && decide (n≤high)))∧w'=w):=by
 refine At [zI n,zI low,zI high] 15 Tryz.func74 Z Z sM ?_
 have a0:w=w:=rfl
 refine qT Z<|qS [0,0,0,0,0,0,0,0,0] Z<|Af 2 Z ?_
 by_cases a1:low≤n
 ·exact FB true Z Z (A7 a1) Ac<|Af 3 Z<|DF (decide (n≤high)) Z Z Z (Ak (e:=10) Z Z Z)<|Ae 2 Z<|A3<|Ah [6] Z (.bool<|decide (n≤high)) Z ⟨AF (by simp[*]),a0⟩
 exact FB false Z Z (A8 a1) Ac<|Ae 6 Z<|A3<|Ah [6] Z (.bool false) Z ⟨AF (by simp[*]),a0⟩
theorem Db (w:World)(n:Int)(_hn:BI n)  :
  Calls Tryz.prog 232 #[zI n] w (fun e w'=>e=.returned (zI (md n))∧w'=w):=by
 refine At [zI n] 7 Tryz.func232 Z Z sM ?_
 have a0:w=w:=rfl
 exact qT Z<|qS [0,0,0,0,0] Z<|Af 1 Z<|E5 (n.tmod 1000003) Z Z (by decide) Z Ac<|AG (wr ((n.tmod 1000003)+((1000003:Nat):Int))) Z Z Z Ac<|E5 ((wr ((n.tmod 1000003)+((1000003:Nat):Int))).tmod 1000003) Z Z (by decide) Z Ac<|Ae 1 Z<|A3<|Ah [2] Z (zI<|(wr ((n.tmod 1000003)+((1000003:Nat):Int))).tmod 1000003) Z ⟨B5<|fj n,a0⟩
theorem IO (w:World)(a:Int)(b:Int)(_ha:BI a)(_hb:BI b)  :
  Calls Tryz.prog 230 #[zI a,zI b] w (fun e w'=>e=.returned (zI (md (a+b)))∧w'=w):=by
 refine At [zI a,zI b] 11 Tryz.func230 Z Z sM ?_
 have a0:w=w:=rfl
 exact qT Z<|qS [0,0,0,0,0,0,0] Z<|Af 1 Z<|AD 232 [] [] [zI a] Z Z OW Ac (zI<|md a) (fun wq=>Db wq _ _ha)<|Af 1 Z<|AD 232 [] [] [zI b] Z Z OW Ac (zI<|md b) (fun wq=>Db wq _ _hb)<|AG (wr ((md a)+(md b))) Z Z Z Ac<|E5 ((wr ((md a)+(md b))).tmod 1000003) Z Z (by decide) Z Ac<|Ae 1 Z<|A3<|Ah [4] Z (zI<|(wr ((md a)+(md b))).tmod 1000003) Z ⟨B5<|SP a b,a0⟩
theorem KU (w:World)(a:Int)(b:Int)(_ha:BI a)(_hb:BI b)  :
  Calls Tryz.prog 190 #[zI a,zI b] w (fun e w'=>e=.returned (zI (md (a*b)))∧w'=w):=by
 refine At [zI a,zI b] 11 Tryz.func190 Z Z sM ?_
 have a0:w=w:=rfl
 exact qT Z<|qS [0,0,0,0,0,0,0] Z<|Af 1 Z<|AD 232 [] [] [zI a] Z Z OW Ac (zI<|md a) (fun wq=>Db wq _ _ha)<|Af 1 Z<|AD 232 [] [] [zI b] Z Z OW Ac (zI<|md b) (fun wq=>Db wq _ _hb)<|Gl (wr ((md a)*(md b))) Z Z Z Ac<|E5 ((wr ((md a)*(md b))).tmod 1000003) Z Z (by decide) Z Ac<|Ae 1 Z<|A3<|Ah [4] Z (zI<|(wr ((md a)*(md b))).tmod 1000003) Z ⟨B5<|Qp a b,a0⟩
theorem I1 (w:World)(a:Int)(b:Int)(_ha:BI a)(_hb:BI b)  :
  Calls Tryz.prog 191 #[zI a,zI b] w (fun e w'=>e=.returned (zI (md (a-b)))∧w'=w):=by
 refine At [zI a,zI b] 10 Tryz.func191 Z Z sM ?_
 have a0:w=w:=rfl
 exact qT Z<|qS [0,0,0,0,0,0] Z<|Af 2 Z<|AD 232 [] [] [zI b] Z Z OW Ac (zI<|md b) (fun wq=>Db wq _ _hb)<|Cb (wr (((1000003:Nat):Int)-(md b))) Z Z Z Ac<|AD 230 [] [] [zI a,zI<|wr (((1000003:Nat):Int)-(md b))] Z Z YD Ac (zI<|md (a+(wr (((1000003:Nat):Int)-(md b))))) (fun wq=>IO wq _ _ _ha<|P3 _)<|Ae 1 Z<|A3<|Ah [4] Z (zI<|md (a+(wr (((1000003:Nat):Int)-(md b))))) Z ⟨B5<|Vl a b,a0⟩
theorem iN (n:Int)(h:n.tmod 1000003<((0:Nat):Int)):wr (n.tmod 1000003+((1000003:Nat):Int))=md n:=by
  have h1:=Cv n;have h2:=Gn n;have h3:=Cv (-n);have h4:=Gn (-n)
  rw[tm n]at h ⊢
  split at h
  · omega
  · rename_i h0
    rw[if_neg h0,GP zO (by omega)]
    have e1:md (-(md (-n))+((1000003:Nat):Int))=md (-(md (-n))):=Vk _
    rw[Lh,Int.neg_neg,Jv zO (by omega)]at e1
    exact e1
theorem iO (n:Int)(h:¬n.tmod 1000003<((0:Nat):Int)):n.tmod 1000003=md n:=by
  have h1:=Cv n;have h2:=Gn n;have h3:=Cv (-n);have h4:=Gn (-n)
  rw[tm n]at h ⊢
  split
  · rfl
  · rename_i h0
    rw[if_neg h0]at h
    have e0:md (-n)=0:=by omega
    have e1:=Lh (-n)
    rw[e0,Int.neg_neg]at e1
    rw[e0,← e1]
    rfl
theorem YJ {p:Prop}(h:p:=by first|exact B5 (iN n (by assumption))|exact B5 (iO n (by assumption))):p:=h
theorem CN (w:World)(n:Int)(_hn:BI n)  :
  Calls Tryz.prog 132 #[zI n] w (fun e w'=>e=.returned (zI (md n))∧w'=w):=by
 refine At [zI n] 11 Tryz.func132 Z Z sM ?_
 have a0:w=w:=rfl
 refine qT Z<|qS [0,0,0] Z<|Af 1 Z<|E5 (n.tmod 1000003) Z Z (by decide) Z Ac<|Ae 1 Z<|A0<|qS [0,0] Z<|Af 1 Z ?_
 by_cases a1:n.tmod 1000003<((0:Nat):Int)
 ·exact Ay true Z Z (A7 a1) Ac<|Ai<|Ag Z<|Ad _ [0,0,0] Z<|Af 1 Z<|AG (wr ((n.tmod 1000003)+((1000003:Nat):Int))) Z Z Z Ac<|Ae 1 Z<|qS [0,0] Z<|Ae 2 Z<|A3<|Ah [2] Z (zI<|wr ((n.tmod 1000003)+((1000003:Nat):Int))) Z ⟨YJ,a0⟩
 exact Ay false Z Z (A8 a1) Ac<|Ai<|Aj Z<|A4<|qS [0,0] Z<|Ae 2 Z<|A3<|Ah [2] Z (zI<|n.tmod 1000003) Z ⟨YJ,a0⟩
theorem IP (w:World)(a:Int)(b:Int)(_ha:BI a)(_hb:BI b)  :
  Calls Tryz.prog 50 #[zI a,zI b] w (fun e w'=>e=.returned (zI (md (a+b)))∧w'=w):=by
 refine At [zI a,zI b] 11 Tryz.func50 Z Z sM ?_
 have a0:w=w:=rfl
 exact qT Z<|qS [0,0,0,0,0,0,0] Z<|Af 1 Z<|AD 132 [] [] [zI a] Z Z NB Ac (zI<|md a) (fun wq=>CN wq _ _ha)<|Af 1 Z<|AD 132 [] [] [zI b] Z Z NB Ac (zI<|md b) (fun wq=>CN wq _ _hb)<|AG (wr ((md a)+(md b))) Z Z Z Ac<|E5 ((wr ((md a)+(md b))).tmod 1000003) Z Z (by decide) Z Ac<|Ae 1 Z<|A3<|Ah [4] Z (zI<|(wr ((md a)+(md b))).tmod 1000003) Z ⟨B5<|SP a b,a0⟩
theorem Cy (w:World)(a:Int)(b:Int)(_ha:BI a)(_hb:BI b)  :
  Calls Tryz.prog 112 #[zI a,zI b] w (fun e w'=>e=.returned (zI (md (a*b)))∧w'=w):=by
 refine At [zI a,zI b] 11 Tryz.func112 Z Z sM ?_
 have a0:w=w:=rfl
 exact qT Z<|qS [0,0,0,0,0,0,0] Z<|Af 1 Z<|AD 132 [] [] [zI a] Z Z NB Ac (zI<|md a) (fun wq=>CN wq _ _ha)<|Af 1 Z<|AD 132 [] [] [zI b] Z Z NB Ac (zI<|md b) (fun wq=>CN wq _ _hb)<|Gl (wr ((md a)*(md b))) Z Z Z Ac<|E5 ((wr ((md a)*(md b))).tmod 1000003) Z Z (by decide) Z Ac<|Ae 1 Z<|A3<|Ah [4] Z (zI<|(wr ((md a)*(md b))).tmod 1000003) Z ⟨B5<|Qp a b,a0⟩
theorem JC (w:World)(a:Int)(_ha:BI a)(hneg:0≤a) :
  Calls Tryz.prog 83 #[zI a] w (fun e w'=>e=.returned (zI (md (-a)))∧w'=w):=by
 refine At [zI a] 6 Tryz.func83 Z Z sM ?_
 have a0:w=w:=rfl
 exact qT Z<|qS [0,0,0,0] Z<|Af 1 Z<|jD (wr (-a)) Z Z Ac<|AD 132 [] [] [zI<|wr (-a)] Z Z NB Ac (zI<|md<|wr (-a)) (fun wq=>CN wq _<|P3 _)<|Ae 1 Z<|A3<|Ah [2] Z (zI<|md<|wr (-a)) Z ⟨B5 (by rw[GP oM oM]),a0⟩
theorem Ih (w:World)(a:Int)(b:Int)(_ha:BI a)(_hb:BI b)(hs:-9223372036854775808≤a-b∧a-b≤9223372036854775807) :
  Calls Tryz.prog 223 #[zI a,zI b] w (fun e w'=>e=.returned (zI (md (a-b)))∧w'=w):=by
 refine At [zI a,zI b] 9 Tryz.func223 Z Z sM ?_
 have a0:w=w:=rfl
 exact qT Z<|qS [0,0,0,0,0] Z<|Af 2 Z<|Cb (wr (a-b)) Z Z Z Ac<|AD 132 [] [] [zI<|wr (a-b)] Z Z NB Ac (zI<|md<|wr (a-b)) (fun wq=>CN wq _<|P3 _)<|Ae 1 Z<|A3<|Ah [4] Z (zI<|md<|wr (a-b)) Z ⟨B5 (by rw[GP hs.1 hs.2]),a0⟩
theorem Q0 {p:Prop}(h:p:=by exact⟨zO,by first|exact fm hI.2 oM (by assumption)|exact Zu hI.2 oM (by assumption)⟩):p:=h
theorem Q3 (w:World)(a:Int)(n:Int)(_ha:BI a)(_hn:BI n)  :
  Calls Tryz.prog 224 #[zI a,zI n] w (fun e w'=>e=.returned (zI (pw a n))∧w'=w):=by
 refine At [zI a,zI n] 25 Tryz.func224 Z Z sM ?_
 have a0:w=w:=rfl
 refine qT Z<|A0<|qS [0,0] Z<|Af 1 Z ?_
 by_cases a2:n<((0:Nat):Int)
 ·exact Ay true Z Z (A7 a2) Ac<|Ai<|Ag Z<|qT Z<|A3<|Ap<|Ah [4] Z (zI ((0:Nat):Int)) Z ⟨B5<|Vn (by assumption),a0⟩
 refine Ay false Z Z (A8 a2) Ac<|Ai<|Aj Z<|A4<|qT Z<|qS [0,0,0] Z<|Af 1 Z<|AD 132 [] [] [zI a] Z Z NB Ac (zI<|md a) (fun wq=>CN wq _ _ha)<|Ae 1 Z<|A0<|A5 ?_
 refine AQ (S:=Int×Int×Int) (fun⟨m,x,b⟩=>([(1,zI m),(5,zI x),(6,zI b)])) (fun⟨m,x,b⟩ W=>W=w∧(0≤m∧md (x*b ^ m.toNat)=md (a ^ n.toNat))∧m≤9223372036854775807∧(0≤x∧x<1000003)∧(0≤b∧b<1000003)) (fun⟨m,x,b⟩=>m.toNat) (n,((1:Nat):Int),md a) ⟨rfl,rfl,rfl,trivial⟩ ⟨a0,(by exact⟨zO,Qq a n.toNat⟩),oM,oM,(by exact BU _)⟩ ?_
 clear a0
 rintro⟨m,x,b⟩ ρ3 w3 ⟨a1,hI,hm,hx,hb⟩
 refine A0<|qS [0,0] Z<|Af 1 Z ?_
 by_cases a3:((0:Nat):Int)<m
 ·refine C9 true Z Z (A7 a3) Ac<|Ai<|Ag Z<|A4<|A5<|A0<|qS [0,0,0] Z<|Af 1 Z<|E5 (m % 2) Z Z (by decide) (qW hI.1) Ac ?_
  by_cases a4:m % 2=((1:Nat):Int)
  ·refine Av true Z Z (A7 a4) Ac<|Ai<|Ag Z<|Ad _ [0,0,0,0] Z<|Af 2 Z<|AD 112 [] [] [zI x,zI b] Z Z JA Ac (zI<|md (x*b)) (fun wq=>Cy wq _ _ oM oM)<|Ae 1 Z<|qS [0,0,0,0] Z<|Af 2 Z<|AD 112 [] [] [zI b,zI b] Z Z JA Ac (zI<|md (b*b)) (fun wq=>Cy wq _ _ oM oM)<|Ae 1 Z<|Ad _ [0,0,0] Z<|Af 1 Z<|SG (m / 2) Z Z (by decide) (nR hI.1 hm) Ac<|Ae 1 Z ?_
   exact⟨(m / 2,md (x*b),md (b*b)),_,rfl,zR,⟨a1,Q0,oM,(by first|exact hx|exact BU _),(by exact BU _)⟩,zD⟩
  exact Av false Z Z (A8 a4) Ac<|Ai<|Aj Z<|A4<|qS [0,0,0,0] Z<|Af 2 Z<|AD 112 [] [] [zI b,zI b] Z Z JA Ac (zI<|md (b*b)) (fun wq=>Cy wq _ _ oM oM)<|Ae 1 Z<|Ad _ [0,0,0] Z<|Af 1 Z<|SG (m / 2) Z Z (by decide) (nR hI.1 hm) Ac<|Ae 1 Z ⟨(m / 2,x,md (b*b)),_,rfl,zR,⟨a1,Q0,oM,(by first|exact hx|exact BU _),(by exact BU _)⟩,zD⟩
 exact C9 false Z Z (A8 a3) Ac<|Ai<|Aj Z<|A6<|Au<|Au<|An<|qS [0,0] Z<|Ae 2 Z<|A3<|Ah [4] Z (zI x) Z ⟨B5<|Vm hI.2 hI.1 (by assumption) (by assumption) hx,a1⟩
theorem Q4 (w:World)(a:Int)(n:Int)(_ha:BI a)(_hn:BI n)  :
  Calls Tryz.prog 257 #[zI a,zI n] w (fun e w'=>e=.returned (zI (pw a n))∧w'=w):=by
 refine At [zI a,zI n] 27 Tryz.func257 Z Z sM ?_
 have a0:w=w:=rfl
 refine qT Z<|A0<|qS [0,0] Z<|Af 1 Z ?_
 by_cases a2:n<((0:Nat):Int)
 ·exact Ay true Z Z (A7 a2) Ac<|Ai<|Ag Z<|qT Z<|A3<|Ap<|Ah [4] Z (zI ((0:Nat):Int)) Z ⟨B5<|Vn (by assumption),a0⟩
 refine Ay false Z Z (A8 a2) Ac<|Ai<|Aj Z<|A4<|qT Z<|A0<|qS [0,0,0] Z<|Af 1 Z<|AD 232 [] [] [zI a] Z Z OW Ac (zI<|md a) (fun wq=>Db wq _ _ha)<|Ae 1 Z<|A5 ?_
 refine AQ (S:=Int×Int×Int) (fun⟨m,x,b⟩=>([(1,zI m),(5,zI x),(6,zI b)])) (fun⟨m,x,b⟩ W=>W=w∧(0≤m∧md (x*b ^ m.toNat)=md (a ^ n.toNat))∧m≤9223372036854775807∧(0≤x∧x<1000003)∧(0≤b∧b<1000003)) (fun⟨m,x,b⟩=>m.toNat) (n,((1:Nat):Int),md a) ⟨rfl,rfl,rfl,trivial⟩ ⟨a0,(by exact⟨zO,Qq a n.toNat⟩),oM,oM,(by exact BU _)⟩ ?_
 clear a0
 rintro⟨m,x,b⟩ ρ3 w3 ⟨a1,hI,hm,hx,hb⟩
 refine A0<|qS [0,0] Z<|Af 1 Z ?_
 by_cases a3:((0:Nat):Int)<m
 ·refine C9 true Z Z (A7 a3) Ac<|Ai<|Ag Z<|A4<|A0<|A5<|A0<|qS [0,0,0] Z<|Af 1 Z<|E5 (m % 2) Z Z (by decide) (qW hI.1) Ac ?_
  by_cases a4:m % 2=((1:Nat):Int)
  ·refine Av true Z Z (A7 a4) Ac<|Ai<|Ag Z<|Ad _ [0,0,0,0,0] Z<|Af 2 Z<|Gl (wr (x*b)) Z Z Z Ac<|E5 (md (x*b)) Z Z (by decide) (Qr hx hb) Ac<|Ae 1 Z<|Ad _ [0,0,0,0,0] Z<|Af 2 Z<|Gl (wr (b*b)) Z Z Z Ac<|E5 (md (b*b)) Z Z (by decide) (Qr hb hb) Ac<|Ae 1 Z<|Ad _ [0,0,0] Z<|Af 1 Z<|SG (m / 2) Z Z (by decide) (nR hI.1 hm) Ac<|Ae 1 Z ?_
   exact⟨(m / 2,md (x*b),md (b*b)),_,rfl,zR,⟨a1,Q0,oM,(by first|exact hx|exact BU _),(by exact BU _)⟩,zD⟩
  exact Av false Z Z (A8 a4) Ac<|Ai<|Aj Z<|A4<|Ad _ [0,0,0,0,0] Z<|Af 2 Z<|Gl (wr (b*b)) Z Z Z Ac<|E5 (md (b*b)) Z Z (by decide) (Qr hb hb) Ac<|Ae 1 Z<|Ad _ [0,0,0] Z<|Af 1 Z<|SG (m / 2) Z Z (by decide) (nR hI.1 hm) Ac<|Ae 1 Z ⟨(m / 2,x,md (b*b)),_,rfl,zR,⟨a1,Q0,oM,(by first|exact hx|exact BU _),(by exact BU _)⟩,zD⟩
 exact C9 false Z Z (A8 a3) Ac<|Ai<|Aj Z<|A6<|Au<|Au<|An<|qS [0,0] Z<|Ae 2 Z<|A3<|Ah [4] Z (zI x) Z ⟨B5<|Vm hI.2 hI.1 (by assumption) (by assumption) hx,a1⟩
theorem H7 (w:World)(a:Int)(_ha:BI a)  :
  Calls Tryz.prog 163 #[zI a] w (fun e w'=>e=.returned (zI (inv a))∧w'=w):=by
 refine At [zI a] 5 Tryz.func163 Z Z sM ?_
 have a0:w=w:=rfl
 exact qT Z<|qS [0,0,0] Z<|Af 1 Z<|AD 224 [] [] [zI a,zI ((1000001:Nat):Int)] Z Z mB Ac (zI<|pw a ((1000001:Nat):Int)) (fun wq=>Q3 wq _ _ _ha oM)<|Ae 1 Z<|A3<|Ah [2] Z (zI<|pw a ((1000001:Nat):Int)) Z ⟨rfl,a0⟩
theorem IQ (w:World)(a:Int)(_ha:BI a)  :
  Calls Tryz.prog 226 #[zI a] w (fun e w'=>e=.returned (zI (inv a))∧w'=w):=by
 refine At [zI a] 5 Tryz.func226 Z Z sM ?_
 have a0:w=w:=rfl
 exact qT Z<|qS [0,0,0] Z<|Af 1 Z<|AD 257 [] [] [zI a,zI ((1000001:Nat):Int)] Z Z mN Ac (zI<|pw a ((1000001:Nat):Int)) (fun wq=>Q4 wq _ _ _ha oM)<|Ae 1 Z<|A3<|Ah [2] Z (zI<|pw a ((1000001:Nat):Int)) Z ⟨rfl,a0⟩
theorem Ii (w:World)(n:Int)(_hn:BI n)  :
  Calls Tryz.prog 170 #[zI n] w (fun e w'=>e=.returned (.bool (JX n))∧w'=w):=by
 refine At [zI n] 5 Tryz.func170 Z Z sM ?_
 have a0:w=w:=rfl
 exact qT Z<|qS [0,0,0] Z<|Af 1 Z<|AD 117 [] [] [zI n,zI ((0:Nat):Int),zI ((1000002:Nat):Int)] Z Z GT Ac (.bool (decide (((0:Nat):Int)≤n) && decide (n≤((1000002:Nat):Int)))) (fun wq=>BP wq _ _ _ _hn oM oM)<|Ae 1 Z<|A3<|Ah [2] Z (.bool (decide (((0:Nat):Int)≤n) && decide (n≤((1000002:Nat):Int)))) Z ⟨AF (by unfold JX;rfl),a0⟩
theorem HA (w:World)(n:Int)(_hn:BI n)  :
  Calls Tryz.prog 220 #[zI n] w (fun e w'=>e=.returned (.bool (JX n))∧w'=w):=by
 refine At [zI n] 5 Tryz.func220 Z Z sM ?_
 have a0:w=w:=rfl
 exact qT Z<|qS [0,0,0] Z<|Af 1 Z<|AD 74 [] [] [zI n,zI ((0:Nat):Int),zI ((1000002:Nat):Int)] Z Z Jl Ac (.bool (decide (((0:Nat):Int)≤n) && decide (n≤((1000002:Nat):Int)))) (fun wq=>BJ wq _ _ _ _hn oM oM)<|Ae 1 Z<|A3<|Ah [2] Z (.bool (decide (((0:Nat):Int)≤n) && decide (n≤((1000002:Nat):Int)))) Z ⟨AF (by unfold JX;rfl),a0⟩
theorem Jm (w:World)(n:Int)(_hn:BI n)  :
  Calls Tryz.prog 169 #[zI n] w (fun e w'=>e=.returned (.bool (!JX n))∧AB w w'):=by
 refine At [zI n] 6 Tryz.func169 Z Z sM ?_
 have a0:AB w w:=AB.refl w
 exact qT Z<|qS [0,0,0,0] Z<|Af 1 Z<|AD 170 [] [] [zI n] Z Z dV Ac (.bool<|JX n) (fun wq=>Ii wq _ _hn)<|BH (!(JX n)) Z Z Ac<|Ae 1 Z<|A3<|Ah [2] Z (.bool (!(JX n))) Z ⟨rfl,a0⟩
def Se {α:Type}(p:α→Bool)(l:List α):Int:=if l.any p then((l.findIdx p:Nat):Int)else -1
theorem Sf {α:Type}{p:α→Bool}{l:List α}{k:Nat}(d:α)(h:∀j,j<k→p (l.getD j d)=false)(hk:k<l.length)(hp:p (l.getD k d)=true):((k:Nat):Int)=Se p l:=by
  have e:∀j,(hj:j<l.length)→l.getD j d=l[j]:=fun j hj=>by simp[hj]
  have h1:l.any p=true:=List.any_eq_true.2 ⟨l[k],List.getElem_mem hk,by rw[← e k hk];exact hp⟩
  have h2:l.findIdx p=k:=by
    rw[List.findIdx_eq hk]
    refine⟨by rw[← e k hk];exact hp,fun j hj=>?_⟩
    have:=h j hj
    rw[e j (by omega)]at this
    exact this
  unfold Se;rw[if_pos h1,h2]
theorem YK {α:Type}{p:α→Bool}{l:List α}{k:Nat}(d:α)(h:∀j,j<k→p (l.getD j d)=false)(hk:l.length≤k):(-1:Int)=Se p l:=by
  have h1:l.any p=false:=by
    rw[List.any_eq_false]
    intro x hx
    obtain⟨j,hj,rfl⟩:=List.getElem_of_mem hx
    have:=h j zO
    have e:l.getD j d=l[j]:=by simp[hj]
    rw[e]at this
    simp[this]
  unfold Se;rw[h1];rfl
theorem YL {α:Type}(p:α→Bool)(l:List α):decide (((0:Nat):Int)≤Se p l)=l.any p:=by
  unfold Se
  split
  · rename_i h;rw[h];exact A7 zO
  · rename_i h;rw[Bool.not_eq_true]at h;rw[h];exact A8 zO
theorem Q5 {α:Type}{p:α→Bool}{l:List α}{k:Nat}{d:α}(h:∀j,j<k→p (l.getD j d)=false)(hp:p (l.getD k d)=false):∀j,j<k+1→p (l.getD j d)=false:=by
  intro j hj
  by_cases e:j=k
  · subst e;exact hp
  · exact h j zO
theorem Eu (w:World) (va:Value) (a:Sr) (q:Nat) (qf qc:List Value) (p:Int→Bool) (ha:Rd (B3 rI) w.heap va a) (hcf_q:((Tryz.prog.funcs[q]?).map fun fn=>(fn.name != "runtime.NumGoroutine") && fn.body.isSome) = some true) (hp:∀ (x:Int),BI x→∀ w1,AB w w1→Calls Tryz.prog q (qf++[Value.int .i64 x]++qc).toArray w1 (fun e w2=>e = .returned (.bool (p x))∧AB w1 w2))  :
  Calls Tryz.prog 225 #[va,.func (.func q) qf.toArray qc.toArray] w (fun e w'=>e = .returned (zI (Se p a))∧AB w w'):=by
 refine At [va,.func (.func q) qf.toArray qc.toArray] 19 Tryz.func225 Z Z sM ?_
 have a3:AB w w:=AB.refl w
 have aa:=ha.lenle
 refine qT Z<|A0<|qS [0,0,0] Z<|Af 1 Z<|AN (v:=va) Bm Z ha.isSl Ac<|Ae 1 Z<|A5 ?_
 refine AQ (S:=Nat) (fun k=>([(8,zI ((k :Nat):Int)),(0,va),(1,.func (.func q) qf.toArray qc.toArray),(7,zI ((a.length :Nat):Int))])) (fun k W=>AB w W∧k≤a.length∧(∀ j,j < k→p (a.getD j 0) = false)) (fun k=>a.length - k) 0 ⟨rfl,rfl,rfl,rfl,trivial⟩ ⟨a3,sD,(by intro j hj; omega)⟩ ?_
 clear a3
 rintro k ρ1 w1 ⟨a1,a4,hq⟩
 have a7:w.heap.size≤w1.heap.size:=a1.size
 refine qS [0] Z ?_
 by_cases a5:((k :Nat):Int) < ((a.length :Nat):Int)
 ·
  refine Ay true Z Z (A7 a5) Ac<|Ai<|A0<|Ag Z<|A4<|A0<|A5<|qS [0,0] Z<|Ae 2 Z<|qS [0,0,0,0,2,3] Z<|Af 3 Z<|Aw (v:=va) k Bm BM Z Z ha.isSl Z sD Ac ?_
  refine Al (p:=Ax va k 1) (.inr Z) (zI<|a.getD k 0) AO Z (AR a1 (ha.getI sD).1) Ac ?_
  have a0:=hp (a.getD k 0) (ha.getI sD).2 _ a1
  refine As q qf qc _ Z Z hcf_q Ac a0 ?_
  rintro e3 w3 ⟨rfl,a2⟩
  refine ⟨_,rfl,a2,?_⟩
  have a8:=a2.size
  have a6:=a1.trans a2
  cases a9:p (a.getD k 0)
  ·
   refine Ai<|Aj Z<|A4<|Ad _ [0,0] Z<|AG ((k + 1 :Nat):Int) Z Z (Bd oM sD) Ac<|Ae 1 Z ?_
   exact ⟨k + 1,_,rfl,zR,⟨a6,sD,(by exact Q5 hq (by assumption))⟩,by first | omega | (dsimp only; omega)⟩
  
  exact Ai<|Ag Z<|qS [0,0] Z<|Ae 2 Z<|A3<|AK<|Ap<|Ap<|AK<|Ap<|Ah [4] Z (zI ((k :Nat):Int)) Z ⟨B5<|Sf 0 hq oM (by assumption),a6⟩
 
 exact Ay false Z Z (A8 a5) Ac<|Ai<|A0<|Aj Z<|A6<|Au<|Au<|An<|qT Z<|A3<|Ah [4] Z (zI (-1)) Z ⟨B5<|YK 0 hq oM,a1⟩
theorem E3 (w:World) (va:Value) (a:Sr) (q:Nat) (qf qc:List Value) (p:Int→Bool) (ha:Rd (B3 rI) w.heap va a) (hcf_q:((Tryz.prog.funcs[q]?).map fun fn=>(fn.name != "runtime.NumGoroutine") && fn.body.isSome) = some true) (hp:∀ (x:Int),BI x→∀ w1,AB w w1→Calls Tryz.prog q (qf++[Value.int .i64 x]++qc).toArray w1 (fun e w2=>e = .returned (.bool (p x))∧AB w1 w2))  :
  Calls Tryz.prog 168 #[va,.func (.func q) qf.toArray qc.toArray] w (fun e w'=>e = .returned (.bool (a.any p))∧AB w w'):=by
 refine At [va,.func (.func q) qf.toArray qc.toArray] 9 Tryz.func168 Z Z sM ?_
 have a0:AB w w:=AB.refl w
 have a4:=ha.lenle
 refine qT Z<|qS [0,0,3,0,0] Z<|Af 2 Z<|As 225 [] [] [va,.func (.func q) qf.toArray qc.toArray] Z Z mC Ac (Eu _ _ _ q qf qc p (ha.ext g1 a0) hcf_q fun x hx w1 hw=>hp x hx w1<|a0.trans hw) ?_
 rintro e1 w1 ⟨rfl,a1⟩
 refine ⟨_,rfl,a1,?_⟩
 have a2:=a1.size
 have a3:=a0.trans a1
 exact FB (decide (((0 :Nat):Int)≤Se p a)) Z Z Z Ac<|Ae 1 Z<|A3<|Ah [4] Z (.bool<|decide (((0 :Nat):Int)≤Se p a)) Z ⟨AF<|YL p a,a3⟩
theorem EL (w:World)(va:Value)(a:Sr)(count:Int)(ha:Rd (B3 rI) w.heap va a)(_hcount:BI count)  :
  Calls Tryz.prog 86 #[va,zI count] w (fun e w'=>e=.returned (.bool (decide ((a.length:Int)=count) && B9 a))∧AB w w'):=by
 refine At [va,zI count] 14 Tryz.func86 Z Z sM ?_
 have a0:AB w w:=AB.refl w
 have a5:=ha.lenle
 refine qT Z<|qS [0,0,0,0,0,0,3,0,0,0] Z<|Af 1 Z<|AN (v:=va) Bm Z ha.isSl Ac<|Af 1 Z ?_
 by_cases a2:(a.length:Int)=count
 ·refine Av true Z Z (A7 a2) Ac<|Af 2 Z<|As 168 [] [] [va,.func (.func 169) #[] #[]] Z Z lM (Ak (e:=9) Z Z Z) (E3 _ _ _ 169 [] [] (fun x=>!JX x) (ha.ext g1 a0) lN fun x hx w1 hw=>Jm w1 x hx) ?_
  rintro e2 w2 ⟨rfl,a1⟩
  refine⟨_,rfl,a1,?_⟩
  have a3:=a1.size
  have a4:=a0.trans a1
  exact BH (!(a.any fun x=>!JX x)) Z Z (Ak (e:=9) Z Z Z)<|Ae 2 Z<|A3<|Ah [4] Z (.bool (!(a.any fun x=>!JX x))) Z ⟨AF (by first|(rw[SR];simp[*];done)|simp[*]),a4⟩
 exact Av false Z Z (A8 a2) Ac<|Ae 6 Z<|A3<|Ah [4] Z (.bool false) Z ⟨AF (by first|(rw[SR];simp[*];done)|simp[*]),a0⟩
theorem KV (w:World)(va:Value)(a:Sr)(ha:Rd (B3 rI) w.heap va a)  :
  Calls Tryz.prog 157 #[va] w (fun e w'=>e=.returned (.bool (B9 a))∧AB w w'):=by
 refine At [va] 16 Tryz.func157 Z Z sM ?_
 have a1:AB w w:=AB.refl w
 have a6:=ha.lenle
 refine qT Z<|A0<|qT Z<|A5<|AQ (S:=Nat) (fun k=>([(3,zI (k:Int)),(0,va)])) (fun k W=>AB w W∧k≤a.length∧((a.take k).all JX=true)) (fun k=>a.length-k) 0 ⟨rfl,rfl,trivial⟩ ⟨a1,sD,(by exact Vo _ _)⟩ ?_
 clear a1
 rintro k ρ1 w1 ⟨a0,a2,hq⟩
 have a5:w.heap.size≤w1.heap.size:=a0.size
 refine A0<|qS [0,0,0,0] Z<|Af 2 Z<|AN (v:=va) Bm Z ha.isSl Ac ?_
 by_cases a3:(k:Int)<(a.length:Int)
 ·refine Ay true Z Z (A7 a3) Ac<|Ai<|Ag Z<|A4<|A0<|A5<|qS [0,0,0,2,0,0] Z<|Af 2 Z<|Aw (v:=va) k Bm BM Z Z ha.isSl Z sD Ac ?_
  refine Al (p:=Ax va k 1) (.inr Z) (zI<|a.getD k 0) AO Z (AR a0 (ha.getI sD).1) Ac ?_
  refine AD 220 [] [] [zI<|a.getD k 0] Z Z dZ Ac (.bool<|JX<|a.getD k 0) (fun wq=>HA wq _ (ha.getI sD).2)<|BH (!(JX<|a.getD k 0)) Z Z Ac<|Ai ?_
  cases a4:(!(JX (a.getD k 0)))
  ·refine Aj (by first|rfl|exact zW a4)<|A4<|Ad _ [0,0,0] Z<|Af 1 Z<|AG ((k+1:Nat):Int) Z Z (Bd oM sD) Ac<|Ae 1 Z ?_
   exact⟨k+1,_,rfl,⟨rfl,rfl,trivial⟩,⟨a0,sD,(by exact MU 0 hq oM (by simpa using ‹(!JX (a.getD k 0))=false›))⟩,zD⟩
  exact Ag (by first|rfl|exact zW a4)<|qT Z<|A3<|AK<|Ap<|Ap<|AK<|Ap<|Ah [2] Z (.bool false) Z ⟨AF (Kt (k:=k) 0 oM (by simpa using ‹(!JX (a.getD k 0))=true›)).symm,a0⟩
 exact Ay false Z Z (A8 a3) Ac<|Ai<|Aj Z<|A6<|Au<|Au<|An<|qT Z<|A3<|Ah [2] Z (.bool true) Z ⟨AF (MV hq oM).symm,a0⟩
theorem Fy (w:World)(va:Value)(a:Sr)(ha:Rd (B3 rI) w.heap va a)(hla:a.length≤1000000000000) :
  Calls Tryz.prog 143 #[va] w (fun e w'=>∃v0:Value,e=.returned (v0)∧AB w w'∧Fr (AY rI 2) w.heap.size w'.heap.size w'.heap v0 a):=by
 refine At [va] 6 Tryz.func143 Z Z sM ?_
 have a3:AB w w:=AB.refl w
 have ab:=ha.lenle
 refine qT Z<|qS [3,0,4,0] Z (BS (rI) AS Bm BM Ac fun v1 w1 a1 aa a4=>?_)
 have a5:=a1.size
 have a0:=a3.trans a1
 refine Af 1 Z (Ey (v:=v1) (a:=va) Bm BM Z Z Z a4 a0.size (ha.ext g1 a0) sD (by unfold maxLen;first|omega|assumption|(simp;done)|(simp;omega)) Ac fun v2 w2 F2 a2 a6 a7=>?_)
 have a8:AB w w2:=a2.below a0 (fun c hc=>Aa (A9 _) (a6 c hc).1) a0.size
 have a9:=a2.size
 exact Ae 1 Z<|A3<|Ah [2] Z v2 Z ⟨v2,rfl,a8,a7.up o1⟩
theorem JD (w:World)(va:Value)(a:List (Sr))(ha:Rd (B3 (B3 rI)) w.heap va a)(hla:a.length≤1000000000000)(hlr:∀k,(a.getD k []).length≤1000000000000) :
  Calls Tryz.prog 161 #[va] w (fun e w'=>∃v0:Value,e=.returned (v0)∧AB w w'∧Fr (AY (AY rI 2) 27) w.heap.size w'.heap.size w'.heap v0 a):=by
 refine At [va] 21 Tryz.func161 Z Z sM ?_
 have ab:AB w w:=AB.refl w
 have ay:=ha.lenle
 refine qT Z<|qS [3,0] Z (BS (AY rI 2) o1 Bn AU Ac fun v1 w1 a6 aj ac=>?_)
 have a7:=a6.size
 have ad:=ab.trans a6
 refine Ae 1 Z<|A0<|qT Z<|A5<|AQ (S:=Nat×Value) (fun⟨k,vo⟩=>([(3,vo),(4,zI (k:Int)),(0,va)])) (fun⟨k,vo⟩ W=>AB w W∧Fr (AY (AY rI 2) 27) w.heap.size W.heap.size W.heap vo (a.take k)∧k≤a.length) (fun⟨k,vo⟩=>a.length-k) (0,v1) ⟨rfl,rfl,rfl,trivial⟩ ⟨ad,ac.up o2,sD⟩ ?_
 clear ab ac aj a6 a7 ad
 rintro⟨k,vo⟩ ρ2 w2 ⟨a3,a2,ae⟩
 have ak:w.heap.size≤w2.heap.size:=a3.size
 refine A0<|qS [0,0,0,0] Z<|Af 2 Z<|AN (v:=va) Bn Z ha.isSl Ac ?_
 by_cases af:(k:Int)<(a.length:Int)
 ·refine Ay true Z Z (A7 af) Ac<|Ai<|Ag Z<|A4<|A0<|A5<|Ad _ [0,0,0,0,2,3,3,4,0] Z<|Af 3 Z<|Aw (v:=va) k Bn AU Z Z ha.isSl Z sD Ac ?_
  obtain⟨ag,al,ah⟩:=ha.get (k:=k) [] sD
  have am:=ah.lenle
  refine Al (p:=Ax va k 1) (.inr Z) ag B7 Z (AR a3 al) Ac<|As 143 [] [] [ag] Z Z TZ Ac (Fy _ _ _ (ah.ext g1 a3) (by exact hlr _)) ?_
  rintro e5 w5 ⟨a8,rfl,a5,a4⟩
  refine⟨_,rfl,a5,?_⟩
  have an:=a5.size
  have ao:=a3.trans a5
  have a0:=a2.ext (o2) a5
  refine Bs (u:=a8) (B:=w2.heap.size) o1 Bn AU Z Z a4 (by first|exact A9 _|omega) Ac fun v6 w6 a9 ax ap=>?_
  have aq:=a9.size
  have aa:=ao.trans a9
  have a1:=a0.ext (o2) a9
  refine Ez o1 (v:=vo) (a:=v6) Bn AU Z Z Z a1 aa.size ap oM a3.size sD (by unfold maxLen;first|omega|assumption|(simp;done)|(simp;omega)) Ac fun v7 w7 F7 ai ar au=>?_
  have av:AB w w7:=ai.below aa (fun c hc=>Aa (A9 _) (ar c hc).1) aa.size
  have aw:=ai.size
  refine Ae 1 Z<|Ad _ [0,0,0] Z<|Af 1 Z<|AG ((k+1:Nat):Int) Z Z (Bd oM sD) Ac<|Ae 1 Z ?_
  exact⟨(k+1,v7),_,rfl,zR,⟨av,(by rw[Cp [] oM];exact au.up o2),sD⟩,zD⟩
 exact Ay false Z Z (A8 af) Ac<|Ai<|Aj Z<|A6<|Au<|Au<|An<|qS [0,0] Z<|Ae 2 Z<|A3<|Ah [2] Z vo Z ⟨vo,rfl,a3,(by have h:=a2.up o2;rwa [za oM]at h)⟩
theorem IR (w:World)(va:Value)(a:Sr)(Fa:List Nat)(vb:Value)(b:Sr)(y:Int)(ha:AY rI 2 w.heap va a Fa)(hna:Fa.Nodup)(hb:∀w',Az Fa w w'→Rd (B3 rI) w'.heap vb b)(_hy:BI y)(hl:a.length≤b.length)(hqa:B9 a=true)(hqb:B9 b=true)(hy:0≤y∧y<1000003) :
  Calls Tryz.prog 162 #[va,vb,zI y] w (fun e w'=>e=.returned (.tuple #[])∧Az Fa w w'∧AY rI 2 w'.heap va (OD a b y) Fa):=by
 refine At [va,vb,zI y] 27 Tryz.func162 Z Z sM ?_
 have a2:Az Fa w w:=Az.refl Fa w
 have aa:=ha.lenle
 unfold maxLen at aa
 have ab:=(hb _ a2).lenle
 refine qT Z<|A5 ?_
 refine AQ (S:=Nat) (fun k=>([(6,zI (k:Int)),(0,va),(1,vb),(2,zI y)])) (fun k W=>Az Fa w W∧AY rI 2 W.heap va (CK k (OD a b y) a) Fa∧k≤a.length) (fun k=>a.length-k) 0 ⟨rfl,rfl,rfl,rfl,trivial⟩ ⟨a2,(by first|(rw[D8];exact ha)|(have h:=ha;rw[Ek 0 (HP a b y) (A9 _) oM]at h;unfold OD;rw[G4 Z oM];exact h)),sD⟩ ?_
 clear a2
 rintro k ρ1 w1 ⟨a1,a0,a4⟩
 have a7:w.heap.size≤w1.heap.size:=a1.size
 have hml:=EC k (OD a b y) a<|HP a b y
 have hgb:=Bg hqb k
 have hga:=Bg hqa k
 refine A0<|qS [0,0,0,0] Z<|Af 2 Z<|AN (v:=va) Bm Z (a0.rd id).isSl Ac ?_
 by_cases a5:(k:Int)<(((CK k (OD a b y) a).length:Nat):Int)
 ·refine Ay true Z Z (A7 a5) Ac<|Ai<|Ag Z<|A4<|A0<|A5<|AW _ [0,0,0,0,0,1,0,0,0,0,1,0,0,0,4] mixed (by kernel_rfl)<|Af 4 Z<|Aw (v:=va) k Bm BM Z Z (a0.rd id).isSl Z sD Ac ?_
  refine Al (p:=Ax va k 1) (.inl Z) (zI<|(CK k (OD a b y) a).getD k 0) AO Z ((P6 a0).getI (k:=k) sD).1 Ac (Af 3 Z ?_)
  refine Aw (v:=vb) k Bm BM Z Z (hb _ a1.drew).isSl Z sD Ac ?_
  refine Al (p:=Ax vb k 1) (.inl Z) (zI<|b.getD k 0) AO Z ((hb _ a1.drew).getI sD).1 Ac ?_
  refine AD 112 [] [] [zI y,zI<|b.getD k 0] Z Z JA Ac (zI<|md (y*(b.getD k 0))) (fun wq=>Cy wq _ _ _hy ((hb _ a1.drew).getI sD).2) ?_
  refine AD 223 [] [] [zI<|(CK k (OD a b y) a).getD k 0,zI<|md (y*(b.getD k 0))] Z Z eA Ac (zI<|md (((CK k (OD a b y) a).getD k 0)-(md (y*(b.getD k 0))))) (fun wq=>Ih wq _ _ ((P6 a0).getI (k:=k) sD).2 (DI _) (by have h1:=BU (y*b.getD k 0);rw[Ek 0 (HP a b y) (A9 _) oM];omega)) ?_
  refine Aw (v:=va) k Bm BM Z Z (a0.rd id).isSl Z sD Ac ?_
  refine fa (v:=va) (w:=w1.drew) I0 Z Z (DI _) a0 hna sD Ac fun w5 a3 a9 a6=>?_
  replace a3:=a3.of_drew
  have a8:Az Fa w w5:=a1.trans a3
  refine Ai<|Ad _ [0,0,0] Z<|Af 1 Z<|AG ((k+1:Nat):Int) Z Z (Bd oM sD) Ac<|Ae 1 Z ?_
  exact⟨k+1,_,rfl,zR,⟨a8,(by first|(rw[D8];exact a6)|(have h:=a6;rw[Ek 0 (HP a b y) (A9 _) oM]at h;unfold OD;rw[G4 Z oM];exact h)),sD⟩,zD⟩
 exact Ay false Z Z (A8 a5) Ac<|Ai<|Aj Z<|A6<|Au<|Au<|An<|Iw [] Z (.tuple #[]) Z ⟨rfl,a1,(by have h:=a0;rwa [DS (HP a b y) oM]at h)⟩
theorem FQ (w:World)(va:Value)(a:Sr)(y:Int)(ha:Rd (B3 rI) w.heap va a)(_hy:BI y)(hla:a.length≤1000000000000) :
  Calls Tryz.prog 165 #[va,zI y] w (fun e w'=>∃v0:Value,e=.returned (v0)∧AB w w'∧Fr (AY rI 2) w.heap.size w'.heap.size w'.heap v0 (scl a y)):=by
 refine At [va,zI y] 24 Tryz.func165 Z Z sM ?_
 have a8:AB w w:=AB.refl w
 have an:=ha.lenle
 refine qT Z<|qS [3,0] Z (BS (rI) AS Bm BM Ac fun v1 w1 a3 af a9=>?_)
 have a4:=a3.size
 have aa:=a8.trans a3
 refine Ae 1 Z<|A0<|qT Z<|A5 ?_
 refine AQ (S:=Nat×Value) (fun⟨k,vo⟩=>([(5,vo),(6,zI (k:Int)),(0,va),(1,zI y)])) (fun⟨k,vo⟩ W=>AB w W∧Fr (AY rI 2) w.heap.size W.heap.size W.heap vo ((a.take k).map fun x=>md (x*y))∧k≤a.length) (fun⟨k,vo⟩=>a.length-k) (0,v1) ⟨rfl,rfl,rfl,rfl,trivial⟩ ⟨aa,a9.up o1,sD⟩ ?_
 clear a8 a9 af a3 a4 aa
 rintro⟨k,vo⟩ ρ2 w2 ⟨a2,a1,ab⟩
 have ag:w.heap.size≤w2.heap.size:=a2.size
 refine A0<|qS [0,0,0,0] Z<|Af 2 Z<|AN (v:=va) Bm Z ha.isSl Ac ?_
 by_cases ac:(k:Int)<(a.length:Int)
 ·refine Ay true Z Z (A7 ac) Ac<|Ai<|Ag Z<|A4<|A0<|A5<|Ad _ [0,0,0,0,2,0,0,3,4,0] Z<|Af 3 Z<|Aw (v:=va) k Bm BM Z Z ha.isSl Z sD Ac ?_
  refine Al (p:=Ax va k 1) (.inr Z) (zI<|a.getD k 0) AO Z (AR a2 (ha.getI sD).1) Ac<|Af 1 Z ?_
  refine AD 112 [] [] [zI<|a.getD k 0,zI y] Z Z JA Ac (zI<|md ((a.getD k 0)*y)) (fun wq=>Cy wq _ _ (ha.getI sD).2 _hy) (Bs (u:=zI<|md ((a.getD k 0)*y)) (B:=w2.heap.size) AS Bm BM Z Z (Mf w2.heap.size w2.heap.size _ _<|DI _) (A9 _) Ac fun v5 w5 a5 al ad=>?_)
  have ah:=a5.size
  have a6:=a2.trans a5
  have a0:=a1.ext (o1) a5
  refine Ey (v:=vo) (a:=v5) Bm BM Z Z Z a0 a6.size ad.rd1 sD (by unfold maxLen;first|omega|assumption|(simp;done)|(simp;omega)) Ac fun v6 w6 F6 a7 ae ai=>?_
  have aj:AB w w6:=a7.below a6 (fun c hc=>Aa (A9 _) (ae c hc).1) a6.size
  have ak:=a7.size
  have am:=ad.chg (o1) a7 fun c hc=>zH<|ae c hc
  refine Ae 1 Z<|Ad _ [0,0,0] Z<|Af 1 Z<|AG ((k+1:Nat):Int) Z Z (Bd oM sD) Ac<|Ae 1 Z ?_
  exact⟨(k+1,v6),_,rfl,zR,⟨aj,(by rw[Dq 0 oM];exact ai.up o1),sD⟩,zD⟩
 exact Ay false Z Z (A8 ac) Ac<|Ai<|Aj Z<|A6<|Au<|Au<|An<|qS [0,0] Z<|Ae 2 Z<|A3<|Ah [4] Z vo Z ⟨vo,rfl,a2,(by have h:=a1.up o1;rwa [za oM]at h)⟩
theorem KW (w:World)(va:Value)(a:Sr)(n:Int)(ha:Rd (B3 rI) w.heap va a)(_hn:BI n)  :
  Calls Tryz.prog 73 #[va,zI n] w (fun e w'=>e=.returned (.bool (decide ((a.length:Int)=n) && B9 a))∧AB w w'):=by
 refine At [va,zI n] 13 Tryz.func73 Z Z sM ?_
 have a0:AB w w:=AB.refl w
 have a5:=ha.lenle
 refine qT Z<|qS [0,0,0,0,0,0,3,0,0] Z<|Af 1 Z<|AN (v:=va) Bm Z ha.isSl Ac<|Af 1 Z ?_
 by_cases a2:(a.length:Int)=n
 ·refine Av true Z Z (A7 a2) Ac<|Af 2 Z<|As 157 [] [] [va] Z Z lG (Ak (e:=9) Z Z Z) (KV _ _ _<|ha.ext g1 a0) ?_
  rintro e2 w2 ⟨rfl,a1⟩
  refine⟨_,rfl,a1,?_⟩
  have a3:=a1.size
  have a4:=a0.trans a1
  exact Ae 2 Z<|A3<|Ah [4] Z (.bool<|B9 a) Z ⟨AF (by simp[*]),a4⟩
 exact Av false Z Z (A8 a2) Ac<|Ae 5 Z<|A3<|Ah [4] Z (.bool false) Z ⟨AF (by simp[*]),a0⟩
theorem ND (w:World)(n:Int)(_hn:BI n)  :
  Calls Tryz.prog 87 #[zI n] w (fun e w'=>e=.returned (.bool (decide (((0:Nat):Int)≤n) && decide (n≤((12:Nat):Int))))∧AB w w'):=by
 refine At [zI n] 5 Tryz.func87 Z Z sM ?_
 have a0:AB w w:=AB.refl w
 exact qT Z<|qS [0,0,0] Z<|Af 1 Z<|AD 117 [] [] [zI n,zI ((0:Nat):Int),zI ((12:Nat):Int)] Z Z GT Ac (.bool (decide (((0:Nat):Int)≤n) && decide (n≤((12:Nat):Int)))) (fun wq=>BP wq _ _ _ _hn oM oM)<|Ae 1 Z<|A3<|Ah [2] Z (.bool (decide (((0:Nat):Int)≤n) && decide (n≤((12:Nat):Int)))) Z ⟨rfl,a0⟩
theorem M7 (w:World)(va:Value)(a:Sr)(o:Int)(ha:Rd (B3 rI) w.heap va a)(_ho:BI o)(hla:a.length≤1000000000000)(ho:0≤o∧o≤12) :
  Calls Tryz.prog 93 #[va,zI o] w (fun e w'=>∃v0:Value,e=.returned (v0)∧AB w w'∧Fr (AY (AY rI 2) 27) w.heap.size w'.heap.size w'.heap v0 (a.map (fun x=>(List.replicate (o.toNat+1) 0).set 0 x))):=by
 refine At [va,zI o] 28 Tryz.func93 Z Z sM ?_
 have aa:AB w w:=AB.refl w
 have b1:=ha.lenle
 refine qT Z<|qS [3,0] Z (BS (AY rI 2) o1 Bn AU Ac fun v1 w1 a4 aj ab=>?_)
 have a5:=a4.size
 have ac:=aa.trans a4
 refine Ae 1 Z<|A0<|qS [0,0,0] Z<|Af 1 Z<|AN (v:=va) Bm Z ha.isSl Ac<|Ae 1 Z<|A5 ?_
 refine AQ (S:=Nat×Value) (fun⟨k,vo⟩=>([(5,vo),(12,zI (k:Int)),(1,zI o),(10,va),(11,zI (a.length:Int))])) (fun⟨k,vo⟩ W=>AB w W∧Fr (AY (AY rI 2) 27) w.heap.size W.heap.size W.heap vo ((a.take k).map fun x=>(List.replicate (o.toNat+1) 0).set 0 x)∧k≤a.length) (fun⟨k,vo⟩=>a.length-k) (0,v1) ⟨rfl,rfl,rfl,rfl,rfl,trivial⟩ ⟨ac,ab.up o2,sD⟩ ?_
 clear aa ab aj a4 a5 ac
 rintro⟨k,vo⟩ ρ2 w2 ⟨a2,a1,ad⟩
 have ak:w.heap.size≤w2.heap.size:=a2.size
 refine qS [0] Z ?_
 by_cases ae:(k:Int)<(a.length:Int)
 ·refine Ay true Z Z (A7 ae) Ac<|Ai<|A0<|Ag Z<|A4<|A0<|A5<|qS [0,2,0] Z<|Aw (v:=va) k Bm BM Z Z ha.isSl Z sD Ac ?_
  refine Al (p:=Ax va k 1) (.inr Z) (zI<|a.getD k 0) AO Z (AR a2 (ha.getI sD).1) Ac<|Ae 1 Z<|qS [0,0,3,0] Z<|Af 1 Z<|AG ((o.toNat+1:Nat):Int) Z Z (Bd oM oM) Ac ?_
  refine FM (n:=o.toNat+1) Bm BM Z Z Z sD Ac fun v4 w4 a6 ay af=>?_
  have al:=a6.size
  have ag:=a2.trans a6
  have a0:=a1.ext (o2) a6
  refine Ae 1 Z<|qS [0,0,0,4] Z<|Af 2 Z<|Aw (v:=v4) 0 Bm BM Z Z af.isSl Z sD Ac ?_
  refine EV (v:=v4) (w:=w4) I0 Z Z (ha.getI sD).2 af sD Ac fun w5 F5 a7 az ah am=>?_
  have an:AB w w5:=a7.below ag (fun c hc=>Aa a2.size (ah c hc).1) ag.size
  have ao:=a7.size
  have ap:=a0.chg (o2) a7 fun c hc=>zH<|ah c hc
  refine Ai<|Ad _ [0,0,3,4,0] Z<|Af 2 Z (Bs (u:=v4) (B:=w2.heap.size) o1 Bn AU Z Z am (by first|exact A9 _|omega) Ac fun v7 w7 a8 b0 aq=>?_)
  have ar:=a8.size
  have a9:=an.trans a8
  have a3:=ap.ext (o2) a8
  refine Ez o1 (v:=vo) (a:=v7) Bn AU Z Z Z a3 a9.size aq oM a2.size sD (by unfold maxLen;first|omega|assumption|(simp;done)|(simp;omega)) Ac fun v8 w8 F8 ai au av=>?_
  have aw:AB w w8:=ai.below a9 (fun c hc=>Aa (A9 _) (au c hc).1) a9.size
  have ax:=ai.size
  refine Ae 1 Z<|Ad _ [0,0] Z<|AG ((k+1:Nat):Int) Z Z (Bd oM sD) Ac<|Ae 1 Z ?_
  exact⟨(k+1,v8),_,rfl,zR,⟨aw,(by rw[Dq 0 oM];exact av.up o2),sD⟩,zD⟩
 exact Ay false Z Z (A8 ae) Ac<|Ai<|A0<|Aj Z<|A6<|Au<|Au<|An<|qS [0,0] Z<|Ae 2 Z<|A3<|Ah [4] Z vo Z ⟨vo,rfl,a2,(by have h:=a1.up o2;rwa [za oM]at h)⟩
theorem E9 (w:World)(va:Value)(a:Sr)(y:Int)(ha:Rd (B3 rI) w.heap va a)(_hy:BI y)(hla:a.length≤1000000000000)(hqa:B9 a=true)(hy:0≤y∧y<1000003) :
  Calls Tryz.prog 187 #[va,zI y] w (fun e w'=>∃v0:Value,e=.returned (v0)∧AB w w'∧Fr (AY rI 2) w.heap.size w'.heap.size w'.heap v0 (CX a y)):=by
 refine At [va,zI y] 27 Tryz.func187 Z Z sM ?_
 have a4:AB w w:=AB.refl w
 have ah:=ha.lenle
 refine qT Z<|qS [0,0,3,0] Z<|Af 1 Z<|AN (v:=va) Bm Z ha.isSl Ac (FM (n:=a.length) Bm BM Z Z Z sD Ac fun v1 w1 a2 aa a5=>?_)
 have a3:=a2.size
 have a6:=a4.trans a2
 refine Ae 1 Z<|A0<|qS [0,0,0] Z<|Af 1 Z<|AN (v:=va) Bm Z ha.isSl Ac<|Ae 1 Z<|A5 ?_
 refine AQ (S:=Nat) (fun k=>([(12,zI (k:Int)),(0,va),(1,zI y),(5,v1),(11,zI (a.length:Int))])) (fun k W=>AB w W∧Fr (AY rI 2) w.heap.size W.heap.size W.heap v1 (CK k (CX a y)<|List.replicate a.length 0)∧k≤a.length) (fun k=>a.length-k) 0 ⟨rfl,rfl,rfl,rfl,rfl,trivial⟩ ⟨a6,(by rw[D8];exact a5.up o1),sD⟩ ?_
 clear a4 a5 aa a2 a3 a6
 rintro k ρ2 w2 ⟨a1,a0,a7⟩
 have ab:w.heap.size≤w2.heap.size:=a1.size
 have hml:=EC k (CX a y) (List.replicate a.length 0) sM
 rw[z5]at hml
 have hga:=Bg hqa k
 refine qS [0] Z ?_
 by_cases a8:(k:Int)<(a.length:Int)
 ·refine Ay true Z Z (A7 a8) Ac<|Ai<|A0<|Ag Z<|A4<|A0<|A5<|qS [0,0] Z<|Ae 2 Z<|Ad _ [0,0,0,0,0,2,0,0,0,0,4] Z<|Af 4 Z<|Aw (v:=va) k Bm BM Z Z ha.isSl Z sD Ac ?_
  refine Al (p:=Ax va k 1) (.inr Z) (zI<|a.getD k 0) AO Z (AR a1 (ha.getI sD).1) Ac<|Af 1 Z<|Gl (wr ((a.getD k 0)*y)) Z Z Z Ac<|E5 (md (a.getD k 0*y)) Z Z (by decide) (Qr hga hy) Ac ?_
  refine Aw (v:=v1) k Bm BM Z Z a0.isSl Z sD Ac (EV (v:=v1) (w:=w2) I0 Z Z (DI _) a0 sD Ac fun w4 F4 a9 ag ac ad=>?_)
  have ae:AB w w4:=a9.below a1 (fun c hc=>Aa (A9 _) (ac c hc).1) a1.size
  have af:=a9.size
  refine Ai<|Ad _ [0,0] Z<|AG ((k+1:Nat):Int) Z Z (Bd oM sD) Ac<|Ae 1 Z ?_
  exact⟨k+1,_,rfl,zR,⟨ae,(by unfold CX;rw[G4 sM oM];exact ad.up o1),sD⟩,zD⟩
 exact Ay false Z Z (A8 a8) Ac<|Ai<|A0<|Aj Z<|A6<|Au<|Au<|An<|qS [0,0] Z<|Ae 2 Z<|A3<|Ah [4] Z v1 Z ⟨v1,rfl,a1,(by have h:=a0.up o1;rwa [DS sM (by simp;omega)]at h)⟩
theorem Ge (w:World)(va:Value)(a:Sr)(vb:Value)(b:Sr)(ha:Rd (B3 rI) w.heap va a)(hb:Rd (B3 rI) w.heap vb b)(hla:a.length≤1000000000000)(hl:a.length≤b.length)(hqa:B9 a=true)(hqb:B9 b=true) :
  Calls Tryz.prog 185 #[va,vb] w (fun e w'=>∃v0:Value,e=.returned (v0)∧AB w w'∧Fr (AY rI 2) w.heap.size w'.heap.size w'.heap v0 (EE a b)):=by
 refine At [va,vb] 30 Tryz.func185 Z Z sM ?_
 have a5:AB w w:=AB.refl w
 have ah:=ha.lenle
 have ai:=hb.lenle
 refine qT Z<|qS [0,0,3,0] Z<|Af 1 Z<|AN (v:=va) Bm Z ha.isSl Ac (FM (n:=a.length) Bm BM Z Z Z sD Ac fun v1 w1 a3 aa a6=>?_)
 have a4:=a3.size
 have a7:=a5.trans a3
 refine Ae 1 Z<|A0<|qS [0,0,0] Z<|Af 1 Z<|AN (v:=va) Bm Z ha.isSl Ac<|Ae 1 Z<|A5 ?_
 refine AQ (S:=Nat) (fun k=>([(12,zI (k:Int)),(0,va),(1,vb),(5,v1),(11,zI (a.length:Int))])) (fun k W=>AB w W∧Fr (AY rI 2) w.heap.size W.heap.size W.heap v1 (CK k (EE a b)<|List.replicate a.length 0)∧k≤a.length) (fun k=>a.length-k) 0 ⟨rfl,rfl,rfl,rfl,rfl,trivial⟩ ⟨a7,(by rw[D8];exact a6.up o1),sD⟩ ?_
 clear a5 a6 aa a3 a4 a7
 rintro k ρ2 w2 ⟨a1,a0,a8⟩
 have ab:w.heap.size≤w2.heap.size:=a1.size
 have hml:=EC k (EE a b) (List.replicate a.length 0) sM
 rw[z5]at hml
 have hga:=Bg hqa k
 have hgb:=Bg hqb k
 refine qS [0] Z ?_
 by_cases a9:(k:Int)<(a.length:Int)
 ·refine Ay true Z Z (A7 a9) Ac<|Ai<|A0<|Ag Z<|A4<|A0<|A5<|qS [0,0] Z<|Ae 2 Z<|AW _ [0,0,0,0,0,1,0,0,0,1,0,0,0,4] mixed (by kernel_rfl)<|Af 4 Z<|Aw (v:=va) k Bm BM Z Z ha.isSl Z sD Ac ?_
  refine Al (p:=Ax va k 1) (.inl Z) (zI<|a.getD k 0) AO Z (AR a1.drew (ha.getI sD).1) Ac<|Af 2 Z ?_
  refine Aw (v:=vb) k Bm BM Z Z hb.isSl Z sD Ac ?_
  refine Al (p:=Ax vb k 1) (.inl Z) (zI<|b.getD k 0) AO Z (AR a1.drew (hb.getI sD).1) Ac<|AG (wr ((a.getD k 0)+(b.getD k 0))) Z Z Z Ac<|E5 (md (a.getD k 0+b.getD k 0)) Z Z (by decide) (Zx hga hgb) Ac ?_
  refine Aw (v:=v1) k Bm BM Z Z a0.isSl Z sD Ac (EV (v:=v1) (w:=w2.drew) I0 Z Z (DI _) a0 sD Ac fun w4 F4 a2 ag ac ad=>?_)
  replace a2:=a2.of_drew
  have ae:AB w w4:=a2.below a1 (fun c hc=>Aa (A9 _) (ac c hc).1) a1.size
  have af:=a2.size
  refine Ai<|Ad _ [0,0] Z<|AG ((k+1:Nat):Int) Z Z (Bd oM sD) Ac<|Ae 1 Z ?_
  exact⟨k+1,_,rfl,zR,⟨ae,(by unfold EE;rw[G4 sM oM];exact ad.up o1),sD⟩,zD⟩
 exact Ay false Z Z (A8 a9) Ac<|Ai<|A0<|Aj Z<|A6<|Au<|Au<|An<|qS [0,0] Z<|Ae 2 Z<|A3<|Ah [4] Z v1 Z ⟨v1,rfl,a1,(by have h:=a0.up o1;rwa [DS sM (by simp;omega)]at h)⟩
theorem GA (w:World)(va:Value)(a:Sr)(vb:Value)(b:Sr)(ha:Rd (B3 rI) w.heap va a)(hb:Rd (B3 rI) w.heap vb b)(hla:a.length≤1000000000000)(hlb:b.length≤1000000000000)(hl:a.length≤b.length)(hqa:B9 a=true)(hqb:B9 b=true) :
  Calls Tryz.prog 178 #[va,vb] w (fun e w'=>∃v0:Value,e=.returned (v0)∧AB w w'∧Fr (AY rI 2) w.heap.size w'.heap.size w'.heap v0 (DJ a b)):=by
 refine At [va,vb] 9 Tryz.func178 Z Z sM ?_
 have a7:AB w w:=AB.refl w
 have ab:=ha.lenle
 have ac:=hb.lenle
 refine qT Z<|qS [0,0,3,3,0] Z<|Af 2 Z<|As 187 [] [] [vb,zI ((1000002:Nat):Int)] Z Z Rc Ac (E9 _ _ _ _ (hb.ext g1 a7) oM hlb hqb oM) ?_
 rintro e1 w1 ⟨a3,rfl,a4,a0⟩
 refine⟨_,rfl,a4,?_⟩
 have a8:=a4.size
 have a5:=a7.trans a4
 refine As 185 [] [] [va,a3] Z Z U2 Ac (Ge _ _ _ _ _ (ha.ext g1 a5) a0.rd1 hla (by simp;omega) hqa (by exact FH _ _)) ?_
 rintro e2 w2 ⟨a1,rfl,a6,a2⟩
 refine⟨_,rfl,a6,?_⟩
 have a9:=a6.size
 have aa:=a5.trans a6
 exact Ae 1 Z<|A3<|Ah [4] Z a1 Z ⟨a1,rfl,aa,(by rw[← VC hl];exact(a2.up o1).low a5.size)⟩
theorem DM (w:World)(va:Value)(a:Sr)(vb:Value)(b:Sr)(ha:Rd (B3 rI) w.heap va a)(hb:Rd (B3 rI) w.heap vb b)(hla:a.length≤1000000000000)(hl:a.length≤b.length)(hqa:B9 a=true)(hqb:B9 b=true) :
  Calls Tryz.prog 179 #[va,vb] w (fun e w'=>∃v0:Value,e=.returned (v0)∧AB w w'∧Fr (AY rI 2) w.heap.size w'.heap.size w'.heap v0 (Ci a b)):=by
 refine At [va,vb] 43 Tryz.func179 Z Z sM ?_
 have a8:AB w w:=AB.refl w
 have am:=ha.lenle
 have an:=hb.lenle
 refine qT Z<|qS [0,0,3,0] Z<|Af 1 Z<|AN (v:=va) Bm Z ha.isSl Ac (FM (n:=a.length) Bm BM Z Z Z sD Ac fun v1 w1 a5 af a9=>?_)
 have a6:=a5.size
 have aa:=a8.trans a5
 refine Ae 1 Z<|A0<|qS [0,0,0] Z<|Af 1 Z<|AN (v:=va) Bm Z ha.isSl Ac<|Ae 1 Z<|A5 ?_
 refine AQ (S:=Nat) (fun k=>([(13,zI (k:Int)),(0,va),(1,vb),(5,v1),(12,zI (a.length:Int))])) (fun k W=>AB w W∧Fr (AY rI 2) w.heap.size W.heap.size W.heap v1 (CK k (Ci a b)<|List.replicate a.length 0)∧k≤a.length) (fun k=>a.length-k) 0 ⟨rfl,rfl,rfl,rfl,rfl,trivial⟩ ⟨aa,(by rw[D8];exact a9.up o1),sD⟩ ?_
 clear a8 a9 af a5 a6 aa
 rintro k ρ2 w2 ⟨a3,a1,ab⟩
 have a7:w.heap.size≤w2.heap.size:=a3.size
 have hml:=EC k (Ci a b) (List.replicate a.length 0) sM
 rw[z5]at hml
 have hga:=Bg hqa k
 refine qS [0] Z ?_
 by_cases ac:(k:Int)<(a.length:Int)
 ·refine Ay true Z Z (A7 ac) Ac<|Ai<|A0<|Ag Z<|A4<|A0<|A5<|qS [0,0] Z<|Ae 2 Z<|qT Z<|A5 ?_
  refine AQ (S:=Nat) (fun i=>([(7,zI (i:Int)),(0,va),(1,vb),(5,v1),(6,zI (k:Int)),(12,zI (a.length:Int)),(13,zI (k:Int))])) (fun i W=>AB w W∧Fr (AY rI 2) w.heap.size W.heap.size W.heap v1 ((CK k (Ci a b)<|List.replicate a.length 0).set k<|O8 a b k i)∧i≤k+1) (fun i=>k+1-i) 0 ⟨rfl,rfl,rfl,rfl,rfl,rfl,rfl,trivial⟩ ⟨a3,(by have h:=a1.up o1;rw[← VD (T:=Ci a b) sM oM]at h;exact h),sD⟩ ?_
  clear a1 a3 a7
  rintro i ρ4 w4 ⟨a2,a0,ad⟩
  have ag:w.heap.size≤w4.heap.size:=a2.size
  have hms:((CK k (Ci a b) (List.replicate a.length 0)).set k (O8 a b k i)).length=a.length:=by rw[z6];exact hml
  refine A0<|qS [0,0,0] Z<|Af 2 Z ?_
  by_cases ae:(i:Int)≤(k:Int)
  ·refine DF true Z Z (A7 ae) Ac<|Ai<|Ag Z<|A4<|A0<|A5<|AW _ [0,0,0,0,0,1,0,0,0,1,0,0,0,0,0,1,0,0,0,0,4] mixed (by kernel_rfl)<|Af 4 Z<|Aw (v:=v1) k Bm BM Z Z a0.isSl Z sD Ac ?_
   refine Al (p:=Ax v1 k 1) (.inl Z) (zI<|((CK k (Ci a b)<|List.replicate a.length 0).set k<|O8 a b k i).getD k 0) AO Z (a0.rd1.getI sD).1 Ac (Af 2 Z ?_)
   refine Aw (v:=va) i Bm BM Z Z ha.isSl Z sD Ac ?_
   refine Al (p:=Ax va i 1) (.inl Z) (zI<|a.getD i 0) AO Z (AR a2.drew (ha.getI sD).1) Ac<|Af 3 Z<|Cb ((k-i:Nat):Int) Z Z (Bd oM oM) Ac ?_
   refine Aw (v:=vb) (k-i) Bm BM Z Z hb.isSl Z sD Ac ?_
   refine Al (p:=Ax vb (k-i) 1) (.inl Z) (zI<|b.getD (k-i) 0) AO Z (AR a2.drew (hb.getI sD).1) Ac<|Gl (wr ((a.getD i 0)*(b.getD (k-i) 0))) Z Z Z Ac<|AG (wr ((((CK k (Ci a b)<|List.replicate a.length 0).set k<|O8 a b k i).getD k 0)+(wr ((a.getD i 0)*(b.getD (k-i) 0))))) Z Z Z Ac ?_
   refine E5 (md (O8 a b k i+a.getD i 0*b.getD (k-i) 0)) Z Z (by decide) (by rw[BK _ _ _ _ _ oM,if_pos rfl];exact fp (SX _ _ _ _) (Bg hqa _) (Bg hqb _)) Ac<|Aw (v:=v1) k Bm BM Z Z a0.isSl Z sD Ac ?_
   refine EV (v:=v1) (w:=w4.drew) I0 Z Z (DI _) a0 sD Ac fun w6 F6 a4 al ah ai=>?_
   replace a4:=a4.of_drew
   have aj:AB w w6:=a4.below a2 (fun c hc=>Aa (A9 _) (ah c hc).1) a2.size
   have ak:=a4.size
   refine Ai<|Ad _ [0,0,0] Z<|Af 1 Z<|AG ((i+1:Nat):Int) Z Z (Bd oM sD) Ac<|Ae 1 Z ?_
   exact⟨i+1,_,rfl,zR,⟨aj,(by have h:=ai.up o1;rw[List.set_set]at h;exact h),sD⟩,zD⟩
  refine DF false Z Z (A8 ae) Ac<|Ai<|Aj Z<|A6<|Au<|Au<|An<|Ad _ [0,0] Z<|AG ((k+1:Nat):Int) Z Z (Bd oM sD) Ac<|Ae 1 Z ?_
  exact⟨k+1,_,rfl,zR,⟨a2,(by have h:=a0.up o1;rw[show i=k+1 from by omega]at h;unfold Ci;rw[G4 sM oM];exact h),sD⟩,zD⟩
 exact Ay false Z Z (A8 ac) Ac<|Ai<|A0<|Aj Z<|A6<|Au<|Au<|An<|qS [0,0] Z<|Ae 2 Z<|A3<|Ah [4] Z v1 Z ⟨v1,rfl,a3,(by have h:=a1.up o1;rwa [DS sM (by simp;omega)]at h)⟩
theorem FR (w:World)(va:Value)(a:Sr)(vb:Value)(b:Sr)(ha:Rd (B3 rI) w.heap va a)(hb:Rd (B3 rI) w.heap vb b)(hla:a.length≤1000000000000)(hl:a.length≤b.length)(h1:0<b.length)(hqa:B9 a=true)(hqb:B9 b=true) :
  Calls Tryz.prog 177 #[va,vb] w (fun e w'=>∃v0:Value,e=.returned (v0)∧AB w w'∧Fr (AY rI 2) w.heap.size w'.heap.size w'.heap v0 (C6 a b)):=by
 refine At [va,vb] 53 Tryz.func177 Z Z sM ?_
 have a5:AB w w:=AB.refl w
 have am:=ha.lenle
 have an:=hb.lenle
 refine qT Z<|A0<|AW _ [0,0,3,0,0,1,0,0,0] mixed (by kernel_rfl)<|Af 1 Z<|AN (v:=va) Bm Z ha.isSl Ac (FM (n:=a.length) Bm BM Z Z Z sD Ac fun v1 w1 a2 ae a7=>?_)
 replace a2:=a2.of_drew
 have a6:=a2.size
 have a8:=a5.trans a2
 refine Af 1 Z<|Aw (v:=vb) 0 Bm BM Z Z hb.isSl Z sD Ac ?_
 refine Al (p:=Ax vb 0 1) (.inl Z) (zI<|b.getD 0 0) AO Z (AR a5.drew (hb.getI sD).1) Ac ?_
 refine AD 226 [] [] [zI<|b.getD 0 0] Z Z eB Ac (zI<|inv<|b.getD 0 0) (fun wq=>IQ wq _ (hb.getI sD).2)<|Ae 2 Z<|A0<|qS [0,0,0] Z<|Af 1 Z<|AN (v:=va) Bm Z ha.isSl Ac<|Ae 1 Z<|A5 ?_
 refine AQ (S:=Nat) (fun k=>([(19,zI (k:Int)),(0,va),(1,vb),(5,v1),(6,zI<|inv<|b.getD 0 0),(18,zI (a.length:Int))])) (fun k W=>AB w W∧Fr (AY rI 2) w.heap.size W.heap.size W.heap v1 (CK k (C6 a b)<|List.replicate a.length 0)∧k≤a.length) (fun k=>a.length-k) 0 ⟨rfl,rfl,rfl,rfl,rfl,rfl,trivial⟩ ⟨a8,(by rw[D8];exact a7.up o1),sD⟩ ?_
 clear a5 a7 ae a2 a6 a8
 rintro k ρ3 w3 ⟨a4,a1,a9⟩
 have af:w.heap.size≤w3.heap.size:=a4.size
 have hml:=EC k (C6 a b) (List.replicate a.length 0) sM
 rw[z5]at hml
 have hga:=Bg hqa k
 refine qS [0] Z ?_
 by_cases aa:(k:Int)<(a.length:Int)
 ·refine Ay true Z Z (A7 aa) Ac<|Ai<|A0<|Ag Z<|A4<|A0<|A5<|qS [0,0] Z<|Ae 2 Z<|qS [0,0,0,2,0] Z<|Af 2 Z<|Aw (v:=va) k Bm BM Z Z ha.isSl Z sD Ac ?_
  refine Al (p:=Ax va k 1) (.inr Z) (zI<|a.getD k 0) AO Z (AR a4 (ha.getI sD).1) Ac<|Ae 1 Z<|A0<|qT Z<|A5 ?_
  refine AQ (S:=Nat×Int) (fun⟨i,t⟩=>([(8,zI t),(9,zI (i:Int)),(0,va),(1,vb),(5,v1),(6,zI<|inv<|b.getD 0 0),(7,zI (k:Int)),(18,zI (a.length:Int)),(19,zI (k:Int))])) (fun⟨i,t⟩ W=>AB w W∧Fr (AY rI 2) w.heap.size w3.heap.size W.heap v1 (CK k (C6 a b)<|List.replicate a.length 0)∧i≤k∧t=Pj a b (C6 a b) k i∧(0≤t∧t<1000003)) (fun⟨i,t⟩=>k-i) (0,a.getD k 0) ⟨rfl,rfl,rfl,rfl,rfl,rfl,rfl,rfl,rfl,trivial⟩ ⟨a4,a1,sD,(by rfl),(by exact Bg hqa k)⟩ ?_
  clear a1
  rintro⟨i,t⟩ ρ5 w5 ⟨a3,a0,ab,ht,htr⟩
  have ag:w.heap.size≤w5.heap.size:=a3.size
  refine A0<|qS [0,0,0] Z<|Af 2 Z ?_
  by_cases ac:(i:Int)<(k:Int)
  ·refine Ay true Z Z (A7 ac) Ac<|Ai<|Ag Z<|A4<|A0<|A5<|AW _ [0,0,0,0,1,0,0,0,0,0,1,0,0,0] mixed (by kernel_rfl)<|Af 3 Z<|Aw (v:=v1) i Bm BM Z Z a0.isSl Z sD Ac ?_
   refine Al (p:=Ax v1 i 1) (.inl Z) (zI<|(CK k (C6 a b)<|List.replicate a.length 0).getD i 0) AO Z (a0.rd1.getI sD).1 Ac (Af 3 Z<|Cb ((k-i:Nat):Int) Z Z (Bd oM oM) Ac ?_)
   refine Aw (v:=vb) (k-i) Bm BM Z Z hb.isSl Z sD Ac ?_
   refine Al (p:=Ax vb (k-i) 1) (.inl Z) (zI<|b.getD (k-i) 0) AO Z (AR a3.drew (hb.getI sD).1) Ac<|Gl (wr (((CK k (C6 a b)<|List.replicate a.length 0).getD i 0)*(b.getD (k-i) 0))) Z Z Z Ac ?_
   refine AD 191 [] [] [zI t,zI<|wr (((CK k (C6 a b)<|List.replicate a.length 0).getD i 0)*(b.getD (k-i) 0))] Z Z YB Ac (zI<|md (t-(wr (((CK k (C6 a b)<|List.replicate a.length 0).getD i 0)*(b.getD (k-i) 0))))) (fun wq=>I1 wq _ _ oM<|P3 _)<|Ae 1 Z<|Ad _ [0,0,0] Z<|Af 1 Z<|AG ((i+1:Nat):Int) Z Z (Bd oM sD) Ac<|Ae 1 Z ?_
   exact⟨(i+1,md (t-(wr (((CK k (C6 a b) (List.replicate a.length 0)).getD i 0)*(b.getD (k-i) 0))))),_,rfl,zR,⟨a3.drew,a0,sD,(by rw[ht,Ru 0 oM (by simp;omega)];exact VE (ED a b) hqb),(by exact BU _)⟩,zD⟩
  refine Ay false Z Z (A8 ac) Ac<|Ai<|Aj Z<|A6<|Au<|Au<|An<|Ad _ [0,0,0,0,0,0,0,4] Z<|Af 4 Z<|Gl (wr (t*(inv<|b.getD 0 0))) Z Z Z Ac<|E5 (md (t*inv (b.getD 0 0))) Z Z (by decide) (Qr htr<|Zt _) Ac<|Aw (v:=v1) k Bm BM Z Z a0.isSl Z sD Ac ?_
  refine EV (v:=v1) (w:=w5) I0 Z Z (DI _) a0 sD Ac fun w8 F8 ad al ah ai=>?_
  have aj:AB w w8:=ad.below a3 (fun c hc=>Aa (A9 _) (ah c hc).1) a3.size
  have ak:=ad.size
  refine Ai<|Ad _ [0,0] Z<|AG ((k+1:Nat):Int) Z Z (Bd oM sD) Ac<|Ae 1 Z ?_
  exact⟨k+1,_,rfl,zR,⟨aj,(by have h:=ai.up o1;rw[ht,show i=k from by omega]at h;rw[← Zw oM sM];exact h),sD⟩,zD⟩
 exact Ay false Z Z (A8 aa) Ac<|Ai<|A0<|Aj Z<|A6<|Au<|Au<|An<|qS [0,0] Z<|Ae 2 Z<|A3<|Ah [4] Z v1 Z ⟨v1,rfl,a4,(by have h:=a1.up o1;rwa [DS sM (by simp;omega)]at h)⟩
theorem NE (w:World)(va:Value)(a:Sr)(ha:Rd (B3 rI) w.heap va a)(hla:a.length≤1000000000000) :
  Calls Tryz.prog 89 #[va] w (fun e w'=>∃v0:Value,e=.returned (v0)∧AB w w'∧Fr (AY (AY rI 2) 27) w.heap.size w'.heap.size w'.heap v0 (Cd a)):=by
 refine At [va] 20 Tryz.func89 Z Z sM ?_
 have a9:AB w w:=AB.refl w
 have au:=ha.lenle
 refine qT Z<|qS [3,0] Z (BS (AY rI 2) o1 Bn AU Ac fun v1 w1 a4 af aa=>?_)
 have a5:=a4.size
 have ab:=a9.trans a4
 refine Ae 1 Z<|A0<|qS [0,0,0] Z<|Af 1 Z<|AN (v:=va) Bm Z ha.isSl Ac<|Ae 1 Z<|A5 ?_
 refine AQ (S:=Nat×Value) (fun⟨k,vo⟩=>([(3,vo),(9,zI (k:Int)),(7,va),(8,zI (a.length:Int))])) (fun⟨k,vo⟩ W=>AB w W∧Fr (AY (AY rI 2) 27) w.heap.size W.heap.size W.heap vo ((a.take k).map fun x=>[x])∧k≤a.length) (fun⟨k,vo⟩=>a.length-k) (0,v1) ⟨rfl,rfl,rfl,rfl,trivial⟩ ⟨ab,aa.up o2,sD⟩ ?_
 clear a9 aa af a4 a5 ab
 rintro⟨k,vo⟩ ρ2 w2 ⟨a3,a2,ac⟩
 have ag:w.heap.size≤w2.heap.size:=a3.size
 refine qS [0] Z ?_
 by_cases ad:(k:Int)<(a.length:Int)
 ·refine Ay true Z Z (A7 ad) Ac<|Ai<|A0<|Ag Z<|A4<|A0<|A5<|qS [0,2,0] Z<|Aw (v:=va) k Bm BM Z Z ha.isSl Z sD Ac ?_
  refine Al (p:=Ax va k 1) (.inr Z) (zI<|a.getD k 0) AO Z (AR a3 (ha.getI sD).1) Ac<|Ae 1 Z<|Ad _ [0,0,3,3,4,0] Z<|Af 2 Z ?_
  refine Bs (u:=zI<|a.getD k 0) (B:=w2.heap.size) AS Bm BM Z Z (Mf w2.heap.size w2.heap.size _ _ (ha.getI sD).2) (A9 _) Ac fun v4 w4 a6 aq ah=>?_
  have ai:=a6.size
  have aj:=a3.trans a6
  have a0:=a2.ext (o2) a6
  refine Bs (u:=v4) (B:=w2.heap.size) o1 Bn AU Z Z ah (by first|exact A9 _|omega) Ac fun v5 w5 a7 ar ak=>?_
  have al:=a7.size
  have a8:=aj.trans a7
  have a1:=a0.ext (o2) a7
  refine Ez o1 (v:=vo) (a:=v5) Bn AU Z Z Z a1 a8.size ak oM a3.size sD (by unfold maxLen;first|omega|assumption|(simp;done)|(simp;omega)) Ac fun v6 w6 F6 ae am an=>?_
  have ao:AB w w6:=ae.below a8 (fun c hc=>Aa (A9 _) (am c hc).1) a8.size
  have ap:=ae.size
  refine Ae 1 Z<|Ad _ [0,0] Z<|AG ((k+1:Nat):Int) Z Z (Bd oM sD) Ac<|Ae 1 Z ?_
  exact⟨(k+1,v6),_,rfl,zR,⟨ao,(by rw[Dq 0 oM];exact an.up o2),sD⟩,zD⟩
 exact Ay false Z Z (A8 ad) Ac<|Ai<|A0<|Aj Z<|A6<|Au<|Au<|An<|qS [0,0] Z<|Ae 2 Z<|A3<|Ah [2] Z vo Z ⟨vo,rfl,a3,(by have h:=a2.up o2;rwa [za oM]at h)⟩
theorem JE (w:World)(va:Value)(a:List (Sr))(ha:Rd (B3 (B3 rI)) w.heap va a)(hla:a.length≤1000000000000)(h1:∀k,k<a.length→0<(a.getD k []).length) :
  Calls Tryz.prog 106 #[va] w (fun e w'=>∃v0:Value,e=.returned (v0)∧AB w w'∧Fr (AY rI 2) w.heap.size w'.heap.size w'.heap v0 (a.map (fun s=>s.getD 0 0))):=by
 refine At [va] 21 Tryz.func106 Z Z sM ?_
 have aa:AB w w:=AB.refl w
 have au:=ha.lenle
 refine qT Z<|qS [3,0] Z (BS (rI) AS Bm BM Ac fun v1 w1 a4 ah ab=>?_)
 have a5:=a4.size
 have ac:=aa.trans a4
 refine Ae 1 Z<|A0<|qS [0,0,0] Z<|Af 1 Z<|AN (v:=va) Bn Z ha.isSl Ac<|Ae 1 Z<|A5 ?_
 refine AQ (S:=Nat×Value) (fun⟨k,vo⟩=>([(3,vo),(9,zI (k:Int)),(7,va),(8,zI (a.length:Int))])) (fun⟨k,vo⟩ W=>AB w W∧Fr (AY rI 2) w.heap.size W.heap.size W.heap vo ((a.take k).map fun s=>s.getD 0 0)∧k≤a.length) (fun⟨k,vo⟩=>a.length-k) (0,v1) ⟨rfl,rfl,rfl,rfl,trivial⟩ ⟨ac,ab.up o1,sD⟩ ?_
 clear aa ab ah a4 a5 ac
 rintro⟨k,vo⟩ ρ2 w2 ⟨a2,a1,ad⟩
 have ai:w.heap.size≤w2.heap.size:=a2.size
 refine qS [0] Z ?_
 by_cases ae:(k:Int)<(a.length:Int)
 ·refine Ay true Z Z (A7 ae) Ac<|Ai<|A0<|Ag Z<|A4<|A0<|A5<|qS [0,2,0] Z<|Aw (v:=va) k Bn AU Z Z ha.isSl Z sD Ac ?_
  obtain⟨a6,aj,a3⟩:=ha.get (k:=k) [] sD
  have ak:=a3.lenle
  refine Al (p:=Ax va k 1) (.inr Z) a6 B7 Z (AR a2 aj) Ac<|Ae 1 Z<|Ad _ [0,0,0,2,3,4,0] Z ?_
  have ap:=h1 k oM
  refine Af 2 Z<|Aw (v:=a6) 0 Bm BM Z Z a3.isSl Z sD Ac ?_
  refine Al (p:=Ax a6 0 1) (.inr Z) (zI<|(a.getD k []).getD 0 0) AO Z (AR a2 (a3.getI sD).1) Ac ?_
  refine Bs (u:=zI<|(a.getD k []).getD 0 0) (B:=w2.heap.size) AS Bm BM Z Z (Mf w2.heap.size w2.heap.size _ _ (a3.getI sD).2) (A9 _) Ac fun v5 w5 a7 aq af=>?_
  have al:=a7.size
  have a8:=a2.trans a7
  have a0:=a1.ext (o1) a7
  refine Ey (v:=vo) (a:=v5) Bm BM Z Z Z a0 a8.size af.rd1 sD (by unfold maxLen;first|omega|assumption|(simp;done)|(simp;omega)) Ac fun v6 w6 F6 a9 ag am=>?_
  have an:AB w w6:=a9.below a8 (fun c hc=>Aa (A9 _) (ag c hc).1) a8.size
  have ao:=a9.size
  have ar:=af.chg (o1) a9 fun c hc=>zH<|ag c hc
  refine Ae 1 Z<|Ad _ [0,0] Z<|AG ((k+1:Nat):Int) Z Z (Bd oM sD) Ac<|Ae 1 Z ?_
  exact⟨(k+1,v6),_,rfl,zR,⟨an,(by rw[Dq [] oM];exact am.up o1),sD⟩,zD⟩
 exact Ay false Z Z (A8 ae) Ac<|Ai<|A0<|Aj Z<|A6<|Au<|Au<|An<|qS [0,0] Z<|Ae 2 Z<|A3<|Ah [2] Z vo Z ⟨vo,rfl,a2,(by have h:=a1.up o1;rwa [za oM]at h)⟩
theorem Ij (w:World)(dex:Nat)(ve:Value)(ex:Ex)(hex:RX [] dex w.heap ve ex)(hs:ex.size≤1000000000) :
  Calls Tryz.prog 206 #[(.agg #[(zI ex.kind),(zI ex.num),(zI ex.pick),(zI ex.count),ve])] w (fun e w'=>e=.returned (zI (ex.size:Int))∧AB w w'):=by
 induction dex using Nat.strongRecOn generalizing w ve ex
 rename_i dex ih
 refine At [.agg #[zI ex.kind,zI ex.num,zI ex.pick,zI ex.count,ve]] 19 Tryz.func206 Z Z sM ?_
 have ab:AB w w:=AB.refl w
 have aw:=hex.rn.lenle
 unfold maxLen at aw
 have hsk:=CV ex
 refine qS [3,0] Z (C8 (cs:=#[zI ex.kind,zI ex.num,zI ex.pick,zI ex.count,ve]) Z Ac fun w1 a2 aj a3=>?_)
 have a4:=a2.size
 have ac:=ab.trans a2
 replace a3:BX w1.heap w.heap.size [zI ex.kind,zI ex.num,zI ex.pick,zI ex.count,ve]:=a3
 refine Ae 1 Z<|qT Z<|A0<|qS [0,2,0,0] Z<|Aq (p:=zP w.heap.size) 4 Bt Z Z Ac<|Al (p:=AA (zP w.heap.size) 4) (.inr Z) ve BA Z (a3.ldp (i:=4) sM) Ac<|AN (v:=ve) DE Z hex.rn.isSl Ac<|Ae 1 Z<|A5 ?_
 refine AQ (S:=Nat×Nat) (fun⟨k,sz⟩=>([(3,zI (sz:Int)),(9,zI (k:Int)),(7,ve),(8,zI (ex.kids.length:Int))])) (fun⟨k,sz⟩ W=>AB w W∧k≤ex.kids.length∧sz=1+Ex.sizes (ex.kids.take k)) (fun⟨k,sz⟩=>ex.kids.length-k) (0,1) ⟨rfl,rfl,rfl,rfl,trivial⟩ ⟨ac,sD,(by rw[List.take_zero,Oy])⟩ ?_
 clear ab aj a2 a4 ac
 rintro⟨k,sz⟩ ρ2 w2 ⟨a1,ad,hsz⟩
 have ak:w.heap.size≤w2.heap.size:=a1.size
 refine qS [0] Z ?_
 by_cases ae:(k:Int)<(ex.kids.length:Int)
 ·refine Ay true Z Z (A7 ae) Ac<|Ai<|A0<|Ag Z<|A4<|A0<|A5<|qS [0,2,3,4] Z ?_
  have hst:=Eh (l:=ex.kids) (k:=k) oM
  have hle:=DH ex.kids (k+1)
  have hdt:=HN (l:=ex.kids) (k:=k) oM
  have hda:=EX<|ex.kids.getD k Ex.zero
  refine Aw (v:=ve) k DE BE Z Z hex.rn.isSl Z sD Ac ?_
  obtain⟨cs4,al,am⟩:=hex.rn.get (AL dex) Ex.zero (k:=k) sD
  obtain⟨dd4,a0,ar,rfl,a5⟩:=RX.of al
  have a6:=a5.rn.lenle
  unfold maxLen at a6
  refine AZ (p:=Ax ve k 5) (.inr Z) [zI<|(ex.kids.getD k Ex.zero).kind,zI<|(ex.kids.getD k Ex.zero).num,zI<|(ex.kids.getD k Ex.zero).pick,zI<|(ex.kids.getD k Ex.zero).count,a0] Bi Z (fun ax a7=>am ax<|Az.of_ext []<|a1.trans a7) Z Ac (Br (z:=.agg #[zI 0,zI 0,zI 0,zI 0,zN]) GV Ac fun w5 af au a8=>?_)
  have an:=af.size
  have ag:=a1.trans af
  replace a8:BX w5.heap w2.heap.size [zI 0,zI 0,zI 0,zI 0,zN]:=a8
  refine BR (vs:=[zI<|(ex.kids.getD k Ex.zero).kind,zI<|(ex.kids.getD k Ex.zero).num,zI<|(ex.kids.getD k Ex.zero).pick,zI<|(ex.kids.getD k Ex.zero).count,a0]) Bi Z Z a5.ones a8 Z Z Ac fun w6 ah av a9=>?_
  replace a9:BX w6.heap w2.heap.size [zI ((ex.kids.getD k Ex.zero).kind),zI ((ex.kids.getD k Ex.zero).num),zI ((ex.kids.getD k Ex.zero).pick),zI ((ex.kids.getD k Ex.zero).count),a0]:=a9
  have ai:AB w w6:=ah.below ag (fun _ h=>zE h) ag.size
  have ao:=ah.size
  refine Ai<|Ad _ [0,2,3,0,0] Z<|Af 1 Z<|AZ (p:=zP w2.heap.size) (.inr Z) [zI<|(ex.kids.getD k Ex.zero).kind,zI<|(ex.kids.getD k Ex.zero).num,zI<|(ex.kids.getD k Ex.zero).pick,zI<|(ex.kids.getD k Ex.zero).count,a0] Bi Z (fun ax a7=>LD.of_box<|BX.ext (w:=w6) a9 a7) Z Ac<|As 206 [] [] [.agg #[zI<|(ex.kids.getD k Ex.zero).kind,zI<|(ex.kids.getD k Ex.zero).num,zI<|(ex.kids.getD k Ex.zero).pick,zI<|(ex.kids.getD k Ex.zero).count,a0]] Z Z YC Ac (ih dd4 oM _ a0 (ex.kids.getD k Ex.zero) (a5.ext ai) oM) ?_
  rintro e7 w7 ⟨rfl,aa⟩
  refine⟨_,rfl,aa,?_⟩
  have ap:=aa.size
  have aq:=ai.trans aa
  refine AG ((sz+(ex.kids.getD k Ex.zero).size:Nat):Int) Z Z (Bd oM oM) Ac<|Ae 1 Z<|Ad _ [0,0] Z<|AG ((k+1:Nat):Int) Z Z (Bd oM sD) Ac<|Ae 1 Z ?_
  exact⟨(k+1,sz+(ex.kids.getD k Ex.zero).size),_,rfl,zR,⟨aq,sD,oM⟩,zD⟩
 exact Ay false Z Z (A8 ae) Ac<|Ai<|A0<|Aj Z<|A6<|Au<|Au<|An<|qS [0,0] Z<|Ae 2 Z<|A3<|Ah [2] Z (zI (sz:Int)) Z ⟨B5 (by rw[hsz,OA oM,hsk]),a1⟩
theorem LE (w:World)(dex:Nat)(ve:Value)(ex:Ex)(hex:RX [] dex w.heap ve ex)(hs:ex.size≤1000000000) :
  Calls Tryz.prog 236 #[(.agg #[(zI ex.kind),(zI ex.num),(zI ex.pick),(zI ex.count),ve])] w (fun e w'=>e=.returned (zI (ex.deep:Int))∧AB w w'):=by
 induction dex using Nat.strongRecOn generalizing w ve ex
 rename_i dex ih
 refine At [.agg #[zI ex.kind,zI ex.num,zI ex.pick,zI ex.count,ve]] 20 Tryz.func236 Z Z sM ?_
 have ab:AB w w:=AB.refl w
 have aw:=hex.rn.lenle
 unfold maxLen at aw
 have hsk:=CV ex
 have hdk:=EW ex
 refine qS [3,0] Z (C8 (cs:=#[zI ex.kind,zI ex.num,zI ex.pick,zI ex.count,ve]) Z Ac fun w1 a2 aj a3=>?_)
 have a4:=a2.size
 have ac:=ab.trans a2
 replace a3:BX w1.heap w.heap.size [zI ex.kind,zI ex.num,zI ex.pick,zI ex.count,ve]:=a3
 refine Ae 1 Z<|qT Z<|A0<|qS [0,2,0,0] Z<|Aq (p:=zP w.heap.size) 4 Bt Z Z Ac<|Al (p:=AA (zP w.heap.size) 4) (.inr Z) ve BA Z (a3.ldp (i:=4) sM) Ac<|AN (v:=ve) DE Z hex.rn.isSl Ac<|Ae 1 Z<|A5 ?_
 refine AQ (S:=Nat×Nat) (fun⟨k,sz⟩=>([(3,zI (sz:Int)),(9,zI (k:Int)),(7,ve),(8,zI (ex.kids.length:Int))])) (fun⟨k,sz⟩ W=>AB w W∧k≤ex.kids.length∧sz=Ex.deeps (ex.kids.take k)) (fun⟨k,sz⟩=>ex.kids.length-k) (0,0) ⟨rfl,rfl,rfl,rfl,trivial⟩ ⟨ac,sD,(by rw[List.take_zero,Oz])⟩ ?_
 clear ab aj a2 a4 ac
 rintro⟨k,sz⟩ ρ2 w2 ⟨a1,ad,hsz⟩
 have ak:w.heap.size≤w2.heap.size:=a1.size
 refine qS [0] Z ?_
 by_cases ae:(k:Int)<(ex.kids.length:Int)
 ·refine Ay true Z Z (A7 ae) Ac<|Ai<|A0<|Ag Z<|A4<|A0<|A5<|qS [0,2,3,4] Z ?_
  have hst:=Eh (l:=ex.kids) (k:=k) oM
  have hle:=DH ex.kids (k+1)
  have hdt:=HN (l:=ex.kids) (k:=k) oM
  have hda:=EX<|ex.kids.getD k Ex.zero
  refine Aw (v:=ve) k DE BE Z Z hex.rn.isSl Z sD Ac ?_
  obtain⟨cs4,al,am⟩:=hex.rn.get (AL dex) Ex.zero (k:=k) sD
  obtain⟨dd4,a0,ar,rfl,a5⟩:=RX.of al
  have a6:=a5.rn.lenle
  unfold maxLen at a6
  refine AZ (p:=Ax ve k 5) (.inr Z) [zI<|(ex.kids.getD k Ex.zero).kind,zI<|(ex.kids.getD k Ex.zero).num,zI<|(ex.kids.getD k Ex.zero).pick,zI<|(ex.kids.getD k Ex.zero).count,a0] Bi Z (fun ax a7=>am ax<|Az.of_ext []<|a1.trans a7) Z Ac (Br (z:=.agg #[zI 0,zI 0,zI 0,zI 0,zN]) GV Ac fun w5 af au a8=>?_)
  have an:=af.size
  have ag:=a1.trans af
  replace a8:BX w5.heap w2.heap.size [zI 0,zI 0,zI 0,zI 0,zN]:=a8
  refine BR (vs:=[zI<|(ex.kids.getD k Ex.zero).kind,zI<|(ex.kids.getD k Ex.zero).num,zI<|(ex.kids.getD k Ex.zero).pick,zI<|(ex.kids.getD k Ex.zero).count,a0]) Bi Z Z a5.ones a8 Z Z Ac fun w6 ah av a9=>?_
  replace a9:BX w6.heap w2.heap.size [zI ((ex.kids.getD k Ex.zero).kind),zI ((ex.kids.getD k Ex.zero).num),zI ((ex.kids.getD k Ex.zero).pick),zI ((ex.kids.getD k Ex.zero).count),a0]:=a9
  have ai:AB w w6:=ah.below ag (fun _ h=>zE h) ag.size
  have ao:=ah.size
  refine Ai<|Ad _ [0,2,3,0,0] Z<|Af 1 Z<|AZ (p:=zP w2.heap.size) (.inr Z) [zI<|(ex.kids.getD k Ex.zero).kind,zI<|(ex.kids.getD k Ex.zero).num,zI<|(ex.kids.getD k Ex.zero).pick,zI<|(ex.kids.getD k Ex.zero).count,a0] Bi Z (fun ax a7=>LD.of_box<|BX.ext (w:=w6) a9 a7) Z Ac<|As 236 [] [] [.agg #[zI<|(ex.kids.getD k Ex.zero).kind,zI<|(ex.kids.getD k Ex.zero).num,zI<|(ex.kids.getD k Ex.zero).pick,zI<|(ex.kids.getD k Ex.zero).count,a0]] Z Z eC Ac (ih dd4 oM _ a0 (ex.kids.getD k Ex.zero) (a5.ext ai) oM) ?_
  rintro e7 w7 ⟨rfl,aa⟩
  refine⟨_,rfl,aa,?_⟩
  have ap:=aa.size
  have aq:=ai.trans aa
  refine jG ((max sz ((ex.kids.getD k Ex.zero).deep):Nat):Int) oM Z Z Ac<|Ae 1 Z<|Ad _ [0,0] Z<|AG ((k+1:Nat):Int) Z Z (Bd oM sD) Ac<|Ae 1 Z ?_
  exact⟨(k+1,max sz ((ex.kids.getD k Ex.zero).deep)),_,rfl,zR,⟨aq,sD,oM⟩,zD⟩
 refine Ay false Z Z (A8 ae) Ac<|Ai<|A0<|Aj Z<|A6<|Au<|Au<|An<|qS [0,0,0] Z ?_
 have h8:=Lf (l:=ex.kids) (k:=k) oM
 have h9:=EX ex
 exact Af 1 Z<|AG ((sz+1:Nat):Int) Z Z (Bd oM oM) Ac<|Ae 1 Z<|A3<|Ah [2] Z (zI ((sz+1:Nat):Int)) Z ⟨B5 (by rw[hsz,Lf oM,hdk]),a1⟩
theorem eJ {b:Bool}(h:(!b)=false):b=true:=by cases b <;> simp_all
theorem mU {b:Bool}(h:(!b)=true):b=false:=by cases b <;> simp_all
theorem iP {p:List Fn}{funcs vars:Int}{e:Ex}{b:Bool}(h:e.kids.length=0∨b=false)(hb:HQ p funcs vars e=b):Ending.returned (.bool b)=.returned (.bool (wf p funcs e vars)):=by
  rcases h with h|h
  · rw[Pf h,hb]
  · subst h;rw[← Vs hb]
theorem Cs {p:Prop}(h:p:=by first|exact AF (Pg hwn fun j hj=>hall j oM)|exact AF (Vt (k:=k) oM (by first|(rw[if_pos oM])|(rw[if_neg oM])) (mU ‹_›))|exact iP (by first|exact .inr Z|(left;omega)|(left;simp_all <;> omega)) (by(have hp9:=hpl.symm;clear hpl;unfold HQ Gp;first|(simp[*];done)|(simp[*];omega)|(simp[*] <;> intros <;> omega)|(simp_all <;> omega)))):p:=h
theorem K3 {p:Prop}(h:p:=by(have hp9:=hpl.symm;clear hpl;unfold HQ Gp;first|(simp[*];done)|(simp[*];omega)|(simp[*] <;> intros <;> omega)|(simp_all <;> omega))):p:=h
theorem Sg {p:Prop}(h:p:=by intro j hj;by_cases e9:j=k;(rw[e9];first|(rw[if_pos oM];exact eJ ‹_›)|(rw[if_neg oM];exact eJ ‹_›));exact hall j oM):p:=h
theorem YM {p:Prop}(h:p:=by unfold El;first|(simp[*];done)|(simp[*];intros;omega)|(simp[*];omega)):p:=h
theorem K4 {p:Prop}(h:p:=by first|exact(A7 oM).symm|exact decide_eq_decide.2 oM):p:=h
theorem HB (w:World)(dp:Nat)(vp:Value)(p:List Fn)(funcs:Int)(dex:Nat)(ve:Value)(ex:Ex)(vars:Int)(hp:RP [] dp w.heap vp p)(_hfuncs:BI funcs)(hex:RX [] dex w.heap ve ex)(_hvars:BI vars)(hs:0≤vars∧vars+(ex.deep:Int)≤2000000000)(hf:0≤funcs∧funcs≤(p.length:Int)) :
  Calls Tryz.prog 237 #[(.agg #[vp,(zI funcs)]),(.agg #[(zI ex.kind),(zI ex.num),(zI ex.pick),(zI ex.count),ve]),zI vars] w (fun e w'=>e=.returned (.bool (wf p funcs ex vars))∧AB w w'):=by
 induction dex using Nat.strongRecOn generalizing w dp vp p funcs ve ex vars
 rename_i dex ih
 refine At [.agg #[vp,zI funcs],.agg #[zI ex.kind,zI ex.num,zI ex.pick,zI ex.count,ve],zI vars] 177 Tryz.func237 Z Z sM ?_
 have d2:AB w w:=AB.refl w
 have ec:=hp.lenle
 unfold maxLen at ec
 have ed:=hex.rn.lenle
 unfold maxLen at ed
 have hdk:=EW ex
 refine qS [3,3,0] Z (C8 (cs:=#[vp,zI funcs]) Z Ac fun w1 cq df co=>?_)
 have cr:=cq.size
 have d3:=d2.trans cq
 replace co:BX w1.heap w.heap.size [vp,zI funcs]:=co
 have e5:=co.lt
 refine C8 (cs:=#[zI ex.kind,zI ex.num,zI ex.pick,zI ex.count,ve]) Z Ac fun w2 cp dg bc=>?_
 have ct:=cp.size
 have cu:=d3.trans cp
 have bb:=co.ext cp
 replace bc:BX w2.heap w1.heap.size [zI ex.kind,zI ex.num,zI ex.pick,zI ex.count,ve]:=bc
 refine Ae 1 Z<|qS [0,2,0,0] Z<|Aq (p:=zP w1.heap.size) 4 Bt Z Z Ac<|Al (p:=AA (zP w1.heap.size) 4) (.inr Z) ve BA Z (bc.ldp (i:=4) sM) Ac<|AN (v:=ve) DE Z hex.rn.isSl Ac<|Ae 1 Z<|A0<|Ib (S:=Bool) (fun(pl:Bool)=>([(8,.bool pl),(2,zI vars),(3,zP w.heap.size),(4,zP w1.heap.size),(7,zI (ex.kids.length:Int))])) (fun(pl:Bool) (W:World)=>AB w W∧BX W.heap w.heap.size [vp,zI funcs]∧BX W.heap w1.heap.size [zI ex.kind,zI ex.num,zI ex.pick,zI ex.count,ve]∧pl=El ex) ?_ ?_
 ·refine Ad _ [0,2,0,0,0,2,0,0,0] Z<|Aq (p:=zP w1.heap.size) 2 EK Z Z Ac<|Al (p:=AA (zP w1.heap.size) 2) (.inr Z) (zI ex.pick) AO Z (bc.ldp (i:=2) sM) Ac ?_
  by_cases d4:ex.pick=((0:Nat):Int)
  ·exact Av true Z Z (A7 d4) Ac<|Af 1 Z<|Aq (p:=zP w1.heap.size) 3 Ee Z Z (Ak (e:=19) Z Z Z)<|Al (p:=AA (zP w1.heap.size) 3) (.inr Z) (zI ex.count) AO Z (bc.ldp (i:=3) sM) (Ak (e:=19) Z Z Z)<|Av (decide (ex.count=((0:Nat):Int))) Z Z Z (Ak (e:=19) Z Z Z)<|Ae 2 Z ⟨decide (ex.count=((0:Nat):Int)),_,rfl,zR,⟨cu,bb,bc,YM⟩⟩
  exact Av false Z Z (A8 d4) Ac<|Ae 6 Z ⟨false,_,rfl,zR,⟨cu,bb,bc,YM⟩⟩
 clear d2 df cq cr d3 dg cp ct cu
 rintro pl ρ4 w4 ⟨ag,a4,a1,hpl⟩
 have bf:w.heap.size≤w4.heap.size:=ag.size
 have e6:=a4.lt
 have e7:=a1.lt
 refine A0<|Ib (S:=Unit) (fun(u:Unit)=>([(2,zI vars),(3,zP w.heap.size),(4,zP w1.heap.size)])) (fun(u:Unit) (W:World)=>AB w W∧BX W.heap w.heap.size [vp,zI funcs]∧BX W.heap w1.heap.size [zI ex.kind,zI ex.num,zI ex.pick,zI ex.count,ve]∧HQ p funcs vars ex=true) ?_ ?_
 ·refine qS [0,2] Z<|Aq (p:=zP w1.heap.size) 0 Bz Z Z Ac<|Al (p:=AA (zP w1.heap.size) 0) (.inr Z) (zI ex.kind) AO Z (a1.ldp (i:=0) sM) Ac<|Ai<|A5<|qS [0,0] Z ?_
  by_cases d5:ex.kind=((1:Nat):Int)
  ·refine Av true Z Z (A7 d5) Ac<|Ae 1 Z<|Ag Z<|qS [0,0,0,0,0,0,0,2,0,0,0] Z<|Af 2 Z ?_
   cases dh:pl
   ·exact Ae 9 Z<|A3<|AK<|Ap<|Ah [6] Z (.bool false) Z ⟨Cs,ag⟩
   refine Af 1 Z ?_
   by_cases bg:(ex.kids.length:Int)=((0:Nat):Int)
   ·refine Av true Z Z (A7 bg) (Ak (e:=29) Z Z Z)<|Af 2 Z<|Aq (p:=zP w1.heap.size) 1 Co Z Z (Ak (e:=33) Z Z Z)<|Al (p:=AA (zP w1.heap.size) 1) (.inr Z) (zI ex.num) AO Z (a1.ldp (i:=1) sM) (Ak (e:=33) Z Z Z)<|AD 170 [] [] [zI ex.num] Z Z dV (Ak (e:=33) Z Z Z) (.bool<|JX ex.num) (fun wq=>Ii wq _ hex.rng.num)<|Ae 2 Z<|A3<|AK<|Ap ?_
    exact Ah [6] Z (.bool<|JX ex.num) Z ⟨Cs,ag⟩
   exact Av false Z Z (A8 bg) (Ak (e:=29) Z Z Z)<|Ae 7 Z<|A3<|AK<|Ap<|Ah [6] Z (.bool false) Z ⟨Cs,ag⟩
  refine Av false Z Z (A8 d5) Ac<|Ae 1 Z<|Aj Z<|qS [0,0] Z ?_
  by_cases bh:ex.kind=((2:Nat):Int)
  ·refine Av true Z Z (A7 bh) Ac<|Ae 1 Z<|Ag Z<|qS [0,0,0,0,0,0,0,2,0,0,0,0,0] Z<|Af 2 Z ?_
   cases di:pl
   ·exact Ae 11 Z<|A3<|AK<|Ap<|Ah [6] Z (.bool false) Z ⟨Cs,ag⟩
   refine Af 1 Z ?_
   by_cases bi:(ex.kids.length:Int)=((0:Nat):Int)
   ·refine Av true Z Z (A7 bi) (Ak (e:=41) Z Z Z)<|Af 2 Z<|Aq (p:=zP w1.heap.size) 1 Co Z Z (Ak (e:=45) Z Z Z)<|Al (p:=AA (zP w1.heap.size) 1) (.inr Z) (zI ex.num) AO Z (a1.ldp (i:=1) sM) (Ak (e:=45) Z Z Z)<|Af 1 Z<|Cb (vars-1) Z Z (Dh oM oM) (Ak (e:=45) Z Z Z)<|AD 117 [] [] [zI ex.num,zI ((0:Nat):Int),zI (vars-1)] Z Z GT (Ak (e:=45) Z Z Z) (.bool (decide (((0:Nat):Int)≤ex.num) && decide (ex.num≤(vars-1)))) (fun wq=>BP wq _ _ _ hex.rng.num oM oM)<|Ae 2 Z<|A3<|AK ?_
    exact Ap<|Ah [6] Z (.bool (decide (((0:Nat):Int)≤ex.num) && decide (ex.num≤(vars-1)))) Z ⟨Cs,ag⟩
   exact Av false Z Z (A8 bi) (Ak (e:=41) Z Z Z)<|Ae 9 Z<|A3<|AK<|Ap<|Ah [6] Z (.bool false) Z ⟨Cs,ag⟩
  refine Av false Z Z (A8 bh) Ac<|Ae 1 Z<|Aj Z<|A0<|Ib (S:=Bool) (fun(b5:Bool)=>([(52,.bool b5),(2,zI vars),(3,zP w.heap.size),(4,zP w1.heap.size),(7,zI (ex.kids.length:Int)),(8,.bool pl),(25,zI ex.kind)])) (fun(b5:Bool) (W:World)=>AB w W∧BX W.heap w.heap.size [vp,zI funcs]∧BX W.heap w1.heap.size [zI ex.kind,zI ex.num,zI ex.pick,zI ex.count,ve]∧b5=decide (ex.kind=3∨ex.kind=4∨ex.kind=5∨ex.kind=6∨ex.kind=9)) ?_ ?_
  ·refine qS [0,0] Z ?_
   by_cases bj:ex.kind=((3:Nat):Int)
   ·exact Av true Z Z (A7 bj) Ac<|Ae 1 Z<|Ag Z<|A4 ⟨true,_,rfl,zR,⟨ag,a4,a1,K4⟩⟩
   refine Av false Z Z (A8 bj) Ac<|Ae 1 Z<|Aj Z<|qS [0,0] Z ?_
   by_cases bk:ex.kind=((4:Nat):Int)
   ·exact Av true Z Z (A7 bk) Ac<|Ae 1 Z<|Ag Z<|A4 ⟨true,_,rfl,zR,⟨ag,a4,a1,K4⟩⟩
   refine Av false Z Z (A8 bk) Ac<|Ae 1 Z<|Aj Z<|qS [0,0] Z ?_
   by_cases bl:ex.kind=((5:Nat):Int)
   ·exact Av true Z Z (A7 bl) Ac<|Ae 1 Z<|Ag Z<|A4 ⟨true,_,rfl,zR,⟨ag,a4,a1,K4⟩⟩
   refine Av false Z Z (A8 bl) Ac<|Ae 1 Z<|Aj Z<|qS [0,0] Z ?_
   by_cases bm:ex.kind=((6:Nat):Int)
   ·exact Av true Z Z (A7 bm) Ac<|Ae 1 Z<|Ag Z<|A4 ⟨true,_,rfl,zR,⟨ag,a4,a1,K4⟩⟩
   exact Av false Z Z (A8 bm) Ac<|Ae 1 Z<|Aj Z<|Ad _ [0,0] Z<|Av (decide (ex.kind=((9:Nat):Int))) Z Z Z Ac<|Ae 1 Z ⟨decide (ex.kind=((9:Nat):Int)),_,rfl,zR,⟨ag,a4,a1,K4⟩⟩
  clear a1 a4 ag bf
  rintro b5 ρ17 ef ⟨a2,a3,a0,h5b⟩
  have bn:w.heap.size≤ef.heap.size:=a2.size
  have dj:=a3.lt
  have dk:=a0.lt
  cases bo:b5
  ·refine Aj (by first|rfl|exact zW bo)<|qS [0,0] Z ?_
   have h5n:=of_decide_eq_false (h5b.symm.trans ‹_›)
   clear h5b
   by_cases bp:ex.kind=((7:Nat):Int)
   ·refine Av true Z Z (A7 bp) Ac<|Ae 1 Z<|Ag Z<|qS [0,0,0,0,2,0,0,0,0,0,0] Z<|Af 1 Z<|BH (!pl) Z Z Ac<|Af 1 Z ?_
    cases dl:(!pl)
    ·refine Aq (p:=zP w1.heap.size) 1 Co Z Z (Ak (e:=73) Z Z Z)<|Al (p:=AA (zP w1.heap.size) 1) (.inr Z) (zI ex.num) AO Z (a0.ldp (i:=1) sM) (Ak (e:=73) Z Z Z) ?_
     by_cases bq:ex.num≠((0:Nat):Int)
     ·exact B4 true Z Z (A7 bq) (Ak (e:=73) Z Z Z)<|Ae 5 Z<|Ag Z<|qT Z<|A3<|AK<|Ap<|Ah [6] Z (.bool false) Z ⟨Cs,a2⟩
     refine B4 false Z Z (A8 bq) (Ak (e:=73) Z Z Z)<|Af 3 Z ?_
     by_cases br:(ex.kids.length:Int)≠((1:Nat):Int)
     ·exact B4 true Z Z (A7 br) (Ak (e:=78) Z Z Z)<|Ae 1 Z<|Ag Z<|qT Z<|A3<|AK<|Ap<|Ah [6] Z (.bool false) Z ⟨Cs,a2⟩
     exact B4 false Z Z (A8 br) (Ak (e:=78) Z Z Z)<|Ae 1 Z<|Aj Z<|A4 ⟨(),_,rfl,zR,⟨a2,a3,a0,K3⟩⟩
    exact Ae 8 Z<|Ag Z<|qT Z<|A3<|AK<|Ap<|Ah [6] Z (.bool false) Z ⟨Cs,a2⟩
   refine Av false Z Z (A8 bp) Ac<|Ae 1 Z<|Aj Z<|qS [0,0] Z ?_
   by_cases bs:ex.kind=((8:Nat):Int)
   ·refine Av true Z Z (A7 bs) Ac<|Ae 1 Z<|Ag Z<|qS [0,0,0,0,2,0,0,0,0,0,0] Z<|Af 1 Z<|BH (!pl) Z Z Ac<|Af 1 Z ?_
    cases dm:(!pl)
    ·refine Aq (p:=zP w1.heap.size) 1 Co Z Z (Ak (e:=86) Z Z Z)<|Al (p:=AA (zP w1.heap.size) 1) (.inr Z) (zI ex.num) AO Z (a0.ldp (i:=1) sM) (Ak (e:=86) Z Z Z) ?_
     by_cases bt:ex.num≠((0:Nat):Int)
     ·exact B4 true Z Z (A7 bt) (Ak (e:=86) Z Z Z)<|Ae 5 Z<|Ag Z<|qT Z<|A3<|AK<|Ap<|Ah [6] Z (.bool false) Z ⟨Cs,a2⟩
     refine B4 false Z Z (A8 bt) (Ak (e:=86) Z Z Z)<|Af 3 Z ?_
     by_cases bu:(ex.kids.length:Int)≠((3:Nat):Int)
     ·exact B4 true Z Z (A7 bu) (Ak (e:=91) Z Z Z)<|Ae 1 Z<|Ag Z<|qT Z<|A3<|AK<|Ap<|Ah [6] Z (.bool false) Z ⟨Cs,a2⟩
     exact B4 false Z Z (A8 bu) (Ak (e:=91) Z Z Z)<|Ae 1 Z<|Aj Z<|A4 ⟨(),_,rfl,zR,⟨a2,a3,a0,K3⟩⟩
    exact Ae 8 Z<|Ag Z<|qT Z<|A3<|AK<|Ap<|Ah [6] Z (.bool false) Z ⟨Cs,a2⟩
   refine Av false Z Z (A8 bs) Ac<|Ae 1 Z<|Aj Z<|A0<|Ib (S:=Bool) (fun(b10:Bool)=>([(95,.bool b10),(2,zI vars),(3,zP w.heap.size),(4,zP w1.heap.size),(7,zI (ex.kids.length:Int))])) (fun(b10:Bool) (W:World)=>AB w W∧BX W.heap w.heap.size [vp,zI funcs]∧BX W.heap w1.heap.size [zI ex.kind,zI ex.num,zI ex.pick,zI ex.count,ve]∧b10=decide (ex.kind=10∨ex.kind=11)) ?_ ?_
   ·refine qS [0,0] Z ?_
    by_cases bv:ex.kind=((10:Nat):Int)
    ·exact Av true Z Z (A7 bv) Ac<|Ae 1 Z<|Ag Z<|A4 ⟨true,_,rfl,zR,⟨a2,a3,a0,K4⟩⟩
    exact Av false Z Z (A8 bv) Ac<|Ae 1 Z<|Aj Z<|Ad _ [0,0] Z<|Av (decide (ex.kind=((11:Nat):Int))) Z Z Z Ac<|Ae 1 Z ⟨decide (ex.kind=((11:Nat):Int)),_,rfl,zR,⟨a2,a3,a0,K4⟩⟩
   clear a0 a3 a2 bn
   rintro b10 ρ33 e8 ⟨an,a6,a7,h10b⟩
   have d6:w.heap.size≤e8.heap.size:=an.size
   have dn:=a6.lt
   have dq:=a7.lt
   cases bw:b10
   ·refine Aj (by first|rfl|exact zW bw)<|qS [0] Z ?_
    have h10n:=of_decide_eq_false (h10b.symm.trans ‹_›)
    clear h10b
    exact Ae 1 Z<|A3<|AK<|Ap<|Ah [6] Z (.bool false) Z ⟨Cs,an⟩
   refine Ag (by first|rfl|exact zW bw)<|A0<|qS [0,2,0,2,0,0,0] Z ?_
   have h5k:=of_decide_eq_true (h10b.symm.trans ‹_›)
   clear h10b
   refine Aq (p:=zP w1.heap.size) 1 Co Z Z Ac<|Al (p:=AA (zP w1.heap.size) 1) (.inr Z) (zI ex.num) AO Z (a7.ldp (i:=1) sM) Ac<|Aq (p:=zP w.heap.size) 1 bQ Z Z Ac<|Al (p:=AA (zP w.heap.size) 1) (.inr Z) (zI funcs) AO Z (a6.ldp (i:=1) sM) Ac<|Cb (funcs-1) Z Z (Dh oM oM) Ac<|AD 117 [] [] [zI ex.num,zI ((0:Nat):Int),zI (funcs-1)] Z Z GT Ac (.bool (decide (((0:Nat):Int)≤ex.num) && decide (ex.num≤(funcs-1)))) (fun wq=>BP wq _ _ _ hex.rng.num oM oM) ?_
   refine BH (!(decide (((0:Nat):Int)≤ex.num) && decide (ex.num≤(funcs-1)))) Z Z Ac<|Ai ?_
   cases bx:(!(decide (((0:Nat):Int)≤ex.num) && decide (ex.num≤(funcs-1))))
   ·refine Aj (by first|rfl|exact zW bx)<|A4<|qS [0,0,2,0,2,0,2,3,4] Z ?_
    have hnr:0≤ex.num∧ex.num≤funcs-1:=by have h9:=‹(!(decide (((0:Nat):Int)≤ex.num) && decide (ex.num≤funcs-1)))=false›;simpa using h9
    refine Aq (p:=zP w.heap.size) 0 bP Z Z Ac<|Aq (p:=AA (zP w.heap.size) 0) (b:=w.heap.size) (o:=0) 0 BQ Z Z Ac<|Al (p:=AA (AA (zP w.heap.size) 0) 0) (.inr Z) vp Cr Z (a6.ldp (i:=0) sM) Ac<|Aq (p:=zP w1.heap.size) 1 Co Z Z Ac<|Al (p:=AA (zP w1.heap.size) 1) (.inr Z) (zI ex.num) AO Z (a7.ldp (i:=1) sM) Ac ?_
    refine Aw (v:=vp) ((ex.num).toNat) H6 CM Z Z hp.isSl oM sD Ac ?_
    obtain⟨cs40,cv,cw⟩:=hp.get (AC dp) Fn.zero (k:=(ex.num).toNat) sD
    obtain⟨aa,rfl,ao⟩:=RF.of cv
    have bz:=ao.rn.lenle
    unfold maxLen at bz
    refine AZ (p:=Ax vp ((ex.num).toNat) 3) (.inr Z) [.string<|(p.getD ((ex.num).toNat) Fn.zero).name,zI<|(p.getD ((ex.num).toNat) Fn.zero).params,aa] KT Z (fun e9 ad=>cw e9<|Az.of_ext []<|an.trans ad) Z Ac ?_
    have dr:=a6.lt
    have ds:=a7.lt
    refine Br (z:=.agg #[.string ByteArray.empty,zI 0,zN]) bJ Ac fun eg ax dt bd=>?_
    have d7:=ax.size
    have c0:=an.trans ax
    have ai:=a6.ext ax
    have aj:=a7.ext ax
    replace bd:BX eg.heap e8.heap.size [.string ByteArray.empty,zI 0,zN]:=bd
    refine BR (vs:=[.string<|(p.getD ((ex.num).toNat) Fn.zero).name,zI<|(p.getD ((ex.num).toNat) Fn.zero).params,aa]) KT Z Z ao.ones bd Z Z Ac fun ee ay du ac=>?_
    replace ac:BX ee.heap e8.heap.size [.string ((p.getD ((ex.num).toNat) Fn.zero).name),zI ((p.getD ((ex.num).toNat) Fn.zero).params),aa]:=ac
    have a8:AB w ee:=ay.below c0 (fun _ h=>zE h) c0.size
    have d8:=ay.size
    have az:=ai.chg ay (zB ·)
    have a9:=aj.chg ay (zB ·)
    refine Ai<|A0<|qS [0,0,2,0,0,0,2,0,2,0,0,0,0,0] Z<|Af 1 Z<|Aq (p:=zP e8.heap.size) 1 CG Z Z Ac<|Al (p:=AA (zP e8.heap.size) 1) (.inr Z) (zI<|(p.getD ((ex.num).toNat) Fn.zero).params) AO Z (ac.ldp (i:=1) sM) Ac ?_
    by_cases c1:(ex.kids.length:Int)≠(p.getD ((ex.num).toNat) Fn.zero).params
    ·exact B4 true Z Z (A7 c1) Ac<|Ae 10 Z<|Ag Z<|qT Z<|A3<|Ap<|AK<|Ap<|Ah [6] Z (.bool false) Z ⟨Cs,a8⟩
    refine B4 false Z Z (A8 c1) Ac<|Af 1 Z<|Aq (p:=zP w1.heap.size) 2 EK Z Z (Ak (e:=116) Z Z Z)<|Al (p:=AA (zP w1.heap.size) 2) (.inr Z) (zI ex.pick) AO Z (a9.ldp (i:=2) sM) (Ak (e:=116) Z Z Z)<|Aq (p:=zP e8.heap.size) 2 Cn Z Z (Ak (e:=116) Z Z Z)<|Al (p:=AA (zP e8.heap.size) 2) (.inr Z) aa BA Z (ac.ldp (i:=2) sM) (Ak (e:=116) Z Z Z)<|AN (v:=aa) DE Z ao.rn.isSl (Ak (e:=116) Z Z Z) ?_
    refine Cb (((p.getD (ex.num).toNat Fn.zero).outs.length:Int)-1) Z Z (Dh oM oM) (Ak (e:=116) Z Z Z)<|AD 117 [] [] [zI ex.pick,zI ((0:Nat):Int),zI (((p.getD (ex.num).toNat Fn.zero).outs.length:Int)-1)] Z Z GT (Ak (e:=116) Z Z Z) (.bool (decide (((0:Nat):Int)≤ex.pick) && decide (ex.pick≤(((p.getD (ex.num).toNat Fn.zero).outs.length:Int)-1)))) (fun wq=>BP wq _ _ _ hex.rng.pick oM oM)<|BH (!(decide (((0:Nat):Int)≤ex.pick) && decide (ex.pick≤(((p.getD (ex.num).toNat Fn.zero).outs.length:Int)-1)))) Z Z (Ak (e:=116) Z Z Z)<|Ae 1 Z ?_
    cases c2:(!(decide (((0:Nat):Int)≤ex.pick) && decide (ex.pick≤(((p.getD (ex.num).toNat Fn.zero).outs.length:Int)-1))))
    ·refine Aj (by first|rfl|exact zW c2)<|A4<|qS [0,2,0,0,0,2,0,0,0,0,2,0,0,0,2,0,0,2,0,0,0,2,0,0,0,0,0] Z<|Aq (p:=zP w1.heap.size) 0 Bz Z Z Ac<|Al (p:=AA (zP w1.heap.size) 0) (.inr Z) (zI ex.kind) AO Z (a9.ldp (i:=0) sM) Ac ?_
     by_cases c3:ex.kind=((10:Nat):Int)
     ·refine Av true Z Z (A7 c3) Ac<|Af 1 Z<|Aq (p:=zP w1.heap.size) 3 Ee Z Z (Ak (e:=129) Z Z Z)<|Al (p:=AA (zP w1.heap.size) 3) (.inr Z) (zI ex.count) AO Z (a9.ldp (i:=3) sM) (Ak (e:=129) Z Z Z) ?_
      by_cases c4:ex.count≠((0:Nat):Int)
      ·exact B4 true Z Z (A7 c4) (Ak (e:=129) Z Z Z)<|Ae 20 Z<|Ag Z<|qT Z<|A3<|AK<|Ap<|Ah [6] Z (.bool false) Z ⟨Cs,a8⟩
      refine B4 false Z Z (A8 c4) (Ak (e:=129) Z Z Z)<|Af 2 Z<|Aq (p:=zP w1.heap.size) 0 Bz Z Z (Ak (e:=134) Z Z Z)<|Al (p:=AA (zP w1.heap.size) 0) (.inr Z) (zI ex.kind) AO Z (a9.ldp (i:=0) sM) (Ak (e:=134) Z Z Z) ?_
      by_cases c5:ex.kind=((11:Nat):Int)
      ·refine Av true Z Z (A7 c5) (Ak (e:=134) Z Z Z)<|Af 1 Z<|Aq (p:=zP e8.heap.size) 2 Cn Z Z (Ak (e:=138) Z Z Z)<|Al (p:=AA (zP e8.heap.size) 2) (.inr Z) aa BA Z (ac.ldp (i:=2) sM) (Ak (e:=138) Z Z Z)<|AN (v:=aa) DE Z ao.rn.isSl (Ak (e:=138) Z Z Z)<|Aq (p:=zP e8.heap.size) 1 CG Z Z (Ak (e:=138) Z Z Z)<|Al (p:=AA (zP e8.heap.size) 1) (.inr Z) (zI<|(p.getD ((ex.num).toNat) Fn.zero).params) AO Z (ac.ldp (i:=1) sM) (Ak (e:=138) Z Z Z) ?_
       by_cases c6:((((p.getD ((ex.num).toNat) Fn.zero).outs).length:Nat):Int)≠(p.getD ((ex.num).toNat) Fn.zero).params
       ·exact B4 true Z Z (A7 c6) (Ak (e:=138) Z Z Z)<|Ae 8 Z<|Ag Z<|qT Z<|A3<|AK<|Ap<|Ah [6] Z (.bool false) Z ⟨Cs,a8⟩
       refine B4 false Z Z (A8 c6) (Ak (e:=138) Z Z Z)<|Af 1 Z<|Aq (p:=zP w1.heap.size) 3 Ee Z Z (Ak (e:=145) Z Z Z)<|Al (p:=AA (zP w1.heap.size) 3) (.inr Z) (zI ex.count) AO Z (a9.ldp (i:=3) sM) (Ak (e:=145) Z Z Z)<|AD 117 [] [] [zI ex.count,zI ((0:Nat):Int),zI ((8:Nat):Int)] Z Z GT (Ak (e:=145) Z Z Z) (.bool (decide (((0:Nat):Int)≤ex.count) && decide (ex.count≤((8:Nat):Int)))) (fun wq=>BP wq _ _ _ hex.rng.count oM oM)<|BH (!(decide (((0:Nat):Int)≤ex.count) && decide (ex.count≤((8:Nat):Int)))) Z Z (Ak (e:=145) Z Z Z) ?_
       refine Ae 3 Z ?_
       cases c7:(!(decide (((0:Nat):Int)≤ex.count) && decide (ex.count≤((8:Nat):Int))))
       ·exact Aj (by first|rfl|exact zW c7)<|A4 ⟨(),_,rfl,zR,⟨a8,az,a9,K3⟩⟩
       exact Ag (by first|rfl|exact zW c7)<|qT Z<|A3<|AK<|Ap<|Ah [6] Z (.bool false) Z ⟨Cs,a8⟩
      exact Av false Z Z (A8 c5) (Ak (e:=134) Z Z Z)<|Ae 15 Z<|Aj Z<|A4 ⟨(),_,rfl,zR,⟨a8,az,a9,K3⟩⟩
     refine Av false Z Z (A8 c3) Ac<|Af 6 Z<|Aq (p:=zP w1.heap.size) 0 Bz Z Z (Ak (e:=134) Z Z Z)<|Al (p:=AA (zP w1.heap.size) 0) (.inr Z) (zI ex.kind) AO Z (a9.ldp (i:=0) sM) (Ak (e:=134) Z Z Z) ?_
     by_cases c8:ex.kind=((11:Nat):Int)
     ·refine Av true Z Z (A7 c8) (Ak (e:=134) Z Z Z)<|Af 1 Z<|Aq (p:=zP e8.heap.size) 2 Cn Z Z (Ak (e:=138) Z Z Z)<|Al (p:=AA (zP e8.heap.size) 2) (.inr Z) aa BA Z (ac.ldp (i:=2) sM) (Ak (e:=138) Z Z Z)<|AN (v:=aa) DE Z ao.rn.isSl (Ak (e:=138) Z Z Z)<|Aq (p:=zP e8.heap.size) 1 CG Z Z (Ak (e:=138) Z Z Z)<|Al (p:=AA (zP e8.heap.size) 1) (.inr Z) (zI<|(p.getD ((ex.num).toNat) Fn.zero).params) AO Z (ac.ldp (i:=1) sM) (Ak (e:=138) Z Z Z) ?_
      by_cases c9:((((p.getD ((ex.num).toNat) Fn.zero).outs).length:Nat):Int)≠(p.getD ((ex.num).toNat) Fn.zero).params
      ·exact B4 true Z Z (A7 c9) (Ak (e:=138) Z Z Z)<|Ae 8 Z<|Ag Z<|qT Z<|A3<|AK<|Ap<|Ah [6] Z (.bool false) Z ⟨Cs,a8⟩
      refine B4 false Z Z (A8 c9) (Ak (e:=138) Z Z Z)<|Af 1 Z<|Aq (p:=zP w1.heap.size) 3 Ee Z Z (Ak (e:=145) Z Z Z)<|Al (p:=AA (zP w1.heap.size) 3) (.inr Z) (zI ex.count) AO Z (a9.ldp (i:=3) sM) (Ak (e:=145) Z Z Z)<|AD 117 [] [] [zI ex.count,zI ((0:Nat):Int),zI ((8:Nat):Int)] Z Z GT (Ak (e:=145) Z Z Z) (.bool (decide (((0:Nat):Int)≤ex.count) && decide (ex.count≤((8:Nat):Int)))) (fun wq=>BP wq _ _ _ hex.rng.count oM oM)<|BH (!(decide (((0:Nat):Int)≤ex.count) && decide (ex.count≤((8:Nat):Int)))) Z Z (Ak (e:=145) Z Z Z) ?_
      refine Ae 3 Z ?_
      cases ca:(!(decide (((0:Nat):Int)≤ex.count) && decide (ex.count≤((8:Nat):Int))))
      ·exact Aj (by first|rfl|exact zW ca)<|A4 ⟨(),_,rfl,zR,⟨a8,az,a9,K3⟩⟩
      exact Ag (by first|rfl|exact zW ca)<|qT Z<|A3<|AK<|Ap<|Ah [6] Z (.bool false) Z ⟨Cs,a8⟩
     exact Av false Z Z (A8 c8) (Ak (e:=134) Z Z Z)<|Ae 15 Z<|Aj Z<|A4 ⟨(),_,rfl,zR,⟨a8,az,a9,K3⟩⟩
    exact Ag (by first|rfl|exact zW c2)<|qT Z<|A3<|Ap<|AK<|Ap<|Ah [6] Z (.bool false) Z ⟨Cs,a8⟩
   exact Ag (by first|rfl|exact zW bx)<|qT Z<|A3<|Ap<|AK<|Ap<|Ah [6] Z (.bool false) Z ⟨Cs,an⟩
  refine Ag (by first|rfl|exact zW bo)<|qS [0,0,0,0,2,0,0,0,0,0,0] Z ?_
  have h5k:=of_decide_eq_true (h5b.symm.trans ‹_›)
  clear h5b
  refine Af 1 Z<|BH (!pl) Z Z Ac<|Af 1 Z ?_
  cases dv:(!pl)
  ·refine Aq (p:=zP w1.heap.size) 1 Co Z Z (Ak (e:=60) Z Z Z)<|Al (p:=AA (zP w1.heap.size) 1) (.inr Z) (zI ex.num) AO Z (a0.ldp (i:=1) sM) (Ak (e:=60) Z Z Z) ?_
   by_cases cb:ex.num≠((0:Nat):Int)
   ·exact B4 true Z Z (A7 cb) (Ak (e:=60) Z Z Z)<|Ae 5 Z<|Ag Z<|qT Z<|A3<|AK<|Ap<|Ah [6] Z (.bool false) Z ⟨Cs,a2⟩
   refine B4 false Z Z (A8 cb) (Ak (e:=60) Z Z Z)<|Af 3 Z ?_
   by_cases cc:(ex.kids.length:Int)≠((2:Nat):Int)
   ·exact B4 true Z Z (A7 cc) (Ak (e:=65) Z Z Z)<|Ae 1 Z<|Ag Z<|qT Z<|A3<|AK<|Ap<|Ah [6] Z (.bool false) Z ⟨Cs,a2⟩
   exact B4 false Z Z (A8 cc) (Ak (e:=65) Z Z Z)<|Ae 1 Z<|Aj Z<|A4 ⟨(),_,rfl,zR,⟨a2,a3,a0,K3⟩⟩
  exact Ae 8 Z<|Ag Z<|qT Z<|A3<|AK<|Ap<|Ah [6] Z (.bool false) Z ⟨Cs,a2⟩
 clear a1 a4 ag bf
 rintro u ρ8 w8 ⟨cx,ap,ah,hwn⟩
 have cy:w.heap.size≤w8.heap.size:=cx.size
 have dw:=ap.lt
 have dx:=ah.lt
 refine A0<|qS [0,2,0,0] Z<|Aq (p:=zP w1.heap.size) 4 Bt Z Z Ac<|Al (p:=AA (zP w1.heap.size) 4) (.inr Z) ve BA Z (ah.ldp (i:=4) sM) Ac<|AN (v:=ve) DE Z hex.rn.isSl Ac<|Ae 1 Z<|A5 ?_
 refine AQ (S:=Nat) (fun k=>([(156,zI (k:Int)),(2,zI vars),(3,zP w.heap.size),(4,zP w1.heap.size),(154,ve),(155,zI (ex.kids.length:Int))])) (fun k W=>AB w W∧BX W.heap w.heap.size [vp,zI funcs]∧BX W.heap w1.heap.size [zI ex.kind,zI ex.num,zI ex.pick,zI ex.count,ve]∧k≤ex.kids.length∧(∀j,j<k→wf p funcs (ex.kids.getD j Ex.zero) (if ex.kind=9∧j=1 then vars+1 else vars)=true)) (fun k=>ex.kids.length-k) 0 ⟨rfl,rfl,rfl,rfl,rfl,rfl,trivial⟩ ⟨cx,ap,ah,sD,(by intro j hj;omega)⟩ ?_
 clear ah ap cx cy
 rintro k ρ65 eb ⟨b0,ae,af,cz,hall⟩
 have d9:w.heap.size≤eb.heap.size:=b0.size
 have dy:=ae.lt
 have dz:=af.lt
 refine qS [0] Z ?_
 by_cases cd:(k:Int)<(ex.kids.length:Int)
 ·refine Ay true Z Z (A7 cd) Ac<|Ai<|A0<|Ag Z<|A4<|A0<|A5<|qS [0,0,2,3,0,4] Z ?_
  have hkd:=FV (l:=ex.kids) (k:=k) oM
  refine Af 1 Z<|Aw (v:=ve) k DE BE Z Z hex.rn.isSl Z sD Ac ?_
  obtain⟨cs69,d0,d1⟩:=hex.rn.get (AL dex) Ex.zero (k:=k) sD
  obtain⟨dd69,a5,e0,rfl,aq⟩:=RX.of d0
  have ce:=aq.rn.lenle
  unfold maxLen at ce
  refine AZ (p:=Ax ve k 5) (.inr Z) [zI<|(ex.kids.getD k Ex.zero).kind,zI<|(ex.kids.getD k Ex.zero).num,zI<|(ex.kids.getD k Ex.zero).pick,zI<|(ex.kids.getD k Ex.zero).count,a5] Bi Z (fun e9 ad=>d1 e9<|Az.of_ext []<|b0.trans ad) Z Ac ?_
  have e1:=ae.lt
  have e2:=af.lt
  refine Br (z:=.agg #[zI 0,zI 0,zI 0,zI 0,zN]) GV Ac fun eh b1 e3 be=>?_
  have da:=b1.size
  have cf:=b0.trans b1
  have ak:=ae.ext b1
  have al:=af.ext b1
  replace be:BX eh.heap eb.heap.size [zI 0,zI 0,zI 0,zI 0,zN]:=be
  refine Af 1 Z (BR (vs:=[zI<|(ex.kids.getD k Ex.zero).kind,zI<|(ex.kids.getD k Ex.zero).num,zI<|(ex.kids.getD k Ex.zero).pick,zI<|(ex.kids.getD k Ex.zero).count,a5]) Bi Z Z aq.ones be Z Z Ac fun ea b2 e4 ar=>?_)
  replace ar:BX ea.heap eb.heap.size [zI ((ex.kids.getD k Ex.zero).kind),zI ((ex.kids.getD k Ex.zero).num),zI ((ex.kids.getD k Ex.zero).pick),zI ((ex.kids.getD k Ex.zero).count),a5]:=ar
  have ab:AB w ea:=b2.below cf (fun _ h=>zE h) cf.size
  have db:=b2.size
  have am:=ak.chg b2 (zB ·)
  have b3:=al.chg b2 (zB ·)
  refine Ai<|qS [0,0] Z<|Ae 2 Z<|A0<|qS [0,2,0,0,0,0,0] Z<|Aq (p:=zP w1.heap.size) 0 Bz Z Z Ac<|Al (p:=AA (zP w1.heap.size) 0) (.inr Z) (zI ex.kind) AO Z (b3.ldp (i:=0) sM) Ac ?_
  by_cases cg:ex.kind=((9:Nat):Int)
  ·refine Av true Z Z (A7 cg) Ac<|Af 2 Z ?_
   by_cases ch:(k:Int)=((1:Nat):Int)
   ·refine Av true Z Z (A7 ch) (Ak (e:=165) Z Z Z)<|Ae 1 Z<|Ag Z<|Ad _ [0,0,0] Z<|Af 1 Z<|AG (vars+1) Z Z (Dh oM oM) Ac<|Ae 1 Z<|qS [2,2,0,3,0] Z<|AZ (p:=zP w.heap.size) (.inr Z) [vp,zI funcs] Sd Z (fun e9 ad=>LD.of_box<|BX.ext (w:=ea) am ad) Z Ac<|AZ (p:=zP eb.heap.size) (.inr Z) [zI<|(ex.kids.getD k Ex.zero).kind,zI<|(ex.kids.getD k Ex.zero).num,zI<|(ex.kids.getD k Ex.zero).pick,zI<|(ex.kids.getD k Ex.zero).count,a5] Bi Z (fun e9 ad=>LD.of_box<|BX.ext (w:=ea) ar ad) Z Ac<|Af 1 Z ?_
    refine As 237 [] [] [.agg #[vp,zI funcs],.agg #[zI<|(ex.kids.getD k Ex.zero).kind,zI<|(ex.kids.getD k Ex.zero).num,zI<|(ex.kids.getD k Ex.zero).pick,zI<|(ex.kids.getD k Ex.zero).count,a5],zI (vars+1)] Z Z U4 Ac (ih dd69 oM _ dp vp (p) (funcs) a5 (ex.kids.getD k Ex.zero) _ (hp.ext (Am<|AC dp) ab) _hfuncs (aq.ext ab) oM oM oM) ?_
    rintro ei ej ⟨rfl,au⟩
    refine⟨_,rfl,au,?_⟩
    have dc:=au.size
    have ci:=ab.trans au
    have b4:=am.ext au
    have b6:=b3.ext au
    refine BH (!(wf p funcs (ex.kids.getD k Ex.zero) (vars+1))) Z Z Ac<|Ai ?_
    cases cj:(!(wf p funcs (ex.kids.getD k Ex.zero) (vars+1)))
    ·refine Aj (by first|rfl|exact zW cj)<|A4<|Ad _ [0,0] Z<|AG ((k+1:Nat):Int) Z Z (Bd oM sD) Ac<|Ae 1 Z ?_
     exact⟨k+1,_,rfl,zR,⟨ci,b4,b6,sD,Sg⟩,zD⟩
    exact Ag (by first|rfl|exact zW cj)<|qT Z<|A3<|AK<|Ap<|Ap<|AK<|Ap<|Ah [6] Z (.bool false) Z ⟨Cs,ci⟩
   refine Av false Z Z (A8 ch) (Ak (e:=165) Z Z Z)<|Ae 1 Z<|Aj Z<|A4<|qS [2,2,0,3,0] Z<|AZ (p:=zP w.heap.size) (.inr Z) [vp,zI funcs] Sd Z (fun e9 ad=>LD.of_box<|BX.ext (w:=ea) am ad) Z Ac<|AZ (p:=zP eb.heap.size) (.inr Z) [zI<|(ex.kids.getD k Ex.zero).kind,zI<|(ex.kids.getD k Ex.zero).num,zI<|(ex.kids.getD k Ex.zero).pick,zI<|(ex.kids.getD k Ex.zero).count,a5] Bi Z (fun e9 ad=>LD.of_box<|BX.ext (w:=ea) ar ad) Z Ac<|Af 1 Z ?_
   refine As 237 [] [] [.agg #[vp,zI funcs],.agg #[zI<|(ex.kids.getD k Ex.zero).kind,zI<|(ex.kids.getD k Ex.zero).num,zI<|(ex.kids.getD k Ex.zero).pick,zI<|(ex.kids.getD k Ex.zero).count,a5],zI vars] Z Z U4 Ac (ih dd69 oM _ dp vp (p) (funcs) a5 (ex.kids.getD k Ex.zero) _ (hp.ext (Am<|AC dp) ab) _hfuncs (aq.ext ab) _hvars oM oM) ?_
   rintro ek el ⟨rfl,av⟩
   refine⟨_,rfl,av,?_⟩
   have dd:=av.size
   have ck:=ab.trans av
   have b7:=am.ext av
   have b8:=b3.ext av
   refine BH (!(wf p funcs (ex.kids.getD k Ex.zero) vars)) Z Z Ac<|Ai ?_
   cases cl:(!(wf p funcs (ex.kids.getD k Ex.zero) vars))
   ·refine Aj (by first|rfl|exact zW cl)<|A4<|Ad _ [0,0] Z<|AG ((k+1:Nat):Int) Z Z (Bd oM sD) Ac<|Ae 1 Z ?_
    exact⟨k+1,_,rfl,zR,⟨ck,b7,b8,sD,Sg⟩,zD⟩
   exact Ag (by first|rfl|exact zW cl)<|qT Z<|A3<|AK<|Ap<|Ap<|AK<|Ap<|Ah [6] Z (.bool false) Z ⟨Cs,ck⟩
  refine Av false Z Z (A8 cg) Ac<|Ae 4 Z<|Aj Z<|A4<|qS [2,2,0,3,0] Z<|AZ (p:=zP w.heap.size) (.inr Z) [vp,zI funcs] Sd Z (fun e9 ad=>LD.of_box<|BX.ext (w:=ea) am ad) Z Ac<|AZ (p:=zP eb.heap.size) (.inr Z) [zI<|(ex.kids.getD k Ex.zero).kind,zI<|(ex.kids.getD k Ex.zero).num,zI<|(ex.kids.getD k Ex.zero).pick,zI<|(ex.kids.getD k Ex.zero).count,a5] Bi Z (fun e9 ad=>LD.of_box<|BX.ext (w:=ea) ar ad) Z Ac<|Af 1 Z ?_
  refine As 237 [] [] [.agg #[vp,zI funcs],.agg #[zI<|(ex.kids.getD k Ex.zero).kind,zI<|(ex.kids.getD k Ex.zero).num,zI<|(ex.kids.getD k Ex.zero).pick,zI<|(ex.kids.getD k Ex.zero).count,a5],zI vars] Z Z U4 Ac (ih dd69 oM _ dp vp (p) (funcs) a5 (ex.kids.getD k Ex.zero) _ (hp.ext (Am<|AC dp) ab) _hfuncs (aq.ext ab) _hvars oM oM) ?_
  rintro em en ⟨rfl,aw⟩
  refine⟨_,rfl,aw,?_⟩
  have de:=aw.size
  have cm:=ab.trans aw
  have b9:=am.ext aw
  have ba:=b3.ext aw
  refine BH (!(wf p funcs (ex.kids.getD k Ex.zero) vars)) Z Z Ac<|Ai ?_
  cases cn:(!(wf p funcs (ex.kids.getD k Ex.zero) vars))
  ·refine Aj (by first|rfl|exact zW cn)<|A4<|Ad _ [0,0] Z<|AG ((k+1:Nat):Int) Z Z (Bd oM sD) Ac<|Ae 1 Z ?_
   exact⟨k+1,_,rfl,zR,⟨cm,b9,ba,sD,Sg⟩,zD⟩
  exact Ag (by first|rfl|exact zW cn)<|qT Z<|A3<|AK<|Ap<|Ap<|AK<|Ap<|Ah [6] Z (.bool false) Z ⟨Cs,cm⟩
 exact Ay false Z Z (A8 cd) Ac<|Ai<|A0<|Aj Z<|A6<|Au<|Au<|An<|qT Z<|A3<|Ah [6] Z (.bool true) Z ⟨Cs,b0⟩
theorem Si {s:ByteArray}{k:Nat}(hk:k<s.size)(h:(L5 s k<97∨122<L5 s k)∧(k=0∨L5 s k<48∨57<L5 s k)):false=Na s:=by
  have hc:cF s k=false:=by
    unfold cF
    rcases h with⟨h1|h1,h2|h2|h2⟩ <;> simp <;> omega
  unfold Na
  rw[Lq hk hc,Bool.and_false]
theorem Uc {s:ByteArray}{k:Nat}(h:(97≤L5 s k∧L5 s k≤122)∨(k≠0∧48≤L5 s k∧L5 s k≤57)):cF s k=true:=by
  unfold cF
  rcases h with h|h <;> simp <;> omega
theorem YN {s:ByteArray}{k:Nat}{b:Bool}(h:(List.range k).all (cF s)=true)(hk:k=s.size)(hb:b=(decide (1≤s.size) && decide (s.size≤12))):b=Na s:=by
  subst hk
  unfold Na
  rw[h,Bool.and_true,hb]
theorem IS {p:Prop}(h:p:=by first|exact AF (Si (k:=k) oM oM)|exact AF (YN hq oM (by first|(rw[A7 (show 1≤s.size by omega),Bool.true_and];exact decide_eq_decide.2 oM)|(rw[A8 (show ¬1≤s.size by omega)];rfl)))):p:=h
theorem Od (w:World)(s:ByteArray)  (hl:s.size≤1000000000) :
  Calls Tryz.prog 203 #[.string s] w (fun e w'=>e=.returned (.bool (Na s))∧w'=w):=by
 refine At [.string s] 44 Tryz.func203 Z Z sM ?_
 have a3:w=w:=rfl
 refine qT Z<|A0<|qS [0,0,0] Z<|Af 1 Z<|MJ (s:=s) u9 Z Ac<|Ae 1 Z<|A5 ?_
 refine AQ (S:=Nat) (fun k=>([(6,zI (k:Int)),(0,.string s),(5,zI (s.size:Int))])) (fun k W=>W=w∧k≤s.size∧(List.range k).all (cF s)=true) (fun k=>s.size-k) 0 ⟨rfl,rfl,rfl,trivial⟩ ⟨a3,sD,(by rfl)⟩ ?_
 clear a3
 rintro k ρ1 w1 ⟨a0,a4,hq⟩
 refine qS [0] Z ?_
 by_cases a5:(k:Int)<(s.size:Int)
 ·refine Ay true Z Z (A7 a5) Ac<|Ai<|A0<|Ag Z<|A4<|A0<|A5<|qS [0,0] Z<|Ae 2 Z<|qS [0,0,0,0,0,0,0,0,0,0,0,0,0,0,0,0,0,0,0,0,0,0,0,0,0,0] Z<|Af 2 Z<|DA (s:=s) k u9 Z Z Z sD Ac ?_
  by_cases a6:((L5 s k:Nat):Int)<97
  ·refine Ay true Z Z (A7 a6) Ac<|Af 8 Z ?_
   by_cases a7:(k:Int)=((0:Nat):Int)
   ·exact Av true Z Z (A7 a7) (Ak (e:=19) Z Z Z)<|Ae 13 Z<|Ag Z<|qT Z<|A3<|AK<|Ap<|Ap<|AK<|Ap<|Ah [2] Z (.bool false) Z ⟨IS,a0⟩
   refine Av false Z Z (A8 a7) (Ak (e:=19) Z Z Z)<|Af 3 Z<|DA (s:=s) k u9 Z Z Z sD (Ak (e:=22) Z Z Z) ?_
   by_cases a8:((L5 s k:Nat):Int)<48
   ·exact Ay true Z Z (A7 a8) (Ak (e:=22) Z Z Z)<|Ae 8 Z<|Ag Z<|qT Z<|A3<|AK<|Ap<|Ap<|AK<|Ap<|Ah [2] Z (.bool false) Z ⟨IS,a0⟩
   refine Ay false Z Z (A8 a8) (Ak (e:=22) Z Z Z)<|Af 4 Z<|DA (s:=s) k u9 Z Z Z sD (Ak (e:=28) Z Z Z) ?_
   by_cases a9:57<((L5 s k:Nat):Int)
   ·exact C9 true Z Z (A7 a9) (Ak (e:=28) Z Z Z)<|Ae 2 Z<|Ag Z<|qT Z<|A3<|AK<|Ap<|Ap<|AK<|Ap<|Ah [2] Z (.bool false) Z ⟨IS,a0⟩
   refine C9 false Z Z (A8 a9) (Ak (e:=28) Z Z Z)<|Ae 2 Z<|Aj Z<|A4<|Ad _ [0,0] Z<|AG ((k+1:Nat):Int) Z Z (Bd oM sD) Ac<|Ae 1 Z ?_
   exact⟨k+1,_,rfl,zR,⟨a0,sD,(by exact Ep hq (Uc oM))⟩,zD⟩
  refine Ay false Z Z (A8 a6) Ac<|Af 3 Z<|DA (s:=s) k u9 Z Z Z sD (Ak (e:=13) Z Z Z) ?_
  by_cases aa:122<((L5 s k:Nat):Int)
  ·refine C9 true Z Z (A7 aa) (Ak (e:=13) Z Z Z)<|Af 3 Z ?_
   by_cases ab:(k:Int)=((0:Nat):Int)
   ·exact Av true Z Z (A7 ab) (Ak (e:=19) Z Z Z)<|Ae 13 Z<|Ag Z<|qT Z<|A3<|AK<|Ap<|Ap<|AK<|Ap<|Ah [2] Z (.bool false) Z ⟨IS,a0⟩
   refine Av false Z Z (A8 ab) (Ak (e:=19) Z Z Z)<|Af 3 Z<|DA (s:=s) k u9 Z Z Z sD (Ak (e:=22) Z Z Z) ?_
   by_cases ac:((L5 s k:Nat):Int)<48
   ·exact Ay true Z Z (A7 ac) (Ak (e:=22) Z Z Z)<|Ae 8 Z<|Ag Z<|qT Z<|A3<|AK<|Ap<|Ap<|AK<|Ap<|Ah [2] Z (.bool false) Z ⟨IS,a0⟩
   refine Ay false Z Z (A8 ac) (Ak (e:=22) Z Z Z)<|Af 4 Z<|DA (s:=s) k u9 Z Z Z sD (Ak (e:=28) Z Z Z) ?_
   by_cases a1:57<((L5 s k:Nat):Int)
   ·exact C9 true Z Z (A7 a1) (Ak (e:=28) Z Z Z)<|Ae 2 Z<|Ag Z<|qT Z<|A3<|AK<|Ap<|Ap<|AK<|Ap<|Ah [2] Z (.bool false) Z ⟨IS,a0⟩
   refine C9 false Z Z (A8 a1) (Ak (e:=28) Z Z Z)<|Ae 2 Z<|Aj Z<|A4<|Ad _ [0,0] Z<|AG ((k+1:Nat):Int) Z Z (Bd oM sD) Ac<|Ae 1 Z ?_
   exact⟨k+1,_,rfl,zR,⟨a0,sD,(by exact Ep hq (Uc oM))⟩,zD⟩
  refine C9 false Z Z (A8 aa) (Ak (e:=13) Z Z Z)<|Ae 17 Z<|Aj Z<|A4<|Ad _ [0,0] Z<|AG ((k+1:Nat):Int) Z Z (Bd oM sD) Ac<|Ae 1 Z ?_
  exact⟨k+1,_,rfl,zR,⟨a0,sD,(by exact Ep hq (Uc oM))⟩,zD⟩
 refine Ay false Z Z (A8 a5) Ac<|Ai<|A0<|Aj Z<|A6<|Au<|Au<|An<|qS [0,0,0,0,0,0,0,0,0] Z<|Af 1 Z<|MJ (s:=s) u9 Z Ac ?_
 by_cases a2:((1:Nat):Int)≤(s.size:Int)
 ·exact FB true Z Z (A7 a2) Ac<|Af 2 Z<|MJ (s:=s) u9 Z (Ak (e:=39) Z Z Z)<|DF (decide ((s.size:Int)≤((12:Nat):Int))) Z Z Z (Ak (e:=39) Z Z Z)<|Ae 2 Z<|A3<|Ah [2] Z (.bool<|decide ((s.size:Int)≤((12:Nat):Int))) Z ⟨IS,a0⟩
 exact FB false Z Z (A8 a2) Ac<|Ae 6 Z<|A3<|Ah [2] Z (.bool false) Z ⟨IS,a0⟩
theorem Iq (w:World)(dx:Nat)(vo:Value)(x:Fn)(bf:Nat)(vf:Value)(f:Fn)(hx:RF [] dx w.heap vo x)(hBf:BX w.heap bf [.string f.name,zI f.params,vf])  :
  Calls Tryz.prog 204 #[(.agg #[(.string x.name),(zI x.params),vo]),zP bf] w (fun e w'=>e=.returned (.bool (JV x.name f.name))∧AB w w'):=by
 refine At [.agg #[.string x.name,zI x.params,vo],zP bf] 9 Tryz.func204 Z Z sM ?_
 have a3:AB w w:=AB.refl w
 have a8:=hx.rn.lenle
 unfold maxLen at a8
 refine qS [3,0] Z ?_
 have a6:=hBf.lt
 refine C8 (cs:=#[.string x.name,zI x.params,vo]) Z Ac fun w1 a1 a7 a2=>?_
 have a4:=a1.size
 have a5:=a3.trans a1
 have a0:=hBf.ext a1
 replace a2:BX w1.heap w.heap.size [.string x.name,zI x.params,vo]:=a2
 exact Ae 1 Z<|qS [0,2,0,2,0,0] Z<|Aq (p:=zP w.heap.size) 0 LC Z Z Ac<|Al (p:=AA (zP w.heap.size) 0) (.inr Z) (.string x.name) Sc Z (a2.ldp (i:=0) sM) Ac<|Aq (p:=zP bf) 0 LC Z Z Ac<|Al (p:=AA (zP bf) 0) (.inr Z) (.string f.name) Sc Z (a0.ldp (i:=0) sM) Ac<|Rt (JV x.name f.name) u9 Z Z Z Ac<|Ae 1 Z<|A3<|Ah [3] Z (.bool<|JV x.name f.name) Z ⟨rfl,a5⟩
theorem Dt (w:World) (da:Nat) (va:Value) (a:List Fn) (q:Nat) (qf qc:List Value) (pr:Fn→Bool) (ha:RP [] da w.heap va a) (hcf_q:((Tryz.prog.funcs[q]?).map fun fn=>(fn.name != "runtime.NumGoroutine") && fn.body.isSome) = some true) (hpr:∀ (d9:Nat) (u:Value) (x:Fn) w1,RF [] d9 w1.heap u x→AB w w1→Calls Tryz.prog q (qf++[Value.agg #[Value.string x.name,Value.int .i64 x.params,u]]++qc).toArray w1 (fun e w2=>e = .returned (.bool (pr x))∧AB w1 w2))  :
  Calls Tryz.prog 201 #[va,.func (.func q) qf.toArray qc.toArray] w (fun e w'=>e = .returned (zI (Se pr a))∧AB w w'):=by
 refine At [va,.func (.func q) qf.toArray qc.toArray] 19 Tryz.func201 Z Z sM ?_
 have a5:AB w w:=AB.refl w
 have ag:=ha.lenle
 unfold maxLen at ag
 refine qT Z<|A0<|qS [0,0,0] Z<|Af 1 Z<|AN (v:=va) H6 Z ha.isSl Ac<|Ae 1 Z<|A5 ?_
 refine AQ (S:=Nat) (fun k=>([(8,zI ((k :Nat):Int)),(0,va),(1,.func (.func q) qf.toArray qc.toArray),(7,zI ((a.length :Nat):Int))])) (fun k W=>AB w W∧k≤a.length∧(∀ j,j < k→pr (a.getD j Fn.zero) = false)) (fun k=>a.length - k) 0 ⟨rfl,rfl,rfl,rfl,trivial⟩ ⟨a5,sD,(by intro j hj; omega)⟩ ?_
 clear a5
 rintro k ρ1 w1 ⟨a1,a6,hq⟩
 have aa:w.heap.size≤w1.heap.size:=a1.size
 refine qS [0] Z ?_
 by_cases a7:((k :Nat):Int) < ((a.length :Nat):Int)
 ·
  refine Ay true Z Z (A7 a7) Ac<|Ai<|A0<|Ag Z<|A4<|A0<|A5<|qS [0,0] Z<|Ae 2 Z<|qS [0,0,0,0,2,3] Z<|Af 3 Z<|Aw (v:=va) k H6 CM Z Z ha.isSl Z sD Ac ?_
  obtain ⟨cs3,ab,ac⟩:=ha.get (AC da) Fn.zero (k:=k) sD
  obtain ⟨a8,rfl,a2⟩:=RF.of ab
  have a3:=a2.rn.lenle
  unfold maxLen at a3
  refine AZ (p:=Ax va k 3) (.inr Z) [.string<|(a.getD k Fn.zero).name,zI<|(a.getD k Fn.zero).params,a8] KT Z (fun ah ad=>ac ah<|Az.of_ext []<|a1.trans ad) Z Ac ?_
  have a0:=hpr da a8 (a.getD k Fn.zero) w1 ⟨a2.rng,a2.rn.ext (Am<|AL da) a1⟩ a1
  refine As q qf qc _ Z Z hcf_q Ac a0 ?_
  rintro e4 w4 ⟨rfl,a4⟩
  refine ⟨_,rfl,a4,?_⟩
  have ae:=a4.size
  have a9:=a1.trans a4
  cases af:pr (a.getD k Fn.zero)
  ·
   refine Ai<|Aj Z<|A4<|Ad _ [0,0] Z<|AG ((k + 1 :Nat):Int) Z Z (Bd oM sD) Ac<|Ae 1 Z ?_
   exact ⟨k + 1,_,rfl,zR,⟨a9,sD,(by exact Q5 hq (by assumption))⟩,by first | omega | (dsimp only; omega)⟩
  
  exact Ai<|Ag Z<|qS [0,0] Z<|Ae 2 Z<|A3<|AK<|Ap<|Ap<|AK<|Ap<|Ah [4] Z (zI ((k :Nat):Int)) Z ⟨B5<|Sf Fn.zero hq oM (by assumption),a9⟩
 
 exact Ay false Z Z (A8 a7) Ac<|Ai<|A0<|Aj Z<|A6<|Au<|Au<|An<|qT Z<|A3<|Ah [4] Z (zI (-1)) Z ⟨B5<|YK Fn.zero hq oM,a1⟩
theorem Dc (w:World) (da:Nat) (va:Value) (a:List Fn) (q:Nat) (qf qc:List Value) (pr:Fn→Bool) (ha:RP [] da w.heap va a) (hcf_q:((Tryz.prog.funcs[q]?).map fun fn=>(fn.name != "runtime.NumGoroutine") && fn.body.isSome) = some true) (hpr:∀ (d9:Nat) (u:Value) (x:Fn) w1,RF [] d9 w1.heap u x→AB w w1→Calls Tryz.prog q (qf++[Value.agg #[Value.string x.name,Value.int .i64 x.params,u]]++qc).toArray w1 (fun e w2=>e = .returned (.bool (pr x))∧AB w1 w2))  :
  Calls Tryz.prog 133 #[va,.func (.func q) qf.toArray qc.toArray] w (fun e w'=>e = .returned (.bool (a.any pr))∧AB w w'):=by
 refine At [va,.func (.func q) qf.toArray qc.toArray] 9 Tryz.func133 Z Z sM ?_
 have a0:AB w w:=AB.refl w
 have a4:=ha.lenle
 unfold maxLen at a4
 refine qT Z<|qS [0,0,3,0,0] Z<|Af 2 Z<|As 201 [] [] [va,.func (.func q) qf.toArray qc.toArray] Z Z lV Ac (Dt _ da va (a) q qf qc pr (ha.ext (Am<|AC da) a0) hcf_q fun d9 u x w1 hx hw=>hpr d9 u x w1 hx<|a0.trans hw) ?_
 rintro e1 w1 ⟨rfl,a1⟩
 refine ⟨_,rfl,a1,?_⟩
 have a2:=a1.size
 have a3:=a0.trans a1
 exact FB (decide (((0 :Nat):Int)≤Se pr a)) Z Z Z Ac<|Ae 1 Z<|A3<|Ah [4] Z (.bool<|decide (((0 :Nat):Int)≤Se pr a)) Z ⟨AF<|YL pr a,a3⟩
theorem NF (w:World)(vars:Int)(_hvars:BI vars)  :
  Calls Tryz.prog 235 #[zI vars] w (fun e w'=>e=.returned (.bool (Gp vars 0 412))∧w'=w):=by
 refine At [zI vars] 5 Tryz.func235 Z Z sM ?_
 have a0:w=w:=rfl
 exact qT Z<|qS [0,0,0] Z<|Af 1 Z<|AD 117 [] [] [zI vars,zI ((0:Nat):Int),zI ((412:Nat):Int)] Z Z GT Ac (.bool (decide (((0:Nat):Int)≤vars) && decide (vars≤((412:Nat):Int)))) (fun wq=>BP wq _ _ _ _hvars oM oM)<|Ae 1 Z<|A3<|Ah [2] Z (.bool (decide (((0:Nat):Int)≤vars) && decide (vars≤((412:Nat):Int)))) Z ⟨rfl,a0⟩
theorem Ud {p:List Fn}{e:Ex}{vars funcs:Int}(h:(0≤vars∧vars≤412)∧(0≤funcs∧funcs≤((p.length:Nat):Int))∧e.size≤400∧e.deep≤60):wf p funcs e vars=OJ p e vars funcs:=by
  unfold OJ
  rw[Ct.2 h.1,Ct.2 h.2.1,A7 h.2.2.1,A7 h.2.2.2];rfl
theorem OX {p:List Fn}{e:Ex}{vars funcs:Int}(h:¬((0≤vars∧vars≤412)∧(0≤funcs∧funcs≤((p.length:Nat):Int))∧e.size≤400∧e.deep≤60)):false=OJ p e vars funcs:=by
  cases hh:OJ p e vars funcs with
  |false=>rfl
  |true =>
    unfold OJ at hh
    simp only[z7,decide_eq_true_eq,Ct]at hh
    exact absurd ⟨hh.1,hh.2.1,hh.2.2.1,hh.2.2.2.1⟩ h
theorem eK {p:List Fn}{e:Ex}{vars funcs:Int}(h:wf p funcs e vars=false):false=OJ p e vars funcs:=by
  unfold OJ;rw[h];simp
theorem YO {x a b:Int}(h:Gp x a b=false):¬(a≤x∧x≤b):=fun hh=>by rw[Ct.2 hh]at h;cases h
theorem Rf {x a b:Int}(h:(decide (a≤x) && decide (x≤b))=false):¬(a≤x∧x≤b):=YO h
theorem HC {x a b:Int}(h:(decide (a≤x) && decide (x≤b))=true):a≤x∧x≤b:=Ct.1 h
theorem NG {p:Prop}(h:p:=by first|exact AF (eK (by assumption))|exact AF (Ud ⟨Ct.1 (by assumption),HC (by assumption),zO,zO⟩)|exact AF ((by assumption:wf p funcs ex vars=true).symm.trans (Ud ⟨Ct.1 (by assumption),HC (by assumption),zO,zO⟩))|exact AF (OX fun hh=>YO (by assumption) hh.1)|exact AF (OX fun hh=>Rf (by assumption) hh.2.1)|exact AF (OX oM)):p:=h
theorem LF (w:World)(dp:Nat)(vp:Value)(p:List Fn)(dex:Nat)(ve:Value)(ex:Ex)(vars:Int)(funcs:Int)(hp:RP [] dp w.heap vp p)(hex:RX [] dex w.heap ve ex)(_hvars:BI vars)(_hfuncs:BI funcs)(hs:ex.size≤1000000000) :
  Calls Tryz.prog 205 #[(.agg #[vp]),(.agg #[(zI ex.kind),(zI ex.num),(zI ex.pick),(zI ex.count),ve]),zI vars,zI funcs] w (fun e w'=>e=.returned (.bool (OJ p ex vars funcs))∧AB w w'):=by
 refine At [.agg #[vp],.agg #[zI ex.kind,zI ex.num,zI ex.pick,zI ex.count,ve],zI vars,zI funcs] 36 Tryz.func205 Z Z sM ?_
 have am:AB w w:=AB.refl w
 have az:=hp.lenle
 unfold maxLen at az
 have b0:=hex.rn.lenle
 unfold maxLen at b0
 refine qS [3,3,0] Z (C8 (cs:=#[vp]) Z Ac fun w1 ai ar ac=>?_)
 have an:=ai.size
 have ao:=am.trans ai
 replace ac:BX w1.heap w.heap.size [vp]:=ac
 have au:=ac.lt
 refine C8 (cs:=#[zI ex.kind,zI ex.num,zI ex.pick,zI ex.count,ve]) Z Ac fun w2 af av ad=>?_
 have ap:=af.size
 have ae:=ao.trans af
 have a2:=ac.ext af
 replace ad:BX w2.heap w1.heap.size [zI ex.kind,zI ex.num,zI ex.pick,zI ex.count,ve]:=ad
 refine Ae 1 Z<|qS [0,0,0,0,0,2,0,0,0,0,2,3,0,0,0,2,3,0,0,0,2,0,0,2,0,3,0,0] Z<|Af 1 Z<|AD 235 [] [] [zI vars] Z Z mG Ac (.bool<|Gp vars 0 412) (fun wq=>NF wq _ _hvars)<|Af 1 Z ?_
 cases aw:(Gp vars 0 412)
 ·exact Ae 25 Z<|A3<|Ah [8] Z (.bool false) Z ⟨NG,ae⟩
 refine Af 1 Z<|Aq (p:=zP w.heap.size) 0 BQ Z Z (Ak (e:=11) Z Z Z)<|Al (p:=AA (zP w.heap.size) 0) (.inr Z) vp Cr Z (a2.ldp (i:=0) sM) (Ak (e:=11) Z Z Z)<|AN (v:=vp) H6 Z hp.isSl (Ak (e:=11) Z Z Z)<|AD 117 [] [] [zI funcs,zI ((0:Nat):Int),zI (p.length:Int)] Z Z GT (Ak (e:=11) Z Z Z) (.bool (decide (((0:Nat):Int)≤funcs) && decide (funcs≤(p.length:Int)))) (fun wq=>BP wq _ _ _ _hfuncs oM oM)<|Af 2 Z ?_
 cases ax:(decide (((0:Nat):Int)≤funcs) && decide (funcs≤(p.length:Int)))
 ·exact Ae 18 Z<|A3<|Ah [8] Z (.bool false) Z ⟨NG,ae⟩
 refine AZ (p:=zP w1.heap.size) (.inr Z) [zI ex.kind,zI ex.num,zI ex.pick,zI ex.count,ve] Bi Z (fun b1 a4=>LD.of_box<|BX.ext (w:=w2) ad a4) Z (Ak (e:=18) Z Z Z)<|As 206 [] [] [.agg #[zI ex.kind,zI ex.num,zI ex.pick,zI ex.count,ve]] Z Z YC (Ak (e:=18) Z Z Z) (Ij _ dex ve (ex) (hex.ext ae) oM) ?_
 rintro e8 w8 ⟨rfl,a8⟩
 refine⟨_,rfl,a8,?_⟩
 have aq:=a8.size
 have ag:=ae.trans a8
 have a9:=a2.ext a8
 have a3:=ad.ext a8
 by_cases aj:(ex.size:Int)≤((400:Nat):Int)
 ·refine DF true Z Z (A7 aj) (Ak (e:=18) Z Z Z)<|Af 2 Z<|AZ (p:=zP w1.heap.size) (.inr Z) [zI ex.kind,zI ex.num,zI ex.pick,zI ex.count,ve] Bi Z (fun b1 a4=>LD.of_box<|BX.ext (w:=w8) a3 a4) Z (Ak (e:=23) Z Z Z)<|As 236 [] [] [.agg #[zI ex.kind,zI ex.num,zI ex.pick,zI ex.count,ve]] Z Z eC (Ak (e:=23) Z Z Z) (LE _ dex ve (ex) (hex.ext ag) oM) ?_
  rintro b4 b2 ⟨rfl,a0⟩
  refine⟨_,rfl,a0,?_⟩
  have ak:=a0.size
  have a1:=ag.trans a0
  have a5:=a9.ext a0
  have a6:=a3.ext a0
  by_cases aa:(ex.deep:Int)≤((60:Nat):Int)
  ·refine DF true Z Z (A7 aa) (Ak (e:=23) Z Z Z)<|Af 2 Z<|AZ (p:=zP w.heap.size) (.inr Z) [vp] CL Z (fun b1 a4=>LD.of_box<|BX.ext (w:=b2) a5 a4) Z (Ak (e:=28) Z Z Z)<|Af 1 Z ?_
   have ab:∀(vp:Value) (ay:Nat) (h12_0:Er vp ay) (wq:World),(Instr.build 249 #[(0,.agg #[vp]),(1,zI funcs)]).run Tryz.prog wq=.ok (.agg #[vp,zI funcs]) wq:=by intro vp ay h12_0 wq;obtain⟨a12_0,b3,rfl,_⟩:=h12_0;kernel_rfl
   refine Ce (ps:=#[(0,.agg #[vp]),(1,zI funcs)]) (.agg #[vp,zI funcs]) (by simp only[zc,zf,zh];rfl) (fun wq=>ab vp _ hp.isSl wq) (Ak (e:=28) Z Z Z)<|AZ (p:=zP w1.heap.size) (.inr Z) [zI ex.kind,zI ex.num,zI ex.pick,zI ex.count,ve] Bi Z (fun b1 a4=>LD.of_box<|BX.ext (w:=b2) a6 a4) Z (Ak (e:=28) Z Z Z)<|Af 1 Z ?_
   refine As 237 [] [] [.agg #[vp,zI funcs],.agg #[zI ex.kind,zI ex.num,zI ex.pick,zI ex.count,ve],zI vars] Z Z U4 (Ak (e:=28) Z Z Z) (HB _ dp vp (p) (funcs) dex ve (ex) _ (hp.ext (Am<|AC dp) a1) _hfuncs (hex.ext a1) _hvars (by have h1:=Ct.1 (by assumption:Gp vars 0 412=true);omega) (by have h2:=HC (by assumption:(decide (((0:Nat):Int)≤funcs) && decide (funcs≤(p.length:Int)))=true);omega)) ?_
   rintro b5 b6 ⟨rfl,a7⟩
   refine⟨_,rfl,a7,?_⟩
   have al:=a7.size
   have ah:=a1.trans a7
   exact Ae 2 Z<|A3<|Ah [8] Z (.bool<|wf p funcs ex vars) Z ⟨NG,ah⟩
  exact DF false Z Z (A8 aa) (Ak (e:=23) Z Z Z)<|Ae 10 Z<|A3<|Ah [8] Z (.bool false) Z ⟨NG,a1⟩
 exact DF false Z Z (A8 aj) (Ak (e:=18) Z Z Z)<|Ae 15 Z<|A3<|Ah [8] Z (.bool false) Z ⟨NG,ag⟩
theorem YP {p:List Fn}(h:¬p.length≤16):false=KE p:=by unfold KE;rw[A8 h];rfl
theorem K5 {p:List Fn}{k:Nat}(hk:k<p.length)(h:M3 p k=false):false=KE p:=by unfold KE;rw[Lq hk h,Bool.and_false]
theorem YQ {p:List Fn}{k:Nat}(hl:p.length≤16)(hk:p.length≤k)(hk2:k≤p.length)(h:(List.range k).all (M3 p)=true):true=KE p:=by
  have:k=p.length:=by omega
  subst this;unfold KE;rw[h,A7 hl];rfl
section
variable {p:List Fn} {k:Nat}
theorem mV (h:Na (p.getD k Fn.zero).name=false):M3 p k=false:=by unfold M3;rw[h];rfl
theorem mW (h:(p.take k).any (fun g=>JV g.name (p.getD k Fn.zero).name)=true):M3 p k=false:=by unfold M3 UC;rw[h];simp
theorem mX (h:(decide (((0:Nat):Int)≤(p.getD k Fn.zero).params) && decide ((p.getD k Fn.zero).params≤((12:Nat):Int)))=false):M3 p k=false:=by
  have h':Gp (p.getD k Fn.zero).params 0 12=false:=h
  unfold M3;rw[h'];simp
theorem mY (h:(decide (((1:Nat):Int)≤(((p.getD k Fn.zero).outs.length:Nat):Int)) && decide ((((p.getD k Fn.zero).outs.length:Nat):Int)≤((12:Nat):Int)))=false):M3 p k=false:=by
  have h':Gp (((p.getD k Fn.zero).outs.length:Nat):Int) 1 12=false:=h
  unfold M3;rw[h'];simp
theorem mZ {j:Nat}(hj:j<(p.getD k Fn.zero).outs.length)(h:OJ p ((p.getD k Fn.zero).outs.getD j Ex.zero) (p.getD k Fn.zero).params ((k:Nat):Int)=false):M3 p k=false:=by
  unfold M3
  rw[Lq hj h];simp
theorem nB (h:¬Ex.sizes (p.getD k Fn.zero).outs≤400):M3 p k=false:=by
  unfold M3;rw[A8 h];simp
theorem eL {j:Nat}(h1:Na (p.getD k Fn.zero).name=true)(h2:(p.take k).any (fun g=>JV g.name (p.getD k Fn.zero).name)=false)(h3:(decide (((0:Nat):Int)≤(p.getD k Fn.zero).params) && decide ((p.getD k Fn.zero).params≤((12:Nat):Int)))=true)(h4:(decide (((1:Nat):Int)≤(((p.getD k Fn.zero).outs.length:Nat):Int)) && decide ((((p.getD k Fn.zero).outs.length:Nat):Int)≤((12:Nat):Int)))=true)(h5:(List.range j).all (fun j=>OJ p ((p.getD k Fn.zero).outs.getD j Ex.zero) (p.getD k Fn.zero).params ((k:Nat):Int))=true)(hj:j=(p.getD k Fn.zero).outs.length)(h6:Ex.sizes (p.getD k Fn.zero).outs≤400):M3 p k=true:=by
  have h3':Gp (p.getD k Fn.zero).params 0 12=true:=h3
  have h4':Gp (((p.getD k Fn.zero).outs.length:Nat):Int) 1 12=true:=h4
  subst hj
  unfold M3 UC
  rw[h1,h2,h3',h4',h5,A7 h6];rfl
end
theorem ES {b:Bool}(h:(!b)=false):b=true:=by cases b <;> simp_all
theorem GL {b:Bool}(h:(!b)=true):b=false:=by cases b <;> simp_all
theorem IT {p:Prop}(h:p:=by first|exact AF (YP oM)|exact AF (YQ oM oM oM hq)|exact AF (K5 (k:=k) oM (mV (GL (by assumption))))|exact AF (K5 (k:=k) oM (mW (by assumption)))|exact AF (K5 (k:=k) oM (mX (GL (by assumption))))|exact AF (K5 (k:=k) oM (mY (GL (by assumption))))|exact AF (K5 (k:=k) oM (mZ (j:=j) oM (GL (by assumption))))|exact AF (K5 (k:=k) oM (nB oM))):p:=h
theorem Jn (w:World)(dp:Nat)(vp:Value)(p:List Fn)(hp:RP [] dp w.heap vp p)(hz:Px p) :
  Calls Tryz.prog 137 #[(.agg #[vp])] w (fun e w'=>e=.returned (.bool (KE p))∧AB w w'):=by
 refine At [.agg #[vp]] 65 Tryz.func137 Z Z sM ?_
 have bq:AB w w:=AB.refl w
 have ch:=hp.lenle
 unfold maxLen at ch
 refine qS [3,0] Z (C8 (cs:=#[vp]) Z Ac fun w1 be c0 aw=>?_)
 have bf:=be.size
 have bg:=bq.trans be
 replace aw:BX w1.heap w.heap.size [vp]:=aw
 refine Ae 1 Z<|A0<|qS [0,2,0,0] Z<|Aq (p:=zP w.heap.size) 0 BQ Z Z Ac<|Al (p:=AA (zP w.heap.size) 0) (.inr Z) vp Cr Z (aw.ldp (i:=0) sM) Ac<|AN (v:=vp) H6 Z hp.isSl Ac ?_
 by_cases br:((16:Nat):Int)<(p.length:Int)
 ·exact C9 true Z Z (A7 br) Ac<|Ai<|Ag Z<|qT Z<|A3<|Ap<|Ah [2] Z (.bool false) Z ⟨IT,bg⟩
 refine C9 false Z Z (A8 br) Ac<|Ai<|Aj Z<|A4<|A0<|qS [0,2,0,0] Z<|Aq (p:=zP w.heap.size) 0 BQ Z Z Ac<|Al (p:=AA (zP w.heap.size) 0) (.inr Z) vp Cr Z (aw.ldp (i:=0) sM) Ac<|AN (v:=vp) H6 Z hp.isSl Ac<|Ae 1 Z<|A5 ?_
 refine AQ (S:=Nat) (fun k=>([(15,zI (k:Int)),(1,zP w.heap.size),(13,vp),(14,zI (p.length:Int))])) (fun k W=>AB w W∧BX W.heap w.heap.size [vp]∧k≤p.length∧(List.range k).all (M3 p)=true) (fun k=>p.length-k) 0 ⟨rfl,rfl,rfl,rfl,trivial⟩ ⟨bg,aw,sD,(by rfl)⟩ ?_
 clear bq c0 be bf bg
 rintro k ρ3 w3 ⟨ax,a4,bs,hq⟩
 have bh:w.heap.size≤w3.heap.size:=ax.size
 have ce:=a4.lt
 refine qS [0] Z ?_
 by_cases bt:(k:Int)<(p.length:Int)
 ·refine Ay true Z Z (A7 bt) Ac<|Ai<|A0<|Ag Z<|A4<|A0<|A5<|qS [0,0,2,3,0,4] Z<|Af 1 Z<|Aw (v:=vp) k H6 CM Z Z hp.isSl Z sD Ac ?_
  obtain⟨cs6,c1,c2⟩:=hp.get (AC dp) Fn.zero (k:=k) sD
  obtain⟨ab,rfl,ap⟩:=RF.of c1
  have ay:=ap.rn.lenle
  unfold maxLen at ay
  refine AZ (p:=Ax vp k 3) (.inr Z) [.string<|(p.getD k Fn.zero).name,zI<|(p.getD k Fn.zero).params,ab] KT Z (fun cg af=>c2 cg<|Az.of_ext []<|ax.trans af) Z Ac ?_
  have cf:=a4.lt
  refine Br (z:=.agg #[.string ByteArray.empty,zI 0,zN]) bJ Ac fun w7 bb c3 bi=>?_
  have bj:=bb.size
  have bk:=ax.trans bb
  have a5:=a4.ext bb
  replace bi:BX w7.heap w3.heap.size [.string ByteArray.empty,zI 0,zN]:=bi
  refine Af 1 Z (BR (vs:=[.string<|(p.getD k Fn.zero).name,zI<|(p.getD k Fn.zero).params,ab]) KT Z Z ap.ones bi Z Z Ac fun w9 bc c4 az=>?_)
  replace az:BX w9.heap w3.heap.size [.string ((p.getD k Fn.zero).name),zI ((p.getD k Fn.zero).params),ab]:=az
  have bd:AB w w9:=bc.below bk (fun _ h=>zE h) bk.size
  have bl:=bc.size
  have aq:=a5.chg bc (zB ·)
  refine Ai<|A0<|qS [0,2,0,0,0,0,2,0,0,0,3,0] Z ?_
  have hzk:=hz k oM
  refine Aq (p:=zP w3.heap.size) 0 LC Z Z Ac<|Al (p:=AA (zP w3.heap.size) 0) (.inr Z) (.string<|(p.getD k Fn.zero).name) Sc Z (az.ldp (i:=0) sM) Ac<|AD 203 [] [] [.string<|(p.getD k Fn.zero).name] Z Z lW Ac (.bool<|Na<|(p.getD k Fn.zero).name) (fun wq=>Od wq ((p.getD k Fn.zero).name) oM)<|BH (!(Na<|(p.getD k Fn.zero).name)) Z Z Ac<|Af 1 Z ?_
  cases c5:(!(Na ((p.getD k Fn.zero).name)))
  ·refine Aq (p:=zP w.heap.size) 0 BQ Z Z (Ak (e:=24) Z Z Z)<|Al (p:=AA (zP w.heap.size) 0) (.inr Z) vp Cr Z (aq.ldp (i:=0) sM) (Ak (e:=24) Z Z Z)<|Af 1 Z<|Vf (v:=vp) (k:=k) H6 CM Z hp.isSl hp.capS Z sD (Ak (e:=24) Z Z Z) ?_
   have b0:=RN.pref (AC dp) (k:=k) hp sD
   refine P4 [] [zP w3.heap.size] Z Z (Ak (e:=24) Z Z Z)<|As 133 [] [] [MP vp k,.func (.func 204) #[] #[zP w3.heap.size]] Z Z lB (Ak (e:=24) Z Z Z) (Dc _ dp (MP vp k) (p.take k) 204 [] [zP w3.heap.size] (fun g=>JV g.name (p.getD k Fn.zero).name) (b0.ext (Am<|AC dp) bd) lX fun d9 u x w1 hx hw=>Iq w1 d9 u x w3.heap.size ab (p.getD k Fn.zero) hx<|az.ext hw) ?_
   rintro cm cn ⟨rfl,a7⟩
   refine⟨_,rfl,a7,?_⟩
   have b1:=a7.size
   have ac:=bd.trans a7
   have a6:=aq.ext a7
   have a0:=az.ext a7
   refine Ae 1 Z ?_
   cases b2:((p.take k).any (fun g=>JV g.name (p.getD k Fn.zero).name))
   ·refine Aj (by first|rfl|exact zW b2)<|A4<|A0<|qS [0,2,0,0,0,0,2,0,0,0,0] Z<|Aq (p:=zP w3.heap.size) 1 CG Z Z Ac<|Al (p:=AA (zP w3.heap.size) 1) (.inr Z) (zI<|(p.getD k Fn.zero).params) AO Z (a0.ldp (i:=1) sM) Ac<|AD 117 [] [] [zI<|(p.getD k Fn.zero).params,zI ((0:Nat):Int),zI ((12:Nat):Int)] Z Z GT Ac (.bool (decide (((0:Nat):Int)≤((p.getD k Fn.zero).params)) && decide (((p.getD k Fn.zero).params)≤((12:Nat):Int)))) (fun wq=>BP wq _ _ _ ap.rng oM oM) ?_
    refine BH (!(decide (((0:Nat):Int)≤((p.getD k Fn.zero).params)) && decide (((p.getD k Fn.zero).params)≤((12:Nat):Int)))) Z Z Ac<|Af 1 Z ?_
    cases c6:(!(decide (((0:Nat):Int)≤((p.getD k Fn.zero).params)) && decide (((p.getD k Fn.zero).params)≤((12:Nat):Int))))
    ·refine Aq (p:=zP w3.heap.size) 2 Cn Z Z (Ak (e:=36) Z Z Z)<|Al (p:=AA (zP w3.heap.size) 2) (.inr Z) ab BA Z (a0.ldp (i:=2) sM) (Ak (e:=36) Z Z Z)<|AN (v:=ab) DE Z ap.rn.isSl (Ak (e:=36) Z Z Z)<|AD 117 [] [] [zI ((((p.getD k Fn.zero).outs).length:Nat):Int),zI ((1:Nat):Int),zI ((12:Nat):Int)] Z Z GT (Ak (e:=36) Z Z Z) (.bool (decide (((1:Nat):Int)≤((((p.getD k Fn.zero).outs).length:Nat):Int)) && decide (((((p.getD k Fn.zero).outs).length:Nat):Int)≤((12:Nat):Int)))) (fun wq=>BP wq _ _ _ oM oM oM) ?_
     refine BH (!(decide (((1:Nat):Int)≤((((p.getD k Fn.zero).outs).length:Nat):Int)) && decide (((((p.getD k Fn.zero).outs).length:Nat):Int)≤((12:Nat):Int)))) Z Z (Ak (e:=36) Z Z Z)<|Ae 1 Z ?_
     cases b3:(!(decide (((1:Nat):Int)≤((((p.getD k Fn.zero).outs).length:Nat):Int)) && decide (((((p.getD k Fn.zero).outs).length:Nat):Int)≤((12:Nat):Int))))
     ·refine Aj (by first|rfl|exact zW b3)<|A4<|qT Z<|A0<|qS [0,2,0,0] Z<|Aq (p:=zP w3.heap.size) 2 Cn Z Z Ac<|Al (p:=AA (zP w3.heap.size) 2) (.inr Z) ab BA Z (a0.ldp (i:=2) sM) Ac<|AN (v:=ab) DE Z ap.rn.isSl Ac<|Ae 1 Z<|A5 ?_
      refine AQ (S:=Nat×Nat) (fun⟨j,sz⟩=>([(5,zI (sz:Int)),(46,zI (j:Int)),(1,zP w.heap.size),(3,zI (k:Int)),(4,zP w3.heap.size),(13,vp),(14,zI (p.length:Int)),(15,zI (k:Int)),(44,ab),(45,zI ((((p.getD k Fn.zero).outs).length:Nat):Int))])) (fun⟨j,sz⟩ W=>AB w W∧BX W.heap w.heap.size [vp]∧BX W.heap w3.heap.size [.string<|(p.getD k Fn.zero).name,zI<|(p.getD k Fn.zero).params,ab]∧j≤(p.getD k Fn.zero).outs.length∧sz=Ex.sizes ((p.getD k Fn.zero).outs.take j)∧(List.range j).all (fun j=>OJ p ((p.getD k Fn.zero).outs.getD j Ex.zero) (p.getD k Fn.zero).params (k:Int))=true) (fun⟨j,sz⟩=>(p.getD k Fn.zero).outs.length-j) (0,0) ⟨rfl,rfl,rfl,rfl,rfl,rfl,rfl,rfl,rfl,rfl,trivial⟩ ⟨ac,a6,a0,sD,(by rw[List.take_zero,Oy]),(by rfl)⟩ ?_
      clear a4 ax bh ay c3 bb bj bk a5 c4 bc bd bl aq a7 b1 ac a6
      rintro⟨j,sz⟩ ρ20 ci ⟨ad,a1,a3,bm,hsz,hqe⟩
      have bu:w.heap.size≤ci.heap.size:=ad.size
      have c7:=a1.lt
      have c8:=a3.lt
      refine qS [0] Z ?_
      by_cases b4:(j:Int)<((((p.getD k Fn.zero).outs).length:Nat):Int)
      ·refine Ay true Z Z (A7 b4) Ac<|Ai<|A0<|Ag Z<|A4<|A0<|A5<|qS [0,2,3,4] Z<|Aw (v:=ab) j DE BE Z Z ap.rn.isSl Z sD Ac ?_
       obtain⟨cs24,bn,bo⟩:=ap.rn.get (AL dp) Ex.zero (k:=j) sD
       obtain⟨dd24,a2,c9,rfl,ag⟩:=RX.of bn
       have b5:=ag.rn.lenle
       unfold maxLen at b5
       refine AZ (p:=Ax ab j 5) (.inr Z) [zI<|(((p.getD k Fn.zero).outs).getD j Ex.zero).kind,zI<|(((p.getD k Fn.zero).outs).getD j Ex.zero).num,zI<|(((p.getD k Fn.zero).outs).getD j Ex.zero).pick,zI<|(((p.getD k Fn.zero).outs).getD j Ex.zero).count,a2] Bi Z (fun cg af=>bo cg<|Az.of_ext []<|ad.trans af) Z Ac ?_
       have ca:=a1.lt
       have cb:=a3.lt
       refine Br (z:=.agg #[zI 0,zI 0,zI 0,zI 0,zN]) GV Ac fun ck ah cc ar=>?_
       have bv:=ah.size
       have b6:=ad.trans ah
       have a8:=a1.ext ah
       have a9:=a3.ext ah
       replace ar:BX ck.heap ci.heap.size [zI 0,zI 0,zI 0,zI 0,zN]:=ar
       refine BR (vs:=[zI<|(((p.getD k Fn.zero).outs).getD j Ex.zero).kind,zI<|(((p.getD k Fn.zero).outs).getD j Ex.zero).num,zI<|(((p.getD k Fn.zero).outs).getD j Ex.zero).pick,zI<|(((p.getD k Fn.zero).outs).getD j Ex.zero).count,a2]) Bi Z Z ag.ones ar Z Z Ac fun cj ai cd aj=>?_
       replace aj:BX cj.heap ci.heap.size [zI ((((p.getD k Fn.zero).outs).getD j Ex.zero).kind),zI ((((p.getD k Fn.zero).outs).getD j Ex.zero).num),zI ((((p.getD k Fn.zero).outs).getD j Ex.zero).pick),zI ((((p.getD k Fn.zero).outs).getD j Ex.zero).count),a2]:=aj
       have au:AB w cj:=ai.below b6 (fun _ h=>zE h) b6.size
       have bw:=ai.size
       have b7:=a8.chg ai (zB ·)
       have b8:=a9.chg ai (zB ·)
       refine Ai<|A0<|qS [2,2,0,2,0,3,0] Z ?_
       have hst:=Eh (l:=(p.getD k Fn.zero).outs) (k:=j) oM
       have hle:=DH (p.getD k Fn.zero).outs (j+1)
       refine AZ (p:=zP w.heap.size) (.inr Z) [vp] CL Z (fun cg af=>LD.of_box<|BX.ext (w:=cj) b7 af) Z Ac<|AZ (p:=zP ci.heap.size) (.inr Z) [zI<|(((p.getD k Fn.zero).outs).getD j Ex.zero).kind,zI<|(((p.getD k Fn.zero).outs).getD j Ex.zero).num,zI<|(((p.getD k Fn.zero).outs).getD j Ex.zero).pick,zI<|(((p.getD k Fn.zero).outs).getD j Ex.zero).count,a2] Bi Z (fun cg af=>LD.of_box<|BX.ext (w:=cj) aj af) Z Ac<|Aq (p:=zP w3.heap.size) 1 CG Z Z Ac<|Al (p:=AA (zP w3.heap.size) 1) (.inr Z) (zI<|(p.getD k Fn.zero).params) AO Z (b8.ldp (i:=1) sM) Ac<|Af 1 Z ?_
       refine As 205 [] [] [.agg #[vp],.agg #[zI<|(((p.getD k Fn.zero).outs).getD j Ex.zero).kind,zI<|(((p.getD k Fn.zero).outs).getD j Ex.zero).num,zI<|(((p.getD k Fn.zero).outs).getD j Ex.zero).pick,zI<|(((p.getD k Fn.zero).outs).getD j Ex.zero).count,a2],zI<|(p.getD k Fn.zero).params,zI (k:Int)] Z Z lY Ac (LF _ dp vp (p) dd24 a2 (((p.getD k Fn.zero).outs).getD j Ex.zero) _ _ (hp.ext (Am<|AC dp) au) (ag.ext au) ap.rng oM oM) ?_
       rintro co cl ⟨rfl,aa⟩
       refine⟨_,rfl,aa,?_⟩
       have bx:=aa.size
       have av:=au.trans aa
       have ak:=b7.ext aa
       have al:=b8.ext aa
       have am:=aj.ext aa
       refine BH (!(OJ p (((p.getD k Fn.zero).outs).getD j Ex.zero) ((p.getD k Fn.zero).params) (k:Int))) Z Z Ac<|Ai ?_
       cases b9:(!(OJ p (((p.getD k Fn.zero).outs).getD j Ex.zero) ((p.getD k Fn.zero).params) (k:Int)))
       ·refine Aj (by first|rfl|exact zW b9)<|A4<|Ad _ [0,2,3,0,0] Z<|Af 1 Z<|AZ (p:=zP ci.heap.size) (.inr Z) [zI<|(((p.getD k Fn.zero).outs).getD j Ex.zero).kind,zI<|(((p.getD k Fn.zero).outs).getD j Ex.zero).num,zI<|(((p.getD k Fn.zero).outs).getD j Ex.zero).pick,zI<|(((p.getD k Fn.zero).outs).getD j Ex.zero).count,a2] Bi Z (fun cg af=>LD.of_box<|BX.ext (w:=cl) am af) Z Ac ?_
        refine As 206 [] [] [.agg #[zI<|(((p.getD k Fn.zero).outs).getD j Ex.zero).kind,zI<|(((p.getD k Fn.zero).outs).getD j Ex.zero).num,zI<|(((p.getD k Fn.zero).outs).getD j Ex.zero).pick,zI<|(((p.getD k Fn.zero).outs).getD j Ex.zero).count,a2]] Z Z YC Ac (Ij _ dd24 a2 (((p.getD k Fn.zero).outs).getD j Ex.zero) (ag.ext av) oM) ?_
        rintro cp cq ⟨rfl,ae⟩
        refine⟨_,rfl,ae,?_⟩
        have bz:=ae.size
        have bp:=av.trans ae
        have an:=ak.ext ae
        have ao:=al.ext ae
        refine AG ((sz+((p.getD k Fn.zero).outs.getD j Ex.zero).size:Nat):Int) Z Z (Bd oM oM) Ac<|Ae 1 Z<|Ad _ [0,0] Z<|AG ((j+1:Nat):Int) Z Z (Bd oM sD) Ac<|Ae 1 Z ?_
        exact⟨(j+1,sz+((p.getD k Fn.zero).outs.getD j Ex.zero).size),_,rfl,zR,⟨bp,an,ao,sD,oM,(by exact Ep hqe (ES (by assumption)))⟩,zD⟩
       refine Ag (by first|rfl|exact zW b9)<|qT Z<|A3<|Ap<|AK<|Ap<|Ap<|AK<|Ap<|AK<|Ap<|Ap<|AK<|Ap ?_
       exact Ah [2] Z (.bool false) Z ⟨IT,av⟩
      refine Ay false Z Z (A8 b4) Ac<|Ai<|A0<|Aj Z<|A6<|Au<|Au<|An<|qS [0,0] Z ?_
      have hal:=OA (l:=(p.getD k Fn.zero).outs) (k:=j) oM
      refine Af 1 Z ?_
      by_cases ba:((400:Nat):Int)<(sz:Int)
      ·exact C9 true Z Z (A7 ba) Ac<|Ai<|Ag Z<|qT Z<|A3<|AK<|Ap<|Ap<|AK<|Ap<|Ah [2] Z (.bool false) Z ⟨IT,ad⟩
      refine C9 false Z Z (A8 ba) Ac<|Ai<|Aj Z<|A4<|Ad _ [0,0] Z<|AG ((k+1:Nat):Int) Z Z (Bd oM sD) Ac<|Ae 1 Z ?_
      exact⟨k+1,_,rfl,zR,⟨ad,a1,sD,(by exact Ep hq (eL (ES (by assumption)) (by assumption) (ES (by assumption)) (ES (by assumption)) hqe oM oM))⟩,zD⟩
     exact Ag (by first|rfl|exact zW b3)<|qT Z<|A3<|Ap<|AK<|Ap<|Ap<|AK<|Ap<|Ah [2] Z (.bool false) Z ⟨IT,ac⟩
    exact Ae 6 Z<|Ag Z<|qT Z<|A3<|Ap<|AK<|Ap<|Ap<|AK<|Ap<|Ah [2] Z (.bool false) Z ⟨IT,ac⟩
   exact Ag (by first|rfl|exact zW b2)<|qT Z<|A3<|Ap<|AK<|Ap<|Ap<|AK<|Ap<|Ah [2] Z (.bool false) Z ⟨IT,ac⟩
  exact Ae 7 Z<|Ag Z<|qT Z<|A3<|Ap<|AK<|Ap<|Ap<|AK<|Ap<|Ah [2] Z (.bool false) Z ⟨IT,bd⟩
 exact Ay false Z Z (A8 bt) Ac<|Ai<|A0<|Aj Z<|A6<|Au<|Au<|An<|qT Z<|A3<|Ah [2] Z (.bool true) Z ⟨IT,ax⟩
theorem eN {p:List Fn}{f:Int}(h:KE p=false):1=Jz p f:=by unfold Jz;rw[h];rfl
theorem eO {p:List Fn}{f:Int}(h:KE p=true)(h2:¬(0≤f∧f≤((p.length:Nat):Int)-1)):2=Jz p f:=by unfold Jz;rw[if_pos h,if_neg h2]
theorem eP {p:List Fn}{f:Int}(h:KE p=true)(h2:0≤f∧f≤((p.length:Nat):Int)-1):0=Jz p f:=by unfold Jz;rw[if_pos h,if_pos h2]
theorem Sj {p:Prop}(h:p:=by first|exact B5 (eN (GL (by assumption)))|exact B5 (eO (ES (by assumption)) (Rf (GL (by assumption))))|exact B5 (eP (ES (by assumption)) (HC (ES (by assumption))))):p:=h
theorem JF (w:World)(dp:Nat)(vp:Value)(p:List Fn)(f:Int)(hp:RP [] dp w.heap vp p)(_hf:BI f)(hz:Px p) :
  Calls Tryz.prog 100 #[(.agg #[vp]),zI f] w (fun e w'=>e=.returned (zI (Jz p f))∧AB w w'):=by
 refine At [.agg #[vp],zI f] 17 Tryz.func100 Z Z sM ?_
 have a8:AB w w:=AB.refl w
 have ad:=hp.lenle
 unfold maxLen at ad
 refine qS [3,0] Z (C8 (cs:=#[vp]) Z Ac fun w1 a4 ac a1=>?_)
 have a9:=a4.size
 have a5:=a8.trans a4
 replace a1:BX w1.heap w.heap.size [vp]:=a1
 refine Ae 1 Z<|A0<|A5<|qS [2,3,0,0] Z<|AZ (p:=zP w.heap.size) (.inr Z) [vp] CL Z (fun ae aa=>LD.of_box<|BX.ext (w:=w1) a1 aa) Z Ac<|As 137 [] [] [.agg #[vp]] Z Z lC Ac (Jn _ dp vp (p) (hp.ext (Am<|AC dp) a5) hz) ?_
 rintro e2 w2 ⟨rfl,a2⟩
 refine⟨_,rfl,a2,?_⟩
 have ab:=a2.size
 have a3:=a5.trans a2
 have a0:=a1.ext a2
 refine BH (!(KE p)) Z Z Ac<|Ae 1 Z ?_
 cases a6:(!(KE p))
 ·refine Aj (by first|rfl|exact zW a6)<|qS [0,0,2,0,0,0,0,0] Z<|Af 1 Z<|Aq (p:=zP w.heap.size) 0 BQ Z Z Ac<|Al (p:=AA (zP w.heap.size) 0) (.inr Z) vp Cr Z (a0.ldp (i:=0) sM) Ac<|AN (v:=vp) H6 Z hp.isSl Ac<|Cb ((p.length:Int)-1) Z Z (Dh oM oM) Ac<|AD 117 [] [] [zI f,zI ((0:Nat):Int),zI ((p.length:Int)-1)] Z Z GT Ac (.bool (decide (((0:Nat):Int)≤f) && decide (f≤((p.length:Int)-1)))) (fun wq=>BP wq _ _ _ _hf oM oM) ?_
  refine BH (!(decide (((0:Nat):Int)≤f) && decide (f≤((p.length:Int)-1)))) Z Z Ac<|Ae 1 Z ?_
  cases a7:(!(decide (((0:Nat):Int)≤f) && decide (f≤((p.length:Int)-1))))
  ·exact Aj (by first|rfl|exact zW a7)<|A4<|qT Z<|A3<|Ah [4] Z (zI ((0:Nat):Int)) Z ⟨Sj,a3⟩
  exact Ag (by first|rfl|exact zW a7)<|qT Z<|A3<|AK<|Ap<|Ah [4] Z (zI ((2:Nat):Int)) Z ⟨Sj,a3⟩
 exact Ag (by first|rfl|exact zW a6)<|qT Z<|A3<|AK<|Ap<|Ah [4] Z (zI ((1:Nat):Int)) Z ⟨Sj,a3⟩
theorem eQ {p:List Fn}{f:Int}{pr:Int→Int→Bool}(h:Jz p f≠0):Jz p f=Gg p f pr:=by unfold Gg;rw[if_neg h]
theorem nC {p:List Fn}{f:Int}{pr:Int→Int→Bool}(h:Jz p f=0)(h2:pr (p.getD f.toNat Fn.zero).params (((p.getD f.toNat Fn.zero).outs.length:Nat):Int)=false):2=Gg p f pr:=by unfold Gg;rw[if_pos h,h2];rfl
theorem nD {p:List Fn}{f:Int}{pr:Int→Int→Bool}(h:Jz p f=0)(h2:pr (p.getD f.toNat Fn.zero).params (((p.getD f.toNat Fn.zero).outs.length:Nat):Int)=true):Jz p f=Gg p f pr:=by unfold Gg;rw[if_pos h,h2,h];rfl
theorem Sk {p:Prop}(h:p:=by first|exact B5 (eQ oM)|exact B5 (nC oM (by assumption))|exact B5 (nD oM (by assumption))):p:=h
theorem M8 (w:World) (dp:Nat) (vp:Value) (p:List Fn) (f:Int) (q:Nat) (qf qc:List Value) (pr:Int→Int→Bool) (hp:RP [] dp w.heap vp p) (_hf:BI f) (hcf_q:((Tryz.prog.funcs[q]?).map fun fn=>(fn.name != "runtime.NumGoroutine") && fn.body.isSome) = some true) (hpr:∀ (a b:Int) w1,(BI a)→(BI b)→Calls Tryz.prog q (qf++[Value.int .i64 a,Value.int .i64 b]++qc).toArray w1 (fun e w2=>e = .returned (.bool (pr a b))∧w2 = w1)) (hz:Px p) :
  Calls Tryz.prog 166 #[(.agg #[vp]),zI f,.func (.func q) qf.toArray qc.toArray] w (fun e w'=>e = .returned (zI (Gg p f pr))∧AB w w'):=by
 refine At [.agg #[vp],zI f,.func (.func q) qf.toArray qc.toArray] 32 Tryz.func166 Z Z sM ?_
 have ad:AB w w:=AB.refl w
 have an:=hp.lenle
 unfold maxLen at an
 refine qS [3,0] Z (C8 (cs:=#[vp]) Z Ac fun w1 a8 ak a3=>?_)
 have ae:=a8.size
 have a9:=ad.trans a8
 replace a3:BX w1.heap w.heap.size [vp]:=a3
 refine Ae 1 Z<|qS [2,0,3,0] Z<|AZ (p:=zP w.heap.size) (.inr Z) [vp] CL Z (fun ao af=>LD.of_box<|BX.ext (w:=w1) a3 af) Z Ac<|Af 1 Z<|As 100 [] [] [.agg #[vp],zI f] Z Z dO Ac (JF _ dp vp (p) _ (hp.ext (Am<|AC dp) a9) _hf hz) ?_
 rintro e2 w2 ⟨rfl,a4⟩
 refine ⟨_,rfl,a4,?_⟩
 have ag:=a4.size
 have a1:=a9.trans a4
 have a0:=a3.ext a4
 refine Ae 1 Z<|A0<|A0<|AW _ [0,0,0,0,0,1,0,0,0,1,0,1,0,0,0,1,0,3,0,0] mixed (by kernel_rfl)<|Af 1 Z ?_
 by_cases aa:Jz p f = ((0 :Nat):Int)
 ·
  refine Av true Z Z (A7 aa) Ac<|Af 2 Z ?_
  have al:=Xn (p:=p) (f:=f) oM
  refine Aq (p:=zP w.heap.size) 0 BQ Z Z (Ak (e:=13) Z Z Z)<|Al (p:=AA (zP w.heap.size) 0) (.inl Z) vp Cr Z (a0.ldp (i:=0) sM) (Ak (e:=13) Z Z Z)<|Af 1 Z<|Aw (v:=vp) ((f).toNat) H6 CM Z Z hp.isSl oM sD (Ak (e:=13) Z Z Z) ?_
  obtain ⟨cs4,ah,a5⟩:=hp.get (AC dp) Fn.zero (k:=(f).toNat) sD
  obtain ⟨ab,rfl,a6⟩:=RF.of ah
  have a7:=a6.rn.lenle
  unfold maxLen at a7
  refine AP (p:=Ax vp ((f).toNat) 3) 1 CG Z (a5 _<|Az.of_ext [] a1.drew) (Ak (e:=13) Z Z Z)<|Al (p:=AA (Ax vp ((f).toNat) 3) 1) (.inl Z) (zI<|(p.getD ((f).toNat) Fn.zero).params) AO Z ((a5 _<|Az.of_ext [] a1.drew).ld (i:=1) (by simp [Dd,FU])) (Ak (e:=13) Z Z Z)<|Aq (p:=zP w.heap.size) 0 BQ Z Z (Ak (e:=13) Z Z Z)<|Al (p:=AA (zP w.heap.size) 0) (.inl Z) vp Cr Z (a0.ldp (i:=0) sM) (Ak (e:=13) Z Z Z)<|Af 1 Z ?_
  refine Aw (v:=vp) ((f).toNat) H6 CM Z Z hp.isSl oM sD (Ak (e:=13) Z Z Z)<|AP (p:=Ax vp ((f).toNat) 3) 2 Cn Z (a5 _<|Az.of_ext [] a1.drew) (Ak (e:=13) Z Z Z)<|Al (p:=AA (Ax vp ((f).toNat) 3) 2) (.inl Z) ab BA Z ((a5 _<|Az.of_ext [] a1.drew).ld (i:=2) (by simp [Dd,FU])) (Ak (e:=13) Z Z Z)<|AN (v:=ab) DE Z a6.rn.isSl (Ak (e:=13) Z Z Z) ?_
  refine As q qf qc _ Z Z hcf_q (Ak (e:=13) Z Z Z) (hpr ((p.getD ((f).toNat) Fn.zero).params) ((((p.getD ((f).toNat) Fn.zero).outs).length :Nat):Int) _ a6.rng oM) ?_
  rintro e5 w5 ⟨rfl,ai⟩
  have a2:AB w2.drew w5:=by rw [ai]; exact AB.refl _
  refine ⟨_,rfl,a2,?_⟩
  replace a2:=a2.of_drew
  have aj:=a2.size
  have ac:=a1.trans a2
  cases am:pr ((p.getD ((f).toNat) Fn.zero).params) ((((p.getD ((f).toNat) Fn.zero).outs).length :Nat):Int)
  ·
   exact BH true Z Z (Ak (e:=13) Z Z Z)<|Ae 1 Z<|Ag Z<|Ad _ [0] Z<|Ae 1 Z<|qS [0,0] Z<|Ae 2 Z<|A3<|Ah [6] Z (zI ((2 :Nat):Int)) Z ⟨Sk,ac⟩
  
  exact BH false Z Z (Ak (e:=13) Z Z Z)<|Ae 1 Z<|Aj Z<|A4<|qS [0,0] Z<|Ae 2 Z<|A3<|Ah [6] Z (zI<|Jz p f) Z ⟨Sk,ac⟩
 
 exact Av false Z Z (A8 aa) Ac<|Ae 18 Z<|Aj Z<|A4<|qS [0,0] Z<|Ae 2 Z<|A3<|Ah [6] Z (zI<|Jz p f) Z ⟨Sk,a1.drew⟩
theorem EM (w:World)(va:Value)(a:List (Sr))(ha:RN [] (B3 (B3 rI)) w.heap va a)(hqa:Cj va)(h1:0<a.length→0<(a.getD 0 []).length) :
  Calls Tryz.prog 172 #[va] w (fun e w'=>e=.returned (zI ((E1 a:Nat):Int))∧AB w w'):=by
 refine At [va] 11 Tryz.func172 Z Z sM ?_
 have a0:AB w w:=AB.refl w
 have a6:=ha.lenL
 unfold maxLen at a6
 refine qT Z<|A0<|qS [0,0,0] Z<|Af 1 Z<|AN (v:=va) Bn Z ha.slL Ac ?_
 by_cases a2:(a.length:Int)=((0:Nat):Int)
 ·exact Av true Z Z (A7 a2) Ac<|Ai<|Ag Z<|qT Z<|A3<|Ap<|Ah [2] Z (zI ((0:Nat):Int)) Z ⟨B5 (by unfold E1;have:a=[]:=List.eq_nil_of_length_eq_zero oM;subst this;rfl),a0⟩
 refine Av false Z Z (A8 a2) Ac<|Ai<|Aj Z<|A4<|qS [0,0,2,0,0,0] Z<|Af 1 Z<|Aw (v:=va) 0 Bn AU Z Z ha.slL Z sD Ac ?_
 obtain⟨a3,a5,a4⟩:=RN.getL (w:=w) g1 [] (k:=0) ha sD
 have a1:=a4.lenL
 unfold maxLen at a1
 exact Al (p:=Ax va 0 1) (.inr Z) a3 B7 Z (a5 _<|Az.of_ext [] a0) Ac<|AN (v:=a3) Bm Z a4.slL Ac<|Cb (((a.getD 0 []).length-1:Nat):Int) Z Z (by rw[Dh oM oM];omega) Ac<|Ae 1 Z<|A3<|Ah [2] Z (zI (((a.getD 0 []).length-1:Nat):Int)) Z ⟨B5 Z,a0⟩
theorem YS {p:Prop}(h:p:=by unfold Zk;first|(rw[‹(decide (((1:Nat):Int)≤((a.length:Nat):Int)) && decide (((a.length:Nat):Int)≤((13:Nat):Int)))=false›];rfl)|(rw[‹(decide (((1:Nat):Int)≤((a.length:Nat):Int)) && decide (((a.length:Nat):Int)≤((13:Nat):Int)))=true›];simp)):p:=h
theorem K6 (w:World)(va:Value)(a:Sr)(ha:Rd (B3 rI) w.heap va a)  :
  Calls Tryz.prog 227 #[va] w (fun e w'=>e=.returned (.bool (Zk a))∧AB w w'):=by
 refine At [va] 12 Tryz.func227 Z Z sM ?_
 have a0:AB w w:=AB.refl w
 have a5:=ha.lenle
 refine qT Z<|qS [0,0,0,0,0,0,0,3,0,0] Z<|Af 1 Z<|AN (v:=va) Bm Z ha.isSl Ac<|AD 117 [] [] [zI (a.length:Int),zI ((1:Nat):Int),zI ((13:Nat):Int)] Z Z GT Ac (.bool (decide (((1:Nat):Int)≤(a.length:Int)) && decide ((a.length:Int)≤((13:Nat):Int)))) (fun wq=>BP wq _ _ _ oM oM oM)<|Af 1 Z ?_
 cases a4:(decide (((1:Nat):Int)≤(a.length:Int)) && decide ((a.length:Int)≤((13:Nat):Int)))
 ·exact Ae 6 Z<|A3<|Ah [2] Z (.bool false) Z ⟨AF YS,a0⟩
 refine Af 2 Z<|AN (v:=va) Bm Z ha.isSl (Ak (e:=6) Z Z Z)<|As 86 [] [] [va,zI (a.length:Int)] Z Z iJ (Ak (e:=6) Z Z Z) (EL _ _ _ _ (ha.ext g1 a0) oM) ?_
 rintro e3 w3 ⟨rfl,a1⟩
 refine⟨_,rfl,a1,?_⟩
 have a2:=a1.size
 have a3:=a0.trans a1
 exact Ae 2 Z<|A3<|Ah [2] Z (.bool (decide ((a.length:Int)=(a.length:Int)) && B9 a)) Z ⟨AF YS,a3⟩
theorem NH (w:World)(va:Value)(a:List (Sr))(n:Int)(ha:Rd (B3 (B3 rI)) w.heap va a)(_hn:BI n)  :
  Calls Tryz.prog 180 #[va,zI n] w (fun e w'=>e=.returned (.bool (Ln a && decide ((a.length:Int)=n)))∧AB w w'):=by
 refine At [va,zI n] 30 Tryz.func180 Z Z sM ?_
 have a5:AB w w:=AB.refl w
 have ai:=ha.lenle
 refine qT Z<|A0<|qS [0,0,0] Z<|Af 1 Z<|AN (v:=va) Bn Z ha.isSl Ac<|Ae 1 Z<|A5 ?_
 refine AQ (S:=Nat) (fun k=>([(9,zI (k:Int)),(0,va),(1,zI n),(7,va),(8,zI (a.length:Int))])) (fun k W=>AB w W∧k≤a.length∧((a.take k).all (O9 (a.getD 0 []).length)=true)) (fun k=>a.length-k) 0 ⟨rfl,rfl,rfl,rfl,rfl,trivial⟩ ⟨a5,sD,rfl⟩ ?_
 clear a5
 rintro k ρ1 w1 ⟨a0,a6,hq⟩
 have ab:w.heap.size≤w1.heap.size:=a0.size
 refine qS [0] Z ?_
 by_cases a7:(k:Int)<(a.length:Int)
 ·refine Ay true Z Z (A7 a7) Ac<|Ai<|A0<|Ag Z<|A4<|A0<|A5<|qS [0,2,0] Z<|Aw (v:=va) k Bn AU Z Z ha.isSl Z sD Ac ?_
  obtain⟨a2,ac,a3⟩:=ha.get (k:=k) [] sD
  have ad:=a3.lenle
  refine Al (p:=Ax va k 1) (.inr Z) a2 B7 Z (AR a0 ac) Ac<|Ae 1 Z<|qS [0,3,0,0,0,0,0,0,2,0,0,0] Z<|Af 1 Z<|As 227 [] [] [a2] Z Z mD Ac (K6 _ _ _<|a3.ext g1 a0) ?_
  rintro e4 w4 ⟨rfl,a4⟩
  refine⟨_,rfl,a4,?_⟩
  have ae:=a4.size
  have a1:=a0.trans a4
  refine BH (!(Zk<|a.getD k [])) Z Z Ac<|Af 1 Z ?_
  cases ah:(!(Zk (a.getD k [])))
  ·refine Af 1 Z<|AN (v:=a2) Bm Z a3.isSl (Ak (e:=16) Z Z Z)<|Af 1 Z<|Aw (v:=va) 0 Bn AU Z Z ha.isSl Z sD (Ak (e:=16) Z Z Z) ?_
   obtain⟨a8,af,a9⟩:=ha.get (k:=0) [] sD
   have ag:=a9.lenle
   refine Al (p:=Ax va 0 1) (.inr Z) a8 B7 Z (AR a1 af) (Ak (e:=16) Z Z Z)<|AN (v:=a8) Bm Z a9.isSl (Ak (e:=16) Z Z Z) ?_
   by_cases aa:(((a.getD k []).length:Nat):Int)≠(((a.getD 0 []).length:Nat):Int)
   ·exact B4 true Z Z (A7 aa) (Ak (e:=16) Z Z Z)<|Ae 1 Z<|Ag Z<|qT Z<|A3<|AK<|Ap<|Ap<|AK<|Ap<|Ah [4] Z (.bool false) Z ⟨AF (by unfold Ln;rw[Kt (f:=O9 (a.getD 0 []).length) (k:=k) [] oM (by unfold O9;rw[Bool.and_eq_false_iff];right;exact A8 oM)];rfl),a1⟩
   refine B4 false Z Z (A8 aa) (Ak (e:=16) Z Z Z)<|Ae 1 Z<|Aj Z<|A4<|Ad _ [0,0] Z<|AG ((k+1:Nat):Int) Z Z (Bd oM sD) Ac<|Ae 1 Z ?_
   exact⟨k+1,_,rfl,zR,⟨a1,sD,(by exact MU (f:=O9 (a.getD 0 []).length) [] hq oM (by unfold O9;simp only[z7,decide_eq_true_eq];exact⟨by simpa using ‹(!Zk (a.getD k []))=false›,zO⟩))⟩,zD⟩
  exact Ae 8 Z<|Ag Z<|qT Z<|A3<|AK<|Ap<|Ap<|AK<|Ap<|Ah [4] Z (.bool false) Z ⟨AF (by unfold Ln;rw[Kt (f:=O9 (a.getD 0 []).length) (k:=k) [] oM (by unfold O9;rw[Bool.and_eq_false_iff];left;simpa using ‹(!Zk (a.getD k []))=true›)];rfl),a1⟩
 exact Ay false Z Z (A8 a7) Ac<|Ai<|A0<|Aj Z<|A6<|Au<|Au<|An<|qS [0,0,0,0,0] Z<|Af 1 Z<|AN (v:=va) Bn Z ha.isSl Ac<|Af 1 Z<|Av (decide ((a.length:Int)=n)) Z Z Z Ac<|Ae 1 Z<|A3<|Ah [4] Z (.bool<|decide ((a.length:Int)=n)) Z ⟨AF (by unfold Ln;rw[MV hq oM,Bool.true_and]),a0⟩
theorem eR {p:Prop}(h:p:=by first|(rw[A7 (show((3000:Nat):Int)<((cs.length:Nat):Int) by assumption)];rfl)|(rw[A8 (show ¬((3000:Nat):Int)<((cs.length:Nat):Int) by assumption),Bool.false_or])):p:=h
theorem Oe (w:World)(vc:Value)(cs:List UInt8)(vd:Value)(ds:List UInt8)(hcs:Rd (B3 rU) w.heap vc cs)(hds:Rd (B3 rU) w.heap vd ds)  :
  Calls Tryz.prog 12 #[vc,vd] w (fun e w'=>e=.returned (.bool (decide (((3000:Nat):Int)<(cs.length:Int)) || decide (((3000:Nat):Int)<(ds.length:Int))))∧AB w w'):=by
 refine At [vc,vd] 13 Tryz.func12 Z Z sM ?_
 have a0:AB w w:=AB.refl w
 have a2:=hcs.lenle
 have a3:=hds.lenle
 refine qT Z<|qS [0,0,0,0,0,0,0,0,0] Z<|Af 1 Z<|AN (v:=vc) U8 Z hcs.isSl Ac ?_
 by_cases a1:((3000:Nat):Int)<(cs.length:Int)
 ·exact C9 true Z Z (A7 a1) Ac<|Ae 6 Z<|A3<|Ah [4] Z (.bool true) Z ⟨AF eR,a0⟩
 exact C9 false Z Z (A8 a1) Ac<|Af 2 Z<|AN (v:=vd) U8 Z hds.isSl (Ak (e:=8) Z Z Z)<|C9 (decide (((3000:Nat):Int)<(ds.length:Int))) Z Z Z (Ak (e:=8) Z Z Z)<|Ae 2 Z<|A3<|Ah [4] Z (.bool<|decide (((3000:Nat):Int)<(ds.length:Int))) Z ⟨AF eR,a0⟩
def FS (cs:List UInt8)(k n:Int):Int:=if ((cs.length:Nat):Int)≤k∨n<1 then 0 else(((cs.getD k.toNat 0).toNat:Nat):Int) % n
theorem KX (cs:List UInt8)(k n:Int):0≤FS cs k n∧(1≤n→FS cs k n<n):=by
  unfold FS
  split
  · omega
  · rename_i h
    exact⟨Int.emod_nonneg _ zO,fun _=>Int.emod_lt_of_pos _ zO⟩
theorem YT {p:Prop}(h:p:=by unfold FS;split <;> first|rfl|(exfalso;omega)):p:=h
theorem GW (w:World)(vc:Value)(cs:List UInt8)(k:Int)(n:Int)(hcs:Rd (B3 rU) w.heap vc cs)(_hk:BI k)(_hn:BI n)(hk:0≤k) :
  Calls Tryz.prog 15 #[vc,zI k,zI n] w (fun e w'=>e=.returned (zI (FS cs k n))∧AB w w'):=by
 refine At [vc,zI k,zI n] 22 Tryz.func15 Z Z sM ?_
 have a0:AB w w:=AB.refl w
 have a3:=hcs.lenle
 refine qT Z<|A0<|qS [0,0,0,0,0,0,0,0] Z<|Af 2 Z<|AN (v:=vc) U8 Z hcs.isSl Ac ?_
 by_cases a1:(cs.length:Int)≤k
 ·exact FB true Z Z (A7 a1) Ac<|Ae 4 Z<|Ag Z<|qT Z<|A3<|Ap<|Ah [6] Z (zI ((0:Nat):Int)) Z ⟨B5 YT,a0⟩
 refine FB false Z Z (A8 a1) Ac<|Af 2 Z ?_
 by_cases a2:n<((1:Nat):Int)
 ·exact Ay true Z Z (A7 a2) (Ak (e:=11) Z Z Z)<|Ae 1 Z<|Ag Z<|qT Z<|A3<|Ap<|Ah [6] Z (zI ((0:Nat):Int)) Z ⟨B5 YT,a0⟩
 refine Ay false Z Z (A8 a2) (Ak (e:=11) Z Z Z)<|Ae 1 Z<|Aj Z<|A4<|qS [0,0,0,2,0,0,0,0] Z<|Af 2 Z<|Aw (v:=vc) ((k).toNat) U8 qN Z Z hcs.isSl oM sD Ac ?_
 refine Al (p:=Ax vc ((k).toNat) 1) (.inr Z) (.int .u8 ((cs.getD ((k).toNat) 0).toNat:Int)) mR Z (AR a0 (hcs.getU sD).1) Ac<|JN ((cs.getD ((k).toNat) 0).toNat:Int) u5 u2 Z (w8 _) Ac<|Af 1 Z<|E5 (((cs.getD ((k).toNat) 0).toNat:Int) % n) Z Z oM (Int.tmod_eq_emod_of_nonneg oM) Ac<|Ae 1 Z<|A3 ?_
 exact Ah [6] Z (zI (((cs.getD ((k).toNat) 0).toNat:Int) % n)) Z ⟨B5 YT,a0⟩
theorem Of (w:World)(va:Value)(a:List (Sr))(n:Int)(m:Int)(ha:Rd (B3 (B3 rI)) w.heap va a)(_hn:BI n)(_hm:BI m)  :
  Calls Tryz.prog 21 #[va,zI n,zI m] w (fun e w'=>e=.returned (.bool (decide ((a.length:Int)=n) && a.all (fun r=>decide ((r.length:Int)=m))))∧AB w w'):=by
 refine At [va,zI n,zI m] 25 Tryz.func21 Z Z sM ?_
 have a1:AB w w:=AB.refl w
 have ab:=ha.lenle
 refine qT Z<|A0<|qS [0,0,0,0] Z<|Af 1 Z<|AN (v:=va) Bn Z ha.isSl Ac<|Af 1 Z ?_
 by_cases a2:(a.length:Int)≠n
 ·exact B4 true Z Z (A7 a2) Ac<|Ai<|Ag Z<|qT Z<|A3<|Ap<|Ah [6] Z (.bool false) Z ⟨AF (by rw[A8 oM];rfl),a1⟩
 refine B4 false Z Z (A8 a2) Ac<|Ai<|Aj Z<|A4<|A0<|qT Z<|A5 ?_
 refine AQ (S:=Nat) (fun k=>([(7,zI (k:Int)),(0,va),(2,zI m)])) (fun k W=>AB w W∧k≤a.length∧((a.take k).all (fun r=>decide ((r.length:Int)=m))=true)) (fun k=>a.length-k) 0 ⟨rfl,rfl,rfl,trivial⟩ ⟨a1,sD,rfl⟩ ?_
 clear a1
 rintro k ρ2 w2 ⟨a0,a3,hq⟩
 have a8:w.heap.size≤w2.heap.size:=a0.size
 refine A0<|qS [0,0,0,0] Z<|Af 2 Z<|AN (v:=va) Bn Z ha.isSl Ac ?_
 by_cases a4:(k:Int)<(a.length:Int)
 ·refine Ay true Z Z (A7 a4) Ac<|Ai<|Ag Z<|A4<|A0<|A5<|qS [0,0,0,2,0,0,0] Z<|Af 2 Z<|Aw (v:=va) k Bn AU Z Z ha.isSl Z sD Ac ?_
  obtain⟨a5,a9,a6⟩:=ha.get (k:=k) [] sD
  have aa:=a6.lenle
  refine Al (p:=Ax va k 1) (.inr Z) a5 B7 Z (AR a0 a9) Ac<|AN (v:=a5) Bm Z a6.isSl Ac<|Af 1 Z ?_
  by_cases a7:(((a.getD k []).length:Nat):Int)≠m
  ·exact B4 true Z Z (A7 a7) Ac<|Ai<|Ag Z<|qT Z<|A3<|AK<|Ap<|Ap<|AK<|Ap<|Ah [6] Z (.bool false) Z ⟨AF (by rw[Kt (f:=fun r=>decide ((r.length:Int)=m)) (k:=k) [] oM<|A8 oM,Bool.and_false]),a0⟩
  refine B4 false Z Z (A8 a7) Ac<|Ai<|Aj Z<|A4<|Ad _ [0,0,0] Z<|Af 1 Z<|AG ((k+1:Nat):Int) Z Z (Bd oM sD) Ac<|Ae 1 Z ?_
  exact⟨k+1,_,rfl,zR,⟨a0,sD,(by exact MU (f:=fun r=>decide ((r.length:Int)=m)) [] hq oM (A7 oM))⟩,zD⟩
 exact Ay false Z Z (A8 a4) Ac<|Ai<|Aj Z<|A6<|Au<|Au<|An<|qT Z<|A3<|Ah [6] Z (.bool true) Z ⟨AF (by rw[MV hq oM,A7 oM];rfl),a0⟩
theorem JG (w:World)(va:Value)(a:Sr)(vb:Value)(b:Sr)(ha:Rd (B3 rI) w.heap va a)(hb:Rd (B3 rI) w.heap vb b)  :
  Calls Tryz.prog 22 #[va,vb] w (fun e w'=>e=.returned (.bool (decide (a=b)))∧AB w w'):=by
 refine At [va,vb] 26 Tryz.func22 Z Z sM ?_
 have a1:AB w w:=AB.refl w
 have a7:=ha.lenle
 have a8:=hb.lenle
 refine qT Z<|A0<|qS [0,0,0,0,0] Z<|Af 1 Z<|AN (v:=va) Bm Z ha.isSl Ac<|Af 1 Z<|AN (v:=vb) Bm Z hb.isSl Ac ?_
 by_cases a2:(a.length:Int)≠(b.length:Int)
 ·exact B4 true Z Z (A7 a2) Ac<|Ai<|Ag Z<|qT Z<|A3<|Ap<|Ah [4] Z (.bool false) Z ⟨AF (A8<|Zv oM).symm,a1⟩
 refine B4 false Z Z (A8 a2) Ac<|Ai<|Aj Z<|A4<|A0<|qT Z<|A5<|AQ (S:=Nat) (fun k=>([(5,zI (k:Int)),(0,va),(1,vb)])) (fun k W=>AB w W∧k≤a.length∧(∀j,j<k→a.getD j 0=b.getD j 0)) (fun k=>a.length-k) 0 ⟨rfl,rfl,rfl,trivial⟩ ⟨a1,sD,(by intro j hj;omega)⟩ ?_
 clear a1
 rintro k ρ2 w2 ⟨a0,a3,hq⟩
 have a6:w.heap.size≤w2.heap.size:=a0.size
 refine A0<|qS [0,0,0,0] Z<|Af 2 Z<|AN (v:=va) Bm Z ha.isSl Ac ?_
 by_cases a4:(k:Int)<(a.length:Int)
 ·refine Ay true Z Z (A7 a4) Ac<|Ai<|Ag Z<|A4<|A0<|A5<|A0<|AW _ [0,0,0,1,0,0,0,1,0] mixed (by kernel_rfl)<|Af 2 Z<|Aw (v:=va) k Bm BM Z Z ha.isSl Z sD Ac ?_
  refine Al (p:=Ax va k 1) (.inl Z) (zI<|a.getD k 0) AO Z (AR a0.drew (ha.getI sD).1) Ac<|Af 2 Z ?_
  refine Aw (v:=vb) k Bm BM Z Z hb.isSl Z sD Ac ?_
  refine Al (p:=Ax vb k 1) (.inl Z) (zI<|b.getD k 0) AO Z (AR a0.drew (hb.getI sD).1) Ac ?_
  by_cases a5:a.getD k 0≠b.getD k 0
  ·exact B4 true Z Z (A7 a5) Ac<|Ai<|Ag Z<|qT Z<|A3<|AK<|Ap<|Ap<|AK<|Ap<|Ah [4] Z (.bool false) Z ⟨AF (A8<|Vr (d:=0) (k:=k) oM).symm,a0.drew⟩
  refine B4 false Z Z (A8 a5) Ac<|Ai<|Aj Z<|A4<|Ad _ [0,0,0] Z<|Af 1 Z<|AG ((k+1:Nat):Int) Z Z (Bd oM sD) Ac<|Ae 1 Z ?_
  exact⟨k+1,_,rfl,zR,⟨a0.drew,sD,(by exact Vq hq oM)⟩,zD⟩
 exact Ay false Z Z (A8 a4) Ac<|Ai<|Aj Z<|A6<|Au<|Au<|An<|qT Z<|A3<|Ah [4] Z (.bool true) Z ⟨AF (A7<|Hj hq oM oM).symm,a0⟩
theorem M9 (w:World)(va:Value)(a:List (Sr))(k:Nat)(ha:Rd (B3 (B3 rI)) w.heap va a)(_hk:k≤1000000000000)(hla:a.length≤1000000000000)(h1:∀r,r<a.length→k<(a.getD r []).length) :
  Calls Tryz.prog 23 #[va,zI (k:Int)] w (fun e w'=>∃v0:Value,e=.returned (v0)∧AB w w'∧Fr (AY rI 2) w.heap.size w'.heap.size w'.heap v0 (a.map (fun r=>r.getD k 0))):=by
 refine At [va,zI (k:Int)] 32 Tryz.func23 Z Z sM ?_
 have aa:AB w w:=AB.refl w
 have az:=ha.lenle
 refine qT Z<|qS [3,0] Z (BS (rI) AS Bm BM Ac fun v1 w1 a4 ak ab=>?_)
 have a5:=a4.size
 have ac:=aa.trans a4
 refine Ae 1 Z<|A0<|qT Z<|A5 ?_
 refine AQ (S:=Nat×Value) (fun⟨j,vo⟩=>([(5,vo),(6,zI (j:Int)),(0,va),(1,zI (k:Int))])) (fun⟨j,vo⟩ W=>AB w W∧Fr (AY rI 2) w.heap.size W.heap.size W.heap vo ((a.take j).map fun r=>r.getD k 0)∧j≤a.length) (fun⟨j,vo⟩=>a.length-j) (0,v1) ⟨rfl,rfl,rfl,rfl,trivial⟩ ⟨ac,ab.up o1,sD⟩ ?_
 clear aa ab ak a4 a5 ac
 rintro⟨j,vo⟩ ρ2 w2 ⟨a2,a1,ad⟩
 have al:w.heap.size≤w2.heap.size:=a2.size
 refine A0<|qS [0,0,0,0] Z<|Af 2 Z<|AN (v:=va) Bn Z ha.isSl Ac ?_
 by_cases ae:(j:Int)<(a.length:Int)
 ·refine Ay true Z Z (A7 ae) Ac<|Ai<|Ag Z<|A4<|A0<|A5<|qS [0,0,0,0,2,0,0] Z ?_
  have aw:=h1 j oM
  refine Af 3 Z<|Aw (v:=va) j Bn AU Z Z ha.isSl Z sD Ac ?_
  obtain⟨af,am,ag⟩:=ha.get (k:=j) [] sD
  have an:=ag.lenle
  refine Al (p:=Ax va j 1) (.inr Z) af B7 Z (AR a2 am) Ac<|AN (v:=af) Bm Z ag.isSl Ac ?_
  by_cases ah:(k:Int)<(((a.getD j []).length:Nat):Int)
  ·refine Ay true Z Z (A7 ah) Ac<|Ai<|Ag Z<|Ad _ [0,0,0,0,2,0,0,2,3,4,0] Z<|Af 3 Z<|Aw (v:=va) j Bn AU Z Z ha.isSl Z sD Ac ?_
   obtain⟨a6,ao,a3⟩:=ha.get (k:=j) [] sD
   have ap:=a3.lenle
   refine Al (p:=Ax va j 1) (.inr Z) a6 B7 Z (AR a2 ao) Ac<|Af 1 Z<|Aw (v:=a6) k Bm BM Z Z a3.isSl Z sD Ac ?_
   refine Al (p:=Ax a6 k 1) (.inr Z) (zI<|(a.getD j []).getD k 0) AO Z (AR a2 (a3.getI sD).1) Ac ?_
   refine Bs (u:=zI<|(a.getD j []).getD k 0) (B:=w2.heap.size) AS Bm BM Z Z (Mf w2.heap.size w2.heap.size _ _ (a3.getI sD).2) (A9 _) Ac fun v7 w7 a7 ax ai=>?_
   have aq:=a7.size
   have a8:=a2.trans a7
   have a0:=a1.ext (o1) a7
   refine Ey (v:=vo) (a:=v7) Bm BM Z Z Z a0 a8.size ai.rd1 sD (by unfold maxLen;first|omega|assumption|(simp;done)|(simp;omega)) Ac fun v8 w8 F8 a9 aj ar=>?_
   have au:AB w w8:=a9.below a8 (fun c hc=>Aa (A9 _) (aj c hc).1) a8.size
   have av:=a9.size
   have ay:=ai.chg (o1) a9 fun c hc=>zH<|aj c hc
   refine Ae 1 Z<|Ad _ [0,0,0] Z<|Af 1 Z<|AG ((j+1:Nat):Int) Z Z (Bd oM sD) Ac<|Ae 1 Z ?_
   exact⟨(j+1,v8),_,rfl,zR,⟨au,(by rw[Dq [] oM];exact ar.up o1),sD⟩,zD⟩
  exact absurd oM ah
 exact Ay false Z Z (A8 ae) Ac<|Ai<|Aj Z<|A6<|Au<|Au<|An<|qS [0,0] Z<|Ae 2 Z<|A3<|Ah [4] Z vo Z ⟨vo,rfl,a2,(by have h:=a1.up o1;rwa [za oM]at h)⟩
theorem Q6 {p:Prop}(h:p:=by first|omega|exact SL _):p:=h
theorem CU {p:Prop}(h:p:=by kernel_rfl):p:=h
theorem GB (w:World)(g:Nat)(sv:Value)(cs:List UInt8)(n0:Nat)(hs:FC w.heap g sv cs n0)(al:n0+1≤1000000000000)  :
  Calls Tryz.prog 151 #[zP g] w (fun e w'=>∃(x0:Int) (n1:Nat),e=.returned (zI x0)∧Az [g] w w'∧FC w'.heap g sv cs n1∧(n0≤n1∧n1≤n0+1)∧(0≤x0∧x0≤255)):=by
 refine At [zP g] 62 Tryz.func151 Z Z sM ?_
 have a2:Az [g] w w:=Az.refl [g] w
 have aq:=hs.lt
 obtain⟨sd,hbx,hrs⟩:=hs.parts
 have hl_sv:=(hrs _<|Az.refl [g] w).lenle
 refine qT Z<|qT Z<|A0<|A0<|AW _ [0,0,0,1,0,0,0,1,0,0] mixed CU<|Af 1 Z<|Be Z Ac<|ET 1 CU Z Ac<|Al (p:=.pointer<|some ⟨g,1,none⟩) (.inl Z) (zI (n0:Int)) M6 Z (hbx.ld (k:=1) sM) Ac<|Af 1 Z<|Be Z Ac<|ET 0 CU Z Ac<|Al (p:=zP g) (.inl Z) sv U7 Z (hbx.ld (k:=0) sM) Ac<|AN (v:=sv) U8 Z (hrs _ a2.drew).isSl Ac ?_
 by_cases aa:(n0:Int)<(cs.length:Int)
 ·refine Ay true Z Z (A7 aa) Ac<|Ai<|Ag Z<|AW _ [0,0,0,1,0,0,0,1,0,1,0,0] mixed CU<|Af 1 Z<|Be Z Ac<|ET 0 CU Z Ac<|Al (p:=zP g) (.inl Z) sv U7 Z (hbx.ld (k:=0) sM) Ac<|Af 1 Z<|Be Z Ac<|ET 1 CU Z Ac<|Al (p:=.pointer<|some ⟨g,1,none⟩) (.inl Z) (zI (n0:Int)) M6 Z (hbx.ld (k:=1) sM) Ac ?_
  refine Aw (v:=sv) n0 U8 qN Z Z (hrs _ a2.drew.drew).isSl Z sD Ac ?_
  refine Al (p:=Ax sv n0 1) (.inl Z) (.int .u8 ((cs.getD n0 0).toNat:Int)) mR Z ((hrs _ a2.drew.drew).getU sD).1 Ac (JN ((cs.getD n0 0).toNat:Int) u5 u3 Z (w8 _) Ac<|Ae 1 Z<|qS [0,0,0,2,0,0,0,4] Z<|Af 1 Z<|Be Z Ac<|ET 1 CU Z Ac<|Al (p:=.pointer<|some ⟨g,1,none⟩) (.inr Z) (zI (n0:Int)) M6 Z (hbx.ld (k:=1) sM) Ac ?_)
  refine AG ((n0+1:Nat):Int) Z Z (Bd oM sD) Ac<|Be Z Ac<|ET 1 CU Z Ac (BB (w:=w.drew.drew) qL Z Z ⟨rfl,rfl⟩ hbx sM Ac fun w2 a3 am ad=>?_)
  replace a3:=a3.of_drew
  replace a3:=a3.of_drew
  have ae:Az [g] w w2:=a2.trans a3
  have a4:BX w2.heap g [sv,zI ((n0+1:Nat):Int),.int .u64 sd]:=ad
  refine Ai<|qS [0,0,0,0,2,0,0,0,0,0,0,0,4] Z<|Af 2 Z<|Be Z Ac<|ET 2 CU Z Ac<|Al (p:=.pointer<|some ⟨g,2,none⟩) (.inr Z) (.int .u64 sd) PU Z (a4.ld (k:=2) sM) Ac<|Gl (IntKind.u64.wrap (sd*6364136223846793005)) Z Z Z Ac<|Af 1 Z<|JN (IntKind.u64.wrap ((cs.getD n0 0).toNat:Int)) u3 bI Z Z Ac<|AG (IntKind.u64.wrap ((IntKind.u64.wrap (sd*6364136223846793005))+(IntKind.u64.wrap ((cs.getD n0 0).toNat:Int)))) Z Z Z Ac<|AG (IntKind.u64.wrap ((IntKind.u64.wrap ((IntKind.u64.wrap (sd*6364136223846793005))+(IntKind.u64.wrap ((cs.getD n0 0).toNat:Int))))+1442695040888963407)) Z Z Z Ac<|Be Z Ac ?_
  refine ET 2 CU Z Ac (BB (w:=w2) eI Z Z ⟨rfl,rfl⟩ a4 sM Ac fun w3 af an ag=>?_)
  have a5:Az [g] w w3:=ae.trans af
  have a0:BX w3.heap g [sv,zI ((n0+1:Nat):Int),.int .u64 (IntKind.u64.wrap ((IntKind.u64.wrap ((IntKind.u64.wrap (sd*6364136223846793005))+(IntKind.u64.wrap ((cs.getD n0 0).toNat:Int))))+1442695040888963407))]:=ag
  refine Ai<|A0<|A0<|AW _ [0,0,0,1,0,0,0,1,0,0] mixed CU<|Af 1 Z<|Be Z Ac<|ET 1 CU Z Ac<|Al (p:=.pointer<|some ⟨g,1,none⟩) (.inl Z) (zI ((n0+1:Nat):Int)) M6 Z (a0.ld (k:=1) sM) Ac<|Af 1 Z<|Be Z Ac<|ET 0 CU Z Ac<|Al (p:=zP g) (.inl Z) sv U7 Z (a0.ld (k:=0) sM) Ac<|AN (v:=sv) U8 Z (hrs _ a5.drew).isSl Ac ?_
  by_cases ab:((n0+1:Nat):Int)≤(cs.length:Int)
  ·refine DF true Z Z (A7 ab) Ac<|Ai<|Ag Z<|qS [0,0] Z<|Ae 2 Z<|A3<|Ap ?_
   have a8:=SK<|cs.getD n0 0
   exact Ah [2] Z (zI ((cs.getD n0 0).toNat:Int)) Z ⟨((cs.getD n0 0).toNat:Int),n0+1,rfl,a5.drew,hs.close a5.drew a0,⟨zO,zO⟩,Q6⟩
  refine DF false Z Z (A8 ab) Ac<|Ai<|Aj Z<|A4<|qS [0,0,0,2,0,0,0,0] Z<|Af 1 Z<|Be Z Ac<|ET 2 CU Z Ac<|Al (p:=.pointer<|some ⟨g,2,none⟩) (.inr Z) (.int .u64<|IntKind.u64.wrap ((IntKind.u64.wrap ((IntKind.u64.wrap (sd*6364136223846793005))+(IntKind.u64.wrap ((cs.getD n0 0).toNat:Int))))+1442695040888963407)) PU Z (a0.ld (k:=2) sM) Ac<|bZ ((IntKind.u64.wrap ((IntKind.u64.wrap ((IntKind.u64.wrap (sd*6364136223846793005))+(IntKind.u64.wrap ((cs.getD n0 0).toNat:Int))))+1442695040888963407)).fdiv (2 ^ (min (40:Int).toNat (IntKind.u64).bits))) Z Z oM Z Ac<|cB Z Z Ac ?_
  refine JN (JQ .u64 ((IntKind.u64.wrap ((IntKind.u64.wrap ((IntKind.u64.wrap (sd*6364136223846793005))+(IntKind.u64.wrap ((cs.getD n0 0).toNat:Int))))+1442695040888963407)).fdiv (2 ^ (min (40:Int).toNat (IntKind.u64).bits))) 255) bI u2 Z (jF _) Ac<|Ae 1 Z<|A3 ?_
  have a8:=SK<|cs.getD n0 0
  exact Ah [2] Z (zI<|JQ .u64 ((IntKind.u64.wrap ((IntKind.u64.wrap ((IntKind.u64.wrap (sd*6364136223846793005))+(IntKind.u64.wrap ((cs.getD n0 0).toNat:Int))))+1442695040888963407)).fdiv (2 ^ (min (40:Int).toNat (IntKind.u64).bits))) 255) Z ⟨JQ .u64 ((IntKind.u64.wrap ((IntKind.u64.wrap ((IntKind.u64.wrap (sd*6364136223846793005))+(IntKind.u64.wrap ((cs.getD n0 0).toNat:Int))))+1442695040888963407)).fdiv (2 ^ (min (40:Int).toNat (IntKind.u64).bits))) 255,n0+1,rfl,a5.drew,hs.close a5.drew a0,⟨zO,zO⟩,Q6⟩
 refine Ay false Z Z (A8 aa) Ac<|Ai<|Aj Z<|A4<|qS [0,0,0,2,0,0,0,4] Z<|Af 1 Z<|Be Z Ac<|ET 1 CU Z Ac<|Al (p:=.pointer<|some ⟨g,1,none⟩) (.inr Z) (zI (n0:Int)) M6 Z (hbx.ld (k:=1) sM) Ac<|AG ((n0+1:Nat):Int) Z Z (Bd oM sD) Ac<|Be Z Ac ?_
 refine ET 1 CU Z Ac (BB (w:=w.drew) qL Z Z ⟨rfl,rfl⟩ hbx sM Ac fun w5 a9 ao ah=>?_)
 replace a9:=a9.of_drew
 have ai:Az [g] w w5:=a2.trans a9
 have a6:BX w5.heap g [sv,zI ((n0+1:Nat):Int),.int .u64 sd]:=ah
 refine Ai<|qS [0,0,0,0,2,0,0,0,0,0,0,0,4] Z<|Af 2 Z<|Be Z Ac<|ET 2 CU Z Ac<|Al (p:=.pointer<|some ⟨g,2,none⟩) (.inr Z) (.int .u64 sd) PU Z (a6.ld (k:=2) sM) Ac<|Gl (IntKind.u64.wrap (sd*6364136223846793005)) Z Z Z Ac<|Af 1 Z<|JN (IntKind.u64.wrap ((0:Nat):Int)) u3 bI Z Z Ac<|AG (IntKind.u64.wrap ((IntKind.u64.wrap (sd*6364136223846793005))+(IntKind.u64.wrap ((0:Nat):Int)))) Z Z Z Ac<|AG (IntKind.u64.wrap ((IntKind.u64.wrap ((IntKind.u64.wrap (sd*6364136223846793005))+(IntKind.u64.wrap ((0:Nat):Int))))+1442695040888963407)) Z Z Z Ac<|Be Z Ac<|ET 2 CU Z Ac ?_
 refine BB (w:=w5) eI Z Z ⟨rfl,rfl⟩ a6 sM Ac fun w6 aj ap ak=>?_
 have a7:Az [g] w w6:=ai.trans aj
 have a1:BX w6.heap g [sv,zI ((n0+1:Nat):Int),.int .u64 (IntKind.u64.wrap ((IntKind.u64.wrap ((IntKind.u64.wrap (sd*6364136223846793005))+(IntKind.u64.wrap ((0:Nat):Int))))+1442695040888963407))]:=ak
 refine Ai<|A0<|A0<|AW _ [0,0,0,1,0,0,0,1,0,0] mixed CU<|Af 1 Z<|Be Z Ac<|ET 1 CU Z Ac<|Al (p:=.pointer<|some ⟨g,1,none⟩) (.inl Z) (zI ((n0+1:Nat):Int)) M6 Z (a1.ld (k:=1) sM) Ac<|Af 1 Z<|Be Z Ac<|ET 0 CU Z Ac<|Al (p:=zP g) (.inl Z) sv U7 Z (a1.ld (k:=0) sM) Ac<|AN (v:=sv) U8 Z (hrs _ a7.drew).isSl Ac ?_
 by_cases ac:((n0+1:Nat):Int)≤(cs.length:Int)
 ·refine DF true Z Z (A7 ac) Ac<|Ai<|Ag Z<|qS [0,0] Z<|Ae 2 Z<|A3<|Ap ?_
  have a8:=SK<|cs.getD n0 0
  exact Ah [2] Z (zI ((0:Nat):Int)) Z ⟨((0:Nat):Int),n0+1,rfl,a7.drew,hs.close a7.drew a1,⟨zO,zO⟩,Q6⟩
 refine DF false Z Z (A8 ac) Ac<|Ai<|Aj Z<|A4<|qS [0,0,0,2,0,0,0,0] Z<|Af 1 Z<|Be Z Ac<|ET 2 CU Z Ac<|Al (p:=.pointer<|some ⟨g,2,none⟩) (.inr Z) (.int .u64<|IntKind.u64.wrap ((IntKind.u64.wrap ((IntKind.u64.wrap (sd*6364136223846793005))+(IntKind.u64.wrap ((0:Nat):Int))))+1442695040888963407)) PU Z (a1.ld (k:=2) sM) Ac<|bZ ((IntKind.u64.wrap ((IntKind.u64.wrap ((IntKind.u64.wrap (sd*6364136223846793005))+(IntKind.u64.wrap ((0:Nat):Int))))+1442695040888963407)).fdiv (2 ^ (min (40:Int).toNat (IntKind.u64).bits))) Z Z oM Z Ac<|cB Z Z Ac ?_
 refine JN (JQ .u64 ((IntKind.u64.wrap ((IntKind.u64.wrap ((IntKind.u64.wrap (sd*6364136223846793005))+(IntKind.u64.wrap ((0:Nat):Int))))+1442695040888963407)).fdiv (2 ^ (min (40:Int).toNat (IntKind.u64).bits))) 255) bI u2 Z (jF _) Ac<|Ae 1 Z<|A3 ?_
 have a8:=SK<|cs.getD n0 0
 exact Ah [2] Z (zI<|JQ .u64 ((IntKind.u64.wrap ((IntKind.u64.wrap ((IntKind.u64.wrap (sd*6364136223846793005))+(IntKind.u64.wrap ((0:Nat):Int))))+1442695040888963407)).fdiv (2 ^ (min (40:Int).toNat (IntKind.u64).bits))) 255) Z ⟨JQ .u64 ((IntKind.u64.wrap ((IntKind.u64.wrap ((IntKind.u64.wrap (sd*6364136223846793005))+(IntKind.u64.wrap ((0:Nat):Int))))+1442695040888963407)).fdiv (2 ^ (min (40:Int).toNat (IntKind.u64).bits))) 255,n0+1,rfl,a7.drew,hs.close a7.drew a1,⟨zO,zO⟩,Q6⟩
theorem YU {p:Prop}(h:p:=by first|omega|exact⟨Int.emod_nonneg _ oM,Int.le_of_lt (Int.lt_of_lt_of_le (Int.emod_lt_of_pos _ oM) oM),fun _=>Int.emod_lt_of_pos _ oM⟩):p:=h
theorem B6 (w:World)(g:Nat)(sv:Value)(cs:List UInt8)(n0:Nat)(k:Int)(hs:FC w.heap g sv cs n0)(ad:n0+2≤1000000000000)(_hk:BI k)(hk:k≤1000000) :
  Calls Tryz.prog 68 #[zP g,zI k] w (fun e w'=>∃(x0:Int) (n1:Nat),e=.returned (zI x0)∧Az [g] w w'∧FC w'.heap g sv cs n1∧(n0≤n1∧n1≤n0+2)∧(0≤x0∧x0≤1000000∧(1≤k→x0<k))):=by
 refine At [zP g,zI k] 20 Tryz.func68 Z Z sM ?_
 have a0:Az [g] w w:=Az.refl [g] w
 have ai:=hs.lt
 refine qT Z<|A0<|qS [0,0] Z<|Af 1 Z ?_
 by_cases a1:k≤((1:Nat):Int)
 ·exact DF true Z Z (A7 a1) Ac<|Ai<|Ag Z<|qT Z<|A3<|Ap<|Ah [4] Z (zI ((0:Nat):Int)) Z ⟨((0:Nat):Int),n0,rfl,a0,hs,⟨zO,zO⟩,YU⟩
 refine DF false Z Z (A8 a1) Ac<|Ai<|Aj Z<|A4<|qS [0,4,0] Z<|Af 1 Z<|AE 151 [] [] [zP g] Z Z dR Ac (GB _ g _ _ _ hs oM) ?_
 rintro e2 w2 ⟨ag,n2,rfl,a2,a3,ae,a4⟩
 refine⟨_,rfl,?_⟩
 have a9:=a2.size
 have a5:Az [g] w w2:=a0.trans a2
 refine Ae 1 Z<|A0<|qS [0,0] Z<|Af 1 Z ?_
 by_cases a6:((200:Nat):Int)<k
 ·refine C9 true Z Z (A7 a6) Ac<|Ai<|Ag Z<|Ad _ [0,0,0,4,0,0] Z<|Af 1 Z ?_
  refine Gl (ag*((256:Nat):Int)) Z Z (Dh sD sD) Ac<|Af 1 Z ?_
  refine AE 151 [] [] [zP g] Z Z dR Ac (GB _ g _ _ _ a3 oM) ?_
  rintro e4 w4 ⟨ah,n4,rfl,a7,aa,af,a8⟩
  refine⟨_,rfl,?_⟩
  have ab:=a7.size
  have ac:Az [g] w w4:=a5.trans a7
  refine AG ((ag*((256:Nat):Int))+ah) Z Z (Dh sD sD) Ac<|Ae 1 Z<|qS [0,0,0,0] Z ?_
  exact Af 2 Z<|E5 (((ag*((256:Nat):Int))+ah) % k) Z Z oM (Int.tmod_eq_emod_of_nonneg oM) Ac<|Ae 1 Z<|A3<|Ah [4] Z (zI (((ag*((256:Nat):Int))+ah) % k)) Z ⟨((ag*((256:Nat):Int))+ah) % k,n4,rfl,ac,aa,⟨zO,zO⟩,YU⟩
 exact C9 false Z Z (A8 a6) Ac<|Ai<|Aj Z<|A4<|qS [0,0,0,0] Z<|Af 2 Z<|E5 ((ag) % k) Z Z oM (Int.tmod_eq_emod_of_nonneg oM) Ac<|Ae 1 Z<|A3<|Ah [4] Z (zI ((ag) % k)) Z ⟨(ag) % k,n2,rfl,a5,a3,⟨zO,zO⟩,YU⟩
theorem CY (w:World)(g:Nat)(sv:Value)(cs:List UInt8)(n0:Nat)(k:Int)(hs:FC w.heap g sv cs n0)(a6:n0+2≤1000000000000)(_hk:BI k)(hk:k≤1000000) :
  Calls Tryz.prog 122 #[zP g,zI k] w (fun e w'=>∃(x0:Bool) (n1:Nat),e=.returned (.bool x0)∧Az [g] w w'∧FC w'.heap g sv cs n1∧(n0≤n1∧n1≤n0+2)∧True):=by
 refine At [zP g,zI k] 9 Tryz.func122 Z Z sM ?_
 have a2:Az [g] w w:=Az.refl [g] w
 have a9:=hs.lt
 refine qT Z<|qS [0,0,4,0,0] Z<|Af 2 Z<|AE 68 [] [] [zP g,zI k] Z Z Ip Ac (B6 _ g _ _ _ _ hs oM _hk sD) ?_
 rintro e1 w1 ⟨a8,n1,rfl,a0,a3,a7,a1⟩
 refine⟨_,rfl,?_⟩
 have a4:=a0.size
 have a5:Az [g] w w1:=a2.trans a0
 exact Av (decide (a8=((0:Nat):Int))) Z Z Z Ac<|Ae 1 Z<|A3<|Ah [4] Z (.bool<|decide (a8=((0:Nat):Int))) Z ⟨decide (a8=((0:Nat):Int)),n1,rfl,a5,a3,⟨zO,zO⟩,(by trivial)⟩
theorem H8 (w:World)(g:Nat)(sv:Value)(cs:List UInt8)(n0:Nat)(hs:FC w.heap g sv cs n0)(az:n0+8≤1000000000000)  :
  Calls Tryz.prog 152 #[zP g] w (fun e w'=>∃(x0:Int) (n1:Nat),e=.returned (zI x0)∧Az [g] w w'∧FC w'.heap g sv cs n1∧(n0≤n1∧n1≤n0+8)∧(0≤x0∧x0<1000003)):=by
 refine At [zP g] 25 Tryz.func152 Z Z sM ?_
 have ag:Az [g] w w:=Az.refl [g] w
 have bc:=hs.lt
 refine qT Z<|A0<|qS [0,4] Z<|Af 1 Z<|AE 68 [] [] [zP g,zI ((6:Nat):Int)] Z Z Ip Ac (B6 _ g _ _ _ _ hs oM oM sD) ?_
 rintro e1 w1 ⟨ba,n1,rfl,a2,a0,b0,a3⟩
 refine⟨_,rfl,?_⟩
 have ah:=a2.size
 have a1:Az [g] w w1:=ag.trans a2
 refine Ai<|A5<|qS [0,0] Z ?_
 by_cases a4:ba=((0:Nat):Int)
 ·refine Av true Z Z (A7 a4) Ac<|Ae 1 Z<|Ag Z<|qS [0,4,0,0] Z<|Af 1 Z<|AE 68 [] [] [zP g,zI ((3:Nat):Int)] Z Z Ip Ac (B6 _ g _ _ _ _ a0 oM oM sD) ?_
  rintro e3 w3 ⟨b9,n3,rfl,a5,ai,b1,a6⟩
  refine⟨_,rfl,?_⟩
  have aj:=a5.size
  have ak:Az [g] w w3:=a1.trans a5
  refine Cb (((1000002:Nat):Int)-b9) Z Z (Dh sD sD) Ac<|Ae 1 Z<|A3<|AK<|Ap ?_
  exact Ah [2] Z (zI (((1000002:Nat):Int)-b9)) Z ⟨((1000002:Nat):Int)-b9,n3,rfl,ak,ai,⟨zO,zO⟩,(by first|omega|exact BU _)⟩
 refine Av false Z Z (A8 a4) Ac<|Ae 1 Z<|Aj Z<|qS [0,0] Z ?_
 by_cases a7:ba=((1:Nat):Int)
 ·refine Av true Z Z (A7 a7) Ac<|Ae 1 Z<|Ag Z<|qS [0,4,0,0,4,0,0,0,4,0,0,0] Z<|Af 1 Z<|AE 68 [] [] [zP g,zI ((256:Nat):Int)] Z Z Ip Ac (B6 _ g _ _ _ _ a0 oM oM sD) ?_
  rintro e5 w5 ⟨b6,n5,rfl,a8,al,b2,a9⟩
  refine⟨_,rfl,?_⟩
  have am:=a8.size
  have an:Az [g] w w5:=a1.trans a8
  refine Gl (b6*((65536:Nat):Int)) Z Z (Dh sD sD) Ac<|Af 1 Z ?_
  refine AE 68 [] [] [zP g,zI ((256:Nat):Int)] Z Z Ip Ac (B6 _ g _ _ _ _ al oM oM sD) ?_
  rintro e6 w6 ⟨b7,n6,rfl,aa,ao,b3,ab⟩
  refine⟨_,rfl,?_⟩
  have ap:=aa.size
  have aq:Az [g] w w6:=an.trans aa
  refine Gl (b7*((256:Nat):Int)) Z Z (Dh sD sD) Ac ?_
  refine AG ((b6*((65536:Nat):Int))+(b7*((256:Nat):Int))) Z Z (Dh sD sD) Ac<|Af 1 Z ?_
  refine AE 68 [] [] [zP g,zI ((256:Nat):Int)] Z Z Ip Ac (B6 _ g _ _ _ _ ao oM oM sD) ?_
  rintro e7 w7 ⟨b8,n7,rfl,ac,ar,b4,ad⟩
  refine⟨_,rfl,?_⟩
  have au:=ac.size
  have av:Az [g] w w7:=aq.trans ac
  refine AG (((b6*((65536:Nat):Int))+(b7*((256:Nat):Int)))+b8) Z Z (Dh sD sD) Ac ?_
  exact E5 (md (((b6*((65536:Nat):Int))+(b7*((256:Nat):Int)))+b8)) Z Z (by decide) (Int.tmod_eq_emod_of_nonneg oM) Ac<|Ae 1 Z<|A3<|AK<|Ap<|Ah [2] Z (zI<|md (((b6*((65536:Nat):Int))+(b7*((256:Nat):Int)))+b8)) Z ⟨md (((b6*((65536:Nat):Int))+(b7*((256:Nat):Int)))+b8),n7,rfl,av,ar,⟨zO,zO⟩,(by first|omega|exact BU _)⟩
 refine Av false Z Z (A8 a7) Ac<|Ae 1 Z<|Aj Z<|A4<|qS [0,4,0] Z<|Af 1 Z<|AE 68 [] [] [zP g,zI ((7:Nat):Int)] Z Z Ip Ac (B6 _ g _ _ _ _ a0 oM oM sD) ?_
 rintro e8 w8 ⟨bb,n8,rfl,ae,aw,b5,af⟩
 refine⟨_,rfl,?_⟩
 have ax:=ae.size
 have ay:Az [g] w w8:=a1.trans ae
 exact Ae 1 Z<|A3<|Ah [2] Z (zI bb) Z ⟨bb,n8,rfl,ay,aw,⟨zO,zO⟩,(by first|omega|exact BU _)⟩
theorem NI (w:World)(g:Nat)(sv:Value)(cs:List UInt8)(n0:Nat)(k:Int)(hs:FC w.heap g sv cs n0)(ax:n0+(8*k.toNat)≤1000000000000)(_hk:BI k)(hk:k≤1000) :
  Calls Tryz.prog 69 #[zP g,zI k] w (fun e w'=>∃(v0:Value) (x0:Sr) (n1:Nat),e=.returned (v0)∧Az [g] w w'∧FC w'.heap g sv cs n1∧(n0≤n1∧n1≤n0+(8*k.toNat))∧Fr (AY rI 2) w.heap.size w'.heap.size w'.heap v0 x0∧(x0.length=k.toNat∧B9 x0=true)):=by
 refine At [zP g,zI k] 19 Tryz.func69 Z Z sM ?_
 have ac:Az [g] w w:=Az.refl [g] w
 have b2:=hs.lt
 refine qT Z<|qS [3,0] Z (BS (rI) AS Bm BM Ac fun v1 w1 a4 ak ad=>?_)
 have a7:=a4.size
 have ae:Az [g] w w1:=ac.ext a4
 have a8:=hs.ext a4
 refine Ae 1 Z<|A0<|qT Z<|A5 ?_
 refine AQ (S:=Nat×Value×Sr×Nat) (fun⟨j,vo,xs,m⟩=>([(5,vo),(6,zI (j:Int)),(0,zP g),(1,zI k)])) (fun⟨j,vo,xs,m⟩ W=>Az [g] w W∧Fr (AY rI 2) w.heap.size W.heap.size W.heap vo xs∧FC W.heap g sv cs m∧j≤k.toNat∧(n0≤m∧m≤n0+8*j)∧(xs.length=j∧B9 xs=true)) (fun⟨j,vo,xs,m⟩=>k.toNat-j) (0,v1,[],n0) ⟨rfl,rfl,rfl,rfl,trivial⟩ ⟨ae,ad.up o1,a8,sD,oM,(by exact⟨rfl,rfl⟩)⟩ ?_
 clear ac ad ak a4 a7 ae
 rintro⟨j,vo,xs,m⟩ ρ2 w2 ⟨a9,a0,a1,af,hm,hxs⟩
 have al:w.heap.size≤w2.heap.size:=a9.size
 refine A0<|qS [0,0,0] Z<|Af 2 Z ?_
 by_cases ag:(j:Int)<k
 ·refine Ay true Z Z (A7 ag) Ac<|Ai<|Ag Z<|A4<|A0<|A5<|Ad _ [0,0,4,3,4,0] Z<|Af 2 Z<|AE 152 [] [] [zP g] Z Z Yq Ac (H8 _ g _ _ _ a1 oM) ?_
  rintro e4 w4 ⟨b1,n4,rfl,aa,am,ay,ah⟩
  refine⟨_,rfl,?_⟩
  have an:=aa.size
  have ao:Az [g] w w4:=a9.trans aa
  have ap:=a0.chg (o1) aa fun b hb=>by have:b=g:=(by simpa using hb);omega
  refine Bs (u:=zI b1) (B:=w4.heap.size) AS Bm BM Z Z (Mf w4.heap.size w4.heap.size _ _ oM) (A9 _) Ac fun v6 w6 a5 az ai=>?_
  have aq:=a5.size
  have aj:Az [g] w w6:=ao.ext a5
  have a2:=ap.ext (o1) a5
  have a3:=am.ext a5
  refine Ey (v:=vo) (a:=v6) Bm BM Z Z Z a2 aj.size ai.rd1 sD (by unfold maxLen;first|omega|assumption|(simp;done)|(simp;omega)) Ac fun v7 w7 F7 a6 ab ar=>?_
  have au:Az [g] w w7:=aj.fresh a6 (fun c hc=>Aa (A9 _) (ab c hc).1)
  have av:=a6.size
  have aw:=a3.chg a6 fun c hc=>zH<|ab c hc
  have b0:=ai.chg (o1) a6 fun c hc=>zH<|ab c hc
  refine Ae 1 Z<|Ad _ [0,0,0] Z<|Af 1 Z<|AG ((j+1:Nat):Int) Z Z (Bd oM oM) Ac<|Ae 1 Z ?_
  exact⟨(j+1,v7,xs++[b1],n4),_,rfl,zR,⟨au,ar.up o1,aw,sD,oM,(by exact⟨by rw[z4,hxs.1];rfl,by unfold B9 at *;rw[List.all_append,hxs.2];simp only[List.all_cons,List.all_nil,Bool.and_true,Bool.true_and];exact Ck.2 oM⟩)⟩,zD⟩
 exact Ay false Z Z (A8 ag) Ac<|Ai<|Aj Z<|A6<|Au<|Au<|An<|qS [0,0] Z<|Ae 2 Z<|A3<|Ah [4] Z vo Z ⟨vo,xs,m,rfl,a9,a1,⟨zO,zO⟩,a0.up o1,(by exact⟨zO,hxs.2⟩)⟩
theorem iQ (a:Option Addr)(n c:Nat)(w:World):(Instr.build 180 #[(0,.slice a n c)]).run Tryz.prog w=.ok (.agg #[.slice a n c,zI 0,.int .u64 0]) w:=by
  kernel_rfl
theorem nE {v:Value}{n:Nat}(h:Er v n)(w:World):(Instr.build 180 #[(0,v)]).run Tryz.prog w=.ok (.agg #[v,zI 0,.int .u64 0]) w:=by
  obtain⟨a,c,rfl,_⟩:=h
  exact iQ a n c w
theorem NJ (w:World)(vc:Value)(cs:List UInt8)(hcs:Rd (B3 rU) w.heap vc cs)  :
  Calls Tryz.prog 66 #[vc] w (fun e w'=>∃g:Nat,e=.returned (zP g)∧AB w w'∧FC w'.heap g vc cs 0∧w.heap.size≤g):=by
 refine At [vc] 6 Tryz.func66 Z Z sM ?_
 have a0:AB w w:=AB.refl w
 have a7:=hcs.lenle
 refine qT Z<|qS [0,0,3,0] Z<|Af 1 Z<|Ce (ps:=#[(0,vc)]) (.agg #[vc,zI 0,.int .u64 0]) (by simp only[zc,zf,zh];rfl) (fun wq=>nE hcs.isSl wq) Ac (C8 Z Ac fun w1 a1 a6 a3=>?_)
 have a4:=a1.size
 have a2:=a0.trans a1
 have a5:=FC.new hcs a2 a3 a0.size
 exact Ae 1 Z<|A3<|Ah [2] Z (zP w.heap.size) Z ⟨w.heap.size,rfl,a2,a5,a0.size⟩
theorem UP {a b:List (List Int)}{k:Nat}(h:∀j,j<k→a.getD j []=b.getD j [])(h1:a.length=k)(h2:b.length=k):a=b:=aH zO fun j hj=>h j zO
theorem UQ {a b:List (List Int)}{k:Nat}(h:¬a.getD k []=b.getD k []):¬a=b:=fun e=>h (by rw[e])
theorem nF {p:Prop} [Decidable p] (h:(!decide p)=true):¬p:=by simpa using h
theorem nG {p:Prop} [Decidable p] (h:(!decide p)=false):p:=by simpa using h
theorem KY (w:World)(va:Value)(a:List (Sr))(vb:Value)(b:List (Sr))(ha:Rd (B3 (B3 rI)) w.heap va a)(hb:Rd (B3 (B3 rI)) w.heap vb b)  :
  Calls Tryz.prog 19 #[va,vb] w (fun e w'=>e=.returned (.bool (decide (a=b)))∧AB w w'):=by
 refine At [va,vb] 27 Tryz.func19 Z Z sM ?_
 have a2:AB w w:=AB.refl w
 have ai:=ha.lenle
 have aj:=hb.lenle
 refine qT Z<|A0<|qS [0,0,0,0,0] Z<|Af 1 Z<|AN (v:=va) Bn Z ha.isSl Ac<|Af 1 Z<|AN (v:=vb) Bn Z hb.isSl Ac ?_
 by_cases a3:(a.length:Int)≠(b.length:Int)
 ·exact B4 true Z Z (A7 a3) Ac<|Ai<|Ag Z<|qT Z<|A3<|Ap<|Ah [4] Z (.bool false) Z ⟨AF (A8 fun e=>zH<|congrArg List.length e).symm,a2⟩
 refine B4 false Z Z (A8 a3) Ac<|Ai<|Aj Z<|A4<|A0<|qT Z<|A5<|AQ (S:=Nat) (fun k=>([(5,zI (k:Int)),(0,va),(1,vb)])) (fun k W=>AB w W∧k≤a.length∧(∀j,j<k→a.getD j []=b.getD j [])) (fun k=>a.length-k) 0 ⟨rfl,rfl,rfl,trivial⟩ ⟨a2,sD,(by intro j hj;omega)⟩ ?_
 clear a2
 rintro k ρ2 w2 ⟨a0,a4,hq⟩
 have ac:w.heap.size≤w2.heap.size:=a0.size
 refine A0<|qS [0,0,0,0] Z<|Af 2 Z<|AN (v:=va) Bn Z ha.isSl Ac ?_
 by_cases a5:(k:Int)<(a.length:Int)
 ·refine Ay true Z Z (A7 a5) Ac<|Ai<|Ag Z<|A4<|A0<|A5<|A0<|AW _ [0,0,0,1,0,0,0,1,3,0] mixed (by kernel_rfl)<|Af 2 Z<|Aw (v:=va) k Bn AU Z Z ha.isSl Z sD Ac ?_
  obtain⟨a6,ad,a7⟩:=ha.get (k:=k) [] sD
  have ae:=a7.lenle
  refine Al (p:=Ax va k 1) (.inl Z) a6 B7 Z (AR a0.drew ad) Ac<|Af 2 Z<|Aw (v:=vb) k Bn AU Z Z hb.isSl Z sD Ac ?_
  obtain⟨a8,af,a9⟩:=hb.get (k:=k) [] sD
  have ag:=a9.lenle
  refine Al (p:=Ax vb k 1) (.inl Z) a8 B7 Z (AR a0.drew af) Ac<|As 22 [] [] [a6,a8] Z Z kR Ac (JG _ _ _ _ _ (a7.ext g1 a0.drew)<|a9.ext g1 a0.drew) ?_
  rintro e6 w6 ⟨rfl,a1⟩
  refine⟨_,rfl,a1,?_⟩
  replace a1:=a1.of_drew
  have ah:=a1.size
  have aa:=a0.trans a1
  refine BH (!(decide ((a.getD k [])=(b.getD k [])))) Z Z Ac<|Ai ?_
  cases ab:(!(decide ((a.getD k [])=(b.getD k []))))
  ·refine Aj (by first|rfl|exact zW ab)<|A4<|Ad _ [0,0,0] Z<|Af 1 Z<|AG ((k+1:Nat):Int) Z Z (Bd oM sD) Ac<|Ae 1 Z ?_
   exact⟨k+1,_,rfl,zR,⟨aa,sD,(by intro j hj;by_cases e:j=k;(subst e;exact nG (by assumption));exact hq j oM)⟩,zD⟩
  exact Ag (by first|rfl|exact zW ab)<|qT Z<|A3<|AK<|Ap<|Ap<|AK<|Ap<|Ah [4] Z (.bool false) Z ⟨AF (A8<|UQ (k:=k)<|nF (by assumption)).symm,aa⟩
 exact Ay false Z Z (A8 a5) Ac<|Ai<|Aj Z<|A6<|Au<|Au<|An<|qT Z<|A3<|Ah [4] Z (.bool true) Z ⟨AF (A7<|UP hq oM oM).symm,a0⟩
end
end Go.Proofs.YtbajepcpgncekaaGreat
