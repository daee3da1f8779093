/- FwW, FwX, FwY, Gc, Ma, Mb, Na, Mc, Md, Me, Mj, Ml, Mf, Mg, Mh, Mo, Mi, Mq, Nb, Nc, Nd, Ne, Gd, Ge, Gu, Gv, Gw, Gx, Nf, Ng, Nh, Ni, Nj, Nk, Nl, Ga, Gj, Gk, Gh, Gl, Gm, Gr, Gq, Gp, Gs, Gy: texts of this claim, joined; what the claim does not come to is left out. -/
import Derived.Test.YtnokbaiemimhjaaGreatQE1
import Derived.Test.YtnokbaiemimhjaaGreatProg
set_option linter.unusedVariables false
set_option linter.unusedSimpArgs false
namespace Go.Proofs.YtnokbaiemimhjaaGreat
open Go Go.RowKit
section
def DL {α:Type}(s:Nat)(E:Bu α)(e:TypeId):Bc (List α):=fun H v xs F =>
 (v=.slice none 0 0∧xs=[]∧F=[]) ∨
 ∃css g cap cur F',Cf E H css xs F'∧v=.slice (some ⟨g,0,none⟩) xs.length cap∧H[g]? = some (.cells cur e (0,0))∧xs.length≤cap∧cap≤maxLen∧cur.size=cap*s∧cur.toList.take (xs.length*s)=css.flatten∧F=g::F'
section DL
variable {α:Type} {E:Bu α} {s:Nat} {e:TypeId} {H H':Array Obj} {v:Value} {xs:List α} {F:List Nat}
theorem Av (hE:Cj s E):BH (DL s E e) where
 cells:=by
  rintro H v xs F (⟨rfl,_⟩|⟨us,g,cap,cur,F',_,rfl,_⟩) <;> rfl
 one:=by
  rintro H v xs F (⟨rfl,_⟩|⟨us,g,cap,cur,F',_,rfl,_⟩) <;> rfl
 lt:=by
  rintro H v xs F (⟨rfl,_,rfl⟩|⟨us,g,cap,cur,F',h,rfl,hg,_,_,_,_,rfl⟩) b hb
  ·cases hb
  ·rcases List.mem_cons.1 hb with rfl|hb
   ·exact getElem?_lt hg
   ·exact h.lt hE b hb
 stable:=by
  rintro H H' v xs F (⟨rfl,h1,h2⟩|⟨us,g,cap,cur,F',h,rfl,hg,r1,r2,r3,r4,rfl⟩) hb
  ·exact .inl ⟨rfl,h1,h2⟩
  ·exact .inr ⟨us,g,cap,cur,F',h.stable hE fun b hh=>hb b (List.mem_cons_of_mem _ hh),rfl,by rw[hb g (List.mem_cons_self ..)];exact hg,r1,r2,r3,r4,rfl⟩
theorem Cf.imp {E':Bu α}(hi:∀ {H cs x F},E H cs x F→E' H cs x F):∀ {css:List (List Value)}{xs:List α}{F:List Nat},Cf E H css xs F→Cf E' H css xs F
 |[],[],_,h=>h
 |_::_,_::_,_,⟨F1,F2,rfl,h1,h2⟩=>⟨F1,F2,rfl,hi h1,Cf.imp hi h2⟩
 |[],_::_,_,h=>h.elim
 |_::_,[],_,h=>h.elim
theorem DL.imp {E':Bu α}(hi:∀ {H cs x F},E H cs x F→E' H cs x F)(h:DL s E e H v xs F):DL s E' e H v xs F:=by
 rcases h with h|⟨us,g,cap,cur,F',h,rfl,hg,r1,r2,r3,r4,rfl⟩
 ·exact .inl h
 ·exact .inr ⟨us,g,cap,cur,F',h.imp hi,rfl,hg,r1,r2,r3,r4,rfl⟩
theorem DL.rd (hE:Cj s E)(h:DL s E e H v xs F):Dp s E H v xs F:=by
 rcases h with⟨rfl,rfl,rfl⟩|⟨us,g,cap,cur,F',h,rfl,hg,r1,r2,r3,r4,rfl⟩
 ·exact .inl ⟨none,0,rfl,rfl,rfl⟩
 ·refine .inr ⟨us,g,0,cap,cur,e,(0,0),F',h,rfl,hg,?_,⟨Aa r1 r2,r1⟩,rfl⟩
  rw[List.drop_zero];exact r4
theorem DL.isSl (h:DL s E e H v xs F):FS v xs.length:=by
 rcases h with⟨rfl,rfl,_⟩|⟨us,g,cap,cur,F',_,rfl,_⟩
 ·exact⟨none,0,rfl,fun _=>rfl⟩
 ·exact⟨_,_,rfl,fun h=>by cases h⟩
theorem DL.lenle (h:DL s E e H v xs F):xs.length≤maxLen:=by
 rcases h with⟨_,rfl,_⟩|⟨us,g,cap,cur,F',_,_,_,r1,r2,_⟩
 ·simp
 ·exact Aa r1 r2
theorem Cf.set:∀ {css:List (List Value)}{xs:List α}{F G:List Nat}{k:Nat}{cs:List Value}{y:α},Cf E H css xs F→k<xs.length→F.Nodup→E H cs y G→G.Nodup→(∀b∈G,b∉F) →
  ∃F',Cf E H (css.set k cs) (xs.set k y) F'∧F'.Nodup∧∀b∈F',b∈F∨b∈G
 |u0::us,x::xs,_,G,0,u,y,⟨F1,F2,rfl,h1,h2⟩,_,hn,hy,hg,hd=>by
  have hn':=List.nodup_append.1 hn
  refine⟨G++F2,⟨G,F2,rfl,hy,h2⟩,List.nodup_append.2 ⟨hg,hn'.2.1,?_⟩,fun b hb=>(List.mem_append.1 hb).elim .inr fun h=>.inl (List.mem_append_right _ h)⟩
  rintro a ha b hb rfl
  exact hd a ha (List.mem_append_right _ hb)
 |u0::us,x::xs,_,G,k+1,u,y,⟨F1,F2,rfl,h1,h2⟩,hk,hn,hy,hg,hd=>by
  have hn':=List.nodup_append.1 hn
  obtain⟨F',q1,q2,q3⟩:=Cf.set h2 (by simpa using hk) hn'.2.1 hy hg fun b hb hc=>hd b hb (List.mem_append_right _ hc)
  refine⟨F1++F',⟨F1,F',rfl,h1,q1⟩,List.nodup_append.2 ⟨hn'.1,q2,?_⟩,fun b hb=>?_⟩
  ·rintro a ha b hb rfl
   rcases q3 a hb with hh|hh
   ·exact hn'.2.2 a ha a hh rfl
   ·exact hd a hh (List.mem_append_left _ ha)
  ·rcases List.mem_append.1 hb with hh|hh
   ·exact .inl (List.mem_append_left _ hh)
   ·rcases q3 b hh with h'|h'
    ·exact .inl (List.mem_append_right _ h')
    ·exact .inr h'
 |[],[],_,_,_,_,_,_,hk,_,_,_,_=>by simp at hk
 |[],_::_,_,_,_,_,_,h,_,_,_,_,_=>h.elim
 |_::_,[],_,_,_,_,_,h,_,_,_,_,_=>h.elim
theorem Cf.upd:∀ {css:List (List Value)}{xs:List α}{F:List Nat}{k:Nat}(d:α),Cf E H css xs F→k<xs.length→F.Nodup →
  ∃cs G,css[k]? = some cs∧E H cs (xs.getD k d) G∧G.Nodup∧(∀b∈G,b∈F) ∧
   (∀ {H':Array Obj} {cs':List Value},(∀ {c x C},E H c x C→(∀b∈C,b∈F∧b∉G)→E H' c x C)→E H' cs' (xs.getD k d) G→Cf E H' (css.set k cs') xs F)
 |c::css,x::xs,_,0,d,⟨F1,F2,rfl,h1,h2⟩,_,hn=>by
  have hn':=List.nodup_append.1 hn
  refine⟨c,F1,rfl,h1,hn'.1,fun b hb=>List.mem_append_left _ hb,fun {H' cs'} hE hu=>⟨F1,F2,rfl,hu,?_⟩⟩
  have key:∀ {us:List (List Value)} {xs:List α} {F:List Nat},Cf E H us xs F→(∀b∈F,b∈F2)→Cf E H' us xs F:=by
   intro us
   induction us with
   |nil=>intro xs F h _;cases xs with
    |nil=>exact h
    |cons=>exact h.elim
   |cons u us ih =>
    intro xs F h hs
    cases xs with
    |nil=>exact h.elim
    |cons x xs =>
     obtain⟨A,C,rfl,q1,q2⟩:=h
     exact⟨A,C,rfl,hE q1 fun b hb=>⟨List.mem_append_right _ (hs b (List.mem_append_left _ hb)),fun hc=>hn'.2.2 b hc b (hs b (List.mem_append_left _ hb)) rfl⟩,ih q2 fun b hb=>hs b (List.mem_append_right _ hb)⟩
  exact key h2 fun b hb=>hb
 |c::css,x::xs,_,k+1,d,⟨F1,F2,rfl,h1,h2⟩,hk,hn=>by
  have hn':=List.nodup_append.1 hn
  obtain⟨cs,G,hu,hx,hg,hb,hc⟩:=Cf.upd d h2 (by simpa using hk) hn'.2.1
  refine⟨cs,G,by simpa using hu,by simpa using hx,hg,fun b hh=>List.mem_append_right _ (hb b hh),fun hE hy=>⟨F1,F2,rfl,hE h1 fun b hb'=>⟨List.mem_append_left _ hb',fun hc'=>hn'.2.2 b hb' b (hb b hc') rfl⟩,?_⟩⟩
  exact hc (fun q hs=>hE q fun b hb'=>⟨List.mem_append_right _ (hs b hb').1,(hs b hb').2⟩) (by simpa using hy)
 |[],[],_,_,_,_,hk,_=>by simp at hk
 |[],_::_,_,_,_,h,_,_=>h.elim
 |_::_,[],_,_,_,h,_,_=>h.elim
end DL
theorem LP {s:Nat}{vs:List Value}:∀ {css:List (List Value)}{k:Nat},(∀c∈css,c.length=s)→vs.length=s→k<css.length→css.flatten.take (k*s)++vs++css.flatten.drop (k*s+vs.length)=(css.set k vs).flatten
 |[],_,_,_,hk=>by simp at hk
 |c::css,0,h,hv,_=>by
  have hc:=h c (List.mem_cons_self ..)
  simp[hv,← hc]
 |c::css,k+1,h,hv,hk=>by
  have hc:=h c (List.mem_cons_self ..)
  have ih:=LP (s:=s) (vs:=vs) (css:=css) (k:=k) (fun c hc=>h c (List.mem_cons_of_mem _ hc)) hv (by simpa using hk)
  have e1:(k+1)*s=c.length+k*s:=by rw[Nat.succ_mul,hc];omega
  have e2:(k+1)*s+vs.length=c.length+(k*s+vs.length):=by omega
  rw[e2,e1,List.set_cons_succ,List.flatten_cons,List.flatten_cons,List.take_length_add_append,List.drop_length_add_append,← ih]
  simp[List.append_assoc]
theorem NF {s:Nat}{u:Value}:∀ {css:List (List Value)}{k c:Nat}{cs:List Value},(∀c∈css,c.length=s)→css[k]? = some cs→c<s→css.flatten.set (k*s+c) u=(css.set k (cs.set c u)).flatten
 |[],_,_,_,_,hk,_=>by simp at hk
 |x::css,0,c,cs,h,hk,hc=>by
  have hx:=h x (List.mem_cons_self ..)
  have:x=cs:=by simpa using hk
  subst this
  rw[Nat.zero_mul,Nat.zero_add,List.flatten_cons,List.set_append,if_pos (by omega),List.set_cons_zero,List.flatten_cons]
 |x::css,k+1,c,cs,h,hk,hc=>by
  have hx:=h x (List.mem_cons_self ..)
  have ih:=NF (s:=s) (u:=u) (css:=css) (k:=k) (c:=c) (cs:=cs) (fun c hc=>h c (List.mem_cons_of_mem _ hc)) (by simpa using hk) hc
  have e1:(k+1)*s+c=x.length+(k*s+c):=by rw[Nat.succ_mul,hx];omega
  rw[e1,List.flatten_cons,List.set_append,if_neg (by omega),Nat.add_sub_cancel_left,ih,List.set_cons_succ,List.flatten_cons]
theorem Cf.lens {α:Type}{E:Bu α}{s:Nat}{H:Array Obj}(hE:Cj s E):∀ {css:List (List Value)}{xs:List α}{F:List Nat},Cf E H css xs F→∀c∈css,c.length=s
 |[],[],_,_,c,hc=>by cases hc
 |_::_,_::_,_,⟨F1,F2,rfl,h1,h2⟩,c,hc=>(List.mem_cons.1 hc).elim (fun h=>by rw[h];exact hE.len h1) (Cf.lens hE h2 c)
 |[],_::_,_,h,_,_=>h.elim
 |_::_,[],_,h,_,_=>h.elim
theorem T8 {L vs:List Value}{a M:Nat}(h:a+vs.length≤M)(hM:M≤L.length):(L.take a++vs++L.drop (a+vs.length)).take M=(L.take M).take a++vs++(L.take M).drop (a+vs.length):=by
 have h1:(L.take a++vs).length=a+vs.length:=by rw[List.length_append,List.length_take];omega
 rw[List.take_append,h1,List.take_of_length_le (by omega),List.take_take,Nat.min_eq_left (by omega),List.drop_take]
section ops
variable {P:Program} {ops:Array Oper} {w0:World} {Q:Act→World→Prop} {os:List Oper} {ks:List Nat} {N:Nat} {ρ:Nat→Value} {w:World}
 {d:Nat} {ty:TypeId} {pos:String} {aft:Array Edge} {g:Option (Nat×Bool)} {t e:TypeId} {α:Type} {E:Bu α} {s:Nat}
theorem NG {zs:List Value}{s:Nat}(hz:zs.length=s)(n:Nat):(madeCells zs.toArray (n*s)).toList=(List.replicate n zs).flatten:=by
 apply List.ext_getElem?
 intro i
 by_cases hi:i<n*s
 ·have hs:0<s:=by
   rcases Nat.eq_zero_or_pos s with h|h
   ·rw[h,Nat.mul_zero]at hi;omega
   ·exact h
  have hm:i % s<zs.length:=by rw[hz];exact Nat.mod_lt _ hs
  have e1:(madeCells zs.toArray (n*s)).toList[i]? = some (zs[i % s]):=by
   simp only[madeCells,Array.toList_map,List.getElem?_map]
   rw[show(Array.range (n*s)).toList[i]? = some i from by simp[hi]]
   simp only[Option.map_some,List.size_toArray,hz]
   rw[getElem!_pos zs.toArray (i % s) (by simpa using hm)]
   simp
  have e2:∀(n i:Nat),i<n*s→(List.replicate n zs).flatten[i]? = zs[i % s]?:=by
   intro n
   induction n with
   |zero=>intro i hi;omega
   |succ n ih =>
    intro i hi
    rw[List.replicate_succ,List.flatten_cons]
    by_cases h:i<s
    ·rw[List.getElem?_append_left (by omega),Nat.mod_eq_of_lt h]
    ·rw[List.getElem?_append_right (by omega),hz,ih (i-s) (by rw[Nat.succ_mul]at hi;omega),← Nat.mod_eq_sub_mod (by omega)]
  rw[e1,e2 n i hi,List.getElem?_eq_getElem hm]
 ·rw[List.getElem?_eq_none (by simp[madeCells];omega),List.getElem?_eq_none (by simp[List.length_flatten,hz];omega)]
theorem Rt {x y:Operand}{n b:Nat}{c:Int}{z:Value}{zs:List Value}{z0:α}(hE:Cj s E)(ht:P.underlying t=some (.slice e))(hi:TI P e s z b)(hzc:z.cells=zs.toArray)(hzl:zs.length=s)(hx:Bm N ρ x=.int .i64 c)(hy:Bm N ρ y=.int .i64 c)(hc:c=(n:Int))(hb:b≤1000)(hn:n≤1000000000)
  (h0:0<n→∀H,E H zs z0 []) (hu:Up ops N ρ ⟨some d,.makeSlice t x y,ty,pos,aft,g⟩)
  (h:∀v w1,Az w w1→w1.heap.size=w.heap.size+1→Fr (DL s E e) w.heap.size w1.heap.size w1.heap v (List.replicate n z0)→LW P ops w0 Q os ks (mk N (CZ ρ d v)) w1) :
  LW P ops w0 Q (⟨some d,.makeSlice t x y,ty,pos,aft,g⟩::os) (3::ks) (mk N ρ) w:=by
 subst hc
 obtain⟨i,h1,h2,h3,h4⟩:=hi.get
 have hbn:b*n≤1000*1000000000:=Nat.mul_le_mul hb hn
 have hr:=run_make (P:=P) w t e i _ ht h1 h2 .i64 .i64 n n (by omega) (by omega) (by rw[h4];have:((b*n:Nat):Int)≤281474976710656:=(by omega);rw[Int.natCast_mul]at this;exact this) (by omega)
 have hrun:(execOp (Bm N ρ) ⟨some d,.makeSlice t x y,ty,pos,aft,g⟩).run P w=.ok (.value (.slice (some ⟨w.heap.size,0,none⟩) n n)) (w.alloc (.cells (madeCells z.cells ((n:Int).toNat*i.size)) e)):=by
  simp only[execOp,Sem.run_bind,hx,hy,hr,Result.andThen_ok,Sem.run_pure,Int.toNat_natCast]
 refine N5 rfl hu _ _ hrun (BU _ _) (h _ _ (BU _ _) (by simp) ?_)
 refine⟨[w.heap.size],.inr ⟨List.replicate n zs,w.heap.size,n,_,[],?_,by simp,heap_alloc_new _ _,by simp,by unfold maxLen;omega,?_,?_,rfl⟩,by simp,fun c hc=>?_⟩
 ·have:∀m,m≤n→Cf E (w.alloc (.cells (madeCells z.cells ((n:Int).toNat*i.size)) e)).heap (List.replicate m zs) (List.replicate m z0) []:=by
   intro m
   induction m with
   |zero=>intro _;rfl
   |succ m ih=>intro hm;exact⟨[],[],rfl,h0 (by omega) _,ih (by omega)⟩
  exact this n (A9 _)
 ·rw[h3,hzc,Int.toNat_natCast];simp[madeCells]
 ·rw[h3,hzc,Int.toNat_natCast,NG hzl n,List.length_replicate]
  exact List.take_of_length_le (by rw[← NG hzl n];simp[madeCells])
 ·rw[List.mem_singleton]at hc
  subst hc
  simp
theorem U3 {st:TypeId}{x y:Operand}{v:Value}{cs:List Value}{n:α}{xs:List α}{B U B' U' j:Nat}(hE:Cj s E)(hst:DR P st s=true)(hx:Bm N ρ x=Aw v j s)(hy:Bm N ρ y=.agg cs.toArray)
  (hv:Fr (DL s E e) B U w.heap v xs) (hn:∃G,E w.heap cs n G∧G.Nodup∧∀b∈G,B'≤b∧b<U') (hU:U≤B') (hBB:B≤B') (hj:j<xs.length) (hu:Up ops N ρ ⟨none,.store st x y,ty,pos,aft,g⟩)
  (h:∀w1 F,AE F w w1→w1.heap.size=w.heap.size→(∀c∈F,B≤c∧c<U)→Fr (DL s E e) B w1.heap.size w1.heap v (xs.set j n)→LW P ops w0 Q os ks (mk N ρ) w1) :
  LW P ops w0 Q (⟨none,.store st x y,ty,pos,aft,g⟩::os) (4::ks) (mk N ρ) w:=by
 obtain⟨F,h1,h2,h3⟩:=hv
 obtain⟨G,n1,n2,n3⟩:=hn
 rcases h1 with⟨rfl,rfl,rfl⟩|⟨css,b,cap,cur,F0,hels,rfl,hgc,r1,r2,r3,r4,rfl⟩
 ·simp at hj
 ·have hn':=List.nodup_cons.1 h2
  obtain⟨F',q1,q2,q3⟩:=hels.set hj hn'.2 n1 n2 fun c hc hm=>by have:=n3 c hc;have:=h3 c (List.mem_cons_of_mem _ hm);omega
  have hbF':b∉F':=fun hm=>(q3 b hm).elim hn'.1 fun h=>by have:=n3 b h;have:=h3 b (List.mem_cons_self ..);omega
  have hlen:=hels.lens hE
  have hcl:cs.length=s:=hE.len n1
  have hfl:=hels.flen hE
  have hjs:j*s+s≤xs.length*s:=by rw[← Nat.succ_mul];exact Nat.mul_le_mul_right s hj
  have hcs:xs.length*s≤cur.size:=by rw[r3];exact Nat.mul_le_mul_right s r1
  have hst1:=run_storeCells_at (P:=P) b (j*s) e cs 0 cur w hgc (by omega) (fun u hu=>(hE.one n1 u hu).2)
  rw[Nat.add_zero]at hst1
  have htk:(cur.toList.take (j*s)++cs++cur.toList.drop (j*s+cs.length)).take (xs.length*s)=(css.set j cs).flatten:=by
   rw[T8 (by omega) (by rw[Array.length_toList];omega),r4,LP hlen hcl (by rw[hels.length];exact hj)]
  unfold DR at hst
  simp only[Bool.and_eq_true]at hst
  obtain⟨_,p2⟩:=hst
  split at p2
  ·rename_i inf hin
   have hs:inf.size=s:=by simpa using p2
   have hr:(Instr.storeAt st (.pointer (some ⟨b,j*s,none⟩)) (.agg cs.toArray)).run P w=.ok () (w.setRow b (cur.toList.take (j*s)++cs++cur.toList.drop (j*s+cs.length)).toArray):=by
    simp[Instr.storeAt,Instr.sureAddr,storeVar,sizeOf,typeInfo,hin,Value.cells,hcl,hs,hst1]
   have hgn:=setRow_heap w b cur (cur.toList.take (j*s)++cs++cur.toList.drop (j*s+cs.length)).toArray e (0,0) hgc
   refine Kc rfl hu _ (Ct (by rw[hx,Kh,Nat.zero_add]) hy hr) (h _ [b] ⟨rfl,rfl,rfl,by simp,fun k _ hk=>setRow_other w b k _ (by simpa using hk)⟩ (by simp) (fun c hc=>by rw[Ab hc];exact h3 b (List.mem_cons_self ..)) ⟨b::F',.inr ⟨css.set j cs,b,cap,_,F',q1.stable hE fun c hc=>setRow_other w b c _ (fun he=>hbF' (he ▸ hc)),by simp,hgn,by rw[List.length_set];exact r1,r2,by rw[← r3,List.size_toArray];simp only[List.length_append,List.length_take,List.length_drop,Array.length_toList];omega,by rw[List.length_set];exact htk,rfl⟩,List.nodup_cons.2 ⟨hbF',q2⟩,fun c hc=>?_⟩)
   rcases List.mem_cons.1 hc with rfl|hc
   ·exact⟨(h3 c (List.mem_cons_self ..)).1,by rw[show(w.setRow c (cur.toList.take (j*s)++cs++cur.toList.drop (j*s+cs.length)).toArray).heap.size=w.heap.size from by simp];exact getElem?_lt hgc⟩
   ·have hlt:=q1.lt hE c hc
    rcases q3 c hc with hh|hh
    ·exact⟨(h3 c (List.mem_cons_of_mem _ hh)).1,by simpa using hlt⟩
    ·exact⟨by have:=n3 c hh;omega,by simpa using hlt⟩
  ·cases p2
end ops
end
section
theorem Dp.imp {α:Type}{E E':Bu α}{s:Nat}{H:Array Obj}{v:Value}{xs:List α}{F:List Nat}(hi:∀ {H cs x F},E H cs x F→E' H cs x F)(h:Dp s E H v xs F):Dp s E' H v xs F:=by
 rcases h with h|⟨css,g,off,cap,cur,e,fr,F',h1,h2⟩
 ·exact .inl h
 ·exact .inr ⟨css,g,off,cap,cur,e,fr,F',h1.imp hi,h2⟩
def Ru (e:TypeId):Nat→Bu Ex
 |0=>fun _ _ _ _=>False
 |d+1=>fun H cs x F=>∃v,cs=FL x v∧jP x∧DL 5 (Ru e d) e H v x.kids F
theorem Cv (e:TypeId):∀d,Cj 5 (Ru e d)
 |0=>⟨fun h=>h.elim,fun h=>h.elim,fun h=>h.elim,fun h=>h.elim⟩
 |d+1=>by
  have ih:=Cv e d
  refine⟨?_,?_,?_,?_⟩
  ·rintro H cs e F ⟨v,rfl,_,_⟩;rfl
  ·rintro H cs e F ⟨v,rfl,_,h⟩ u hu
   unfold FL at hu
   simp only[List.mem_cons,List.not_mem_nil,or_false]at hu
   rcases hu with rfl|rfl|rfl|rfl|rfl
   ·exact⟨rfl,rfl⟩
   ·exact⟨rfl,rfl⟩
   ·exact⟨rfl,rfl⟩
   ·exact⟨rfl,rfl⟩
   ·exact⟨(Av ih).cells h,(Av ih).one h⟩
  ·rintro H cs e F ⟨v,rfl,_,h⟩ b hb
   exact(Av ih).lt h b hb
  ·rintro H H' cs e F ⟨v,rfl,hr,h⟩ hb
   exact⟨v,rfl,hr,(Av ih).stable h hb⟩
theorem U4 (e:TypeId):∀ {d:Nat}{H:Array Obj}{cs:List Value}{x:Ex}{F:List Nat},Ru e d H cs x F→Iv d H cs x F
 |0,_,_,_,_,h=>h.elim
 |d+1,_,_,_,_,⟨v,h1,h2,h3⟩=>⟨v,h1,h2,(h3.rd (Cv e d)).imp fun h=>U4 e h⟩
def XX (e:TypeId)(d:Nat):Bu Fn:=fun H cs f F=>∃v,cs=FM f v∧BC f.params∧DL 5 (Ru e d) e H v f.outs F
theorem AK (e:TypeId)(d:Nat):Cj 3 (XX e d):=by
 have ih:=Av (e:=e) (Cv e d)
 refine⟨?_,?_,?_,?_⟩
 ·rintro H cs e F ⟨v,rfl,_,_⟩;rfl
 ·rintro H cs e F ⟨v,rfl,_,h⟩ u hu
  unfold FM at hu
  simp only[List.mem_cons,List.not_mem_nil,or_false]at hu
  rcases hu with rfl|rfl|rfl
  ·exact⟨rfl,rfl⟩
  ·exact⟨rfl,rfl⟩
  ·exact⟨ih.cells h,ih.one h⟩
 ·rintro H cs e F ⟨v,rfl,_,h⟩ b hb
  exact ih.lt h b hb
 ·rintro H H' cs e F ⟨v,rfl,hr,h⟩ hb
  exact⟨v,rfl,hr,ih.stable h hb⟩
theorem bO (e:TypeId){d:Nat}{H:Array Obj}{cs:List Value}{x:Fn}{F:List Nat}(h:XX e d H cs x F):XQ d H cs x F:=by
 obtain⟨v,h1,h2,h3⟩:=h
 exact⟨v,h1,h2,(h3.rd (Cv e d)).imp fun h=>U4 e h⟩
def Qt (e:TypeId):Nat→Bu Ex
 |0=>fun _ _ _ _=>False
 |d+1=>fun H cs x F=>∃a b c k v,cs=[.int .i64 a,.int .i64 b,.int .i64 c,.int .i64 k,v]∧DL 5 (Qt e d) e H v x.kids F
theorem Fb (e:TypeId):∀d,Cj 5 (Qt e d)
 |0=>⟨fun h=>h.elim,fun h=>h.elim,fun h=>h.elim,fun h=>h.elim⟩
 |d+1=>by
  have ih:=Fb e d
  refine⟨?_,?_,?_,?_⟩
  ·rintro H cs e F ⟨a,b,c,k,v,rfl,_⟩;rfl
  ·rintro H cs e F ⟨a,b,c,k,v,rfl,h⟩ u hu
   simp only[List.mem_cons,List.not_mem_nil,or_false]at hu
   rcases hu with rfl|rfl|rfl|rfl|rfl
   ·exact⟨rfl,rfl⟩
   ·exact⟨rfl,rfl⟩
   ·exact⟨rfl,rfl⟩
   ·exact⟨rfl,rfl⟩
   ·exact⟨(Av ih).cells h,(Av ih).one h⟩
  ·rintro H cs e F ⟨a,b',c,k,v,rfl,h⟩ b hb
   exact(Av ih).lt h b hb
  ·rintro H H' cs e F ⟨a,b,c,k,v,rfl,h⟩ hb
   exact⟨a,b,c,k,v,rfl,(Av ih).stable h hb⟩
theorem Zh (e:TypeId):∀ {d:Nat}{H:Array Obj}{cs:List Value}{x:Ex}{F:List Nat},Ru e d H cs x F→Qt e d H cs x F
 |0,_,_,_,_,h=>h.elim
 |d+1,_,_,_,_,⟨v,h1,h2,h3⟩=>⟨_,_,_,_,v,h1,h3.imp fun h=>Zh e h⟩
def Ta (e:TypeId)(d:Nat):Bu Fn:=fun H cs f F=>∃s a v,cs=[.string s,.int .i64 a,v]∧DL 5 (Qt e d) e H v f.outs F
theorem GS (e:TypeId)(d:Nat):Cj 3 (Ta e d):=by
 have ih:=Av (e:=e) (Fb e d)
 refine⟨?_,?_,?_,?_⟩
 ·rintro H cs e F ⟨s,a,v,rfl,_⟩;rfl
 ·rintro H cs e F ⟨s,a,v,rfl,h⟩ u hu
  simp only[List.mem_cons,List.not_mem_nil,or_false]at hu
  rcases hu with rfl|rfl|rfl
  ·exact⟨rfl,rfl⟩
  ·exact⟨rfl,rfl⟩
  ·exact⟨ih.cells h,ih.one h⟩
 ·rintro H cs e F ⟨s,a,v,rfl,h⟩ b hb
  exact ih.lt h b hb
 ·rintro H H' cs e F ⟨s,a,v,rfl,h⟩ hb
  exact⟨s,a,v,rfl,ih.stable h hb⟩
theorem fb (e:TypeId){d:Nat}{H:Array Obj}{cs:List Value}{x:Fn}{F:List Nat}(h:XX e d H cs x F):Ta e d H cs x F:=by
 obtain⟨v,h1,h2,h3⟩:=h
 exact⟨_,_,v,h1,h3.imp fun h=>Zh e h⟩
section el
variable {α:Type} {E:Bu α} {s:Nat} {e:TypeId} {H:Array Obj} {v:Value} {xs:List α} {F:List Nat}
theorem DL.at_ (hE:Cj s E)(d:α){k:Nat}(h:DL s E e H v xs F)(hn:F.Nodup)(hk:k<xs.length) :
  ∃cs G,LD H (Aw v k s) cs∧E H cs (xs.getD k d) G∧G.Nodup∧(∀b∈G,b∈F) ∧
   ∀H':Array Obj,(∀b,b∈F→b∉G→H'[b]? = H[b]?)→E H' cs (xs.getD k d) G→DL s E e H' v xs F:=by
 rcases h with⟨rfl,rfl,rfl⟩|⟨css,g,cap,cur,F',h,rfl,hg,r1,r2,r3,r4,rfl⟩
 ·simp at hk
 ·have hn':=List.nodup_cons.1 hn
  obtain⟨cs,G,q1,q2,q3,q4,q5⟩:=h.upd d hk hn'.2
  have hgG:g∉G:=fun hm=>hn'.1 (q4 g hm)
  refine⟨cs,G,⟨g,0+k*s,Kh ..,fun i hi=>?_⟩,q2,q3,fun b hb=>List.mem_cons_of_mem _ (q4 b hb),fun H' hH hy=>.inr ⟨css,g,cap,cur,F',?_,rfl,by rw[hH g (List.mem_cons_self ..) hgG];exact hg,r1,r2,r3,r4,rfl⟩⟩
  ·obtain⟨cs',G',t1,t2,t3⟩:=h.get hE d hk
   have hl:=hE.len q2
   have hcc:cs'=cs:=by
    have hlen:=h.lens hE
    have hkl:k<css.length:=by rw[h.length];exact hk
    have e0:css[k]=cs:=by rw[List.getElem?_eq_getElem hkl]at q1;exact Option.some.inj q1
    have e1:∀i,i<s→css.flatten[k*s+i]? = some (cs.getD i undef):=by
     intro i hi
     have h1:=LP (vs:=cs) hlen hl hkl
     have h2:(css.set k cs)=css:=by rw[← e0];simp
     rw[h2]at h1
     have hfl:=h.flen hE
     have hks:k*s+s≤xs.length*s:=by rw[← Nat.succ_mul];exact Nat.mul_le_mul_right s hk
     rw[← h1,List.append_assoc,List.getElem?_append_right (by rw[List.length_take];omega),List.length_take,List.getElem?_append_left (by omega)]
     rw[show k*s+i-min (k*s) css.flatten.length=i from by omega]
     simp[hl,hi]
    apply List.ext_getElem (by rw[hE.len t1,hl])
    intro i p1 p2
    have h3:=t3 i (by omega)
    rw[e1 i (by omega)]at h3
    have h4:=Option.some.inj h3
    simpa [p1,p2]using h4.symm
   subst hcc
   simp only[BV,hg]
   have h3:=t3 i (by omega)
   have hks:k*s+s≤xs.length*s:=by rw[← Nat.succ_mul];exact Nat.mul_le_mul_right s hk
   have hl:=hE.len q2
   rw[← r4,List.getElem?_take,if_pos (by omega)]at h3
   rw[Nat.zero_add]
   simpa using h3
  ·have h2:(css.set k cs)=css:=by
    have hkl:k<css.length:=by rw[h.length];exact hk
    have e0:css[k]=cs:=by rw[List.getElem?_eq_getElem hkl]at q1;exact Option.some.inj q1
    rw[← e0];simp
   have h3:=q5 (H':=H') (cs':=cs) (fun {c x C} hc hb=>hE.stable hc fun b hm=>hH b (List.mem_cons_of_mem _ (hb b hm).1) (hb b hm).2) hy
   rwa [h2]at h3
end el
section ops
variable {P:Program} {ops:Array Oper} {w0:World} {Q:Act→World→Prop} {os:List Oper} {ks:List Nat} {N:Nat} {ρ:Nat→Value} {w:World}
 {d:Nat} {ty:TypeId} {pos:String} {aft:Array Edge} {g:Option (Nat×Bool)} {t e:TypeId} {α:Type} {E:Bu α} {s:Nat}
theorem Kk {st:TypeId}{x y:Operand}{v u:Value}{xs:List α}{F:List Nat}{k c:Nat}(hE:Cj s E)(hst:(P.info? st).map (·.size)=some 1)(hx:Bm N ρ x=Ay (Aw v k s) c)(hy:Bm N ρ y=u)(hu1:u.cells=#[u]∧u.oneCell'=true)
  (hv:DL s E e w.heap v xs F) (hn:F.Nodup) (hk:k<xs.length) (hc:c<s) (hEc:∀ {H cs x G},E H cs x G→E H (cs.set c u) x G) (hu:Up ops N ρ ⟨none,.store st x y,ty,pos,aft,g⟩)
  (h:∀w1,AE F w w1→w1.heap.size=w.heap.size→DL s E e w1.heap v xs F→LW P ops w0 Q os ks (mk N ρ) w1) :
  LW P ops w0 Q (⟨none,.store st x y,ty,pos,aft,g⟩::os) (4::ks) (mk N ρ) w:=by
 rcases hv with⟨rfl,rfl,rfl⟩|⟨css,b,cap,cur,F',hels,rfl,hg,r1,r2,r3,r4,rfl⟩
 ·simp at hk
 ·have hn':=List.nodup_cons.1 hn
  have hfl:=hels.flen hE
  have hlen:=hels.lens hE
  have hkl:k<css.length:=by rw[hels.length];exact hk
  have hcs:xs.length*s≤cur.size:=by rw[r3];exact Nat.mul_le_mul_right s r1
  have hjs:k*s+s≤xs.length*s:=by rw[← Nat.succ_mul];exact Nat.mul_le_mul_right s hk
  have hel:∀ {css:List (List Value)} {xs:List α} {F:List Nat} {k:Nat},Cf E w.heap css xs F→∀cs,css[k]? = some cs→Cf E w.heap (css.set k (cs.set c u)) xs F:=by
   intro css
   induction css with
   |nil=>intro xs F k h cs hk;simp at hk
   |cons a css ih =>
    intro xs F k h cs hk
    cases xs with
    |nil=>exact h.elim
    |cons x xs =>
     obtain⟨A,C,rfl,q1,q2⟩:=h
     cases k with
     |zero =>
      have:a=cs:=by simpa using hk
      subst this
      exact⟨A,C,rfl,hEc q1,q2⟩
     |succ k=>exact⟨A,C,rfl,q1,ih q2 cs (by simpa using hk)⟩
  have hq:=List.getElem?_eq_getElem hkl
  have h2:=hel hels _ hq
  refine Kc rfl hu _ (Ct (p:=.pointer (some ⟨b,k*s+c,none⟩)) (by rw[hx,Kh,Nat.zero_add];rfl) hy (Hh hst hg (by omega) hu1.1 hu1.2)) (h _ ((Ld w b (k*s+c) u).sub fun x hx=>by rw[Ab hx];exact List.mem_cons_self ..) (by simp[World.setCell]) (.inr ⟨css.set k (css[k].set c u),b,cap,_,F',?_,rfl,Ju hg,r1,r2,by simpa using r3,?_,rfl⟩))
  ·exact h2.stable hE fun z hz=>Below.heap_setCell _ _ _ _ fun he=>by
    simp only at he
    subst he
    exact hn'.1 hz
  ·rw[Array.toList_setIfInBounds,List.take_set,r4];exact NF hlen hq hc
end ops
theorem DL.kidE {e:TypeId}{d k:Nat}{w:World}{v:Value}{xs:List Ex}{F:List Nat}(h:DL 5 (Qt e d) e w.heap v xs F)(hn:F.Nodup)(hk:k<xs.length) :
  ∃d' u G,d=d'+1∧EZ w.heap (Ay (Aw v k 5) 4)=some u∧DL 5 (Qt e d') e w.heap u (xs.getD k Ex.zero).kids G∧G.Nodup∧(∀b∈G,b∈F) ∧
   ∀w',AE G w w'→DL 5 (Qt e d') e w'.heap u (xs.getD k Ex.zero).kids G→DL 5 (Qt e d) e w'.heap v xs F:=by
 have hlt:=(Av (Fb e d)).lt h
 obtain⟨cs,G,h1,h2,h3,h4,h5⟩:=h.at_ (Fb e d) Ex.zero hn hk
 cases d with
 |zero=>exact h2.elim
 |succ d =>
  obtain⟨a,b,c,q,u,rfl,h2⟩:=h2
  exact⟨d,u,G,rfl,h1.ld (i:=4) (by simp),h2,h3,h4,fun w' hc hu=>h5 _ (fun b hb hg=>hc.block b (hlt b hb) hg) ⟨a,b,c,q,u,rfl,hu⟩⟩
theorem DL.kidF {e e':TypeId}{d k:Nat}{w:World}{v:Value}{xs:List Fn}{F:List Nat}(h:DL 3 (Ta e d) e' w.heap v xs F)(hn:F.Nodup)(hk:k<xs.length) :
  ∃u G,EZ w.heap (Ay (Aw v k 3) 2)=some u∧DL 5 (Qt e d) e w.heap u (xs.getD k Fn.zero).outs G∧G.Nodup∧(∀b∈G,b∈F) ∧
   ∀w',AE G w w'→DL 5 (Qt e d) e w'.heap u (xs.getD k Fn.zero).outs G→DL 3 (Ta e d) e' w'.heap v xs F:=by
 have hlt:=(Av (GS e d)).lt h
 obtain⟨cs,G,h1,h2,h3,h4,h5⟩:=h.at_ (GS e d) Fn.zero hn hk
 obtain⟨s,a,u,rfl,h2⟩:=h2
 exact⟨u,G,h1.ld (i:=2) (by simp),h2,h3,h4,fun w' hc hu=>h5 _ (fun b hb hg=>hc.block b (hlt b hb) hg) ⟨s,a,u,rfl,hu⟩⟩
theorem DL.isPtr {α:Type}{E:Bu α}{s k:Nat}{e:TypeId}{H:Array Obj}{v:Value}{xs:List α}{F:List Nat}(h:DL s E e H v xs F)(hk:k<xs.length):∃b o,Aw v k s=.pointer (some ⟨b,o,none⟩):=by
 rcases h with⟨rfl,rfl,rfl⟩|⟨css,g,cap,cur,F',h,rfl,hg,r1,r2,r3,r4,rfl⟩
 ·simp at hk
 ·exact⟨_,_,Kh ..⟩
theorem Le {e:TypeId}{d c:Nat}{n:Int}(hc:c<4){H:Array Obj}{cs:List Value}{x:Ex}{G:List Nat}(h:Qt e d H cs x G):Qt e d H (cs.set c (.int .i64 n)) x G:=by
 cases d with
 |zero=>exact h.elim
 |succ d =>
  obtain⟨a,b,c',q,u,rfl,h2⟩:=h
  rcases c with _|_|_|_|c
  ·exact⟨n,b,c',q,u,rfl,h2⟩
  ·exact⟨a,n,c',q,u,rfl,h2⟩
  ·exact⟨a,b,n,q,u,rfl,h2⟩
  ·exact⟨a,b,c',n,u,rfl,h2⟩
  ·omega
theorem U5 {e:TypeId}{d:Nat}{n:ByteArray}{H:Array Obj}{cs:List Value}{x:Fn}{G:List Nat}(h:Ta e d H cs x G):Ta e d H (cs.set 0 (.string n)) x G:=by
 obtain⟨s,a,u,rfl,h2⟩:=h
 exact⟨n,a,u,rfl,h2⟩
theorem U6 {e:TypeId}{d:Nat}{n:Int}{H:Array Obj}{cs:List Value}{x:Fn}{G:List Nat}(h:Ta e d H cs x G):Ta e d H (cs.set 1 (.int .i64 n)) x G:=by
 obtain⟨s,a,u,rfl,h2⟩:=h
 exact⟨s,n,u,rfl,h2⟩
end
section
section res
variable {P:Program} {N:Nat} {ρ:Nat→Value} {w:World} {t:TypeId}
theorem JA {s b o:Nat}(ht:DR P t s=true){cs:List Value}(h:LD w.heap (.pointer (some ⟨b,o,none⟩)) cs)(hl:cs.length=s):(loadVar t ⟨b,o,none⟩).run P w=.ok (.agg cs.toArray) w:=by
 obtain⟨b',o',he,h⟩:=h
 injection he with he
 injection he with he
 injection he with hb ho _
 subst hb;subst ho
 unfold DR at ht
 simp only[Bool.and_eq_true]at ht
 obtain⟨h1,h2⟩:=ht
 split at h1
 ·rename_i fs hfs
  split at h2
  ·rename_i inf hin
   have hs:inf.size=s:=by simpa using h2
   have hag:(isAgg t).run P w=.ok true w:=by
    unfold isAgg
    simp only[Sem.run_bind,run_underlying hfs,Result.andThen_ok]
    rfl
   have hlc:=run_loadCells_list (P:=P) w ⟨b,o,none⟩ cs (fun j v hj=>by
    rw[IZ,C8]
    have hjl:j<cs.length:=(List.getElem?_eq_some_iff.1 hj).1
    rw[h j hjl]
    simp[List.getD,hj])
   rw[hl,← hs]at hlc
   simp[loadVar,hag,sizeOf,typeInfo,hin,hlc]
  ·cases h2
 ·cases h1
theorem Kl {fn:Func}{R:Ending→World→Prop}{k s b:Nat}{ty:TypeId}{cs:List Value}(hr:fn.results=#[.cell k ty])(ha:DR P ty s=true)(hv:Bm N ρ (.tmp k)=.pointer (some ⟨b,0,none⟩))(hb:BX w.heap b cs)(hl:cs.length=s)
  (h:R (.returned (.agg cs.toArray)) w):bodyPost P fn R .ret (mk N ρ) w:=by
 refine⟨rfl,_,?_,h⟩
 have hld:=JA (P:=P) ha (LD.of_box hb) hl
 have hg:(mk N ρ).tmps.getD k undef=.pointer (some ⟨b,0,none⟩):=by rw[Lc,hv]
 have hi:(asAddr (.pointer (some ⟨b,0,none⟩))).run P w=.ok ⟨b,0,none⟩ w:=rfl
 unfold results
 rw[hr]
 have hg':(mk N ρ).tmps[k]?.getD undef=.pointer (some ⟨b,0,none⟩):=by simpa using hg
 simp[Sem.run_bind,hg',hi,hld,Result.andThen]
end res
section fr
variable {α:Type} {E:Bu α} {s:Nat} {e e':TypeId} {B U d:Nat} {H:Array Obj} {v:Value}
theorem Fr.isSlS {xs:List α}(h:Fr (DL s E e) B U H v xs):Go.Proofs.YtnokbaiemimhjaaGreat.FS v xs.length:=by obtain⟨F,h,_⟩:=h;exact h.isSl
theorem RN.of_frF {S:List Nat}{xs:List Fn}(h:Fr (DL 3 (XX e d) e') B U H v xs)(hS:∀b∈S,b<B):RP S d H v xs:=by
 obtain⟨F,h1,_,h3⟩:=h
 exact⟨F,(h1.rd (AK e d)).imp fun h=>bO e h,fun b hb hm=>by have:=h3 b hb;have:=hS b hm;omega⟩
theorem RN.exPos {S:List Nat}{xs:List Ex}(h:RN S (Dp 5 (Iv d)) H v xs)(h0:0<xs.length):0<d:=by
 obtain⟨F,h,_⟩:=h
 obtain⟨cs,G,q,_⟩:=Dp.get (AC d) Ex.zero h h0
 cases d with
 |zero=>exact q.elim
 |succ d=>omega
theorem U7 (hd:0<d)(H:Array Obj):Ru e d H (FL Ex.zero (.slice none 0 0)) Ex.zero []:=by
 cases d with
 |zero=>omega
 |succ d=>exact⟨_,rfl,by constructor <;> (unfold BC;decide),.inl ⟨rfl,rfl,rfl⟩⟩
theorem U8 (H:Array Obj):XX e d H (FM Fn.zero (.slice none 0 0)) Fn.zero []:=⟨_,rfl,by unfold BC;decide,.inl ⟨rfl,rfl,rfl⟩⟩
theorem bP {d':Nat}{x:Ex}(hd:d=d'+1)(hr:jP x)(h:Fr (DL 5 (Ru e d') e) B U H v x.kids):∃G,Ru e d H (FL x v) x G∧G.Nodup∧∀b∈G,B≤b∧b<U:=by
 subst hd
 obtain⟨G,h1,h2,h3⟩:=h
 exact⟨G,⟨v,rfl,hr,h1⟩,h2,h3⟩
theorem bQ {x:Fn}(hr:BC x.params)(h:Fr (DL 5 (Ru e d) e) B U H v x.outs):∃G,XX e d H (FM x v) x G∧G.Nodup∧∀b∈G,B≤b∧b<U:=by
 obtain⟨G,h1,h2,h3⟩:=h
 exact⟨G,⟨v,rfl,hr,h1⟩,h2,h3⟩
theorem Po {xs:List α}{z:α}{k:Nat}(hk:k<xs.length)(d:α):(xs.take k++List.replicate (xs.length-k) z).set k (xs.getD k d)=xs.take (k+1)++List.replicate (xs.length-(k+1)) z:=by
 have h1:(xs.take k).length=k:=by rw[List.length_take];omega
 rw[List.set_append,if_neg (by omega),h1,Nat.sub_self,show xs.length-k=(xs.length-(k+1))+1 from by omega,List.replicate_succ,List.set_cons_zero,show xs.take (k+1)=xs.take k++[xs.getD k d]from by rw[List.take_succ_eq_append_getElem hk];simp[hk],List.append_assoc]
 rfl
end fr
section str
variable {P:Program} {ops:Array Oper} {w0:World} {Q:Act→World→Prop} {os:List Oper} {ks:List Nat} {N:Nat} {ρ:Nat→Value} {w:World}
 {d:Nat} {ty:TypeId} {pos:String} {aft:Array Edge} {g:Option (Nat×Bool)} {t e:TypeId}
theorem U9 {xt yt:TypeId}{x y:Operand}{a b:ByteArray}(hx:Bm N ρ x=.string a)(hy:Bm N ρ y=.string b)(hl:a.size+b.size≤9223372036854775807)(hu:Up ops N ρ ⟨some d,.binOp .add xt x y yt,ty,pos,aft,g⟩)
  (h:LW P ops w0 Q os ks (mk N (CZ ρ d (.string (a++b)))) w):LW P ops w0 Q (⟨some d,.binOp .add xt x y yt,ty,pos,aft,g⟩::os) (0::ks) (mk N ρ) w :=
 CN (by decide) rfl hu _ (fun w' _=>by
  have he:(eqGuard .add xt x y (.string a) (.string b)).run P w'=.ok () w':=rfl
  have hr:(binOp .add xt (.string a) (.string b)).run P w'=.ok (.string (a++b)) w':=by
   have h2:=run_string_add_sum (P:=P) w' a b hl
   simpa [binOp]using h2
  simp only[execOp,hx,hy,Sem.run_bind,he,Result.andThen_ok,hr,Sem.run_pure]) h
theorem bR {st dt:TypeId}{x:Operand}{v:Value}{n:Int}{B U:Nat}(hs:P.underlying st=some (.slice e))(he:P.underlying e=some (.int .u8))(hd:P.underlying dt=some .string)(hx:Bm N ρ x=v)(hv:Fr (AS rV e) B U w.heap v [.int .u8 n])
  (hu:Up ops N ρ ⟨some d,.convert st dt x,ty,pos,aft,g⟩) (h:∀s:ByteArray,s.size=1→LW P ops w0 Q os ks (mk N (CZ ρ d (.string s))) w) :
  LW P ops w0 Q (⟨some d,.convert st dt x,ty,pos,aft,g⟩::os) (2::ks) (mk N ρ) w:=by
 obtain⟨F,hv,_,_⟩:=hv
 rcases hv with⟨_,hc,_⟩|⟨us,b,cap,cur,F',hels,rfl,hg,q1,q2,q3,q4,rfl⟩
 ·cases hc
 ·obtain⟨rfl,rfl⟩:=Gt hels
  refine CN (by decide) rfl hu _ (fun w' hcl=>?_) (h ⟨#[UInt8.ofNat n.toNat]⟩ rfl)
  have hcl:Az w w':=hcl
  have hcb:w'.heap[b]? = w.heap[b]?:=hcl.heap (getElem?_lt hg)
  have hlc:=run_loadCells_list (P:=P) w' ⟨b,0,none⟩ [.int .u8 n] (fun j u hj=>by
   rw[IZ,C8]
   simp only[BV,hcb,hg]
   have hj0:j=0:=by have:=(List.getElem?_eq_some_iff.1 hj).1;simpa using this
   subst hj0
   have e1:cur.toList[0]? = some (.int .u8 n):=by
    have:(cur.toList.take 1)[0]? = some (.int .u8 n):=by rw[show cur.toList.take 1=[.int .u8 n]from q4];rfl
    rwa [List.getElem?_take,if_pos (by decide)]at this
   have e2:u=.int .u8 n:=by simpa using hj.symm
   rw[e2]
   simpa using e1)
  have hb:=run_bytesToString (P:=P) w' ⟨b,0,none⟩ 1 cap [n] (by simpa using hlc)
  have hr:=run_convert_bytes_string (P:=P) w' st dt e (some ⟨b,0,none⟩) 1 cap hs he hd
  simp only[execOp,hx,List.length_singleton,Sem.run_bind,hr,hb,Result.andThen_ok,Sem.run_pure]
  rfl
end str
end
section
theorem Pp:∀(cs:List Value)(k:Nat)(A:Array Value),k+cs.length≤A.size→((cs.zipIdx k).foldl (fun A p=>A.setIfInBounds (0+p.2) p.1) A).toList=A.toList.take k++cs++A.toList.drop (k+cs.length)
 |[],k,A,_=>by simp
 |c::cs,k,A,h=>by
  rw[List.length_cons]at h
  rw[List.zipIdx_cons,List.foldl_cons,Pp cs (k+1) _ (by simp;omega)]
  simp only[Array.toList_setIfInBounds,Nat.zero_add]
  have h1:(A.toList.set k c).take (k+1)=A.toList.take k++[c]:=by
   rw[List.take_succ_eq_append_getElem (by simp;omega),List.take_set,List.set_eq_of_length_le (by simp;omega)]
   simp
  have h2:(A.toList.set k c).drop (k+1+cs.length)=A.toList.drop (k+(c::cs).length):=by
   rw[List.drop_set_of_lt (by omega),List.length_cons,show k+1+cs.length=k+(cs.length+1)from by omega]
  rw[h1,h2,List.append_assoc (A.toList.take k)];simp
theorem Ua {cs:List Value}{A:Array Value}(h:A.size=cs.length):cs.zipIdx.foldl (fun A p=>A.setIfInBounds p.2 p.1) A=cs.toArray:=by
 apply Array.ext'
 have:=Pp cs 0 A (by omega)
 simp only[List.take_zero,List.nil_append,Nat.zero_add]at this
 rw[List.drop_of_length_le (by rw[Array.length_toList];omega),List.append_nil]at this
 simpa using this
section run
variable {P:Program} {w:World} {α:Type} {E:Bu α} {s:Nat} {t ty e:TypeId} {b:Nat} {z:Value}
theorem XY {cs:List Value}(ht:P.underlying t=some (.slice e))(hi:TI P e s z b)(hs:0<s)(hs2:s≤1000)(hz:z.cells.size=s)(hc:cs.length=s) :
  (Instr.buildSlice t 1 #[(0,.agg cs.toArray)]).run P w=.ok (.slice (some ⟨w.heap.size,0,none⟩) 1 1) (w.alloc (.cells cs.toArray e)):=by
 obtain⟨i,h1,h2,h3,h4⟩:=hi.get
 have h0:¬(s=0):=by omega
 have hA:((Array.range s).map (fun x=>z.cells[x % s]!)).size=cs.length:=by simp[hc]
 have hf:=Ua hA
 have hbig:¬(s > 2 ^ 24):=by omega
 simp only[Instr.buildSlice,Sem.run_bind,run_underlying ht,Result.andThen_ok,sizeOf,typeInfo,zeroValue,h1,h2,h3,Nat.one_mul,Instr.fill,hz,Sem.run_pure]
 have hag:(Value.agg cs.toArray).cells=cs.toArray:=rfl
 simp[h0,hbig,hag,hc,newRow,hz,h1,h2,h3,Instr.fill,run_underlying ht,typeInfo]
 rw[hf]
def jY (E:Bu α)(B U:Nat)(H:Array Obj)(cs:List Value)(x:α):Prop:=∃G,E H cs x G∧G.Nodup∧∀b∈G,B≤b∧b<U
theorem Rv (hE:Cj s E){css:List (List Value)}{xs:List α}{F:List Nat}{cur:Array Value}{cap:Nat}(h:Cf E w.heap css xs F)(hl:xs.length≤cap)(hm:cap≤maxLen)(hsz:cur.size=cap*s)(hc:cur.toList.take (xs.length*s)=css.flatten) :
  DL s E e (w.alloc (.cells cur e)).heap (.slice (some ⟨w.heap.size,0,none⟩) xs.length cap) xs (w.heap.size::F):=by
 refine .inr ⟨css,w.heap.size,cap,cur,F,h.stable hE fun b hb=>?_,rfl,?_,hl,hm,hsz,hc,rfl⟩
 ·exact Below.heap_alloc _ _ _ (h.lt hE b hb)
 ·show(w.heap.push _)[w.heap.size]? = _
  simp
def jR {α β:Type}(E:Array Obj→β→α→List Nat→Prop)(S:Nat→Prop)(H:Array Obj)(v:β)(x:α):Prop:=∃F,E H v x F∧F.Nodup∧∀b∈F,S b
theorem Ub (hE:Cj s E)(ht:P.underlying t=some (.slice e))(hi:TI P e s z b)(hz:z.cells.size=s)(hs:0<s){v:Value}{xs:List α}{S T:Nat→Prop}(hv:jR (DL s E e) S w.heap v xs)
  {a:Value} {y:α} (ha:jR (DL s E e) T w.heap a [y]) (hST:∀b,S b→T b→False) (hbytes:(xs.length+1)*b≤140737488355328) (hmx:xs.length+1≤maxLen) :
  ∃v' w' F,(Builtin.append_ #[t,t] ty #[v,a]).run P w=.ok v' w'∧jR (DL s E e) (fun b=>S b∨T b∨b=w.heap.size) w'.heap v' (xs++[y])∧AE F w w'∧∀c∈F,S c:=by
 obtain⟨F,hv1,hn,hF⟩:=hv
 obtain⟨G,ha1,hnG,hG⟩:=ha
 obtain⟨i,h1,h2,h3,h4⟩:=hi.get
 subst h4
 have hsmall:xs.length+1≤9223372036854775807:=by simp only[maxLen]at hmx;omega
 rcases ha1 with⟨_,h0,_⟩|⟨cas,ga,capa,cura,G',hels,rfl,hga,a1,a2,a3,a4,rfl⟩
 ·cases h0
 ·have hnG':=List.nodup_cons.1 hnG
  have hfl:cas.flatten.length=s:=by have:=hels.flen hE;simpa using this
  simp only[List.length_singleton,Nat.one_mul]at a4 a1
  have hnews:∀j u,cas.flatten[j]? = some u→w.cell? ((⟨ga,0,none⟩:Addr).add j)=some u:=by
   intro j u hj
   have e1:(⟨ga,0,none⟩:Addr).add j=⟨ga,j,none⟩:=by
    unfold Addr.add
    split
    ·rename_i hh;subst hh;rfl
    ·simp
   rw[e1,C8]
   simp only[BV,hga]
   rw[← a4,List.getElem?_take]at hj
   split at hj
   ·simpa using hj
   ·cases hj
  have h1c:∀u∈cas.flatten,u.oneCell'=true:=fun u hu=>(hels.one hE u hu).2
  have hl1:cas.flatten.length=1*i.size:=by rw[h3,hfl,Nat.one_mul]
  have made:∀(w1:World) (ous:List (List Value)) (F0:List Nat) (rest:Nat),w1.heap=w.heap→w1.os=w.os→w1.tape=w.tape→w1.output=w.output→Cf E w.heap ous xs F0→(∀c∈F0,c∈F)→F0.Nodup →
    (xs.length+1+rest)≤maxLen →
    jR (DL s E e) (fun b=>S b∨T b∨b=w.heap.size) (w1.alloc (.cells (ous.flatten.toArray++cas.flatten.toArray++Builtin.zeroCells z.cells rest) e)).heap (.slice (some ⟨w.heap.size,0,none⟩) (xs.length+1) (xs.length+1+rest)) (xs++[y]) ∧
     AE ([]:List Nat) w (w1.alloc (.cells (ous.flatten.toArray++cas.flatten.toArray++Builtin.zeroCells z.cells rest) e)):=by
   intro w1 ous F0 rest hh ho htp hop hou hsub hnd hmax
   have happ:=hou.append hels
   have hofl:=hou.flen hE
   have hzc:(Builtin.zeroCells z.cells rest).size=rest*s:=by simp[Builtin.zeroCells,hz]
   have hsz:(ous.flatten.toArray++cas.flatten.toArray++Builtin.zeroCells z.cells rest).size=(xs.length+1+rest)*s:=by
    rw[Nat.add_mul,Nat.add_mul,Nat.one_mul]
    simp only[Array.size_append,List.size_toArray,hzc,hfl,hofl]
   have hlen:(xs++[y]).length=xs.length+1:=by simp
   have hnew:=Rv (e:=e) (w:=w1) hE (css:=ous++cas) (xs:=xs++[y]) (F:=F0++G') (cur:=ous.flatten.toArray++cas.flatten.toArray++Builtin.zeroCells z.cells rest) (cap:=xs.length+1+rest)
    (by rw[hh];exact happ) (by rw[hlen];omega) hmax hsz (by
     rw[hlen,Array.toList_append,Array.toList_append,List.flatten_append]
     have e1:(xs.length+1)*s=(ous.flatten++cas.flatten).length:=by rw[List.length_append,hofl,hfl,Nat.add_mul,Nat.one_mul]
     rw[e1];exact List.take_left)
   rw[hh,hlen]at hnew
   have hnn:(w.heap.size::(F0++G')).Nodup:=by
    rw[List.nodup_cons]
    refine⟨fun hm=>?_,?_⟩
    ·have:=happ.lt hE _ hm;omega
    ·rw[List.nodup_append]
     refine⟨hnd,hnG'.2,?_⟩
     rintro x hx y hy rfl
     exact hST _ (hF x (hsub x hx)) (hG x (List.mem_cons_of_mem _ hy))
   refine⟨⟨_,hnew,hnn,fun c hc=>?_⟩,ho,htp,hop,?_,fun k hk _=>?_⟩
   ·rcases List.mem_cons.1 hc with rfl|hc
    ·exact .inr (.inr rfl)
    ·rcases List.mem_append.1 hc with hc|hc
     ·exact .inl (hF c (hsub c hc))
     ·exact .inr (.inl (hG c (List.mem_cons_of_mem _ hc)))
   ·show w.heap.size≤(w1.heap.push _).size
    rw[hh];simp
   ·have:=Below.heap_alloc w1 (.cells (ous.flatten.toArray++cas.flatten.toArray++Builtin.zeroCells z.cells rest) e) k (by rw[hh];exact hk)
    rw[this,hh]
  rcases hv1 with⟨rfl,rfl,rfl⟩|⟨ous,gv,capv,curv,F0,hels0,rfl,hgv,r1,r2,r3,r4,rfl⟩
  ·have hr:=run_append_nil (P:=P) w t ty e i z ht h1 h2 ⟨ga,0,none⟩ 1 capa cas.flatten hl1 hnews (by decide) (by decide) (by simp at hbytes ⊢;omega)
   have hge:=grownCap_ge w 1 0 e
   have hgm:=grownCap_le_maxLen w 1 0 e (by simpa using hmx)
   obtain⟨q1,q2⟩:=made w.drew [] [] (grownCap w 1 0 e-1) rfl rfl rfl rfl rfl (fun c hc=>by cases hc) List.nodup_nil (by simp;omega)
   refine⟨_,_,[],hr,?_,?_,fun c hc=>by cases hc⟩
   ·have ea:(([]:List α).length+1+(grownCap w 1 0 e-1))=grownCap w 1 0 e:=by simp;omega
    rw[ea]at q1
    simpa using q1
   ·simpa using q2
  ·have hn':=List.nodup_cons.1 hn
   have hofl:=hels0.flen hE
   by_cases hroom:xs.length+1≤capv
   ·have hbnd:xs.length*s+s≤curv.size:=by rw[r3,← Nat.succ_mul];exact Nat.mul_le_mul_right s hroom
    have hr:=run_append_room (P:=P) w t ty e i ht h1 gv xs.length capv curv hgv ⟨ga,0,none⟩ 1 capa cas.flatten hl1 hnews h1c hroom (by rw[h3,hfl];exact hbnd)
    rw[h3]at hr
    have hgF:gv∉F0:=hn'.1
    have hgG:gv∉G':=fun hm=>hST _ (hF gv (List.mem_cons_self ..)) (hG gv (List.mem_cons_of_mem _ hm))
    refine⟨_,_,[gv],hr,⟨gv::(F0++G'),.inr ⟨ous++cas,gv,capv,_,F0++G',?_,by rw[List.length_append,List.length_singleton],setRow_heap w gv curv _ e _ hgv,by rw[List.length_append,List.length_singleton];exact hroom,r2,?_,?_,rfl⟩,?_,fun c hc=>?_⟩,⟨rfl,rfl,rfl,by simp,fun k _ hk=>setRow_other w gv k _ fun hh=>hk (by simp[hh])⟩,fun c hc=>by rw[Ab hc];exact hF gv (List.mem_cons_self ..)⟩
    ·refine(hels0.append hels).stable hE fun c hc=>setRow_other w gv c _ fun hcg=>?_
     subst hcg
     rcases List.mem_append.1 hc with hc|hc
     ·exact hgF hc
     ·exact hgG hc
    ·rw[← r3]
     simp only[List.size_toArray,List.length_append,List.length_take,List.length_drop,Array.length_toList]
     omega
    ·rw[List.length_append,List.length_singleton]
     simp only[List.flatten_append]
     rw[r4]
     have e1:(xs.length+1)*s=(ous.flatten++cas.flatten).length:=by rw[List.length_append,hofl,hfl,Nat.add_mul,Nat.one_mul]
     rw[e1];exact List.take_left
    ·rw[List.nodup_cons,List.nodup_append]
     refine⟨fun hm=>?_,hn'.2,hnG'.2,?_⟩
     ·rcases List.mem_append.1 hm with hm|hm
      ·exact hgF hm
      ·exact hgG hm
     ·rintro x hx y hy rfl
      exact hST _ (hF x (List.mem_cons_of_mem _ hx)) (hG x (List.mem_cons_of_mem _ hy))
    ·rcases List.mem_cons.1 hc with rfl|hc
     ·exact .inl (hF c (List.mem_cons_self ..))
     ·rcases List.mem_append.1 hc with hc|hc
      ·exact .inl (hF c (List.mem_cons_of_mem _ hc))
      ·exact .inr (.inl (hG c (List.mem_cons_of_mem _ hc)))
   ·have holds:∀j u,ous.flatten[j]? = some u→w.cell? ((⟨gv,0,none⟩:Addr).add j)=some u:=by
     intro j u hj
     have e1:(⟨gv,0,none⟩:Addr).add j=⟨gv,j,none⟩:=by
      unfold Addr.add
      split
      ·rename_i hh;subst hh;rfl
      ·simp
     rw[e1,C8]
     simp only[BV,hgv]
     rw[← r4,List.getElem?_take]at hj
     split at hj
     ·simpa using hj
     ·cases hj
    have hr:=run_append_grow (P:=P) w t ty e i z ht h1 h2 ⟨gv,0,none⟩ xs.length capv ous.flatten (by rw[h3,hofl]) holds ⟨ga,0,none⟩ 1 capa cas.flatten hl1 hnews (by omega) (by omega) (growslice_fits (by omega) hbytes)
    have hge:=grownCap_ge w (xs.length+1) capv e
    have hgm:=grownCap_le_maxLen w (xs.length+1) capv e hmx
    obtain⟨q1,q2⟩:=made w.drew ous F0 (grownCap w (xs.length+1) capv e-(xs.length+1)) rfl rfl rfl rfl hels0 (fun c hc=>List.mem_cons_of_mem _ hc) hn'.2 (by omega)
    refine⟨_,_,[],hr,?_,q2,fun c hc=>by cases hc⟩
    have ea:(xs.length+1+(grownCap w (xs.length+1) capv e-(xs.length+1)))=grownCap w (xs.length+1) capv e:=by omega
    rw[ea]at q1
    exact q1
end run
section ops
variable {P:Program} {ops:Array Oper} {w0:World} {Q:Act→World→Prop} {os:List Oper} {ks:List Nat} {N:Nat} {ρ:Nat→Value} {w:World}
 {d:Nat} {ty:TypeId} {pos:String} {aft:Array Edge} {g:Option (Nat×Bool)} {t e:TypeId} {z:Value} {b s:Nat} {α:Type} {E:Bu α}
theorem Qu (hE:Cj s E){x:Operand}{cs:List Value}{y:α}{B U:Nat}(ht:P.underlying t=some (.slice e))(hi:TI P e s z b)(hz:z.cells.size=s)(hs:0<s∧s≤1000)(hx:Bm N ρ x=.agg cs.toArray)(hy:jY E B U w.heap cs y)(hB:B≤w.heap.size)
  (hu:Up ops N ρ ⟨some d,.buildSlice t 1 #[(0,x)],ty,pos,aft,g⟩)
  (h:∀v w1,Az w w1→w1.heap.size=w.heap.size+1→Fr (DL s E e) B w1.heap.size w1.heap v [y]→LW P ops w0 Q os ks (mk N (CZ ρ d v)) w1) :
  LW P ops w0 Q (⟨some d,.buildSlice t 1 #[(0,x)],ty,pos,aft,g⟩::os) (3::ks) (mk N ρ) w:=by
 obtain⟨F,h1,h2,h3⟩:=hy
 have hl:=hE.len h1
 have hr:=XY (P:=P) (w:=w) ht hi hs.1 hs.2 hz hl
 have hrun:(execOp (Bm N ρ) ⟨some d,.buildSlice t 1 #[(0,x)],ty,pos,aft,g⟩).run P w=.ok (.value (.slice (some ⟨w.heap.size,0,none⟩) 1 1)) (w.alloc (.cells cs.toArray e)):=by
  simp only[execOp,List.map_toArray,List.map_cons,List.map_nil,Sem.run_bind,hx,hr,Result.andThen_ok,Sem.run_pure]
 refine N5 rfl hu _ _ hrun (BU _ _) (h _ _ (BU _ _) (by simp) ?_)
 have hn:=Rv (e:=e) (w:=w) hE (css:=[cs]) (xs:=[y]) (F:=F++[]) (cur:=cs.toArray) (cap:=1) ⟨F,[],rfl,h1,rfl⟩ (by simp) (by simp[maxLen]) (by simp[hl]) (by simp[← hl])
 refine⟨_,hn,?_,fun c hc=>?_⟩
 ·rw[List.append_nil,List.nodup_cons]
  exact⟨fun hm=>by have:=hE.lt h1 _ hm;omega,h2⟩
 ·have hlt:=(Av hE).lt hn c hc
  refine⟨?_,hlt⟩
  rcases List.mem_cons.1 hc with rfl|hc
  ·exact hB
  ·exact(h3 c (by simpa using hc)).1
end ops
end
theorem Ds {p:Prop}(h:p):RowKit.Hid p:=h
def md (x:Int):Int:=x % 1000003
theorem Ci (x:Int):0≤md x:=Int.emod_nonneg x (by decide)
theorem FT (x:Int):md x<1000003:=Int.emod_lt_of_pos x (by decide)
theorem Dt (x:Int):-9223372036854775808≤md x∧md x≤9223372036854775807:=by
 have:=Ci x;have:=FT x;omega
theorem KU {x:Int}(h:0≤x)(h':x<1000003):md x=x:=Int.emod_eq_of_lt h h'
theorem Fd (x:Int):md (md x)=md x:=KU (Ci x) (FT x)
theorem E6 (a b:Int):md (md a+md b)=md (a+b):=by unfold md;rw[← Int.add_emod]
theorem Df (a b:Int):md (md a*md b)=md (a*b):=by unfold md;rw[← Int.mul_emod]
theorem Fm (a b:Int):md (md a-md b)=md (a-b):=by unfold md;rw[← Int.sub_emod]
theorem Oa (a b:Int):md (md a+b)=md (a+b):=by rw[← E6,Fd,E6]
theorem Gu (a b:Int):md (a+md b)=md (a+b):=by rw[← E6,Fd,E6]
theorem ES (a b:Int):md (md a*b)=md (a*b):=by rw[← Df,Fd,Df]
theorem ET (a b:Int):md (a*md b)=md (a*b):=by rw[← Df,Fd,Df]
theorem Rw (a b:Int):md (md a-b)=md (a-b):=by rw[← Fm,Fd,Fm]
theorem JB (a b:Int):md (a-md b)=md (a-b):=by rw[← Fm,Fd,Fm]
theorem Uc (a:Int):md (a+1000003)=md a:=by unfold md;omega
theorem Km (a:Int):md (-(md a))=md (-a):=by have:=JB 0 a;simpa using this
theorem Lf {a b:Int}(ha:0≤a)(ha':a<1000003)(hb:0≤b)(hb':b<1000003):0≤a*b∧a*b≤1000004000004:=by
 refine⟨Int.mul_nonneg ha hb,?_⟩
 have h1:a*b≤1000002*b:=Int.mul_le_mul_of_nonneg_right (by omega) hb
 have h2:1000002*b≤1000002*1000002:=Int.mul_le_mul_of_nonneg_left (by omega) (by decide)
 omega
theorem tm (x:Int):x.tmod 1000003=if 0≤x then md x else -(md (-x)):=by
 unfold md
 split
 ·rename_i h;exact Int.tmod_eq_emod_of_nonneg h
 ·rename_i h
  have:=Int.tmod_eq_emod_of_nonneg (a:=-x) (b:=1000003) (by omega)
  rw[Int.neg_tmod]at this
  omega
theorem Gv {x:Int}(h:-9223372036854775808≤x)(h':x≤9223372036854775807):wr x=x:=FR h h'
theorem bS (n:Int):(wr (n.tmod 1000003+((1000003:Nat):Int))).tmod 1000003=md n:=by
 have h1:=Ci n;have h2:=FT n;have h3:=Ci (-n);have h4:=FT (-n)
 rw[tm n]
 split
 ·rw[Gv (by omega) (by omega),tm,if_pos (by omega)]
  have:=Uc (md n)
  rw[Fd]at this
  simpa using this
 ·rw[Gv (by omega) (by omega),tm,if_pos (by omega)]
  have e1:md (-(md (-n))+((1000003:Nat):Int))=md (-(md (-n))):=Uc _
  rw[e1,Km]
  simp
theorem Rx (a b:Int):(wr (md a+md b)).tmod 1000003=md (a+b):=by
 have h1:=Ci a;have h2:=FT a;have h3:=Ci b;have h4:=FT b
 rw[Gv (by omega) (by omega),tm,if_pos (by omega),E6]
theorem Pq (a b:Int):(wr (md a*md b)).tmod 1000003=md (a*b):=by
 have:=Lf (Ci a) (FT a) (Ci b) (FT b)
 rw[Gv (by omega) (by omega),tm,if_pos (by omega),Df]
theorem Ud (a b:Int):md (a+wr (((1000003:Nat):Int)-md b))=md (a-b):=by
 have h3:=Ci b;have h4:=FT b
 rw[Gv (by omega) (by omega),show a+(((1000003:Nat):Int)-md b)=(a-md b)+1000003 from by omega,Uc,JB]
theorem LQ (a:Int)(k:Nat):md ((md a) ^ k)=md (a ^ k):=by
 induction k with
 |zero=>rw[Int.pow_zero,Int.pow_zero]
 |succ k ih=>rw[Int.pow_succ,Int.pow_succ,← Df,ih,Fd,Df]
def pw (a n:Int):Int:=if n<0 then 0 else md (a ^ n.toNat)
theorem bT (a n:Int):-9223372036854775808≤pw a n∧pw a n≤9223372036854775807:=by
 unfold pw;split
 ·omega
 ·exact Dt _
theorem bU (a n:Int):0≤pw a n∧pw a n<1000003:=by
 unfold pw;split
 ·omega
 ·exact⟨Ci _,FT _⟩
def inv (a:Int):Int:=pw a ((1000001:Nat):Int)
theorem Lg (a:Int):-9223372036854775808≤inv a∧inv a≤9223372036854775807:=bT _ _
theorem XZ (a:Int):0≤inv a∧inv a<1000003:=bU _ _
theorem Pr (a:Int)(k:Nat):md (((1:Nat):Int)*(md a) ^ k)=md (a ^ k):=by
 rw[show((1:Nat):Int)*(md a) ^ k=(md a) ^ k from Int.one_mul _,LQ]
theorem bV {x b m R:Int}(h:md (x*b ^ m.toNat)=R)(h0:0<m)(h1:m % 2=1):md (md (x*b)*(md (b*b)) ^ (m / 2).toNat)=R:=by
 rw[← h,← Df,Fd,LQ,Df]
 congr 1
 have e:m.toNat=2*(m / 2).toNat+1:=by omega
 rw[e,Int.pow_succ,Int.pow_mul,show b ^ 2=b*b from by rw[Int.pow_succ,Int.pow_succ,Int.pow_zero,Int.one_mul]]
 rw[Int.mul_comm ((b*b) ^ (m / 2).toNat) b,Int.mul_assoc]
theorem Y0 {x b m R:Int}(h:md (x*b ^ m.toNat)=R)(h0:0<m)(h1:¬m % 2=1):md (x*(md (b*b)) ^ (m / 2).toNat)=R:=by
 rw[← h,← Df,LQ,Df]
 congr 1
 have e:m.toNat=2*(m / 2).toNat:=by omega
 rw[e,Int.pow_mul,show b ^ 2=b*b from by rw[Int.pow_succ,Int.pow_succ,Int.pow_zero,Int.one_mul]]
theorem Ue {x b m a n:Int}(h:md (x*b ^ m.toNat)=md (a ^ n.toNat))(h0:0≤m)(h1:¬((0:Nat):Int)<m)(hn:¬n<((0:Nat):Int))(hx:0≤x∧x<1000003):x=pw a n:=by
 have e:m=0:=by omega
 subst e
 unfold pw
 rw[if_neg (by omega),← h]
 simp only[Int.toNat_zero,Int.pow_zero,Int.mul_one]
 rw[KU hx.1 hx.2]
theorem Uf {a n:Int}(h:n<((0:Nat):Int)):((0:Nat):Int)=pw a n:=by
 unfold pw;rw[if_pos (by omega)];rfl
theorem lB {m:Int}(h:0≤m):m.tmod ((2:Nat):Int)=m % 2:=Int.tmod_eq_emod_of_nonneg h
theorem jS {m:Int}(h:0≤m)(h':m≤9223372036854775807):IntKind.i64.wrap (m.tdiv ((2:Nat):Int))=m / 2:=by
 rw[Int.tdiv_eq_ediv_of_nonneg h]
 exact Gv (x:=m / 2) (by omega) (by omega)
theorem Ps {x b:Int}(hx:0≤x∧x<1000003)(hb:0≤b∧b<1000003):(wr (x*b)).tmod ((1000003:Nat):Int)=md (x*b):=by
 have:=Lf hx.1 hx.2 hb.1 hb.2
 rw[Gv (by omega) (by omega)]
 have:=tm (x*b)
 rw[if_pos (by omega)]at this
 exact this
theorem BK (x:Int):0≤md x∧md x<1000003:=⟨Ci x,FT x⟩
def J2 (n:Int):Bool:=decide (0≤n) && decide (n≤1000002)
theorem C3 {n:Int}:J2 n=true↔0≤n∧n<1000003:=by
 unfold J2;simp only[Bool.and_eq_true,decide_eq_true_eq];omega
def B7 (l:List Int):Bool:=l.all J2
theorem Ug (f:Int→Bool)(l:List Int):(l.take 0).all f=true:=rfl
theorem Uh {α:Type}{f:α→Bool}{l:List α}{k:Nat}(d:α)(h:(l.take k).all f=true)(hk:k<l.length)(hf:f (l.getD k d)=true):(l.take (k+1)).all f=true:=by
 rw[List.take_succ_eq_append_getElem hk,List.all_append,h]
 have e:l.getD k d=l[k]:=by simp[hk]
 rw[e]at hf
 simp[hf]
theorem Ui {α:Type}{f:α→Bool}{l:List α}{k:Nat}(d:α)(hk:k<l.length)(hf:f (l.getD k d)=false):l.all f=false:=by
 have e:l.getD k d=l[k]:=by simp[hk]
 rw[e]at hf
 rw[List.all_eq_false]
 exact⟨l[k],List.getElem_mem hk,by simp[hf]⟩
theorem Uj {α:Type}{f:α→Bool}{l:List α}{k:Nat}(h:(l.take k).all f=true)(hk:l.length≤k):l.all f=true:=by
 rwa [List.take_of_length_le hk]at h
theorem Ba {l:List Int}(h:B7 l=true)(k:Nat):0≤l.getD k 0∧l.getD k 0<1000003:=by
 by_cases hk:k<l.length
 ·have e:l.getD k 0=l[k]:=by simp[hk]
  rw[e]
  exact C3.1 (List.all_eq_true.1 h _ (List.getElem_mem hk))
 ·have e:l.getD k 0=0:=by simp[Nat.not_lt.1 hk]
  rw[e];omega
theorem Cr {α:Type}{l:List α}{k:Nat}(d:α)(h:k<l.length):l.take (k+1)=l.take k++[l.getD k d]:=by
 rw[List.take_succ_eq_append_getElem h]
 simp[h]
def EU {α:Type}(n:Nat)(f:Nat→α):List α:=(List.range n).map f
@[simp] theorem DC {α:Type}(n:Nat)(f:Nat→α):(EU n f).length=n:=by simp[EU]
theorem Bf {α:Type}{n:Nat}{f:Nat→α}{k:Nat}(d:α)(h:k<n):(EU n f).getD k d=f k:=by simp[EU,h]
theorem LR {α:Type}(n:Nat)(f:Nat→α):EU (n+1) f=EU n f++[f n]:=by simp[EU,List.range_succ]
theorem Ry {α:Type}{n:Nat}{f g:Nat→α}(h:∀k,k<n→f k=g k):EU n f=EU n g:=by
 unfold EU
 exact List.map_congr_left fun k hk=>h k (List.mem_range.1 hk)
theorem bW {α:Type}(l:List α)(d:α):l=EU l.length (fun k=>l.getD k d):=by
 apply List.ext_getElem
 ·simp
 ·intro i h1 h2
  simp[EU,h1]
def Cn {α:Type}(k:Nat)(t z:List α):List α:=t.take k++z.drop k
theorem C9 {α:Type}(t z:List α):Cn 0 t z=z:=by simp[Cn]
theorem CL {α:Type}{k:Nat}{t z:List α}(h:t.length=z.length)(hk:z.length≤k):Cn k t z=t:=by
 simp[Cn,List.take_of_length_le (show t.length≤k by omega),List.drop_of_length_le hk]
@[simp] theorem D4 {α:Type}(k:Nat)(t z:List α)(h:t.length=z.length):(Cn k t z).length=z.length:=by
 simp[Cn];omega
theorem Hk {α:Type}{k:Nat}{t z:List α}(d:α)(h:t.length=z.length)(hk:k<z.length):(Cn k t z).set k (t.getD k d)=Cn (k+1) t z:=by
 unfold Cn
 have hl:(t.take k).length=k:=by simp;omega
 rw[Cr d (by omega),List.set_append_right _ _ (by omega),hl,Nat.sub_self,List.append_assoc]
 congr 1
 rw[List.drop_eq_getElem_cons hk]
 rfl
theorem CU {α:Type}{k j:Nat}{t z:List α}(d:α)(h:t.length=z.length)(hkj:k≤j)(hj:j<z.length):(Cn k t z).getD j d=z.getD j d:=by
 unfold Cn
 have hl:(t.take k).length=k:=by simp;omega
 rw[List.getD_eq_getElem?_getD,List.getElem?_append_right (by omega),hl,List.getElem?_drop,List.getD_eq_getElem?_getD]
 congr 2
 omega
theorem Qv {α:Type}{k j:Nat}{t z:List α}(d:α)(hkj:j<k)(hj:j<t.length):(Cn k t z).getD j d=t.getD j d:=by
 unfold Cn
 rw[List.getD_eq_getElem?_getD,List.getElem?_append_left (by simp;omega),List.getElem?_take,if_pos hkj,List.getD_eq_getElem?_getD]
theorem DD {α:Type}{n k:Nat}{f:Nat→α}{z:List α}(hz:z.length=n)(hk:k<n):Cn (k+1) (EU n f) z=(Cn k (EU n f) z).set k (f k):=by
 rw[← Hk (f k) (by simp[hz]) (by omega),Bf _ hk]
theorem Rz (l:List Int):(!l.any fun x=>!J2 x)=B7 l:=by
 unfold B7
 rw[← List.all_eq_not_any_not]
structure Sq (n:Nat)(M:List (List Int)):Prop where
 len:M.length=n
 row:∀k,k<n→(M.getD k []).length=n
 num:∀k,B7 (M.getD k [])=true
theorem Sq.get {n:Nat}{M:List (List Int)}(h:Sq n M)(r k:Nat):0≤(M.getD r []).getD k 0∧(M.getD r []).getD k 0<1000003:=Ba (h.num r) k
theorem Bz {α:Type}(l:List α)(i j:Nat)(x d:α)(hi:i<l.length):(l.set i x).getD j d=if j=i then x else l.getD j d:=by
 rw[List.getD_eq_getElem?_getD,List.getElem?_set]
 by_cases h:i=j
 ·subst h;simp[hi]
 ·simp[h,Ne.symm h]
theorem Sq.set {n:Nat}{M:List (List Int)}(h:Sq n M){r:Nat}(hr:r<n){y:List Int}(hy:y.length=n)(hn:B7 y=true):Sq n (M.set r y):=by
 have hl:=h.len
 refine⟨by simp[hl],fun k hk=>?_,fun k=>?_⟩
 ·rw[Bz _ _ _ _ _ (by omega)]
  split
  ·exact hy
  ·exact h.row k hk
 ·rw[Bz _ _ _ _ _ (by omega)]
  split
  ·exact hn
  ·exact h.num k
theorem FN {α:Type}(l:List α)(i j k:Nat)(d:α)(hi:i<l.length)(hj:j<l.length):(Bl l i j d).getD k d=if k=j then l.getD i d else if k=i then l.getD j d else l.getD k d:=by
 unfold Bl
 rw[Bz _ _ _ _ _ (by simpa using hj),Bz _ _ _ _ _ hi]
theorem Sq.swap {n:Nat}{M:List (List Int)}(h:Sq n M){i j:Nat}(hi:i<n)(hj:j<n):Sq n (Bl M i j []):=by
 have hl:=h.len
 refine⟨by simp[Ck,hl],fun k hk=>?_,fun k=>?_⟩
 ·rw[FN _ _ _ _ _ (by omega) (by omega)]
  split
  ·exact h.row i hi
  ·split
   ·exact h.row j hj
   ·exact h.row k hk
 ·rw[FN _ _ _ _ _ (by omega) (by omega)]
  split
  ·exact h.num i
  ·split
   ·exact h.num j
   ·exact h.num k
def NH (a b:List Int)(y:Int):List Int:=EU a.length fun k=>md (a.getD k 0-md (y*b.getD k 0))
@[simp] theorem Hl (a b:List Int)(y:Int):(NH a b y).length=a.length:=by simp[NH]
theorem FE {n:Nat}{f:Nat→Int}(h:∀k,k<n→0≤f k∧f k<1000003):B7 (EU n f)=true:=by
 unfold B7 EU
 rw[List.all_eq_true]
 intro x hx
 obtain⟨k,hk,rfl⟩:=List.mem_map.1 hx
 exact C3.2 (h k (List.mem_range.1 hk))
theorem RA (a b:List Int)(y:Int):B7 (NH a b y)=true:=FE fun _ _=>BK _
def N8 (f:Nat→Bool):Nat→Nat→Nat
 |0,r=>r
 |m+1,r=>if f r then N8 f m (r+1)else r
theorem Ob (f:Nat→Bool):∀m r,r≤N8 f m r∧N8 f m r≤r+m
 |0,r=>by simp[N8]
 |m+1,r=>by
  unfold N8
  split
  ·have:=Ob f m (r+1);omega
  ·omega
theorem Uk (f:Nat→Bool):∀m r,N8 f m r<r+m→f (N8 f m r)=false
 |0,r,h=>by simp[N8]at h
 |m+1,r,h=>by
  unfold N8 at h ⊢
  split
  ·rename_i hf
   rw[if_pos hf]at h
   exact Uk f m (r+1) (by omega)
  ·rename_i hf;simpa using hf
def HS (c:Nat)(rc:List Int)(iv:Int):Nat→List (List Int)→List (List Int):=it fun j M=>M.set (c+1+j) (NH (M.getD (c+1+j) []) rc (md ((M.getD (c+1+j) []).getD c 0*iv)))
theorem Lh {n c:Nat}{rc:List Int}{iv:Int}{M:List (List Int)}(h:Sq n M):∀j,c+1+j≤n→Sq n (HS c rc iv j M)
 |0,_=>h
 |j+1,hj=>by
  have ih:=Lh (c:=c) (rc:=rc) (iv:=iv) h j (by omega)
  exact Sq.set (r:=c+1+j) ih (by omega) (by rw[Hl];exact ih.row _ (by omega)) (RA _ _ _)
theorem Oc {n c:Nat}{rc:List Int}{iv:Int}{M:List (List Int)}(h:Sq n M)(d:List Int){k:Nat}(hk:k≤c):∀j,c+1+j≤n→(HS c rc iv j M).getD k d=M.getD k d
 |0,_=>rfl
 |j+1,hj=>by
  have ih:=Oc (rc:=rc) (iv:=iv) h d hk j (by omega)
  have hs:=Lh (c:=c) (rc:=rc) (iv:=iv) h j (by omega)
  show((HS c rc iv j M).set (c+1+j) _).getD k d=_
  rw[Bz _ (c+1+j) k _ d (by have:=hs.len;omega),if_neg (by omega)]
  exact ih
def Tb (n c:Nat)(M:List (List Int)):Nat:=N8 (fun r=>decide ((M.getD r []).getD c 0=0)) (n-c) c
def L2 (n:Nat):Nat→Nat→List (List Int)→Int→Int
 |0,_,_,det=>det
 |m+1,c,M,det =>
  if Tb n c M=n then 0 else
   let M1:=Bl M c (Tb n c M) []
   let rc:=M1.getD c []
   L2 n m (c+1) (HS c rc (inv (rc.getD c 0)) (n-(c+1)) M1) (md ((if Tb n c M≠c then md (-det)else det)*rc.getD c 0))
def Ed (a:List (List Int)):Int:=L2 a.length a.length 0 a 1
theorem EV {α:Type}(l:List α){r:Nat}(d:α)(h:r<l.length):l.set r (l.getD r d)=l:=by
 have:l.getD r d=l[r]:=by simp[h]
 rw[this,List.set_getElem_self]
theorem Pt {α:Type}{a b:List α}{d:α}{k:Nat}(h:∀j,j<k→a.getD j d=b.getD j d)(hk:a.getD k d=b.getD k d):∀j,j<k+1→a.getD j d=b.getD j d:=by
 intro j hj
 by_cases e:j=k
 ·subst e;exact hk
 ·exact h j (by omega)
theorem FU {α:Type}{a b:List α}{d:α}{k:Nat}(h:∀j,j<k→a.getD j d=b.getD j d)(hl:a.length=b.length)(hk:a.length≤k):a=b:=by
 apply List.ext_getElem hl
 intro i h1 h2
 have:=h i (by omega)
 simpa [h1,h2]using this
theorem Pu {α:Type}{a b:List α}{d:α}{k:Nat}(h:a.getD k d≠b.getD k d):a≠b:=fun e=>h (by rw[e])
theorem RB {α:Type}{a b:List α}(h:a.length≠b.length):a≠b:=fun e=>h (by rw[e])
theorem JC {f:Nat→Bool}{n p:Nat}(hp:p<n)(hf:f p=true):N8 f (n-p) p=N8 f (n-(p+1)) (p+1):=by
 obtain⟨m,hm⟩:∃m,n-p=m+1:=⟨n-p-1,by omega⟩
 rw[hm,show n-(p+1)=m from by omega]
 show(if f p then _ else _)=_
 rw[if_pos hf]
theorem LS {f:Nat→Bool}{n p:Nat}(hf:f p=false):N8 f (n-p) p=p:=by
 cases n-p with
 |zero=>rfl
 |succ m=>show(if f p then _ else _)=_;rw[if_neg (by simp[hf])]
theorem RC {f:Nat→Bool}{n p:Nat}(hp:n≤p):N8 f (n-p) p=p:=by
 rw[show n-p=0 from by omega];rfl
def Hm (x a b:Int):Bool:=decide (a≤x) && decide (x≤b)
def Fp (e:Ex):Bool:=decide (e.pick=0) && decide (e.count=0)
def Kn (p:List Fn)(funcs vars:Int)(e:Ex):Bool :=
 if e.kind=1 then Fp e && (decide (e.kids.length=0) && J2 e.num)
 else if e.kind=2 then Fp e && (decide (e.kids.length=0) && Hm e.num 0 (vars-1))
 else if e.kind=3∨e.kind=4∨e.kind=5∨e.kind=6∨e.kind=9 then Fp e && (decide (e.num=0) && decide (e.kids.length=2))
 else if e.kind=7 then Fp e && (decide (e.num=0) && decide (e.kids.length=1))
 else if e.kind=8 then Fp e && (decide (e.num=0) && decide (e.kids.length=3))
 else if e.kind=10∨e.kind=11 then
  Hm e.num 0 (funcs-1) && (decide ((e.kids.length:Int)=(p.getD e.num.toNat Fn.zero).params) && (Hm e.pick 0 (((p.getD e.num.toNat Fn.zero).outs.length:Int)-1) &&
   (if e.kind=10 then decide (e.count=0)else decide (((p.getD e.num.toNat Fn.zero).outs.length:Int)=(p.getD e.num.toNat Fn.zero).params) && Hm e.count 0 8)))
 else false
mutual
def wf (p:List Fn)(funcs:Int):Ex→Int→Bool
 |.mk k n q c l,vars=>Kn p funcs vars (.mk k n q c l) && Zi p funcs (decide (k=9)) 0 l vars
def Zi (p:List Fn)(funcs:Int)(b:Bool):Nat→List Ex→Int→Bool
 |_,[],_=>true
 |i,e::l,vars=>wf p funcs e (if b=true∧i=1 then vars+1 else vars) && Zi p funcs b (i+1) l vars
end
theorem NI (p:List Fn)(funcs:Int)(e:Ex)(vars:Int):wf p funcs e vars=(Kn p funcs vars e && Zi p funcs (decide (e.kind=9)) 0 e.kids vars):=by
 cases e;rw[wf];rfl
theorem Li (p:List Fn)(funcs:Int)(b:Bool)(vars:Int):∀(l:List Ex)(i:Nat),Zi p funcs b i l vars=true↔∀j,j<l.length→wf p funcs (l.getD j Ex.zero) (if b=true∧i+j=1 then vars+1 else vars)=true
 |[],i=>by rw[Zi];simp
 |e::l,i=>by
  rw[Zi,Bool.and_eq_true,Li p funcs b vars l (i+1)]
  constructor
  ·rintro⟨h1,h2⟩ j hj
   cases j with
   |zero=>simpa using h1
   |succ j =>
    have:=h2 j (by simpa using hj)
    rw[show i+1+j=i+(j+1)from by omega]at this
    simpa using this
  ·intro h
   refine⟨by simpa using h 0 (by simp),fun j hj=>?_⟩
   have:=h (j+1) (by simpa using hj)
   rw[show i+(j+1)=i+1+j from by omega]at this
   simpa using this
theorem Y1 {p:List Fn}{funcs vars:Int}{e:Ex}(h:e.kids.length=0):wf p funcs e vars=Kn p funcs vars e:=by
 rw[NI]
 have:e.kids=[]:=List.eq_nil_of_length_eq_zero h
 rw[this,Zi,Bool.and_true]
theorem Ul {p:List Fn}{funcs vars:Int}{e:Ex}(h:Kn p funcs vars e=false):false=wf p funcs e vars:=by
 rw[NI,h];rfl
theorem Um {p:List Fn}{funcs vars own:Int}{e:Ex}{k:Nat}(hk:k<e.kids.length)(ho:own=if e.kind=9∧k=1 then vars+1 else vars)(h:wf p funcs (e.kids.getD k Ex.zero) own=false):false=wf p funcs e vars:=by
 rw[NI]
 cases hw:Zi p funcs (decide (e.kind=9)) 0 e.kids vars with
 |false=>rw[Bool.and_false]
 |true =>
  have:=(Li p funcs _ vars e.kids 0).1 hw k hk
  rw[Nat.zero_add]at this
  simp only[decide_eq_true_eq]at this
  rw[← ho,h]at this
  cases this
theorem RD {p:List Fn}{funcs vars:Int}{e:Ex}(hn:Kn p funcs vars e=true)(h:∀j,j<e.kids.length→wf p funcs (e.kids.getD j Ex.zero) (if e.kind=9∧j=1 then vars+1 else vars)=true):true=wf p funcs e vars:=by
 rw[NI,hn,Bool.true_and]
 refine((Li p funcs _ vars e.kids 0).2 fun j hj=>?_).symm
 rw[Nat.zero_add]
 simp only[decide_eq_true_eq]
 exact h j hj
theorem Fz {l:List Ex}{k:Nat}(hk:k<l.length):(l.getD k Ex.zero).deep≤Ex.deeps l:=by
 have h1:=Hj hk
 have h2:∀(l:List Ex) (k:Nat),Ex.deeps (l.take k)≤Ex.deeps l:=by
  intro l
  induction l with
  |nil=>intro k;simp
  |cons e l ih =>
   intro k
   cases k with
   |zero=>rw[List.take_zero,Ex.deeps];omega
   |succ k=>rw[List.take_succ_cons,Ex.deeps,Ex.deeps];have:=ih k;omega
 have h3:=h2 l (k+1)
 omega
theorem Du {α β:Type}{f:α→β}{l:List α}{k:Nat}(d:α)(h:k<l.length):(l.take (k+1)).map f=(l.take k).map f++[f (l.getD k d)]:=by
 rw[Cr d h,List.map_append];rfl
theorem bX {s x y:Int}(hs:0≤s∧s<1000003)(hx:0≤x∧x<1000003)(hy:0≤y∧y<1000003):(wr (s+wr (x*y))).tmod ((1000003:Nat):Int)=md (s+x*y):=by
 have h:=Lf hx.1 hx.2 hy.1 hy.2
 rw[Gv (x:=x*y) (by omega) (by omega),Gv (by omega) (by omega)]
 exact Int.tmod_eq_emod_of_nonneg (by omega)
def scl (a:List Int)(y:Int):List Int:=a.map fun x=>md (x*y)
def up (n:Nat)(k:Int):List Int:=EU n fun i=>k+(i:Int)
@[simp] theorem Qw (n:Nat)(k:Int):(up n k).length=n:=by simp[up]
theorem bY {n i:Nat}{k:Int}(h:i<n):(up n k).getD i 0=k+(i:Int):=Bf 0 h
def J3 (a:List (List Int))(i:Nat):Nat:=((a.take i).map List.length).sum
theorem LT (a:List (List Int)):J3 a 0=0:=rfl
theorem FV {a:List (List Int)}{i:Nat}(h:i<a.length):J3 a (i+1)=J3 a i+(a.getD i []).length:=by
 unfold J3
 rw[Du [] h,List.sum_append]
 simp
theorem JD (a:List (List Int))(i:Nat):J3 a i≤J3 a a.length:=by
 unfold J3
 rw[List.take_length]
 conv=>rhs;rw[← List.take_append_drop i a]
 rw[List.map_append,List.sum_append]
 omega
theorem Un {a:List (List Int)}{L:Nat}(h:∀k,(a.getD k []).length≤L):∀i,i≤a.length→J3 a i≤i*L
 |0,_=>by simp[LT]
 |i+1,hi=>by
  have h1:=Un h i (by omega)
  have h2:=h i
  rw[FV (by omega),Nat.succ_mul]
  omega
def L3 (a:List (List Int))(k:Int):List (List Int):=EU a.length fun i=>up (a.getD i []).length (k+(J3 a i:Int))
@[simp] theorem Ek (a:List (List Int))(k:Int):(L3 a k).length=a.length:=by simp[L3]
theorem RE {a:List (List Int)}{k:Int}{i:Nat}(h:i<a.length):(L3 a k).getD i []=up (a.getD i []).length (k+(J3 a i:Int)):=Bf [] h
theorem RH (a:List (List Int))(k:Int)(i:Nat):((L3 a k).getD i []).length=(a.getD i []).length:=by
 by_cases h:i<a.length
 ·rw[RE h,Qw]
 ·rw[show(L3 a k).getD i []=[]from by simp[Nat.not_lt.1 h],show a.getD i []=[]from by simp[Nat.not_lt.1 h]]
theorem Ij (a:List (List Int))(k:Int):∀i,i≤a.length→J3 (L3 a k) i=J3 a i
 |0,_=>rfl
 |i+1,hi=>by rw[FV (by simp;omega),FV (by omega),Ij a k i (by omega),RH]
section
theorem JE {α:Type}{l l':List α}{k:Nat}{d:α}(h:k<l.length):(l++l').getD k d=l.getD k d:=by
 rw[List.getD_eq_getElem?_getD,List.getElem?_append_left h,List.getD_eq_getElem?_getD]
theorem GT {α:Type}{l l':List α}{k:Nat}{d:α}(h:l.length≤k):(l++l').getD k d=l'.getD (k-l.length) d:=by
 rw[List.getD_eq_getElem?_getD,List.getElem?_append_right h,List.getD_eq_getElem?_getD]
theorem NJ:∀d,d<1001→2≤d→1000003 % d≠0:=by decide +kernel
theorem Uo {d:Nat}(h:d ∣ 1000003)(h2:2≤d):d=1000003:=by
 obtain⟨e,he⟩:=h
 by_cases h3:d<1001
 ·exact absurd (by rw[he];exact Nat.mul_mod_right d e) (NJ d h3 h2)
 ·by_cases h4:e<1001
  ·by_cases h5:2≤e
   ·exact absurd (by rw[he];exact Nat.mul_mod_left d e) (NJ e h4 h5)
   ·have:e=0∨e=1:=by omega
    rcases this with rfl|rfl <;> omega
  ·have:1001*1001≤d*e:=Nat.mul_le_mul (by omega) (by omega)
   omega
theorem Tc {a:Nat}(h:0<a)(h':a<1000003):Nat.Coprime 1000003 a:=by
 have h1:Nat.gcd 1000003 a ∣ 1000003:=Nat.gcd_dvd_left _ _
 have h2:Nat.gcd 1000003 a ∣ a:=Nat.gcd_dvd_right _ _
 have h3:=Nat.le_of_dvd h h2
 have h4:0<Nat.gcd 1000003 a:=Nat.gcd_pos_of_pos_right _ h
 unfold Nat.Coprime
 by_cases h5:2≤Nat.gcd 1000003 a
 ·have:=Uo h1 h5;omega
 ·omega
theorem Uq {a b:Int}(ha:0<a∧a<1000003)(hb:0<b∧b<1000003):md (a*b)≠0:=by
 obtain⟨x,rfl⟩:=Int.eq_ofNat_of_zero_le (show 0≤a by omega)
 obtain⟨y,rfl⟩:=Int.eq_ofNat_of_zero_le (show 0≤b by omega)
 intro h
 unfold md at h
 have h1:(1000003:Nat) ∣ x*y:=by
  apply Nat.dvd_of_mod_eq_zero
  have h2:((x*y:Nat):Int) % 1000003=0:=by rw[Int.natCast_mul];exact h
  omega
 have h3:(1000003:Nat) ∣ y:=(Tc (a:=x) (by omega) (by omega)).dvd_of_dvd_mul_left h1
 have:=Nat.le_of_dvd (by omega) h3
 omega
structure Ar (α:Type) where
 q:α→α→α
 t:α→α→α→α
 z:α→Bool
 d:α
section N1
variable {α:Type} (R:Ar α)
def Ee (c:Nat)(row:List α):List α:=row.map fun x=>R.q x (row.getD c R.d)
def Gj (c:Nat)(row other:List α):List α:=EU row.length fun k=>R.t (row.getD k R.d) (row.getD c R.d) (other.getD k R.d)
def Cc (n c:Nat)(M:List (List α)):List (List α):=EU n fun r=>if r=c then M.getD c []else Gj R c (M.getD r []) (M.getD c [])
def FW (c p:Nat)(M:List (List α)):List (List α):=(Bl M c p []).set c (Ee R c ((Bl M c p []).getD c []))
def GU (n c p:Nat)(M:List (List α)):List (List α):=Cc R n c (FW R c p M)
def Hc (n c:Nat)(M:List (List α)):Nat:=N8 (fun r=>R.z ((M.getD r []).getD c R.d)) (n-c) c
def N1 (n:Nat):Nat→Nat→List (List α)→Option (List (List α))
 |0,_,M=>some M
 |m+1,c,M=>if Hc R n c M=n then none else N1 n m (c+1) (GU R n c (Hc R n c M) M)
end N1
structure Gk {α:Type}(V:α→Prop)(d:α)(m:Nat)(row:List α):Prop where
 len:row.length=m
 val:∀k,k<m→V (row.getD k d)
structure Sh {α:Type}(V:α→Prop)(d:α)(n m:Nat)(M:List (List α)):Prop where
 len:M.length=n
 row:∀r,r<n→Gk V d m (M.getD r [])
section sh
variable {α:Type} {R:Ar α} {V:α→Prop} {n m c p:Nat} {M:List (List α)}
structure Ur (R:Ar α)(V:α→Prop):Prop where
 q:∀x y,V x→V y→V (R.q x y)
 t:∀x y w,V x→V y→V w→V (R.t x y w)
theorem FX {row:List α}{k:Nat}(hk:k<row.length):(Ee R c row).getD k R.d=R.q (row.getD k R.d) (row.getD c R.d):=by
 simp[Ee,hk]
theorem FY {row other:List α}{k:Nat}(hk:k<row.length):(Gj R c row other).getD k R.d=R.t (row.getD k R.d) (row.getD c R.d) (other.getD k R.d):=Bf _ hk
@[simp] theorem Us (row:List α):(Ee R c row).length=row.length:=by simp[Ee]
@[simp] theorem Ut (row other:List α):(Gj R c row other).length=row.length:=by simp[Gj]
theorem Gk.q {row:List α}(hA:Ur R V)(h:Gk V R.d m row)(hc:c<m):Gk V R.d m (Ee R c row) :=
 ⟨by simp[h.len],fun k hk=>by rw[FX (by rw[h.len];exact hk)];exact hA.q _ _ (h.val k hk) (h.val c hc)⟩
theorem Gk.t {row other:List α}(hA:Ur R V)(h:Gk V R.d m row)(h':Gk V R.d m other)(hc:c<m):Gk V R.d m (Gj R c row other) :=
 ⟨by simp[h.len],fun k hk=>by rw[FY (by rw[h.len];exact hk)];exact hA.t _ _ _ (h.val k hk) (h.val c hc) (h'.val k hk)⟩
theorem Sh.set {d:α}(h:Sh V d n m M){r:Nat}(hr:r<n){y:List α}(hy:Gk V d m y):Sh V d n m (M.set r y):=by
 have hl:=h.len
 refine⟨by simp[hl],fun k hk=>?_⟩
 rw[Bz _ _ _ _ _ (by omega)]
 split
 ·exact hy
 ·exact h.row k hk
theorem Sh.swap {d:α}(h:Sh V d n m M){i j:Nat}(hi:i<n)(hj:j<n):Sh V d n m (Bl M i j []):=by
 have hl:=h.len
 refine⟨by simp[Ck,hl],fun k hk=>?_⟩
 rw[FN _ _ _ _ _ (by omega) (by omega)]
 split
 ·exact h.row i hi
 ·split
  ·exact h.row j hj
  ·exact h.row k hk
theorem Lj {β:Type}{l:List β}{d:β}(hc:c<l.length)(hp:p<l.length):(Bl l c p d).getD c d=l.getD p d:=by
 rw[FN _ _ _ _ _ hc hp]
 split
 ·rename_i h;rw[h]
 ·rw[if_pos rfl]
theorem Sh.div (hA:Ur R V)(h:Sh V R.d n m M)(hc:c<n)(hp:p<n)(hcm:c<m):Sh V R.d n m (FW R c p M) :=
 (h.swap hc hp).set hc (((h.swap hc hp).row c hc).q hA hcm)
theorem Uu (h:Sh V R.d n m M)(hc:c<n)(hp:p<n)(r:Nat):(FW R c p M).getD r []=if r=c then Ee R c (M.getD p [])else if r=p then M.getD c []else M.getD r []:=by
 have hl:=h.len
 unfold FW
 rw[Bz _ _ _ _ _ (by rw[Ck];omega),Lj (by omega) (by omega),FN _ _ _ _ _ (by omega) (by omega)]
 by_cases h1:r=c
 ·rw[if_pos h1,if_pos h1]
 ·rw[if_neg h1,if_neg h1,if_neg h1]
theorem Ko {r:Nat}(hr:r<n):(Cc R n c M).getD r []=if r=c then M.getD c []else Gj R c (M.getD r []) (M.getD c []):=Bf _ hr
theorem Sh.rows (hA:Ur R V)(h:Sh V R.d n m M)(hc:c<n)(hcm:c<m):Sh V R.d n m (Cc R n c M):=by
 refine⟨by simp[Cc],fun r hr=>?_⟩
 rw[Ko hr]
 split
 ·exact h.row c hc
 ·exact(h.row r hr).t hA (h.row c hc) hcm
theorem Sh.step (hA:Ur R V)(h:Sh V R.d n m M)(hc:c<n)(hp:p<n)(hcm:c<m):Sh V R.d n m (GU R n c p M):=(h.div hA hc hp hcm).rows hA hc hcm
theorem Ea (h:Sh V R.d n m M)(hc:c<n)(hp:p<n){r:Nat}(hr:r<n) :
  (GU R n c p M).getD r []=if r=c then Ee R c (M.getD p [])else Gj R c (if r=p then M.getD c []else M.getD r []) (Ee R c (M.getD p [])):=by
 unfold GU
 rw[Ko hr]
 simp only[Uu h hc hp]
 by_cases hrc:r=c
 ·subst hrc;simp
 ·simp[hrc]
theorem Kp (R:Ar α)(h:Hc R n c M≠n)(hc:c<n):c≤Hc R n c M∧Hc R n c M<n∧R.z ((M.getD (Hc R n c M) []).getD c R.d)=false:=by
 have h1:=Ob (fun r=>R.z ((M.getD r []).getD c R.d)) (n-c) c
 have h2:=Uk (fun r=>R.z ((M.getD r []).getD c R.d)) (n-c) c
 unfold Hc at h ⊢
 refine⟨h1.1,by omega,h2 (by omega)⟩
theorem Sh.jor (hA:Ur R V):∀(l c:Nat)(M:List (List α)),c+l≤n→n≤m→Sh V R.d n m M→∀ {M':List (List α)},N1 R n l c M=some M'→Sh V R.d n m M'
 |0,c,M,_,_,h,M',e=>by cases e;exact h
 |l+1,c,M,hl,hm,h,M',e=>by
  unfold Go.Proofs.YtnokbaiemimhjaaGreat.N1 at e
  split at e
  ·cases e
  ·rename_i hp
   obtain⟨_,h2,_⟩:=Kp R hp (by omega)
   exact Sh.jor hA l (c+1) _ (by omega) hm (h.step hA (by omega) h2 (by omega)) e
end sh
theorem Kq {f g:Nat→Bool}:∀m r,(∀i,r≤i→i<r+m→f i=g i)→N8 f m r=N8 g m r
 |0,_,_=>rfl
 |m+1,r,h=>by
  unfold N8
  rw[h r (A9 _) (by omega),Kq m (r+1) fun i h1 h2=>h i (by omega) (by omega)]
structure Qy {α β:Type}(R:Ar α)(S:Ar β)(V:α→Prop)(h:α→β):Prop where
 q:∀x y,V x→V y→h (R.q x y)=S.q (h x) (h y)
 t:∀x y w,V x→V y→V w→h (R.t x y w)=S.t (h x) (h y) (h w)
 z:∀x,V x→S.z (h x)=R.z x
section hom
variable {α β:Type} {R:Ar α} {S:Ar β} {V:α→Prop} {h:α→β} {n m c p:Nat} {M:List (List α)}
def mm (h:α→β)(M:List (List α)):List (List β):=M.map (List.map h)
theorem EI (r:Nat):(mm h M).getD r []=(M.getD r []).map h:=by
 unfold mm
 by_cases hr:r<M.length
 ·simp[hr]
 ·simp[Nat.not_lt.1 hr]
theorem B5 {row:List α}{k:Nat}{d:α}{d':β}(hk:k<row.length):(row.map h).getD k d'=h (row.getD k d):=by simp[hk]
theorem LU {A B:List (List β)}{n:Nat}(ha:A.length=n)(hb:B.length=n)(he:∀r,r<n→A.getD r []=B.getD r []):A=B :=
 FU (k:=n) (fun j hj=>he j hj) (by omega) (by omega)
theorem Qy.rowQ (H:Qy R S V h){row:List α}(hr:Gk V R.d m row)(hc:c<m):(Ee R c row).map h=Go.Proofs.YtnokbaiemimhjaaGreat.Ee S c (row.map h):=by
 have hl:=hr.len
 refine FU (d:=S.d) (k:=m) (fun k hk=>?_) (by simp) (by simp[hl])
 rw[B5 (d:=R.d) (by rw[Us];omega),FX (by omega),FX (by simp;omega),B5 (d:=R.d) (by omega),B5 (d:=R.d) (by omega)]
 exact H.q _ _ (hr.val k hk) (hr.val c hc)
theorem Qy.rowT (H:Qy R S V h){row other:List α}(hr:Gk V R.d m row)(ho:Gk V R.d m other)(hc:c<m):(Gj R c row other).map h=Go.Proofs.YtnokbaiemimhjaaGreat.Gj S c (row.map h) (other.map h):=by
 have hl:=hr.len
 have hl2:=ho.len
 refine FU (d:=S.d) (k:=m) (fun k hk=>?_) (by simp) (by simp[hl])
 rw[B5 (d:=R.d) (by rw[Ut];omega),FY (by omega),FY (by simp;omega),B5 (d:=R.d) (by omega),B5 (d:=R.d) (by omega),B5 (d:=R.d) (by omega)]
 exact H.t _ _ _ (hr.val k hk) (hr.val c hc) (ho.val k hk)
theorem Qy.sh (hs:Sh V R.d n m M):Sh (fun _=>True) S.d n m (mm h M) :=
 ⟨by simp[mm,hs.len],fun r hr=>⟨by rw[EI,List.length_map];exact(hs.row r hr).len,fun _ _=>trivial⟩⟩
theorem Qy.step (H:Qy R S V h)(hA:Ur R V)(hs:Sh V R.d n m M)(hc:c<n)(hp:p<n)(hcm:c<m):mm h (GU R n c p M)=GU S n c p (mm h M):=by
 refine LU (n:=n) (by simp[mm,GU,Cc]) (by simp[GU,Cc]) fun r hr=>?_
 rw[EI,Ea hs hc hp hr,Ea (Qy.sh hs) hc hp hr]
 simp only[EI]
 have hq:=H.rowQ (hs.row p hp) hcm
 by_cases hrc:r=c
 ·simp only[hrc,if_pos];exact hq
 ·simp only[hrc,if_false]
  by_cases hrp:r=p
  ·simp only[hrp,if_pos]
   rw[← hq]
   exact H.rowT (hs.row c hc) ((hs.row p hp).q hA hcm) hcm
  ·simp only[hrp,if_false]
   rw[← hq]
   exact H.rowT (hs.row r hr) ((hs.row p hp).q hA hcm) hcm
theorem Qy.pv (H:Qy R S V h)(hs:Sh V R.d n m M)(hcm:c<m):Hc S n c (mm h M)=Hc R n c M:=by
 refine Kq _ _ fun i h1 h2=>?_
 have hi:i<n:=by omega
 rw[EI,B5 (d:=R.d) (by rw[(hs.row i hi).len];exact hcm)]
 exact H.z _ ((hs.row i hi).val c hcm)
theorem Qy.jor (H:Qy R S V h)(hA:Ur R V):∀(l c:Nat)(M:List (List α)),c+l≤n→n≤m→Sh V R.d n m M→N1 S n l c (mm h M)=(N1 R n l c M).map (mm h)
 |0,c,M,_,_,_=>rfl
 |l+1,c,M,hl,hm,hs=>by
  unfold Go.Proofs.YtnokbaiemimhjaaGreat.N1
  rw[H.pv hs (by omega)]
  split
  ·rfl
  ·rename_i hp
   obtain⟨_,h2,_⟩:=Kp R hp (by omega)
   rw[← H.step hA hs (by omega) h2 (by omega)]
   exact Qy.jor H hA l (c+1) _ (by omega) hm (hs.step hA (by omega) h2 (by omega))
end hom
def nA:Ar Int:=⟨fun x y=>md (x*inv y),fun a f b=>md (a-md (f*b)),fun x=>decide (x=0),0⟩
def Nm (x:Int):Prop:=0≤x∧x<1000003
theorem Od:Ur nA Nm:=⟨fun _ _ _ _=>BK _,fun _ _ _ _ _ _=>BK _⟩
theorem Pv {m:Nat}{row:List Int}(h:Gk Nm 0 m row):B7 row=true:=by
 rw[bW row 0]
 exact FE fun k hk=>h.val k (by rw[← h.len];exact hk)
theorem Pw {n c:Nat}{rc:List Int}{iv:Int}{M:List (List Int)}(h:Sq n M):∀j,c+1+j≤n→∀r,(HS c rc iv j M).getD r []=if c<r∧r<c+1+j then NH (M.getD r []) rc (md ((M.getD r []).getD c 0*iv))else M.getD r []
 |0,_,r=>by rw[if_neg (by omega)];rfl
 |j+1,hj,r=>by
  have ih:=Pw (c:=c) (rc:=rc) (iv:=iv) h j (by omega)
  have hs:=Lh (c:=c) (rc:=rc) (iv:=iv) h j (by omega)
  show((HS c rc iv j M).set (c+1+j) (NH ((HS c rc iv j M).getD (c+1+j) []) rc (md (((HS c rc iv j M).getD (c+1+j) []).getD c 0*iv)))).getD r []=_
  have hl:c+1+j<(HS c rc iv j M).length:=by have:=hs.len;omega
  rw[Bz _ (c+1+j) r _ _ hl]
  have e1:=ih (c+1+j)
  rw[if_neg (by omega)]at e1
  rw[e1,ih r]
  by_cases e:r=c+1+j
  ·subst e;rw[if_pos rfl,if_pos (by omega)]
  ·rw[if_neg e]
   by_cases e2:c<r∧r<c+1+j
   ·rw[if_pos e2,if_pos (by omega)]
   ·rw[if_neg e2,if_neg (by omega)]
def Uv (n c:Nat)(D G:List (List Int)):Prop:=∀r,c≤r→r<n→∀k,k<n→(D.getD r []).getD k 0=(G.getD r []).getD k 0
theorem bZ {n c:Nat}{D G:List (List Int)}(h:Uv n c D G)(hc:c<n):Tb n c D=Hc nA n c G:=by
 refine Kq _ _ fun i h1 h2=>?_
 show decide (_=0)=decide (_=0)
 rw[h i h1 (by omega) c hc];rfl
theorem Uw {n c p:Nat}{D G:List (List Int)}(hD:Sq n D)(hG:Sh Nm 0 n (n+1) G)(h:Uv n c D G)(hc:c<n)(hp:p<n)(hcp:c≤p) :
  Uv n (c+1) (HS c ((Bl D c p []).getD c []) (inv (((Bl D c p []).getD c []).getD c 0)) (n-(c+1)) (Bl D c p [])) (GU nA n c p G):=by
 intro r hr1 hr2 k hk
 have hl:=hD.len
 rw[Pw (hD.swap hc hp) _ (by omega),if_pos (by omega),Ea hG hc hp hr2,if_neg (by omega),Lj (by omega) (by omega),FN _ _ _ _ _ (by omega) (by omega)]
 have key:∀(D0 G0:List Int),D0.length=n→G0.length=n+1→(∀k,k<n→D0.getD k 0=G0.getD k 0) →
   (NH D0 (D.getD p []) (md (D0.getD c 0*inv ((D.getD p []).getD c 0)))).getD k 0=(Gj nA c G0 (Ee nA c (G.getD p []))).getD k 0:=by
  intro D0 G0 h1 h2 h3
  have hpl:=(hG.row p hp).len
  rw[show(0:Int)=nA.d from rfl,FY (by omega),FX (by omega)]
  show(EU D0.length fun k=>md (D0.getD k 0-md (md (D0.getD c 0*inv ((D.getD p []).getD c 0))*(D.getD p []).getD k 0))).getD k 0=md (G0.getD k 0-md (G0.getD c 0*md ((G.getD p []).getD k 0*inv ((G.getD p []).getD c 0))))
  rw[Bf _ (by omega),h3 k hk,h3 c hc,h p hcp hp k hk,h p hcp hp c hc,JB,JB]
  rw[← Fm,← Fm (G0.getD k 0) (_*md _),ES,ET]
  congr 3
  rw[Int.mul_assoc,Int.mul_comm (inv _)]
 by_cases e:r=p
 ·subst e
  rw[if_pos rfl,if_pos rfl]
  exact key _ _ (hD.row c hc) (hG.row c hc).len fun k hk=>h c (A9 _) hc k hk
 ·rw[if_neg e,if_neg (by omega),if_neg e]
  exact key _ _ (hD.row r hr2) (hG.row r hr2).len fun k hk=>h r (by omega) hr2 k hk
theorem RJ {n:Nat}:∀(l c:Nat)(D G:List (List Int))(det:Int),c+l=n→Sq n D→Sh Nm 0 n (n+1) G→Uv n c D G→0<det→det<1000003→(L2 n l c D det=0↔N1 nA n l c G=none)
 |0,c,D,G,det,_,_,_,_,h1,_=>by
  unfold L2 N1
  constructor
  ·intro h;omega
  ·intro h;cases h
 |l+1,c,D,G,det,hl,hD,hG,hr,h1,h2=>by
  have hc:c<n:=by omega
  have hpv:=bZ hr hc
  unfold L2 N1
  rw[hpv]
  by_cases hp:Hc nA n c G=n
  ·rw[if_pos hp,if_pos hp];simp
  ·rw[if_neg hp,if_neg hp]
   obtain⟨q1,q2,q3⟩:=Kp nA hp hc
   have hne:(D.getD (Hc nA n c G) []).getD c 0≠0:=by
    rw[hr _ q1 q2 c hc]
    simpa [nA]using q3
   have hnum:=hD.get (Hc nA n c G) c
   have hdl:=hD.len
   have hs:=hD.swap hc q2
   have hdet:0<(if Hc nA n c G≠c then md (-det)else det)∧(if Hc nA n c G≠c then md (-det)else det)<1000003:=by
    split
    ·unfold md;omega
    ·omega
   have hz:=Uq hdet (b:=(D.getD (Hc nA n c G) []).getD c 0) (by omega)
   have hm:=BK ((if Hc nA n c G≠c then md (-det)else det)*(D.getD (Hc nA n c G) []).getD c 0)
   have e:=Lj (d:=[]) (c:=c) (p:=Hc nA n c G) (l:=D) (by omega) (by omega)
   have ih:=RJ (n:=n) l (c+1) (HS c ((Bl D c (Hc nA n c G) []).getD c []) (inv (((Bl D c (Hc nA n c G) []).getD c []).getD c 0)) (n-(c+1)) (Bl D c (Hc nA n c G) [])) (GU nA n c (Hc nA n c G) G)
    (md ((if Hc nA n c G≠c then md (-det)else det)*((Bl D c (Hc nA n c G) []).getD c []).getD c 0)) (by omega) (Lh hs _ (by omega)) (hG.step Od hc q2 (by omega)) (Uw hD hG hr hc q2 q1)
    (by rw[e];omega) (by rw[e];omega)
   exact ih
def DS (a:List (List Int))(b:List Int):List (List Int):=EU a.length fun i=>a.getD i []++[b.getD i 0]
theorem GB {a:List (List Int)}{b:List Int}(hS:Sq a.length a)(hb:B7 b=true):Sh Nm 0 a.length (a.length+1) (DS a b):=by
 refine⟨by simp[DS],fun r hr=>?_⟩
 unfold DS
 rw[Bf _ hr]
 have hl:=hS.row r hr
 refine⟨by rw[List.length_append,hl];rfl,fun k hk=>?_⟩
 by_cases e:k<a.length
 ·rw[JE (by omega)];exact hS.get r k
 ·rw[GT (by omega),show k-(a.getD r []).length=0 from by omega]
  exact Ba hb r
theorem Oe {a:List (List Int)}{b:List Int}(hS:Sq a.length a):Uv a.length 0 a (DS a b):=by
 intro r _ hr k hk
 unfold DS
 rw[Bf _ hr,JE (by rw[hS.row r hr];exact hk)]
def Iw (a:List (List Int))(b:List Int):Option (List (List Int)):=N1 nA a.length a.length 0 (DS a b)
theorem JF {a:List (List Int)}{b:List Int}(hS:Sq a.length a)(hb:B7 b=true):Ed a=0↔Iw a b=none :=
 RJ a.length 0 a (DS a b) 1 (by omega) hS (GB hS hb) (Oe hS) (by decide) (by decide)
def LV {α:Type}(n:Nat)(d:α)(M:List (List α)):List α:=M.map fun r=>r.getD n d
def Ix (a:List (List Int))(b:List Int):List Int:=LV a.length 0 ((Iw a b).getD [])
end
def N9 (a b:List Int)(k:Nat):Nat→Int
 |0=>0
 |i+1=>md (N9 a b k i+a.getD i 0*b.getD (k-i) 0)
theorem RK (a b:List Int)(k:Nat):∀i,0≤N9 a b k i∧N9 a b k i<1000003
 |0=>by unfold N9;omega
 |i+1=>BK _
def C7 (a b:List Int):List Int:=EU a.length fun k=>N9 a b k (k+1)
@[simp] theorem Fe (a b:List Int):(C7 a b).length=a.length:=by simp[C7]
theorem Ff (a b:List Int):B7 (C7 a b)=true:=FE fun _ _=>RK _ _ _ _
def Of (a b o:List Int)(k:Nat):Nat→Int
 |0=>a.getD k 0
 |i+1=>md (Of a b o k i-o.getD i 0*b.getD (k-i) 0)
def IN (a b:List Int):Nat→List Int
 |0=>[]
 |k+1=>IN a b k++[md (Of a b (IN a b k) k k*inv (b.getD 0 0))]
def BR (a b:List Int):List Int:=IN a b a.length
@[simp] theorem DZ (a b:List Int):∀k,(IN a b k).length=k
 |0=>rfl
 |k+1=>by simp[IN,DZ a b k]
@[simp] theorem DT (a b:List Int):(BR a b).length=a.length:=DZ _ _ _
theorem RM (a b:List Int):∀k,B7 (IN a b k)=true
 |0=>rfl
 |k+1=>by
  unfold IN B7
  rw[List.all_append]
  have h:=RM a b k
  unfold B7 at h
  simp only[h,List.all_cons,List.all_nil,Bool.and_true,Bool.true_and]
  exact C3.2 (BK _)
theorem El (a b:List Int):B7 (BR a b)=true:=RM _ _ _
theorem RO (a b:List Int){i:Nat}:∀k m,i<k→k≤m→(IN a b m).getD i 0=(IN a b k).getD i 0
 |k,m,h,hm=>by
  induction m with
  |zero=>omega
  |succ m ih =>
   by_cases e:k=m+1
   ·subst e;rfl
   ·show(IN a b m++_).getD i 0=_
    rw[JE (by rw[DZ];omega)]
    exact ih (by omega)
theorem NK {a b o o':List Int}{k:Nat}:∀i,(∀j,j<i→o.getD j 0=o'.getD j 0)→Of a b o k i=Of a b o' k i
 |0,_=>rfl
 |i+1,h=>by unfold Of;rw[NK i fun j hj=>h j (by omega),h i (by omega)]
theorem JG {a b:List Int}{k:Nat}(hk:k<a.length):(BR a b).getD k 0=md (Of a b (BR a b) k k*inv (b.getD 0 0)):=by
 unfold BR
 rw[RO a b (k+1) a.length (by omega) (by omega)]
 show(IN a b k++[_]).getD k 0=_
 rw[GT (by simp),DZ,Nat.sub_self]
 show md _=_
 rw[NK (o:=IN a b k) (o':=IN a b a.length) k fun j hj=>(RO a b k a.length hj (by omega)).symm]
theorem Y2 {a b:List Int}{k:Nat}(hk:k<a.length){z:List Int}(hz:z.length=a.length) :
  (Cn k (BR a b) z).set k (md (Of a b (BR a b) k k*inv (b.getD 0 0)))=Cn (k+1) (BR a b) z:=by
 rw[← JG hk,Hk 0 (by simp[hz]) (by omega)]
def DU (a b:List Int):List Int:=EU a.length fun k=>md (a.getD k 0+b.getD k 0)
def CD (a:List Int)(n:Int):List Int:=EU a.length fun k=>md (a.getD k 0*n)
def Dg (a b:List Int):List Int:=EU a.length fun k=>md (a.getD k 0-b.getD k 0)
@[simp] theorem GV (a b:List Int):(DU a b).length=a.length:=by simp[DU]
@[simp] theorem FZ (a:List Int)(n:Int):(CD a n).length=a.length:=by simp[CD]
@[simp] theorem GW (a b:List Int):(Dg a b).length=a.length:=by simp[Dg]
theorem HT (a b:List Int):B7 (DU a b)=true:=FE fun _ _=>BK _
theorem Em (a:List Int)(n:Int):B7 (CD a n)=true:=FE fun _ _=>BK _
theorem GX (a b:List Int):B7 (Dg a b)=true:=FE fun _ _=>BK _
theorem Ux {a b:List Int}(h:a.length≤b.length):DU a (CD b 1000002)=Dg a b:=by
 unfold DU Dg
 refine Ry fun k hk=>?_
 unfold CD
 rw[Bf _ (by omega),Gu]
 unfold md
 omega
theorem Y3 {x y:Int}(hx:0≤x∧x<1000003)(hy:0≤y∧y<1000003):(wr (x+y)).tmod ((1000003:Nat):Int)=md (x+y):=by
 rw[Gv (by omega) (by omega)]
 exact Int.tmod_eq_emod_of_nonneg (by omega)
theorem Uz {n k:Nat}{T:List Int}(hT:T.length=n)(hk:k<n):(Cn k T (List.replicate n 0)).set k 0=Cn k T (List.replicate n 0):=by
 have h1:(Cn k T (List.replicate n 0)).length=n:=by rw[D4 _ _ _ (by simp[hT])];simp
 have h2:(Cn k T (List.replicate n 0)).getD k 0=0:=by rw[CU 0 (by simp[hT]) (A9 _) (by simpa using hk)];simp[hk]
 have h3:=EV (Cn k T (List.replicate n 0)) (r:=k) 0 (by omega)
 rw[h2]at h3
 exact h3
theorem UA {a b q:List Int}{k i:Nat}(hq:B7 q=true)(hb:B7 b=true):md (Of a b q k i-wr (q.getD i 0*b.getD (k-i) 0))=Of a b q k (i+1):=by
 have h1:=Ba hq i
 have h2:=Ba hb (k-i)
 have h:=Lf h1.1 h1.2 h2.1 h2.2
 rw[Gv (by omega) (by omega)]
 rfl
def Bs (N:Nat)(s:List Int):Prop:=s.length=N∧B7 s=true
def sA:Ar (List Int):=⟨BR,fun a f b=>Dg a (C7 f b),fun s=>decide (s.getD 0 0=0),[]⟩
theorem Qz (N:Nat):Ur sA (Bs N):=⟨fun _ _ h _=>⟨by rw[← h.1];exact DT _ _,El _ _⟩,fun _ _ _ h _ _=>⟨by rw[← h.1];exact GW _ _,GX _ _⟩⟩
theorem Y4:Qy nA sA Nm (fun x=>[x]) where
 q x y _ _:=by simp[nA,sA,BR,IN,Of]
 t x y w _ _ _:=by simp[nA,sA,Dg,C7,N9,EU]
 z x _:=by simp[nA,sA]
def GY (a:List (List (List Int)))(b:List (List Int)):List (List (List Int)):=EU a.length fun i=>a.getD i []++[b.getD i []]
def D5 (a:List (List (List Int)))(b:List (List Int)):Option (List (List (List Int))):=N1 sA a.length a.length 0 (GY a b)
def FF (a:List (List (List Int)))(b:List (List Int)):List (List Int):=LV a.length [] ((D5 a b).getD [])
def Cq (b:List Int):List (List Int):=b.map fun x=>[x]
theorem JH {a:List (List Int)}{b:List Int}(hS:Sq a.length a)(hb:b.length=a.length):GY (mm (fun x=>[x]) a) (Cq b)=mm (fun x=>[x]) (DS a b):=by
 have h1:(mm (fun x:Int=>[x]) a).length=a.length:=by simp[mm]
 unfold GY
 rw[h1]
 refine LU (n:=a.length) (by simp) (by simp[mm,DS]) fun r hr=>?_
 rw[Bf _ hr,EI,EI]
 unfold DS
 rw[Bf _ hr,List.map_append,Cq,B5 (d:=0) (by omega)]
 rfl
theorem Og {a:List (List Int)}{b:List Int}(hS:Sq a.length a)(hb:b.length=a.length)(hn:B7 b=true) :
  D5 (mm (fun x=>[x]) a) (Cq b)=(Iw a b).map (mm fun x=>[x]):=by
 unfold D5 Iw
 rw[JH hS hb,show(mm (fun x:Int=>[x]) a).length=a.length from by simp[mm]]
 exact Y4.jor Od a.length 0 _ (by omega) (by omega) (GB hS hn)
theorem RQ {a:List (List Int)}{b:List Int}(hS:Sq a.length a)(hb:b.length=a.length)(hn:B7 b=true)(hs:Iw a b≠none) :
  FF (mm (fun x=>[x]) a) (Cq b)=Cq (Ix a b):=by
 obtain⟨M,hM⟩:=Option.ne_none_iff_exists'.1 hs
 have hsh:=Sh.jor Od a.length 0 _ (by omega) (by omega) (GB hS hn) hM
 have hl:=hsh.len
 unfold FF Ix
 rw[Og hS hb hn,hM,show(mm (fun x:Int=>[x]) a).length=a.length from by simp[mm]]
 simp only[Option.map_some,Option.getD_some]
 unfold LV Cq
 refine FU (d:=[]) (k:=a.length) (fun r hr=>?_) (by simp[mm,hl]) (by simp[mm,hl])
 have e1:((mm (fun x:Int=>[x]) M).map fun r=>r.getD a.length []).getD r []=((mm (fun x:Int=>[x]) M).getD r []).getD a.length []:=by
  rw[B5 (d:=[]) (by simp[mm,hl,hr])]
 have e2:((M.map fun r=>r.getD a.length 0).map fun x:Int=>[x]).getD r []=[(M.getD r []).getD a.length 0]:=by
  rw[B5 (d:=0) (by simp[hl,hr]),B5 (d:=[]) (by omega)]
 rw[e1,e2,EI,B5 (d:=0) (by rw[(hsh.row r hr).len];omega)]
def pm:Nat→Nat→Nat→Nat→Nat
 |0,_,_,acc=>acc
 |f+1,b,e,acc=>pm f (b*b % 1000003) (e / 2) (if e % 2=1 then acc*b % 1000003 else acc)
theorem RR:∀(f b e acc:Nat),e<2 ^ f→pm f b e acc % 1000003=acc*b ^ e % 1000003
 |0,b,e,acc,h=>by
  have:e=0:=by simp at h;exact h
  subst this;simp[pm]
 |f+1,b,e,acc,h=>by
  unfold pm
  rw[RR f _ _ _ (by rw[Nat.pow_succ]at h;omega)]
  have e1:(b*b % 1000003) ^ (e / 2) % 1000003=(b*b) ^ (e / 2) % 1000003:=(Nat.pow_mod ..).symm
  have e2:(b*b) ^ (e / 2)=b ^ (2*(e / 2)):=by rw[Nat.pow_mul];congr 1;rw[Nat.pow_succ,Nat.pow_one]
  split
  ·rename_i ho
   rw[Nat.mul_mod,e1,← Nat.mul_mod,Nat.mul_mod (acc*b % 1000003),Nat.mod_mod,← Nat.mul_mod,e2,Nat.mul_assoc,← Nat.pow_succ']
   congr 3;omega
  ·rw[Nat.mul_mod,e1,← Nat.mul_mod,e2]
   congr 3;omega
theorem Td:∀a,a<1001→a=0∨pm 20 a 1000002 1=1:=by decide +kernel
theorem Oh {a e:Nat}(he:e=1000002)(h:0<a)(h':a<1001):a ^ e % 1000003=1:=by
 have h1:=(Td a h').resolve_left (by omega)
 have h2:∀e,e<2 ^ 20→pm 20 a e 1=1→a ^ e % 1000003=1:=fun e he h=>by
  have h3:=RR 20 a e 1 he
  rw[Nat.one_mul,h]at h3
  exact h3.symm
 exact h2 e (by subst he;decide) (by subst he;exact h1)
theorem Oi {x y:Int}(n:Nat)(h:md x=md y):md (x ^ n)=md (y ^ n):=by rw[← LQ,h,LQ]
theorem Oj (k:Nat):(-1:Int) ^ (2*k)=1:=by
 rw[Int.pow_mul]
 have:(-1:Int) ^ 2=1:=by decide
 rw[this,Int.one_pow]
theorem QA:∀(n a:Nat),a≤n→0<a→a<1000003→md ((a:Int) ^ 1000002)=1
 |0,a,h,h0,_=>by omega
 |n+1,a,h,h0,h1=>by
  by_cases hs:a<1001
  ·have:=Oh (e:=1000002) rfl h0 hs
   unfold md
   rw[← Int.natCast_pow]
   have e:((a ^ 1000002:Nat):Int) % 1000003=((a ^ 1000002 % 1000003:Nat):Int):=by omega
   rw[e,this];rfl
  ·have hq:1000003 / a<a:=by rw[Nat.div_lt_iff_lt_mul (by omega)];have:=Nat.mul_le_mul (show 1001≤a by omega) (show 1001≤a by omega);omega
   have hq0:0<1000003 / a:=Nat.div_pos (by omega) h0
   have hr:1000003 % a<a:=Nat.mod_lt _ h0
   have hr0:0<1000003 % a:=by
    rcases Nat.eq_zero_or_pos (1000003 % a)with hz|hz
    ·have:=Uo (Nat.dvd_of_mod_eq_zero hz) (by omega);omega
    ·exact hz
   have f1:=QA n (1000003 / a) (by omega) hq0 (by omega)
   have f2:=QA n (1000003 % a) (by omega) hr0 (by omega)
   have hdm:=Nat.div_add_mod 1000003 a
   have key:md (((1000003 / a:Nat):Int)*(a:Int))=md (-1*((1000003 % a:Nat):Int)):=by
    have e:((1000003 / a:Nat):Int)*(a:Int)=1000003+(-1*((1000003 % a:Nat):Int)):=by
     have:((a*(1000003 / a)+1000003 % a:Nat):Int)=1000003:=by rw[hdm];rfl
     rw[Int.natCast_add,Int.natCast_mul,Int.mul_comm]at this
     omega
    rw[e,Int.add_comm];exact Uc _
   have k2:=Oi 1000002 key
   rw[Int.mul_pow,Int.mul_pow,← Df,← Df (_ ^ _) (((1000003 % a:Nat):Int) ^ 1000002),f1,f2,show(1000002:Nat)=2*500001 from rfl,Oj]at k2
   rw[show(2*500001:Nat)=1000002 from rfl,Int.one_mul,Fd]at k2
   rw[k2];decide
theorem RS {a:Int}(h:0<a)(h':a<1000003):md (a*inv a)=1:=by
 obtain⟨x,rfl⟩:=Int.eq_ofNat_of_zero_le (show 0≤a by omega)
 unfold inv pw
 rw[if_neg (by omega),ET]
 have:(((1000001:Nat):Int)).toNat=1000001:=rfl
 rw[this,← Int.pow_succ']
 exact QA x x (A9 _) (by omega) (by omega)
def cv (f g:Nat→Int):Nat→Int
 |0=>f 0*g 0
 |k+1=>f 0*g (k+1)+cv (fun i=>f (i+1)) g k
theorem Px {f f' g g':Nat→Int}:∀ {k:Nat},(∀i,i≤k→f i=f' i)→(∀i,i≤k→g i=g' i)→cv f g k=cv f' g' k
 |0,hf,hg=>by unfold cv;rw[hf 0 (A9 _),hg 0 (A9 _)]
 |k+1,hf,hg=>by
  unfold cv
  rw[hf 0 (by omega),hg (k+1) (by omega),Px (k:=k) (fun i hi=>hf (i+1) (by omega)) (fun i hi=>hg i (by omega))]
theorem JI (f f' g:Nat→Int):∀k,cv (fun i=>f i+f' i) g k=cv f g k+cv f' g k
 |0=>by unfold cv;rw[Int.add_mul]
 |k+1=>by
  unfold cv
  rw[JI (fun i=>f (i+1)) (fun i=>f' (i+1)) g k,Int.add_mul]
  omega
theorem JJ (c:Int)(f g:Nat→Int):∀k,cv (fun i=>c*f i) g k=c*cv f g k
 |0=>by unfold cv;rw[Int.mul_assoc]
 |k+1=>by
  unfold cv
  rw[JJ c (fun i=>f (i+1)) g k,Int.mul_add,Int.mul_assoc]
theorem JK (f g g':Nat→Int):∀k,cv f (fun i=>g i+g' i) k=cv f g k+cv f g' k
 |0=>by unfold cv;rw[Int.mul_add]
 |k+1=>by
  unfold cv
  rw[JK (fun i=>f (i+1)) g g' k,Int.mul_add]
  omega
theorem Py (c:Int)(f g:Nat→Int):∀k,cv f (fun i=>c*g i) k=c*cv f g k
 |0=>by unfold cv;rw[← Int.mul_assoc,Int.mul_comm (f 0) c,Int.mul_assoc]
 |k+1=>by
  unfold cv
  rw[Py c (fun i=>f (i+1)) g k,Int.mul_add,← Int.mul_assoc,Int.mul_comm (f 0) c,Int.mul_assoc]
theorem RU (f g:Nat→Int):∀k,cv f g (k+1)=f (k+1)*g 0+cv f (fun i=>g (i+1)) k
 |0=>by
  show f 0*g 1+f 1*g 0=f 1*g 0+f 0*g 1
  omega
 |k+1=>by
  show f 0*g (k+2)+cv (fun i=>f (i+1)) g (k+1)=f (k+2)*g 0+(f 0*g (k+2)+cv (fun i=>f (i+1)) (fun i=>g (i+1)) k)
  rw[RU (fun i=>f (i+1)) g k]
  show f 0*g (k+2)+(f (k+2)*g 0+_)=_
  omega
theorem CG:∀(f g:Nat→Int)(k:Nat),cv f g k=cv g f k
 |f,g,0=>by unfold cv;rw[Int.mul_comm]
 |f,g,k+1=>by
  rw[RU g f k]
  show f 0*g (k+1)+cv (fun i=>f (i+1)) g k=_
  rw[CG (fun i=>f (i+1)) g k,Int.mul_comm]
theorem Fh:∀(f g h:Nat→Int)(k:Nat),cv (cv f g) h k=cv f (cv g h) k
 |f,g,h,0=>by unfold cv;unfold cv;rw[Int.mul_assoc]
 |f,g,h,k+1=>by
  show cv f g 0*h (k+1)+cv (fun i=>cv f g (i+1)) h k=f 0*cv g h (k+1)+cv (fun i=>f (i+1)) (cv g h) k
  have e:(fun i=>cv f g (i+1))=fun i=>f 0*g (i+1)+cv (fun i=>f (i+1)) g i:=rfl
  rw[e,JI,JJ,Fh (fun i=>f (i+1)) g h k]
  show f 0*g 0*h (k+1)+_=f 0*(g 0*h (k+1)+cv (fun i=>g (i+1)) h k)+_
  rw[Int.mul_add,Int.mul_assoc]
  omega
def sm (n:Nat)(f:Nat→Int):Int:=match n with
 |0=>0
 |n+1=>sm n f+f n
theorem Ch {f g:Nat→Int}:∀ {n:Nat},(∀i,i<n→f i=g i)→sm n f=sm n g
 |0,_=>rfl
 |n+1,h=>by unfold sm;rw[Ch (n:=n) fun i hi=>h i (by omega),h n (by omega)]
theorem QB (f g:Nat→Int):∀n,sm n (fun i=>f i+g i)=sm n f+sm n g
 |0=>rfl
 |n+1=>by unfold sm;rw[QB f g n];omega
theorem UB (c:Int)(f:Nat→Int):∀n,sm n (fun i=>c*f i)=c*sm n f
 |0=>by unfold sm;rw[Int.mul_zero]
 |n+1=>by unfold sm;rw[UB c f n,Int.mul_add]
theorem RV (f:Nat→Int):∀n,sm (n+1) f=f 0+sm n (fun i=>f (i+1))
 |0=>by unfold sm;unfold sm;omega
 |n+1=>by
  show sm (n+1) f+f (n+1)=f 0+(sm n (fun i=>f (i+1))+f (n+1))
  rw[RV f n];omega
theorem KV:∀(f g:Nat→Int)(k:Nat),cv f g k=sm (k+1) fun i=>f i*g (k-i)
 |f,g,0=>by unfold cv sm;unfold sm;simp
 |f,g,k+1=>by
  rw[RV]
  unfold cv
  rw[KV (fun i=>f (i+1)) g k]
  congr 1
  exact Ch fun i hi=>by rw[show k+1-(i+1)=k-i from by omega]
theorem LX {f g:Nat→Int}:∀ {n:Nat},(∀i,i<n→md (f i)=md (g i))→md (sm n f)=md (sm n g)
 |0,_=>rfl
 |n+1,h=>by
  unfold sm
  rw[← E6,LX (n:=n) fun i hi=>h i (by omega),h n (by omega),E6]
theorem fc {f f' g g':Nat→Int}{k:Nat}(hf:∀i,i≤k→md (f i)=md (f' i))(hg:∀i,i≤k→md (g i)=md (g' i)):md (cv f g k)=md (cv f' g' k):=by
 rw[KV,KV]
 exact LX fun i hi=>by rw[← Df,hf i (by omega),hg (k-i) (by omega),Df]
theorem UC (a b:List Int)(k:Nat):∀i,N9 a b k i=md (sm i fun j=>a.getD j 0*b.getD (k-j) 0)
 |0=>by unfold N9 sm;rfl
 |i+1=>by unfold N9 sm;rw[UC a b k i,Oa]
theorem Y5 {a b:List Int}{k:Nat}(hk:k<a.length):(C7 a b).getD k 0=md (cv (fun i=>a.getD i 0) (fun i=>b.getD i 0) k):=by
 unfold C7
 rw[Bf _ hk,UC,KV]
section
section
variable {α:Type} {R:Ar α} {n c p:Nat} {M:List (List α)}
theorem Pz {Z:Option (List (List α))}(h:N1 R n (n-c) c M=Z)(hc:c<n)(hp:Hc R n c M≠n):N1 R n (n-(c+1)) (c+1) (GU R n c (Hc R n c M) M)=Z:=by
 rw[← h,show n-c=(n-(c+1))+1 from by omega]
 conv=>rhs;unfold N1
 rw[if_neg hp]
theorem PA {Z:Option (List (List α))}(h:N1 R n (n-c) c M=Z)(hc:c<n)(hp:Hc R n c M=n):Z=none:=by
 rw[← h,show n-c=(n-(c+1))+1 from by omega]
 unfold N1
 rw[if_pos hp]
theorem RW {Z:Option (List (List α))}(h:N1 R n (n-c) c M=Z)(hc:n≤c):Z=some M:=by
 rw[← h,show n-c=0 from by omega];rfl
theorem Y6 {Z:Option (List (List α))}(h:N1 R n (n-c) c M=Z)(hc:c<n)(hz:Z≠none):Hc R n c M≠n:=fun hp=>hz (PA h hc hp)
theorem cA (R:Ar α)(n c:Nat)(M:List (List α))(hc:c<n):c≤Hc R n c M∧Hc R n c M≤n:=by
 have:=Ob (fun r=>R.z ((M.getD r []).getD c R.d)) (n-c) c
 unfold Hc
 omega
theorem LY {D:List (List α)}(hl:D.length=n){i:Nat}(hi:i<n)(hic:i≠c):(Cn i (Cc R n c D) D).set i (Gj R c (D.getD i []) (D.getD c []))=Cn (i+1) (Cc R n c D) D:=by
 unfold Cc
 rw[DD hl hi,if_neg hic]
theorem J4 {D:List (List α)}(hl:D.length=n){i:Nat}(hi:i<n)(hic:i=c):Cn (i+1) (Cc R n c D) D=Cn i (Cc R n c D) D:=by
 unfold Cc
 rw[DD hl hi,if_pos hic]
 subst hic
 have h1:(Cn i (EU n fun r=>if r=i then D.getD i []else Gj R i (D.getD r []) (D.getD i [])) D).length=n:=by rw[D4 _ _ _ (by simp[hl])];exact hl
 have h2:(Cn i (EU n fun r=>if r=i then D.getD i []else Gj R i (D.getD r []) (D.getD i [])) D).getD i []=D.getD i []:=CU [] (by simp[hl]) (A9 _) (by omega)
 have h3:=EV (Cn i (EU n fun r=>if r=i then D.getD i []else Gj R i (D.getD r []) (D.getD i [])) D) (r:=i) [] (by omega)
 rw[h2]at h3
 exact h3
theorem PB {D:List (List α)}(hl:D.length=n){i:Nat}(hi:i≤n)(hc:c<n):(Cn i (Cc R n c D) D).getD c []=D.getD c []:=by
 by_cases h:i≤c
 ·exact CU [] (by simp[Cc,hl]) h (by omega)
 ·rw[Qv [] (by omega) (by simp[Cc];omega),Ko hc,if_pos rfl]
theorem LZ {D:List (List α)}(hl:D.length=n){i r:Nat}(hi:i≤r)(hr:r<n):(Cn i (Cc R n c D) D).getD r []=D.getD r []:=CU [] (by simp[Cc,hl]) hi (by omega)
theorem Te {D:List (List α)}(hl:D.length=n)(i:Nat):(Cn i (Cc R n c D) D).length=n:=by rw[D4 _ _ _ (by simp[Cc,hl])];exact hl
theorem NL {V:α→Prop}{m:Nat}{D:List (List α)}(hA:Ur R V)(h:Sh V R.d n m D)(hc:c<n)(hcm:c<m){i r:Nat}(hi:i≤n)(hr:r<n):Gk V R.d m ((Cn i (Cc R n c D) D).getD r []):=by
 by_cases hx:r<i
 ·rw[Qv [] hx (by simp[Cc];omega)];exact(h.rows hA hc hcm).row r hr
 ·rw[LZ h.len (by omega) hr];exact h.row r hr
end
theorem UD (a:List (List Int))(b:List Int){i:Nat}(hi:i<a.length):(Cn i (DS a b) a).set i ((Cn i (DS a b) a).getD i []++[b.getD i 0])=Cn (i+1) (DS a b) a:=by
 unfold DS
 rw[CU [] (by simp) (A9 _) hi,DD rfl hi]
theorem Ok (a:List (List Int))(b:List Int){i:Nat}(hi:i<a.length):(Cn i (DS a b) a).getD i []=a.getD i []:=CU [] (by simp[DS]) (A9 _) hi
theorem UE (a:List (List Int))(b:List Int)(i:Nat):(Cn i (DS a b) a).length=a.length:=D4 _ _ _ (by simp[DS])
theorem Ol {a:List (List Int)}{b:List Int}{M:List (List Int)}(h:Iw a b=some M):Ix a b=M.map fun r=>r.getD a.length 0:=by
 unfold Ix LV;rw[h];rfl
theorem PC {n c i:Nat}{D:List (List Int)}(hl:D.length=n)(hi:i<n)(hc:c<n)(hic:i≠c) :
  (Cn i (Cc nA n c D) D).set i (NH ((Cn i (Cc nA n c D) D).getD i []) ((Cn i (Cc nA n c D) D).getD c []) (((Cn i (Cc nA n c D) D).getD i []).getD c 0))=Cn (i+1) (Cc nA n c D) D:=by
 rw[PB hl (by omega) hc,LZ hl (A9 _) hi]
 exact LY (R:=nA) hl hi hic
theorem jZ {c p:Nat}{M:List (List Int)}(hc:c<M.length)(hp:p<M.length):(Bl M c p []).set c (scl (M.getD p []) (inv ((M.getD p []).getD c 0)))=FW nA c p M:=by
 unfold FW
 rw[Lj hc hp];rfl
theorem M0 {a:List (List Int)}{b:List Int}(hS:Sq a.length a)(hb:B7 b=true)(h:Iw a b≠none):(Ix a b).length=a.length:=by
 obtain⟨M,hM⟩:=Option.ne_none_iff_exists'.1 h
 rw[Ol hM,List.length_map]
 exact(Sh.jor Od a.length 0 _ (by omega) (by omega) (GB hS hb) hM).len
theorem PD {a:List (List Int)}{b:List Int}(hS:Sq a.length a)(hb:B7 b=true)(h:Iw a b≠none):B7 (Ix a b)=true:=by
 obtain⟨M,hM⟩:=Option.ne_none_iff_exists'.1 h
 have hs:=Sh.jor Od a.length 0 _ (by omega) (by omega) (GB hS hb) hM
 rw[Ol hM]
 unfold B7
 rw[List.all_eq_true]
 intro x hx
 obtain⟨r,hr,rfl⟩:=List.mem_map.1 hx
 obtain⟨k,hk,rfl⟩:=List.getElem_of_mem hr
 have:=(hs.row k (by rw[← hs.len];exact hk)).val a.length (by omega)
 rw[show M.getD k []=M[k]from by simp[hk]]at this
 exact C3.2 this
end
section
theorem M3 (a:List (List (List Int)))(b:List (List Int)){i:Nat}(hi:i<a.length):(GY a b).getD i []=a.getD i []++[b.getD i []]:=Bf _ hi
theorem Tf {a:List (List (List Int))}{b:List (List Int)}(h:D5 a b=none):FF a b=[]:=by
 unfold FF;rw[h];rfl
theorem RY {a:List (List (List Int))}{b:List (List Int)}{M:List (List (List Int))}(h:D5 a b=some M):FF a b=M.map fun r=>r.getD a.length []:=by
 unfold FF;rw[h];rfl
theorem Gk.set {α:Type}{V:α→Prop}{d:α}{m k:Nat}{row:List α}{x:α}(h:Gk V d m row)(hx:V x):Gk V d m (row.set k x):=by
 refine⟨by rw[List.length_set];exact h.len,fun j hj=>?_⟩
 by_cases hk:k<row.length
 ·rw[Bz _ _ _ _ _ hk]
  split
  ·exact hx
  ·exact h.val j hj
 ·rw[List.set_eq_of_length_le (Nat.not_lt.1 hk)];exact h.val j hj
theorem Sh.put {α:Type}{V:α→Prop}{d:α}{n m r k:Nat}{M:List (List α)}{x:α}(h:Sh V d n m M)(hr:r<n)(hx:V x):Sh V d n m (M.set r ((M.getD r []).set k x)):=h.set hr ((h.row r hr).set hx)
section
variable {N n c k r:Nat} {X:List (List (List Int))}
def Kr (c k:Nat)(X:List (List (List Int))):List (List (List Int)):=X.set c (Cn k (Ee sA c (X.getD c [])) (X.getD c []))
theorem Tg (hc:c<X.length):Kr c 0 X=X:=by
 unfold Kr;rw[C9,EV _ _ hc]
theorem cB (h:Sh (Bs N) [] n (n+1) X)(hc:c<n)(hk:k<n+1):((Kr c k X).getD c []).getD k []=(X.getD c []).getD k []:=by
 have hl:=h.len
 have hr:=(h.row c hc).len
 unfold Kr
 rw[Bz _ _ _ _ _ (by omega),if_pos rfl,CU [] (by simp) (A9 _) (by omega)]
theorem Th (h:Sh (Bs N) [] n (n+1) X)(hc:c<n)(hk:k<n+1) :
  (Kr c k X).set c (((Kr c k X).getD c []).set k (BR (((Kr c k X).getD c []).getD k []) ((X.getD c []).getD c [])))=Kr c (k+1) X:=by
 have hl:=h.len
 have hr:=(h.row c hc).len
 rw[cB h hc hk]
 unfold Kr
 rw[Bz _ _ _ _ _ (by omega),if_pos rfl,List.set_set]
 congr 1
 have e:=FX (R:=sA) (c:=c) (row:=X.getD c []) (k:=k) (by omega)
 have e':BR ((X.getD c []).getD k []) ((X.getD c []).getD c [])=(Ee sA c (X.getD c [])).getD k []:=e.symm
 rw[e',Hk [] (by simp) (by omega)]
theorem Ti {M:List (List (List Int))}{p:Nat}(h:Sh (Bs N) [] n (n+1) (Bl M c p []))(hc:c<n)(hk:n+1≤k):Kr c k (Bl M c p [])=FW sA c p M:=by
 unfold Kr FW
 have:=(h.row c hc).len
 rw[CL (by simp) (by omega)]
def Iy (c r k:Nat)(X:List (List (List Int))):List (List (List Int)):=X.set r (Cn k (Gj sA c (X.getD r []) (X.getD c [])) (X.getD r []))
theorem Tj (hr:r<X.length):Iy c r 0 X=X:=by
 unfold Iy;rw[C9,EV _ _ hr]
theorem cC (hl:X.length=n)(hX:(X.getD r []).length=n+1)(hr:r<n)(hk:k<n+1):((Iy c r k X).getD r []).getD k []=(X.getD r []).getD k []:=by
 unfold Iy
 rw[Bz _ _ _ _ _ (by omega),if_pos rfl,CU [] (by simp) (A9 _) (by omega)]
theorem cD (hl:X.length=n)(hr:r<n)(hne:r≠c):(Iy c r k X).getD c []=X.getD c []:=by
 unfold Iy
 rw[Bz _ _ _ _ _ (by omega),if_neg (Ne.symm hne)]
theorem Tk (hl:X.length=n)(hX:(X.getD r []).length=n+1)(hr:r<n)(hk:k<n+1)(hne:r≠c) :
  (Iy c r k X).set r (((Iy c r k X).getD r []).set k (Dg (((Iy c r k X).getD r []).getD k []) (C7 ((X.getD r []).getD c []) (((Iy c r k X).getD c []).getD k []))))=Iy c r (k+1) X:=by
 rw[cC hl hX hr hk,cD hl hr hne]
 unfold Iy
 rw[Bz _ _ _ _ _ (by omega),if_pos rfl,List.set_set]
 congr 1
 have e:=FY (R:=sA) (c:=c) (row:=X.getD r []) (other:=X.getD c []) (k:=k) (by omega)
 have e':Dg ((X.getD r []).getD k []) (C7 ((X.getD r []).getD c []) ((X.getD c []).getD k []))=(Gj sA c (X.getD r []) (X.getD c [])).getD k []:=e.symm
 rw[e',Hk [] (by simp) (by omega)]
theorem Tl {D:List (List (List Int))}(hl:D.length=n)(hD:(D.getD r []).length=n+1)(hr:r<n)(hc:c<n)(hne:r≠c)(hk:n+1≤k):Iy c r k (Cn r (Cc sA n c D) D)=Cn (r+1) (Cc sA n c D) D:=by
 unfold Iy
 rw[PB hl (by omega) hc,LZ hl (A9 _) hr]
 have e:=CL (k:=k) (t:=Gj sA c (D.getD r []) (D.getD c [])) (z:=D.getD r []) (by simp) (by omega)
 rw[e,LY (R:=sA) hl hr hne]
end
end
theorem Ks {α β:Type}(h:α→β)(M:List (List α)):(mm h M).length=M.length:=by simp[mm]
theorem PE (b:List Int):(Cq b).length=b.length:=by simp[Cq]
theorem cG {α β:Type}(h:α→β)(M:List (List α))(r:Nat):((mm h M).getD r []).length=(M.getD r []).length:=by rw[EI,List.length_map]
theorem UF {n m:Nat}{M:List (List Int)}(h:Sh Nm 0 n m M):Sh (Bs 1) [] n m (mm (fun x=>[x]) M):=by
 refine⟨by rw[Ks];exact h.len,fun r hr=>⟨by rw[cG];exact(h.row r hr).len,fun k hk=>?_⟩⟩
 rw[EI,B5 (d:=0) (by rw[(h.row r hr).len];exact hk)]
 refine⟨rfl,?_⟩
 have:=(h.row r hr).val k hk
 show([_]:List Int).all J2=true
 simp only[List.all_cons,List.all_nil,Bool.and_true]
 exact C3.2 this
theorem PF (b:List Int){k:Nat}(hk:k<b.length):(Cq b).getD k []=[b.getD k 0]:=by
 unfold Cq;rw[B5 (d:=0) hk]
section
def EN (N:Nat)(f g:Nat→Int):Prop:=∀k,k<N→md (f k)=md (g k)
theorem EN.rfl' {N:Nat}(f:Nat→Int):EN N f f:=fun _ _=>rfl
theorem EN.symm {N:Nat}{f g:Nat→Int}(h:EN N f g):EN N g f:=fun k hk=>(h k hk).symm
theorem EN.trans {N:Nat}{f g h:Nat→Int}(h1:EN N f g)(h2:EN N g h):EN N f h:=fun k hk=>(h1 k hk).trans (h2 k hk)
theorem EN.cv {N:Nat}{f f' g g':Nat→Int}(hf:EN N f f')(hg:EN N g g'):EN N (cv f g) (Go.Proofs.YtnokbaiemimhjaaGreat.cv f' g'):=fun k hk=>fc (fun i hi=>hf i (by omega)) (fun i hi=>hg i (by omega))
theorem EN.sub {N:Nat}{f f' g g':Nat→Int}(hf:EN N f f')(hg:EN N g g'):EN N (fun k=>f k-g k) (fun k=>f' k-g' k):=fun k hk=>by rw[← Fm,hf k hk,hg k hk,Fm]
theorem EN.sm {N n:Nat}{F G:Nat→Nat→Int}(h:∀j,j<n→EN N (F j) (G j)):EN N (fun k=>sm n fun j=>F j k) (fun k=>Go.Proofs.YtnokbaiemimhjaaGreat.sm n fun j=>G j k):=fun k hk=>LX fun j hj=>h j hj k hk
def BN (s:List Int):Nat→Int:=fun i=>s.getD i 0
def PG:Nat→Int:=fun i=>if i=0 then 1 else 0
def J5:Nat→Int:=fun _=>0
theorem E0 (g:Nat→Int):∀k,cv J5 g k=0
 |0=>by unfold cv J5;rw[Int.zero_mul]
 |k+1=>by
  unfold cv
  show 0*g (k+1)+cv J5 g k=0
  rw[E0 g k,Int.zero_mul];rfl
theorem Om (g:Nat→Int):∀k,cv PG g k=g k
 |0=>by unfold cv PG;simp
 |k+1=>by
  unfold cv
  show PG 0*g (k+1)+cv J5 g k=g (k+1)
  rw[E0];simp[PG]
theorem QC (F:Nat→Nat→Int)(g:Nat→Int)(k:Nat):∀n,cv (fun i=>sm n fun j=>F j i) g k=sm n fun j=>cv (F j) g k
 |0=>E0 g k
 |n+1=>by
  show cv (fun i=>(sm n fun j=>F j i)+F n i) g k=(sm n fun j=>cv (F j) g k)+cv (F n) g k
  rw[JI,QC F g k n]
theorem cH (f:Nat→Int)(F:Nat→Nat→Int)(k n:Nat):cv f (fun i=>sm n fun j=>F j i) k=sm n fun j=>cv f (F j) k:=by
 rw[CG,QC]
 exact Ch fun j _=>CG _ _ _
theorem On (f f' g:Nat→Int)(k:Nat):cv (fun i=>f i-f' i) g k=cv f g k-cv f' g k:=by
 have e:(fun i=>f i-f' i)=fun i=>f i+(-1)*f' i:=funext fun i=>by omega
 rw[e,JI,JJ];omega
theorem cI (f g:Nat→Int)(n:Nat):sm n (fun i=>f i-g i)=sm n f-sm n g:=by
 have e:(fun i=>f i-g i)=fun i=>f i+(-1)*g i:=funext fun i=>by omega
 rw[e,QB,UB];omega
section ops
variable {N:Nat} {a b:List Int}
theorem QD (ha:Bs N a):EN N (BN (C7 a b)) (cv (BN a) (BN b)):=fun k hk=>by
 show md ((C7 a b).getD k 0)=_
 rw[Y5 (by rw[ha.1];exact hk),Fd];rfl
theorem Tm (ha:Bs N a):EN N (BN (Dg a b)) (fun k=>BN a k-BN b k):=fun k hk=>by
 show md ((Dg a b).getD k 0)=_
 unfold Dg
 rw[Bf _ (by rw[ha.1];exact hk),Fd];rfl
theorem UG (a b o:List Int)(k:Nat):∀i,md (Of a b o k i)=md (a.getD k 0-sm i fun j=>o.getD j 0*b.getD (k-j) 0)
 |0=>by unfold Of sm;rw[Int.sub_zero]
 |i+1=>by
  unfold Of sm
  rw[Fd,← Rw,UG a b o k i,Rw]
  congr 1;omega
theorem UH (ha:Bs N a)(hb:Bs N b)(hz:b.getD 0 0≠0):EN N (cv (BN (BR a b)) (BN b)) (BN a):=fun k hk=>by
 have hb0:=Ba hb.2 0
 have hi:=RS (a:=b.getD 0 0) (by omega) (by omega)
 rw[KV]
 show md (sm k _+BN (BR a b) k*BN b (k-k))=md (a.getD k 0)
 rw[Nat.sub_self]
 show md ((sm k fun i=>(BR a b).getD i 0*b.getD (k-i) 0)+(BR a b).getD k 0*b.getD 0 0)=_
 rw[JG (by rw[ha.1];exact hk),← Gu,ES]
 generalize hS:(sm k fun i=>(BR a b).getD i 0*b.getD (k-i) 0)=S
 have h1:=UG a b (BR a b) k k
 rw[hS]at h1
 rw[Int.mul_assoc,← Df,h1,Int.mul_comm (inv _),hi,Int.mul_one,Fd,Gu]
 congr 1;omega
theorem Hn {s t d:Nat→Int}(hd:∃e:Int,md (d 0*e)=1)(h:EN N (cv s d) (cv t d)):EN N s t:=by
 obtain⟨e,he⟩:=hd
 have key:∀m k,k≤m→k<N→md (s k)=md (t k):=by
  intro m
  induction m with
  |zero =>
   intro k hk hN
   have e0:k=0:=by omega
   subst e0
   have h0:=h 0 hN
   have h1:md (s 0*d 0)=md (t 0*d 0):=h0
   have h2:md (s 0*d 0*e)=md (t 0*d 0*e):=by rw[← ES,h1,ES]
   rw[Int.mul_assoc,Int.mul_assoc,← ET,he,← ET (t 0),he,Int.mul_one,Int.mul_one]at h2
   exact h2
  |succ m ih =>
   intro k hk hN
   by_cases hkm:k≤m
   ·exact ih k hkm hN
   ·have h0:=h k hN
    rw[KV,KV]at h0
    have h1:md ((sm k fun i=>s i*d (k-i))+s k*d (k-k))=md ((sm k fun i=>t i*d (k-i))+t k*d (k-k)):=h0
    have h2:md (sm k fun i=>s i*d (k-i))=md (sm k fun i=>t i*d (k-i)):=LX fun i hi=>by rw[← ES,ih i (by omega) (by omega),ES]
    rw[Nat.sub_self]at h1
    have h3:md (s k*d 0)=md (t k*d 0):=by
     have e1:s k*d 0=((sm k fun i=>s i*d (k-i))+s k*d 0)-(sm k fun i=>s i*d (k-i)):=by omega
     have e2:t k*d 0=((sm k fun i=>t i*d (k-i))+t k*d 0)-(sm k fun i=>t i*d (k-i)):=by omega
     rw[e1,e2,← Fm,h1,h2,Fm]
    have h4:md (s k*d 0*e)=md (t k*d 0*e):=by rw[← ES,h3,ES]
    rw[Int.mul_assoc,Int.mul_assoc,← ET,he,← ET (t k),he,Int.mul_one,Int.mul_one]at h4
    exact h4
 exact fun k hk=>key k k (A9 _) hk
theorem Oo (hb:Bs N b)(hz:b.getD 0 0≠0):∃e:Int,md (BN b 0*e)=1:=by
 have hb0:=Ba hb.2 0
 exact⟨inv (b.getD 0 0),RS (a:=b.getD 0 0) (by omega) (by omega)⟩
end ops
section sys
variable {N n c p:Nat} {v:Nat→Nat→Int}
def Dq (n:Nat)(v:Nat→Nat→Int)(row:List (List Int)):Nat→Int:=fun k=>sm n fun j=>cv (BN (row.getD j [])) (v j) k
def HU (N n:Nat)(v:Nat→Nat→Int)(row:List (List Int)):Prop:=EN N (Dq n v row) (BN (row.getD n []))
def Tn (N n:Nat)(v:Nat→Nat→Int)(M:List (List (List Int))):Prop:=∀r,r<n→HU N n v (M.getD r [])
theorem fd {row:List (List Int)}(h:Gk (Bs N) [] (n+1) row)(hc:c<n)(hz:(row.getD c []).getD 0 0≠0):HU N n v row↔HU N n v (Ee sA c row):=by
 have hd:=h.val c (by omega)
 have hg:∀j,j<n+1→(Ee sA c row).getD j []=BR (row.getD j []) (row.getD c []):=fun j hj=>FX (R:=sA) (by rw[h.len];exact hj)
 have hq:∀j,j<n+1→EN N (cv (BN ((Ee sA c row).getD j [])) (BN (row.getD c []))) (BN (row.getD j [])):=fun j hj=>by
  rw[hg j hj];exact UH (h.val j hj) hd hz
 have key:EN N (cv (Dq n v (Ee sA c row)) (BN (row.getD c []))) (Dq n v row):=by
  have e:cv (Dq n v (Ee sA c row)) (BN (row.getD c []))=fun k=>sm n fun j=>cv (cv (BN ((Ee sA c row).getD j [])) (BN (row.getD c []))) (v j) k:=by
   funext k
   unfold Dq
   rw[QC]
   refine Ch fun j _=>?_
   rw[Fh,Fh]
   exact Px (fun _ _=>rfl) fun i _=>CG _ _ i
  rw[e]
  exact EN.sm fun j hj=>(hq j (by omega)).cv (EN.rfl' _)
 have hn:=hq n (by omega)
 constructor
 ·intro hs
  exact Hn (Oo hd hz) (key.trans (EN.trans hs hn.symm))
 ·intro hs
  exact key.symm.trans (EN.trans (EN.cv hs (EN.rfl' _)) hn)
theorem RZ {row other:List (List Int)}(h:Gk (Bs N) [] (n+1) row)(ho:Gk (Bs N) [] (n+1) other)(hc:c<n)(hs:HU N n v other):HU N n v row↔HU N n v (Gj sA c row other):=by
 have hf:=h.val c (by omega)
 have hg:∀j,j<n+1→(Gj sA c row other).getD j []=Dg (row.getD j []) (C7 (row.getD c []) (other.getD j [])):=fun j hj=>FY (R:=sA) (by rw[h.len];exact hj)
 have ht:∀j,j<n+1→EN N (BN ((Gj sA c row other).getD j [])) (fun k=>BN (row.getD j []) k-cv (BN (row.getD c [])) (BN (other.getD j [])) k):=fun j hj=>by
  rw[hg j hj]
  exact(Tm (h.val j hj)).trans (EN.sub (EN.rfl' _) (QD hf))
 have key:EN N (Dq n v (Gj sA c row other)) (fun k=>Dq n v row k-cv (BN (row.getD c [])) (Dq n v other) k):=by
  have e:(fun k=>Dq n v row k-cv (BN (row.getD c [])) (Dq n v other) k)=fun k=>sm n fun j=>cv (fun i=>BN (row.getD j []) i-cv (BN (row.getD c [])) (BN (other.getD j [])) i) (v j) k:=by
   funext k
   unfold Dq
   rw[cH,← cI]
   refine Ch fun j _=>?_
   rw[On,Fh]
  rw[e]
  exact EN.sm fun j hj=>(ht j (by omega)).cv (EN.rfl' _)
 have hn:=ht n (by omega)
 have hco:EN N (cv (BN (row.getD c [])) (Dq n v other)) (cv (BN (row.getD c [])) (BN (other.getD n []))):=EN.cv (EN.rfl' _) hs
 constructor
 ·intro hr
  exact key.trans (EN.trans (EN.sub hr hco) hn.symm)
 ·intro hr k hk
  have h1:=(key.symm.trans (EN.trans hr hn)) k hk
  have h2:=hco k hk
  dsimp only at h1
  have e1:Dq n v row k=(Dq n v row k-cv (BN (row.getD c [])) (Dq n v other) k)+cv (BN (row.getD c [])) (Dq n v other) k:=by omega
  rw[e1,← E6,h1,h2,E6]
  congr 1;omega
theorem UI {M:List (List (List Int))}(h:Sh (Bs N) [] n (n+1) M)(hc:c<n)(hp:p<n)(hz:((M.getD p []).getD c []).getD 0 0≠0):Tn N n v M↔Tn N n v (GU sA n c p M):=by
 have hq:=fd (v:=v) (h.row p hp) hc hz
 have hqv:Gk (Bs N) [] (n+1) (Ee sA c (M.getD p [])):=(h.row p hp).q (Qz N) (by omega)
 constructor
 ·intro hs r hr
  rw[Ea h hc hp hr]
  have hc':=hq.1 (hs p hp)
  split
  ·exact hc'
  ·split
   ·exact(RZ (h.row c hc) hqv hc hc').1 (hs c hc)
   ·exact(RZ (h.row r hr) hqv hc hc').1 (hs r hr)
 ·intro hs r hr
  have hc':HU N n v (Ee sA c (M.getD p [])):=by
   have:=hs c hc
   rwa [Ea h hc hp hc,if_pos rfl]at this
  have hp':=hq.2 hc'
  by_cases hrp:r=p
  ·rw[hrp];exact hp'
  ·by_cases hrc:r=c
   ·have hpc:p≠c:=fun e=>hrp (hrc.trans e.symm)
    have:=hs p hp
    rw[Ea h hc hp hp,if_neg hpc,if_pos rfl]at this
    rw[hrc]
    exact(RZ (h.row c hc) hqv hc hc').2 this
   ·have:=hs r hr
    rw[Ea h hc hp hr,if_neg hrc,if_neg hrp]at this
    exact(RZ (h.row r hr) hqv hc hc').2 this
def GZ (r j:Nat):Nat→Int:=if r=j then PG else J5
def fe (N n c:Nat)(M:List (List (List Int))):Prop:=∀r,r<n→∀j,j<c→EN N (BN ((M.getD r []).getD j [])) (GZ r j)
theorem UJ {M:List (List (List Int))}(h:Sh (Bs N) [] n (n+1) M)(hI:fe N n c M)(hc:c<n)(hp:p<n)(hcp:c≤p)(hz:((M.getD p []).getD c []).getD 0 0≠0):fe N n (c+1) (GU sA n c p M):=by
 have hpr:=h.row p hp
 have hd:=hpr.val c (by omega)
 have hu:=Oo hd hz
 have hg:∀j,j<n+1→(Ee sA c (M.getD p [])).getD j []=BR ((M.getD p []).getD j []) ((M.getD p []).getD c []):=fun j hj=>FX (R:=sA) (by rw[hpr.len];exact hj)
 have hq:∀j,j<n+1→EN N (cv (BN ((Ee sA c (M.getD p [])).getD j [])) (BN ((M.getD p []).getD c []))) (BN ((M.getD p []).getD j [])):=fun j hj=>by
  rw[hg j hj];exact UH (hpr.val j hj) hd hz
 have hrow:∀j,j<c+1→EN N (BN ((Ee sA c (M.getD p [])).getD j [])) (GZ c j):=by
  intro j hj
  by_cases e:c=j
  ·subst e
   unfold GZ;rw[if_pos rfl]
   exact Hn hu ((hq c (by omega)).trans fun k _=>by rw[Om])
  ·unfold GZ;rw[if_neg e]
   have h0:=hI p hp j (by omega)
   unfold GZ at h0;rw[if_neg (by omega)]at h0
   exact Hn hu ((hq j (by omega)).trans (h0.trans fun k _=>by rw[E0];rfl))
 intro r hr j hj
 rw[Ea h hc hp hr]
 by_cases hrc:r=c
 ·rw[if_pos hrc,hrc];exact hrow j hj
 ·rw[if_neg hrc]
  have gen:∀X:List (List Int),Gk (Bs N) [] (n+1) X→(j<c→EN N (BN (X.getD j [])) (GZ r j))→EN N (BN ((Gj sA c X (Ee sA c (M.getD p []))).getD j [])) (GZ r j):=by
   intro X hX hXj
   have e:=FY (R:=sA) (c:=c) (row:=X) (other:=Ee sA c (M.getD p [])) (k:=j) (by rw[hX.len];omega)
   have e':(Gj sA c X (Ee sA c (M.getD p []))).getD j []=Dg (X.getD j []) (C7 (X.getD c []) ((Ee sA c (M.getD p [])).getD j [])):=e
   rw[e']
   have h1:=(Tm (b:=C7 (X.getD c []) ((Ee sA c (M.getD p [])).getD j [])) (hX.val j (by omega))).trans (EN.sub (EN.rfl' _) (QD (b:=(Ee sA c (M.getD p [])).getD j []) (hX.val c (by omega))))
   have h2:=h1.trans (EN.sub (EN.rfl' _) (EN.cv (EN.rfl' _) (hrow j hj)))
   by_cases hjc:j=c
   ·subst hjc
    refine h2.trans fun k hk=>?_
    unfold GZ
    rw[if_pos rfl,if_neg hrc]
    have:cv (BN (X.getD j [])) PG k=BN (X.getD j []) k:=by rw[CG,Om]
    dsimp only
    rw[this,Int.sub_self];rfl
   ·refine(h2.trans fun k hk=>?_).trans (hXj (by omega))
    unfold GZ
    rw[if_neg (Ne.symm hjc)]
    have:cv (BN (X.getD c [])) J5 k=0:=by rw[CG,E0]
    rw[this,Int.sub_zero]
  split
  ·rename_i hrp
   refine gen _ (h.row c hc) fun hjc=>?_
   have h0:=hI c hc j hjc
   unfold GZ at h0 ⊢
   rw[if_neg (by omega)]at h0
   rw[if_neg (by omega)];exact h0
  ·exact gen _ (h.row r hr) fun hjc=>hI r hr j hjc
theorem S0:∀(l c:Nat)(M:List (List (List Int))),c+l=n→Sh (Bs N) [] n (n+1) M→fe N n c M→∀ {M':List (List (List Int))},N1 sA n l c M=some M'→(fe N n n M'∧Sh (Bs N) [] n (n+1) M'∧(Tn N n v M↔Tn N n v M'))
 |0,c,M,hl,h,hI,M',e=>by
  cases e
  have:c=n:=by omega
  subst this
  exact⟨hI,h,Iff.rfl⟩
 |l+1,c,M,hl,h,hI,M',e=>by
  unfold N1 at e
  split at e
  ·cases e
  ·rename_i hp
   obtain⟨h1,h2,h3⟩:=Kp sA hp (by omega)
   have hz:((M.getD (Hc sA n c M) []).getD c []).getD 0 0≠0:=by simpa [sA]using h3
   obtain⟨q1,q2,q3⟩:=S0 l (c+1) _ (by omega) (h.step (Qz N) (by omega) h2 (by omega)) (UJ h hI (by omega) h2 h1 hz) e
   exact⟨q1,q2,(UI h (by omega) h2 hz).trans q3⟩
theorem JL (r:Nat)(g:Nat→Int):∀m,(sm m fun j=>if r=j then g j else 0)=if r<m then g r else 0
 |0=>by unfold sm;simp
 |m+1=>by
  unfold sm
  rw[JL r g m]
  by_cases h1:r<m
  ·rw[if_pos h1,if_neg (by omega),if_pos (by omega)];omega
  ·by_cases h2:r=m
   ·subst h2;rw[if_neg h1,if_pos rfl,if_pos (by omega)];omega
   ·rw[if_neg h1,if_neg h2,if_neg (by omega)];rfl
theorem Y7 {M:List (List (List Int))}(hI:fe N n n M):Tn N n v M↔∀r,r<n→EN N (v r) (BN ((M.getD r []).getD n [])):=by
 have key:∀r,r<n→EN N (Dq n v (M.getD r [])) (v r):=by
  intro r hr
  have h1:EN N (Dq n v (M.getD r [])) (fun k=>sm n fun j=>cv (GZ r j) (v j) k):=EN.sm fun j hj=>(hI r hr j hj).cv (EN.rfl' _)
  refine h1.trans fun k hk=>?_
  have e:(sm n fun j=>cv (GZ r j) (v j) k)=sm n fun j=>if r=j then v j k else 0:=Ch fun j _=>by
   unfold GZ
   split
   ·rw[Om]
   ·rw[E0]
  dsimp only
  rw[e,JL r (fun j=>v j k) n,if_pos hr]
 constructor
 ·exact fun hs r hr=>(key r hr).symm.trans (hs r hr)
 ·exact fun hs r hr=>(key r hr).trans (hs r hr)
theorem M4 {a:List (List (List Int))}{b:List (List Int)}(hA:Sh (Bs N) [] a.length (a.length+1) (GY a b))(hs:D5 a b≠none) :
  Tn N a.length v (GY a b)↔∀r,r<a.length→EN N (v r) (BN ((FF a b).getD r [])):=by
 obtain⟨M,hM⟩:=Option.ne_none_iff_exists'.1 hs
 obtain⟨q1,q2,q3⟩:=S0 (v:=v) a.length 0 _ (by omega) hA (fun r hr j hj=>by omega) hM
 rw[q3,Y7 q1,show FF a b=LV a.length [] M from by unfold FF;rw[hM];rfl]
 have hl:=q2.len
 have e:∀r,r<a.length→(LV a.length [] M).getD r []=(M.getD r []).getD a.length []:=fun r hr=>by
  unfold LV
  rw[B5 (d:=[]) (by omega)]
 constructor
 ·exact fun h r hr=>by rw[e r hr];exact h r hr
 ·exact fun h r hr=>by have:=h r hr;rwa [e r hr]at this
end sys
theorem PH {a:List (List Int)}{b:List Int}(hS:Sq a.length a)(hl:b.length=a.length)(hb:B7 b=true)(hs:Iw a b≠none){r:Nat}(hr:r<a.length) :
  md (sm a.length fun j=>(a.getD r []).getD j 0*(Ix a b).getD j 0)=b.getD r 0:=by
 have hA:Sh (Bs 1) [] (mm (fun x:Int=>[x]) a).length ((mm (fun x:Int=>[x]) a).length+1) (GY (mm (fun x=>[x]) a) (Cq b)):=by
  rw[JH hS hl,Ks];exact UF (GB hS hb)
 have hj:D5 (mm (fun x=>[x]) a) (Cq b)≠none:=by
  rw[Og hS hl hb]
  obtain⟨M,hM⟩:=Option.ne_none_iff_exists'.1 hs
  rw[hM];simp
 have h:=(M4 (v:=fun j=>BN ((FF (mm (fun x=>[x]) a) (Cq b)).getD j [])) hA hj).2 (fun r hr=>EN.rfl' _)
 rw[Ks]at h
 have h0:=h r hr 0 (by omega)
 rw[RQ hS hl hb hs]at h0
 have hln:=M0 hS hb hs
 unfold Dq at h0
 rw[JH hS hl,EI]at h0
 have hrow:=(GB hS hb).row r hr
 have hrl:=hrow.len
 have e1:(sm a.length fun j=>cv (BN ((((DS a b).getD r []).map fun x:Int=>[x]).getD j [])) (BN ((Cq (Ix a b)).getD j [])) 0)=sm a.length fun j=>(a.getD r []).getD j 0*(Ix a b).getD j 0:=by
  refine Ch fun j hj'=>?_
  rw[B5 (d:=0) (by omega),PF _ (by omega),← Oe (b:=b) hS r (Nat.zero_le _) hr j hj']
  rfl
 have e2:BN ((((DS a b).getD r []).map fun x:Int=>[x]).getD a.length []) 0=b.getD r 0:=by
  rw[B5 (d:=0) (by omega)]
  unfold DS
  rw[Bf _ hr,GT (by rw[hS.row r hr];omega),hS.row r hr,Nat.sub_self]
  rfl
 rw[e1,e2]at h0
 rw[h0]
 have:=Ba hb r
 exact KU this.1 this.2
end
def uN (n k:Nat):List Int:=(List.replicate n 0).set k 1
section
theorem DV {α:Type}{l:List α}{j:Nat}{d:α}(h:j<l.length):l.getD j d=l[j]:=by simp[h]
structure HV (a:List (List (List Int)))(b:List (List Int))(N:Nat):Prop where
 n6:a.length≤6
 bl:b.length=a.length
 row:∀r,r<a.length→(a.getD r []).length=a.length
 ser:∀r j,r<a.length→j<a.length→Bs N ((a.getD r []).getD j [])
 bser:∀r,r<a.length→Bs N (b.getD r [])
 n1:1≤N
 n13:N≤13
theorem HV.sh {a:List (List (List Int))}{b:List (List Int)}{N:Nat}(h:HV a b N):Sh (Bs N) [] a.length (a.length+1) (GY a b):=by
 refine⟨by simp[GY],fun r hr=>?_⟩
 unfold GY
 rw[Bf _ hr]
 have hl:=h.row r hr
 refine⟨by rw[List.length_append,hl];rfl,fun k hk=>?_⟩
 by_cases e:k<a.length
 ·rw[JE (by omega)];exact h.ser r k hr e
 ·rw[GT (by omega),show k-(a.getD r []).length=0 from by omega];exact h.bser r hr
def QE (y:List (List Int)):List Int:=y.map fun s=>s.getD 0 0
def JM (a:List (List (List Int))):List (List Int):=a.map QE
theorem Y8 {N:Nat}(hN:1≤N):Qy sA nA (Bs N) (fun s=>s.getD 0 0) where
 q x y hx _:=by
  show(BR x y).getD 0 0=md (x.getD 0 0*inv (y.getD 0 0))
  rw[JG (by rw[hx.1];omega)];rfl
 t x y w hx hy _:=by
  show(Dg x (C7 y w)).getD 0 0=md (x.getD 0 0-md (y.getD 0 0*w.getD 0 0))
  unfold Dg
  rw[Bf _ (by rw[hx.1];omega)]
  unfold C7
  rw[Bf _ (by rw[hy.1];omega)]
  show md (x.getD 0 0-md (0+y.getD 0 0*w.getD 0 0))=_
  rw[Int.zero_add]
 z x _:=rfl
section
variable {a:List (List (List Int))} {b:List (List Int)} {N:Nat}
theorem Oq (y:List (List Int)):(QE y).length=y.length:=by simp[QE]
theorem En (a:List (List (List Int))):(JM a).length=a.length:=by simp[JM]
theorem H0 (a:List (List (List Int)))(r:Nat):(JM a).getD r []=QE (a.getD r []):=EI (h:=fun s:List Int=>s.getD 0 0) (M:=a) r
theorem HV.sq (h:HV a b N):Sq a.length (JM a):=by
 have num:∀r,B7 (QE (a.getD r []))=true:=by
  intro r
  by_cases hr:r<a.length
  ·unfold B7 QE
   rw[List.all_eq_true]
   intro x hx
   obtain⟨s,hs,rfl⟩:=List.mem_map.1 hx
   obtain⟨j,hj,rfl⟩:=List.getElem_of_mem hs
   have h1:=h.ser r j hr (by rw[← h.row r hr];exact hj)
   rw[DV hj]at h1
   exact C3.2 (Ba h1.2 0)
  ·rw[show a.getD r []=[]from by simp[Nat.not_lt.1 hr]];rfl
 exact⟨En a,fun r hr=>by rw[H0,Oq];exact h.row r hr,fun r=>by rw[H0];exact num r⟩
theorem HV.sq' (h:HV a b N):Sq (JM a).length (JM a):=by rw[En];exact h.sq
theorem HV.bnum (h:HV a b N):B7 (QE b)=true:=by
 unfold B7 QE
 rw[List.all_eq_true]
 intro x hx
 obtain⟨s,hs,rfl⟩:=List.mem_map.1 hx
 obtain⟨j,hj,rfl⟩:=List.getElem_of_mem hs
 have h1:=h.bser j (by rw[← h.bl];exact hj)
 rw[show b.getD j []=b[j]from by simp[hj]]at h1
 exact C3.2 (Ba h1.2 0)
theorem Y9 (h:HV a b N):mm (fun s:List Int=>s.getD 0 0) (GY a b)=DS (JM a) (QE b):=by
 refine LU (n:=a.length) (by rw[Ks];simp[GY]) (by simp[DS,En]) fun r hr=>?_
 rw[EI]
 unfold GY DS
 rw[Bf _ hr,Bf _ (by rw[En];exact hr),List.map_append,H0]
 congr 1
 have hb:=h.bl
 show [(b.getD r []).getD 0 0]=[(QE b).getD r 0]
 unfold QE
 rw[B5 (d:=[]) (by omega)]
theorem HV.jor (h:HV a b N):D5 a b=none↔Ed (JM a)=0:=by
 rw[JF (b:=QE b) h.sq' h.bnum]
 have e:=(Y8 h.n1).jor (Qz N) a.length 0 (GY a b) (by omega) (by omega) h.sh
 rw[Y9 h]at e
 unfold Iw
 rw[En,e]
 unfold D5
 simp
theorem PI (h:HV a b N)(hs:D5 a b≠none):(FF a b).length=a.length∧∀r,r<a.length→Bs N ((FF a b).getD r []):=by
 obtain⟨M,hM⟩:=Option.ne_none_iff_exists'.1 hs
 have hsh:=Sh.jor (Qz N) a.length 0 _ (by omega) (by omega) h.sh hM
 have hl:=hsh.len
 rw[RY hM]
 refine⟨by simp[hl],fun r hr=>?_⟩
 rw[B5 (d:=[]) (by omega)]
 exact(hsh.row r hr).val a.length (by omega)
end
theorem UK {a:List (List (List Int))}{b:List (List Int)}{N:Nat}(h:HV a b N):(D5 a b).isSome = !decide (Ed (JM a)=0):=by
 have hj:=h.jor
 by_cases hd:Ed (JM a)=0
 ·rw[hj.2 hd];simp[hd]
 ·obtain⟨M,hM⟩:=Option.ne_none_iff_exists'.1 (fun hn=>hd (hj.1 hn))
  rw[hM];simp[hd]
end
abbrev Sr:=List Int
def cst (n:Nat)(x:Int):Sr:=(List.replicate n 0).set 0 x
inductive Rs (α:Type) where
 |ok (x:α) (s:Nat)
 |err (c:Int)
structure Ca where
 one:Nat→Nat→List Sr→Nat→Rs Sr
 all:Nat→List Sr→Nat→Rs (List Sr)
def Rs.bind {α β:Type}(r:Rs α)(f:α→Nat→Rs β):Rs β:=match r with
 |.ok x s=>f x s
 |.err c=>.err c
theorem Rs.bind_ok {α β:Type}(x:α)(s:Nat)(f:α→Nat→Rs β):(Rs.ok x s).bind f=f x s:=rfl
theorem Rs.bind_err {α β:Type}(c:Int)(f:α→Nat→Rs β):(Rs.err c:Rs α).bind f=.err c:=rfl
theorem Rs.bind_assoc {α β γ:Type}(r:Rs α)(f:α→Nat→Rs β)(h:β→Nat→Rs γ):(r.bind f).bind h=r.bind fun x s=>(f x s).bind h:=by cases r <;> rfl
def Lk (f:List Sr→Nat→Rs (List Sr)):Nat→List Sr→Nat→Rs (List Sr)
 |0,a,s=>.ok a s
 |k+1,a,s=>(Lk f k a s).bind f
def Ll (k:Int)(xs:List Sr)(t:Nat):Rs Sr :=
 if k=3 then .ok (DU (xs.getD 0 []) (xs.getD 1 [])) t
 else if k=4 then .ok (Dg (xs.getD 0 []) (xs.getD 1 [])) t
 else if k=5 then .ok (C7 (xs.getD 0 []) (xs.getD 1 [])) t
 else if k=7 then .ok (CD (xs.getD 0 []) 1000002) t
 else if (xs.getD 1 []).getD 0 0=0 then .err 6 else .ok (BR (xs.getD 0 []) (xs.getD 1 [])) t
mutual
def Eb (n:Nat)(C:Ca):Ex→List Sr→Nat→Rs Sr
 |.mk k num pick cnt l,env,s =>
  if 3000≤s then .err 7
  else if k=1 then .ok (cst n num) (s+1)
  else if k=2 then .ok (env.getD num.toNat []) (s+1)
  else if k=8 then(IO n C l 0 env (s+1)).bind fun x t=>if x.getD 0 0=0 then IO n C l 1 env t else IO n C l 2 env t
  else if k=9 then(IO n C l 0 env (s+1)).bind fun x t=>IO n C l 1 (env++[x]) t
  else(E7 n C l env (s+1)).bind fun xs t =>
   if k=10 then C.one num.toNat pick.toNat xs t
   else if k=11 then(Lk (C.all num.toNat) cnt.toNat xs t).bind fun ys u=>.ok (ys.getD pick.toNat []) u
   else Ll k xs t
def IO (n:Nat)(C:Ca):List Ex→Nat→List Sr→Nat→Rs Sr
 |[],_,_,_=>.err 0
 |e::_,0,env,s=>Eb n C e env s
 |_::l,j+1,env,s=>IO n C l j env s
def E7 (n:Nat)(C:Ca):List Ex→List Sr→Nat→Rs (List Sr)
 |[],_,s=>.ok [] s
 |e::l,env,s=>(Eb n C e env s).bind fun x t=>(E7 n C l env t).bind fun xs u=>.ok (x::xs) u
end
theorem DM (n:Nat)(C:Ca)(env:List Sr)(s:Nat):∀(l:List Ex)(j:Nat),j<l.length→IO n C l j env s=Eb n C (l.getD j Ex.zero) env s
 |[],j,h=>by simp at h
 |e::l,0,_=>by rw[IO];rfl
 |e::l,j+1,h=>by rw[IO,DM n C env s l j (by simpa using h)];simp
theorem PJ (n:Nat)(C:Ca)(env:List Sr)(e:Ex):∀(l:List Ex)(s:Nat),E7 n C (l++[e]) env s=(E7 n C l env s).bind fun xs t=>(Eb n C e env t).bind fun x u=>.ok (xs++[x]) u
 |[],s=>by
  rw[List.nil_append,E7,E7]
  simp only[Rs.bind_ok]
  cases Eb n C e env s <;> simp only[Rs.bind_ok,Rs.bind_err,E7] <;> rfl
 |a::l,s=>by
  rw[List.cons_append,E7,E7]
  cases Eb n C a env s with
  |err c=>rfl
  |ok x t =>
   simp only[Rs.bind_ok]
   rw[PJ n C env e l t]
   simp only[Rs.bind_assoc]
   cases E7 n C l env t with
   |err c=>rfl
   |ok xs u =>
    simp only[Rs.bind_ok]
    cases Eb n C e env u <;> rfl
theorem UL {n:Nat}{C:Ca}{env:List Sr}{s:Nat}{l:List Ex}{k:Nat}(hk:k<l.length):E7 n C (l.take (k+1)) env s=(E7 n C (l.take k) env s).bind fun xs t=>(Eb n C (l.getD k Ex.zero) env t).bind fun x u=>.ok (xs++[x]) u:=by
 rw[List.take_succ_eq_append_getElem hk,PJ]
 simp[hk]
theorem Fq (n:Nat)(C:Ca)(e:Ex)(env:List Sr)(s:Nat):Eb n C e env s =
  if 3000≤s then .err 7
  else if e.kind=1 then .ok (cst n e.num) (s+1)
  else if e.kind=2 then .ok (env.getD e.num.toNat []) (s+1)
  else if e.kind=8 then(IO n C e.kids 0 env (s+1)).bind fun x t=>if x.getD 0 0=0 then IO n C e.kids 1 env t else IO n C e.kids 2 env t
  else if e.kind=9 then(IO n C e.kids 0 env (s+1)).bind fun x t=>IO n C e.kids 1 (env++[x]) t
  else(E7 n C e.kids env (s+1)).bind fun xs t =>
   if e.kind=10 then C.one e.num.toNat e.pick.toNat xs t
   else if e.kind=11 then(Lk (C.all e.num.toNat) e.count.toNat xs t).bind fun ys u=>.ok (ys.getD e.pick.toNat []) u
   else Ll e.kind xs t:=by cases e;rw[Eb];rfl
def H1 (p:List Fn)(n:Nat):Nat→Ca
 |0=>⟨fun _ _ _ _=>.err 0,fun _ _ _=>.err 0⟩
 |k+1=>⟨fun f j a s=>if f=k then Eb n (H1 p n k) ((p.getD k Fn.zero).outs.getD j Ex.zero) a s else(H1 p n k).one f j a s,
   fun f a s=>if f=k then E7 n (H1 p n k) (p.getD k Fn.zero).outs a s else(H1 p n k).all f a s⟩
theorem S3 {p:List Fn}{n f j:Nat}{a:List Sr}{s:Nat}:∀ {F:Nat},f<F→(H1 p n F).one f j a s=Eb n (H1 p n f) ((p.getD f Fn.zero).outs.getD j Ex.zero) a s
 |0,h=>by omega
 |F+1,h=>by
  show(if f=F then _ else _)=_
  split
  ·rename_i e;rw[e]
  ·exact S3 (by omega)
theorem JN {p:List Fn}{n f:Nat}{a:List Sr}{s:Nat}:∀ {F:Nat},f<F→(H1 p n F).all f a s=E7 n (H1 p n f) (p.getD f Fn.zero).outs a s
 |0,h=>by omega
 |F+1,h=>by
  show(if f=F then _ else _)=_
  split
  ·rename_i e;rw[e]
  ·exact JN (by omega)
def ev (p:List Fn)(n f:Nat)(a:List Sr):Rs (List Sr):=E7 n (H1 p n f) (p.getD f Fn.zero).outs a 0
def go {α:Type}(c:Int)(r:Rs α):Rs α:=if c=0 then r else .err c
theorem CV {α:Type}(r:Rs α):go 0 r=r:=rfl
theorem Dv {α:Type}{c:Int}(h:c≠0)(r:Rs α):go c r=.err c:=if_neg h
def Bt (n:Nat)(env:List Sr):Prop:=∀k,k<env.length→Bs n (env.getD k [])
def AT {α:Type}(r:Rs α)(x:α)(s:Nat)(c:Int):Prop:=match r with
 |.ok y t=>x=y∧s=t∧c=0
 |.err d=>c=d∧d≠0
theorem AT.ok {α:Type}{r:Rs α}{x:α}{s:Nat}(h:AT r x s 0):r=.ok x s:=by
 cases r with
 |ok y t=>obtain⟨rfl,rfl,_⟩:=h;rfl
 |err d=>exact absurd h.1.symm h.2
theorem AT.err {α:Type}{r:Rs α}{x:α}{s:Nat}{c:Int}(h:AT r x s c)(hc:c≠0):r=.err c:=by
 cases r with
 |ok y t=>exact absurd h.2.2 hc
 |err d=>rw[h.1]
theorem AT.mk_ok {α:Type}{r:Rs α}{x:α}{s:Nat}(h:r=.ok x s):AT r x s 0:=by subst h;exact⟨rfl,rfl,rfl⟩
theorem AT.mk_err {α:Type}{r:Rs α}{x:α}{s:Nat}{c:Int}(h:r=.err c)(hc:c≠0):AT r x s c:=by subst h;exact⟨rfl,hc⟩
theorem AT.bindE {α β:Type}{r:Rs α}{x:α}{s:Nat}{c:Int}(h:AT r x s c)(hc:c≠0){f:α→Nat→Rs β}:r.bind f=.err c:=by rw[h.err hc];rfl
theorem AT.bindO {α β:Type}{r:Rs α}{x:α}{s:Nat}(h:AT r x s 0){f:α→Nat→Rs β}:r.bind f=f x s:=by rw[h.ok];rfl
theorem Ho (n:Nat)(x:Int):(cst n x).length=n:=by simp[cst]
theorem H2 (n:Nat):B7 (List.replicate n 0)=true:=by
 unfold B7
 rw[List.all_eq_true]
 intro y hy
 rw[List.eq_of_mem_replicate hy];decide
theorem DE {n:Nat}{x:Int}(h:J2 x=true):Bs n (cst n x):=by
 refine⟨Ho n x,?_⟩
 unfold cst B7
 rw[List.all_eq_true]
 intro y hy
 rcases List.mem_or_eq_of_mem_set hy with hy|rfl
 ·rw[List.eq_of_mem_replicate hy];decide
 ·exact h
theorem Bt.snoc {n:Nat}{env:List Sr}{x:Sr}(h:Bt n env)(hx:Bs n x):Bt n (env++[x]):=by
 intro k hk
 rw[List.length_append,List.length_singleton]at hk
 by_cases e:k<env.length
 ·rw[Jw e];exact h k e
 ·have:k=env.length:=by omega
  rw[Jy this];exact hx
section
structure Iz (p:List Fn):Prop where
 par:∀k,k<p.length→0≤(p.getD k Fn.zero).params∧(p.getD k Fn.zero).params≤12
 outs:∀k,k<p.length→1≤(p.getD k Fn.zero).outs.length∧(p.getD k Fn.zero).outs.length≤12
 deep:∀k,k<p.length→∀j,j<(p.getD k Fn.zero).outs.length→((p.getD k Fn.zero).outs.getD j Ex.zero).deep≤60
 wf:∀k,k<p.length→∀j,j<(p.getD k Fn.zero).outs.length→wf p ((k:Nat):Int) ((p.getD k Fn.zero).outs.getD j Ex.zero) (p.getD k Fn.zero).params=true
theorem CH {x a b:Int}:Hm x a b=true↔a≤x∧x≤b:=by unfold Hm;simp
theorem Dm {p:List Fn}{F vars:Int}{e:Ex}(h:Kn p F vars e=true) :
  (e.kind=1∨e.kind=2∨e.kind=3∨e.kind=4∨e.kind=5∨e.kind=6∨e.kind=7∨e.kind=8∨e.kind=9∨e.kind=10∨e.kind=11) ∧
  (e.kind=2→0≤e.num∧e.num≤vars-1)∧(e.kind=3∨e.kind=4∨e.kind=5∨e.kind=6∨e.kind=9→e.kids.length=2)∧(e.kind=7→e.kids.length=1)∧(e.kind=8→e.kids.length=3) ∧
  (e.kind=10∨e.kind=11→0≤e.num∧e.num≤F-1∧(e.kids.length:Int)=(p.getD e.num.toNat Fn.zero).params∧0≤e.pick∧e.pick≤((p.getD e.num.toNat Fn.zero).outs.length:Int)-1) ∧
  (e.kind=11→((p.getD e.num.toNat Fn.zero).outs.length:Int)=(p.getD e.num.toNat Fn.zero).params∧0≤e.count∧e.count≤8)∧(e.kind=1→0≤e.num∧e.num<1000003):=by
 unfold Kn at h
 split at h
 ·simp only[Bool.and_eq_true,decide_eq_true_eq,C3]at h;omega
 ·split at h
  ·simp only[Bool.and_eq_true,decide_eq_true_eq,CH]at h;omega
  ·split at h
   ·simp only[Bool.and_eq_true,decide_eq_true_eq]at h;omega
   ·split at h
    ·simp only[Bool.and_eq_true,decide_eq_true_eq]at h;omega
    ·split at h
     ·simp only[Bool.and_eq_true,decide_eq_true_eq]at h;omega
     ·split at h
      ·simp only[Bool.and_eq_true,decide_eq_true_eq,CH]at h
       obtain⟨h1,h2,h3,h4⟩:=h
       split at h4
       ·simp only[decide_eq_true_eq]at h4;omega
       ·simp only[Bool.and_eq_true,decide_eq_true_eq,CH]at h4;omega
      ·cases h
theorem D6 {p:List Fn}{F vars:Int}{e:Ex}(h:wf p F e vars=true):Kn p F vars e=true:=by
 rw[NI,Bool.and_eq_true]at h;exact h.1
theorem Zj {p:List Fn}{F vars:Int}{e:Ex}(h:wf p F e vars=true){j:Nat}(hj:j<e.kids.length):wf p F (e.kids.getD j Ex.zero) (if e.kind=9∧j=1 then vars+1 else vars)=true:=by
 rw[NI,Bool.and_eq_true]at h
 have:=(Li p F _ vars e.kids 0).1 h.2 j hj
 rw[Nat.zero_add]at this
 simpa only[decide_eq_true_eq]using this
theorem GC {p:List Fn}{F vars:Int}{e:Ex}(h:wf p F e vars=true){j:Nat}(hj:j<e.kids.length)(hn:¬(e.kind=9∧j=1)):wf p F (e.kids.getD j Ex.zero) vars=true:=by
 have:=Zj h hj
 rwa [if_neg hn]at this
theorem M5 {p:List Fn}{F vars:Int}{e:Ex}(h:wf p F e vars=true)(hj:1<e.kids.length)(hk:e.kind=9):wf p F (e.kids.getD 1 Ex.zero) (vars+1)=true:=by
 have:=Zj h hj
 rwa [if_pos ⟨hk,rfl⟩]at this
section
variable {p:List Fn} {F:Nat} {vars:Int} {e:Ex}
theorem UM (h:wf p ((F:Nat):Int) e vars=true)(hk:e.kind=1):0≤e.num∧e.num<1000003:=(Dm (D6 h)).2.2.2.2.2.2.2 hk
theorem UN (h:wf p ((F:Nat):Int) e vars=true)(hk:e.kind=2):0≤e.num∧e.num≤vars-1:=(Dm (D6 h)).2.1 hk
theorem Zk (h:wf p ((F:Nat):Int) e vars=true)(hk:e.kind=8):e.kids.length=3:=(Dm (D6 h)).2.2.2.2.1 hk
theorem UO (h:wf p ((F:Nat):Int) e vars=true)(hk:e.kind=9):e.kids.length=2:=(Dm (D6 h)).2.2.1 (by omega)
theorem UP (h:wf p ((F:Nat):Int) e vars=true)(hk:e.kind=7):e.kids.length=1:=(Dm (D6 h)).2.2.2.1 hk
theorem UQ (h:wf p ((F:Nat):Int) e vars=true)(hk:e.kind=3∨e.kind=4∨e.kind=5∨e.kind=6):e.kids.length=2:=(Dm (D6 h)).2.2.1 (by omega)
theorem Lm (h:wf p ((F:Nat):Int) e vars=true)(hk:e.kind=10∨e.kind=11):(0≤e.num∧e.num≤((F:Nat):Int)-1)∧(e.kids.length:Int)=(p.getD e.num.toNat Fn.zero).params∧(0≤e.pick∧e.pick≤((p.getD e.num.toNat Fn.zero).outs.length:Int)-1):=by
 have:=(Dm (D6 h)).2.2.2.2.2.1 hk
 exact⟨⟨this.1,this.2.1⟩,this.2.2.1,this.2.2.2⟩
theorem S4 (h:wf p ((F:Nat):Int) e vars=true)(hk:e.kind=11):((p.getD e.num.toNat Fn.zero).outs.length:Int)=(p.getD e.num.toNat Fn.zero).params∧(0≤e.count∧e.count≤8):=(Dm (D6 h)).2.2.2.2.2.2.1 hk
theorem cJ (h:wf p ((F:Nat):Int) e vars=true)(hk:(e.kind≠1∧e.kind≠2∧e.kind≠7∧e.kind≠8)∧(e.kind≠9∧e.kind≠10∧e.kind≠11)):e.kind=3∨e.kind=4∨e.kind=5∨e.kind=6:=by
 have:=(Dm (D6 h)).1
 omega
theorem cK (h:wf p ((F:Nat):Int) e vars=true)(hv:Iz p)(hF:F≤p.length):e.kids.length≤12:=by
 have hq:=Dm (D6 h)
 by_cases h10:e.kind=10∨e.kind=11
 ·have h1:=Lm h h10
  have:=hv.par e.num.toNat (by omega)
  omega
 ·have h1:=hq.1;have h2:=hq.2.2.1;have h3:=hq.2.2.2.1;have h4:=hq.2.2.2.2.1
  by_cases hl:e.kind=1∨e.kind=2
  ·have h5:=D6 h
   unfold Kn at h5
   rcases hl with hl|hl
   ·rw[if_pos hl]at h5;simp only[Bool.and_eq_true,decide_eq_true_eq]at h5;omega
   ·rw[if_neg (by omega),if_pos hl]at h5;simp only[Bool.and_eq_true,decide_eq_true_eq]at h5;omega
  ·omega
end
section
variable {n:Nat} {C:Ca} {e:Ex} {env:List Sr} {s s1 s2:Nat} {c c1 c2:Int} {x y:Sr} {xs ys:List Sr}
theorem UR (hc:c≠0){r:Rs Sr}:AT (go c r) x s c:=AT.mk_err (Dv hc r) hc
theorem QF (hc:c=0)(hs:s=3000):AT (go c (Eb n C e env s)) x s1 7:=by
 subst hc;rw[CV,Fq,if_pos (by omega)];exact AT.mk_err rfl (by decide)
theorem Ya (hc:c=0)(hs:s+1≤3000)(hk:e.kind=1):AT (go c (Eb n C e env s)) (cst n e.num) (s+1) c:=by
 subst hc;rw[CV,Fq,if_neg (by omega),if_pos hk];exact AT.mk_ok rfl
theorem Yb (hc:c=0)(hs:s+1≤3000)(hk:e.kind=2):AT (go c (Eb n C e env s)) (env.getD e.num.toNat []) (s+1) c:=by
 subst hc;rw[CV,Fq,if_neg (by omega),if_neg (by omega),if_pos hk];exact AT.mk_ok rfl
theorem Yc (hc:c=0)(hs:s+1≤3000)(hk:e.kind=8)(hl:e.kids.length=3)(h1:AT (go c (Eb n C (e.kids.getD 0 Ex.zero) env (s+1))) x s1 c1)(hx:x.getD 0 0=0)
  (h2:AT (go c1 (Eb n C (e.kids.getD 1 Ex.zero) env s1)) y s2 c2):AT (go c (Eb n C e env s)) y s2 c2:=by
 subst hc
 rw[CV,Fq,if_neg (by omega),if_neg (by omega),if_neg (by omega),if_pos hk,DM _ _ _ _ _ _ (by omega)]
 rw[CV]at h1
 by_cases h0:c1=0
 ·subst h0;rw[h1.bindO,if_pos hx,DM _ _ _ _ _ _ (by omega)];exact h2
 ·rw[h1.bindE h0];rw[Dv h0]at h2;exact h2
theorem Yd (hc:c=0)(hs:s+1≤3000)(hk:e.kind=8)(hl:e.kids.length=3)(h1:AT (go c (Eb n C (e.kids.getD 0 Ex.zero) env (s+1))) x s1 c1)(hx:¬x.getD 0 0=0)
  (h2:AT (go c1 (Eb n C (e.kids.getD 2 Ex.zero) env s1)) y s2 c2):AT (go c (Eb n C e env s)) y s2 c2:=by
 subst hc
 rw[CV,Fq,if_neg (by omega),if_neg (by omega),if_neg (by omega),if_pos hk,DM _ _ _ _ _ _ (by omega)]
 rw[CV]at h1
 by_cases h0:c1=0
 ·subst h0;rw[h1.bindO,if_neg hx,DM _ _ _ _ _ _ (by omega)];exact h2
 ·rw[h1.bindE h0];rw[Dv h0]at h2;exact h2
theorem Ye (hc:c=0)(hs:s+1≤3000)(hk:e.kind=9)(hl:e.kids.length=2)(h1:AT (go c (Eb n C (e.kids.getD 0 Ex.zero) env (s+1))) x s1 c1)
  (h2:AT (go c1 (Eb n C (e.kids.getD 1 Ex.zero) (env++[x]) s1)) y s2 c2):AT (go c (Eb n C e env s)) y s2 c2:=by
 subst hc
 rw[CV,Fq,if_neg (by omega),if_neg (by omega),if_neg (by omega),if_neg (by omega),if_pos hk,DM _ _ _ _ _ _ (by omega)]
 rw[CV]at h1
 by_cases h0:c1=0
 ·subst h0;rw[h1.bindO,DM _ _ _ _ _ _ (by omega)];exact h2
 ·rw[h1.bindE h0];rw[Dv h0]at h2;exact h2
theorem M6 (hs : s + 1 ≤ 3000) (h1 : e.kind ≠ 1) (h2 : e.kind ≠ 2) (h8 : e.kind ≠ 8) (h9 : e.kind ≠ 9) : Eb n C e env s = (E7 n C e.kids env (s + 1)).bind fun xs t =>
      if e.kind = 10 then C.one e.num.toNat e.pick.toNat xs t
      else if e.kind = 11 then (Lk (C.all e.num.toNat) e.count.toNat xs t).bind fun ys u=>.ok (ys.getD e.pick.toNat []) u
      else Ll e.kind xs t:=by
  rw [Fq,if_neg (by omega),if_neg h1,if_neg h2,if_neg h8,if_neg h9]
theorem To (hc:c=0)(hs:s+1≤3000)(h1:e.kind≠1)(h2:e.kind≠2)(h8:e.kind≠8)(h9:e.kind≠9)(hr:AT (go c (E7 n C e.kids env (s+1))) xs s1 c1)(hc1:c1≠0):AT (go c (Eb n C e env s)) x s2 c1:=by
 subst hc
 rw[CV]at hr ⊢
 rw[M6 hs h1 h2 h8 h9,hr.bindE hc1];exact AT.mk_err rfl hc1
theorem cL (hc:c=0)(hs:s+1≤3000)(h1:e.kind≠1)(h2:e.kind≠2)(h8:e.kind≠8)(h9:e.kind≠9)(h10:e.kind≠10)(h11:e.kind≠11)(hr:AT (go c (E7 n C e.kids env (s+1))) xs s1 c1)(hc1:c1=0)
  (h:AT (Ll e.kind xs s1) y s2 c2):AT (go c (Eb n C e env s)) y s2 c2:=by
 subst hc;subst hc1
 rw[CV]at hr ⊢
 rw[M6 hs h1 h2 h8 h9,hr.bindO,if_neg h10,if_neg h11];exact h
theorem cM {k:Int}(hk:k=3):AT (Ll k xs s) (DU (xs.getD 0 []) (xs.getD 1 [])) s 0:=by subst hk;exact AT.mk_ok rfl
theorem cO {k:Int}(hk:k=4):AT (Ll k xs s) (Dg (xs.getD 0 []) (xs.getD 1 [])) s 0:=by subst hk;exact AT.mk_ok rfl
theorem cQ {k:Int}(hk:k=5):AT (Ll k xs s) (C7 (xs.getD 0 []) (xs.getD 1 [])) s 0:=by subst hk;exact AT.mk_ok rfl
theorem cR {k:Int}(hk:k=7):AT (Ll k xs s) (CD (xs.getD 0 []) 1000002) s 0:=by subst hk;exact AT.mk_ok rfl
theorem Yf {k:Int}(hk:k=6)(hz:(xs.getD 1 []).getD 0 0=0):AT (Ll k xs s) x s1 6:=by
 subst hk
 have:Ll 6 xs s=.err 6:=by
  show(if (xs.getD 1 []).getD 0 0=0 then _ else _)=_
  rw[if_pos hz]
 exact AT.mk_err this (by decide)
theorem cT {k:Int}(hk:k=6)(hz:¬(xs.getD 1 []).getD 0 0=0):AT (Ll k xs s) (BR (xs.getD 0 []) (xs.getD 1 [])) s 0:=by
 subst hk
 have:Ll 6 xs s=.ok (BR (xs.getD 0 []) (xs.getD 1 [])) s:=by
  show(if (xs.getD 1 []).getD 0 0=0 then _ else _)=_
  rw[if_neg hz]
 exact AT.mk_ok this
theorem HW {l:List Ex}{k:Nat}(hk:k<l.length)(h:AT (go c (E7 n C (l.take k) env s)) xs s1 c1)(h2:AT (go c1 (Eb n C (l.getD k Ex.zero) env s1)) x s2 c2) :
  AT (go c (E7 n C (l.take (k+1)) env s)) (xs++[x]) s2 c2:=by
 by_cases hc:c=0
 ·subst hc
  rw[CV]at h ⊢
  rw[UL hk]
  by_cases h0:c1=0
  ·subst h0
   rw[CV]at h2
   rw[h.bindO]
   by_cases h3:c2=0
   ·subst h3;rw[h2.bindO];exact AT.mk_ok rfl
   ·rw[h2.bindE h3];exact AT.mk_err rfl h3
  ·rw[h.bindE h0];rw[Dv h0]at h2;exact AT.mk_err (by rw[h2.1]) (by rw[h2.1];exact h2.2)
 ·rw[Dv hc]at h ⊢
  have hc1:c1≠0:=by rw[h.1];exact hc
  rw[Dv hc1]at h2
  exact AT.mk_err (by rw[h2.1,h.1]) (by rw[h2.1];exact hc1)
end
theorem Ik (n:Nat)(C:Ca)(l:List Ex)(env:List Sr)(s:Nat)(c:Int):AT (go c (E7 n C (l.take 0) env s)) [] s c:=by
 rw[List.take_zero,E7]
 by_cases h:c=0
 ·subst h;exact AT.mk_ok rfl
 ·exact AT.mk_err (Dv h _) h
theorem H3 {n:Nat}{a b:Sr}(ha:Bs n a):Bs n (DU a b):=⟨by unfold DU;rw[DC];exact ha.1,HT _ _⟩
theorem JO {n:Nat}{a b:Sr}(ha:Bs n a):Bs n (Dg a b):=⟨by rw[GW];exact ha.1,GX _ _⟩
theorem HX {n:Nat}{a b:Sr}(ha:Bs n a):Bs n (C7 a b):=⟨by unfold C7;rw[DC];exact ha.1,Ff _ _⟩
theorem H4 {n:Nat}{a b:Sr}(ha:Bs n a):Bs n (BR a b):=⟨by rw[DT];exact ha.1,El _ _⟩
theorem PK {n:Nat}{a:Sr}{y:Int}(ha:Bs n a):Bs n (CD a y):=⟨by unfold CD;rw[DC];exact ha.1,Em _ _⟩
end
section
def Dr (p:List Fn)(n f:Nat)(a:List Sr):List Sr:=match ev p n f a with
 |.ok xs _=>xs
 |.err _=>[]
def US (p:List Fn)(n f:Nat)(a:List Sr):Nat:=match ev p n f a with
 |.ok _ s=>s
 |.err _=>0
def HF (p:List Fn)(n f:Nat)(a:List Sr):Int:=match ev p n f a with
 |.ok _ _=>0
 |.err c=>c
section
variable {p:List Fn} {n f s:Nat} {a x:List Sr} {c:Int}
theorem NM (h:AT (go 0 (E7 n (H1 p n f) (p.getD f Fn.zero).outs a 0)) x s c)(hc:c=0):ev p n f a=.ok x s:=by subst hc;exact h.ok
theorem Kt (h:AT (go 0 (E7 n (H1 p n f) (p.getD f Fn.zero).outs a 0)) x s c)(hc:c≠0):ev p n f a=.err c:=h.err hc
theorem M7 (h:ev p n f a=.ok x s):Dr p n f a=x:=by unfold Dr;rw[h]
theorem Zl (h:ev p n f a=.ok x s):US p n f a=s:=by unfold US;rw[h]
theorem NN (h:ev p n f a=.ok x s):HF p n f a=0:=by unfold HF;rw[h]
theorem UT (h:ev p n f a=.err c):Dr p n f a=[]:=by unfold Dr;rw[h]
theorem Zm (h:ev p n f a=.err c):US p n f a=0:=by unfold US;rw[h]
theorem HY (h:ev p n f a=.err c):HF p n f a=c:=by unfold HF;rw[h]
end
structure Zn (p:List Fn)(n f:Nat)(a:List Sr):Prop where
 code:0≤HF p n f a∧HF p n f a≤9
 steps:US p n f a≤3000
 len:HF p n f a=0→(Dr p n f a).length=(p.getD f Fn.zero).outs.length
 ser:Bt n (Dr p n f a)
 non:HF p n f a≠0→Dr p n f a=[]
theorem Zn.mk' {p:List Fn}{n f s:Nat}{a x:List Sr}{c:Int}(h:AT (go 0 (E7 n (H1 p n f) (p.getD f Fn.zero).outs a 0)) x s c)(hc:0≤c∧c≤9)(hs:s≤3000)(hl:x.length=(p.getD f Fn.zero).outs.length)(hx:Bt n x):Zn p n f a:=by
 by_cases h0:c=0
 ·have e:=NM h h0
  exact⟨by rw[NN e];omega,by rw[Zl e];exact hs,fun _=>by rw[M7 e];exact hl,by rw[M7 e];exact hx,fun hh=>absurd (NN e) hh⟩
 ·have e:=Kt h h0
  exact⟨by rw[HY e];exact hc,by rw[Zm e];omega,fun hh=>absurd (by rw[← hh,HY e]) h0,by rw[UT e];intro k hk;simp at hk,fun _=>UT e⟩
end
def Zo (s:ByteArray)(i:Nat):Bool:=(decide (97≤K8 s i) && decide (K8 s i≤122)) || (decide (i≠0) && (decide (48≤K8 s i) && decide (K8 s i≤57)))
def Pd (s:ByteArray):Bool:=(decide (1≤s.size) && decide (s.size≤12)) && (List.range s.size).all (Zo s)
def NO (p:List Fn)(e:Ex)(vars funcs:Int):Bool :=
 Hm vars 0 412 && (Hm funcs 0 ((p.length:Nat):Int) && (decide (e.size≤400) && (decide (e.deep≤60) && wf p funcs e vars)))
def cU (p:List Fn)(k:Nat):Bool:=!((p.take k).any fun g=>GR g.name (p.getD k Fn.zero).name)
def L4 (p:List Fn)(k:Nat):Bool :=
 (Pd (p.getD k Fn.zero).name && cU p k) && ((Hm (p.getD k Fn.zero).params 0 12 && Hm (((p.getD k Fn.zero).outs.length:Nat):Int) 1 12) &&
  ((List.range (p.getD k Fn.zero).outs.length).all (fun j=>NO p ((p.getD k Fn.zero).outs.getD j Ex.zero) (p.getD k Fn.zero).params ((k:Nat):Int)) && decide (Ex.sizes (p.getD k Fn.zero).outs≤400)))
def Ln (p:List Fn):Bool:=decide (p.length≤16) && (List.range p.length).all (L4 p)
def Tq (p:List Fn):Prop:=∀k,k<p.length→Ex.sizes (p.getD k Fn.zero).outs≤2000000∧(p.getD k Fn.zero).outs.length≤2000000∧(p.getD k Fn.zero).name.size≤2000000
theorem Ec {f:Nat→Bool}{k:Nat}(h:(List.range k).all f=true)(hk:f k=true):(List.range (k+1)).all f=true:=by
 rw[List.range_succ,List.all_append,h];simp[hk]
theorem Ku {f:Nat→Bool}{k n:Nat}(hk:k<n)(h:f k=false):(List.range n).all f=false:=by
 rw[List.all_eq_false]
 exact⟨k,List.mem_range.2 hk,by simp[h]⟩
theorem S5 {f:Nat→Bool}{k n:Nat}(h:(List.range n).all f=true)(hk:k<n):f k=true:=List.all_eq_true.1 h k (List.mem_range.2 hk)
theorem cV {p:List Fn}(h:Ln p=true){k:Nat}(hk:k<p.length):L4 p k=true:=by
 unfold Ln at h
 rw[Bool.and_eq_true]at h
 exact S5 h.2 hk
theorem Or {p:List Fn}(h:Ln p=true):Iz p:=by
 have h1:∀k,k<p.length→(0≤(p.getD k Fn.zero).params∧(p.getD k Fn.zero).params≤12)∧(1≤(p.getD k Fn.zero).outs.length∧(p.getD k Fn.zero).outs.length≤12) ∧
   ∀j,j<(p.getD k Fn.zero).outs.length→NO p ((p.getD k Fn.zero).outs.getD j Ex.zero) (p.getD k Fn.zero).params ((k:Nat):Int)=true:=by
  intro k hk
  have:=cV h hk
  unfold L4 at this
  simp only[Bool.and_eq_true,CH]at this
  exact⟨this.2.1.1,by omega,fun j hj=>S5 this.2.2.1 hj⟩
 have h2:∀k,k<p.length→∀j,j<(p.getD k Fn.zero).outs.length→((p.getD k Fn.zero).outs.getD j Ex.zero).deep≤60∧wf p ((k:Nat):Int) ((p.getD k Fn.zero).outs.getD j Ex.zero) (p.getD k Fn.zero).params=true:=by
  intro k hk j hj
  have:=(h1 k hk).2.2 j hj
  unfold NO at this
  simp only[Bool.and_eq_true,decide_eq_true_eq]at this
  exact⟨this.2.2.2.1,this.2.2.2.2⟩
 exact⟨fun k hk=>(h1 k hk).1,fun k hk=>(h1 k hk).2.1,fun k hk j hj=>(h2 k hk j hj).1,fun k hk j hj=>(h2 k hk j hj).2⟩
section
namespace Jx
variable [J:JR] {P:Program} {ops:Array Oper} {w0:World} {Q:Act→World→Prop}
theorem j1 {o:Oper}{os:List Oper}{ks:List Nat}{a:Act}{w:World}(h:_root_.Go.Proofs.YtnokbaiemimhjaaGreat.LW P ops w0 (fun a w=>LW P ops w0 Q os ks a w) [o] [0] a w):LW P ops w0 Q (o::os) (0::ks) a w:=by
 simp only[_root_.Go.Proofs.YtnokbaiemimhjaaGreat.LW]at h
 simp only[LW]
 split
 ·rename_i hw
  rw[if_pos hw]at h
  unfold _root_.Go.Proofs.YtnokbaiemimhjaaGreat.BF at h
  unfold BF
  rw[if_pos (by decide)]at h
  rw[if_pos (by decide)]
  obtain⟨v,h1,h2⟩:=h
  exact⟨v,fun w' _=>h1 w' trivial,h2⟩
 ·rename_i hw
  rw[if_neg hw]at h
  exact h
theorem Yg:∀ {os:List Oper}{ks:List Nat}{a:Act}{w:World}(_:ks.all (fun k=>k == 0 || k == 3 || k == 4)=true)(_:_root_.Go.Proofs.YtnokbaiemimhjaaGreat.LW P ops w0 Q os ks a w),LW P ops w0 Q os ks a w
 |[],_,_,_,_,h=>h
 |_::_,[],_,_,_,h=>h.elim
 |o::os,k::ks,a,w,hk,h=>by
  simp only[List.all_cons,Bool.and_eq_true]at hk
  simp only[_root_.Go.Proofs.YtnokbaiemimhjaaGreat.LW]at h
  simp only[LW]
  split
  ·rename_i hw
   rw[if_pos hw]at h
   unfold _root_.Go.Proofs.YtnokbaiemimhjaaGreat.BF at h
   unfold BF
   split at h
   ·rename_i h2
    rw[if_pos h2]
    have:k=0:=by
     have:=hk.1
     simp only[Bool.or_eq_true,beq_iff_eq]at this
     omega
    subst this
    obtain⟨v,h1,h3⟩:=h
    exact⟨v,fun w' _=>h1 w' trivial,Yg hk.2 h3⟩
   ·rename_i h2
    rw[if_neg h2]
    split at h
    ·rename_i h3
     rw[if_pos h3]
     exact Oper.wp_mono (fun a w hh=>⟨J.ext hh.1,Yg hk.2 hh.2⟩) h
    ·rename_i h3
     rw[if_neg h3]
     exact Oper.wp_mono (fun a w hh=>Yg hk.2 hh) h
  ·rename_i hw
   rw[if_neg hw]at h
   exact Yg hk.2 h
end Jx
end
section
section str
variable {P:Program} {ops:Array Oper} {w0:World} {Q:Act→World→Prop} {os:List Oper} {ks:List Nat} {N:Nat} {ρ:Nat→Value} {w:World}
 {d:Nat} {ty:TypeId} {pos:String} {aft:Array Edge} {g:Option (Nat×Bool)} {t e:TypeId}
end str
section res
variable {P:Program} {N:Nat} {ρ:Nat→Value} {w:World}
theorem UU:∀(l:List Nat),(((l.map ResultVar.tmp).mapM (m:=Sem) fun
  |.tmp t=>pure ((mk N ρ).tmps.getD t undef)
  |.cell a t=>do loadVar t (← asAddr ((mk N ρ).tmps.getD a undef)))).run P w=.ok (l.map fun t=>Bm N ρ (.tmp t)) w:=by
 intro l
 induction l with
 |nil=>rfl
 |cons t l ih =>
  simp only[List.map_cons,List.mapM_cons,Sem.run_bind,Sem.run_pure,Result.andThen_ok,Lc]at ih ⊢
  rw[ih]
  rfl
theorem NP {fn:Func}{R:Ending→World→Prop}{k s b t0:Nat}{ts:List Nat}{ty:TypeId}{cs:List Value}(vs:List Value)(hr:fn.results=(ResultVar.cell k ty::((t0::ts).map ResultVar.tmp)).toArray)(ha:DR P ty s=true)(hv:Bm N ρ (.tmp k)=.pointer (some ⟨b,0,none⟩))(hb:BX w.heap b cs)(hl:cs.length=s)
  (hvs:((t0::ts).map fun t=>Bm N ρ (.tmp t))=vs) (h:R (.returned (.tuple (.agg cs.toArray::vs).toArray)) w):bodyPost P fn R .ret (mk N ρ) w:=by
 subst hvs
 refine⟨rfl,_,?_,h⟩
 have hld:=JA (P:=P) ha (LD.of_box hb) hl
 have hg:(mk N ρ).tmps.getD k undef=.pointer (some ⟨b,0,none⟩):=by rw[Lc,hv]
 have hi:(asAddr (.pointer (some ⟨b,0,none⟩))).run P w=.ok ⟨b,0,none⟩ w:=rfl
 have key:=UU (P:=P) (N:=N) (ρ:=ρ) (w:=w) (t0::ts)
 unfold results
 rw[hr]
 simp only[List.mapM_toArray,Sem.run_bind,Sem.run_map]
 have hfull:(((ResultVar.cell k ty::((t0::ts).map ResultVar.tmp)).mapM (m:=Sem) fun
  |.tmp t=>pure ((mk N ρ).tmps.getD t undef)
  |.cell a t=>do loadVar t (← asAddr ((mk N ρ).tmps.getD a undef)))).run P w=.ok (.agg cs.toArray::((t0::ts).map fun t=>Bm N ρ (.tmp t))) w:=by
  rw[List.mapM_cons]
  simp only[Sem.run_bind,Sem.run_pure,hg,hi,hld,Result.andThen_ok]
  rw[key]
  rfl
 refine(congrArg (fun r=>(Result.andThen (Result.andThen r fun a w'=>Result.ok a.toArray w') fun a w'=>Result.ok (if h:a.size=1 then a[0]else Value.tuple a) w')) hfull).trans ?_
 simp only[Result.andThen_ok]
 rfl
end res
end
section
set_option linter.unusedSectionVars false
namespace Jx
section
variable [J:JR] {P:Program} {ops:Array Oper} {md:Region.Mode} {kd bs:Nat→Nat} {w0:World} {Q:Act→World→Prop}
theorem Lp {Q':Act→World→Prop}(h:∀a w,Q a w→Q' a w):∀(l:List Nat)(a:Act)(w:World),LI P ops kd w0 Q l a w→LI P ops kd w0 Q' l a w
 |[],a,w,hh=>h a w hh
 |i::l,a,w,hh=>by
  simp only[LI]at hh ⊢
  cases hoi:ops[i]? with
  |none=>rw[hoi]at hh;exact hh.elim
  |some o =>
   rw[hoi]at hh
   simp only at hh ⊢
   split
   ·rename_i hw
    rw[if_pos hw]at hh
    exact hh.mono (fun a w=>Lp h l a w)
   ·rename_i hw
    rw[if_neg hw]at hh
    exact Lp h l _ _ hh
theorem M8 (s:List Nat):∀(l:List Nat)(a:Act)(w:World),LI P ops kd w0 (LI P ops kd w0 Q s) l a w→LI P ops kd w0 Q (l++s) a w
 |[],a,w,hh=>hh
 |i::l,a,w,hh=>by
  simp only[LI,List.cons_append]at hh ⊢
  cases hoi:ops[i]? with
  |none=>rw[hoi]at hh;exact hh.elim
  |some o =>
   rw[hoi]at hh
   simp only at hh ⊢
   split
   ·rename_i hw
    rw[if_pos hw]at hh
    exact hh.mono (fun a w=>M8 s l a w)
   ·rename_i hw
    rw[if_neg hw]at hh
    exact M8 s l _ _ hh
theorem DB {Q':Act→World→Prop}(hQ:∀a w,Q a w→Q' a w):∀(l:List Nat)(os:List Oper)(ks:List Nat)(a:Act)(w:World),Mt ops kd l os ks→LW P ops w0 Q os ks a w→LI P ops kd w0 Q' l a w
 |[],[],_,a,w,_,h=>by simpa [LI]using hQ a w (by simpa [LW]using h)
 |x::l,o::os,k::ks,a,w,⟨h0,hk,hM⟩,h=>by
  have hr:∀a w,LW P ops w0 Q os ks a w→LI P ops kd w0 Q' l a w:=fun a w hh=>DB hQ l os ks a w hM hh
  simp only[LI,h0,LW]at h ⊢
  split
  ·rename_i hw
   rw[if_pos hw]at h
   rw[hk]
   exact h.mono hr
  ·rename_i hw
   rw[if_neg hw]at h
   exact hr _ _ h
 |[],_::_,_,_,_,h,_=>h.elim
 |_::_,[],_,_,_,h,_=>h.elim
 |_::_,_::_,[],_,_,h,_=>h.elim
structure QG (ops:Array Oper)(kd bs:Nat→Nat)(w0:World)(L0 S:List Nat)(n:Nat)(l:List Nat)(listed:Array Bool)(w:World):Prop where
 sub:l.Sublist L0
 len:l.length+S.length=n
 mem:∀i,i∈l++S↔listed.getD i true=false
 sz:listed.size=ops.size
 clo:IX bs listed
 inv:Ka kd w0 w (l++S)
 nd:(l++S).Nodup
variable {L0:List Nat}
theorem Yh {l:List Nat}(hp:l.Pairwise (fun x y=>4≤kd x→kd y≠1)):IW kd l:=by
 intro l1 i l2 hl hk j hj
 subst hl
 exact List.rel_of_pairwise_cons (List.pairwise_append.1 hp).2.1 hj hk
theorem M9 (hsel:∀(j:Nat)(o:Oper) cs b,ops[j]? = some o→o.op≠.select cs b)(hS:KR md ops bs)
  (hlex:∀j oj,ops[j]? = some oj→∀e∈oj.after,Region.binds md e=true→e.on<j) {s:List Nat} (hp:(L0++s).Pairwise (CM md ops kd bs)) (h14:(L0++s).Pairwise (fun x y=>4≤kd x→kd y≠1))
  (n:Nat) (l:List Nat) (listed:Array Bool) (a:Act) (w:World) (hC:QG ops kd bs w0 L0 s n l listed w) (h:LI P ops kd w0 (LI P ops kd w0 Q s) l a w):wpAny P md ops (NQ Q) n listed a w :=
 E9 hsel hS hlex n (l++s) listed a w (by rw[List.length_append];exact hC.len) (hp.sublist (List.Sublist.append_right hC.sub s)) hC.nd hC.sz hC.mem hC.clo
  (Yh (h14.sublist (List.Sublist.append_right hC.sub s))) hC.inv (M8 s l a w h)
theorem Kv (hsel:∀ (j:Nat) (o:Oper) cs b,ops[j]? = some o→o.op≠.select cs b) (hS:KR md ops bs)
  (hlex:∀ j oj,ops[j]? = some oj→∀ e∈oj.after,Region.binds md e = true→e.on < j)
  {h1 h2:Nat} {S1 S2:List Nat} {Q1 Q2:Act→World→Prop} (hperm:(h1 :: S1).Perm (h2 :: S2)) (hk1:kd h1 = 3) (hk2:kd h2 = 3)
  (hl:∀ x∈L0,kd x≤2) (hL:L0.Pairwise (CM md ops kd bs)) (hf1:∀ x∈L0,CM md ops kd bs x h1) (hf2:∀ x∈L0,CM md ops kd bs x h2)
  (hz:∀ z∈S1,z = h2∨(bs z).testBit h1 = true∨(bs z).testBit h2 = true)
  (hord:(L0++h1 :: S1).Pairwise (fun x y=>∀ ox,ops[x]? = some ox→∀ e∈ox.after,Region.binds md e = true→e.on≠y))
  (rec1:∀ n l listed a w,QG ops kd bs w0 L0 S1 n l listed w→LI P ops kd w0 Q1 l a w→wpAny P md ops (NQ Q) n listed a w)
  (rec2:∀ n l listed a w,QG ops kd bs w0 L0 S2 n l listed w→LI P ops kd w0 Q2 l a w→wpAny P md ops (NQ Q) n listed a w) :
  ∀ (n:Nat) (l:List Nat) (listed:Array Bool) (a:Act) (w:World),QG ops kd bs w0 L0 (h1 :: S1) n l listed w→LI P ops kd w0 (fun a w=>LI P ops kd w0 Q1 [h1] a w∧LI P ops kd w0 Q2 [h2] a w) l a w→wpAny P md ops (NQ Q) n listed a w
 | 0,l,listed,a,w,hC,h=>by have:=hC.len; simp at this
 | n + 1,l,listed,a,w,hC,h=>by
  have hm2:∀ i,i∈l++h1 :: S1↔i∈l++h2 :: S2:=fun i=>by
   simp only [List.mem_append]; rw [hperm.mem_iff]
  have hun_of:∀ i∈l++h1 :: S1,listed.getD i true = false:=fun i hi=>(hC.mem i).1 hi
  -- a place that makes memory is taken
  have heavy:∀ (x:Nat) (T:List Nat) (Qx:Act→World→Prop),kd x = 3→(h1 :: S1).Perm (x :: T)→(∀ y∈L0,CM md ops kd bs y x)→LI P ops kd w0 Qx (l++[x]) a w →
    (∀ l' a' w' listed',QG ops kd bs w0 L0 T n l' listed' w'→LI P ops kd w0 Qx l' a' w'→wpAny P md ops (NQ Q) n listed' a' w') →
    ∀ (ox:Oper),ops[x]? = some ox→(∀ e∈ox.after,Region.binds md e = true→listed.getD e.on false = true)→wpOp P ops (NQ Q) x (wpAny P md ops (NQ Q) n (listed.setIfInBounds x true)) a w:=by
   intro x T Qx hkx hpx hfx hLx hrec ox hox hall
   have hbits:=DP hS hC.clo hox hall
   have hxm:x∈l++h1 :: S1:=List.mem_append_right _ (hpx.mem_iff.2 (List.mem_cons_self ..))
   have hxu:=hun_of x hxm
   have hfree:=CY (kd:=kd) (l1:=l) hox (fun y hy=>(hfx y (hC.sub.subset hy)).1) (fun y hy=>hun_of y (List.mem_append_left _ hy)) hbits
   have hsz:=CC hxu
   have hnd2:(l++x :: T).Nodup:=(List.Perm.append_left l hpx).nodup_iff.1 hC.nd
   have hxl:x∉l++T:=by
    have h1:=List.nodup_append.1 hnd2
    intro hmem
    rcases List.mem_append.1 hmem with hh | hh
    ·exact h1.2.2 x hh x (List.mem_cons_self ..) rfl
    ·exact (List.nodup_cons.1 h1.2.1).1 hh
   have hmT:∀ i,i∈l++x :: T↔listed.getD i true = false:=fun i=>by
    rw [← hC.mem i]; simp only [List.mem_append]; rw [hpx.mem_iff]
   have hcond:∀ w',(Az w w')→QG ops kd bs w0 L0 T n l (listed.setIfInBounds x true) w':=fun w' hE =>
    ⟨hC.sub,by have:=hC.len; have:=hpx.length_eq; simp at *; omega,EE hmT hxl hsz,by simpa using hC.sz,E4 hC.clo hbits,
     fun ⟨j,hj,hkj⟩=>(hC.inv ⟨j,by
      rcases List.mem_append.1 hj with hh | hh
      ·exact List.mem_append_left _ hh
      ·exact List.mem_append_right _ (hpx.mem_iff.2 (List.mem_cons_of_mem _ hh)),hkj⟩).trans hE,
     hnd2.sublist (List.Sublist.append_left (List.sublist_cons_self _ _) _)⟩
   obtain ⟨g1,g2⟩:=IL (Q:=Qx) hsel hox (by omega) l [] a w hfree (by simpa using hLx)
   unfold wpOp
   rw [hox]
   by_cases hw:Region.wanted ox (yielded ops a.tmps) = true
   ·simp only [hw,if_true]
    exact .inl (Oper.wp_mono (fun a' w' hK=>hrec l a' w' _ (hcond w' (hK.1 hkx)) (by simpa using hK.2)) (He (g1 hw)))
   ·simp only [hw,Bool.false_eq_true,if_false]
    exact hrec l _ w _ (hcond w (Az.refl w)) (by simpa using g2 (by simpa using hw))
  refine ⟨fun h0=>?_,fun i hi=>?_⟩
  ·exfalso
   have hready:∀ (x:Nat) (t:List Nat),l++h1 :: S1 = x :: t→False:=fun x t ht=>by
    have hs:(x :: t).Pairwise (fun x y=>∀ ox,ops[x]? = some ox→∀ e∈ox.after,Region.binds md e = true→e.on≠y):=ht ▸ hord.sublist (List.Sublist.append_right hC.sub _)
    have:=Hf (md:=md) (i:=x) (l:=t) hC.sz (fun y=>ht ▸ hC.mem y) hlex (fun y hy ox hox=>(List.pairwise_cons.1 hs).1 y hy ox hox)
    rw [h0] at this
    cases this
   cases l with
   | nil=>exact hready _ _ rfl
   | cons x l=>exact hready x (l++h1 :: S1) rfl
  ·obtain ⟨hun,oi,hoi,hall⟩:=mem_ready.1 hi
   have hmem:=(hC.mem i).2 hun
   have hbits:=DP hS hC.clo hoi hall
   by_cases hil:i∈l
   ·obtain ⟨l1,l2,rfl⟩:=List.append_of_mem hil
    have hpi:∀ x∈l1,CM md ops kd bs x i:=fun x hx=>(List.pairwise_append.1 (hL.sublist hC.sub)).2.2 x hx i (List.mem_cons_self ..)
    have hfree:=CY (kd:=kd) (l1:=l1) hoi (fun x hx=>(hpi x hx).1) (fun x hx=>hun_of x (by simp [hx])) hbits
    have hk:kd i≤2:=hl i (hC.sub.subset (by simp))
    have hsub0:(l1++l2).Sublist (l1++i :: l2):=List.Sublist.append_left (List.sublist_cons_self _ _) _
    have hnd1:(l1++i :: (l2++h1 :: S1)).Nodup:=by have:=hC.nd; rwa [List.append_assoc,List.cons_append] at this
    have hnot:i∉l1++(l2++h1 :: S1):=by
     have h1:=List.nodup_append.1 hnd1
     intro hmem
     rcases List.mem_append.1 hmem with hh | hh
     ·exact h1.2.2 i hh i (List.mem_cons_self ..) rfl
     ·exact (List.nodup_cons.1 h1.2.1).1 hh
    have hm1:∀ x,x∈l1++i :: (l2++h1 :: S1)↔listed.getD x true = false:=fun x=>by
     have:=hC.mem x; rwa [List.append_assoc,List.cons_append] at this
    have hcond:QG ops kd bs w0 L0 (h1 :: S1) n (l1++l2) (listed.setIfInBounds i true) w :=
     ⟨hsub0.trans hC.sub,by have:=hC.len; simp at *; omega,fun x=>by rw [List.append_assoc]; exact EE hm1 hnot (CC hun) x,by simpa using hC.sz,E4 hC.clo hbits,
      fun ⟨j,hj,hkj⟩=>hC.inv ⟨j,by
       rcases List.mem_append.1 hj with hh | hh
       ·exact List.mem_append_left _ (hsub0.subset hh)
       ·exact List.mem_append_right _ hh,hkj⟩,
      hC.nd.sublist (List.Sublist.append_right hsub0 _)⟩
    obtain ⟨v,hv,hL'⟩:=HE hsel hoi hk l1 l2 a w hfree (fun h1=>hC.inv ⟨i,by simp,h1⟩) h
    unfold wpOp
    rw [hoi]
    have rec_:=fun a' hh=>Kv hsel hS hlex hperm hk1 hk2 hl hL hf1 hf2 hz hord rec1 rec2 n (l1++l2) (listed.setIfInBounds i true) a' w hcond hh
    rcases hv with ⟨hw,hy⟩ | ⟨hw,rfl⟩
    ·simp only [hw,if_true]
     exact .inl (HR (hy w (Cl.self fun h1=>hC.inv ⟨i,by simp,h1⟩)) (rec_ _ hL'))
    ·simp only [hw,Bool.false_eq_true,if_false]
     exact rec_ _ hL'
   ·have hiS:i∈h1 :: S1:=(List.mem_append.1 hmem).resolve_left hil
    have h12:i = h1∨i = h2:=by
     rcases List.mem_cons.1 hiS with hh | hh
     ·exact .inl hh
     ·rcases hz i hh with hh | hh | hh
      ·exact .inr hh
      ·have q1:=hbits h1 hh
       have q2:=D1 (hun_of h1 (by simp))
       rw [q1] at q2; cases q2
      ·have q1:=hbits h2 hh
       have q2:=D1 (hun_of h2 ((hm2 h2).2 (by simp)))
       rw [q1] at q2; cases q2
    rcases h12 with rfl | rfl
    ·exact heavy i S1 Q1 hk1 (List.Perm.refl _) hf1 (M8 [i] l a w (Lp (fun _ _ hh=>hh.1) l a w h)) (fun l' a' w' li hc hh=>rec1 n l' li a' w' hc hh) oi hoi hall
    ·exact heavy i S2 Q2 hk2 hperm hf2 (M8 [i] l a w (Lp (fun _ _ hh=>hh.2) l a w h)) (fun l' a' w' li hc hh=>rec2 n l' li a' w' hc hh) oi hoi hall
theorem Ot (x:Nat)(l:List Nat)(a:Act)(w:World)(hh:LI P ops kd w0 Q (x::l) a w):LI P ops kd w0 (LI P ops kd w0 Q l) [x] a w:=by
 simp only[LI]at hh ⊢
 cases hoi:ops[x]? with
 |none=>rw[hoi]at hh;exact hh.elim
 |some o =>
  rw[hoi]at hh
  simp only at hh ⊢
  split
  ·rename_i hw
   rw[if_pos hw]at hh
   exact hh.mono (fun a w h=>h)
  ·rename_i hw
   rw[if_neg hw]at hh
   exact hh
end
def S6 (ops:Array Oper)(x y:Nat):Bool:=match ops[x]? with|some ox=>ox.after.all fun e=>!Region.binds .any e || e.on != y|none=>true
def ff (os:List Oper)(ks:List Nat)(L0:List Nat)(h1 g1:Nat)(r1:List Nat)(g2:Nat)(r2:List Nat)(h2:Nat)(r3:List Nat):Bool :=
  let ops:=os.toArray
  let b:=(Region.before ops).toList
  Region.noSelect ops &&
  (os.zipIdx.all fun(o,j) =>
    (o.after.all fun e=>!Region.binds .any e || decide (e.on<j)) &&
    (let m:=o.after.foldl (fun s e=>if Region.binds .any e then s ||| 2 ^ e.on ||| b.getD e.on 0 else s) 0
     (b.getD j 0 == m))) &&
  (decide (ks.getD h1 0=3) && (decide (ks.getD h2 0=3) && (decide (ks.getD g1 0=3) && decide (ks.getD g2 0=3)))) &&
  (L0.all fun x=>decide (ks.getD x 0≤2)) &&
  Pc (GO ops ks b) L0 &&
  (L0.all fun x=>GO ops ks b x h1 && (GO ops ks b x h2 && (GO ops ks b x g1 && GO ops ks b x g2))) &&
  ((h1::g1::r1).isPerm (h2::r3) && (g1::r1).isPerm (g2::r2)) &&
  ((g1::r1).all fun z=>decide (z=h2) || ((b.getD z 0).testBit h1 || (b.getD z 0).testBit h2)) &&
  (r1.all fun z=>decide (z=g2) || ((b.getD z 0).testBit g1 || (b.getD z 0).testBit g2)) &&
  (Pc (S6 ops) (L0++h1::g1::r1)) &&
  (Pc (GO ops ks b) (L0++r1) && (Pc (GO ops ks b) (L0++r2) && Pc (GO ops ks b) (L0++r3))) &&
  (Pc (fun x y=>!(decide (4≤ks.getD x 0)) || ks.getD y 0 != 1) (L0++r1) && (Pc (fun x y=>!(decide (4≤ks.getD x 0)) || ks.getD y 0 != 1) (L0++r2) && Pc (fun x y=>!(decide (4≤ks.getD x 0)) || ks.getD y 0 != 1) (L0++r3))) &&
  (decide ((L0++h1::g1::r1).length=os.length) && (decide (L0++h1::g1::r1).Nodup && ((L0++h1::g1::r1).all (fun x=>decide (x<os.length)) && (List.range os.length).all fun x=>(L0++h1::g1::r1).contains x)))
section
variable [J:JR] {P:Program}
theorem fg {id:Nat}{Q:Exit→Act→World→Prop}{a:Act}{w:World}(os:List Oper)(ks:List Nat)(L0:List Nat)(h1 g1:Nat)(r1:List Nat)(g2:Nat)(r2:List Nat)(h2:Nat)(r3:List Nat)
  (oL:List Oper) (kL:List Nat) (oh1 og1:Oper) (o1:List Oper) (k1:List Nat) (og2:Oper) (o2:List Oper) (k2:List Nat) (oh2:Oper) (o3:List Oper) (k3:List Nat) (hm:P.follows .mixedOrders=true) (hB:ff os ks L0 h1 g1 r1 g2 r2 h2 r3=true)
  (hML:Mt os.toArray (fun i=>ks.getD i 0) L0 oL kL) (hMh:Mt os.toArray (fun i=>ks.getD i 0) [h1] [oh1] [3]) (hM1:Mt os.toArray (fun i=>ks.getD i 0) (g1::r1) (og1::o1) (3::k1)) (hM2:Mt os.toArray (fun i=>ks.getD i 0) (g2::r2) (og2::o2) (3::k2)) (hM3:Mt os.toArray (fun i=>ks.getD i 0) (h2::r3) (oh2::o3) (3::k3))
  (h:LW P os.toArray w.drew (fun a' w'=>LW P os.toArray w.drew (fun a'' w''=>LW P os.toArray w.drew (fun a w=>Q .normal a w) (og1::o1) (3::k1) a'' w''∧LW P os.toArray w.drew (fun a w=>Q .normal a w) (og2::o2) (3::k2) a'' w'') [oh1] [3] a' w' ∧
   LW P os.toArray w.drew (fun a w=>Q .normal a w) (oh2::o3) (3::k3) a' w') oL kL a w.drew):(Code.region id os.toArray true).wp P Q a w:=by
 refine wp_region_any hm ?_
 simp only[ff,Bool.and_eq_true,decide_eq_true_eq]at hB
 obtain⟨⟨⟨⟨⟨⟨⟨⟨⟨⟨⟨⟨hsel,hpl⟩,hk1,hk2,hk3,hk4⟩,hl⟩,hpL⟩,hpx⟩,hpe1,hpe2⟩,hz1⟩,hz2⟩,hord⟩,hb1,hb2,hb3⟩,hn1,hn2,hn3⟩,hln,hnd,hlt,hct⟩:=hB
 have hz:∀ {j:Nat} {o:Oper},os.toArray[j]? = some o→(o,j)∈os.zipIdx:=by
  intro j o ho
  rw[List.mem_zipIdx_iff_getElem?]
  simpa using ho
 have hall:∀j oj,os.toArray[j]? = some oj→_:=fun j oj hj=>List.all_eq_true.1 hpl _ (hz hj)
 have hlex:∀j oj,os.toArray[j]? = some oj→∀e∈oj.after,Region.binds .any e=true→e.on<j:=by
  intro j oj hj e he hb
  have h1:=(Bool.and_eq_true _ _ ▸ hall j oj hj:_∧_).1
  have h2:=(Array.all_eq_true_iff_forall_mem.1 h1) e he
  simpa [hb]using h2
 have hS:KR .any os.toArray (fun j=>(Region.before os.toArray).toList.getD j 0):=by
  intro j oj hj i hb
  have h3:=(Bool.and_eq_true _ _ ▸ hall j oj hj:_∧_).2
  have h5:(Region.before os.toArray).toList.getD j 0=oj.after.foldl (fun s e=>if Region.binds .any e then s ||| 2 ^ e.on ||| (Region.before os.toArray).toList.getD e.on 0 else s) 0:=by simpa using h3
  dsimp only at hb
  rw[h5,← Array.foldl_toList]at hb
  rcases FO _ _ _ _ hb with hb|⟨e,he,hbb,hh⟩
  ·simp at hb
  ·exact⟨e,Array.mem_toList_iff.1 he,hbb,hh⟩
 have hmem:∀x,x∈L0++h1::g1::r1↔x<os.length:=fun x=>by
  constructor
  ·intro hx;exact of_decide_eq_true (List.all_eq_true.1 hlt x hx)
  ·intro hx
   have:=List.all_eq_true.1 hct x (List.mem_range.2 hx)
   simpa using this
 have hse:=Region.noSelect_spec hsel
 have P2:∀ {l:List Nat},Pc (GO os.toArray ks (Region.before os.toArray).toList) l=true→l.Pairwise (CM .any os.toArray (fun i=>ks.getD i 0) (fun j=>(Region.before os.toArray).toList.getD j 0)):=fun h=>FP (fun x y hh=>E5 hh) h
 have N2:∀ {l:List Nat},Pc (fun x y=>!(decide (4≤ks.getD x 0)) || ks.getD y 0 != 1) l=true→l.Pairwise (fun x y=>4≤ks.getD x 0→ks.getD y 0≠1):=fun h=>FP (fun x y hxy h4=>by
  rcases Bool.or_eq_true_iff.1 hxy with hh|hh
  ·simp only[Bool.not_eq_true',decide_eq_false_iff_not]at hh;exact absurd h4 hh
  ·simpa using hh) h
 have hL2:∀x∈L0,ks.getD x 0≤2:=fun x hx=>of_decide_eq_true (List.all_eq_true.1 hl x hx)
 have hx4:∀x∈L0,_:=fun x hx=>List.all_eq_true.1 hpx x hx
 simp only[Bool.and_eq_true]at hx4
 have hordP:(L0++h1::g1::r1).Pairwise (fun x y=>∀ox,os.toArray[x]? = some ox→∀e∈ox.after,Region.binds .any e=true→e.on≠y):=FP (fun x y hh ox hox e he hb=>by
  unfold S6 at hh
  rw[hox]at hh
  have:=(Array.all_eq_true_iff_forall_mem.1 hh) e he
  simpa [hb]using this) hord
 have hord2:(L0++g1::r1).Pairwise (fun x y=>∀ox,os.toArray[x]? = some ox→∀e∈ox.after,Region.binds .any e=true→e.on≠y):=hordP.sublist (List.Sublist.append_left (List.sublist_cons_self _ _) _)
 have zz1:∀z∈g1::r1,z=h2∨((Region.before os.toArray).toList.getD z 0).testBit h1=true∨((Region.before os.toArray).toList.getD z 0).testBit h2=true:=fun z hz=>by
  have:=List.all_eq_true.1 hz1 z hz
  simpa only[Bool.or_eq_true,decide_eq_true_eq]using this
 have zz2:∀z∈r1,z=g2∨((Region.before os.toArray).toList.getD z 0).testBit g1=true∨((Region.before os.toArray).toList.getD z 0).testBit g2=true:=fun z hz=>by
  have:=List.all_eq_true.1 hz2 z hz
  simpa only[Bool.or_eq_true,decide_eq_true_eq]using this
 have base1:=M9 (P:=P) (w0:=w.drew) (Q:=fun a w=>Q .normal a w) hse hS hlex (P2 hb1) (N2 hn1)
 have base2:=M9 (P:=P) (w0:=w.drew) (Q:=fun a w=>Q .normal a w) hse hS hlex (P2 hb2) (N2 hn2)
 have base3:=M9 (P:=P) (w0:=w.drew) (Q:=fun a w=>Q .normal a w) hse hS hlex (P2 hb3) (N2 hn3)
 have inner:=Kv (P:=P) (w0:=w.drew) (Q:=fun a w=>Q .normal a w) hse hS hlex (h1:=g1) (h2:=g2) (S1:=r1) (S2:=r2) (List.isPerm_iff.1 hpe2) hk3 hk4 hL2 (P2 hpL) (fun x hx=>E5 (hx4 x hx).2.2.1) (fun x hx=>E5 (hx4 x hx).2.2.2) zz2 hord2 base1 base2
 have outer:=Kv (P:=P) (w0:=w.drew) (Q:=fun a w=>Q .normal a w) hse hS hlex (h1:=h1) (h2:=h2) (S1:=g1::r1) (S2:=r3) (List.isPerm_iff.1 hpe1) hk1 hk2 hL2 (P2 hpL) (fun x hx=>E5 (hx4 x hx).1) (fun x hx=>E5 (hx4 x hx).2.1) zz1 hordP inner base3
 have key:=outer os.length L0 (Array.replicate os.length false) a w.drew ⟨List.Sublist.refl _,by rw[← hln,List.length_append],fun x=>?_,by simp,?_,fun _=>Az.refl _,hnd⟩ ?_
 ·have:=Hg _ _ _ _ key
  simpa using this
 ·rw[hmem]
  constructor
  ·intro hx;simp[hx]
  ·intro hh
   rcases Nat.lt_or_ge x os.length with h'|h'
   ·exact h'
   ·simp[Array.getElem?_eq_none (show(Array.replicate os.length false).size≤x by simpa using h')]at hh
 ·intro i hi
  rcases Nat.lt_or_ge i os.length with h'|h'
  ·simp[h']at hi
  ·simp[Array.getElem?_eq_none (show(Array.replicate os.length false).size≤i by simpa using h')]at hi
 ·refine DB (fun a w hh=>⟨?_,?_⟩) _ _ _ _ _ hML h
  ·exact DB (fun a w hh=>⟨Ot _ _ _ _ (DB (fun _ _ h=>h) _ _ _ _ _ hM1 hh.1),Ot _ _ _ _ (DB (fun _ _ h=>h) _ _ _ _ _ hM2 hh.2)⟩) _ _ _ _ _ hMh hh.1
  ·exact Ot _ _ _ _ (DB (fun _ _ h=>h) _ _ _ _ _ hM3 hh.2)
theorem lC {ops:Array Oper}{w0:World}{Q:Act→World→Prop}{o:Oper}{os:List Oper}{ks:List Nat}{a:Act}{w:World}(h:_root_.Go.Proofs.YtnokbaiemimhjaaGreat.LW P ops w0 (fun a' w'=>Az w w'∧LW P ops w0 Q os ks a' w') [o] [4] a w):LW P ops w0 Q (o::os) (3::ks) a w:=by
 simp only[_root_.Go.Proofs.YtnokbaiemimhjaaGreat.LW]at h
 simp only[LW]
 split
 ·rename_i hw
  rw[if_pos hw]at h
  unfold _root_.Go.Proofs.YtnokbaiemimhjaaGreat.BF at h
  unfold BF
  rw[if_neg (by decide),if_neg (by decide)]at h
  rw[if_neg (by decide),if_pos rfl]
  exact h
 ·rename_i hw
  rw[if_neg hw]at h
  exact h.2
theorem kA {ops:Array Oper}{w0:World}{Q:Act→World→Prop}{o:Oper}{os:List Oper}{ks:List Nat}{a:Act}{w:World}(h:_root_.Go.Proofs.YtnokbaiemimhjaaGreat.LW P ops w0 (fun a' w'=>LW P ops w0 Q os ks a' w') [o] [3] a w):LW P ops w0 Q (o::os) (3::ks) a w:=by
 simp only[_root_.Go.Proofs.YtnokbaiemimhjaaGreat.LW]at h
 simp only[LW]
 split
 ·rename_i hw
  rw[if_pos hw]at h
  unfold _root_.Go.Proofs.YtnokbaiemimhjaaGreat.BF at h
  unfold BF
  rw[if_neg (by decide),if_pos rfl]at h
  rw[if_neg (by decide),if_pos rfl]
  exact Oper.wp_mono (fun a w hh=>⟨J.ext hh.1,hh.2⟩) h
 ·rename_i hw
  rw[if_neg hw]at h
  exact h
end
end Jx
end
section
structure AF where
 op:Int
 a:Int
 b:Int
 num:Int
def AF.zero:AF:=⟨0,0,0,0⟩
structure QH where
 reg:Int
 z:Bool
def QH.zero:QH:=⟨0,false⟩
structure Tp where
 code:List AF
 grd:List QH
 vals:List Int
def jT (x:AF):List Value:=[.int .i64 x.op,.int .i64 x.a,.int .i64 x.b,.int .i64 x.num]
def kB (x:QH):List Value:=[.int .i64 x.reg,.bool x.z]
def Yi (x:AF):Prop:=BC x.op∧BC x.a∧BC x.b∧BC x.num
def QI:Bu AF:=fun _ cs x F=>cs=jT x∧Yi x∧F=[]
def S7:Bu QH:=fun _ cs x F=>cs=kB x∧BC x.reg∧F=[]
theorem AO:Cj 4 QI where
 len:=fun h=>by rw[h.1];rfl
 one:=fun h u hu=>by
  rw[h.1]at hu
  simp only[jT,List.mem_cons,List.not_mem_nil,or_false]at hu
  rcases hu with rfl|rfl|rfl|rfl <;> exact⟨rfl,rfl⟩
 lt:=fun h b hb=>by rw[h.2.2]at hb;cases hb
 stable:=fun h _=>h
theorem AW:Cj 2 S7 where
 len:=fun h=>by rw[h.1];rfl
 one:=fun h u hu=>by
  rw[h.1]at hu
  simp only[kB,List.mem_cons,List.not_mem_nil,or_false]at hu
  rcases hu with rfl|rfl <;> exact⟨rfl,rfl⟩
 lt:=fun h b hb=>by rw[h.2.2]at hb;cases hb
 stable:=fun h _=>h
theorem UV {B U:Nat}{H:Array Obj}{x:AF}(h:Yi x):jY QI B U H (jT x) x:=⟨[],⟨rfl,h,rfl⟩,List.nodup_nil,fun b hb=>by cases hb⟩
theorem cW {B U:Nat}{H:Array Obj}{x:QH}(h:BC x.reg):jY S7 B U H (kB x) x:=⟨[],⟨rfl,h,rfl⟩,List.nodup_nil,fun b hb=>by cases hb⟩
section ops
variable {P:Program} {ops:Array Oper} {w0:World} {Q:Act→World→Prop} {os:List Oper} {ks:List Nat} {N:Nat} {ρ:Nat→Value} {w:World}
 {d:Nat} {ty:TypeId} {pos:String} {aft:Array Edge} {g:Option (Nat×Bool)} {t e:TypeId} {z:Value} {b s:Nat}
theorem Ou {α:Type}{E:Bu α}(hE:Cj s E){x y:Operand}{v a:Value}{xs:List α}{y0:α}{B T B' U':Nat}{F:List Nat}(ht:P.underlying t=some (.slice e))(hi:TI P e s z b)(hz:z.cells.size=s)(hs:0<s)(hx:Bm N ρ x=v)(hy:Bm N ρ y=a)(hv:Ow (DL s E e) B T w.heap v xs F)
  (ha:Fr (DL s E e) B' U' w.heap a [y0]) (hT:T≤B') (hB:B≤B') (hBw:B≤w.heap.size) (hbytes:(xs.length+1)*b≤140737488355328) (hmx:xs.length+1≤maxLen) (hu:Up ops N ρ ⟨some d,.call ⟨.builtin .append,#[x,y],#[t,t]⟩,ty,pos,aft,g⟩)
  (h:∀v1 w1 F1,AE F w w1→Ow (DL s E e) B w1.heap.size w1.heap v1 (xs++[y0]) F1→(∀c∈F1,c∈F∨(B'≤c∧c<U')∨w.heap.size≤c)→LW P ops w0 Q os ks (mk N (CZ ρ d v1)) w1) :
  LW P ops w0 Q (⟨some d,.call ⟨.builtin .append,#[x,y],#[t,t]⟩,ty,pos,aft,g⟩::os) (4::ks) (mk N ρ) w:=by
 obtain⟨v1,w1,F0,r1,⟨F1,r2,r3,r4⟩,r5,r6⟩:=Ub (P:=P) (ty:=ty) hE ht hi hz hs (S:=fun b=>b∈F) (T:=fun b=>B'≤b∧b<U') ⟨F,hv.own,hv.nodup,fun _ h=>h⟩ ha (fun b h1 h2=>by have:=hv.high b h1;omega) hbytes hmx
 have hh:∀c∈F1,c∈F∨(B'≤c∧c<U')∨w.heap.size≤c:=fun c hc=>by
  rcases r4 c hc with h|h|h
  ·exact .inl h
  ·exact .inr (.inl h)
  ·exact .inr (.inr (Nat.le_of_eq h.symm))
 exact L1 rfl hu v1 w1 (by simp only[execOp,resolve,invoke,builtin,List.map_toArray,List.map_cons,List.map_nil,Sem.run_bind,Sem.run_pure,Result.andThen_ok,hx,hy,r1])
  (h v1 w1 F1 (r5.sub r6) ⟨r2,r3,fun c hc=>by
   rcases hh c hc with h|h|h
   ·exact hv.low c h
   ·omega
   ·omega,fun c hc=>(Av hE).lt r2 c hc⟩ hh)
theorem Ma {x y:Operand}{v a:Value}{xs ys:List Int}{B T:Nat}{F:List Nat}(ht:P.underlying t=some (.slice e))(hi:TI P e 1 z b)(hz:z.cells=#[z])(hx:Bm N ρ x=v)(hy:Bm N ρ y=a)(hv:Ow (AS rI e) B T w.heap v xs F)
  (ha:Rd (B3 rI) w.heap a ys) (hB:B≤w.heap.size) (hbytes:(xs.length+ys.length)*b≤140737488355328) (hmx:xs.length+ys.length≤maxLen) (hu:Up ops N ρ ⟨some d,.call ⟨.builtin .append,#[x,y],#[t,t]⟩,ty,pos,aft,g⟩)
  (h:∀v1 w1 F1,AE F w w1→Ow (AS rI e) B w1.heap.size w1.heap v1 (xs++ys) F1→(∀c∈F1,c∈F∨w.heap.size≤c)→LW P ops w0 Q os ks (mk N (CZ ρ d v1)) w1) :
  LW P ops w0 Q (⟨some d,.call ⟨.builtin .append,#[x,y],#[t,t]⟩,ty,pos,aft,g⟩::os) (4::ks) (mk N ρ) w:=by
 obtain⟨G,g1⟩:=ha
 have hG:G.drop 1=[]:=by
  rcases g1 with⟨_,_,_,_,rfl⟩|⟨us,g,off,cap,cur,e',fr,G',hels,_,_,_,_,rfl⟩
  ·rfl
  ·exact IY hels
 obtain⟨v',w',F',r1,r2,r3,r4,r5⟩:=Gr (P:=P) (ty:=ty) AQ ht hi hz hv.own hv.nodup g1 rfl hbytes hmx (fun c hc=>by rw[hG]at hc;cases hc) (by rw[hG];exact List.nodup_nil)
 have hh:∀c∈F',c∈F∨w.heap.size≤c:=fun c hc=>by
  rcases r4 c hc with h|h|h
  ·exact .inl h
  ·rw[hG]at h;cases h
  ·exact .inr (Nat.le_of_eq h.symm)
 exact L1 rfl hu v' w' (by simp only[execOp,resolve,invoke,builtin,List.map_toArray,List.map_cons,List.map_nil,Sem.run_bind,Sem.run_pure,Result.andThen_ok,hx,hy,r1])
  (h v' w' F' (r5.sub fun c hc=>List.mem_of_mem_take hc) ⟨r2,r3,fun c hc=>by
   rcases hh c hc with h|h
   ·exact hv.low c h
   ·omega,fun c hc=>(B9 AQ).lt r2 c hc⟩ hh)
theorem Yj {x y:Operand} {v a u:Value} {xs:List Int} {r:Int} {S:List Nat} {B' U':Nat} (ht:P.underlying t = some (.slice e)) (hi:TI P e 1 z b) (hz:z.cells = #[z]) (hx:Bm N ρ x = Jz v) (hy:Bm N ρ y = a)
  (hv:RN S (B3 rI) w.heap v xs) (ha:Fr (AS rV e) B' U' w.heap a [u]) (hr:RN S rI w.heap u r) (hS:∀ c∈S,c < w.heap.size) (hbytes:(xs.length + 1) * b≤140737488355328) (hmx:xs.length + 1≤maxLen)
  (hu:Up ops N ρ ⟨some d,.call ⟨.builtin .append,#[x,y],#[t,t]⟩,ty,pos,aft,g⟩)
  (h:∀ v1 w1,Az w w1→RN S (B3 rI) w1.heap v1 (xs++[r])→CK v1→LW P ops w0 Q os ks (mk N (CZ ρ d v1)) w1) :
  LW P ops w0 Q (⟨some d,.call ⟨.builtin .append,#[x,y],#[t,t]⟩,ty,pos,aft,g⟩ :: os) (4 :: ks) (mk N ρ) w:=by
 obtain ⟨G,g1',g2',g3'⟩:=ha
 obtain ⟨K,k1,k2⟩:=hv
 obtain ⟨R,r1,r2⟩:=hr
 obtain ⟨i,h1,h2,h3,h4⟩:=hi.get
 subst h4
 have hone:=AQ.one r1
 rcases g1' with ⟨_,hc,_⟩ | ⟨asq,ga,capa,cura,Fa,helsa,hav,hga,qa1,qa2,qa3,qa4,rfl⟩
 ·cases hc
 ·obtain ⟨hq,hFa⟩:=Gt helsa
  subst hq
  subst hav
  have hnews:∀ j q,[u][j]? = some q→w.cell? ((⟨ga,0,none⟩:Addr).add j) = some q:=by
   intro j q hj
   rw [IZ,C8]
   simp only [BV,hga]
   rw [← qa4,List.getElem?_take] at hj
   split at hj
   ·simpa using hj
   ·cases hj
  have made:∀ (w1:World) (ous:List Value) (K0:List Nat) (rest:Nat),w1.heap = w.heap→w1.os = w.os→w1.tape = w.tape→w1.output = w.output→els rI w.heap ous xs K0→(∀ c∈K0,c∈K)→xs.length + 1 + rest≤maxLen →
    Az w (w1.alloc (.cells (ous.toArray++[u].toArray++Builtin.zeroCells z.cells rest) e))∧RN S (B3 rI) (w1.alloc (.cells (ous.toArray++[u].toArray++Builtin.zeroCells z.cells rest) e)).heap (.slice (some ⟨w.heap.size,0,none⟩) (xs.length + 1) (xs.length + 1 + rest)) (xs++[r]):=by
   intro w1 ous K0 rest hh ho htp hop hou hsub hmax
   have hE:Az w (w1.alloc (.cells (ous.toArray++[u].toArray++Builtin.zeroCells z.cells rest) e)):=by
    refine ⟨ho,htp,hop,?_,fun k hk=>?_⟩
    ·show w.heap.size≤(w1.heap.push _).size
     rw [hh]; simp
    ·have:=Below.heap_alloc w1 (.cells (ous.toArray++[u].toArray++Builtin.zeroCells z.cells rest) e) k (by rw [hh]; exact hk)
     rw [this,hh]
   refine ⟨hE,w.heap.size :: (K0++R),.inr ⟨ous++[u],w.heap.size,0,xs.length + 1 + rest,(ous.toArray++[u].toArray++Builtin.zeroCells z.cells rest),e,(0,0),K0++R,?_,by simp,?_,?_,by simp; omega,rfl⟩,?_⟩
   ·refine els.stable AQ (hou.append (show els rI w.heap [u] [r] R from ⟨R,[],by simp,r1,rfl⟩)) fun c hc=>hE.heap ?_
    exact (hou.append (show els rI w.heap [u] [r] R from ⟨R,[],by simp,r1,rfl⟩)).lt AQ c hc
   ·have:=heap_alloc_new w1 (.cells (ous.toArray++[u].toArray++Builtin.zeroCells z.cells rest) e)
    rw [hh] at this; exact this
   ·have hl:=hou.length
    simp only [Array.toList_append,List.drop_zero]
    rw [show (xs++[r]).length = (ous++[u]).length from by simp [hl]]
    exact List.take_left
   ·intro c hc hm
    rcases List.mem_cons.1 hc with rfl | hc
    ·have:=hS _ hm; omega
    ·rcases List.mem_append.1 hc with hc | hc
     ·exact k2 c (hsub c hc) hm
     ·exact r2 c hc hm
  have hone1:[u].length = [u].length * i.size:=by rw [h3,Nat.mul_one]
  rcases k1 with ⟨a0,cap0,rfl,rfl,rfl⟩ | ⟨ous,gv,off,cap,cur,e',fr,K',hels,rfl,hg,hw,_,rfl⟩
  ·-- nothing so far
   cases a0 with
   | none =>
    have hrr:=run_append_nil (P:=P) w t ty e i z ht h1 h2 ⟨ga,0,none⟩ 1 capa [u] hone1 hnews (by decide) (by decide) (by simp at hbytes; omega)
    have hge:=grownCap_ge w 1 0 e
    have hgm:=grownCap_le_maxLen w 1 0 e (by simpa using hmx)
    obtain ⟨q1,q2⟩:=made w.drew [] [] (grownCap w 1 0 e - 1) rfl rfl rfl rfl rfl (fun c hc=>by cases hc) (by simp; omega)
    refine L1 rfl hu _ _ (by simp only [execOp,resolve,invoke,builtin,List.map_toArray,List.map_cons,List.map_nil,Sem.run_bind,Sem.run_pure,Result.andThen_ok,hx,hy,Jz]; rw [show [u].length = 1 from rfl,hrr]; rfl) (h _ _ ?_ ?_ ?_)
    ·simpa using q1
    ·have ea:(([]:List Int).length + 1 + (grownCap w 1 0 e - 1)) = grownCap w 1 0 e:=by simp; omega
     rw [ea] at q2
     simpa using q2
    ·exact hge
   | some a1 =>
    have hrr:=run_append_grow (P:=P) w t ty e i z ht h1 h2 a1 0 0 [] (by rw [h3]; rfl) (by intro j q hj; cases hj) ⟨ga,0,none⟩ 1 capa [u] hone1 hnews (by omega) (by decide) (growslice_fits (by omega) (by simpa using hbytes))
    have hge:=grownCap_ge w (0 + 1) 0 e
    have hgm:=grownCap_le_maxLen w (0 + 1) 0 e (by simpa using hmx)
    obtain ⟨q1,q2⟩:=made w.drew [] [] (grownCap w (0 + 1) 0 e - (0 + 1)) rfl rfl rfl rfl rfl (fun c hc=>by cases hc) (by show 0 + 1 + (grownCap w (0 + 1) 0 e - (0 + 1))≤maxLen; omega)
    refine L1 rfl hu _ _ (by simp only [execOp,resolve,invoke,builtin,List.map_toArray,List.map_cons,List.map_nil,Sem.run_bind,Sem.run_pure,Result.andThen_ok,hx,hy,Jz]; rw [show [u].length = 1 from rfl,hrr]; rfl) (h _ _ q1 ?_ ?_)
    rotate_left
    ·exact hge
    have ea:(([]:List Int).length + 1 + (grownCap w (0 + 1) 0 e - (0 + 1))) = grownCap w (0 + 1) 0 e:=by show 0 + 1 + (grownCap w (0 + 1) 0 e - (0 + 1)) = _; omega
    rw [ea] at q2
    simpa using q2
  ·have holds:∀ j q,ous[j]? = some q→w.cell? ((⟨gv,off,none⟩:Addr).add j) = some q:=by
    intro j q hj
    rw [IZ,C8]
    simp only [BV,hg]
    rw [← hw,List.getElem?_take] at hj
    split at hj
    ·rw [List.getElem?_drop] at hj; simpa using hj
    ·cases hj
   have hrr:=run_append_grow (P:=P) w t ty e i z ht h1 h2 ⟨gv,off,none⟩ xs.length xs.length ous (by rw [h3,hels.length]; omega) holds ⟨ga,0,none⟩ 1 capa [u] hone1 hnews (by omega) (by simp only [maxLen] at hmx; omega) (growslice_fits (by omega) hbytes)
   have hge:=grownCap_ge w (xs.length + 1) xs.length e
   have hgm:=grownCap_le_maxLen w (xs.length + 1) xs.length e hmx
   obtain ⟨q1,q2⟩:=made w.drew ous K' (grownCap w (xs.length + 1) xs.length e - (xs.length + 1)) rfl rfl rfl rfl hels (fun c hc=>List.mem_cons_of_mem _ hc) (by omega)
   refine L1 rfl hu _ _ (by simp only [execOp,resolve,invoke,builtin,List.map_toArray,List.map_cons,List.map_nil,Sem.run_bind,Sem.run_pure,Result.andThen_ok,hx,hy,Jz]; rw [show [u].length = 1 from rfl,hrr]; rfl) (h _ _ q1 ?_ ?_)
   rotate_left
   ·exact hge
   have ea:(xs.length + 1 + (grownCap w (xs.length + 1) xs.length e - (xs.length + 1))) = grownCap w (xs.length + 1) xs.length e:=by omega
   rw [ea] at q2
   exact q2
end ops
def CJ (t1 t2 t3:TypeId)(S:List Nat)(g:Nat)(H:Array Obj)(vc vg vv:Value)(T:Tp):Prop :=
 ∃Fc Fg Fv,Ow (DL 4 QI t1) 0 H.size H vc T.code Fc∧Ow (DL 2 S7 t2) 0 H.size H vg T.grd Fg∧Ow (AS rI t3) 0 H.size H vv T.vals Fv ∧
  ((∀b∈Fc,b∉Fg)∧(∀b∈Fc,b∉Fv)∧(∀b∈Fg,b∉Fv))∧(g∉Fc∧g∉Fg∧g∉Fv)∧(∀b∈Fc,b∈S)∧(∀b∈Fg,b∈S)∧(∀b∈Fv,b∈S)
section rcm
variable {t1 t2 t3:TypeId} {S S':List Nat} {g:Nat} {w w':World} {vc vg vv:Value} {T:Tp}
theorem Ow.chgS {α:Type}{E:Bc α}(hE:BH E){B:Nat}{v:Value}{x:α}{F G:List Nat}(h:Ow E B w.heap.size w.heap v x F)(c:AE G w w')(hG:∀b∈G,b∉F):Ow E B w'.heap.size w'.heap v x F:=(h.keep hE c hG).up c.size
theorem CJ.ext (h:CJ t1 t2 t3 S g w.heap vc vg vv T)(k:Az w w'):CJ t1 t2 t3 S g w'.heap vc vg vv T:=by
 obtain⟨Fc,Fg,Fv,h1,h2,h3,h4⟩:=h
 exact⟨Fc,Fg,Fv,(h1.ext (Av AO) k).up k.size,(h2.ext (Av AW) k).up k.size,(h3.ext (B9 AQ) k).up k.size,h4⟩
theorem CJ.chg (h:CJ t1 t2 t3 S g w.heap vc vg vv T)(k:AE [g] w w'):CJ t1 t2 t3 S g w'.heap vc vg vv T:=by
 obtain⟨Fc,Fg,Fv,h1,h2,h3,h4,h5,h6⟩:=h
 exact⟨Fc,Fg,Fv,h1.chgS (Av AO) k fun b hb hm=>by rw[Ab hb]at hm;exact h5.1 hm,h2.chgS (Av AW) k fun b hb hm=>by rw[Ab hb]at hm;exact h5.2.1 hm,
  h3.chgS (B9 AQ) k fun b hb hm=>by rw[Ab hb]at hm;exact h5.2.2 hm,h4,h5,h6⟩
theorem CJ.chgO {F:List Nat}(h:CJ t1 t2 t3 S g w.heap vc vg vv T)(k:AE F w w')(hF:∀b∈F,b∉S):CJ t1 t2 t3 S g w'.heap vc vg vv T:=by
 obtain⟨Fc,Fg,Fv,h1,h2,h3,h4,h5,h6⟩:=h
 exact⟨Fc,Fg,Fv,h1.chgS (Av AO) k fun b hb hm=>hF b hb (h6.1 b hm),h2.chgS (Av AW) k fun b hb hm=>hF b hb (h6.2.1 b hm),
  h3.chgS (B9 AQ) k fun b hb hm=>hF b hb (h6.2.2 b hm),h4,h5,h6⟩
theorem CJ.rdv (h:CJ t1 t2 t3 S g w.heap vc vg vv T):Rd (B3 rI) w.heap vv T.vals:=by
 obtain⟨Fc,Fg,Fv,h1,h2,h3,_⟩:=h
 exact h3.fr.rd1
theorem CJ.slv (h:CJ t1 t2 t3 S g w.heap vc vg vv T):FS vv T.vals.length:=by
 obtain⟨Fc,Fg,Fv,h1,h2,h3,_⟩:=h
 exact h3.fr.isSl
theorem CJ.slc (h:CJ t1 t2 t3 S g w.heap vc vg vv T):FS vc T.code.length:=by
 obtain⟨Fc,Fg,Fv,h1,h2,h3,_⟩:=h
 exact h1.own.isSl
theorem CJ.slg (h:CJ t1 t2 t3 S g w.heap vc vg vv T):FS vg T.grd.length:=by
 obtain⟨Fc,Fg,Fv,h1,h2,h3,_⟩:=h
 exact h2.own.isSl
end rcm
def TD (t1 t2 t3:TypeId)(S:List Nat)(g:Nat)(H:Array Obj)(vp:Value)(ip:Int)(T:Tp)(s:Nat)(c:Int):Prop :=
 ∃vc vg vv,BX H g [vp,.int .i64 ip,vc,vg,.slice none 0 0,vv,.int .i64 ((s:Nat):Int),.int .i64 c]∧CJ t1 t2 t3 S g H vc vg vv T
theorem RN.stp {α:Type}{E:Bc α}(hE:BH E){S S':List Nat}{w w':World}{v:Value}{x:α}(h:RN S E w.heap v x)(c:AE S w w')(hs:∀b∈S',b∈S∨w.heap.size≤b):RN S' E w'.heap v x:=by
 obtain⟨F,h1,h2⟩:=h
 refine⟨F,hE.stable h1 fun b hb=>c.block b (hE.lt h1 b hb) (h2 b hb),fun b hb hm=>?_⟩
 rcases hs b hm with hh|hh
 ·exact h2 b hb hh
 ·have:=hE.lt h1 b hb;omega
theorem AE.stp {S S':List Nat}{a b c:World}(h:AE S a b)(k:AE S' b c)(hs:∀x∈S',x∈S∨a.heap.size≤x):AE S a c :=
 ⟨k.os.trans h.os,k.tape.trans h.tape,k.output.trans h.output,Aa h.size k.size,fun i hi hm=>(k.block i (Nat.lt_of_lt_of_le hi h.size) fun hh=>by
  rcases hs i hh with h9|h9
  ·exact hm h9
  ·omega).trans (h.block i hi hm)⟩
theorem QJ {S S' S'':List Nat}{n m:Nat}(h:∀b∈S',b∈S∨n≤b)(k:∀b∈S'',b∈S'∨m≤b)(hn:n≤m):∀b∈S'',b∈S∨n≤b:=fun b hb=>by
 rcases k b hb with hh|hh
 ·exact h b hh
 ·exact .inr (by omega)
end
section
def Tp.put (T:Tp)(c:AF)(v:Int):Tp:=⟨T.code++[c],T.grd,T.vals++[v]⟩
def Tp.guard (T:Tp)(r:Int)(z:Bool):Tp:=⟨T.code,T.grd++[⟨r,z⟩],T.vals⟩
def Tp.at (T:Tp)(r:Int):Int:=T.vals.getD r.toNat 0
abbrev RI:=Int×Tp
abbrev RL:=List Int×Tp
structure Cg where
 one:Nat→Nat→List Int→Nat→Tp→Rs RI
 all:Nat→List Int→Nat→Tp→Rs RL
def J6 (f:List Int→Nat→Tp→Rs RL):Nat→List Int→Nat→Tp→Rs RL
 |0,a,s,T=>.ok (a,T) s
 |k+1,a,s,T=>(J6 f k a s T).bind fun x t=>f x.1 t x.2
def HP (k x y:Int):Int:=if k=3 then md (x+y)else if k=4 then md (x-y)else if k=5 then md (x*y)else if k=7 then md (0-x)else md (x*inv y)
def Kw (k:Int)(xs:List Int):AF:=⟨k,xs.getD 0 0,if k=7 then 0 else xs.getD 1 0,0⟩
def UW (k:Int)(xs:List Int)(t:Nat)(T:Tp):Rs RI :=
 if k≠3∧k≠4∧k≠5∧k≠7∧T.at (Kw k xs).b=0 then .err 6
 else .ok (((T.vals.length:Nat):Int),T.put (Kw k xs) (HP k (T.at (Kw k xs).a) (T.at (Kw k xs).b))) t
mutual
def HG (C:Cg):Ex→List Int→Nat→Tp→Rs RI
 |.mk k num pick cnt l,env,s,T =>
  if 3000≤s then .err 7
  else if k=1 then .ok (((T.vals.length:Nat):Int),T.put ⟨2,0,0,num⟩ num) (s+1)
  else if k=2 then .ok (env.getD num.toNat 0,T) (s+1)
  else if k=8 then(QK C l 0 env (s+1) T).bind fun x t=>if x.2.at x.1=0 then QK C l 1 env t (x.2.guard x.1 true)else QK C l 2 env t (x.2.guard x.1 false)
  else if k=9 then(QK C l 0 env (s+1) T).bind fun x t=>QK C l 1 (env++[x.1]) t x.2
  else(Il C l env (s+1) T).bind fun xs t =>
   if k=10 then C.one num.toNat pick.toNat xs.1 t xs.2
   else if k=11 then(J6 (C.all num.toNat) cnt.toNat xs.1 t xs.2).bind fun ys u=>.ok (ys.1.getD pick.toNat 0,ys.2) u
   else UW k xs.1 t xs.2
def QK (C:Cg):List Ex→Nat→List Int→Nat→Tp→Rs RI
 |[],_,_,_,_=>.err 0
 |e::_,0,env,s,T=>HG C e env s T
 |_::l,j+1,env,s,T=>QK C l j env s T
def Il (C:Cg):List Ex→List Int→Nat→Tp→Rs RL
 |[],_,s,T=>.ok ([],T) s
 |e::l,env,s,T=>(HG C e env s T).bind fun x t=>(Il C l env t x.2).bind fun xs u=>.ok (x.1::xs.1,xs.2) u
end
theorem G3 (C:Cg)(env:List Int)(s:Nat)(T:Tp):∀(l:List Ex)(j:Nat),j<l.length→QK C l j env s T=HG C (l.getD j Ex.zero) env s T
 |[],j,h=>by simp at h
 |e::l,0,_=>by rw[QK];rfl
 |e::l,j+1,h=>by rw[QK,G3 C env s T l j (by simpa using h)];simp
theorem PL (C:Cg)(env:List Int)(e:Ex):∀(l:List Ex)(s:Nat)(T:Tp),Il C (l++[e]) env s T=(Il C l env s T).bind fun xs t=>(HG C e env t xs.2).bind fun x u=>.ok (xs.1++[x.1],x.2) u
 |[],s,T=>by
  rw[List.nil_append,Il,Il]
  simp only[Rs.bind_ok]
  cases HG C e env s T <;> simp only[Rs.bind_ok,Rs.bind_err,Il] <;> rfl
 |a::l,s,T=>by
  rw[List.cons_append,Il,Il]
  cases HG C a env s T with
  |err c=>rfl
  |ok x t =>
   simp only[Rs.bind_ok]
   rw[PL C env e l t]
   simp only[Rs.bind_assoc]
   cases Il C l env t x.2 with
   |err c=>rfl
   |ok xs u =>
    simp only[Rs.bind_ok]
    cases HG C e env u xs.2 <;> rfl
theorem UX {C:Cg}{env:List Int}{s:Nat}{T:Tp}{l:List Ex}{k:Nat}(hk:k<l.length):Il C (l.take (k+1)) env s T=(Il C (l.take k) env s T).bind fun xs t=>(HG C (l.getD k Ex.zero) env t xs.2).bind fun x u=>.ok (xs.1++[x.1],x.2) u:=by
 rw[List.take_succ_eq_append_getElem hk,PL]
 simp[hk]
theorem Hp (C:Cg)(e:Ex)(env:List Int)(s:Nat)(T:Tp):HG C e env s T =
  if 3000≤s then .err 7
  else if e.kind=1 then .ok (((T.vals.length:Nat):Int),T.put ⟨2,0,0,e.num⟩ e.num) (s+1)
  else if e.kind=2 then .ok (env.getD e.num.toNat 0,T) (s+1)
  else if e.kind=8 then(QK C e.kids 0 env (s+1) T).bind fun x t=>if x.2.at x.1=0 then QK C e.kids 1 env t (x.2.guard x.1 true)else QK C e.kids 2 env t (x.2.guard x.1 false)
  else if e.kind=9 then(QK C e.kids 0 env (s+1) T).bind fun x t=>QK C e.kids 1 (env++[x.1]) t x.2
  else(Il C e.kids env (s+1) T).bind fun xs t =>
   if e.kind=10 then C.one e.num.toNat e.pick.toNat xs.1 t xs.2
   else if e.kind=11 then(J6 (C.all e.num.toNat) e.count.toNat xs.1 t xs.2).bind fun ys u=>.ok (ys.1.getD e.pick.toNat 0,ys.2) u
   else UW e.kind xs.1 t xs.2:=by cases e;rw[HG];rfl
def L5 (p:List Fn):Nat→Cg
 |0=>⟨fun _ _ _ _ _=>.err 0,fun _ _ _ _=>.err 0⟩
 |k+1=>⟨fun f j a s T=>if f=k then HG (L5 p k) ((p.getD k Fn.zero).outs.getD j Ex.zero) a s T else(L5 p k).one f j a s T,
   fun f a s T=>if f=k then Il (L5 p k) (p.getD k Fn.zero).outs a s T else(L5 p k).all f a s T⟩
theorem S8 {p:List Fn}{f j:Nat}{a:List Int}{s:Nat}{T:Tp}:∀ {F:Nat},f<F→(L5 p F).one f j a s T=HG (L5 p f) ((p.getD f Fn.zero).outs.getD j Ex.zero) a s T
 |0,h=>by omega
 |F+1,h=>by
  show(if f=F then _ else _)=_
  split
  ·rename_i e;rw[e]
  ·exact S8 (by omega)
theorem Ov {p:List Fn}{f:Nat}{a:List Int}{s:Nat}{T:Tp}:∀ {F:Nat},f<F→(L5 p F).all f a s T=Il (L5 p f) (p.getD f Fn.zero).outs a s T
 |0,h=>by omega
 |F+1,h=>by
  show(if f=F then _ else _)=_
  split
  ·rename_i e;rw[e]
  ·exact Ov (by omega)
section
variable {C:Cg} {e:Ex} {env:List Int} {s s1 s2:Nat} {c c1 c2:Int} {T T1 T2:Tp} {x y:Int} {xs ys:List Int}
theorem Yk {α:Type}{r:Rs α}{x:α}(hc:c≠0):AT (go c r) x s c:=AT.mk_err (Dv hc r) hc
theorem Tr {x:RI}(hc:c=0)(hs:s=3000):AT (go c (HG C e env s T)) x s1 7:=by
 subst hc;rw[CV,Hp,if_pos (by omega)];exact AT.mk_err rfl (by decide)
theorem cX (hc:c=0)(hs:s+1≤3000)(hk:e.kind=1):AT (go c (HG C e env s T)) (((T.vals.length:Nat):Int),T.put ⟨2,0,0,e.num⟩ e.num) (s+1) c:=by
 subst hc;rw[CV,Hp,if_neg (by omega),if_pos hk];exact AT.mk_ok rfl
theorem cY (hc:c=0)(hs:s+1≤3000)(hk:e.kind=2):AT (go c (HG C e env s T)) (env.getD e.num.toNat 0,T) (s+1) c:=by
 subst hc;rw[CV,Hp,if_neg (by omega),if_neg (by omega),if_pos hk];exact AT.mk_ok rfl
theorem cZ {z:RI}(hc:c=0)(hs:s+1≤3000)(hk:e.kind=8)(hl:e.kids.length=3)(h1:AT (go c (HG C (e.kids.getD 0 Ex.zero) env (s+1) T)) (x,T1) s1 c1)(hc1:c1≠0):AT (go c (HG C e env s T)) z s2 c1:=by
 subst hc
 rw[CV]at h1
 rw[CV,Hp,if_neg (by omega),if_neg (by omega),if_neg (by omega),if_pos hk,G3 _ _ _ _ _ _ (by omega),h1.bindE hc1]
 exact AT.mk_err rfl hc1
theorem dA (hc:c=0)(hs:s+1≤3000)(hk:e.kind=8)(hl:e.kids.length=3)(h1:AT (go c (HG C (e.kids.getD 0 Ex.zero) env (s+1) T)) (x,T1) s1 c1)(hc1:c1=0)(hx:T1.at x=0)
  (h2:AT (go c1 (HG C (e.kids.getD 1 Ex.zero) env s1 (T1.guard x (decide (T1.at x=0))))) (y,T2) s2 c2):AT (go c (HG C e env s T)) (y,T2) s2 c2:=by
 subst hc;subst hc1
 rw[CV]at h1 h2
 rw[CV,Hp,if_neg (by omega),if_neg (by omega),if_neg (by omega),if_pos hk,G3 _ _ _ _ _ _ (by omega),h1.bindO]
 dsimp only
 rw[A7 hx]at h2
 rw[if_pos hx,G3 _ _ _ _ _ _ (by omega)];exact h2
theorem dB (hc:c=0)(hs:s+1≤3000)(hk:e.kind=8)(hl:e.kids.length=3)(h1:AT (go c (HG C (e.kids.getD 0 Ex.zero) env (s+1) T)) (x,T1) s1 c1)(hc1:c1=0)(hx:¬T1.at x=0)
  (h2:AT (go c1 (HG C (e.kids.getD 2 Ex.zero) env s1 (T1.guard x (decide (T1.at x=0))))) (y,T2) s2 c2):AT (go c (HG C e env s T)) (y,T2) s2 c2:=by
 subst hc;subst hc1
 rw[CV]at h1 h2
 rw[CV,Hp,if_neg (by omega),if_neg (by omega),if_neg (by omega),if_pos hk,G3 _ _ _ _ _ _ (by omega),h1.bindO]
 dsimp only
 rw[A8 hx]at h2
 rw[if_neg hx,G3 _ _ _ _ _ _ (by omega)];exact h2
theorem dC (hc:c=0)(hs:s+1≤3000)(hk:e.kind=9)(hl:e.kids.length=2)(h1:AT (go c (HG C (e.kids.getD 0 Ex.zero) env (s+1) T)) (x,T1) s1 c1)
  (h2:AT (go c1 (HG C (e.kids.getD 1 Ex.zero) (env++[x]) s1 T1)) (y,T2) s2 c2):AT (go c (HG C e env s T)) (y,T2) s2 c2:=by
 subst hc
 rw[CV,Hp,if_neg (by omega),if_neg (by omega),if_neg (by omega),if_neg (by omega),if_pos hk,G3 _ _ _ _ _ _ (by omega)]
 rw[CV]at h1
 by_cases h0:c1=0
 ·subst h0;rw[h1.bindO,G3 _ _ _ _ _ _ (by omega)];exact h2
 ·rw[h1.bindE h0];rw[Dv h0]at h2;exact h2
theorem JP (hs:s+1≤3000)(h1:e.kind≠1)(h2:e.kind≠2)(h8:e.kind≠8)(h9:e.kind≠9):HG C e env s T=(Il C e.kids env (s+1) T).bind fun xs t =>
  if e.kind=10 then C.one e.num.toNat e.pick.toNat xs.1 t xs.2
   else if e.kind=11 then(J6 (C.all e.num.toNat) e.count.toNat xs.1 t xs.2).bind fun ys u=>.ok (ys.1.getD e.pick.toNat 0,ys.2) u
   else UW e.kind xs.1 t xs.2:=by
 rw[Hp,if_neg (by omega),if_neg h1,if_neg h2,if_neg h8,if_neg h9]
theorem UY {z:RI}(hc:c=0)(hs:s+1≤3000)(h1:e.kind≠1)(h2:e.kind≠2)(h8:e.kind≠8)(h9:e.kind≠9)(hr:AT (go c (Il C e.kids env (s+1) T)) (xs,T1) s1 c1)(hc1:c1≠0):AT (go c (HG C e env s T)) z s2 c1:=by
 subst hc
 rw[CV]at hr ⊢
 rw[JP hs h1 h2 h8 h9,hr.bindE hc1];exact AT.mk_err rfl hc1
theorem Yl {p:List Fn}{F:Nat}(hc:c=0)(hs:s+1≤3000)(hk:e.kind=10)(hF:e.num.toNat<F)(hr:AT (go c (Il (L5 p F) e.kids env (s+1) T)) (xs,T1) s1 c1)(hc1:c1=0)
  (h2:AT (go c1 (HG (L5 p e.num.toNat) ((p.getD e.num.toNat Fn.zero).outs.getD e.pick.toNat Ex.zero) xs s1 T1)) (y,T2) s2 c2):AT (go c (HG (L5 p F) e env s T)) (y,T2) s2 c2:=by
 subst hc;subst hc1
 rw[CV]at hr h2 ⊢
 rw[JP hs (by omega) (by omega) (by omega) (by omega),hr.bindO,if_pos hk,S8 hF];exact h2
theorem Ym {p:List Fn}{F:Nat}(hc:c=0)(hs:s+1≤3000)(hk:e.kind=11)(hF:e.num.toNat<F)(hr:AT (go c (Il (L5 p F) e.kids env (s+1) T)) (xs,T1) s1 c1)(hc1:c1=0)
  (h2:AT (J6 (fun a t U=>Il (L5 p e.num.toNat) (p.getD e.num.toNat Fn.zero).outs a t U) e.count.toNat xs s1 T1) (ys,T2) s2 c2):AT (go c (HG (L5 p F) e env s T)) (ys.getD e.pick.toNat 0,T2) s2 c2:=by
 subst hc;subst hc1
 rw[CV]at hr ⊢
 rw[JP hs (by omega) (by omega) (by omega) (by omega),hr.bindO,if_neg (by omega),if_pos hk]
 have hl:(L5 p F).all e.num.toNat=fun a t U=>Il (L5 p e.num.toNat) (p.getD e.num.toNat Fn.zero).outs a t U:=funext fun a=>funext fun t=>funext fun U=>Ov hF
 rw[hl]
 by_cases h0:c2=0
 ·subst h0;rw[h2.bindO];exact AT.mk_ok rfl
 ·rw[h2.bindE h0];exact AT.mk_err rfl h0
theorem fh {z:RI}(hc:c=0)(hs:s+1≤3000)(h1:e.kind≠1)(h2:e.kind≠2)(h8:e.kind≠8)(h9:e.kind≠9)(h10:e.kind≠10)(h11:e.kind≠11)(hr:AT (go c (Il C e.kids env (s+1) T)) (xs,T1) s1 c1)(hc1:c1=0)
  (h:AT (go c1 (UW e.kind xs s1 T1)) z s2 c2):AT (go c (HG C e env s T)) z s2 c2:=by
 subst hc;subst hc1
 rw[CV]at hr h ⊢
 rw[JP hs h1 h2 h8 h9,hr.bindO,if_neg h10,if_neg h11];exact h
theorem UZ (C:Cg)(l:List Ex)(env:List Int)(s:Nat)(T:Tp)(c:Int):AT (go c (Il C (l.take 0) env s T)) ([],T) s c:=by
 rw[List.take_zero,Il]
 by_cases h:c=0
 ·subst h;exact AT.mk_ok rfl
 ·exact AT.mk_err (Dv h _) h
theorem Yn {l:List Ex}{k:Nat}(hk:k<l.length)(h:AT (go c (Il C (l.take k) env s T)) (xs,T1) s1 c1)(h2:AT (go c1 (HG C (l.getD k Ex.zero) env s1 T1)) (x,T2) s2 c2) :
  AT (go c (Il C (l.take (k+1)) env s T)) (xs++[x],T2) s2 c2:=by
 by_cases hc:c=0
 ·subst hc
  rw[CV]at h ⊢
  rw[UX hk]
  by_cases h0:c1=0
  ·subst h0
   rw[CV]at h2
   rw[h.bindO]
   by_cases h9:c2=0
   ·subst h9;rw[h2.bindO];exact AT.mk_ok rfl
   ·rw[h2.bindE h9];exact AT.mk_err rfl h9
  ·rw[h.bindE h0]
   rw[Dv h0]at h2
   have:=h2.1
   exact AT.mk_err (by rw[this]) (this ▸ h0)
 ·rw[Dv hc]at h ⊢
  have h3:=h.1
  subst h3
  rw[Dv hc]at h2
  exact AT.mk_err (by rw[h2.1]) (h2.1 ▸ hc)
theorem dD {f:List Int→Nat→Tp→Rs RL}{k:Nat}(h:AT (J6 f k xs s T) (ys,T1) s1 c1)(hc:c1=0){zs:RL}(h2:AT (go c1 (f ys s1 T1)) zs s2 c2):AT (J6 f (k+1) xs s T) zs s2 c2:=by
 subst hc
 show AT ((J6 f k xs s T).bind _) _ _ _
 rw[h.bindO];rw[CV]at h2;exact h2
theorem PM {f:List Int→Nat→Tp→Rs RL}{d:Int}:∀ {m k:Nat},J6 f k xs s T=.err d→k≤m→J6 f m xs s T=.err d
 |0,k,h,hk=>by
  have:k=0:=by omega
  subst this;exact h
 |m+1,k,h,hk=>by
  by_cases e:k=m+1
  ·subst e;exact h
  ·show(J6 f m xs s T).bind _=_
   rw[PM h (by omega)];rfl
theorem Yo {f:List Int→Nat→Tp→Rs RL}{k m:Nat}{zs:RL}(h:AT (J6 f k xs s T) zs s1 c1)(hk:k≤m)(hs:k=m∨c1≠0):AT (J6 f m xs s T) zs s1 c1:=by
 by_cases hc:c1=0
 ·rcases hs with rfl|hh
  ·exact h
  ·exact absurd hc hh
 ·exact AT.mk_err (PM (h.err hc) hk) hc
end
def KW (T:Tp)(s:Nat):Prop:=T.code.length=T.vals.length∧T.vals.length≤12+s∧T.grd.length≤s∧B7 T.vals=true
theorem KW.put {T:Tp}{s:Nat}(h:KW T s)(c:AF){v:Int}(hv:0≤v∧v<1000003):KW (T.put c v) (s+1):=by
 obtain⟨h1,h2,h3,h4⟩:=h
 unfold Tp.put
 refine⟨by simp[h1],by simp;omega,by simp;omega,?_⟩
 unfold B7 at h4 ⊢
 rw[List.all_append,h4]
 simp[C3.2 hv]
theorem KW.guard {T:Tp}{s:Nat}(h:KW T s)(r:Int)(z:Bool)(hg:T.grd.length+1≤s):KW (T.guard r z) s:=by
 obtain⟨h1,h2,h3,h4⟩:=h
 exact⟨h1,h2,by show(T.grd++[_]).length≤s;simp;omega,h4⟩
theorem KW.up {T:Tp}{s s':Nat}(h:KW T s)(hs:s≤s'):KW T s':=⟨h.1,by have:=h.2.1;omega,by have:=h.2.2.1;omega,h.2.2.2⟩
theorem KW.dn {T:Tp}{s s':Nat}(h:KW T s)(hv:T.vals.length≤12+s')(hg:T.grd.length≤s'):KW T s':=⟨h.1,hv,hg,h.2.2.2⟩
theorem KW.ln {T:Tp}{s:Nat}(h:KW T s)(hs:s≤3000):T.code.length≤4000∧T.vals.length≤4000:=by have:=h.1;have:=h.2.1;omega
abbrev Ey (k b:Int):Prop:=k≠3∧k≠4∧k≠5∧k≠7∧b=0
section
variable {k a b:Int}
theorem V2 (h:k=3):(if Ey k b then 0 else HP k a b)=md (a+b)∧(!decide (Ey k b))=true:=by subst h;exact⟨rfl,rfl⟩
theorem V3 (h:k=4):(if Ey k b then 0 else HP k a b)=md (a-b)∧(!decide (Ey k b))=true:=by subst h;exact⟨rfl,rfl⟩
theorem V4 (h:k=5):(if Ey k b then 0 else HP k a b)=md (a*b)∧(!decide (Ey k b))=true:=by subst h;exact⟨rfl,rfl⟩
theorem V5 (h:k=7):(if Ey k b then 0 else HP k a b)=md (0-a)∧(!decide (Ey k b))=true:=by subst h;exact⟨rfl,rfl⟩
theorem Sa (h:k≠3∧k≠4∧k≠5∧k≠7)(hb:b=0):(if Ey k b then 0 else HP k a b)=0∧(!decide (Ey k b))=false:=by
 have hz:Ey k b:=⟨h.1,h.2.1,h.2.2.1,h.2.2.2,hb⟩
 rw[if_pos hz,A7 hz];exact⟨rfl,rfl⟩
theorem V6 (h:k≠3∧k≠4∧k≠5∧k≠7)(hb:b≠0):(if Ey k b then 0 else HP k a b)=md (a*inv b)∧(!decide (Ey k b))=true:=by
 have hz:¬Ey k b:=fun h9=>hb h9.2.2.2.2
 rw[if_neg hz,A8 hz]
 refine⟨?_,rfl⟩
 unfold HP
 rw[if_neg h.1,if_neg h.2.1,if_neg h.2.2.1,if_neg h.2.2.2]
theorem Ox (k a b:Int):0≤HP k a b∧HP k a b<1000003:=by unfold HP;split <;> (try split) <;> (try split) <;> (try split) <;> exact BK _
end
theorem J7 {k:Int}{xs:List Int}{T:Tp}{t:Nat}(h:¬Ey k (T.at (Kw k xs).b)):UW k xs t T=.ok (((T.vals.length:Nat):Int),T.put (Kw k xs) (HP k (T.at (Kw k xs).a) (T.at (Kw k xs).b))) t:=if_neg h
theorem Sb {k:Int}{xs:List Int}{T:Tp}{t:Nat}(h:Ey k (T.at (Kw k xs).b)):UW k xs t T=.err 6:=if_pos h
theorem fi {α:Type}{r:Rs α}{x:α}{s:Nat}{c c1:Int}(h:AT (go c r) x s c1)(h1:c1=0):c=0:=by
 by_cases hc:c=0
 ·exact hc
 ·rw[Dv hc]at h
  have:=h.1
  omega
theorem Sc (k a b:Int):0≤(if Ey k b then 0 else HP k a b)∧(if Ey k b then 0 else HP k a b)<1000003:=by
 have:=Ox k a b
 split <;> omega
theorem fj {Q:Prop} [Decidable Q] (h:(!(!decide Q))=true):Q:=by simpa using h
theorem kC {Q:Prop} [Decidable Q] (h:(!(!decide Q))=false):¬Q:=by simpa using h
theorem Hq {k:Int}{xs:List Int}(h:k≠7):Kw k xs=⟨k,xs.getD 0 0,xs.getD 1 0,0⟩:=by unfold Kw;rw[if_neg h]
theorem V7 {k:Int}{xs:List Int}(h:k=7):Kw k xs=⟨k,xs.getD 0 0,0,0⟩:=by unfold Kw;rw[if_pos h]
theorem Yp {k c:Int}{xs:List Int}{T:Tp}{s s2:Nat}{z:RI}(hc:c=0)(h7:k≠7)(hz:Ey k (T.vals.getD (xs.getD 1 0).toNat 0)):AT (go c (UW k xs s T)) z s2 6:=by
 subst hc
 rw[CV,Sb (by rw[Hq h7];exact hz)];exact AT.mk_err rfl (by decide)
theorem Yq {k c:Int}{xs:List Int}{T:Tp}{s:Nat}(hc:c=0)(h7:k≠7)(hz:¬Ey k (T.vals.getD (xs.getD 1 0).toNat 0)) :
  AT (go c (UW k xs s T)) (((T.vals.length:Nat):Int),T.put ⟨k,xs.getD 0 0,xs.getD 1 0,0⟩ (if Ey k (T.vals.getD (xs.getD 1 0).toNat 0)then 0 else HP k (T.vals.getD (xs.getD 0 0).toNat 0) (T.vals.getD (xs.getD 1 0).toNat 0))) s c:=by
 subst hc
 rw[CV,J7 (by rw[Hq h7];exact hz),Hq h7,if_neg hz];exact AT.mk_ok rfl
theorem Yr {k c:Int}{xs:List Int}{T:Tp}{s:Nat}{b:Int}(hc:c=0)(h7:k=7) :
  AT (go c (UW k xs s T)) (((T.vals.length:Nat):Int),T.put ⟨k,xs.getD 0 0,0,0⟩ (if Ey k b then 0 else HP k (T.vals.getD (xs.getD 0 0).toNat 0) b)) s c:=by
 subst hc
 subst h7
 rw[CV,J7 (fun h=>h.2.2.2.1 rfl),V7 rfl,if_neg (fun h:Ey 7 b=>h.2.2.2.1 rfl)];exact AT.mk_ok rfl
theorem Zp {k b:Int}(h:k=7):¬Ey k b:=fun h9=>h9.2.2.2.1 h
def Kx (T:Tp)(env:List Int):Prop:=∀k,k<env.length→0≤env.getD k 0∧env.getD k 0<((T.vals.length:Nat):Int)
theorem Kx.mono {T T':Tp}{env:List Int}(h:Kx T env)(hl:T.vals.length≤T'.vals.length):Kx T' env:=fun k hk=>by have:=h k hk;omega
theorem Kx.snoc {T:Tp}{env:List Int}{r:Int}(h:Kx T env)(hr:0≤r∧r<((T.vals.length:Nat):Int)):Kx T (env++[r]):=fun k hk=>by
 rw[List.length_append,List.length_singleton]at hk
 rw[Pm]
 split
 ·exact hr
 ·exact h k (by omega)
theorem Kx.nil (T:Tp):Kx T []:=fun k hk=>absurd hk (Nat.not_lt_zero k)
theorem E1 {Q:Nat→Prop}:∀b∈([]:List Nat),Q b:=fun b hb=>(by cases hb)
theorem AE.drewL {F:List Nat}{a b:World}(h:AE F a b):AE F a.drew b:=⟨h.os,h.tape,h.output,h.size,h.block⟩
def Ts {α:Type}(S:List Nat)(B:Nat)(E:Bc α)(H:Array Obj)(v:Value)(x:α):Prop:=∃F,E H v x F∧∀b∈F,b∉S∧B≤b
theorem Ts.rn {α:Type}{S:List Nat}{B:Nat}{E:Bc α}{H:Array Obj}{v:Value}{x:α}(h:Ts S B E H v x):RN S E H v x:=by
 obtain⟨F,h1,h2⟩:=h
 exact⟨F,h1,fun b hb=>(h2 b hb).1⟩
theorem Ts.upd {α:Type}{S F:List Nat}{B:Nat}{E:Bc α}(hE:BH E){w w':World}{v:Value}{x:α}(h:Ts S B E w.heap v x)(c:AE F w w')(hF:∀b∈F,b∈S∨b<B):Ts S B E w'.heap v x:=by
 obtain⟨G,h1,h2⟩:=h
 refine⟨G,hE.stable h1 fun b hb=>c.block b (hE.lt h1 b hb) fun hm=>?_,h2⟩
 rcases hF b hm with hh|hh
 ·exact(h2 b hb).1 hh
 ·have:=(h2 b hb).2;omega
theorem Ts.of_ow {e:TypeId}{B T:Nat}{H:Array Obj}{v:Value}{xs:List Int}{F S:List Nat}(h:Ow (AS rI e) B T H v xs F)(hS:∀b∈F,b∉S):Ts S B (B3 rI) H v xs:=⟨F,h.own.rd id,fun b hb=>⟨hS b hb,h.low b hb⟩⟩
structure Gh (S S':List Nat)(w w':World):Prop where
 sub:∀b∈S,b∈S'
 new:∀b∈S',b∈S∨w.heap.size≤b
 lt:∀b∈S',b<w'.heap.size
 chg:AE S w w'
section
variable {S S' S'':List Nat} {w w' w'':World} {g:Nat}
theorem Gh.refl (h:∀b∈S,b<w.heap.size):Gh S S w w:=⟨fun _ h=>h,fun _ h=>.inl h,h,AE.refl S w⟩
theorem Gh.trans (h:Gh S S' w w')(k:Gh S' S'' w' w''):Gh S S'' w w'' :=
 ⟨fun b hb=>k.sub b (h.sub b hb),QJ h.new k.new h.chg.size,k.lt,h.chg.stp k.chg h.new⟩
theorem Gh.ext (h:Gh S S' w w')(k:Az w' w''):Gh S S' w w'':=⟨h.sub,h.new,fun b hb=>Nat.lt_of_lt_of_le (h.lt b hb) k.size,h.chg.ext k⟩
theorem Gh.drew (h:Gh S S' w w'):Gh S S' w w'.drew:=⟨h.sub,h.new,h.lt,h.chg.drew⟩
theorem Gh.of_drew (h:Gh S S' w.drew w'):Gh S S' w w':=⟨h.sub,h.new,h.lt,h.chg.of_drew⟩
theorem Gh.set (h:Gh S S' w w')(hg:g∈S)(k:AE [g] w' w''):Gh S S' w w'':=⟨h.sub,h.new,fun b hb=>Nat.lt_of_lt_of_le (h.lt b hb) k.size,h.chg.trans (k.sub (Bg hg))⟩
theorem Gh.more {F:List Nat}(h:Gh S S' w w')(k:AE F w' w'')(hF:∀b∈F,b∈S):Gh S S' w w'':=⟨h.sub,h.new,fun b hb=>Nat.lt_of_lt_of_le (h.lt b hb) k.size,h.chg.trans (k.sub hF)⟩
theorem Gh.fresh {F:List Nat}(h:Gh S S' w w')(k:AE F w' w'')(hF:∀b∈F,w.heap.size≤b):Gh S S' w w'':=⟨h.sub,h.new,fun b hb=>Nat.lt_of_lt_of_le (h.lt b hb) k.size,h.chg.fresh k hF⟩
end
structure Zq (T T':Tp)(s0 s1:Nat)(c1:Int):Prop where
 bnd:KW T' s1
 num:s1≤3000∧(0≤c1∧c1≤9)∧T.vals.length≤T'.vals.length∧T'.vals.length+s0≤T.vals.length+s1∧T'.grd.length+s0≤T.grd.length+s1
@[simp] theorem Hr (T:Tp)(c:AF)(v:Int):(T.put c v).vals.length=T.vals.length+1:=by simp[Tp.put]
@[simp] theorem QL (T:Tp)(c:AF)(v:Int):(T.put c v).code.length=T.code.length+1:=by simp[Tp.put]
@[simp] theorem V8 (T:Tp)(c:AF)(v:Int):(T.put c v).grd=T.grd:=rfl
@[simp] theorem PN (T:Tp)(r:Int)(z:Bool):(T.guard r z).vals=T.vals:=rfl
@[simp] theorem PO (T:Tp)(r:Int)(z:Bool):(T.guard r z).grd.length=T.grd.length+1:=by simp[Tp.guard]
theorem RN.of_ow {e:TypeId}{B T:Nat}{H:Array Obj}{v:Value}{xs:List Int}{F S:List Nat}(h:Ow (AS rI e) B T H v xs F)(hS:∀b∈F,b∉S):RN S (B3 rI) H v xs:=⟨F,h.own.rd id,hS⟩
theorem CJ.len {t1 t2 t3:TypeId}{S:List Nat}{g:Nat}{H:Array Obj}{vc vg vv:Value}{T:Tp}(h:CJ t1 t2 t3 S g H vc vg vv T):T.code.length≤maxLen∧T.grd.length≤maxLen∧T.vals.length≤maxLen:=by
 obtain⟨Fc,Fg,Fv,h1,h2,h3,_⟩:=h
 exact⟨h1.own.lenle,h2.own.lenle,h3.own.lenle⟩
end
section
def JQ (a:List Int):Nat→Tp
 |0=>⟨[],[],[]⟩
 |k+1=>(JQ a k).put ⟨1,0,0,((k:Nat):Int)⟩ (a.getD k 0)
def HI (k:Nat):List Int:=(List.range k).map fun i=>((i:Nat):Int)
@[simp] theorem H5 (k:Nat):(HI k).length=k:=by simp[HI]
theorem QM (k:Nat):HI (k+1)=HI k++[((k:Nat):Int)]:=by simp[HI,List.range_succ]
theorem PP {k j:Nat}(h:j<k):(HI k).getD j 0=((j:Nat):Int):=by
 unfold HI
 rw[B5 (d:=0) (by simpa using h)]
 simp[h]
@[simp] theorem Ky (a:List Int):∀k,(JQ a k).vals.length=k
 |0=>rfl
 |k+1=>by show((JQ a k).put _ _).vals.length=_;rw[Hr,Ky a k]
@[simp] theorem Oy (a:List Int):∀k,(JQ a k).code.length=k
 |0=>rfl
 |k+1=>by show((JQ a k).put _ _).code.length=_;rw[QL,Oy a k]
theorem V9 (a:List Int):∀k,(JQ a k).grd=[]
 |0=>rfl
 |k+1=>by show((JQ a k).put _ _).grd=_;rw[V8,V9 a k]
theorem PQ (a:List Int):∀k,k≤a.length→(JQ a k).vals=a.take k
 |0,_=>rfl
 |k+1,h=>by
  show(JQ a k).vals++[a.getD k 0]=_
  rw[PQ a k (by omega),Cr 0 (by omega)]
theorem fk {a:List Int}(hn:B7 a=true)(h:a.length≤12):KW (JQ a a.length) 0:=by
 refine⟨by simp,by simp;omega,by rw[V9];simp,?_⟩
 rw[PQ a _ (A9 _),List.take_length];exact hn
theorem fl (a:List Int)(k:Nat):Kx (JQ a k) (HI k):=fun j hj=>by
 rw[H5]at hj
 rw[PP hj,Ky];omega
def Na (p:List Fn)(f:Nat)(a:List Int):Rs RL:=Il (L5 p f) (p.getD f Fn.zero).outs (HI a.length) 0 (JQ a a.length)
section rcm
variable {t1 t2 t3:TypeId} {S:List Nat} {g:Nat} {w w':World} {vc vg vv:Value} {T:Tp}
theorem CJ.nil:CJ t1 t2 t3 S g w.heap (.slice none 0 0) (.slice none 0 0) (.slice none 0 0) ⟨[],[],[]⟩ :=
 ⟨[],[],[],⟨.inl ⟨rfl,rfl,rfl⟩,List.nodup_nil,E1,E1⟩,⟨.inl ⟨rfl,rfl,rfl⟩,List.nodup_nil,E1,E1⟩,⟨.inl ⟨rfl,rfl,rfl⟩,List.nodup_nil,E1,E1⟩,
  ⟨E1,E1,E1⟩,⟨List.not_mem_nil,List.not_mem_nil,List.not_mem_nil⟩,E1,E1,E1⟩
theorem AE.toExt {F:List Nat}(h:AE F w w')(hF:∀b∈F,w.heap.size≤b):Az w w':=⟨h.os,h.tape,h.output,h.size,fun k hk=>h.block k hk fun hm=>by have:=hF k hm;omega⟩
end rcm
def RG {α:Type}(T:Nat)(E:Bc α)(H:Array Obj)(v:Value)(x:α):Prop:=∃F,E H v x F∧∀b∈F,T≤b
theorem Ts.rg {α:Type}{S:List Nat}{B T:Nat}{E:Bc α}{H:Array Obj}{v:Value}{x:α}(h:Ts S B E H v x)(hT:T≤B):RG T E H v x:=by
 obtain⟨F,h1,h2⟩:=h
 exact⟨F,h1,fun b hb=>Aa hT (h2 b hb).2⟩
theorem RG.rnG {α:Type}{T g:Nat}{E:Bc α}{w:World}{v:Value}{x:α}(hE:BH E)(h:RG T E w.heap v x)(hg:g<T∨w.heap.size≤g):RN [g] E w.heap v x:=by
 obtain⟨F,h1,h2⟩:=h
 refine⟨F,h1,fun b hb hm=>?_⟩
 rw[Ab hm]at hb
 have:=h2 g hb
 have:=hE.lt h1 g hb
 omega
theorem CJ.readsG {t1 t2 t3:TypeId}{S:List Nat}{g n:Nat}{w:World}{vc vg vv:Value}{T:Tp}(h:CJ t1 t2 t3 S g w.heap vc vg vv T)(hS:∀b∈S,n≤b):RG n (Dp 4 QI) w.heap vc T.code∧RG n (Dp 2 S7) w.heap vg T.grd:=by
 obtain⟨Fc,Fg,Fv,h1,h2,h3,h4,h5,h6,h7,h8⟩:=h
 exact⟨⟨Fc,h1.own.rd AO,fun b hb=>hS b (h6 b hb)⟩,⟨Fg,h2.own.rd AW,fun b hb=>hS b (h7 b hb)⟩⟩
theorem AT.go0 {α:Type}{r:Rs α}{x:α}{s:Nat}{c:Int}(h:AT (go ((0:Nat):Int) r) x s c):AT r x s c:=h
theorem LD.part {H:Array Obj}{g k:Nat}{cs ds:List Value}(h:BX H g cs)(hl:k+ds.length≤cs.length)(hd:∀i,i<ds.length→ds.getD i undef=cs.getD (k+i) undef):LD H (.pointer (some ⟨g,k,none⟩)) ds:=by
 obtain⟨e,h⟩:=h
 refine⟨g,k,rfl,fun i hi=>?_⟩
 simp only[BV,h]
 rw[hd i hi]
 simp[show k+i<cs.length by omega]
end
section
def IP (p:List Fn)(f:Int):Int:=if Ln p=true then(if 0≤f∧f≤((p.length:Nat):Int)-1 then 0 else 2)else 1
def HZ (p:List Fn)(f:Int)(pr:Int→Int→Bool):Int :=
 if IP p f=0 then(if pr (p.getD f.toNat Fn.zero).params (((p.getD f.toNat Fn.zero).outs.length:Nat):Int)=true then 0 else 2)else IP p f
theorem Sd {p:List Fn}{f:Int}(h:IP p f=0):Ln p=true∧0≤f∧f<((p.length:Nat):Int):=by
 unfold IP at h
 split at h
 ·split at h
  ·rename_i h1 h2;exact⟨h1,h2.1,by omega⟩
  ·omega
 ·omega
theorem Zr {p:List Fn}{f:Int}{pr:Int→Int→Bool}(h:HZ p f pr=0):IP p f=0∧pr (p.getD f.toNat Fn.zero).params (((p.getD f.toNat Fn.zero).outs.length:Nat):Int)=true:=by
 unfold HZ at h
 split at h
 ·rename_i h1
  split at h
  ·rename_i h2;exact⟨h1,h2⟩
  ·omega
 ·rename_i h1;exact absurd h h1
def Qh (a:List Sr):Nat:=(a.getD 0 []).length-1
theorem dE {n k:Nat}{s:Sr}(h:Bs n s)(hk:k<n):J2 (s.getD k 0)=true:=by
 have hk':k<s.length:=by rw[h.1];exact hk
 have:=h.2
 unfold B7 at this
 have h2:=List.all_eq_true.1 this s[k] (List.getElem_mem hk')
 rwa [show s.getD k 0=s[k]from by simp[hk']]
section
variable {p:List Fn} {f o:Int} {a:Sr}
end
end
section
mutual
def IA:Ex→Int→Int
 |.mk _ _ _ _ l,x=>Dh l (x-1)
def Dh:List Ex→Int→Int
 |[],x=>x
 |e::l,x=>if 0≤x then Dh l (IA e x)else x
end
theorem Ys (e:Ex)(x:Int):IA e x=Dh e.kids (x-1):=by cases e;rw[IA];rfl
theorem Mb {l:List Ex}{x:Int}(h:x<0):Dh l x=x:=by
 cases l with
 |nil=>rw[Dh]
 |cons e l=>rw[Dh,if_neg (by omega)]
mutual
theorem Mc:∀(e:Ex)(x:Int),0≤x→(IA e x=x-(e.size:Int)∧(e.size:Int)≤x)∨(IA e x = -1∧x<(e.size:Int))
 |.mk k n q c l,x,h=>by
  rw[IA,Ex.size]
  by_cases h0:x=0
  ·subst h0
   right
   rw[Mb (by omega)]
   refine⟨by omega,by omega⟩
  ·rcases Im l (x-1) (by omega)with h1|h1
   ·left;omega
   ·right;omega
theorem Im:∀(l:List Ex)(x:Int),0≤x→(Dh l x=x-(Ex.sizes l:Int)∧(Ex.sizes l:Int)≤x)∨(Dh l x = -1∧x<(Ex.sizes l:Int))
 |[],x,h=>by rw[Dh,Ex.sizes];left;omega
 |e::l,x,h=>by
  rw[Dh,if_pos h,Ex.sizes]
  rcases Mc e x h with h1|h1
  ·rw[h1.1]
   rcases Im l (x-(e.size:Int)) (by omega)with h2|h2
   ·left;omega
   ·right;omega
  ·rw[h1.1,Mb (by omega)]
   right;omega
end
theorem NR (e:Ex):∀(l:List Ex)(x:Int),Dh (l++[e]) x=if 0≤Dh l x then IA e (Dh l x)else Dh l x
 |[],x=>by
  rw[List.nil_append,Dh,Dh]
  split
  ·rw[Dh]
  ·rfl
 |a::l,x=>by
  rw[List.cons_append,Dh,Dh]
  by_cases h:0≤x
  ·rw[if_pos h,if_pos h,NR e l]
  ·rw[if_neg h,if_neg h,if_neg h]
theorem NS {l:List Ex}{k:Nat}(hk:k<l.length){x:Int}(h:0≤Dh (l.take k) x):Dh (l.take (k+1)) x=IA (l.getD k Ex.zero) (Dh (l.take k) x):=by
 rw[List.take_succ_eq_append_getElem hk,NR,if_pos h]
 simp[hk]
theorem PR:∀(l r:List Ex)(x:Int),Dh l x<0→Dh (l++r) x=Dh l x
 |[],r,x,h=>by rw[Dh]at h ⊢;rw[List.nil_append,Mb h]
 |a::l,r,x,h=>by
  rw[Dh]at h ⊢
  rw[List.cons_append,Dh]
  split
  ·rename_i h0;rw[if_pos h0]at h;exact PR l r _ h
  ·rfl
theorem NT {l:List Ex}{k:Nat}{x:Int}(h:Dh (l.take k) x<0):Dh l x=Dh (l.take k) x:=by
 have:=PR (l.take k) (l.drop k) x h
 rwa [List.take_append_drop]at this
theorem PS {e:Ex}{x:Int}(h:0≤x):-1≤IA e x∧IA e x≤x:=by
 rcases Mc e x h with h1|h1 <;> omega
theorem Va {e:Ex}{x:Int}(h:0≤x):0≤IA e x↔(e.size:Int)≤x:=by
 rcases Mc e x h with h1|h1 <;> omega
def Tt (k:Int):Int:=if k=1∨k=2 then 0 else if k=3∨k=4∨k=5∨k=6∨k=9 then 2 else if k=7 then 1 else if k=8 then 3 else -1
theorem Oz {p q:Prop} [Decidable p] [Decidable q] (h:p↔q):decide p=decide q:=decide_eq_decide.2 h
section
variable {p:List Fn} {F vars:Int} {e:Ex}
theorem Tu (h:Kn p F vars e=true)(h10:e.kind≠10)(h11:e.kind≠11):e.pick=0∧e.count=0∧Tt e.kind=((e.kids.length:Nat):Int)∧(e.kind≠1→e.kind≠2→e.num=0):=by
 unfold Kn Fp at h
 unfold Tt
 split at h
 ·rename_i h1
  simp only[Bool.and_eq_true,decide_eq_true_eq]at h
  rw[if_pos (by omega)]
  exact⟨h.1.1,h.1.2,by omega,fun hh=>absurd h1 hh⟩
 ·split at h
  ·rename_i h1
   simp only[Bool.and_eq_true,decide_eq_true_eq]at h
   rw[if_pos (by omega)]
   exact⟨h.1.1,h.1.2,by omega,fun _ hh=>absurd h1 hh⟩
  ·split at h
   ·simp only[Bool.and_eq_true,decide_eq_true_eq]at h
    rw[if_neg (by omega),if_pos (by omega)]
    exact⟨h.1.1,h.1.2,by omega,fun _ _=>h.2.1⟩
   ·split at h
    ·simp only[Bool.and_eq_true,decide_eq_true_eq]at h
     rw[if_neg (by omega),if_neg (by omega),if_pos (by omega)]
     exact⟨h.1.1,h.1.2,by omega,fun _ _=>h.2.1⟩
    ·split at h
     ·simp only[Bool.and_eq_true,decide_eq_true_eq]at h
      rw[if_neg (by omega),if_neg (by omega),if_neg (by omega),if_pos (by omega)]
      exact⟨h.1.1,h.1.2,by omega,fun _ _=>h.2.1⟩
     ·split at h
      ·omega
      ·cases h
theorem dF (h10:e.kind≠10)(h11:e.kind≠11)(h:Tt e.kind≠((e.kids.length:Nat):Int)∨e.pick≠0∨e.count≠0):false=Kn p F vars e:=by
 cases hw:Kn p F vars e with
 |false=>rfl
 |true =>
  have:=Tu hw h10 h11
  omega
theorem kD (hk:Tt e.kind=((e.kids.length:Nat):Int))(h1:e.kind=1)(hp:e.pick=0)(hc:e.count=0):J2 e.num=Kn p F vars e:=by
 have hl:e.kids.length=0:=by unfold Tt at hk;rw[if_pos (by omega)]at hk;omega
 unfold Kn Fp
 rw[if_pos h1,A7 hp,A7 hc,A7 hl];rfl
theorem kE (hk:Tt e.kind=((e.kids.length:Nat):Int))(h1:e.kind=2)(hp:e.pick=0)(hc:e.count=0):(decide (((0:Nat):Int)≤e.num) && decide (e.num≤vars-1))=Kn p F vars e:=by
 have hl:e.kids.length=0:=by unfold Tt at hk;rw[if_pos (by omega)]at hk;omega
 unfold Kn Fp Hm
 rw[if_neg (by omega),if_pos h1,A7 hp,A7 hc,A7 hl];rfl
theorem kF (hk:Tt e.kind=((e.kids.length:Nat):Int))(h1:e.kind≠1)(h2:e.kind≠2)(h10:e.kind≠10)(h11:e.kind≠11)(hp:e.pick=0)(hc:e.count=0):decide (e.num=0)=Kn p F vars e:=by
 unfold Tt at hk
 unfold Kn Fp
 rw[if_neg h1,if_neg h2,A7 hp,A7 hc]
 rw[if_neg (by omega)]at hk
 split at hk
 ·rename_i h3
  rw[if_pos h3,A7 (show e.kids.length=2 by omega)];simp
 ·rename_i h3
  rw[if_neg h3]
  split at hk
  ·rename_i h4
   rw[if_pos h4,A7 (show e.kids.length=1 by omega)];simp
  ·rename_i h4
   rw[if_neg h4]
   split at hk
   ·rename_i h5
    rw[if_pos h5,A7 (show e.kids.length=3 by omega)];simp
   ·omega
end
end
section
def KX (n:Nat)(C:Ca)(e:Ex)(env:List Sr)(s:Nat):Rs Sr:=(E7 n C e.kids env s).bind fun xs t =>
 if e.kind=10 then C.one e.num.toNat e.pick.toNat xs t else(Lk (C.all e.num.toNat) e.count.toNat xs t).bind fun ys u=>.ok (ys.getD e.pick.toNat []) u
section
variable {n:Nat} {C:Ca} {e:Ex} {env:List Sr} {s s1 s2:Nat} {c c1 c2:Int} {x y:Sr} {xs ys:List Sr}
theorem NU (hc:c=0)(hs:s+1≤3000)(hk:e.kind=10∨e.kind=11)(h:AT (go c (KX n C e env (s+1))) y s2 c2):AT (go c (Eb n C e env s)) y s2 c2:=by
 subst hc
 rw[CV]at h ⊢
 rw[M6 hs (by omega) (by omega) (by omega) (by omega)]
 unfold KX at h
 cases hv:E7 n C e.kids env (s+1)with
 |err d=>rw[hv]at h;exact h
 |ok zs t =>
  rw[hv]at h
  rw[Rs.bind_ok]at h ⊢
  by_cases h10:e.kind=10
  ·rw[if_pos h10]at h ⊢;exact h
  ·rw[if_neg h10]at h;rw[if_neg h10,if_pos (by omega)];exact h
theorem Vb {α:Type}{r:Rs α}{v:α}(h:AT (go c r) v s1 c1)(hc:c≠0):c1=c:=by
 rw[Dv hc]at h;exact h.1
theorem dG (hl:e.kids.length=1)(h:AT (go c (Eb n C (e.kids.getD 0 Ex.zero) env s)) x s1 c1):AT (go c (E7 n C e.kids env s)) [x] s1 c1:=by
 have h1:=HW (l:=e.kids) (k:=0) (by omega) (Ik n C e.kids env s c) h
 rwa [List.take_of_length_le (by omega)]at h1
theorem Kz (hl:e.kids.length=2)(h:AT (go c (Eb n C (e.kids.getD 0 Ex.zero) env s)) x s1 c1)(h2:AT (go c1 (Eb n C (e.kids.getD 1 Ex.zero) env s1)) y s2 c2):AT (go c (E7 n C e.kids env s)) [x,y] s2 c2:=by
 have h1:=HW (l:=e.kids) (k:=0) (by omega) (Ik n C e.kids env s c) h
 have h3:=HW (l:=e.kids) (k:=1) (by omega) h1 h2
 rwa [List.take_of_length_le (by omega)]at h3
theorem Hs (hc:c=0)(hs:s+1≤3000)(hk:e.kind=3∨e.kind=4∨e.kind=5∨e.kind=6∨e.kind=7)(hr:AT (go c (E7 n C e.kids env (s+1))) xs s1 c1)
  (h:c1=0→AT (Ll e.kind xs s1) y s1 c2) (h0:c1≠0→c2=c1):AT (go c (Eb n C e env s)) y s1 c2:=by
 by_cases hc1:c1=0
 ·exact cL hc hs (by omega) (by omega) (by omega) (by omega) (by omega) (by omega) hr hc1 (h hc1)
 ·rw[h0 hc1];exact To hc hs (by omega) (by omega) (by omega) (by omega) hr hc1
theorem Vc {p:List Fn}{F:Nat}(hk:e.kind=10)(hF:e.num.toNat<F)(hr:AT (go c (E7 n (H1 p n F) e.kids env s)) xs s1 c1)
  (h2:AT (go c1 (Eb n (H1 p n e.num.toNat) ((p.getD e.num.toNat Fn.zero).outs.getD e.pick.toNat Ex.zero) xs s1)) y s2 c2):AT (go c (KX n (H1 p n F) e env s)) y s2 c2:=by
 by_cases hc:c=0
 ·subst hc
  rw[CV]at hr ⊢
  unfold KX
  by_cases hc1:c1=0
  ·subst hc1;rw[hr.bindO,if_pos hk,S3 hF];rw[CV]at h2;exact h2
  ·rw[hr.bindE hc1];rw[Dv hc1]at h2;exact h2
 ·have e1:=Vb hr hc
  subst e1
  rw[Dv hc]at h2 ⊢;exact h2
theorem Vd {f:List Sr→Nat→Rs (List Sr)}{k:Nat}(h:AT (go c (Lk f k xs s)) ys s1 c1){zs:List Sr}(h2:AT (go c1 (f ys s1)) zs s2 c2):AT (go c (Lk f (k+1) xs s)) zs s2 c2:=by
 by_cases hc:c=0
 ·subst hc
  rw[CV]at h ⊢
  show AT ((Lk f k xs s).bind f) _ _ _
  by_cases hc1:c1=0
  ·subst hc1;rw[h.bindO];rw[CV]at h2;exact h2
  ·rw[h.bindE hc1];rw[Dv hc1]at h2;exact h2
 ·have e1:=Vb h hc
  subst e1
  rw[Dv hc]at h2 ⊢;exact h2
theorem Ve {f:List Sr→Nat→Rs (List Sr)}(hc:0=0):AT (go c (Lk f 0 xs s)) xs s c:=by
 by_cases h:c=0
 ·subst h;exact⟨rfl,rfl,rfl⟩
 ·exact AT.mk_err (Dv h _) h
theorem Vf {p:List Fn}{F:Nat}(hk:e.kind≠10)(hF:e.num.toNat<F)(hr:AT (go c (E7 n (H1 p n F) e.kids env s)) xs s1 c1)
  (h2:AT (go c1 (Lk (fun a t=>E7 n (H1 p n e.num.toNat) (p.getD e.num.toNat Fn.zero).outs a t) e.count.toNat xs s1)) ys s2 c2):AT (go c (KX n (H1 p n F) e env s)) (ys.getD e.pick.toNat []) s2 c2:=by
 have hl:(H1 p n F).all e.num.toNat=fun a t=>E7 n (H1 p n e.num.toNat) (p.getD e.num.toNat Fn.zero).outs a t:=funext fun a=>funext fun t=>JN hF
 by_cases hc:c=0
 ·subst hc
  rw[CV]at hr ⊢
  unfold KX
  by_cases hc1:c1=0
  ·subst hc1
   rw[hr.bindO,if_neg hk,hl]
   rw[CV]at h2
   by_cases h0:c2=0
   ·subst h0;rw[h2.bindO];exact AT.mk_ok rfl
   ·rw[h2.bindE h0];exact AT.mk_err rfl h0
  ·rw[hr.bindE hc1]
   rw[Dv hc1]at h2
   exact AT.mk_err (by rw[h2.1]) (by rw[h2.1];exact hc1)
 ·have e1:=Vb hr hc
  subst e1
  rw[Dv hc]at h2 ⊢
  exact AT.mk_err (by rw[h2.1]) (by rw[h2.1];exact hc)
end
end
section
section
variable {p:List Fn} {f:Int} {y:List Sr}
end
def FG (p:List Fn)(f:Nat)(s:Sr):Int:=HF p 1 f (Cq s)
def FA (p:List Fn)(f:Nat)(s:Sr):Sr:=(Dr p 1 f (Cq s)).map fun s=>s.getD 0 0
theorem DW {a:Sr}(h:B7 a=true):Bt 1 (Cq a):=by
 intro k hk
 unfold Cq at hk ⊢
 rw[List.length_map]at hk
 rw[List.getD_eq_getElem?_getD,List.getElem?_map,List.getElem?_eq_getElem hk]
 refine⟨rfl,?_⟩
 unfold B7 at h ⊢
 have:=List.all_eq_true.1 h _ (List.getElem_mem hk)
 simpa using this
theorem Md {x:List Sr}{n:Nat}(h:Bt (n+1) x):B7 (x.map fun s=>s.getD 0 0)=true:=by
 unfold B7
 rw[List.all_eq_true]
 intro y hy
 obtain⟨s,hs,rfl⟩:=List.mem_map.1 hy
 obtain⟨k,hk,rfl⟩:=List.mem_iff_getElem.1 hs
 have h2:=h k hk
 rw[DV hk]at h2
 exact dE h2 (by omega)
section
variable {p:List Fn} {f:Nat} {a s:Sr} {k n:Nat}
structure fm (p:List Fn)(f:Nat)(s:Sr):Prop where
 code:0≤FG p f s∧FG p f s≤9
 len:FG p f s=0→(FA p f s).length=(p.getD f Fn.zero).outs.length
 num:B7 (FA p f s)=true
 non:FG p f s≠0→FA p f s=[]
theorem fm.mk' (h:Zn p 1 f (Cq s)):fm p f s :=
 ⟨h.code,fun h0=>by unfold FA;rw[List.length_map];exact h.len h0,Md h.ser,fun h0=>by unfold FA;rw[h.non h0];rfl⟩
end
section
variable {p:List Fn} {f n:Int} {a:Sr}
end
end
def JS (t:Nat)(x:Int):Int:=if ((t:Nat):Int)≤x then x-((t:Nat):Int)else -1
theorem OA (t:Nat){x:Int}(h:0≤x):-1≤JS t x∧JS t x≤x:=by unfold JS;split <;> omega
theorem Lq {t:Nat}{x:Int}(h:0≤JS t x):JS t x=x-((t:Nat):Int)∧((t:Nat):Int)≤x:=by
 unfold JS at h ⊢
 split at h
 ·rename_i h1;rw[if_pos h1];exact⟨rfl,h1⟩
 ·omega
theorem JT {t:Nat}{x:Int}(h0:0≤x)(h:JS t x<0):x<((t:Nat):Int):=by
 unfold JS at h
 split at h <;> omega
theorem Vg {t:Nat}{x y:Int}(h:((t:Nat):Int)≤x)(hy:y=x-((t:Nat):Int)):y=JS t x:=by unfold JS;rw[if_pos h,hy]
theorem KY {t:Nat}{x:Int}(h:x<((t:Nat):Int)):-1=JS t x:=by unfold JS;rw[if_neg (by omega)]
theorem G5:∀(l:List Ex)(k:Nat),Ex.sizes (l.take k)+(l.length-k)≤Ex.sizes l
 |[],k=>by simp[Ex.sizes]
 |e::l,0=>by
  have h:=G5 l 0
  have:=Cb e
  rw[List.take_zero]at h ⊢
  rw[Ex.sizes]at h ⊢
  rw[List.length_cons,Ex.sizes];omega
 |e::l,k+1=>by
  have h:=G5 l k
  rw[List.take_succ_cons,Ex.sizes,Ex.sizes,List.length_cons];omega
def Fn.sz (f:Fn):Nat:=f.name.size+Ex.sizes f.outs
def Fn.szs:List Fn→Nat
 |[]=>0
 |f::l=>f.sz+Fn.szs l
theorem OB:Fn.szs []=0:=rfl
theorem Vh (l:List Fn)(f:Fn):Fn.szs (l++[f])=Fn.szs l+f.sz:=by
 induction l with
 |nil=>simp[Fn.szs]
 |cons g l ih=>rw[List.cons_append,Fn.szs,Fn.szs,ih];omega
theorem Me {l:List Fn}{k:Nat}(hk:k<l.length):Fn.szs (l.take (k+1))=Fn.szs (l.take k)+(l.getD k Fn.zero).sz:=by
 rw[List.take_succ_eq_append_getElem hk,Vh]
 simp[hk]
theorem I0:∀(l:List Fn)(k:Nat),Fn.szs (l.take k)≤Fn.szs l
 |l,0=>by rw[List.take_zero,OB];omega
 |[],k+1=>by simp[Fn.szs]
 |f::l,k+1=>by rw[List.take_succ_cons,Fn.szs,Fn.szs];have:=I0 l k;omega
theorem Vi {l:List Fn}{k:Nat}(hk:k<l.length):(l.getD k Fn.zero).sz≤Fn.szs l:=by
 have h1:=Me hk
 have h2:=I0 l (k+1)
 omega
def OC (p:List Fn):Nat:=p.length+Fn.szs p
theorem dH {p:List Fn}(h:OC p≤1048576):Tq p:=by
 intro k hk
 have h1:=Vi hk
 have h2:(p.getD k Fn.zero).sz=(p.getD k Fn.zero).name.size+Ex.sizes (p.getD k Fn.zero).outs:=rfl
 have h3:OC p=p.length+Fn.szs p:=rfl
 have h4:=G5 (p.getD k Fn.zero).outs 0
 exact⟨by omega,by omega,by omega⟩
section
def Rs.map {α β:Type}(f:α→β)(r:Rs α):Rs β:=match r with
 |.ok x s=>.ok (f x) s
 |.err c=>.err c
abbrev CB (m:Nat)(x:Sr):Sr:=x.take m
theorem DF {m k:Nat}(x:Sr)(h:k<m):(CB m x).getD k 0=x.getD k 0:=by
 simp only[CB,List.getD_eq_getElem?_getD,List.getElem?_take,if_pos h]
theorem Lr {m:Nat}(l:Nat)(f g:Nat→Int)(h:∀k,k<m→f k=g k):EU (min m l) f=CB m (EU l g):=by
 unfold EU CB
 rw[← List.map_take,List.take_range]
 exact List.map_congr_left fun k hk=>h k (by have:=List.mem_range.1 hk;omega)
section
variable {m:Nat} (a b:Sr)
theorem In:(CB m a).length=min m a.length:=List.length_take ..
theorem Vj:DU (CB m a) (CB m b)=CB m (DU a b):=by
 unfold DU;rw[In]
 exact Lr _ _ _ fun k hk=>by rw[DF a hk,DF b hk]
theorem Vk:Dg (CB m a) (CB m b)=CB m (Dg a b):=by
 unfold Dg;rw[In]
 exact Lr _ _ _ fun k hk=>by rw[DF a hk,DF b hk]
theorem Vl (y:Int):CD (CB m a) y=CB m (CD a y):=by
 unfold CD;rw[In]
 exact Lr _ _ _ fun k hk=>by rw[DF a hk]
theorem Se {k:Nat}(hk:k<m):∀i,i≤k+1→N9 (CB m a) (CB m b) k i=N9 a b k i
 |0,_=>rfl
 |i+1,h=>by
  show md (N9 (CB m a) (CB m b) k i+(CB m a).getD i 0*(CB m b).getD (k-i) 0)=md (N9 a b k i+a.getD i 0*b.getD (k-i) 0)
  rw[Se hk i (by omega),DF a (by omega),DF b (by omega)]
theorem Vm:C7 (CB m a) (CB m b)=CB m (C7 a b):=by
 unfold C7;rw[In]
 exact Lr _ _ _ fun k hk=>Se a b hk (k+1) (A9 _)
theorem Sf (o:Sr){k:Nat}(hk:k<m):∀i,i≤k→Of (CB m a) (CB m b) o k i=Of a b o k i
 |0,_=>DF a hk
 |i+1,h=>by
  show md (Of (CB m a) (CB m b) o k i-o.getD i 0*(CB m b).getD (k-i) 0)=md (Of a b o k i-o.getD i 0*b.getD (k-i) 0)
  rw[Sf o hk i (by omega),DF b (by omega)]
theorem Sg (hm:1≤m):∀k,k≤m→IN (CB m a) (CB m b) k=IN a b k
 |0,_=>rfl
 |k+1,h=>by
  rw[IN,IN,Sg hm k (by omega),Sf a b _ (by omega) k (A9 _),DF b (by omega)]
theorem PT:∀ (k j:Nat),j≤k→(IN a b k).take j = IN a b j
  | 0, j, h => by have : j = 0 := by omega
                  subst this; rfl
  | k + 1,j,h=>by
    by_cases e:j = k + 1
    · subst e; rw [List.take_of_length_le (by rw [DZ]; exact A9 _)]
    · rw [IN,List.take_append_of_le_length (by rw [DZ]; omega)]; exact PT k j (by omega)
theorem Vn (hm:1≤m):BR (CB m a) (CB m b)=CB m (BR a b):=by
 unfold BR;rw[In,Sg a b hm _ (by omega)]
 show _=(IN a b a.length).take m
 by_cases h:m≤a.length
 ·rw[PT a b _ _ h,Nat.min_eq_left h]
 ·rw[List.take_of_length_le (by rw[DZ];omega),Nat.min_eq_right (by omega)]
end
theorem Yt {m n:Nat}(x:Int)(h:m≤n):cst m x=CB m (cst n x):=by
 unfold cst CB
 rw[List.take_set,List.take_replicate,Nat.min_eq_left h]
theorem Ls {m:Nat}(env:List Sr)(k:Nat):(env.map (CB m)).getD k []=CB m (env.getD k []):=by
 simp only[List.getD_eq_getElem?_getD,List.getElem?_map]
 cases env[k]? <;> simp[CB]
structure kG (m:Nat)(C C':Ca):Prop where
 one:∀f j xs t,C'.one f j (xs.map (CB m)) t=(C.one f j xs t).map (CB m)
 all:∀f xs t,C'.all f (xs.map (CB m)) t=(C.all f xs t).map (List.map (CB m))
theorem Yu {m:Nat}(hm:1≤m)(k:Int)(xs:List Sr)(t:Nat):Ll k (xs.map (CB m)) t=(Ll k xs t).map (CB m):=by
 unfold Ll
 rw[Ls,Ls]
 split
 ·rw[Vj];rfl
 ·split
  ·rw[Vk];rfl
  ·split
   ·rw[Vm];rfl
   ·split
    ·rw[Vl];rfl
    ·rw[DF _ (by omega)]
     split
     ·rfl
     ·rw[Vn _ _ hm];rfl
section
variable {m n:Nat} {C C':Ca}
theorem Si (hC:kG m C C')(f:Nat):∀(k:Nat)(xs:List Sr)(t:Nat),Lk (C'.all f) k (xs.map (CB m)) t=(Lk (C.all f) k xs t).map (List.map (CB m))
 |0,xs,t=>rfl
 |k+1,xs,t=>by
  rw[Lk,Lk,Si hC f k xs t]
  cases Lk (C.all f) k xs t with
  |err c=>rfl
  |ok ys u=>exact hC.all f ys u
theorem Lt:∀(l:List Ex),(∀e∈l,∀env s,Eb m C' e (env.map (CB m)) s=(Eb n C e env s).map (CB m))→∀env s,E7 m C' l (env.map (CB m)) s=(E7 n C l env s).map (List.map (CB m))
 |[],_,env,s=>by rw[E7,E7];rfl
 |e::l,h,env,s=>by
  rw[E7,E7,h e (List.mem_cons_self ..)]
  cases Eb n C e env s with
  |err c=>rfl
  |ok x t =>
   show(E7 m C' l (env.map (CB m)) t).bind _=_
   rw[Lt l (fun e he=>h e (List.mem_cons_of_mem _ he)) env t]
   simp only[Rs.bind_ok]
   cases E7 n C l env t <;> rfl
theorem Io:∀(l:List Ex)(j:Nat),(∀e∈l,∀env s,Eb m C' e (env.map (CB m)) s=(Eb n C e env s).map (CB m))→∀env s,IO m C' l j (env.map (CB m)) s=(IO n C l j env s).map (CB m)
 |[],j,_,env,s=>by rw[IO,IO];rfl
 |e::l,0,h,env,s=>by rw[IO,IO];exact h e (List.mem_cons_self ..) env s
 |e::l,j+1,h,env,s=>by rw[IO,IO];exact Io l j (fun e he=>h e (List.mem_cons_of_mem _ he)) env s
theorem KA:∀ {l:List Ex}{e:Ex},e∈l→e.size≤Ex.sizes l
 |[],_,h=>by cases h
 |a::l,e,h=>by
  rw[Ex.sizes]
  rcases List.mem_cons.1 h with rfl|h
  ·omega
  ·have:=KA h;omega
theorem Lu (hm:1≤m)(hmn:m≤n)(hC:kG m C C'):∀(z:Nat)(e:Ex),e.size≤z→∀env s,Eb m C' e (env.map (CB m)) s=(Eb n C e env s).map (CB m)
 |0,e,h,_,_=>by have:=Cb e;omega
 |z+1,e,h,env,s=>by
  have hk:∀x∈e.kids,∀env s,Eb m C' x (env.map (CB m)) s=(Eb n C x env s).map (CB m):=fun x hx=>Lu hm hmn hC z x (by have:=Cb e;have:=KA hx;omega)
  rw[Fq,Fq]
  split
  ·rfl
  ·split
   ·rw[Yt _ hmn];rfl
   ·split
    ·rw[Ls];rfl
    ·split
     ·rw[Io _ 0 hk]
      cases IO n C e.kids 0 env (s+1)with
      |err c=>rfl
      |ok x t =>
       show(if (CB m x).getD 0 0=0 then _ else _)=((if x.getD 0 0=0 then _ else _:Rs Sr)).map (CB m)
       rw[DF _ (by omega)]
       split
       ·exact Io _ 1 hk env t
       ·exact Io _ 2 hk env t
     ·split
      ·rw[Io _ 0 hk]
       cases IO n C e.kids 0 env (s+1)with
       |err c=>rfl
       |ok x t =>
        show IO m C' e.kids 1 (env.map (CB m)++[CB m x]) t=(IO n C e.kids 1 (env++[x]) t).map (CB m)
        rw[← Io _ 1 hk,List.map_append];rfl
      ·rw[Lt _ hk]
       cases E7 n C e.kids env (s+1)with
       |err c=>rfl
       |ok xs t =>
        show(if e.kind=10 then _ else _)=((if e.kind=10 then _ else _:Rs Sr)).map (CB m)
        split
        ·exact hC.one _ _ _ _
        ·split
         ·rw[Si hC]
          cases Lk (C.all e.num.toNat) e.count.toNat xs t with
          |err c=>rfl
          |ok ys u=>show Rs.ok _ _=Rs.ok _ _;rw[Ls]
         ·exact Yu hm _ _ _
theorem Sj (p:List Fn)(hm:1≤m)(hmn:m≤n):∀F,kG m (H1 p n F) (H1 p m F)
 |0=>⟨fun _ _ _ _=>rfl,fun _ _ _=>rfl⟩
 |F+1=>by
  have ih:=Sj p hm hmn F
  refine⟨fun f j xs t=>?_,fun f xs t=>?_⟩
  ·show(if f=F then _ else _)=((if f=F then _ else _:Rs Sr)).map (CB m)
   split
   ·exact Lu hm hmn ih _ _ (A9 _) _ _
   ·exact ih.one f j xs t
  ·show(if f=F then _ else _)=((if f=F then _ else _:Rs (List Sr))).map (List.map (CB m))
   split
   ·exact Lt _ (fun e _=>Lu hm hmn ih _ e (A9 _)) _ _
   ·exact ih.all f xs t
end
theorem Vo (p:List Fn){m n:Nat}(hm:1≤m)(hmn:m≤n)(f:Nat)(a:List Sr):ev p m f (a.map (CB m))=(ev p n f a).map (List.map (CB m)) :=
 Lt _ (fun e _=>Lu hm hmn (Sj p hm hmn f) _ e (A9 _)) _ _
theorem Sk (p:List Fn){m n:Nat}(hm:1≤m)(hmn:m≤n)(f:Nat)(a:List Sr):Dr p m f (a.map (CB m))=(Dr p n f a).map (CB m):=by
 unfold Dr;rw[Vo p hm hmn]
 cases ev p n f a <;> rfl
theorem Yw (p:List Fn){m n:Nat}(hm:1≤m)(hmn:m≤n)(f:Nat)(a:List Sr):HF p m f (a.map (CB m))=HF p n f a:=by
 unfold HF;rw[Vo p hm hmn]
 cases ev p n f a <;> rfl
end
section
def dI (n:Nat)(r:Rs Sr):Prop:=match r with
 |.ok x s=>Bs n x∧s≤3000
 |.err c=>c=6∨c=7
def jU (n m:Nat)(r:Rs (List Sr)):Prop:=match r with
 |.ok xs s=>xs.length=m∧Bt n xs∧s≤3000
 |.err c=>c=6∨c=7
structure kH (p:List Fn)(n F:Nat)(C:Ca):Prop where
 one:∀f j xs t,f<F→j<(p.getD f Fn.zero).outs.length→Bt n xs→((xs.length:Nat):Int)=(p.getD f Fn.zero).params→t≤3000→dI n (C.one f j xs t)
 all:∀f xs t,f<F→Bt n xs→((xs.length:Nat):Int)=(p.getD f Fn.zero).params→t≤3000→jU n (p.getD f Fn.zero).outs.length (C.all f xs t)
theorem Bt.nil (n:Nat):Bt n []:=fun k hk=>by simp at hk
theorem Bt.cons {n:Nat}{x:Sr}{xs:List Sr}(hx:Bs n x)(h:Bt n xs):Bt n (x::xs):=by
 intro k hk
 cases k with
 |zero=>exact hx
 |succ k=>exact h k (by simpa using hk)
theorem Vp {n:Nat}{C:Ca}{env:List Sr}:∀(l:List Ex),(∀e∈l,∀s,s≤3000→dI n (Eb n C e env s))→∀s,s≤3000→jU n l.length (E7 n C l env s)
 |[],_,s,hs=>by rw[E7];exact⟨rfl,Bt.nil n,hs⟩
 |e::l,h,s,hs=>by
  rw[E7]
  have h1:=h e (List.mem_cons_self ..) s hs
  cases h2:Eb n C e env s with
  |err c=>rw[h2]at h1;exact h1
  |ok x t =>
   rw[h2]at h1
   have h3:=Vp l (fun e he=>h e (List.mem_cons_of_mem _ he)) t h1.2
   rw[Rs.bind_ok]
   cases h4:E7 n C l env t with
   |err c=>rw[h4]at h3;exact h3
   |ok xs u=>rw[h4]at h3;exact⟨by simp[h3.1],Bt.cons h1.1 h3.2.1,h3.2.2⟩
theorem Zs {p:List Fn}{n F f:Nat}{C:Ca}(hC:kH p n F C)(hf:f<F)(ho:(((p.getD f Fn.zero).outs.length:Nat):Int)=(p.getD f Fn.zero).params):∀(k:Nat)(xs:List Sr)(t:Nat),Bt n xs→xs.length=(p.getD f Fn.zero).outs.length→t≤3000→jU n (p.getD f Fn.zero).outs.length (Lk (C.all f) k xs t)
 |0,xs,t,h1,h2,h3=>⟨h2,h1,h3⟩
 |k+1,xs,t,h1,h2,h3=>by
  have h:=Zs hC hf ho k xs t h1 h2 h3
  rw[Lk]
  cases h4:Lk (C.all f) k xs t with
  |err c=>rw[h4]at h;exact h
  |ok ys u=>rw[h4]at h;rw[Rs.bind_ok];exact hC.all f ys u hf h.2.1 (by rw[h.1];exact ho) h.2.2
theorem fo {n:Nat}{k:Int}{xs:List Sr}{t:Nat}(hx:Bt n xs)(h0:0<xs.length)(ht:t≤3000):dI n (Ll k xs t):=by
 have h1:=(hx 0 h0).1
 unfold Ll
 split
 ·exact⟨⟨by rw[GV];exact h1,HT _ _⟩,ht⟩
 ·split
  ·exact⟨⟨by rw[GW];exact h1,GX _ _⟩,ht⟩
  ·split
   ·exact⟨⟨by rw[Fe];exact h1,Ff _ _⟩,ht⟩
   ·split
    ·exact⟨⟨by rw[FZ];exact h1,Em _ _⟩,ht⟩
    ·split
     ·exact .inl rfl
     ·exact⟨⟨by rw[DT];exact h1,El _ _⟩,ht⟩
theorem Vq {p:List Fn}{n F:Nat}{C:Ca}(hC:kH p n F C):∀(z:Nat)(e:Ex),e.size≤z→∀(env:List Sr)(s:Nat),wf p ((F:Nat):Int) e ((env.length:Nat):Int)=true→Bt n env→s≤3000→dI n (Eb n C e env s)
 |0,e,h,_,_,_,_,_=>by have:=Cb e;omega
 |z+1,e,h,env,s,hw,he,hs=>by
  obtain⟨w1,w2,w3,w4,w5,w6,w7,w8⟩:=Dm (D6 hw)
  have hz:∀j,j<e.kids.length→(e.kids.getD j Ex.zero).size≤z:=fun j hj=>by
   have h2:e.kids.getD j Ex.zero∈e.kids:=by rw[DV hj];exact List.getElem_mem hj
   have:=Cb e;have:=KA h2;omega
  have hk:∀j,j<e.kids.length→¬(e.kind=9∧j=1)→∀t,t≤3000→dI n (IO n C e.kids j env t):=fun j hj hn t ht=>by
   rw[DM _ _ _ _ _ _ hj]
   exact Vq hC z _ (hz j hj) env t (GC hw hj hn) he ht
  rw[Fq]
  split
  ·exact .inr rfl
  ·rename_i hs3
   split
   ·rename_i h1;exact⟨DE (C3.2 (w8 h1)),by omega⟩
   ·split
    ·rename_i h1 h2;exact⟨he _ (by have:=w2 h2;omega),by omega⟩
    ·split
     ·rename_i h1 h2 h8
      have h3:=w5 h8
      have hc:=hk 0 (by omega) (by omega) (s+1) (by omega)
      cases h4:IO n C e.kids 0 env (s+1)with
      |err c=>rw[h4]at hc;exact hc
      |ok x t =>
       rw[h4]at hc;rw[Rs.bind_ok]
       split
       ·exact hk 1 (by omega) (by omega) t hc.2
       ·exact hk 2 (by omega) (by omega) t hc.2
     ·split
      ·rename_i h1 h2 h8 h9
       have h3:=w3 (by omega)
       have hc:=hk 0 (by omega) (by omega) (s+1) (by omega)
       cases h4:IO n C e.kids 0 env (s+1)with
       |err c=>rw[h4]at hc;exact hc
       |ok x t =>
        rw[h4]at hc;rw[Rs.bind_ok,DM _ _ _ _ _ _ (show 1<e.kids.length by omega)]
        refine Vq hC z _ (hz 1 (by omega)) (env++[x]) t ?_ (he.snoc hc.1) hc.2
        have:=M5 hw (by omega) h9
        rw[List.length_append,List.length_singleton];exact this
      ·rename_i h1 h2 h8 h9
       have hc:=Vp (n:=n) (C:=C) (env:=env) e.kids (fun x hx t ht=>by
        obtain⟨j,hj,rfl⟩:=List.mem_iff_getElem.1 hx
        have:=hk j hj (by omega) t ht
        rwa [DM _ _ _ _ _ _ hj,DV hj]at this) (s+1) (by omega)
       cases h4:E7 n C e.kids env (s+1)with
       |err c=>rw[h4]at hc;exact hc
       |ok xs t =>
        rw[h4]at hc;rw[Rs.bind_ok]
        obtain⟨c1,c2,c3⟩:=hc
        split
        ·rename_i h10
         have h6:=w6 (.inl h10)
         exact hC.one _ _ xs t (by omega) (by omega) c2 (by rw[c1];exact h6.2.2.1) c3
        ·split
         ·rename_i h11
          have h6:=w6 (.inr h11);have h7:=w7 h11
          have hl:=Zs hC (f:=e.num.toNat) (by omega) h7.1 e.count.toNat xs t c2 (by omega) c3
          cases h5:Lk (C.all e.num.toNat) e.count.toNat xs t with
          |err c=>rw[h5]at hl;exact hl
          |ok ys u=>rw[h5]at hl;exact⟨hl.2.1 _ (by rw[hl.1];omega),hl.2.2⟩
         ·refine fo c2 ?_ c3
          rw[c1]
          by_cases h7:e.kind=7
          ·rw[w4 h7];decide
          ·rw[w3 (by omega)];decide
theorem Zt {p:List Fn}(hv:Iz p)(n:Nat):∀F,F≤p.length→kH p n F (H1 p n F)
 |0,_=>⟨fun f j xs t h=>by omega,fun f xs t h=>by omega⟩
 |F+1,hF=>by
  have ih:=Zt hv n F (by omega)
  have hO:∀j xs t,j<(p.getD F Fn.zero).outs.length→Bt n xs→((xs.length:Nat):Int)=(p.getD F Fn.zero).params→t≤3000→dI n (Eb n (H1 p n F) ((p.getD F Fn.zero).outs.getD j Ex.zero) xs t):=fun j xs t h2 h3 h4 h5 =>
   Vq ih _ _ (A9 _) xs t (by rw[h4];exact hv.wf F (by omega) j h2) h3 h5
  refine⟨fun f j xs t h1 h2 h3 h4 h5=>?_,fun f xs t h1 h3 h4 h5=>?_⟩
  ·show dI n (if f=F then _ else _)
   split
   ·rename_i e;subst e;exact hO j xs t h2 h3 h4 h5
   ·exact ih.one f j xs t (by omega) h2 h3 h4 h5
  ·show jU n _ (if f=F then _ else _)
   split
   ·rename_i e;subst e
    refine Vp _ (fun e he s hs=>?_) t h5
    obtain⟨j,hj,rfl⟩:=List.mem_iff_getElem.1 he
    have:=hO j xs s hj h3 h4 hs
    rwa [DV hj]at this
   ·exact ih.all f xs t (by omega) h3 h4 h5
theorem dJ {y z:List Sr}(hl:y.length=z.length)(h:∀j,j<y.length→y.getD j []=z.getD j []):y=z :=
 List.ext_getElem hl fun j h1 h2=>by have:=h j h1;rwa [DV h1,DV h2]at this
section
variable {p:List Fn} {f o:Nat} {a:List Int}
theorem Mf (s:Sr)(k:Nat)(x:Int)(j:Nat):(s.set k x).getD j 0=if j=k∧k<s.length then x else s.getD j 0:=by
 simp only[List.getD_eq_getElem?_getD,List.getElem?_set]
 by_cases e:k=j
 ·subst e
  by_cases h:k<s.length
  ·simp[h]
  ·simp[h,List.getElem?_eq_none (Nat.le_of_not_lt h)]
 ·rw[if_neg e,if_neg (by omega)]
end
end
theorem Fr.rowCap {α:Type}{E:Bc α}{e e':TypeId}(hE:BH (AS E e)){B U:Nat}{w:World}{v:Value}{xs:List (List α)}(h:Fr (AS (AS E e) e') B U w.heap v xs){r:Nat}(hr:r<xs.length){u:Value}(hu:EZ w.heap (Aw v r 1)=some u):CK u:=by
 obtain⟨G,h1,_⟩:=h.row_two hE [] hr hu
 exact h1.cap
theorem Vr {α:Type}{E:Bc α}{H:Array Obj}:∀ {us:List Value}{xs:List α}{F:List Nat}(k:Nat),els E H us xs F→∃G,els E H (us.take k) (xs.take k) G∧∀b∈G,b∈F:=by
 intro us
 induction us with
 |nil=>intro xs F k h;cases xs with
  |nil=>exact⟨F,by simpa using h,fun b hb=>hb⟩
  |cons=>exact h.elim
 |cons u us ih =>
  intro xs F k h
  cases xs with
  |nil=>exact h.elim
  |cons x xs =>
   cases k with
   |zero=>exact⟨[],rfl,fun b hb=>by cases hb⟩
   |succ k =>
    obtain⟨A,C,rfl,p1,p2⟩:=h
    obtain⟨G,g1,g2⟩:=ih k p2
    exact⟨A++G,⟨A,G,rfl,p1,g1⟩,fun b hb=>by
     rcases List.mem_append.1 hb with hb|hb
     ·exact List.mem_append_left _ hb
     ·exact List.mem_append_right _ (g2 b hb)⟩
theorem Rd.pref {α:Type}{E:Bc α}{H:Array Obj}{v:Value}{xs:List α}{k:Nat}(h:Rd (B3 E) H v xs)(hk:k≤xs.length):Rd (B3 E) H (LO v k) (xs.take k):=by
 obtain⟨F,h⟩:=h
 rcases h with⟨a,cap,rfl,rfl,rfl⟩|⟨us,g,off,cap,cur,e,fr,F',hels,rfl,hg,h1,h2,rfl⟩
 ·have:k=0:=by simpa using hk
  subst this
  exact⟨[],.inl ⟨a,cap,rfl,by simp,rfl⟩⟩
 ·obtain⟨G,g1,_⟩:=Vr k hels
  have hl:(xs.take k).length=k:=by rw[List.length_take];omega
  refine⟨g::G,.inr ⟨us.take k,g,off,cap,cur,e,fr,G,g1,by rw[hl];rfl,hg,?_,by rw[hl];omega,rfl⟩⟩
  rw[hl,← h1,List.take_take,Nat.min_eq_left hk]
section
def Ip {α:Type}(K:Nat)(R:(Nat→α)→α→Prop)(r:Nat→Rs α)(rz:Rs α):Prop:=match rz with
 |.ok z t=>∃x,(∀k,k<K→r k=.ok (x k) t)∧R x z
 |.err c=>∀k,k<K→r k=.err c
theorem Ip.congr {α:Type}{K:Nat}{R:(Nat→α)→α→Prop}{r r':Nat→Rs α}{rz:Rs α}(h:Ip K R r rz)(e:∀k,k<K→r' k=r k):Ip K R r' rz:=by
 cases rz with
 |ok z t=>obtain⟨x,h1,h2⟩:=h;exact⟨x,fun k hk=>(e k hk).trans (h1 k hk),h2⟩
 |err c=>exact fun k hk=>(e k hk).trans (h k hk)
theorem Ip.bind {α β:Type}{K:Nat}{R:(Nat→α)→α→Prop}{R':(Nat→β)→β→Prop}{r:Nat→Rs α}{rz:Rs α}{g:Nat→α→Nat→Rs β}{gz:α→Nat→Rs β}(h:Ip K R r rz)
  (hg:∀x z t,R x z→Ip K R' (fun k=>g k (x k) t) (gz z t)):Ip K R' (fun k=>(r k).bind (g k)) (rz.bind gz):=by
 cases rz with
 |ok z t =>
  obtain⟨x,h1,h2⟩:=h
  exact(hg x z t h2).congr fun k hk=>by rw[h1 k hk];rfl
 |err c=>exact fun k hk=>by show(r k).bind _=_;rw[h k hk];rfl
theorem Ip.ret {α:Type}{K:Nat}{R:(Nat→α)→α→Prop}{x:Nat→α}{z:α}{t:Nat}(h:R x z):Ip K R (fun k=>.ok (x k) t) (.ok z t):=⟨x,fun _ _=>rfl,h⟩
theorem Ip.fail {α:Type}{K:Nat}{R:(Nat→α)→α→Prop}{c:Int}:Ip K R (fun _=>.err c) (.err c):=fun _ _=>rfl
structure fp (K:Nat)(n:Nat→Nat)(nz:Nat)(R:(Nat→Sr)→Sr→Prop):Prop where
 zero:∀x z,R x z→∀k,k<K→((x k).getD 0 0=0↔z.getD 0 0=0)
 cst:∀c,J2 c=true→R (fun k=>cst (n k) c) (Go.Proofs.YtnokbaiemimhjaaGreat.cst nz c)
 add:∀x z y w,R x z→R y w→R (fun k=>DU (x k) (y k)) (DU z w)
 red:∀x z y w,R x z→R y w→R (fun k=>Dg (x k) (y k)) (Dg z w)
 pro:∀x z y w,R x z→R y w→R (fun k=>C7 (x k) (y k)) (C7 z w)
 scl:∀x z,R x z→R (fun k=>CD (x k) 1000002) (CD z 1000002)
 quo:∀x z y w,R x z→R y w→w.getD 0 0≠0→R (fun k=>BR (x k) (y k)) (BR z w)
def Lv (K:Nat)(R:(Nat→Sr)→Sr→Prop)(m:Nat)(xs:Nat→List Sr)(zs:List Sr):Prop:=zs.length=m∧(∀k,k<K→(xs k).length=m)∧∀i,i<m→∃x,(∀k,k<K→(xs k).getD i []=x k)∧R x (zs.getD i [])
section
variable {K:Nat} {n:Nat→Nat} {nz:Nat} {R:(Nat→Sr)→Sr→Prop} {p:List Fn}
theorem Lv.nil:Lv K R 0 (fun _=>[]) []:=⟨rfl,fun _ _=>rfl,fun i hi=>by omega⟩
theorem Lv.cons {m:Nat}{x:Nat→Sr}{z:Sr}{xs:Nat→List Sr}{zs:List Sr}(h1:R x z)(h:Lv K R m xs zs):Lv K R (m+1) (fun k=>x k::xs k) (z::zs):=by
 refine⟨by rw[List.length_cons,h.1],fun k hk=>by rw[List.length_cons,h.2.1 k hk],fun i hi=>?_⟩
 cases i with
 |zero=>exact⟨x,fun _ _=>rfl,h1⟩
 |succ i =>
  obtain⟨y,h3,h4⟩:=h.2.2 i (by omega)
  exact⟨y,fun k hk=>by simpa using h3 k hk,by simpa using h4⟩
theorem Lv.snoc {m:Nat}{x:Nat→Sr}{z:Sr}{xs:Nat→List Sr}{zs:List Sr}(h:Lv K R m xs zs)(h1:R x z):Lv K R (m+1) (fun k=>xs k++[x k]) (zs++[z]):=by
 refine⟨by simp[h.1],fun k hk=>by simp[h.2.1 k hk],fun i hi=>?_⟩
 by_cases e:i=m
 ·exact⟨x,fun k hk=>Jy (by rw[h.2.1 k hk];exact e),by rw[Jy (by rw[h.1];exact e)];exact h1⟩
 ·obtain⟨y,h3,h4⟩:=h.2.2 i (by omega)
  exact⟨y,fun k hk=>by rw[Jw (by rw[h.2.1 k hk];omega)];exact h3 k hk,by rw[Jw (by rw[h.1];omega)];exact h4⟩
structure kI (K:Nat)(R:(Nat→Sr)→Sr→Prop)(p:List Fn)(F:Nat)(C:Nat→Ca)(Cz:Ca):Prop where
 one:∀f j m xs zs t,f<F→j<(p.getD f Fn.zero).outs.length→Lv K R m xs zs→((m:Nat):Int)=(p.getD f Fn.zero).params→Ip K R (fun k=>(C k).one f j (xs k) t) (Cz.one f j zs t)
 all:∀f m xs zs t,f<F→Lv K R m xs zs→((m:Nat):Int)=(p.getD f Fn.zero).params→Ip K (Lv K R (p.getD f Fn.zero).outs.length) (fun k=>(C k).all f (xs k) t) (Cz.all f zs t)
theorem Vs {C:Nat→Ca}{Cz:Ca}{env:Nat→List Sr}{ez:List Sr}:∀(l:List Ex),(∀e∈l,∀s,Ip K R (fun k=>Eb (n k) (C k) e (env k) s) (Eb nz Cz e ez s))→∀s,Ip K (Lv K R l.length) (fun k=>E7 (n k) (C k) l (env k) s) (E7 nz Cz l ez s)
 |[],_,s=>by
  simp only[E7]
  exact Ip.ret Lv.nil
 |e::l,h,s=>by
  simp only[E7]
  exact(h e (List.mem_cons_self ..) s).bind fun x z t hx=>(Vs l (fun e he=>h e (List.mem_cons_of_mem _ he)) t).bind fun xs zs u hxs=>Ip.ret (hxs.cons hx)
theorem Zu {F f:Nat}{C:Nat→Ca}{Cz:Ca}(hC:kI K R p F C Cz)(hf:f<F)(ho:(((p.getD f Fn.zero).outs.length:Nat):Int)=(p.getD f Fn.zero).params):∀(c:Nat)(xs:Nat→List Sr)(zs:List Sr)(t:Nat),Lv K R (p.getD f Fn.zero).outs.length xs zs →
  Ip K (Lv K R (p.getD f Fn.zero).outs.length) (fun k=>Lk ((C k).all f) c (xs k) t) (Lk (Cz.all f) c zs t)
 |0,xs,zs,t,h=>Ip.ret h
 |c+1,xs,zs,t,h=>(Zu hC hf ho c xs zs t h).bind fun ys ws u hy=>hC.all f _ ys ws u hf hy ho
theorem Lv.at {m i:Nat}{xs:Nat→List Sr}{zs:List Sr}{t:Nat}(h:Lv K R m xs zs)(hi:i<m):Ip K R (fun k=>.ok ((xs k).getD i []) t) (.ok (zs.getD i []) t):=by
 obtain⟨x,h1,h2⟩:=h.2.2 i hi
 exact(Ip.ret h2).congr fun k hk=>by rw[h1 k hk]
theorem Lv.two {m t t':Nat}{xs:Nat→List Sr}{zs:List Sr}{o:Sr→Sr→Sr}(h:Lv K R m xs zs)(hm:2≤m)(ho:∀x z y w,R x z→R y w→R (fun k=>o (x k) (y k)) (o z w)) :
  Ip K R (fun k=>.ok (o ((xs k).getD 0 []) ((xs k).getD 1 [])) t) (.ok (o (zs.getD 0 []) (zs.getD 1 [])) t):=by
 obtain⟨x,h1,h2⟩:=h.2.2 0 (by omega)
 obtain⟨y,h3,h4⟩:=h.2.2 1 (by omega)
 exact(Ip.ret (ho x _ y _ h2 h4)).congr fun k hk=>by rw[h1 k hk,h3 k hk]
theorem fq (hR:fp K n nz R){kd:Int}{m t:Nat}{xs:Nat→List Sr}{zs:List Sr}(h:Lv K R m xs zs)(h1:kd=7→1≤m)(h2:kd≠7→2≤m):Ip K R (fun k=>Ll kd (xs k) t) (Ll kd zs t):=by
 unfold Ll
 by_cases k3:kd=3
 ·simp only[if_pos k3];exact h.two (t':=0) (h2 (by omega)) hR.add
 simp only[if_neg k3]
 by_cases k4:kd=4
 ·simp only[if_pos k4];exact h.two (t':=0) (h2 (by omega)) hR.red
 simp only[if_neg k4]
 by_cases k5:kd=5
 ·simp only[if_pos k5];exact h.two (t':=0) (h2 (by omega)) hR.pro
 simp only[if_neg k5]
 by_cases k7:kd=7
 ·simp only[if_pos k7]
  obtain⟨x,q1,q2⟩:=h.2.2 0 (h1 k7)
  exact(Ip.ret (hR.scl x _ q2)).congr fun k hk=>by rw[q1 k hk]
 simp only[if_neg k7]
 obtain⟨x,q1,q2⟩:=h.2.2 0 (by have:=h2 k7;omega)
 obtain⟨y,q3,q4⟩:=h.2.2 1 (by have:=h2 k7;omega)
 have hz:=hR.zero y _ q4
 by_cases h0:(zs.getD 1 []).getD 0 0=0
 ·simp only[if_pos h0]
  exact fun k hk=>by
   show(if List.getD ((xs k).getD 1 []) 0 0=0 then _ else _)=_
   rw[q3 k hk,if_pos ((hz k hk).2 h0)]
 ·simp only[if_neg h0]
  exact(Ip.ret (hR.quo x _ y _ q2 q4 h0)).congr fun k hk=>by rw[q3 k hk,q1 k hk,if_neg fun h=>h0 ((hz k hk).1 h)]
theorem Vt (hR:fp K n nz R){F:Nat}{C:Nat→Ca}{Cz:Ca}(hC:kI K R p F C Cz):∀(z:Nat)(e:Ex),e.size≤z→∀(m:Nat)(env:Nat→List Sr)(ez:List Sr)(s:Nat),wf p ((F:Nat):Int) e ((m:Nat):Int)=true→Lv K R m env ez→Ip K R (fun k=>Eb (n k) (C k) e (env k) s) (Eb nz Cz e ez s)
 |0,e,h,_,_,_,_,_,_=>by have:=Cb e;omega
 |z+1,e,h,m,env,ez,s,hw,he=>by
  obtain⟨w1,w2,w3,w4,w5,w6,w7,w8⟩:=Dm (D6 hw)
  have hz:∀j,j<e.kids.length→(e.kids.getD j Ex.zero).size≤z:=fun j hj=>by
   have:=Cb e;have:=LM hj;omega
  have hk:∀j,j<e.kids.length→¬(e.kind=9∧j=1)→∀t,Ip K R (fun k=>IO (n k) (C k) e.kids j (env k) t) (IO nz Cz e.kids j ez t):=fun j hj hn t=>by
   simp only[DM _ _ _ _ _ _ hj]
   exact Vt hR hC z _ (hz j hj) m env ez t (GC hw hj hn) he
  simp only[Fq]
  by_cases hs3:3000≤s
  ·simp only[if_pos hs3];exact Ip.fail
  simp only[if_neg hs3]
  by_cases k1:e.kind=1
  ·simp only[if_pos k1];exact Ip.ret (hR.cst _ (C3.2 (w8 k1)))
  simp only[if_neg k1]
  by_cases k2:e.kind=2
  ·simp only[if_pos k2];exact he.at (by have:=w2 k2;omega)
  simp only[if_neg k2]
  by_cases k8:e.kind=8
  ·simp only[if_pos k8]
   have h3:=w5 k8
   refine(hk 0 (by omega) (by omega) (s+1)).bind fun x y t hx=>?_
   have hq:=hR.zero x y hx
   by_cases h0:y.getD 0 0=0
   ·simp only[if_pos h0]
    exact(hk 1 (by omega) (by omega) t).congr fun k hk=>by rw[if_pos ((hq k hk).2 h0)]
   ·simp only[if_neg h0]
    exact(hk 2 (by omega) (by omega) t).congr fun k hk=>by rw[if_neg fun h=>h0 ((hq k hk).1 h)]
  simp only[if_neg k8]
  by_cases k9:e.kind=9
  ·simp only[if_pos k9]
   have h3:=w3 (by omega)
   refine(hk 0 (by omega) (by omega) (s+1)).bind fun x y t hx=>?_
   simp only[DM _ _ _ _ _ _ (show 1<e.kids.length by omega)]
   refine Vt hR hC z _ (hz 1 (by omega)) (m+1) (fun k=>env k++[x k]) (ez++[y]) t ?_ (he.snoc hx)
   have:=M5 hw (by omega) k9
   rw[Int.natCast_add];exact this
  simp only[if_neg k9]
  have hc:=Vs (n:=n) (C:=C) (nz:=nz) (Cz:=Cz) (env:=env) (ez:=ez) e.kids (fun x hx t=>by
   obtain⟨j,hj,rfl⟩:=List.mem_iff_getElem.1 hx
   have:=hk j hj (by omega) t
   simp only[DM _ _ _ _ _ _ hj,DV hj]at this
   exact this) (s+1)
  refine hc.bind fun xs zs t hx=>?_
  by_cases k10:e.kind=10
  ·simp only[if_pos k10]
   have h6:=w6 (.inl k10)
   exact hC.one _ _ _ xs zs t (by omega) (by omega) hx (by exact h6.2.2.1)
  simp only[if_neg k10]
  by_cases k11:e.kind=11
  ·simp only[if_pos k11]
   have h6:=w6 (.inr k11);have h7:=w7 k11
   have hl:e.kids.length=(p.getD e.num.toNat Fn.zero).outs.length:=by omega
   rw[hl]at hx
   exact(Zu hC (f:=e.num.toNat) (by omega) h7.1 e.count.toNat xs zs t hx).bind fun ys ws u hy=>hy.at (by omega)
  simp only[if_neg k11]
  exact fq hR hx (fun h7=>by rw[w4 h7];decide) (fun h7=>by rw[w3 (by omega)];decide)
theorem Zv (hR:fp K n nz R)(hv:Iz p):∀F,F≤p.length→kI K R p F (fun k=>H1 p (n k) F) (H1 p nz F)
 |0,_=>⟨fun f j m xs zs t h=>by omega,fun f m xs zs t h=>by omega⟩
 |F+1,hF=>by
  have ih:=Zv hR hv F (by omega)
  have hO:∀j m xs zs t,j<(p.getD F Fn.zero).outs.length→Lv K R m xs zs→((m:Nat):Int)=(p.getD F Fn.zero).params→Ip K R (fun k=>Eb (n k) (H1 p (n k) F) ((p.getD F Fn.zero).outs.getD j Ex.zero) (xs k) t) (Eb nz (H1 p nz F) ((p.getD F Fn.zero).outs.getD j Ex.zero) zs t):=fun j m xs zs t h2 h3 h4 =>
   Vt hR ih _ _ (A9 _) m xs zs t (by rw[h4];exact hv.wf F (by omega) j h2) h3
  refine⟨fun f j m xs zs t h1 h2 h3 h4=>?_,fun f m xs zs t h1 h3 h4=>?_⟩
  ·show Ip K R (fun k=>if f=F then _ else _) (if f=F then _ else _)
   by_cases e:f=F
   ·subst e;simp only[if_true];exact hO j m xs zs t h2 h3 h4
   ·simp only[if_neg e];exact ih.one f j m xs zs t (by omega) h2 h3 h4
  ·show Ip K _ (fun k=>if f=F then _ else _) (if f=F then _ else _)
   by_cases e:f=F
   ·subst e;simp only[if_true]
    refine Vs _ (fun e he s=>?_) t
    obtain⟨j,hj,rfl⟩:=List.mem_iff_getElem.1 he
    have:=hO j m xs zs s hj h3 h4
    rwa [DV hj]at this
   ·simp only[if_neg e];exact ih.all f m xs zs t (by omega) h3 h4
theorem kJ (hR:fp K n nz R)(hv:Iz p){f m:Nat}{a:Nat→List Sr}{az:List Sr}(hf:f<p.length)(ha:Lv K R m a az)(hl:((m:Nat):Int)=(p.getD f Fn.zero).params) :
  Ip K (Lv K R (p.getD f Fn.zero).outs.length) (fun k=>ev p (n k) f (a k)) (ev p nz f az):=by
 have h:=(Zv hR hv (f+1) (by omega)).all f m a az 0 (by omega) ha hl
 simp only[JN (show f<f+1 by omega)]at h
 exact h
end
end
def Qi (f:Nat→Int):Nat→Int
 |0=>0
 |k+1=>Qi f k+f k
theorem Lw {f g:Nat→Int}:∀K,(∀k,k<K→md (f k)=md (g k))→md (Qi f K)=md (Qi g K)
 |0,_=>rfl
 |K+1,h=>by
  show md (Qi f K+f K)=md (Qi g K+g K)
  rw[← E6,Lw K (fun k hk=>h k (by omega)),h K (by omega),E6]
theorem Sl (A B:Int)(f g:Nat→Int):∀K,Qi (fun k=>A*f k+B*g k) K=A*Qi f K+B*Qi g K
 |0=>by show(0:Int)=A*0+B*0;simp
 |K+1=>by
  show Qi _ K+(A*f K+B*g K)=A*(Qi f K+f K)+B*(Qi g K+g K)
  rw[Sl A B f g K,Int.mul_add,Int.mul_add];omega
structure Rl (K:Nat)(c:Nat→Int)(x:Nat→Sr)(z:Sr):Prop where
 sz:Bs 2 z
 sx:∀k,k<K→Bs 2 (x k)
 v:∀k,k<K→(x k).getD 0 0=z.getD 0 0
 d:z.getD 1 0=md (Qi (fun k=>c k*(x k).getD 1 0) K)
theorem Rl.op {K:Nat}{c:Nat→Int}{xa xb out:Nat→Sr}{za zb oz:Sr}{A B:Int}(ha:Rl K c xa za)(hb:Rl K c xb zb)(hz:Bs 2 oz)(hx:∀k,k<K→Bs 2 (out k))(hv:∀k,k<K→(out k).getD 0 0=oz.getD 0 0)
  (h1:oz.getD 1 0=md (A*za.getD 1 0+B*zb.getD 1 0)) (h2:∀k,k<K→(out k).getD 1 0=md (A*(xa k).getD 1 0+B*(xb k).getD 1 0)):Rl K c out oz:=by
 refine⟨hz,hx,hv,?_⟩
 rw[h1,ha.d,hb.d,← E6,ET,ET,E6,← Sl]
 refine Lw K fun k hk=>?_
 rw[h2 k hk,ET]
 congr 1
 rw[Int.mul_add,Int.mul_left_comm,Int.mul_left_comm B]
theorem NV {a b:Sr}{k:Nat}(h:k<a.length):(DU a b).getD k 0=md (a.getD k 0+b.getD k 0):=Bf 0 h
theorem PU {a b:Sr}{k:Nat}(h:k<a.length):(Dg a b).getD k 0=md (a.getD k 0-b.getD k 0):=Bf 0 h
theorem NW {a:Sr}{y:Int}{k:Nat}(h:k<a.length):(CD a y).getD k 0=md (a.getD k 0*y):=Bf 0 h
theorem Mg {a b:Sr}(h:0<a.length):(C7 a b).getD 0 0=md (0+a.getD 0 0*b.getD 0 0):=Bf 0 h
theorem Zw {a b:Sr}(h:1<a.length):(C7 a b).getD 1 0=md (md (0+a.getD 0 0*b.getD 1 0)+a.getD 1 0*b.getD 0 0):=Bf 0 h
theorem PV {a b:Sr}(h:0<a.length):(BR a b).getD 0 0=md (a.getD 0 0*inv (b.getD 0 0)):=JG h
theorem Zx {a b:Sr}(h:1<a.length):(BR a b).getD 1 0=md (md (a.getD 1 0-(BR a b).getD 0 0*b.getD 1 0)*inv (b.getD 0 0)):=JG h
theorem Yx {n:Nat}{c:Int}(h:0<n):(cst n c).getD 0 0=c:=by
 obtain⟨n,rfl⟩:∃k,n=k+1:=⟨n-1,by omega⟩
 unfold cst;rw[List.replicate_succ];rfl
theorem Zy (c:Int):(cst 2 c).getD 1 0=0:=rfl
theorem Rl.all (K:Nat)(c:Nat→Int):fp K (fun _=>2) 2 (Rl K c) where
 zero:=fun x z h k hk=>by rw[h.v k hk]
 cst:=fun a ha=>⟨DE ha,fun _ _=>DE ha,fun _ _=>rfl,by
  have:∀K,Qi (fun k=>c k*(Go.Proofs.YtnokbaiemimhjaaGreat.cst 2 a).getD 1 0) K=0:=fun K=>by
   induction K with
   |zero=>rfl
   |succ K ih=>show Qi _ K+c K*(Go.Proofs.YtnokbaiemimhjaaGreat.cst 2 a).getD 1 0=0;rw[ih,Zy];simp
  rw[this,Zy];rfl⟩
 add:=fun x z y w hx hy=>Rl.op (A:=1) (B:=1) hx hy ⟨by rw[GV];exact hx.sz.1,HT _ _⟩ (fun k hk=>⟨by rw[GV];exact(hx.sx k hk).1,HT _ _⟩)
  (fun k hk=>by rw[NV (by rw[(hx.sx k hk).1];decide),NV (by rw[hx.sz.1];decide),hx.v k hk,hy.v k hk]) (by rw[NV (by rw[hx.sz.1];decide),Int.one_mul,Int.one_mul]) (fun k hk=>by rw[NV (by rw[(hx.sx k hk).1];decide),Int.one_mul,Int.one_mul])
 red:=fun x z y w hx hy=>Rl.op (A:=1) (B:=-1) hx hy ⟨by rw[GW];exact hx.sz.1,GX _ _⟩ (fun k hk=>⟨by rw[GW];exact(hx.sx k hk).1,GX _ _⟩)
  (fun k hk=>by rw[PU (by rw[(hx.sx k hk).1];decide),PU (by rw[hx.sz.1];decide),hx.v k hk,hy.v k hk]) (by rw[PU (by rw[hx.sz.1];decide)];congr 1;omega) (fun k hk=>by rw[PU (by rw[(hx.sx k hk).1];decide)];congr 1;omega)
 pro:=fun x z y w hx hy=>Rl.op (A:=w.getD 0 0) (B:=z.getD 0 0) hx hy ⟨by rw[Fe];exact hx.sz.1,Ff _ _⟩ (fun k hk=>⟨by rw[Fe];exact(hx.sx k hk).1,Ff _ _⟩)
  (fun k hk=>by rw[Mg (by rw[(hx.sx k hk).1];decide),Mg (by rw[hx.sz.1];decide),hx.v k hk,hy.v k hk])
  (by rw[Zw (by rw[hx.sz.1];decide),Oa,Int.zero_add,Int.add_comm,Int.mul_comm (z.getD 1 0)])
  (fun k hk=>by rw[Zw (by rw[(hx.sx k hk).1];decide),Oa,Int.zero_add,Int.add_comm,Int.mul_comm ((x k).getD 1 0),hx.v k hk,hy.v k hk])
 scl:=fun x z hx=>Rl.op (A:=1000002) (B:=0) hx hx ⟨by rw[FZ];exact hx.sz.1,Em _ _⟩ (fun k hk=>⟨by rw[FZ];exact(hx.sx k hk).1,Em _ _⟩)
  (fun k hk=>by rw[NW (by rw[(hx.sx k hk).1];decide),NW (by rw[hx.sz.1];decide),hx.v k hk]) (by rw[NW (by rw[hx.sz.1];decide)];congr 1;omega) (fun k hk=>by rw[NW (by rw[(hx.sx k hk).1];decide)];congr 1;omega)
 quo:=fun x z y w hx hy h0=>by
  have hq:∀k,k<K→(BR (x k) (y k)).getD 0 0=(BR z w).getD 0 0:=fun k hk=>by rw[PV (by rw[(hx.sx k hk).1];decide),PV (by rw[hx.sz.1];decide),hx.v k hk,hy.v k hk]
  have hf:∀a q b i:Int,md (md (a-q*b)*i)=md (i*a+(-(q*i))*b):=fun a q b i=>by
   rw[ES];congr 1
   rw[Int.sub_mul,Int.neg_mul,Int.mul_comm a i,Int.mul_assoc,Int.mul_assoc,Int.mul_comm b i];omega
  exact Rl.op (A:=inv (w.getD 0 0)) (B:=-((BR z w).getD 0 0*inv (w.getD 0 0))) hx hy ⟨by rw[DT];exact hx.sz.1,El _ _⟩ (fun k hk=>⟨by rw[DT];exact(hx.sx k hk).1,El _ _⟩) hq
   (by rw[Zx (by rw[hx.sz.1];decide),hf]) (fun k hk=>by rw[Zx (by rw[(hx.sx k hk).1];decide),hf,hq k hk,hy.v k hk])
section
section ops
variable {P:Program} {ops:Array Oper} {w0:World} {Q:Act→World→Prop} {os:List Oper} {ks:List Nat} {N:Nat} {ρ:Nat→Value} {w:World}
 {d:Nat} {ty:TypeId} {pos:String} {aft:Array Edge} {g:Option (Nat×Bool)} {t e:TypeId} {z:Value} {b s:Nat} {α:Type} {E:Bu α}
end ops
theorem Mh {p:List Fn}(hv:Iz p){n f:Nat}{a:List Sr}(hf:f<p.length)(ha:Bt n a)(hl:((a.length:Nat):Int)=(p.getD f Fn.zero).params) :
  (∃x s,ev p n f a=.ok x s∧x.length=(p.getD f Fn.zero).outs.length∧Bt n x)∨ev p n f a=.err 6∨ev p n f a=.err 7:=by
 have h:=(Zt hv n (f+1) (by omega)).all f a 0 (by omega) ha hl (by omega)
 rw[JN (by omega)]at h
 have e:ev p n f a=E7 n (H1 p n f) (p.getD f Fn.zero).outs a 0:=rfl
 rw[← e]at h
 cases h2:ev p n f a with
 |err c =>
  rw[h2]at h;have h:c=6∨c=7:=h
  rcases h with rfl|rfl
  ·exact .inr (.inl rfl)
  ·exact .inr (.inr rfl)
 |ok xs s =>
  rw[h2]at h;have h:xs.length=_∧Bt n xs∧s≤3000:=h
  exact .inl ⟨xs,s,rfl,h.1,h.2.1⟩
section
variable {p:List Fn} {f:Int} {a:List Int}
end
end
def Gl (a d:List Int)(n:Nat):List Sr:=EU a.length fun i=>(cst n (a.getD i 0)).set 1 (d.getD i 0)
@[simp] theorem CP (a d:List Int)(n:Nat):(Gl a d n).length=a.length:=by simp[Gl]
theorem Mi {a d:List Int}{n k:Nat}(h:k<a.length):(Gl a d n).getD k []=(cst n (a.getD k 0)).set 1 (d.getD k 0):=Bf [] h
theorem Ht {a d:List Int}{n:Nat}(ha:B7 a=true)(hd:B7 d=true):Bt n (Gl a d n):=fun k hk=>by
 rw[CP]at hk
 rw[Mi hk]
 refine⟨by rw[List.length_set,Ho],?_⟩
 have h1:=DE (n:=n) (C3.2 (Ba ha k))
 unfold B7
 rw[List.all_eq_true]
 intro y hy
 rcases List.mem_or_eq_of_mem_set hy with hy|rfl
 ·have:=h1.2;unfold B7 at this;exact List.all_eq_true.1 this y hy
 ·exact C3.2 (Ba hd k)
def PW (p:List Fn)(f:Nat)(a d:List Int):List Sr:=Dr p 2 f (Gl a d 2)
def ft (p:List Fn)(f:Nat)(a d:List Int):Int:=HF p 2 f (Gl a d 2)
def G6 (n:Nat)(ps:List Int):Nat→List Int
 |0=>List.replicate n 0
 |j+1=>(G6 n ps j).set (ps.getD j 0).toNat (md ((G6 n ps j).getD (ps.getD j 0).toNat 0+1))
theorem I1 (n:Nat)(ps:List Int):∀j,(G6 n ps j).length=n
 |0=>List.length_replicate ..
 |j+1=>by show(List.set _ _ _).length=n;rw[List.length_set,I1 n ps j]
theorem H6 (n:Nat)(ps:List Int):∀j,B7 (G6 n ps j)=true
 |0=>H2 n
 |j+1=>by
  have h:=H6 n ps j
  unfold B7 at h ⊢
  rw[List.all_eq_true]at h ⊢
  intro y hy
  rcases List.mem_or_eq_of_mem_set hy with hy|rfl
  ·exact h y hy
  ·exact C3.2 (BK _)
def kK (p:List Fn)(f:Nat)(a:List Int)(i r:Nat):List Int:=EU i fun c=>((PW p f a (G6 a.length [((c:Nat):Int)] 1)).getD r []).getD 1 0
@[simp] theorem Yy (p:List Fn)(f:Nat)(a:List Int)(i r:Nat):(kK p f a i r).length=i:=by simp[kK]
def OD (p:List Fn)(f:Nat)(a:List Int)(K i:Nat):List (List Int):=EU K (kK p f a i)
@[simp] theorem OE (p:List Fn)(f:Nat)(a:List Int)(K i:Nat):(OD p f a K i).length=K:=by simp[OD]
theorem dK {p:List Fn}{f:Nat}{a:List Int}{K i r:Nat}(hr:r<K) :
  (Cn r (OD p f a K (i+1)) (OD p f a K i)).set r ((Cn r (OD p f a K (i+1)) (OD p f a K i)).getD r []++[((PW p f a (G6 a.length [((i:Nat):Int)] 1)).getD r []).getD 1 0])=Cn (r+1) (OD p f a K (i+1)) (OD p f a K i):=by
 unfold OD
 rw[CU [] (by simp) (A9 _) (by simpa using hr),Bf [] hr,DD (by simp) hr]
 congr 1
 exact(LR i fun c=>((PW p f a (G6 a.length [((c:Nat):Int)] 1)).getD r []).getD 1 0).symm
theorem Vu {p:List Fn}{f:Nat}{a:List Int}{K i r:Nat}(hr:r<K):((Cn r (OD p f a K (i+1)) (OD p f a K i)).getD r []).length=i:=by
 unfold OD
 rw[CU [] (by simp) (A9 _) (by simpa using hr),Bf [] hr,Yy]
theorem dL (a d:List Int):(Gl a d 2).map (CB 1)=Cq a:=by
 refine dJ (by rw[List.length_map,CP];unfold Cq;rw[List.length_map]) fun k hk=>?_
 rw[List.length_map,CP]at hk
 rw[B5 (d:=[]) (by rw[CP];exact hk),Mi hk]
 unfold Cq
 rw[B5 (d:=0) hk]
 rfl
theorem fu (p:List Fn)(f:Nat)(a d:List Int):ft p f a d=FG p f a:=by
 unfold ft FG
 rw[← Yw p (A9 1) (show 1≤2 by decide),dL]
theorem kM (p:List Fn)(f:Nat)(a:List Int)(K:Nat):OD p f a K 0=List.replicate K []:=by
 refine dJ (by simp) fun i hi=>?_
 rw[OE]at hi
 unfold OD
 rw[Bf [] hi,List.getD_eq_getElem?_getD,List.getElem?_replicate,if_pos hi];rfl
section
def eV (n k:Nat):List Int:=G6 n [((k:Nat):Int)] 1
theorem Gw (n j:Nat):(List.replicate n (0:Int)).getD j 0=0:=by
 rw[List.getD_eq_getElem?_getD,List.getElem?_replicate];split <;> rfl
theorem Vv {n k j:Nat}(hk:k<n):(eV n k).getD j 0=if k=j then 1 else 0:=by
 show((List.replicate n (0:Int)).set (((k:Nat):Int)).toNat (md ((List.replicate n (0:Int)).getD (((k:Nat):Int)).toNat 0+1))).getD j 0=_
 rw[Int.toNat_natCast,Mf,List.length_replicate,Gw,Gw]
 by_cases e:k=j
 ·subst e;rw[if_pos ⟨rfl,hk⟩,if_pos rfl];rfl
 ·rw[if_neg (by omega),if_neg e]
theorem QN (n k:Nat):B7 (eV n k)=true:=H6 _ _ _
theorem Vw {a d:List Int}{i:Nat}(h:i<a.length):((Gl a d 2).getD i []).getD 0 0=a.getD i 0:=by rw[Mi h];rfl
theorem Sm {a d:List Int}{i:Nat}(h:i<a.length):((Gl a d 2).getD i []).getD 1 0=d.getD i 0:=by rw[Mi h];rfl
theorem dM {p:List Fn}(hv:Iz p){n f:Nat}{a:List Sr}(hf:f<p.length)(ha:Bt n a)(hl:((a.length:Nat):Int)=(p.getD f Fn.zero).params)(h0:HF p n f a=0):∃x t,ev p n f a=.ok x t∧x.length=(p.getD f Fn.zero).outs.length∧Bt n x:=by
 rcases Mh hv hf ha hl with⟨x,s,h1,h2,h3⟩|h1|h1
 ·exact⟨x,s,h1,h2,h3⟩
 ·rw[HY h1]at h0;omega
 ·rw[HY h1]at h0;omega
theorem Vx {p:List Fn}{f:Nat}{a d:List Int}{K:Nat}{D:Nat→List Int}{c:Nat→Int}(hv:Iz p)(hf:f<p.length)(hl:((a.length:Nat):Int)=(p.getD f Fn.zero).params)(hna:B7 a=true)(hnd:B7 d=true)
  (hD:∀k,k<K→B7 (D k)=true) (hc:∀i,i<a.length→d.getD i 0=md (Qi (fun k=>c k*(D k).getD i 0) K)) (h0:FG p f a=0) {r:Nat} (hr:r<(p.getD f Fn.zero).outs.length) :
  ((PW p f a d).getD r []).getD 1 0=md (Qi (fun k=>c k*((PW p f a (D k)).getD r []).getD 1 0) K):=by
 have h:=kJ (Rl.all K c) hv (m:=a.length) (a:=fun k=>Gl a (D k) 2) (az:=Gl a d 2) hf
  ⟨CP _ _ _,fun k _=>CP _ _ _,fun i hi=>⟨fun k=>(Gl a (D k) 2).getD i [],fun _ _=>rfl,
   ⟨Ht hna hnd i (by rw[CP];exact hi),fun k hk=>Ht hna (hD k hk) i (by rw[CP];exact hi),fun k _=>by rw[Vw hi,Vw hi],by
    rw[Sm hi,hc i hi]
    refine Lw K fun k _=>?_
    rw[Sm hi]⟩⟩⟩ hl
 have hdc:HF p 2 f (Gl a d 2)=0:=(fu p f a d).trans h0
 obtain⟨z,t,he,_,_⟩:=dM hv hf (Ht (n:=2) hna hnd) (by rw[CP];exact hl) hdc
 rw[he]at h
 obtain⟨x,h1,h2⟩:=h
 obtain⟨y,h3,h4⟩:=h2.2.2 r hr
 unfold PW
 rw[M7 he,h4.d]
 refine Lw K fun k hk=>?_
 rw[← h3 k hk,M7 (h1 k hk)]
structure lK (p:List Fn)(f:Nat)(a:List Int):Prop where
 v:Iz p
 lt:f<p.length
 l:((a.length:Nat):Int)=(p.getD f Fn.zero).params
 n:B7 a=true
 z:FG p f a=0
section
variable {p:List Fn} {f:Nat} {a d e:List Int}
end
end
theorem Yz {N:Nat}{a b:Sr}(ha:Bs N a):EN N (BN (DU a b)) (fun k=>BN a k+BN b k):=fun k hk=>by
 show md ((DU a b).getD k 0)=_
 rw[NV (by rw[ha.1];exact hk),Fd];rfl
theorem fv {N:Nat}{a:Sr}{y:Int}(ha:Bs N a):EN N (BN (CD a y)) (fun k=>y*BN a k):=fun k hk=>by
 show md ((CD a y).getD k 0)=_
 rw[NW (by rw[ha.1];exact hk),Fd,Int.mul_comm];rfl
theorem EN.add {N:Nat}{f f' g g':Nat→Int}(hf:EN N f f')(hg:EN N g g'):EN N (fun k=>f k+g k) (fun k=>f' k+g' k):=fun k hk=>by rw[← E6,hf k hk,hg k hk,E6]
section
section str
variable {P:Program} {ops:Array Oper} {w0:World} {Q:Act→World→Prop} {os:List Oper} {ks:List Nat} {N:Nat} {ρ:Nat→Value} {w:World}
 {d:Nat} {ty:TypeId} {pos:String} {aft:Array Edge} {g:Option (Nat×Bool)} {t e:TypeId}
theorem dN {x:Operand}{u:Value}(hx:Bm N ρ x=u)(hc:u.cells=#[u])(hu:Up ops N ρ ⟨some d,.box t x,ty,pos,aft,g⟩)
  (h:∀w1,Az w w1→w1.heap.size=w.heap.size+1→BX w1.heap w.heap.size [u]→LW P ops w0 Q os ks (mk N (CZ ρ d (.pointer (some ⟨w.heap.size,0,none⟩)))) w1) :
  LW P ops w0 Q (⟨some d,.box t x,ty,pos,aft,g⟩::os) (3::ks) (mk N ρ) w:=by
 have hrun:(execOp (Bm N ρ) ⟨some d,.box t x,ty,pos,aft,g⟩).run P w=.ok (.value (.pointer (some ⟨w.heap.size,0,none⟩))) (w.alloc (.cells #[u] t)):=by
  simp[execOp,Instr.box,newVar,newRow,hx,hc]
 refine N5 rfl hu _ _ hrun (BU _ _) (h _ (BU _ _) (by simp) ⟨t,?_⟩)
 have:=heap_alloc_new w (.cells #[u] t)
 simpa using this
end str
section draw3
variable {P:Program}
end draw3
end
def dl (i:Nat)(j:Nat):Int:=if i=j then 1 else 0
section
structure QO (m:Nat)(a:List Int)(X:List Sr):Prop where
 len:X.length=a.length
 ser:∀i,i<a.length→Bs m (X.getD i [])
 at0:∀i,i<a.length→(X.getD i []).getD 0 0=a.getD i 0
section
variable {p:List Fn} {f m:Nat} {a:List Int} {X:List Sr} {b:Sr}
end
end
section
theorem PX {α:Type}{P:List α→Prop}(h0:P [])(h1:∀l c,P l→P (l++[c]))(l:List α):P l:=by
 have h:∀l:List α,P l.reverse:=fun l=>by
  induction l with
  |nil=>exact h0
  |cons c l ih=>rw[List.reverse_cons];exact h1 _ _ ih
 have:=h l.reverse
 rwa [List.reverse_reverse]at this
def G7 (m:Nat)(A R:List Sr)(c:AF):Sr :=
 if c.op=1 then A.getD c.num.toNat []else if c.op=3 then DU (R.getD c.a.toNat []) (R.getD c.b.toNat [])else if c.op=4 then Dg (R.getD c.a.toNat []) (R.getD c.b.toNat [])
 else if c.op=5 then C7 (R.getD c.a.toNat []) (R.getD c.b.toNat [])else if c.op=7 then CD (R.getD c.a.toNat []) 1000002
 else if c.op=6 then BR (R.getD c.a.toNat []) (R.getD c.b.toNat [])else cst m c.num
def Bb (m:Nat)(A:List Sr)(cs:List AF):List Sr:=cs.foldl (fun R c=>R++[G7 m A R c]) []
section
variable {m:Nat} {A:List Sr}
theorem H7 (cs:List AF)(c:AF):Bb m A (cs++[c])=Bb m A cs++[G7 m A (Bb m A cs) c]:=by unfold Bb;rw[List.foldl_append];rfl
@[simp] theorem BE (cs:List AF):(Bb m A cs).length=cs.length:=by
 induction cs using PX with
 |h0=>rfl
 |h1 l c ih=>rw[H7,List.length_append,ih,List.length_append];rfl
theorem Mj (cs l:List AF){k:Nat}(hk:k<cs.length):(Bb m A (cs++l)).getD k []=(Bb m A cs).getD k []:=by
 induction l using PX with
 |h0=>rw[List.append_nil]
 |h1 l c ih=>rw[← List.append_assoc,H7,Jw (by rw[BE,List.length_append];omega),ih]
theorem NX (cs:List AF)(c:AF):(Bb m A (cs++[c])).getD cs.length []=G7 m A (Bb m A cs) c:=by rw[H7,Jy (by rw[BE])]
end
def GL (ni k:Nat)(c:AF):Prop :=
 (c.op=1∧c.a=0∧c.b=0∧0≤c.num∧c.num<((ni:Nat):Int))∨(c.op=2∧c.a=0∧c.b=0∧0≤c.num∧c.num<1000003) ∨
 ((c.op=3∨c.op=4∨c.op=5∨c.op=6)∧(0≤c.a∧c.a<((k:Nat):Int))∧(0≤c.b∧c.b<((k:Nat):Int))∧c.num=0)∨(c.op=7∧(0≤c.a∧c.a<((k:Nat):Int))∧c.b=0∧c.num=0)
theorem GL.bin {ni k:Nat}{op a b:Int}(h:op=3∨op=4∨op=5∨op=6)(ha:0≤a∧a<((k:Nat):Int))(hb:0≤b∧b<((k:Nat):Int)):GL ni k ⟨op,a,b,0⟩:=.inr (.inr (.inl ⟨h,ha,hb,rfl⟩))
theorem GL.neg {ni k:Nat}{a:Int}(ha:0≤a∧a<((k:Nat):Int)):GL ni k ⟨7,a,0,0⟩:=.inr (.inr (.inr ⟨rfl,ha,rfl,rfl⟩))
structure DG (m:Nat)(A:List Sr)(T:Tp):Prop where
 cl:T.code.length=T.vals.length
 ser:∀k,k<T.code.length→Bs m ((Bb m A T.code).getD k [])∧((Bb m A T.code).getD k []).getD 0 0=T.vals.getD k 0
 form:∀k,k<T.code.length→GL A.length k (T.code.getD k AF.zero)
 dv:∀k,k<T.code.length→(T.code.getD k AF.zero).op=6→T.at (T.code.getD k AF.zero).b≠0
 gd:∀k,k<T.grd.length→(0≤(T.grd.getD k QH.zero).reg∧(T.grd.getD k QH.zero).reg<((T.vals.length:Nat):Int))∧(T.grd.getD k QH.zero).z=decide (T.at (T.grd.getD k QH.zero).reg=0)
def TE (T T':Tp):Prop:=(∃l,T'.code=T.code++l)∧∃l,T'.vals=T.vals++l
theorem TE.refl (T:Tp):TE T T:=⟨⟨[],by simp⟩,[],by simp⟩
theorem TE.trans {T T' T'':Tp}(h:TE T T')(k:TE T' T''):TE T T'':=by
 obtain⟨⟨l,h1⟩,l2,h2⟩:=h
 obtain⟨⟨l3,h3⟩,l4,h4⟩:=k
 exact⟨⟨l++l3,by rw[h3,h1,List.append_assoc]⟩,l2++l4,by rw[h4,h2,List.append_assoc]⟩
theorem TE.put (T:Tp)(c:AF)(v:Int):TE T (T.put c v):=⟨⟨[c],rfl⟩,[v],rfl⟩
theorem TE.guard (T:Tp)(r:Int)(z:Bool):TE T (T.guard r z):=⟨⟨[],by simp[Tp.guard]⟩,[],by simp[Tp.guard]⟩
section
variable {m:Nat} {A:List Sr} {T T':Tp}
theorem TE.reg (h:TE T T'){k:Nat}(hk:k<T.code.length):(Bb m A T'.code).getD k []=(Bb m A T.code).getD k []:=by
 obtain⟨⟨l,h1⟩,_⟩:=h
 rw[h1,Mj _ _ hk]
theorem TE.at (h:TE T T'){r:Int}(hr:0≤r∧r<((T.vals.length:Nat):Int)):T'.at r=T.at r:=by
 obtain⟨_,l,h1⟩:=h
 unfold Tp.at
 rw[h1,Jw (by omega)]
theorem TE.len (h:TE T T'):T.code.length≤T'.code.length∧T.vals.length≤T'.vals.length:=by
 obtain⟨⟨l,h1⟩,l2,h2⟩:=h
 rw[h1,h2,List.length_append,List.length_append];omega
def Pe (m:Nat)(A:List Sr)(T:Tp)(r:Int)(z:Sr):Prop:=(0≤r∧r<((T.vals.length:Nat):Int))∧z=(Bb m A T.code).getD r.toNat []
def NY (m:Nat)(A:List Sr)(n:Nat)(T:Tp)(rs:List Int)(zs:List Sr):Prop:=rs.length=n∧zs.length=n∧∀i,i<n→Pe m A T (rs.getD i 0) (zs.getD i [])
theorem Pe.mono {r:Int}{z:Sr}(hc:T.code.length=T.vals.length)(h:Pe m A T r z)(k:TE T T'):Pe m A T' r z:=by
 have:=k.len
 exact⟨by have:=h.1;omega,by rw[k.reg (by have:=h.1;omega)];exact h.2⟩
theorem NY.mono {n:Nat}{rs:List Int}{zs:List Sr}(hc:T.code.length=T.vals.length)(h:NY m A n T rs zs)(k:TE T T'):NY m A n T' rs zs:=⟨h.1,h.2.1,fun i hi=>(h.2.2 i hi).mono hc k⟩
theorem NY.snoc {n:Nat}{rs:List Int}{zs:List Sr}{r:Int}{z:Sr}(h:NY m A n T rs zs)(h1:Pe m A T r z):NY m A (n+1) T (rs++[r]) (zs++[z]):=by
 refine⟨by simp[h.1],by simp[h.2.1],fun i hi=>?_⟩
 by_cases e:i=n
 ·rw[Jy (by rw[h.1];exact e),Jy (by rw[h.2.1];exact e)];exact h1
 ·rw[Jw (by rw[h.1];omega),Jw (by rw[h.2.1];omega)];exact h.2.2 i (by omega)
theorem Pe.at (hI:DG m A T){r:Int}{z:Sr}(h:Pe m A T r z):Bs m z∧z.getD 0 0=T.at r:=by
 have:=hI.ser r.toNat (by rw[hI.cl];have:=h.1;omega)
 rw[h.2];exact this
def Iq {α β:Type}(m:Nat)(A:List Sr)(T:Tp)(R:Tp→α→β→Prop)(r:Rs (α×Tp))(rz:Rs β):Prop:=match r with
 |.ok x t=>∃z,rz=.ok z t∧DG m A x.2∧TE T x.2∧R x.2 x.1 z
 |.err c=>rz=.err c
theorem Iq.bind {α β α' β':Type}{R:Tp→α→β→Prop}{R':Tp→α'→β'→Prop}{r:Rs (α×Tp)}{rz:Rs β}{g:α×Tp→Nat→Rs (α'×Tp)}{gz:β→Nat→Rs β'}(h:Iq m A T R r rz)
  (hg:∀x T' z t,DG m A T'→TE T T'→R T' x z→Iq m A T' R' (g (x,T') t) (gz z t)):Iq m A T R' (r.bind g) (rz.bind gz):=by
 cases r with
 |err c=>have h9:rz=.err c:=h;subst h9;exact rfl
 |ok x t =>
  obtain⟨z,h1,h2,h3,h4⟩:=h
  subst h1
  have h5:=hg x.1 x.2 z t h2 h3 h4
  rw[Rs.bind_ok,Rs.bind_ok]
  cases hr:g x t with
  |err c=>rw[hr]at h5;exact h5
  |ok y u =>
   rw[hr]at h5
   obtain⟨v,q1,q2,q3,q4⟩:=h5
   exact⟨v,q1,q2,h3.trans q3,q4⟩
theorem Iq.ret {α β:Type}{R:Tp→α→β→Prop}{x:α}{z:β}{t:Nat}(hI:DG m A T')(hE:TE T T')(h:R T' x z):Iq m A T R (.ok (x,T') t) (.ok z t):=⟨z,rfl,hI,hE,h⟩
theorem DG.put (h:DG m A T){c:AF}{v:Int}(hs:Bs m (G7 m A (Bb m A T.code) c))(hv:(G7 m A (Bb m A T.code) c).getD 0 0=v)(hf:GL A.length T.code.length c)(hd:c.op=6→T.at c.b≠0):DG m A (T.put c v):=by
 have hE:=TE.put T c v
 have hcl:=h.cl
 have key:∀k,k<(T.put c v).code.length→k<T.code.length∨k=T.code.length:=fun k hk=>by rw[QL]at hk;omega
 have cg:∀k,k<T.code.length→(T.put c v).code.getD k AF.zero=T.code.getD k AF.zero:=fun k hk=>Jw hk
 have cn:(T.put c v).code.getD T.code.length AF.zero=c:=Jy rfl
 refine⟨by rw[QL,Hr,hcl],fun k hk=>?_,fun k hk=>?_,fun k hk h6=>?_,fun k hk=>?_⟩
 ·rcases key k hk with hk|rfl
  ·rw[hE.reg hk,show(T.put c v).vals.getD k 0=T.vals.getD k 0 from Jw (by omega)];exact h.ser k hk
  ·rw[show(Bb m A (T.put c v).code).getD T.code.length []=_ from NX _ _,show(T.put c v).vals.getD T.code.length 0=v from Jy hcl];exact⟨hs,hv⟩
 ·rcases key k hk with hk|rfl
  ·rw[cg k hk];exact h.form k hk
  ·rw[cn];exact hf
 ·rcases key k hk with hk|rfl
  ·rw[cg k hk]at h6 ⊢
   have:=h.form k hk
   unfold GL at this
   rw[hE.at (by omega)];exact h.dv k hk h6
  ·rw[cn]at h6 ⊢
   unfold GL at hf
   rw[hE.at (by omega)];exact hd h6
 ·have:=h.gd k hk
  rw[V8]at hk ⊢
  refine⟨by rw[Hr];omega,?_⟩
  rw[hE.at this.1];exact this.2
theorem DG.guard (h:DG m A T){r:Int}(hr:0≤r∧r<((T.vals.length:Nat):Int)):DG m A (T.guard r (decide (T.at r=0))):=by
 refine⟨h.cl,h.ser,h.form,h.dv,fun k hk=>?_⟩
 rw[PO]at hk
 by_cases e:k<T.grd.length
 ·rw[show(T.guard r (decide (T.at r=0))).grd.getD k QH.zero=T.grd.getD k QH.zero from Jw e];exact h.gd k e
 ·rw[show(T.guard r (decide (T.at r=0))).grd.getD k QH.zero=⟨r,decide (T.at r=0)⟩from Jy (by omega)];exact⟨hr,rfl⟩
theorem Iq.put {R:Tp→Int→Sr→Prop}{c:AF}{v:Int}{z:Sr}{t:Nat}(h:DG m A T)(hz:G7 m A (Bb m A T.code) c=z)(hs:Bs m z)(hv:z.getD 0 0=v)(hf:GL A.length T.code.length c)(hd:c.op=6→T.at c.b≠0)
  (hR:∀T' r z,Pe m A T' r z→R T' r z):Iq m A T R (.ok (((T.vals.length:Nat):Int),T.put c v) t) (.ok z t):=by
 subst hz
 refine Iq.ret (h.put hs hv hf hd) (TE.put T c v) (hR _ _ _ ⟨by rw[Hr];omega,?_⟩)
 rw[Int.toNat_natCast,← h.cl];exact(NX _ _).symm
theorem fw (hm:1≤m)(h:DG m A T){k:Int}{n t:Nat}{rs:List Int}{zs:List Sr}(hr:NY m A n T rs zs)(hk:3≤k∧k≤7)(h1:k=7→1≤n)(h2:k≠7→2≤n):Iq m A T (Pe m A) (UW k rs t T) (Ll k zs t):=by
 have hn1:1≤n:=by by_cases e:k=7;exact h1 e;have:=h2 e;omega
 have ha:=hr.2.2 0 (by omega)
 have hA:=ha.at h
 have hal:=hA.1.1
 have hac:=ha.1
 have hcl:=h.cl
 have fin:∀T' r z,Pe m A T' r z→Pe m A T' r z:=fun _ _ _ h=>h
 by_cases k7:k=7
 ·subst k7
  rw[J7 (Zp rfl),V7 rfl]
  refine Iq.put h ?_ ⟨(FZ _ _).trans hal,Em _ _⟩ ?_ (GL.neg (by omega)) (fun h6=>absurd (show(7:Int)=6 from h6) (by decide)) fin
  ·rw[ha.2];rfl
  ·rw[NW (by omega),hA.2]
   show md (T.at (rs.getD 0 0)*1000002)=md (0-T.at (rs.getD 0 0))
   unfold md;omega
 have hb:=hr.2.2 1 (h2 k7)
 have hB:=hb.at h
 have hbl:=hB.1.1
 have hbc:=hb.1
 by_cases k3:k=3
 ·subst k3
  rw[J7 (fun h=>h.1 rfl),Hq (by decide)]
  refine Iq.put h ?_ ⟨(GV _ _).trans hal,HT _ _⟩ ?_ (GL.bin (.inl rfl) (by omega) (by omega)) (fun h6=>absurd (show(3:Int)=6 from h6) (by decide)) fin
  ·rw[ha.2,hb.2];rfl
  ·rw[NV (by omega),hA.2,hB.2];rfl
 by_cases k4:k=4
 ·subst k4
  rw[J7 (fun h=>h.2.1 rfl),Hq (by decide)]
  refine Iq.put h ?_ ⟨(GW _ _).trans hal,GX _ _⟩ ?_ (GL.bin (.inr (.inl rfl)) (by omega) (by omega)) (fun h6=>absurd (show(4:Int)=6 from h6) (by decide)) fin
  ·rw[ha.2,hb.2];rfl
  ·rw[PU (by omega),hA.2,hB.2];rfl
 by_cases k5:k=5
 ·subst k5
  rw[J7 (fun h=>h.2.2.1 rfl),Hq (by decide)]
  refine Iq.put h ?_ ⟨(Fe _ _).trans hal,Ff _ _⟩ ?_ (GL.bin (.inr (.inr (.inl rfl))) (by omega) (by omega)) (fun h6=>absurd (show(5:Int)=6 from h6) (by decide)) fin
  ·rw[ha.2,hb.2];rfl
  ·rw[Mg (by omega),hA.2,hB.2,Int.zero_add];rfl
 have k6:k=6:=by omega
 subst k6
 by_cases hz:T.at (rs.getD 1 0)=0
 ·rw[Sb (by rw[Hq (by decide)];exact⟨by decide,by decide,by decide,by decide,hz⟩)]
  show Ll 6 zs t=.err 6
  show(if (zs.getD 1 []).getD 0 0=0 then _ else _)=_
  rw[if_pos (by rw[hB.2];exact hz)]
 ·rw[J7 (by rw[Hq (by decide)];exact fun h9=>hz h9.2.2.2.2),Hq (by decide)]
  have e:Ll 6 zs t=.ok (BR (zs.getD 0 []) (zs.getD 1 [])) t:=by
   show(if (zs.getD 1 []).getD 0 0=0 then _ else _)=_
   rw[if_neg (by rw[hB.2];exact hz)]
  rw[e]
  refine Iq.put h ?_ ⟨(DT _ _).trans hal,El _ _⟩ ?_ (GL.bin (.inr (.inr (.inr rfl))) (by omega) (by omega)) (fun _=>hz) fin
  ·rw[ha.2,hb.2];rfl
  ·rw[PV (by omega),hA.2,hB.2];rfl
end
structure kN (m:Nat)(A:List Sr)(p:List Fn)(F:Nat)(G:Cg)(C:Ca):Prop where
 one:∀f j n T rs zs t,f<F→j<(p.getD f Fn.zero).outs.length→DG m A T→NY m A n T rs zs→((n:Nat):Int)=(p.getD f Fn.zero).params→Iq m A T (Pe m A) (G.one f j rs t T) (C.one f j zs t)
 all:∀f n T rs zs t,f<F→DG m A T→NY m A n T rs zs→((n:Nat):Int)=(p.getD f Fn.zero).params→Iq m A T (NY m A (p.getD f Fn.zero).outs.length) (G.all f rs t T) (C.all f zs t)
section
variable {m:Nat} {A:List Sr} {p:List Fn}
theorem Vy {G:Cg}{C:Ca}{env:List Int}{ez:List Sr}{n:Nat}:∀(l:List Ex),(∀e∈l,∀s T,DG m A T→NY m A n T env ez→Iq m A T (Pe m A) (HG G e env s T) (Eb m C e ez s))→∀s T,DG m A T→NY m A n T env ez→Iq m A T (NY m A l.length) (Il G l env s T) (E7 m C l ez s)
 |[],_,s,T,hI,he=>by
  rw[Il,E7]
  exact Iq.ret hI (TE.refl T) ⟨rfl,rfl,fun i hi=>absurd hi (Nat.not_lt_zero i)⟩
 |e::l,h,s,T,hI,he=>by
  rw[Il,E7]
  refine(h e (by simp) s T hI he).bind fun x T1 z t h1 h2 h3=>?_
  refine(Vy l (fun e' he'=>h e' (by simp[he'])) t T1 h1 (he.mono hI.cl h2)).bind fun xs T2 zs u q1 q2 q3=>?_
  refine Iq.ret q1 (TE.refl T2) ⟨by simp[q3.1],by simp[q3.2.1],fun i hi=>?_⟩
  cases i with
  |zero=>exact h3.mono h1.cl q2
  |succ i=>exact q3.2.2 i (by simpa using hi)
theorem Vz {F f:Nat}{G:Cg}{C:Ca}(hC:kN m A p F G C)(hf:f<F)(ho:(((p.getD f Fn.zero).outs.length:Nat):Int)=(p.getD f Fn.zero).params):∀(c:Nat)(rs:List Int)(zs:List Sr)(t:Nat)(T:Tp),DG m A T→NY m A (p.getD f Fn.zero).outs.length T rs zs →
  Iq m A T (NY m A (p.getD f Fn.zero).outs.length) (J6 (G.all f) c rs t T) (Lk (C.all f) c zs t)
 |0,rs,zs,t,T,hI,h=>Iq.ret hI (TE.refl T) h
 |c+1,rs,zs,t,T,hI,h=>(Vz hC hf ho c rs zs t T hI h).bind fun x T1 z u h1 h2 h3=>hC.all f _ T1 x z u hf h1 h3 ho
theorem VA (hm:1≤m){F:Nat}{G:Cg}{C:Ca}(hC:kN m A p F G C):∀(z:Nat)(e:Ex),e.size≤z→∀(n:Nat)(env:List Int)(ez:List Sr)(s:Nat)(T:Tp),wf p ((F:Nat):Int) e ((n:Nat):Int)=true→DG m A T→NY m A n T env ez →
  Iq m A T (Pe m A) (HG G e env s T) (Eb m C e ez s)
 |0,e,h,_,_,_,_,_,_,_,_=>by have:=Cb e;omega
 |z+1,e,h,n,env,ez,s,T,hw,hI,he=>by
  obtain⟨w1,w2,w3,w4,w5,w6,w7,w8⟩:=Dm (D6 hw)
  have hz:∀j,j<e.kids.length→(e.kids.getD j Ex.zero).size≤z:=fun j hj=>by
   have:=Cb e;have:=LM hj;omega
  have hk:∀j,j<e.kids.length→¬(e.kind=9∧j=1)→∀t T',DG m A T'→NY m A n T' env ez→Iq m A T' (Pe m A) (QK G e.kids j env t T') (IO m C e.kids j ez t):=fun j hj hn t T' h1 h2=>by
   rw[G3 _ _ _ _ _ _ hj,DM _ _ _ _ _ _ hj]
   exact VA hm hC z _ (hz j hj) n env ez t T' (GC hw hj hn) h1 h2
  rw[Hp,Fq]
  by_cases hs3:3000≤s
  ·rw[if_pos hs3,if_pos hs3];exact rfl
  rw[if_neg hs3,if_neg hs3]
  by_cases k1:e.kind=1
  ·rw[if_pos k1,if_pos k1]
   have:=w8 k1
   exact Iq.put hI rfl (DE (C3.2 this)) (Yx hm) (.inr (.inl ⟨rfl,rfl,rfl,this⟩)) (fun h6=>absurd (show(2:Int)=6 from h6) (by decide)) fun _ _ _ h=>h
  rw[if_neg k1,if_neg k1]
  by_cases k2:e.kind=2
  ·rw[if_pos k2,if_pos k2]
   exact Iq.ret hI (TE.refl T) (he.2.2 _ (by have:=w2 k2;omega))
  rw[if_neg k2,if_neg k2]
  by_cases k8:e.kind=8
  ·rw[if_pos k8,if_pos k8]
   have h3:=w5 k8
   refine(hk 0 (by omega) (by omega) (s+1) T hI he).bind fun x T1 y t h1 h2 hx=>?_
   have hq:=(hx.at h1).2
   have he1:=he.mono hI.cl h2
   dsimp only
   have fin:∀ {r:Rs RI} {rz:Rs Sr} {b:Bool},Iq m A (T1.guard x b) (Pe m A) r rz→Iq m A T1 (Pe m A) r rz:=fun {r rz b} hh=>by
    cases r with
    |err c=>exact hh
    |ok v u=>obtain⟨q,a1,a2,a3,a4⟩:=hh;exact⟨q,a1,a2,(TE.guard T1 x b).trans a3,a4⟩
   have hg:=h1.guard hx.1
   by_cases h0:T1.at x=0
   ·rw[if_pos h0,if_pos (by rw[hq];exact h0)]
    rw[A7 h0]at hg
    exact fin (hk 1 (by omega) (by omega) t _ hg (he1.mono h1.cl (TE.guard T1 x true)))
   ·rw[if_neg h0,if_neg (by rw[hq];exact h0)]
    rw[A8 h0]at hg
    exact fin (hk 2 (by omega) (by omega) t _ hg (he1.mono h1.cl (TE.guard T1 x false)))
  rw[if_neg k8,if_neg k8]
  by_cases k9:e.kind=9
  ·rw[if_pos k9,if_pos k9]
   have h3:=w3 (by omega)
   refine(hk 0 (by omega) (by omega) (s+1) T hI he).bind fun x T1 y t h1 h2 hx=>?_
   dsimp only
   rw[G3 _ _ _ _ _ _ (show 1<e.kids.length by omega),DM _ _ _ _ _ _ (show 1<e.kids.length by omega)]
   refine VA hm hC z _ (hz 1 (by omega)) (n+1) (env++[x]) (ez++[y]) t T1 ?_ h1 ((he.mono hI.cl h2).snoc hx)
   have:=M5 hw (by omega) k9
   rw[Int.natCast_add];exact this
  rw[if_neg k9,if_neg k9]
  have hc:=Vy (G:=G) (C:=C) (env:=env) (ez:=ez) (n:=n) e.kids (fun x hx t T' h1 h2=>by
   obtain⟨j,hj,rfl⟩:=List.mem_iff_getElem.1 hx
   have:=hk j hj (by omega) t T' h1 h2
   rw[G3 _ _ _ _ _ _ hj,DM _ _ _ _ _ _ hj,DV hj]at this
   exact this) (s+1) T hI he
  refine hc.bind fun xs T1 zs t h1 h2 hx=>?_
  dsimp only
  by_cases k10:e.kind=10
  ·rw[if_pos k10,if_pos k10]
   have h6:=w6 (.inl k10)
   exact hC.one _ _ _ T1 xs zs t (by omega) (by omega) h1 hx (by exact h6.2.2.1)
  rw[if_neg k10,if_neg k10]
  by_cases k11:e.kind=11
  ·rw[if_pos k11,if_pos k11]
   have h6:=w6 (.inr k11);have h7:=w7 k11
   have hl:e.kids.length=(p.getD e.num.toNat Fn.zero).outs.length:=by omega
   rw[hl]at hx
   refine(Vz hC (f:=e.num.toNat) (by omega) h7.1 e.count.toNat xs zs t T1 h1 hx).bind fun ys T2 ws u q1 q2 q3=>?_
   exact Iq.ret q1 (TE.refl T2) (q3.2.2 _ (by omega))
  rw[if_neg k11,if_neg k11]
  exact fw hm h1 hx (by omega) (fun h7=>by rw[w4 h7];decide) (fun h7=>by rw[w3 (by omega)];decide)
theorem Zz (hm:1≤m)(hv:Iz p):∀F,F≤p.length→kN m A p F (L5 p F) (H1 p m F)
 |0,_=>⟨fun f j n T rs zs t h=>by omega,fun f n T rs zs t h=>by omega⟩
 |F+1,hF=>by
  have ih:=Zz hm hv F (by omega)
  have hO:∀j n T rs zs t,j<(p.getD F Fn.zero).outs.length→DG m A T→NY m A n T rs zs→((n:Nat):Int)=(p.getD F Fn.zero).params→Iq m A T (Pe m A) (HG (L5 p F) ((p.getD F Fn.zero).outs.getD j Ex.zero) rs t T) (Eb m (H1 p m F) ((p.getD F Fn.zero).outs.getD j Ex.zero) zs t):=fun j n T rs zs t h2 h1 h3 h4 =>
   VA hm ih _ _ (A9 _) n rs zs t T (by rw[h4];exact hv.wf F (by omega) j h2) h1 h3
  refine⟨fun f j n T rs zs t h1 h2 h0 h3 h4=>?_,fun f n T rs zs t h1 h0 h3 h4=>?_⟩
  ·show Iq m A T _ (if f=F then _ else _) (if f=F then _ else _)
   by_cases e:f=F
   ·subst e;rw[if_pos rfl,if_pos rfl];exact hO j n T rs zs t h2 h0 h3 h4
   ·rw[if_neg e,if_neg e];exact ih.one f j n T rs zs t (by omega) h2 h0 h3 h4
  ·show Iq m A T _ (if f=F then _ else _) (if f=F then _ else _)
   by_cases e:f=F
   ·subst e;rw[if_pos rfl,if_pos rfl]
    refine Vy (n:=n) _ (fun e he s T' h5 h6=>?_) t T h0 h3
    obtain⟨j,hj,rfl⟩:=List.mem_iff_getElem.1 he
    have:=hO j n T' rs zs s hj h5 h6 h4
    rwa [DV hj]at this
   ·rw[if_neg e,if_neg e];exact ih.all f n T rs zs t (by omega) h0 h3 h4
theorem ZA {a:List Int}(hn:B7 a=true)(hA:QO m a A):∀k,k≤a.length→DG m A (JQ a k)
 |0,_=>⟨rfl,fun k hk=>absurd hk (Nat.not_lt_zero k),fun k hk=>absurd hk (Nat.not_lt_zero k),fun k hk=>absurd hk (Nat.not_lt_zero k),fun k hk=>absurd hk (Nat.not_lt_zero k)⟩
 |k+1,h=>by
  have e:G7 m A (Bb m A (JQ a k).code) ⟨1,0,0,((k:Nat):Int)⟩=A.getD k []:=by
   show A.getD (((k:Nat):Int)).toNat []=_
   rw[Int.toNat_natCast]
  refine(ZA hn hA k (by omega)).put ?_ ?_ (.inl ⟨rfl,rfl,rfl,Int.natCast_nonneg k,by rw[hA.len];exact Int.ofNat_lt.2 h⟩) (fun h6=>absurd (show(1:Int)=6 from h6) (by decide))
  ·rw[e];exact hA.ser k h
  ·rw[e];exact hA.at0 k h
theorem fy {a:List Int}(hA:QO m a A):NY m A a.length (JQ a a.length) (HI a.length) A:=by
 have hr:∀k,k≤a.length→∀j,j<k→(Bb m A (JQ a k).code).getD j []=A.getD j []:=fun k=>by
  induction k with
  |zero=>exact fun _ j hj=>absurd hj (Nat.not_lt_zero j)
  |succ k ih =>
   intro hk j hj
   show(Bb m A ((JQ a k).code++[_])).getD j []=_
   rw[H7]
   by_cases e:j=k
   ·rw[Jy (by rw[BE,Oy];exact e),e]
    show A.getD (((k:Nat):Int)).toNat []=_
    rw[Int.toNat_natCast]
   ·rw[Jw (by rw[BE,Oy];omega)];exact ih (by omega) j (by omega)
 refine⟨H5 _,hA.len,fun i hi=>?_⟩
 rw[PP hi]
 exact⟨by rw[Ky];omega,by rw[Int.toNat_natCast,hr _ (A9 _) i hi]⟩
theorem Sn {a:List Int}{f:Nat}(hm:1≤m)(hv:Iz p)(hf:f<p.length)(hn:B7 a=true)(hA:QO m a A)(hl:((a.length:Nat):Int)=(p.getD f Fn.zero).params) :
  Iq m A (JQ a a.length) (NY m A (p.getD f Fn.zero).outs.length) (Na p f a) (ev p m f A):=by
 have h:=(Zz (A:=A) hm hv (f+1) (by omega)).all f a.length (JQ a a.length) (HI a.length) A 0 (by omega) (ZA hn hA _ (A9 _)) (fy hA) hl
 rw[Ov (show f<f+1 by omega),JN (show f<f+1 by omega)]at h
 exact h
theorem JU {a:List Int}{f:Nat}(hm:1≤m)(hv:Iz p)(hf:f<p.length)(hn:B7 a=true)(hA:QO m a A)(hl:((a.length:Nat):Int)=(p.getD f Fn.zero).params){xs:List Int}{T:Tp}{s:Nat}{c:Int}(h:AT (Na p f a) (xs,T) s c):HF p m f A=c:=by
 have hT:=Sn hm hv hf hn hA hl
 cases hr:Na p f a with
 |err d =>
  rw[hr]at h hT
  have h9:ev p m f A=.err d:=hT
  rw[HY h9];exact h.1.symm
 |ok x t =>
  rw[hr]at h hT
  obtain⟨z,h1,_⟩:=hT
  rw[NN h1];exact h.2.2.symm
theorem JV {a:List Int}{f:Nat}(hm:1≤m)(hv:Iz p)(hf:f<p.length)(hn:B7 a=true)(hA:QO m a A)(hl:((a.length:Nat):Int)=(p.getD f Fn.zero).params){xs:List Int}{T:Tp}{s:Nat}{c:Int}(h:AT (Na p f a) (xs,T) s c)(hc:c=0) :
  DG m A T∧Dr p m f A=xs.map fun r=>(Bb m A T.code).getD r.toNat []:=by
 have hT:=Sn hm hv hf hn hA hl
 subst hc
 have hr:=h.ok
 rw[hr]at hT
 obtain⟨z,h1,h2,h3,h4⟩:=hT
 refine⟨h2,?_⟩
 rw[M7 h1]
 refine dJ (by rw[h4.2.1,List.length_map,h4.1]) fun i hi=>?_
 rw[h4.2.1]at hi
 rw[B5 (d:=0) (by rw[h4.1];exact hi)]
 exact(h4.2.2 i hi).2
end
end
end Go.Proofs.YtnokbaiemimhjaaGreat
