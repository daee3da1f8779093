/- Hs, Xa, Xb, Xg, Vi, Vj, Vk, Vl, Vn, Vo, Xp, Xk: texts of this claim, joined; what the claim does not come to is left out. -/
import Derived.Test.YtbajepcpgncekaaGreatQH3
import Derived.Test.YtbajepcpgncekaaGreatProg
set_option linter.unusedVariables false
set_option linter.unusedSimpArgs false
namespace Go.Proofs.YtbajepcpgncekaaGreat
open Go Go.RowKit
section
section
variable {α:Type} {E:BW α} {s:Nat} {e:TypeId} {H:Array Obj} {v:Value} {xs:List α} {F:List Nat}
theorem CE.rep:∀ {css:List (List Value)}{xs:List α}{F:List Nat}{k:Nat}(d:α),CE E H css xs F→k<xs.length→F.Nodup →
  ∃cs G,css[k]? = some cs∧E H cs (xs.getD k d) G∧G.Nodup∧(∀b∈G,b∈F) ∧
   (∀ {E2:BW α} {H':Array Obj} {cs':List Value} {y:α} {G':List Nat},(∀ {c x C},E H c x C→(∀b∈C,b∈F∧b∉G)→E2 H' c x C)→E2 H' cs' y G'→G'.Nodup→(∀b∈G',b∈G∨b∉F) →
    ∃F',CE E2 H' (css.set k cs') (xs.set k y) F'∧F'.Nodup∧∀b∈F',(b∈F∧b∉G)∨b∈G')
 |c::css,x::xs,_,0,d,⟨F1,F2,rfl,h1,h2⟩,_,hn=>by
  have hn':=List.nodup_append.1 hn
  refine⟨c,F1,rfl,h1,hn'.1,fun b hb=>z8 _ hb,fun {E2 H' cs' y G'} hE hu hg hd=>⟨G'++F2,⟨G',F2,rfl,hu,?_⟩,List.nodup_append.2 ⟨hg,hn'.2.1,?_⟩,fun b hb=>(zi.1 hb).elim .inr fun h=>.inl ⟨z1 _ h,fun hc=>hn'.2.2 b hc b h rfl⟩⟩⟩
  ·have key:∀ {us:List (List Value)} {xs:List α} {F:List Nat},CE E H us xs F→(∀b∈F,b∈F2)→CE E2 H' us xs F:=by
    intro us
    induction us with
    |nil=>intro xs F h _;cases xs with
     |nil=>exact h
     |cons=>exact h.elim
    |cons u us ih =>
     intro xs F h hs
     cases xs with
     |nil=>exact h.elim
     |cons x xs =>
      obtain⟨A,C,rfl,q1,q2⟩:=h
      exact⟨A,C,rfl,hE q1 fun b hb=>⟨z1 _ (hs b (z8 _ hb)),fun hc=>hn'.2.2 b hc b (hs b (z8 _ hb)) rfl⟩,ih q2 fun b hb=>hs b (z1 _ hb)⟩
   exact key h2 fun b hb=>hb
  ·rintro a ha b hb rfl
   rcases hd a ha with h9|h9
   ·exact hn'.2.2 a h9 a hb rfl
   ·exact h9<|z1 _ hb
 |c::css,x::xs,_,k+1,d,⟨F1,F2,rfl,h1,h2⟩,hk,hn=>by
  have hn':=List.nodup_append.1 hn
  obtain⟨cs,G,hu,hx,hg,hb,hc⟩:=CE.rep d h2 (by simpa using hk) hn'.2.1
  refine⟨cs,G,by simpa using hu,by simpa using hx,hg,fun b hh=>z1 _ (hb b hh),fun {E2 H' cs' y G'} hE hy hg' hd=>?_⟩
  obtain⟨F',r1,r2,r3⟩:=hc (E2:=E2) (H':=H') (fun q hs=>hE q fun b hb'=>⟨z1 _ (hs b hb').1,(hs b hb').2⟩) hy hg' (fun b hb'=>(hd b hb').elim .inl fun h9=>.inr fun hm=>h9 (z1 _ hm))
  refine⟨F1++F',⟨F1,F',rfl,hE h1 fun b hb'=>⟨z8 _ hb',fun hc'=>hn'.2.2 b hb' b (hb b hc') rfl⟩,r1⟩,List.nodup_append.2 ⟨hn'.1,r2,?_⟩,fun b hb'=>?_⟩
  ·rintro a ha b hb' rfl
   rcases r3 a hb' with h9|h9
   ·exact hn'.2.2 a ha a h9.1 rfl
   ·rcases hd a h9 with h8|h8
    ·exact hn'.2.2 a ha a (hb a h8) rfl
    ·exact h8<|z8 _ ha
  ·rcases zi.1 hb' with h9|h9
   ·exact .inl ⟨z8 _ h9,fun hc'=>hn'.2.2 b h9 b (hb b hc') rfl⟩
   ·rcases r3 b h9 with h8|h8
    ·exact .inl ⟨z1 _ h8.1,h8.2⟩
    ·exact .inr h8
 |[],[],_,_,_,_,hk,_=>by simp at hk
 |[],_::_,_,_,_,h,_,_=>h.elim
 |_::_,[],_,_,_,h,_,_=>h.elim
theorem CE.cells (hE:Cw s E){css:List (List Value)}{k:Nat}{cs:List Value}(d:α)(h:CE E H css xs F)(hk:k<xs.length)(q1:css[k]? = some cs){i:Nat}(hi:i<s):css.flatten[k*s+i]? = some (cs.getD i undef):=by
 have hlen:=h.lens hE
 have hkl:k<css.length:=by rw[h.length];exact hk
 have e0:css[k]=cs:=by rw[List.getElem?_eq_getElem hkl]at q1;exact Option.some.inj q1
 have hl:cs.length=s:=hlen cs (by rw[← e0];exact List.getElem_mem hkl)
 have h1:=MQ (vs:=cs) hlen hl hkl
 have h2:(css.set k cs)=css:=by rw[← e0];simp
 rw[h2]at h1
 have hfl:=h.flen hE
 have hks:k*s+s≤xs.length*s:=by rw[← Nat.succ_mul];exact Nat.mul_le_mul_right s hk
 rw[← h1,List.append_assoc,List.getElem?_append_right (by rw[List.length_take];omega),List.length_take,List.getElem?_append_left (by omega)]
 rw[show k*s+i-min (k*s) css.flatten.length=i from by omega]
 simp[hl,hi]
theorem D7.rep {E2:BW α}(hE:Cw s E)(hE2:Cw s E2)(hi:∀ {H cs x F},E H cs x F→E2 H cs x F)(d:α){k:Nat}(h:D7 s E e H v xs F)(hn:F.Nodup)(hk:k<xs.length) :
  ∃cs G,LD H (Ax v k s) cs∧E H cs (xs.getD k d) G∧G.Nodup∧(∀b∈G,b∈F) ∧
   ∀(H':Array Obj) (y:α) (G':List Nat),(∀b,b∈F→b∉G→H'[b]? = H[b]?)→E2 H' cs y G'→G'.Nodup→(∀b∈G',b∈G∨b∉F)→∃F',D7 s E2 e H' v (xs.set k y) F'∧F'.Nodup∧∀b∈F',(b∈F∧b∉G)∨b∈G':=by
 rcases h with⟨rfl,rfl,rfl⟩|⟨css,g,cap,cur,F',h,rfl,hg,r1,r2,r3,r4,rfl⟩
 ·simp at hk
 ·have hn':=List.nodup_cons.1 hn
  obtain⟨cs,G,q1,q2,q3,q4,q5⟩:=h.rep d hk hn'.2
  have hgG:g∉G:=fun hm=>hn'.1 (q4 g hm)
  refine⟨cs,G,⟨g,0+k*s,Le ..,fun i hi=>?_⟩,q2,q3,fun b hb=>z3 _ (q4 b hb),fun H' y G' hH hy hg' hd=>?_⟩
  ·simp only[Ch,hg]
   have hl:=hE.len q2
   have h3:=h.cells hE d hk q1 (i:=i) zO
   have hks:k*s+s≤xs.length*s:=by rw[← Nat.succ_mul];exact Nat.mul_le_mul_right s hk
   rw[← r4,List.getElem?_take,if_pos (by omega)]at h3
   rw[Nat.zero_add]
   simpa using h3
  ·have h2:(css.set k cs)=css:=by
    have hkl:k<css.length:=by rw[h.length];exact hk
    have e0:css[k]=cs:=by rw[List.getElem?_eq_getElem hkl]at q1;exact Option.some.inj q1
    rw[← e0];simp
   obtain⟨F2,t1,t2,t3⟩:=q5 (E2:=E2) (H':=H') (cs':=cs) (fun {c x C} hc hb=>hE2.stable (hi hc) fun b hm=>hH b (z3 _ (hb b hm).1) (hb b hm).2) hy hg' (fun b hb=>(hd b hb).elim .inl fun h9=>.inr fun hm=>h9 (z3 _ hm))
   rw[h2]at t1
   refine⟨g::F2,.inr ⟨css,g,cap,cur,F2,t1,by rw[z6],by rw[hH g (z0 ..) hgG];exact hg,by rw[z6];exact r1,r2,r3,by rw[z6];exact r4,rfl⟩,List.nodup_cons.2 ⟨fun hm=>?_,t2⟩,fun b hb=>?_⟩
   ·rcases t3 g hm with h9|h9
    ·exact hn'.1 h9.1
    ·rcases hd g h9 with h8|h8
     ·exact hgG h8
     ·exact h8 (z0 ..)
   ·rcases ze.1 hb with rfl|hb
    ·exact .inl ⟨z0 ..,hgG⟩
    ·rcases t3 b hb with h9|h9
     ·exact .inl ⟨z3 _ h9.1,h9.2⟩
     ·exact .inr h9
end
section ops
variable {P:Program} {ops:Array Oper} {w0:World} {Q:Act→World→Prop} {os:List Oper} {ks:List Nat} {N:Nat} {ρ:Nat→Value} {w:World}
 {d:Nat} {ty:TypeId} {pos:String} {aft:Array Edge} {g:Option (Nat×Bool)} {t e:TypeId} {α:Type} {E:BW α} {s:Nat}
theorem YV {E2:BW α}{st:TypeId}{v:Value}{cs':List Value}{xs:List α}{F:List Nat}{j:Nat}(dz:α)(hE:Cw s E)(hE2:Cw s E2)(hi2:∀ {H cs x F},E H cs x F→E2 H cs x F)(hst:EA P st s=true)
  (hv:D7 s E e w.heap v xs F) (hn:F.Nodup) (hj:j<xs.length) (hl:cs'.length=s) (h1:∀u∈cs',u.oneCell'=true) :
  ∃b cs G w1,LD w.heap (Ax v j s) cs∧E w.heap cs (xs.getD j dz) G∧G.Nodup∧(∀x∈G,x∈F)∧b∈F∧b∉G∧(∃p,Ax v j s=.pointer p)∧(Instr.storeAt st (Ax v j s) (.agg cs'.toArray)).run P w=.ok () w1∧Az [b] w w1∧w1.heap.size=w.heap.size ∧
   ∀(y:α) (G':List Nat),E2 w.heap cs' y G'→G'.Nodup→(∀x∈G',x∈G∨x∉F)→∃F',D7 s E2 e w1.heap v (xs.set j y) F'∧F'.Nodup∧∀x∈F',(x∈F∧x∉G)∨x∈G':=by
 rcases hv with⟨rfl,rfl,rfl⟩|⟨css,b,cap,cur,F0,hels,rfl,hgc,r1,r2,r3,r4,rfl⟩
 ·simp at hj
 ·have hn':=List.nodup_cons.1 hn
  obtain⟨cs,G,q1,q2,q3,q4,q5⟩:=hels.rep dz hj hn'.2
  have hbG:b∉G:=fun hm=>hn'.1 (q4 b hm)
  have hlen:=hels.lens hE
  have hfl:=hels.flen hE
  have hjs:j*s+s≤xs.length*s:=by rw[← Nat.succ_mul];exact Nat.mul_le_mul_right s hj
  have hcs:xs.length*s≤cur.size:=by rw[r3];exact Nat.mul_le_mul_right s r1
  have hst1:=run_storeCells_at (P:=P) b (j*s) e cs' 0 cur w hgc zO h1
  rw[Nat.add_zero]at hst1
  have htk:(cur.toList.take (j*s)++cs'++cur.toList.drop (j*s+cs'.length)).take (xs.length*s)=(css.set j cs').flatten:=by
   rw[Um zO (by rw[Array.length_toList];omega),r4,MQ hlen hl (by rw[hels.length];exact hj)]
  unfold EA at hst
  simp only[z7]at hst
  obtain⟨_,p2⟩:=hst
  split at p2
  ·rename_i inf hin
   have hs:inf.size=s:=by simpa using p2
   have hr:(Instr.storeAt st (.pointer (some ⟨b,j*s,none⟩)) (.agg cs'.toArray)).run P w=.ok () (w.setRow b (cur.toList.take (j*s)++cs'++cur.toList.drop (j*s+cs'.length)).toArray):=by
    simp[Instr.storeAt,Instr.sureAddr,storeVar,sizeOf,typeInfo,hin,Value.cells,hl,hs,hst1]
   have hgn:=setRow_heap w b cur (cur.toList.take (j*s)++cs'++cur.toList.drop (j*s+cs'.length)).toArray e (0,0) hgc
   refine⟨b,cs,G,w.setRow b (cur.toList.take (j*s)++cs'++cur.toList.drop (j*s+cs'.length)).toArray,⟨b,0+j*s,Le ..,fun i hi=>?_⟩,q2,q3,fun x hx=>z3 _ (q4 x hx),z0 ..,hbG,⟨_,Le ..⟩,by rw[Le,Nat.zero_add];exact hr,⟨rfl,rfl,rfl,by simp,fun k _ hk=>setRow_other w b k _ (by simpa using hk)⟩,by simp,fun y G' hy hg' hd=>?_⟩
   ·simp only[Ch,hgc]
    have hl2:=hE.len q2
    have h3:=hels.cells hE dz hj q1 (i:=i) zO
    rw[← r4,List.getElem?_take,if_pos (by omega)]at h3
    rw[Nat.zero_add]
    simpa using h3
   ·have hbG':b∉G':=fun hm=>(hd b hm).elim hbG fun h9=>h9 (z0 ..)
    obtain⟨F',t1,t2,t3⟩:=q5 (E2:=E2) (H':=(w.setRow b (cur.toList.take (j*s)++cs'++cur.toList.drop (j*s+cs'.length)).toArray).heap) (cs':=cs') (y:=y) (G':=G') (fun {c x C} hc hb=>hE2.stable (hi2 hc) fun k hm=>setRow_other w b k _ fun he=>hn'.1 (he ▸ (hb k hm).1)) (hE2.stable hy fun k hm=>setRow_other w b k _ fun he=>hbG' (he ▸ hm)) hg' (fun x hx=>(hd x hx).elim .inl fun h9=>.inr fun hm=>h9 (z3 _ hm))
    refine⟨b::F',.inr ⟨css.set j cs',b,cap,_,F',t1,by simp,hgn,by rw[z6];exact r1,r2,by rw[← r3,List.size_toArray];simp only[z4,List.length_take,List.length_drop,Array.length_toList];omega,by rw[z6];exact htk,rfl⟩,List.nodup_cons.2 ⟨fun hm=>?_,t2⟩,fun x hx=>?_⟩
    ·rcases t3 b hm with h9|h9
     ·exact hn'.1 h9.1
     ·exact hbG' h9
    ·rcases ze.1 hx with rfl|hx
     ·exact .inl ⟨z0 ..,hbG⟩
     ·rcases t3 x hx with h9|h9
      ·exact .inl ⟨z3 _ h9.1,h9.2⟩
      ·exact .inr h9
  ·cases p2
theorem YW {b:Nat}{z a0 a1 a2 a3 a4 b0 b1 b2 b3 b4:Value}(ht:P.underlying t=some (.slice e))(hi:TI P e 5 z b)(hz:z.cells.size=5) :
  (Instr.buildSlice t 2 #[(0,.agg #[a0,a1,a2,a3,a4]),(1,.agg #[b0,b1,b2,b3,b4])]).run P w=.ok (.slice (some ⟨w.heap.size,0,none⟩) 2 2) (w.alloc (.cells #[a0,a1,a2,a3,a4,b0,b1,b2,b3,b4] e)):=by
 obtain⟨i,h1,h2,h3,h4⟩:=hi.get
 simp[Instr.buildSlice,Sem.run_bind,run_underlying ht,Result.andThen_ok,sizeOf,typeInfo,zeroValue,h1,h2,h3,Instr.fill,hz,Sem.run_pure,newRow,Value.cells,Ko,List.range_succ]
theorem iR {x0 x1:Operand}{va vb z:Value}{xa xb:Ex}{b:Nat}(ht:P.underlying t=some (.slice e))(hi:TI P e 5 z b)(hz:z.cells.size=5)(h0:Bw N ρ x0=.agg (Dd xa va).toArray)(h1:Bw N ρ x1=.agg (Dd xb vb).toArray)
  (hu:Up ops N ρ ⟨some d,.buildSlice t 2 #[(0,x0),(1,x1)],ty,pos,aft,g⟩)
  (h:∀v w1,AB w w1→w1.heap.size=w.heap.size+1→Er v 2→(∀dd Fa Fb,FD e dd w.heap (Dd xa va) xa Fa→FD e dd w.heap (Dd xb vb) xb Fb→Fa.Nodup→Fb.Nodup→(∀c∈Fa,c∉Fb) →
   ∃F',D7 5 (FD e dd) e w1.heap v [xa,xb] F'∧F'.Nodup∧∀c∈F',c∈Fa∨c∈Fb∨c=w.heap.size)→LW P ops w0 Q os ks (mk N (D3 ρ d v)) w1) :
  LW P ops w0 Q (⟨some d,.buildSlice t 2 #[(0,x0),(1,x1)],ty,pos,aft,g⟩::os) (3::ks) (mk N ρ) w:=by
 have hr:=YW (P:=P) (w:=w) (a0:=.int .i64 xa.kind) (a1:=.int .i64 xa.num) (a2:=.int .i64 xa.pick) (a3:=.int .i64 xa.count) (a4:=va) (b0:=.int .i64 xb.kind) (b1:=.int .i64 xb.num) (b2:=.int .i64 xb.pick) (b3:=.int .i64 xb.count) (b4:=vb) ht hi hz
 have hrun:(execOp (Bw N ρ) ⟨some d,.buildSlice t 2 #[(0,x0),(1,x1)],ty,pos,aft,g⟩).run P w=.ok (.value (.slice (some ⟨w.heap.size,0,none⟩) 2 2)) (w.alloc (.cells (Dd xa va++Dd xb vb).toArray e)):=by
  simp only[execOp,zc,zf,zh,Sem.run_bind,h0,h1]
  unfold Dd
  rw[hr];rfl
 refine MH rfl hu _ _ hrun (BZ _ _) (h _ _ (BZ _ _) (by simp) ⟨_,_,rfl,fun h=>by cases h⟩ fun dd Fa Fb ha hb na nb hd=>?_)
 have hn:=Pb (e:=e) (w:=w) (AH e dd) (css:=[Dd xa va,Dd xb vb]) (xs:=[xa,xb]) (F:=Fa++(Fb++[])) (cur:=(Dd xa va++Dd xb vb).toArray) (cap:=2) ⟨Fa,_,rfl,ha,Fb,[],rfl,hb,rfl⟩ (by simp) (by simp[maxLen]) (by simp[Dd]) (by simp[Dd])
 rw[List.append_nil]at hn
 have la:=(AH e dd).lt ha
 have lb:=(AH e dd).lt hb
 refine⟨_,hn,?_,fun c hc=>?_⟩
 ·rw[List.nodup_cons]
  refine⟨fun hm=>?_,List.nodup_append.2 ⟨na,nb,fun a h9 c h8 he=>hd a h9 (he ▸ h8)⟩⟩
  rcases zi.1 hm with h9|h9
  ·have:=la _ h9;omega
  ·have:=lb _ h9;omega
 ·rcases ze.1 hc with rfl|hc
  ·exact .inr<|.inr rfl
  ·rcases zi.1 hc with h9|h9
   ·exact .inl h9
   ·exact .inr<|.inl h9
theorem LD.exts {w w':World}{p:Value}{cs:List Value}(h:LD w.heap p cs)(k:AB w w'):LD w'.heap p cs:=by
 obtain⟨g,o,rfl,h⟩:=h
 exact⟨g,o,rfl,fun i hi=>Ot k (h i hi)⟩
theorem LD.det {H:Array Obj}{p:Value}{cs:List Value}{i:Nat}{u:Value}(h:LD H p cs)(hi:i<cs.length)(hu:Fj H (AA p i)=some u):cs.getD i undef=u:=by
 have:=h.ld (i:=i) hi
 rw[this]at hu
 exact Option.some.inj hu
theorem iS {st:TypeId}{x y:Operand}{e e':TypeId}{v vo vk vn:Value}{ps:List Fn}{F:List Nat}{k:Int}{U at_ i dd:Nat}{z:Ex}(hk:BI k)(hst:EA P st 5=true)(hx:Bw N ρ x=Ax vo i 5)(hy:Bw N ρ y=.agg #[.int .i64 k,.int .i64 0,.int .i64 0,.int .i64 0,vn])
  (hvn:vn.oneCell'=true) (h1:D7 3 (LZ e dd) e' w.heap v ps F) (h2:F.Nodup) (hat:at_<ps.length) (hi:i<(ps.getD at_ Fn.zero).outs.length) (hvo:Fj w.heap (AA (Ax v at_ 3) 2)=some vo) (hvk:Fj w.heap (AA (Ax vo i 5) 4)=some vk) (hU:∀b∈F,b<U)
  (hn:∀Fa,FD e dd w.heap (Dd ((ps.getD at_ Fn.zero).outs.getD i Ex.zero) vk) ((ps.getD at_ Fn.zero).outs.getD i Ex.zero) Fa→Fa.Nodup→(∀b∈Fa,b<U)→∃G',D7 5 (FD e dd) e w.heap vn [(ps.getD at_ Fn.zero).outs.getD i Ex.zero,z] G'∧G'.Nodup∧∀b∈G',b∈Fa∨U≤b)
  (hu:Up ops N ρ ⟨none,.store st x y,ty,pos,aft,g⟩)
  (h:∀w1 b F2,Az [b] w w1→w1.heap.size=w.heap.size→b∈F→D7 3 (LZ e (dd+1)) e' w1.heap v (ps.set at_ ⟨(ps.getD at_ Fn.zero).name,(ps.getD at_ Fn.zero).params,(ps.getD at_ Fn.zero).outs.set i (.mk k 0 0 0 [(ps.getD at_ Fn.zero).outs.getD i Ex.zero,z])⟩) F2→F2.Nodup→(∀c∈F2,c∈F∨U≤c)→LW P ops w0 Q os ks (mk N ρ) w1) :
  LW P ops w0 Q (⟨none,.store st x y,ty,pos,aft,g⟩::os) (4::ks) (mk N ρ) w:=by
 obtain⟨cs,G,p1,p2,p3,p4,p5⟩:=h1.rep (E2:=LZ e (dd+1)) (AJ e dd) (AJ e (dd+1)) (fun {H cs x F} ⟨v,a1,a2,a3⟩=>⟨v,a1,a2,a3.imp fun h=>Pz e h⟩) Fn.zero h2 hat
 obtain⟨vo1,rfl,r2,r3⟩:=p2
 have hvo1:vo1=vo:=p1.det (i:=2) (by simp[FU]) hvo
 subst hvo1
 have hlt:=(Ao<|AJ e dd).lt h1
 have hone:∀u∈[Value.int .i64 k,.int .i64 0,.int .i64 0,.int .i64 0,vn],u.oneCell'=true:=fun u hu9=>by
  simp only[ze,z2,or_false]at hu9
  rcases hu9 with rfl|rfl|rfl|rfl|rfl
  ·rfl
  ·rfl
  ·rfl
  ·rfl
  ·exact hvn
 obtain⟨b,cs,Gi,w1,s1,s2,s3,s4,s5,s6,⟨pp,spp⟩,s7,s8,s9,s10⟩:=YV (P:=P) (st:=st) (E2:=FD e (dd+1)) (cs':=[Value.int .i64 k,.int .i64 0,.int .i64 0,.int .i64 0,vn]) Ex.zero (AH e dd) (AH e (dd+1)) (fun h=>Pz e h) hst r3 p3 hi rfl hone
 have hold:FD e dd w.heap (Dd ((ps.getD at_ Fn.zero).outs.getD i Ex.zero) vk) ((ps.getD at_ Fn.zero).outs.getD i Ex.zero) Gi:=by
  cases dd with
  |zero=>exact s2.elim
  |succ dd =>
   obtain⟨vk1,rfl,t2,t3⟩:=s2
   have hvk1:vk1=vk:=s1.det (i:=4) (by simp[Dd]) hvk
   subst hvk1
   exact⟨vk1,rfl,t2,t3⟩
 obtain⟨G',g1,g2,g3⟩:=hn Gi hold s3 fun x hx=>hU x (p4 x (s4 x hx))
 have hG'1:∀x∈G',x∈Gi∨x∉G:=fun x hx=>(g3 x hx).elim .inl fun h9=>.inr fun hm=>by have:=hU x (p4 x hm);omega
 have hz:BI (0:Int):=by unfold BI;omega
 obtain⟨G2,y1,y2,y3⟩:=s10 (.mk k 0 0 0 [(ps.getD at_ Fn.zero).outs.getD i Ex.zero,z]) G' ⟨vn,rfl,⟨hk,hz,hz,hz⟩,g1⟩ g2 hG'1
 have hG2:∀x∈G2,x∈G∨x∉F:=fun x hx=>by
  rcases y3 x hx with h9|h9
  ·exact .inl h9.1
  ·rcases g3 x h9 with h8|h8
   ·exact .inl<|s4 x h8
   ·exact .inr fun hm=>by have:=hU x hm;omega
 obtain⟨F2,z1,z2,z3⟩:=p5 w1.heap ⟨(ps.getD at_ Fn.zero).name,(ps.getD at_ Fn.zero).params,(ps.getD at_ Fn.zero).outs.set i (.mk k 0 0 0 [(ps.getD at_ Fn.zero).outs.getD i Ex.zero,z])⟩ G2 (fun x hx hxG=>s8.block x (hlt x hx) (fun hm=>hxG ((Ab hm) ▸ s5))) ⟨vo1,rfl,r2,y1⟩ y2 hG2
 refine MI rfl hu _ (D1 (by rw[hx,spp]) (hy.trans rfl) (by rw[spp]at s7;exact s7)) (h w1 b F2 s8 s9 (p4 b s5) z1 z2 fun c hc=>?_)
 rcases z3 c hc with h9|h9
 ·exact .inl h9.1
 ·rcases y3 c h9 with h8|h8
  ·exact .inl<|p4 c h8.1
  ·rcases g3 c h8 with h7|h7
   ·exact .inl<|p4 c<|s4 c h7
   ·exact .inr h7
end ops
theorem L6.leaf {e:TypeId}{d:Nat}{x:Ex}(hd:1≤d)(hr:Rp x)(hk:x.kids=[])(B U:Nat){H:Array Obj}:L6 (FD e d) B U H (Dd x (.slice none 0 0)) x:=by
 obtain⟨d,rfl⟩:∃d',d=d'+1:=⟨d-1,zO⟩
 exact⟨[],⟨_,rfl,hr,.inl ⟨rfl,hk,rfl⟩⟩,zk,fun c hc=>by cases hc⟩
theorem bR {e:TypeId}{w r w1 w':World}{g:Nat}{v va vb:Value}{xa xb:Ex}(h0:AB w r)
  (hq:∀dd Fa Fb,FD e dd r.heap (Dd xa va) xa Fa→FD e dd r.heap (Dd xb vb) xb Fb→Fa.Nodup→Fb.Nodup→(∀c∈Fa,c∉Fb)→∃F',D7 5 (FD e dd) e w1.heap v [xa,xb] F'∧F'.Nodup∧∀c∈F',c∈Fa∨c∈Fb∨c=r.heap.size)
  (hC:Az [g] w1 w') (hg:w.heap.size≤g∧g<r.heap.size) :
  ∀dd Fa Fb,FD e dd w.heap (Dd xa va) xa Fa→FD e dd w.heap (Dd xb vb) xb Fb→Fa.Nodup→Fb.Nodup→(∀c∈Fa,c∉Fb)→∃F',D7 5 (FD e dd) e w'.heap v [xa,xb] F'∧F'.Nodup∧∀c∈F',c∈Fa∨c∈Fb∨w.heap.size≤c:=by
 intro dd Fa Fb ha hb na nb hd
 have la:=(AH e dd).lt ha
 have lb:=(AH e dd).lt hb
 obtain⟨F',q1,q2,q3⟩:=hq dd Fa Fb ((AH e dd).stable ha fun b h=>h0.heap (la b h)) ((AH e dd).stable hb fun b h=>h0.heap (lb b h)) na nb hd
 have hlt:=(Ao<|AH e dd).lt q1
 have hs:=h0.size
 refine⟨F',(Ao (AH e dd)).stable q1 fun b h=>hC.block b (hlt b h) fun hm=>?_,q2,fun c hc=>?_⟩
 ·have hb9:=Ab hm
  rcases q3 b h with h9|h9|h9
  ·have:=la b h9;omega
  ·have:=lb b h9;omega
  ·omega
 ·rcases q3 c hc with h9|h9|h9
  ·exact .inl h9
  ·exact .inr<|.inl h9
  ·exact .inr<|.inr zO
theorem YX {e:TypeId}{dd B Ba Ua Bb Ub:Nat}{w w1:World}{v:Value}{ca cb:List Value}{xa xb:Ex}
  (hq:∀Fa Fb,FD e dd w.heap ca xa Fa→FD e dd w.heap cb xb Fb→Fa.Nodup→Fb.Nodup→(∀c∈Fa,c∉Fb)→∃F',D7 5 (FD e dd) e w1.heap v [xa,xb] F'∧F'.Nodup∧∀c∈F',c∈Fa∨c∈Fb∨w.heap.size≤c)
  (ha:L6 (FD e dd) Ba Ua w.heap ca xa) (hb:L6 (FD e dd) Bb Ub w.heap cb xb) (hd:Ua≤Bb∨Ub≤Ba) (h1:B≤Ba) (h2:B≤Bb) (h3:B≤w.heap.size):Fr (D7 5 (FD e dd) e) B w1.heap.size w1.heap v [xa,xb]:=by
 obtain⟨Fa,a1,a2,a3⟩:=ha
 obtain⟨Fb,b1,b2,b3⟩:=hb
 obtain⟨F',q1,q2,q3⟩:=hq Fa Fb a1 b1 a2 b2 fun c hc hm=>by have:=a3 c hc;have:=b3 c hm;omega
 refine⟨F',q1,q2,fun c hc=>⟨?_,(Ao (AH e dd)).lt q1 c hc⟩⟩
 rcases q3 c hc with h9|h9|h9
 ·have:=a3 c h9;omega
 ·have:=b3 c h9;omega
 ·omega
def LG (B U:Nat):List Nat:=List.range' B (U-B)
theorem I2 {B U b:Nat}{g h:Nat}:b∈g::h::LG B U↔b=g∨b=h∨(B≤b∧b<U):=by
 unfold LG
 simp only[ze,List.mem_range'_1]
 omega
theorem bS {B U b g h:Nat}(hb:B≤b∧b<U):b∈g::h::LG B U:=I2.2 (.inr (.inr hb))
theorem eS {g h:Nat}(B U:Nat):∀x∈[g],x∈g::h::LG B U:=fun x hx=>I2.2 (.inl (Ab hx))
theorem nH {g h:Nat}(B U:Nat):∀x∈[h],x∈g::h::LG B U:=fun x hx=>I2.2 (.inr (.inl (Ab hx)))
theorem OC.mono {α β:Type}{E:Array Obj→β→α→List Nat→Prop}{S S':Nat→Prop}{H:Array Obj}{v:β}{x:α}(h:OC E S H v x)(k:∀b,S b→S' b):OC E S' H v x:=by
 obtain⟨F,h1,h2,h3⟩:=h
 exact⟨F,h1,h2,fun b hb=>k b (h3 b hb)⟩
theorem Az.step {F:List Nat}{a b d:World}{c:Nat}(h:Az F a b)(k:Az [c] b d)(hc:c∈F∨a.heap.size≤c):Az F a d:=by
 rcases hc with hc|hc
 ·exact h.trans (k.sub fun x hx=>by rw[Ab hx];exact hc)
 ·exact h.fresh k fun x hx=>by rw[Ab hx];exact hc
theorem Sl {e e':TypeId}{d d':Nat}{H:Array Obj}{v:Value}{ps:List Fn}{F:List Nat}(h:D7 3 (LZ e d) e' H v ps F)(hd:d≤d'):D7 3 (LZ e d') e' H v ps F :=
 h.imp fun {H cs x F} ⟨v,a1,a2,a3⟩=>⟨v,a1,a2,a3.imp fun h=>X8 e h hd⟩
theorem UR {e e':TypeId}{dd at_ i:Nat}{H:Array Obj}{v:Value}{ps:List Fn}{F:List Nat}(h:D7 3 (LZ e dd) e' H v ps F)(hn:F.Nodup)(hat:at_<ps.length)(hi:i<(ps.getD at_ Fn.zero).outs.length) :
  ∃vo vk,LD H (Ax v at_ 3) (FU (ps.getD at_ Fn.zero) vo)∧Er vo (ps.getD at_ Fn.zero).outs.length∧Rp ((ps.getD at_ Fn.zero).outs.getD i Ex.zero)∧LD H (Ax vo i 5) (Dd ((ps.getD at_ Fn.zero).outs.getD i Ex.zero) vk)∧Er vk ((ps.getD at_ Fn.zero).outs.getD i Ex.zero).kids.length:=by
 obtain⟨cs,G,p1,p2,p3,p4,p5⟩:=h.rep (E2:=LZ e dd) (AJ e dd) (AJ e dd) (fun h=>h) Fn.zero hn hat
 obtain⟨vo,rfl,r2,r3⟩:=p2
 obtain⟨cs,G1,q1,q2,q3,q4,q5⟩:=r3.rep (E2:=FD e dd) (AH e dd) (AH e dd) (fun h=>h) Ex.zero p3 hi
 cases dd with
 |zero=>exact q2.elim
 |succ dd =>
  obtain⟨vk,rfl,t2,t3⟩:=q2
  exact⟨vo,vk,p1,r3.isSl,t2,q1,t3.isSl⟩
def eT (c:Nat)(p:List Fn):Prop:=∀k,k<p.length→Ex.sizes (p.getD k Fn.zero).outs≤c∧(p.getD k Fn.zero).outs.length≤2000000∧(p.getD k Fn.zero).name.size≤2000000
theorem eT.szp {c:Nat}{p:List Fn}(h:eT c p)(hc:c≤2000000):Px p:=fun k hk=>by have:=h k hk;omega
theorem OY:∀ {l:List Ex}{i:Nat}{x:Ex},i<l.length→Ex.sizes (l.set i x)+(l.getD i Ex.zero).size=Ex.sizes l+x.size
 |[],_,_,h=>by simp at h
 |y::l,0,x,_=>by
  show Ex.sizes (x::l)+y.size=_
  rw[Ex.sizes,Ex.sizes];omega
 |y::l,i+1,x,h=>by
  have ih:=OY (l:=l) (i:=i) (x:=x) (by simpa using h)
  show Ex.sizes (y::l.set i x)+(l.getD i Ex.zero).size=_
  rw[Ex.sizes,Ex.sizes];omega
theorem eT.set {c at_ i:Nat}{ps:List Fn}{k n:Int}(h:eT c ps)(hat:at_<ps.length)(hi:i<(ps.getD at_ Fn.zero).outs.length) :
  eT (c+2) (ps.set at_ ⟨(ps.getD at_ Fn.zero).name,(ps.getD at_ Fn.zero).params,(ps.getD at_ Fn.zero).outs.set i (.mk k 0 0 0 [(ps.getD at_ Fn.zero).outs.getD i Ex.zero,.mk 1 n 0 0 []])⟩):=fun q hq=>by
 rw[z6]at hq
 rw[BK _ _ _ _ _ hat]
 have h0:=h at_ hat
 by_cases e:q=at_
 ·rw[if_pos e]
  have hs:=OY (x:=.mk k 0 0 0 [(ps.getD at_ Fn.zero).outs.getD i Ex.zero,.mk 1 n 0 0 []]) hi
  have hx:(Ex.mk k 0 0 0 [(ps.getD at_ Fn.zero).outs.getD i Ex.zero,.mk 1 n 0 0 []]).size=((ps.getD at_ Fn.zero).outs.getD i Ex.zero).size+2:=by
   simp only[Ex.size,Ex.sizes];omega
  refine⟨by dsimp only;omega,by dsimp only;rw[z6];exact h0.2.1,h0.2.2⟩
 ·rw[if_neg e]
  have:=h q hq
  omega
theorem bT {ps:List Fn}{at_:Nat}{g:Fn}(hat:at_<ps.length):(ps.set at_ g).getD at_ Fn.zero=g:=by rw[BK _ _ _ _ _ hat,if_pos rfl]
theorem YY {e:TypeId}{dd U:Nat}{w w1:World}{v vk:Value}{xa xb:Ex}(hd:1≤dd)(hk:xb.kids=[])(hr:Rp xb)(hU:U≤w.heap.size)
  (hq:∀Fa Fb,FD e dd w.heap (Dd xa vk) xa Fa→FD e dd w.heap (Dd xb (.slice none 0 0)) xb Fb→Fa.Nodup→Fb.Nodup→(∀c∈Fa,c∉Fb)→∃F',D7 5 (FD e dd) e w1.heap v [xa,xb] F'∧F'.Nodup∧∀c∈F',c∈Fa∨c∈Fb∨w.heap.size≤c) (hx:AB w w1) :
  ∀Fa,FD e dd w1.heap (Dd xa vk) xa Fa→Fa.Nodup→(∀b∈Fa,b<U)→∃G',D7 5 (FD e dd) e w1.heap v [xa,xb] G'∧G'.Nodup∧∀b∈G',b∈Fa∨U≤b:=fun Fa ha hn hU'=>by
 obtain⟨d,rfl⟩:∃d',dd=d'+1:=⟨dd-1,zO⟩
 have ha':FD e (d+1) w.heap (Dd xa vk) xa Fa:=(AH e (d+1)).stable ha fun b hb=>(hx.heap (by have:=hU' b hb;omega)).symm
 obtain⟨F',q1,q2,q3⟩:=hq Fa [] ha' ⟨_,rfl,hr,.inl ⟨rfl,hk,rfl⟩⟩ hn zk (fun c _ h=>by cases h)
 refine⟨F',q1,q2,fun b hb=>?_⟩
 rcases q3 b hb with h9|h9|h9
 ·exact .inl h9
 ·cases h9
 ·exact .inr zO
theorem Qf.szq {p:List Fn}{pl:Bool}(h:Qf p pl){nm:ByteArray}{k:Int}{xs:List Ex}(hn:nm.size≤100)(hx:xs.length≤100)(hz:Ex.sizes xs≤3000):eT 1000000 (p++[Fn.mk nm k xs]):=fun q hq=>by
 rw[z4,zd]at hq
 by_cases e:q<p.length
 ·rw[Hi e]
  exact⟨by have:=h.sz q e;omega,by have:=h.outs q e;omega,by have:=XF (h.nm q e);omega⟩
 ·rw[GZ (by omega)]
  exact⟨by show Ex.sizes xs≤_;omega,by show xs.length≤_;omega,by show nm.size≤_;omega⟩
end
section
set_option maxHeartbeats 4000000
set_option maxRecDepth 100000
attribute [local irreducible] LW
theorem I3 {p:Prop}(h:p:=by intro u hu;simp only[ze,z2,or_false]at hu;rcases hu with rfl|rfl|rfl|rfl|rfl <;> first|exact⟨rfl,rfl⟩):p:=h
theorem Sm {p:Prop}(h:p:=by simp only[zc,zf,zh];rfl):p:=h
theorem Sn {p:Prop}(h:p:=by first|exact RE.var oM|exact RE.num oM):p:=h
theorem Dm (w:World)(gg gs:Nat)(sv:Value)(cs:List UInt8)(n0:Nat)(pp:Value)(dp:Nat)(l0:Int)(pl:Bool)(p:List Fn)(vars:Int)(hgg:gs<gg)(hs:FC w.heap gs sv cs n0)(hB0:BX w.heap gg [zP gs,pp,zI l0,.bool pl])(hp:RN [gs,gg] (rP (LS dp)) w.heap pp p)(_hvars:BI vars)(hv:0≤vars∧vars≤1000)(hn:n0+20≤1000000000000) :
  Calls Tryz.prog 196 #[zP gg,zI vars] w (fun e w'=>∃(ex:Ex) (n1:Nat),e=.returned (.agg #[zI ex.kind,zI ex.num,zI ex.pick,zI ex.count,zN])∧Az [gs,gg] w w'∧FC w'.heap gs sv cs n1∧(n0≤n1∧n1≤n0+20)∧BX w'.heap gg [zP gs,pp,zI l0,.bool pl]∧Rp ex∧ex.kids=[]∧RE p vars ex):=by
 refine At [zP gg,zI vars] 28 Tryz.func196 Z Z sM ?_
 have bh:Az [gs,gg] w w:=Az.refl [gs,gg] w
 have ca:=hs.lt
 have bi:=hB0.lt
 refine qS [3] Z ?_
 have bu:=hB0.lt
 refine Br (z:=.agg #[zI 0,zI 0,zI 0,zI 0,zN]) GV Ac fun w1 ad bv ae=>?_
 have bj:w.heap.size≤w1.heap.size:=ad.size
 have b4:Az [gs,gg] w w1:=bh.ext ad
 have a9:=hs.ext ad
 have a0:=hB0.ext ad
 replace ae:BX w1.heap w.heap.size [zI 0,zI 0,zI 0,zI 0,zN]:=ae
 refine Ai<|A0<|qS [0,0,0,0,0,0,2,4,0,0] Z<|Af 1 Z ?_
 by_cases b5:((0:Nat):Int)<vars
 ·refine C9 true Z Z (A7 b5) Ac<|Af 2 Z<|Be Z (Ak (e:=7) Z Z Z)<|Aq (p:=zP gg) 0 Fx Z Z (Ak (e:=7) Z Z Z)<|Al (p:=AA (zP gg) 0) (.inr Z) (zP gs) JB Z (a0.ldp (i:=0) sM) (Ak (e:=7) Z Z Z) ?_
  refine AE 122 [] [] [zP gs,zI ((4:Nat):Int)] Z Z Ra (Ak (e:=7) Z Z Z) (CY _ gs _ _ _ ((4:Nat):Int) a9 oM oM sD) ?_
  rintro e4 w4 ⟨c2,n4,rfl,af,b6,bw,b7⟩
  refine⟨_,rfl,?_⟩
  have bk:w1.heap.size≤w4.heap.size:=af.size
  have b8:Az [gs,gg] w w4:=b4.trans (af.sub H3)
  have ag:=a0.chg af (zB ·)
  have b9:=ae.chg af (zB ·)
  refine BH (!c2) Z Z (Ak (e:=7) Z Z Z)<|Ae 1 Z ?_
  cases ba:(!c2)
  ·refine Aj (by first|rfl|exact zW ba)<|A4<|qS [0,0,0,2,4,0,4] Z<|Af 1 Z<|Be Z Ac<|Aq (p:=zP gg) 0 Fx Z Z Ac<|Al (p:=AA (zP gg) 0) (.inr Z) (zP gs) JB Z (ag.ldp (i:=0) sM) Ac<|AE 152 [] [] [zP gs] Z Z Yq Ac (H8 _ gs _ _ _ b6 oM) ?_
   rintro e8 w8 ⟨c1,n8,rfl,ah,bl,bx,bb⟩
   refine⟨_,rfl,?_⟩
   have bm:w4.heap.size≤w8.heap.size:=ah.size
   have bn:Az [gs,gg] w w8:=b8.trans (ah.sub H3)
   have bo:=ag.chg ah (zB ·)
   have ai:=b9.chg ah (zB ·)
   have aa:∀(wq:World),(Instr.build 153 #[(0,zI ((1:Nat):Int)),(1,zI c1)]).run Tryz.prog wq=.ok (.agg #[zI ((1:Nat):Int),zI c1,zI 0,zI 0,zN]) wq:=by intro wq;kernel_rfl
   refine Ce (ps:=#[(0,zI ((1:Nat):Int)),(1,zI c1)]) (.agg #[zI ((1:Nat):Int),zI c1,zI 0,zI 0,zN]) Sm (fun wq=>aa  wq) Ac (BR (vs:=[zI ((1:Nat):Int),zI c1,zI 0,zI 0,zN]) Bi Z Z I3 ai Z Z Ac fun c3 a1 bp a6=>?_)
   replace a6:BX c3.heap w.heap.size [zI ((1:Nat):Int),zI c1,zI 0,zI 0,zN]:=a6
   have bc:w8.heap.size≤c3.heap.size:=a1.size
   have aj:Az [gs,gg] w c3:=bn.fresh a1 (fun _ h=>zE h)
   have ak:=bl.chg a1 fun c hc=>zH<|Ab hc
   have al:=bo.chg a1 (zB ·)
   exact Ai<|A3<|CA (cs:=[zI ((1:Nat):Int),zI c1,zI 0,zI 0,zN]) Z Bi Z a6 Z ⟨.mk ((1:Nat):Int) c1 0 0 [],n8,rfl,aj,ak,⟨zO,zO⟩,al,EG oM oM oM oM,rfl,Sn⟩
  refine Ag (by first|rfl|exact zW ba)<|qS [0,0,0,2,0,4,0,4] Z<|Af 1 Z<|Be Z Ac<|Aq (p:=zP gg) 0 Fx Z Z Ac<|Al (p:=AA (zP gg) 0) (.inr Z) (zP gs) JB Z (ag.ldp (i:=0) sM) Ac<|Af 1 Z ?_
  refine AE 68 [] [] [zP gs,zI vars] Z Z Ip Ac (B6 _ gs _ _ _ (vars) b6 oM _hvars sD) ?_
  rintro cb c4 ⟨bz,c8,rfl,a2,am,bq,an⟩
  refine⟨_,rfl,?_⟩
  have bd:w4.heap.size≤c4.heap.size:=a2.size
  have ao:Az [gs,gg] w c4:=b8.trans (a2.sub H3)
  have ap:=ag.chg a2 (zB ·)
  have aq:=b9.chg a2 (zB ·)
  have ab:∀(wq:World),(Instr.build 153 #[(0,zI ((2:Nat):Int)),(1,zI bz)]).run Tryz.prog wq=.ok (.agg #[zI ((2:Nat):Int),zI bz,zI 0,zI 0,zN]) wq:=by intro wq;kernel_rfl
  refine Ce (ps:=#[(0,zI ((2:Nat):Int)),(1,zI bz)]) (.agg #[zI ((2:Nat):Int),zI bz,zI 0,zI 0,zN]) Sm (fun wq=>ab  wq) Ac (BR (vs:=[zI ((2:Nat):Int),zI bz,zI 0,zI 0,zN]) Bi Z Z I3 aq Z Z Ac fun c5 a3 br a7=>?_)
  replace a7:BX c5.heap w.heap.size [zI ((2:Nat):Int),zI bz,zI 0,zI 0,zN]:=a7
  have be:c4.heap.size≤c5.heap.size:=a3.size
  have ar:Az [gs,gg] w c5:=ao.fresh a3 (fun _ h=>zE h)
  have au:=am.chg a3 fun c hc=>zH<|Ab hc
  have av:=ap.chg a3 (zB ·)
  exact Ai<|A3<|Ap<|CA (cs:=[zI ((2:Nat):Int),zI bz,zI 0,zI 0,zN]) Z Bi Z a7 Z ⟨.mk ((2:Nat):Int) bz 0 0 [],c8,rfl,ar,au,⟨zO,zO⟩,av,EG oM oM oM oM,rfl,Sn⟩
 refine C9 false Z Z (A8 b5) Ac<|Ae 8 Z<|Aj Z<|A4<|qS [0,0,0,2,4,0,4] Z<|Af 1 Z<|Be Z Ac<|Aq (p:=zP gg) 0 Fx Z Z Ac<|Al (p:=AA (zP gg) 0) (.inr Z) (zP gs) JB Z (a0.ldp (i:=0) sM) Ac<|AE 152 [] [] [zP gs] Z Z Yq Ac (H8 _ gs _ _ _ a9 oM) ?_
 rintro cc c6 ⟨c0,c9,rfl,a4,aw,bs,ax⟩
 refine⟨_,rfl,?_⟩
 have bf:w1.heap.size≤c6.heap.size:=a4.size
 have ay:Az [gs,gg] w c6:=b4.trans (a4.sub H3)
 have az:=a0.chg a4 (zB ·)
 have b0:=ae.chg a4 (zB ·)
 have ac:∀(wq:World),(Instr.build 153 #[(0,zI ((1:Nat):Int)),(1,zI c0)]).run Tryz.prog wq=.ok (.agg #[zI ((1:Nat):Int),zI c0,zI 0,zI 0,zN]) wq:=by intro wq;kernel_rfl
 refine Ce (ps:=#[(0,zI ((1:Nat):Int)),(1,zI c0)]) (.agg #[zI ((1:Nat):Int),zI c0,zI 0,zI 0,zN]) Sm (fun wq=>ac  wq) Ac (BR (vs:=[zI ((1:Nat):Int),zI c0,zI 0,zI 0,zN]) Bi Z Z I3 b0 Z Z Ac fun c7 a5 bt a8=>?_)
 replace a8:BX c7.heap w.heap.size [zI ((1:Nat):Int),zI c0,zI 0,zI 0,zN]:=a8
 have bg:c6.heap.size≤c7.heap.size:=a5.size
 have b1:Az [gs,gg] w c7:=ay.fresh a5 (fun _ h=>zE h)
 have b2:=aw.chg a5 fun c hc=>zH<|Ab hc
 have b3:=az.chg a5 (zB ·)
 exact Ai<|A3<|CA (cs:=[zI ((1:Nat):Int),zI c0,zI 0,zI 0,zN]) Z Bi Z a8 Z ⟨.mk ((1:Nat):Int) c0 0 0 [],c9,rfl,b1,b2,⟨zO,zO⟩,b3,EG oM oM oM oM,rfl,Sn⟩
theorem H9 {p:Prop}(h:p:=by first|(rw[oC oM];rfl)|(rw[oD oM];rfl)|(rw[oE oM];rfl)|(rw[oF oM];rfl)|(rw[oG (by assumption) (by assumption) (by assumption) (by assumption) (by assumption) (by assumption) (by assumption) (by assumption) (by assumption)])):p:=h
theorem qO (w:World)(k:Int)(_hk:BI k)  :
  Calls Tryz.prog 198 #[zI k] w (fun e w'=>e=.returned (zI (kn k))∧w'=w):=by
 refine At [zI k] 17 Tryz.func198 Z Z sM ?_
 have a0:w=w:=rfl
 refine qT Z<|A0<|qT Z<|A5<|A0<|qS [0,0] Z ?_
 by_cases a1:k=((1:Nat):Int)
 ·exact Av true Z Z (A7 a1) Ac<|Ae 1 Z<|Ag Z<|A4<|Ag Z<|qT Z<|A3<|AK<|Ap<|Ah [2] Z (zI ((0:Nat):Int)) Z ⟨H9,a0⟩
 refine Av false Z Z (A8 a1) Ac<|Ae 1 Z<|Aj Z<|Ad _ [0,0] Z ?_
 by_cases a2:k=((2:Nat):Int)
 ·exact Av true Z Z (A7 a2) Ac<|Ae 1 Z<|Ag Z<|qT Z<|A3<|AK<|Ap<|Ah [2] Z (zI ((0:Nat):Int)) Z ⟨H9,a0⟩
 refine Av false Z Z (A8 a2) Ac<|Ae 1 Z<|Aj Z<|A0<|qS [0,0] Z ?_
 by_cases a3:k=((3:Nat):Int)
 ·exact Av true Z Z (A7 a3) Ac<|Ae 1 Z<|Ag Z<|A4<|Ag Z<|qT Z<|A3<|AK<|Ap<|Ah [2] Z (zI ((2:Nat):Int)) Z ⟨H9,a0⟩
 refine Av false Z Z (A8 a3) Ac<|Ae 1 Z<|Aj Z<|qS [0,0] Z ?_
 by_cases a4:k=((4:Nat):Int)
 ·exact Av true Z Z (A7 a4) Ac<|Ae 1 Z<|Ag Z<|A4<|Ag Z<|qT Z<|A3<|AK<|Ap<|Ah [2] Z (zI ((2:Nat):Int)) Z ⟨H9,a0⟩
 refine Av false Z Z (A8 a4) Ac<|Ae 1 Z<|Aj Z<|qS [0,0] Z ?_
 by_cases a5:k=((5:Nat):Int)
 ·exact Av true Z Z (A7 a5) Ac<|Ae 1 Z<|Ag Z<|A4<|Ag Z<|qT Z<|A3<|AK<|Ap<|Ah [2] Z (zI ((2:Nat):Int)) Z ⟨H9,a0⟩
 refine Av false Z Z (A8 a5) Ac<|Ae 1 Z<|Aj Z<|qS [0,0] Z ?_
 by_cases a6:k=((6:Nat):Int)
 ·exact Av true Z Z (A7 a6) Ac<|Ae 1 Z<|Ag Z<|A4<|Ag Z<|qT Z<|A3<|AK<|Ap<|Ah [2] Z (zI ((2:Nat):Int)) Z ⟨H9,a0⟩
 refine Av false Z Z (A8 a6) Ac<|Ae 1 Z<|Aj Z<|Ad _ [0,0] Z ?_
 by_cases a7:k=((9:Nat):Int)
 ·exact Av true Z Z (A7 a7) Ac<|Ae 1 Z<|Ag Z<|qT Z<|A3<|AK<|Ap<|Ah [2] Z (zI ((2:Nat):Int)) Z ⟨H9,a0⟩
 refine Av false Z Z (A8 a7) Ac<|Ae 1 Z<|Aj Z<|qS [0,0] Z ?_
 by_cases a8:k=((7:Nat):Int)
 ·exact Av true Z Z (A7 a8) Ac<|Ae 1 Z<|Ag Z<|qT Z<|A3<|AK<|Ap<|Ah [2] Z (zI ((1:Nat):Int)) Z ⟨H9,a0⟩
 refine Av false Z Z (A8 a8) Ac<|Ae 1 Z<|Aj Z<|qS [0,0] Z ?_
 by_cases a9:k=((8:Nat):Int)
 ·exact Av true Z Z (A7 a9) Ac<|Ae 1 Z<|Ag Z<|qT Z<|A3<|AK<|Ap<|Ah [2] Z (zI ((3:Nat):Int)) Z ⟨H9,a0⟩
 exact Av false Z Z (A8 a9) Ac<|Ae 1 Z<|Aj Z<|A4<|qT Z<|A3<|Ah [2] Z (zI (-1)) Z ⟨H9,a0⟩
def GX (d:Nat):Prop:=∀(w:World) (gg gs:Nat) (sv:Value) (cs:List UInt8) (n0:Nat) (pp:Value) (dp:Nat) (l0:Int) (pl:Bool) (p:List Fn) (vars funcs:Int) (hgg:gs<gg) (hs:FC w.heap gs sv cs n0) (hB0:BX w.heap gg [.pointer (some ⟨gs,0,none⟩),pp,.int .i64 l0,.bool pl]) (hp:RN [gs,gg] (rP (LS dp)) w.heap pp p) (_hvars:BI vars) (_hfuncs:BI funcs) (hv:0≤vars∧vars+((d:Nat):Int)≤1000) (hfu:0≤funcs∧funcs≤((p.length:Nat):Int)) (hpr:jN p) (hd:d≤8) (hn:n0+IJ d≤1000000000000) (hl:Oa d-1000000≤l0∧l0≤1000),Calls Tryz.prog 124 #[.pointer (some ⟨gg,0,none⟩),.int .i64 vars,.int .i64 funcs,.int .i64 ((d:Nat):Int)] w (fun e w'=>∃(v:Value) (ex:Ex) (n1:Nat) (l1:Int),e=.returned (.agg #[.int .i64 ex.kind,.int .i64 ex.num,.int .i64 ex.pick,.int .i64 ex.count,v])∧Az [gs,gg] w w'∧FC w'.heap gs sv cs n1∧(n0≤n1∧n1≤n0+(IJ d))∧BX w'.heap gg [.pointer (some ⟨gs,0,none⟩),pp,.int .i64 l1,.bool pl]∧Fr (D7 5 (FD 153 d) 153) w.heap.size w'.heap.size w'.heap v ex.kids∧Rp ex∧Th p funcs vars pl d l0 l1 ex)
def GC (d:Nat):Prop:=∀(w:World) (gg gs:Nat) (sv:Value) (cs:List UInt8) (n0:Nat) (pp:Value) (dp:Nat) (l0:Int) (pl:Bool) (p:List Fn) (vars funcs:Int) (hgg:gs<gg) (hs:FC w.heap gs sv cs n0) (hB0:BX w.heap gg [.pointer (some ⟨gs,0,none⟩),pp,.int .i64 l0,.bool pl]) (hp:RN [gs,gg] (rP (LS dp)) w.heap pp p) (_hvars:BI vars) (_hfuncs:BI funcs) (hv:0≤vars∧vars+((d:Nat):Int)≤1000) (hfu:0≤funcs∧funcs≤((p.length:Nat):Int)) (hpr:jN p) (hd:1≤d∧d≤8) (hn:n0+(20+4*IJ (d-1))≤1000000000000) (hl:1≤l0∧l0≤1000),Calls Tryz.prog 197 #[.pointer (some ⟨gg,0,none⟩),.int .i64 vars,.int .i64 funcs,.int .i64 ((d:Nat):Int)] w (fun e w'=>∃(v:Value) (ex:Ex) (n1:Nat) (l1:Int),e=.returned (.agg #[.int .i64 ex.kind,.int .i64 ex.num,.int .i64 ex.pick,.int .i64 ex.count,v])∧Az [gs,gg] w w'∧FC w'.heap gs sv cs n1∧(n0≤n1∧n1≤n0+(20+4*IJ (d-1)))∧BX w'.heap gg [.pointer (some ⟨gs,0,none⟩),pp,.int .i64 l1,.bool pl]∧Fr (D7 5 (FD 153 d) 153) w.heap.size w'.heap.size w'.heap v ex.kids∧Rp ex∧Th p funcs vars pl d (l0+1) l1 ex)
theorem K7 (w:World)(gg gs:Nat)(sv:Value)(cs:List UInt8)(n0:Nat)(pp:Value)(dp:Nat)(l0:Int)(pl:Bool)(p:List Fn)(vars:Int)(funcs:Int)(d:Nat)(hgg:gs<gg)(hs:FC w.heap gs sv cs n0)(hB0:BX w.heap gg [zP gs,pp,zI l0,.bool pl])(hp:RN [gs,gg] (rP (LS dp)) w.heap pp p)(_hvars:BI vars)(_hfuncs:BI funcs)(hv:0≤vars∧vars+(d:Int)≤1000)(hfu:0≤funcs∧funcs≤(p.length:Int))(hpr:jN p)(hd:1≤d∧d≤8)(hn:n0+(20+4*IJ (d-1))≤1000000000000)(hl:1≤l0∧l0≤1000)(IH:GX (d-1)) :
  Calls Tryz.prog 197 #[zP gg,zI vars,zI funcs,zI (d:Int)] w (fun e w'=>∃(v:Value) (ex:Ex) (n1:Nat) (l1:Int),e=.returned (.agg #[zI ex.kind,zI ex.num,zI ex.pick,zI ex.count,v])∧Az [gs,gg] w w'∧FC w'.heap gs sv cs n1∧(n0≤n1∧n1≤n0+(20+4*IJ (d-1)))∧BX w'.heap gg [zP gs,pp,zI l1,.bool pl]∧Fr (D7 5 (FD 153 d) 153) w.heap.size w'.heap.size w'.heap v ex.kids∧Rp ex∧Th p funcs vars pl d (l0+1) l1 ex):=by
 refine At [zP gg,zI vars,zI funcs,zI (d:Int)] 89 Tryz.func197 Z Z sM ?_
 have dx:Az [gs,gg] w w:=Az.refl [gs,gg] w
 have ia:=hs.lt
 have ei:=hB0.lt
 have hst:=RD (d-1)
 have hnd:=J4 (d-1)
 have hnl:=X2 (d:=d-1) oM
 have hpl:=hpr.len
 refine qS [3] Z ?_
 have gh:=hB0.lt
 refine Br (z:=.agg #[zI 0,zI 0,zI 0,zI 0,zN]) GV Ac fun w1 bm ej ce=>?_
 have ch:w.heap.size≤w1.heap.size:=bm.size
 have cf:Az [gs,gg] w w1:=dx.ext bm
 have bn:=hs.ext bm
 have ap:=hB0.ext bm
 replace ce:BX w1.heap w.heap.size [zI 0,zI 0,zI 0,zI 0,zN]:=ce
 refine Ai<|A0<|qS [0,0] Z<|Af 1 Z ?_
 by_cases dy:funcs=((0:Nat):Int)
 ·refine Av true Z Z (A7 dy) Ac<|Ai<|Ag Z<|qS [0,0,4,4] Z<|Af 2 Z<|AE 196 [] [] [zP gg,zI vars] Z Z U3 Ac (Dm _ gg gs sv cs n0 pp dp l0 pl p (vars) oM bn ap (hp.chg (Bf<|B2 dp) cf) _hvars oM oM) ?_
  rintro e4 w4 ⟨x4,n4,rfl,ci,ek,gi,el,em,cj,gj⟩
  refine⟨_,rfl,?_⟩
  have en:w1.heap.size≤w4.heap.size:=ci.size
  have eo:Az [gs,gg] w w4:=cf.trans ci
  have ep:=ce.chg ci fun hm=>zH<|Dr hm
  refine BR (vs:=[zI x4.kind,zI x4.num,zI x4.pick,zI x4.count,zN]) Bi Z Z I3 ep Z Z Ac fun w6 cg gk ck=>?_
  replace ck:BX w6.heap w.heap.size [zI x4.kind,zI x4.num,zI x4.pick,zI x4.count,zN]:=ck
  have eq:w4.heap.size≤w6.heap.size:=cg.size
  have er:Az [gs,gg] w w6:=eo.fresh cg (fun _ h=>zE h)
  have es:=ek.chg cg fun c hc=>zH<|Ab hc
  have et:=el.chg cg (zB ·)
  exact Ai<|A3<|Ap<|CA (cs:=[zI x4.kind,zI x4.num,zI x4.pick,zI x4.count,zN]) Z Bi Z ck Z ⟨zN,x4,n4,l0,rfl,er,es,⟨zO,zO⟩,et,(by rw[cj];exact HO _ _ _),em,(by exact RE.okc (by assumption) d)⟩
 refine Av false Z Z (A8 dy) Ac<|Ai<|Aj Z<|A4<|qS [0,0,0,2,0,4,0,3,4] Z<|Af 1 Z<|Be Z Ac<|Aq (p:=zP gg) 0 Fx Z Z Ac<|Al (p:=AA (zP gg) 0) (.inr Z) (zP gs) JB Z (ap.ldp (i:=0) sM) Ac<|Af 1 Z ?_
 refine AE 68 [] [] [zP gs,zI funcs] Z Z Ip Ac (B6 _ gs _ _ _ (funcs) bn oM _hfuncs sD) ?_
 rintro e9 w9 ⟨f1,n9,rfl,bo,eu,gl,dz⟩
 refine⟨_,rfl,?_⟩
 have cl:w1.heap.size≤w9.heap.size:=bo.size
 have e0:Az [gs,gg] w w9:=cf.trans (bo.sub H3)
 have ba:=ap.chg bo (zB ·)
 have bb:=ce.chg bo (zB ·)
 have bp:∀(wq:World),(Instr.build 153 #[(0,zI ((10:Nat):Int)),(1,zI f1)]).run Tryz.prog wq=.ok (.agg #[zI ((10:Nat):Int),zI f1,zI 0,zI 0,zN]) wq:=by intro wq;kernel_rfl
 refine Ce (ps:=#[(0,zI ((10:Nat):Int)),(1,zI f1)]) (.agg #[zI ((10:Nat):Int),zI f1,zI 0,zI 0,zN]) (by simp only[zc,zf,zh];rfl) (fun wq=>bp  wq) Ac ?_
 have ev:=ba.lt
 have ew:=bb.lt
 refine Br (z:=.agg #[zI 0,zI 0,zI 0,zI 0,zN]) GV Ac fun fx ah cm bc=>?_
 have bq:w9.heap.size≤fx.heap.size:=ah.size
 have br:Az [gs,gg] w fx:=e0.ext ah
 have bd:=eu.ext ah
 have af:=ba.ext ah
 have ag:=bb.ext ah
 replace bc:BX fx.heap w9.heap.size [zI 0,zI 0,zI 0,zI 0,zN]:=bc
 refine BR (vs:=[zI ((10:Nat):Int),zI f1,zI 0,zI 0,zN]) Bi Z Z I3 bc Z Z Ac fun gp ai cn ay=>?_
 replace ay:BX gp.heap w9.heap.size [zI ((10:Nat):Int),zI f1,zI 0,zI 0,zN]:=ay
 have bs:fx.heap.size≤gp.heap.size:=ai.size
 have aj:Az [gs,gg] w gp:=br.fresh ai (fun _ h=>zE h)
 have bt:=bd.chg ai fun c hc=>zH<|Ab hc
 have az:=af.chg ai (zB ·)
 have bu:=ag.chg ai (zB ·)
 refine Ai<|A0<|AW _ [0,0,0,1,0,0,1,0,1,0,0] mixed (by kernel_rfl)<|Af 1 Z ?_
 have hxk:f1<funcs:=by omega
 refine Be Z Ac<|Aq (p:=zP gg) 1 bM Z Z Ac<|Al (p:=AA (zP gg) 1) (.inl Z) pp eH Z (az.ldp (i:=1) sM) Ac<|AV (hp.isPtr) Z Ac ?_
 obtain⟨cs20,co,bv⟩:=RN.at (B2 _) hp
 obtain⟨a0,rfl,a5⟩:=RPr.of co
 have b8:=a5.lenle
 unfold maxLen at b8
 refine AP (p:=pp) 0 BQ Z (bv _ aj.drew) Ac<|Al (p:=AA pp 0) (.inl Z) a0 Cr Z ((bv _ aj.drew).ld (i:=0) (by simp[Dd,FU])) Ac<|Aq (p:=zP w9.heap.size) 1 Co Z Z Ac<|Al (p:=AA (zP w9.heap.size) 1) (.inl Z) (zI f1) AO Z (ay.ldp (i:=1) sM) Ac ?_
 refine Aw (v:=a0) ((f1).toNat) H6 CM Z Z a5.isSl oM sD Ac<|Ae 1 Z<|A0<|AW _ [0,0,0,1,0,0,0,1,0,4,0,4] mixed (by kernel_rfl) ?_
 have ib:=hpr.outs (f1).toNat oM
 have hpa:=hpr.par (f1).toNat oM
 refine Af 1 Z<|Be Z Ac<|Aq (p:=zP gg) 0 Fx Z Z Ac<|Al (p:=AA (zP gg) 0) (.inl Z) (zP gs) JB Z (az.ldp (i:=0) sM) Ac<|Af 1 Z<|AV (RN.isPtr<|RN.ptr (AC dp) (by decide) Fn.zero a5 sD) Z Ac ?_
 obtain⟨cs21,cp,a3⟩:=a5.get (AC dp) Fn.zero (k:=(f1).toNat) sD
 obtain⟨b0,rfl,be⟩:=RF.of cp
 have b9:=be.rn.lenle
 unfold maxLen at b9
 refine AP (p:=Ax a0 ((f1).toNat) 3) 2 Cn Z (a3 _ aj.drew.drew) Ac<|Al (p:=AA (Ax a0 ((f1).toNat) 3) 2) (.inl Z) b0 BA Z ((a3 _ aj.drew.drew).ld (i:=2) (by simp[Dd,FU])) Ac<|AN (v:=b0) DE Z be.rn.isSl Ac ?_
 refine AE 68 [] [] [zP gs,zI ((((p.getD ((f1).toNat) Fn.zero).outs).length:Nat):Int)] Z Z Ip Ac (B6 _ gs _ _ _ ((((p.getD ((f1).toNat) Fn.zero).outs).length:Nat):Int) bt oM oM sD) ?_
 rintro ic gq ⟨f2,i3,rfl,a2,cq,ey,cr⟩
 refine⟨_,rfl,?_⟩
 replace a2:=a2.of_drew
 replace a2:=a2.of_drew
 have bw:gp.heap.size≤gq.heap.size:=a2.size
 have bx:Az [gs,gg] w gq:=aj.trans (a2.sub H3)
 have bz:=az.chg a2 (zB ·)
 have c0:=bu.chg a2 (zB ·)
 have c1:=ay.chg a2 (zB ·)
 refine Aq (p:=zP w9.heap.size) 2 EK Z Z Ac (BB (k:=2) (w:=gq) I0 Z Z ⟨rfl,rfl⟩ c1 sM Ac fun gr ak ct b1=>?_)
 replace b1:BX gr.heap w9.heap.size [zI ((10:Nat):Int),zI f1,zI f2,zI 0,zN]:=b1
 have c2:gq.heap.size≤gr.heap.size:=ak.size
 have a6:Az [gs,gg] w gr:=bx.fresh ak (fun _ h=>zE h)
 have bf:=cq.chg ak fun c hc=>zH<|Ab hc
 have b2:=bz.chg ak (zB ·)
 have bg:=c0.chg ak (zB ·)
 refine Ai ?_
 refine A0<|Ib (S:=Int×Int×Nat) (fun⟨k,cnt,m1⟩=>([(0,zP gg),(1,zI vars),(2,zI funcs),(3,zI (d:Int)),(8,zP w.heap.size),(9,zP w9.heap.size),(10,Ax a0 ((f1).toNat) 3)])) (fun⟨k,cnt,m1⟩ W=>Az [gs,gg] w W∧FC W.heap gs sv cs m1∧BX W.heap gg [zP gs,pp,zI l0,.bool pl]∧BX W.heap w.heap.size [zI 0,zI 0,zI 0,zI 0,zN]∧BX W.heap w9.heap.size [zI k,zI f1,zI f2,zI cnt,zN]∧((k=10∧cnt=0)∨(k=11∧(((p.getD (f1).toNat Fn.zero).outs.length:Nat):Int)=(p.getD (f1).toNat Fn.zero).params∧0≤cnt∧cnt≤8))∧(n0≤m1∧m1≤n0+8)) ?_ ?_
 ·refine A0<|AW _ [0,0,0,1,0,0,0,0,1,0,0,0,0,0,1,4,0] mixed (by kernel_rfl)<|Af 1 Z<|AV (RN.isPtr<|RN.ptr (AC dp) (by decide) Fn.zero a5 sD) Z Ac<|AP (p:=Ax a0 ((f1).toNat) 3) 2 Cn Z (a3 _ a6.drew) Ac<|Al (p:=AA (Ax a0 ((f1).toNat) 3) 2) (.inl Z) b0 BA Z ((a3 _ a6.drew).ld (i:=2) (by simp[Dd,FU])) Ac<|AN (v:=b0) DE Z be.rn.isSl Ac ?_
  refine Af 1 Z<|AV (RN.isPtr<|RN.ptr (AC dp) (by decide) Fn.zero a5 sD) Z Ac<|AP (p:=Ax a0 ((f1).toNat) 3) 1 CG Z (a3 _ a6.drew) Ac<|Al (p:=AA (Ax a0 ((f1).toNat) 3) 1) (.inl Z) (zI<|(p.getD ((f1).toNat) Fn.zero).params) AO Z ((a3 _ a6.drew).ld (i:=1) (by simp[Dd,FU])) Ac ?_
  by_cases c3:((((p.getD ((f1).toNat) Fn.zero).outs).length:Nat):Int)=(p.getD ((f1).toNat) Fn.zero).params
  ·refine Av true Z Z (A7 c3) Ac<|Af 2 Z<|Be Z (Ak (e:=55) Z Z Z)<|Aq (p:=zP gg) 0 Fx Z Z (Ak (e:=55) Z Z Z)<|Al (p:=AA (zP gg) 0) (.inl Z) (zP gs) JB Z (b2.ldp (i:=0) sM) (Ak (e:=55) Z Z Z) ?_
   refine AE 122 [] [] [zP gs,zI ((2:Nat):Int)] Z Z Ra (Ak (e:=55) Z Z Z) (CY _ gs _ _ _ ((2:Nat):Int) bf oM oM sD) ?_
   rintro ie gt ⟨fs,i4,rfl,a7,c4,ez,cu⟩
   refine⟨_,rfl,?_⟩
   replace a7:=a7.of_drew
   have e1:gr.heap.size≤gt.heap.size:=a7.size
   have c5:Az [gs,gg] w gt:=a6.trans (a7.sub H3)
   have c6:=b2.chg a7 (zB ·)
   have c7:=bg.chg a7 (zB ·)
   have c8:=b1.chg a7 (zB ·)
   refine Ae 1 Z ?_
   cases c9:fs
   ·exact Aj (by first|rfl|exact zW c9)<|A4 ⟨(((10:Nat):Int),0,i4),_,rfl,zR,⟨c5,c4,c6,c7,c8,oM,oM⟩⟩
   refine Ag (by first|rfl|exact zW c9)<|qS [0,4] Z<|Aq (p:=zP w9.heap.size) 0 Bz Z Z Ac (BB (k:=0) (w:=gt) I0 Z Z ⟨rfl,rfl⟩ c8 sM Ac fun gu aq g0 bh=>?_)
   replace bh:BX gu.heap w9.heap.size [zI ((11:Nat):Int),zI f1,zI f2,zI 0,zN]:=bh
   have e2:gt.heap.size≤gu.heap.size:=aq.size
   have cv:Az [gs,gg] w gu:=c5.fresh aq (fun _ h=>zE h)
   have cw:=c4.chg aq fun c hc=>zH<|Ab hc
   have ca:=c6.chg aq (zB ·)
   have cx:=c7.chg aq (zB ·)
   refine Ai<|Ad _ [0,0,0,2,4,0,4] Z<|Af 1 Z<|Be Z Ac<|Aq (p:=zP gg) 0 Fx Z Z Ac<|Al (p:=AA (zP gg) 0) (.inr Z) (zP gs) JB Z (ca.ldp (i:=0) sM) Ac ?_
   refine AE 68 [] [] [zP gs,zI ((4:Nat):Int)] Z Z Ip Ac (B6 _ gs _ _ _ ((4:Nat):Int) cw oM oM sD) ?_
   rintro ig gv ⟨f3,i5,rfl,ar,cy,g1,cz⟩
   refine⟨_,rfl,?_⟩
   have e3:gu.heap.size≤gv.heap.size:=ar.size
   have d0:Az [gs,gg] w gv:=cv.trans (ar.sub H3)
   have d1:=ca.chg ar (zB ·)
   have d2:=cx.chg ar (zB ·)
   have d3:=bh.chg ar (zB ·)
   refine Aq (p:=zP w9.heap.size) 3 Ee Z Z Ac (BB (k:=3) (w:=gv) I0 Z Z ⟨rfl,rfl⟩ d3 sM Ac fun gx au g2 bi=>?_)
   replace bi:BX gx.heap w9.heap.size [zI ((11:Nat):Int),zI f1,zI f2,zI f3,zN]:=bi
   have e5:gv.heap.size≤gx.heap.size:=au.size
   have d4:Az [gs,gg] w gx:=d0.fresh au (fun _ h=>zE h)
   have d5:=cy.chg au fun c hc=>zH<|Ab hc
   have d6:=d1.chg au (zB ·)
   have d7:=d2.chg au (zB ·)
   exact Ai ⟨(((11:Nat):Int),f3,i5),_,rfl,zR,⟨d4,d5,d6,d7,bi,oM,oM⟩⟩
  exact Av false Z Z (A8 c3) Ac<|Ae 7 Z<|Aj Z<|A4 ⟨(((10:Nat):Int),0,i3),_,rfl,zR,⟨a6.drew,bf,b2,bg,b1,oM,oM⟩⟩
 clear dx ej bm ch cf bo cl e0 ba bb cm ah bq br af ag cn ai bs aj bt az bu b8 b9 a2 bw bx bz c0 c1 ct ak c2 a6 bf b2 bg
 rintro⟨k,cnt,m1⟩ ρ30 fe ⟨cb,av,a8,a9,aa,hkc,gm⟩
 have e6:w.heap.size≤fe.heap.size:=cb.size
 have g3:=a8.lt
 have g4:=a9.lt
 have g5:=aa.lt
 refine A0<|qT Z<|A5 ?_
 refine AQ (S:=Nat×Int×Nat×Value×List Ex) (fun⟨i,l,m,vk,xs⟩=>([(11,zI (i:Int)),(0,zP gg),(1,zI vars),(2,zI funcs),(3,zI (d:Int)),(8,zP w.heap.size),(9,zP w9.heap.size),(10,Ax a0 ((f1).toNat) 3)])) (fun⟨i,l,m,vk,xs⟩ W=>Az [gs,gg] w W∧Fr (D7 5 (FD 153 d) 153) fe.heap.size W.heap.size W.heap vk xs∧FC W.heap gs sv cs m∧BX W.heap gg [zP gs,pp,zI l,.bool pl]∧BX W.heap w.heap.size [zI 0,zI 0,zI 0,zI 0,zN]∧BX W.heap w9.heap.size [zI k,zI f1,zI f2,zI cnt,vk]∧(i:Int)≤(p.getD (f1).toNat Fn.zero).params∧Ti p funcs vars pl k d l0 l xs i∧(n0≤m∧m≤n0+8+UD i (IJ (d-1)))∧gg<fe.heap.size∧w.heap.size<fe.heap.size∧w9.heap.size<fe.heap.size∧fe.heap.size≤W.heap.size) (fun⟨i,l,m,vk,xs⟩=>(p.getD (f1).toNat Fn.zero).params.toNat-i) (0,l0,m1,zN,([]:List Ex)) ⟨rfl,rfl,rfl,rfl,rfl,rfl,rfl,rfl,trivial⟩ ⟨cb,(HO _ 0 _).up<|Ao<|AH 153 d,av,a8,a9,aa,oM,(by exact Ti.nil ..),(by exact⟨zO,by show _≤n0+8+0;omega⟩),oM,oM,oM,oM⟩ ?_
 clear aa a9 a8 av
 rintro⟨i,l,m,vk,xs⟩ ρ55 f4 ⟨al,ab,aw,ac,ad,a1,gn,hko,hmb,e7,e8,ea,eb⟩
 have ec:w.heap.size≤f4.heap.size:=al.size
 have g6:=ac.lt
 have g7:=ad.lt
 have g8:=a1.lt
 refine A0<|qS [0,0,0,0,2,0] Z<|Af 2 Z<|AV (RN.isPtr<|RN.ptr (AC dp) (by decide) Fn.zero a5 sD) Z Ac<|AP (p:=Ax a0 ((f1).toNat) 3) 1 CG Z (a3 _ al) Ac<|Al (p:=AA (Ax a0 ((f1).toNat) 3) 1) (.inr Z) (zI<|(p.getD ((f1).toNat) Fn.zero).params) AO Z ((a3 _ al).ld (i:=1) (by simp[Dd,FU])) Ac ?_
 by_cases cc:(i:Int)<(p.getD ((f1).toNat) Fn.zero).params
 ·refine Ay true Z Z (A7 cc) Ac<|Ai<|Ag Z<|A4<|A0<|A5 ?_
  letI:JR:=UU [gs,gg]
  refine Jx.AW _ [0,1,0,0,0,0,0,3,3,4,0,4] mixed (by kernel_rfl) ?_
  have htn:=OK (k:=IJ (d-1)) (i:=i+1) oM
  have hts:UD (i+1) (IJ (d-1))=UD i (IJ (d-1))+IJ (d-1):=rfl
  have hti:=QK (k:=Oa (d-1)) (i:=i) oM oM
  have hlo:=hko.lo
  have hln:=hko.len
  refine Jx.Aq (p:=zP w9.heap.size) 4 Bt Z Z Ac<|Jx.nQ (p:=AA (zP w9.heap.size) 4) vk BA Z (fun wj hj=>(BX.chg (w:=f4.drew) (F:=[gs,gg]) a1 hj fun hm=>zH<|Dr hm).ldp (i:=4) sM) Ac<|Jx.f8 (zP gg) Z Ac<|Jx.f8 (zI vars) Z Ac<|Jx.f8 (zI funcs) Z Ac<|Jx.f8 (zI (d:Int)) Z Ac<|Jx.j1<|Cb ((d-1:Nat):Int) Z Z (by rw[Dh oM oM];omega) Ac<|Ai ?_
  refine Jx.As 124 [] [] [zP gg,zI vars,zI funcs,zI ((d-1:Nat):Int)] Z Z OV Ac (IH _ gg gs sv cs m pp dp l pl p (vars) (funcs) oM aw ac (hp.chg (Bf<|B2 dp) al.drew) _hvars _hfuncs oM oM hpr oM oM oM) ?_
  rintro ih gy ⟨i6,fr,i7,i8,rfl,a4,d8,g9,d9,bj,da,ga⟩
  refine⟨_,rfl,a4,?_⟩
  replace bj:=bj.low (B':=f4.heap.size)<|A9 _
  replace a4:=a4.of_drew
  have ed:f4.heap.size≤gy.heap.size:=a4.size
  have db:Az [gs,gg] w gy:=al.trans a4
  have dc:=ab.chg (Ao<|AH 153 d) a4 fun c hc=>zH<|Dr hc
  have dd:=ad.chg a4 fun hm=>zH<|Dr hm
  have de:=a1.chg a4 fun hm=>zH<|Dr hm
  refine Jx.ZL Z (Gm (cs:=[zI fr.kind,zI fr.num,zI fr.pick,zI fr.count,i6]) (y:=fr) (B:=f4.heap.size) (AH 153 d) DE BE Z (by decide) Z (L6.mk1 oM da bj) oM Ac fun i9 gz ae gb df=>?_)
  have ee:gy.heap.size≤gz.heap.size:=ae.size
  have dg:Az [gs,gg] w gz:=db.ext ae
  have b3:=dc.ext (Ao<|AH 153 d) ae
  have b4:=d8.ext ae
  have b5:=d9.ext ae
  have b6:=dd.ext ae
  have b7:=de.ext ae
  refine JW (v:=vk) (a:=i9) (AH 153 d) DE BE Z (by decide) Z Z b3 oM df oM oM oM (by unfold maxLen;omega) Ac fun i2 gw ii am ax cd=>?_
  have ef:gz.heap.size≤gw.heap.size:=am.size
  have dh:Az [gs,gg] w gw:=dg.fresh am (fun c hc=>zH<|ax _ hc)
  have di:=b4.chg am fun c hc=>zH<|ax _ hc
  have dj:=b5.chg am fun hm=>zH<|ax _ hm
  have dk:=b6.chg am fun hm=>zH<|ax _ hm
  have dl:=b7.chg am fun hm=>zH<|ax _ hm
  refine Aq (p:=zP w9.heap.size) 4 Bt Z Z Ac (BB (k:=4) (w:=gw) UO Z Z (Bo cd.isSlS) dl sM Ac fun i0 an gc bk=>?_)
  replace bk:BX i0.heap w9.heap.size [zI k,zI f1,zI f2,zI cnt,i2]:=bk
  have eg:gw.heap.size≤i0.heap.size:=an.size
  have dm:Az [gs,gg] w i0:=dh.fresh an (fun _ h=>zE h)
  have dn:=di.chg an fun c hc=>zH<|Ab hc
  have dq:=dj.chg an (zB ·)
  have dr:=dk.chg an (zB ·)
  have ds:=cd.chg (Ao<|AH 153 d) an fun _ h=>zA h
  exact Ai<|Ad _ [0,0,0] Z<|Af 1 Z<|AG ((i+1:Nat):Int) Z Z (Bd oM oM) Ac<|Ae 1 Z ⟨(i+1,i8,i7,i2,xs++[fr]),_,rfl,zR,⟨dm,ds.up<|Ao<|AH 153 d,dn,dq,dr,bk,oM,(by exact hko.snoc oM (by rw[if_neg oM]) (by assumption)),oM,oM,oM,oM,oM⟩,zD⟩
 refine Ay false Z Z (A8 cc) Ac<|Ai<|Aj Z<|A6<|Au<|Au<|An<|qS [2,4] Z<|AZ (p:=zP w9.heap.size) (.inr Z) [zI k,zI f1,zI f2,zI cnt,vk] Bi Z (fun ij gd=>LD.of_box<|BX.ext (w:=f4) a1 gd) Z Ac (BR (vs:=[zI k,zI f1,zI f2,zI cnt,vk]) Bi Z Z (by intro u hu;simp only[ze,z2,or_false]at hu;rcases hu with rfl|rfl|rfl|rfl|rfl <;> first|exact⟨rfl,rfl⟩|exact Bo ab.isSlS) ad Z Z Ac fun i1 ao ge bl=>?_)
 replace bl:BX i1.heap w.heap.size [zI k,zI f1,zI f2,zI cnt,vk]:=bl
 have eh:f4.heap.size≤i1.heap.size:=ao.size
 have dt:Az [gs,gg] w i1:=al.fresh ao (fun _ h=>zE h)
 have du:=ab.chg (Ao<|AH 153 d) ao fun _ h=>zA h
 have dv:=aw.chg ao fun c hc=>zH<|Ab hc
 have dw:=ac.chg ao (zB ·)
 have gf:=a1.chg ao (zB ·)
 refine Ai<|A3 ?_
 have hln:=hko.len
 have htn:=OK (k:=IJ (d-1)) (i:=i) oM
 exact CA (cs:=[zI k,zI f1,zI f2,zI cnt,vk]) Z Bi Z bl Z ⟨vk,.mk k f1 f2 cnt xs,m,l,rfl,dt,dv,⟨zO,zO⟩,dw,(du.up<|Ao<|AH 153 d).low (B':=w.heap.size) oM,EG oM oM oM oM,(by exact hko.node1 oM oM oM (fun _=>by omega) (fN hkc oM oM oM))⟩
theorem So {p:Prop}(h:p:=by exact hko.snoc oM (by first|rw[if_pos oM]|rw[if_neg oM]) (by assumption)):p:=h
theorem Q7 {p:Prop}(h:p:=by intro hpl;first|omega|(simp_all;omega)|simp_all):p:=h
theorem K8 (w:World)(gg gs:Nat)(sv:Value)(cs:List UInt8)(n0:Nat)(pp:Value)(dp:Nat)(l0:Int)(pl:Bool)(p:List Fn)(vars:Int)(funcs:Int)(d:Nat)(hgg:gs<gg)(hs:FC w.heap gs sv cs n0)(hB0:BX w.heap gg [zP gs,pp,zI l0,.bool pl])(hp:RN [gs,gg] (rP (LS dp)) w.heap pp p)(_hvars:BI vars)(_hfuncs:BI funcs)(hv:0≤vars∧vars+(d:Int)≤1000)(hfu:0≤funcs∧funcs≤(p.length:Int))(hpr:jN p)(hd:d≤8)(hn:n0+IJ d≤1000000000000)(hl:Oa d-1000000≤l0∧l0≤1000)(IH1:∀d',d'<d→GX d')(IH2:1≤d→GC d) :
  Calls Tryz.prog 124 #[zP gg,zI vars,zI funcs,zI (d:Int)] w (fun e w'=>∃(v:Value) (ex:Ex) (n1:Nat) (l1:Int),e=.returned (.agg #[zI ex.kind,zI ex.num,zI ex.pick,zI ex.count,v])∧Az [gs,gg] w w'∧FC w'.heap gs sv cs n1∧(n0≤n1∧n1≤n0+(IJ d))∧BX w'.heap gg [zP gs,pp,zI l1,.bool pl]∧Fr (D7 5 (FD 153 d) 153) w.heap.size w'.heap.size w'.heap v ex.kids∧Rp ex∧Th p funcs vars pl d l0 l1 ex):=by
 refine At [zP gg,zI vars,zI funcs,zI (d:Int)] 117 Tryz.func124 Z Z sM ?_
 have l8:Az [gs,gg] w w:=Az.refl [gs,gg] w
 have q9:=hs.lt
 have mj:=hB0.lt
 have hst:=RD d
 have hnd:=J4 d
 have hnl:=X2 (d:=d) oM
 refine qS [3] Z ?_
 have nt:=hB0.lt
 refine Br (z:=.agg #[zI 0,zI 0,zI 0,zI 0,zN]) GV Ac fun w1 db ml ih=>?_
 have ii:w.heap.size≤w1.heap.size:=db.size
 have l9:Az [gs,gg] w w1:=l8.ext db
 have ij:=hs.ext db
 have ci:=hB0.ext db
 replace ih:BX w1.heap w.heap.size [zI 0,zI 0,zI 0,zI 0,zN]:=ih
 refine Ai<|qS [0,0,0,2,0,0,0,4] Z<|Af 1 Z<|Be Z Ac<|Aq (p:=zP gg) 2 PY Z Z Ac<|Al (p:=AA (zP gg) 2) (.inr Z) (zI l0) AO Z (ci.ldp (i:=2) sM) Ac ?_
 refine Cb (l0-((1:Nat):Int)) Z Z (Dh sD sD) Ac<|Be Z Ac ?_
 refine Aq (p:=zP gg) 2 PY Z Z Ac (BB (k:=2) (w:=w1) I0 Z Z ⟨rfl,rfl⟩ ci sM Ac fun w3 dc mm cq=>?_)
 replace cq:BX w3.heap gg [zP gs,pp,zI (l0-((1:Nat):Int)),.bool pl]:=cq
 have ik:w1.heap.size≤w3.heap.size:=dc.size
 have da:Az [gs,gg] w w3:=l9.trans (dc.sub fO)
 have id:=ij.chg dc fun c hc=>zH<|Ab hc
 have ie:=ih.chg dc (zB ·)
 refine Ai<|A0<|qS [0,0,0,2,0,0,0,0,0,0,0,0,0,2,4,0] Z<|Af 1 Z<|Be Z Ac<|Aq (p:=zP gg) 2 PY Z Z Ac<|Al (p:=AA (zP gg) 2) (.inr Z) (zI (l0-((1:Nat):Int))) AO Z (cq.ldp (i:=2) sM) Ac ?_
 by_cases la:l0-((1:Nat):Int)<((1:Nat):Int)
 ·refine Ay true Z Z (A7 la) Ac<|Ae 11 Z<|Ag Z<|qS [0,0,4,4] Z<|Af 2 Z<|AE 196 [] [] [zP gg,zI vars] Z Z U3 Ac (Dm _ gg gs sv cs n0 pp dp (l0-((1:Nat):Int)) pl p (vars) oM id cq (hp.chg (Bf<|B2 dp) da) _hvars oM oM) ?_
  rintro e7 w7 ⟨x7,n7,rfl,il,mn,nu,mo,mp,im,nv⟩
  refine⟨_,rfl,?_⟩
  have mq:w3.heap.size≤w7.heap.size:=il.size
  have mr:Az [gs,gg] w w7:=da.trans il
  have ms:=ie.chg il fun hm=>zH<|Dr hm
  refine BR (vs:=[zI x7.kind,zI x7.num,zI x7.pick,zI x7.count,zN]) Bi Z Z I3 ms Z Z Ac fun w9 ig nw io=>?_
  replace io:BX w9.heap w.heap.size [zI x7.kind,zI x7.num,zI x7.pick,zI x7.count,zN]:=io
  have mt:w7.heap.size≤w9.heap.size:=ig.size
  have mu:Az [gs,gg] w w9:=mr.fresh ig (fun _ h=>zE h)
  have ip:=mn.chg ig fun c hc=>zH<|Ab hc
  have iq:=mo.chg ig (zB ·)
  exact Ai<|A3<|Ap<|CA (cs:=[zI x7.kind,zI x7.num,zI x7.pick,zI x7.count,zN]) Z Bi Z io Z ⟨zN,x7,n7,l0-((1:Nat):Int),rfl,mu,ip,⟨zO,zO⟩,iq,(by rw[im];exact HO _ _ _),mp,(by exact RE.ok (by assumption) d)⟩
 refine Ay false Z Z (A8 la) Ac<|Af 2 Z ?_
 by_cases dd:(d:Int)<((1:Nat):Int)
 ·refine Ay true Z Z (A7 dd) (Ak (e:=24) Z Z Z)<|Ae 8 Z<|Ag Z<|qS [0,0,4,4] Z<|Af 2 Z<|AE 196 [] [] [zP gg,zI vars] Z Z U3 Ac (Dm _ gg gs sv cs n0 pp dp (l0-((1:Nat):Int)) pl p (vars) oM id cq (hp.chg (Bf<|B2 dp) da) _hvars oM oM) ?_
  rintro qa ox ⟨fr,pv,rfl,cr,ir,mv,is,it,de,mw⟩
  refine⟨_,rfl,?_⟩
  have lb:w3.heap.size≤ox.heap.size:=cr.size
  have iu:Az [gs,gg] w ox:=da.trans cr
  have iv:=ie.chg cr fun hm=>zH<|Dr hm
  refine BR (vs:=[zI fr.kind,zI fr.num,zI fr.pick,zI fr.count,zN]) Bi Z Z I3 iv Z Z Ac fun oy cc mx ct=>?_
  replace ct:BX oy.heap w.heap.size [zI fr.kind,zI fr.num,zI fr.pick,zI fr.count,zN]:=ct
  have lc:ox.heap.size≤oy.heap.size:=cc.size
  have iw:Az [gs,gg] w oy:=iu.fresh cc (fun _ h=>zE h)
  have ix:=ir.chg cc fun c hc=>zH<|Ab hc
  have iy:=is.chg cc (zB ·)
  exact Ai<|A3<|Ap<|CA (cs:=[zI fr.kind,zI fr.num,zI fr.pick,zI fr.count,zN]) Z Bi Z ct Z ⟨zN,fr,pv,l0-((1:Nat):Int),rfl,iw,ix,⟨zO,zO⟩,iy,(by rw[de];exact HO _ _ _),it,(by exact RE.ok (by assumption) d)⟩
 refine Ay false Z Z (A8 dd) (Ak (e:=24) Z Z Z)<|Af 3 Z<|Be Z (Ak (e:=28) Z Z Z)<|Aq (p:=zP gg) 0 Fx Z Z (Ak (e:=28) Z Z Z)<|Al (p:=AA (zP gg) 0) (.inr Z) (zP gs) JB Z (cq.ldp (i:=0) sM) (Ak (e:=28) Z Z Z) ?_
 refine AE 122 [] [] [zP gs,zI ((5:Nat):Int)] Z Z Ra (Ak (e:=28) Z Z Z) (CY _ gs _ _ _ ((5:Nat):Int) id oM oM sD) ?_
 rintro qb f1 ⟨oo,px,rfl,bn,df,my,iz⟩
 refine⟨_,rfl,?_⟩
 have dg:w3.heap.size≤f1.heap.size:=bn.size
 have cd:Az [gs,gg] w f1:=da.trans (bn.sub H3)
 have ce:=cq.chg bn (zB ·)
 have cf:=ie.chg bn (zB ·)
 refine Ae 1 Z ?_
 cases dh:oo
 ·refine Aj (by first|rfl|exact zW dh)<|A4<|qS [0,3,4] Z ?_
  have py:=cG (d:=d) oM
  have pz:=jM (d:=d) oM
  have mz:=RD (d-1)
  have n2:=J4 (d-1)
  have di:∀(wq:World),(Instr.build 153 #[]).run Tryz.prog wq=.ok (.agg #[zI 0,zI 0,zI 0,zI 0,zN]) wq:=by intro wq;kernel_rfl
  refine Ce (ps:=#[]) (.agg #[zI 0,zI 0,zI 0,zI 0,zN]) (by simp only[zc,zf,zh]) (fun wq=>di  wq) Ac ?_
  have n3:=ce.lt
  have n4:=cf.lt
  refine Br (z:=.agg #[zI 0,zI 0,zI 0,zI 0,zN]) GV Ac fun ou b4 j0 cu=>?_
  have dj:f1.heap.size≤ou.heap.size:=b4.size
  have dk:Az [gs,gg] w ou:=cd.ext b4
  have cg:=df.ext b4
  have b1:=ce.ext b4
  have b2:=cf.ext b4
  replace cu:BX ou.heap f1.heap.size [zI 0,zI 0,zI 0,zI 0,zN]:=cu
  refine BR (vs:=[zI 0,zI 0,zI 0,zI 0,zN]) Bi Z Z I3 cu Z Z Ac fun ov b5 j2 cv=>?_
  replace cv:BX ov.heap f1.heap.size [zI 0,zI 0,zI 0,zI 0,zN]:=cv
  have dl:ou.heap.size≤ov.heap.size:=b5.size
  have dm:Az [gs,gg] w ov:=dk.fresh b5 (fun _ h=>zE h)
  have dn:=cg.chg b5 fun c hc=>zH<|Ab hc
  have cw:=b1.chg b5 (zB ·)
  have dq:=b2.chg b5 (zB ·)
  refine Ai<|A0<|Ib (S:=Int×Nat) (fun⟨k,m1⟩=>([(0,zP gg),(1,zI vars),(2,zI funcs),(3,zI (d:Int)),(8,zP w.heap.size),(9,zP f1.heap.size)])) (fun⟨k,m1⟩ W=>Az [gs,gg] w W∧FC W.heap gs sv cs m1∧BX W.heap gg [zP gs,pp,zI (l0-((1:Nat):Int)),.bool pl]∧BX W.heap w.heap.size [zI 0,zI 0,zI 0,zI 0,zN]∧BX W.heap f1.heap.size [zI k,zI 0,zI 0,zI 0,zN]∧(k=3∨k=4∨k=5∨k=6∨k=7∨k=8∨k=9)∧(n0≤m1∧m1≤n0+4)) ?_ ?_
  ·refine qS [0,0,0,2,4] Z<|Af 1 Z<|Be Z Ac<|Aq (p:=zP gg) 0 Fx Z Z Ac<|Al (p:=AA (zP gg) 0) (.inr Z) (zP gs) JB Z (cw.ldp (i:=0) sM) Ac ?_
   refine AE 68 [] [] [zP gs,zI ((12:Nat):Int)] Z Z Ip Ac (B6 _ gs _ _ _ ((12:Nat):Int) dn oM oM sD) ?_
   rintro qc fe ⟨f2,o4,rfl,bo,ad,n5,j3⟩
   refine⟨_,rfl,?_⟩
   have ld:ov.heap.size≤fe.heap.size:=bo.size
   have ab:Az [gs,gg] w fe:=dm.trans (bo.sub H3)
   have ae:=cw.chg bo (zB ·)
   have af:=dq.chg bo (zB ·)
   have ag:=cv.chg bo (zB ·)
   refine Ai<|A5<|qS [0,0] Z ?_
   by_cases dr:f2=((0:Nat):Int)
   ·refine Av true Z Z (A7 dr) Ac<|Ae 1 Z<|Ag Z<|Ad _ [0,4] Z<|Aq (p:=zP f1.heap.size) 0 Bz Z Z Ac (BB (k:=0) (w:=fe) I0 Z Z ⟨rfl,rfl⟩ ag sM Ac fun oz bp n6 cx=>?_)
    replace cx:BX oz.heap f1.heap.size [zI ((7:Nat):Int),zI 0,zI 0,zI 0,zN]:=cx
    have le:fe.heap.size≤oz.heap.size:=bp.size
    have j4:Az [gs,gg] w oz:=ab.fresh bp (fun _ h=>zE h)
    have j5:=ad.chg bp fun c hc=>zH<|Ab hc
    have j6:=ae.chg bp (zB ·)
    have j7:=af.chg bp (zB ·)
    exact Ai ⟨(((7:Nat):Int),o4),_,rfl,zR,⟨j4,j5,j6,j7,cx,oM,oM⟩⟩
   refine Av false Z Z (A8 dr) Ac<|Ae 1 Z<|Aj Z<|qS [0,0] Z ?_
   by_cases ds:f2=((1:Nat):Int)
   ·refine Av true Z Z (A7 ds) Ac<|Ae 1 Z<|Ag Z<|Ad _ [0,4] Z<|Aq (p:=zP f1.heap.size) 0 Bz Z Z Ac (BB (k:=0) (w:=fe) I0 Z Z ⟨rfl,rfl⟩ ag sM Ac fun p0 bq n8 cy=>?_)
    replace cy:BX p0.heap f1.heap.size [zI ((9:Nat):Int),zI 0,zI 0,zI 0,zN]:=cy
    have lf:fe.heap.size≤p0.heap.size:=bq.size
    have j8:Az [gs,gg] w p0:=ab.fresh bq (fun _ h=>zE h)
    have j9:=ad.chg bq fun c hc=>zH<|Ab hc
    have ja:=ae.chg bq (zB ·)
    have jb:=af.chg bq (zB ·)
    exact Ai ⟨(((9:Nat):Int),o4),_,rfl,zR,⟨j8,j9,ja,jb,cy,oM,oM⟩⟩
   refine Av false Z Z (A8 ds) Ac<|Ae 1 Z<|Aj Z<|qS [0,0] Z ?_
   by_cases dt:f2=((2:Nat):Int)
   ·refine Av true Z Z (A7 dt) Ac<|Ae 1 Z<|Ag Z<|Ad _ [0,4] Z<|Aq (p:=zP f1.heap.size) 0 Bz Z Z Ac (BB (k:=0) (w:=fe) I0 Z Z ⟨rfl,rfl⟩ ag sM Ac fun p2 br n9 cz=>?_)
    replace cz:BX p2.heap f1.heap.size [zI ((8:Nat):Int),zI 0,zI 0,zI 0,zN]:=cz
    have lg:fe.heap.size≤p2.heap.size:=br.size
    have jc:Az [gs,gg] w p2:=ab.fresh br (fun _ h=>zE h)
    have jd:=ad.chg br fun c hc=>zH<|Ab hc
    have je:=ae.chg br (zB ·)
    have jf:=af.chg br (zB ·)
    exact Ai ⟨(((8:Nat):Int),o4),_,rfl,zR,⟨jc,jd,je,jf,cz,oM,oM⟩⟩
   refine Av false Z Z (A8 dt) Ac<|Ae 1 Z<|Aj Z<|qS [0,0] Z ?_
   by_cases du:f2=((3:Nat):Int)
   ·refine Av true Z Z (A7 du) Ac<|Ae 1 Z<|Ag Z<|Ad _ [0,4] Z<|Aq (p:=zP f1.heap.size) 0 Bz Z Z Ac (BB (k:=0) (w:=fe) I0 Z Z ⟨rfl,rfl⟩ ag sM Ac fun p4 bs na d0=>?_)
    replace d0:BX p4.heap f1.heap.size [zI ((6:Nat):Int),zI 0,zI 0,zI 0,zN]:=d0
    have lh:fe.heap.size≤p4.heap.size:=bs.size
    have jg:Az [gs,gg] w p4:=ab.fresh bs (fun _ h=>zE h)
    have jh:=ad.chg bs fun c hc=>zH<|Ab hc
    have ji:=ae.chg bs (zB ·)
    have jj:=af.chg bs (zB ·)
    exact Ai ⟨(((6:Nat):Int),o4),_,rfl,zR,⟨jg,jh,ji,jj,d0,oM,oM⟩⟩
   refine Av false Z Z (A8 du) Ac<|Ae 1 Z<|Aj Z<|A0<|qS [0,0] Z ?_
   by_cases dv:f2=((4:Nat):Int)
   ·refine Av true Z Z (A7 dv) Ac<|Ae 1 Z<|Ag Z<|A4<|Ag Z<|Ad _ [0,4] Z<|Aq (p:=zP f1.heap.size) 0 Bz Z Z Ac (BB (k:=0) (w:=fe) I0 Z Z ⟨rfl,rfl⟩ ag sM Ac fun p5 bt nb d1=>?_)
    replace d1:BX p5.heap f1.heap.size [zI ((3:Nat):Int),zI 0,zI 0,zI 0,zN]:=d1
    have li:fe.heap.size≤p5.heap.size:=bt.size
    have jk:Az [gs,gg] w p5:=ab.fresh bt (fun _ h=>zE h)
    have jl:=ad.chg bt fun c hc=>zH<|Ab hc
    have jm:=ae.chg bt (zB ·)
    have jn:=af.chg bt (zB ·)
    exact Ai ⟨(((3:Nat):Int),o4),_,rfl,zR,⟨jk,jl,jm,jn,d1,oM,oM⟩⟩
   refine Av false Z Z (A8 dv) Ac<|Ae 1 Z<|Aj Z<|Ad _ [0,0] Z ?_
   by_cases dw:f2=((5:Nat):Int)
   ·refine Av true Z Z (A7 dw) Ac<|Ae 1 Z<|Ag Z<|Ad _ [0,4] Z<|Aq (p:=zP f1.heap.size) 0 Bz Z Z Ac (BB (k:=0) (w:=fe) I0 Z Z ⟨rfl,rfl⟩ ag sM Ac fun p6 bu nc d2=>?_)
    replace d2:BX p6.heap f1.heap.size [zI ((3:Nat):Int),zI 0,zI 0,zI 0,zN]:=d2
    have lj:fe.heap.size≤p6.heap.size:=bu.size
    have jo:Az [gs,gg] w p6:=ab.fresh bu (fun _ h=>zE h)
    have jp:=ad.chg bu fun c hc=>zH<|Ab hc
    have jq:=ae.chg bu (zB ·)
    have jr:=af.chg bu (zB ·)
    exact Ai ⟨(((3:Nat):Int),o4),_,rfl,zR,⟨jo,jp,jq,jr,d2,oM,oM⟩⟩
   refine Av false Z Z (A8 dw) Ac<|Ae 1 Z<|Aj Z<|qS [0,0] Z ?_
   by_cases dx:f2=((6:Nat):Int)
   ·refine Av true Z Z (A7 dx) Ac<|Ae 1 Z<|Ag Z<|Ad _ [0,4] Z<|Aq (p:=zP f1.heap.size) 0 Bz Z Z Ac (BB (k:=0) (w:=fe) I0 Z Z ⟨rfl,rfl⟩ ag sM Ac fun p7 bv nd d3=>?_)
    replace d3:BX p7.heap f1.heap.size [zI ((4:Nat):Int),zI 0,zI 0,zI 0,zN]:=d3
    have lk:fe.heap.size≤p7.heap.size:=bv.size
    have js:Az [gs,gg] w p7:=ab.fresh bv (fun _ h=>zE h)
    have jt:=ad.chg bv fun c hc=>zH<|Ab hc
    have ju:=ae.chg bv (zB ·)
    have jv:=af.chg bv (zB ·)
    exact Ai ⟨(((4:Nat):Int),o4),_,rfl,zR,⟨js,jt,ju,jv,d3,oM,oM⟩⟩
   refine Av false Z Z (A8 dx) Ac<|Ae 1 Z<|Aj Z<|A0<|qS [0,0] Z ?_
   by_cases dy:f2=((7:Nat):Int)
   ·refine Av true Z Z (A7 dy) Ac<|Ae 1 Z<|Ag Z<|A4<|Ag Z<|Ad _ [0,4] Z<|Aq (p:=zP f1.heap.size) 0 Bz Z Z Ac (BB (k:=0) (w:=fe) I0 Z Z ⟨rfl,rfl⟩ ag sM Ac fun p8 bw ne d4=>?_)
    replace d4:BX p8.heap f1.heap.size [zI ((5:Nat):Int),zI 0,zI 0,zI 0,zN]:=d4
    have ll:fe.heap.size≤p8.heap.size:=bw.size
    have jw:Az [gs,gg] w p8:=ab.fresh bw (fun _ h=>zE h)
    have jx:=ad.chg bw fun c hc=>zH<|Ab hc
    have jy:=ae.chg bw (zB ·)
    have jz:=af.chg bw (zB ·)
    exact Ai ⟨(((5:Nat):Int),o4),_,rfl,zR,⟨jw,jx,jy,jz,d4,oM,oM⟩⟩
   refine Av false Z Z (A8 dy) Ac<|Ae 1 Z<|Aj Z<|qS [0,0] Z ?_
   by_cases dz:f2=((8:Nat):Int)
   ·refine Av true Z Z (A7 dz) Ac<|Ae 1 Z<|Ag Z<|A4<|Ag Z<|Ad _ [0,4] Z<|Aq (p:=zP f1.heap.size) 0 Bz Z Z Ac (BB (k:=0) (w:=fe) I0 Z Z ⟨rfl,rfl⟩ ag sM Ac fun p9 bx nf d5=>?_)
    replace d5:BX p9.heap f1.heap.size [zI ((5:Nat):Int),zI 0,zI 0,zI 0,zN]:=d5
    have lm:fe.heap.size≤p9.heap.size:=bx.size
    have k0:Az [gs,gg] w p9:=ab.fresh bx (fun _ h=>zE h)
    have k1:=ad.chg bx fun c hc=>zH<|Ab hc
    have k3:=ae.chg bx (zB ·)
    have k4:=af.chg bx (zB ·)
    exact Ai ⟨(((5:Nat):Int),o4),_,rfl,zR,⟨k0,k1,k3,k4,d5,oM,oM⟩⟩
   refine Av false Z Z (A8 dz) Ac<|Ae 1 Z<|Aj Z<|Ad _ [0,0] Z ?_
   by_cases e0:f2=((9:Nat):Int)
   ·refine Av true Z Z (A7 e0) Ac<|Ae 1 Z<|Ag Z<|Ad _ [0,4] Z<|Aq (p:=zP f1.heap.size) 0 Bz Z Z Ac (BB (k:=0) (w:=fe) I0 Z Z ⟨rfl,rfl⟩ ag sM Ac fun pa bz ng d6=>?_)
    replace d6:BX pa.heap f1.heap.size [zI ((5:Nat):Int),zI 0,zI 0,zI 0,zN]:=d6
    have ln:fe.heap.size≤pa.heap.size:=bz.size
    have k5:Az [gs,gg] w pa:=ab.fresh bz (fun _ h=>zE h)
    have k6:=ad.chg bz fun c hc=>zH<|Ab hc
    have k7:=ae.chg bz (zB ·)
    have k8:=af.chg bz (zB ·)
    exact Ai ⟨(((5:Nat):Int),o4),_,rfl,zR,⟨k5,k6,k7,k8,d6,oM,oM⟩⟩
   refine Av false Z Z (A8 e0) Ac<|Ae 1 Z<|Aj Z<|qS [0,0,0,0,4,4] Z<|Af 4 Z<|AE 197 [] [] [zP gg,zI vars,zI funcs,zI (d:Int)] Z Z lU Ac (IH2 oM _ gg gs sv cs o4 pp dp (l0-((1:Nat):Int)) pl p (vars) (funcs) oM ad ae (hp.chg (Bf<|B2 dp) ab) _hvars _hfuncs oM oM hpr oM oM oM) ?_
   rintro qd pb ⟨ow,fs,q0,q1,rfl,ch,k9,nh,ka,e1,kb,ni⟩
   refine⟨_,rfl,?_⟩
   have lp:fe.heap.size≤pb.heap.size:=ch.size
   have kc:Az [gs,gg] w pb:=ab.trans ch
   have kd:=af.chg ch fun hm=>zH<|Dr hm
   have ke:=ag.chg ch fun hm=>zH<|Dr hm
   refine BR (vs:=[zI fs.kind,zI fs.num,zI fs.pick,zI fs.count,ow]) Bi Z Z (by intro u hu;simp only[ze,z2,or_false]at hu;rcases hu with rfl|rfl|rfl|rfl|rfl <;> first|exact⟨rfl,rfl⟩|exact Bo e1.isSlS) kd Z Z Ac fun pc b6 nj d7=>?_
   replace d7:BX pc.heap w.heap.size [zI fs.kind,zI fs.num,zI fs.pick,zI fs.count,ow]:=d7
   have lq:pb.heap.size≤pc.heap.size:=b6.size
   have kf:Az [gs,gg] w pc:=kc.fresh b6 (fun _ h=>zE h)
   have kg:=k9.chg b6 fun c hc=>zH<|Ab hc
   have kh:=ka.chg b6 (zB ·)
   have nk:=ke.chg b6 (zB ·)
   have ki:=e1.chg (Ao<|AH 153 d) b6 fun _ h=>zA h
   exact Ai<|A3<|AK<|Ap<|CA (cs:=[zI fs.kind,zI fs.num,zI fs.pick,zI fs.count,ow]) Z Bi Z d7 Z ⟨ow,fs,q0,q1,rfl,kf,kg,⟨zO,zO⟩,kh,(ki.up<|Ao<|AH 153 d).low (B':=w.heap.size) oM,kb,(by exact Th.up1 (by assumption))⟩
  clear l8 ml db ii l9 mm dc ik da id ie bn dg cd ce cf j0 b4 dj dk b1 b2 j2 b5 dl dm dn cw dq
  rintro⟨k,m1⟩ ρ30 op ⟨b7,ah,a2,a6,a1,hkk,nx⟩
  have e2:w.heap.size≤op.heap.size:=b7.size
  have nl:=a2.lt
  have nm:=a6.lt
  have nn:=a1.lt
  refine A0<|Ib (S:=Int) (fun(k2:Int)=>([(0,zP gg),(1,zI vars),(2,zI funcs),(3,zI (d:Int)),(8,zP w.heap.size),(9,zP f1.heap.size)])) (fun(k2:Int) (W:World)=>Az [gs,gg] w W∧FC W.heap gs sv cs m1∧BX W.heap gg [zP gs,pp,zI (l0-((1:Nat):Int)),.bool pl]∧BX W.heap w.heap.size [zI 0,zI 0,zI 0,zI 0,zN]∧BX W.heap f1.heap.size [zI k2,zI 0,zI 0,zI 0,zN]∧(k2=3∨k2=4∨k2=5∨k2=6∨k2=7∨k2=8∨k2=9)∧(pl=true→k2≠6∧k2≠8)) ?_ ?_
  ·refine qS [0,0,0,2,0,0,2,0,0,0,2,0,0,0] Z<|Af 1 Z<|Be Z Ac<|Aq (p:=zP gg) 3 bN Z Z Ac<|Al (p:=AA (zP gg) 3) (.inr Z) (.bool (true && pl)) qK Z (a2.ldp (i:=3) sM) Ac<|Af 1 Z ?_
   cases no:(true && pl)
   ·exact Ae 9 Z<|Aj Z<|A4 ⟨k,_,rfl,zR,⟨b7,ah,a2,a6,a1,oM,Q7⟩⟩
   refine Aq (p:=zP f1.heap.size) 0 Bz Z Z (Ak (e:=77) Z Z Z)<|Al (p:=AA (zP f1.heap.size) 0) (.inr Z) (zI k) AO Z (a1.ldp (i:=0) sM) (Ak (e:=77) Z Z Z) ?_
   by_cases e3:k=((8:Nat):Int)
   ·refine Av true Z Z (A7 e3) (Ak (e:=77) Z Z Z)<|Ae 6 Z<|Ag Z<|Ad _ [0,4] Z<|Aq (p:=zP f1.heap.size) 0 Bz Z Z Ac (BB (k:=0) (w:=op) I0 Z Z ⟨rfl,rfl⟩ a1 sM Ac fun pd c0 np d8=>?_)
    replace d8:BX pd.heap f1.heap.size [zI ((5:Nat):Int),zI 0,zI 0,zI 0,zN]:=d8
    have lr:op.heap.size≤pd.heap.size:=c0.size
    have kj:Az [gs,gg] w pd:=b7.fresh c0 (fun _ h=>zE h)
    have e4:=ah.chg c0 fun c hc=>zH<|Ab hc
    have e5:=a2.chg c0 (zB ·)
    have e6:=a6.chg c0 (zB ·)
    exact Ai ⟨((5:Nat):Int),_,rfl,zR,⟨kj,e4,e5,e6,d8,oM,Q7⟩⟩
   refine Av false Z Z (A8 e3) (Ak (e:=77) Z Z Z)<|Af 1 Z<|Aq (p:=zP f1.heap.size) 0 Bz Z Z (Ak (e:=81) Z Z Z)<|Al (p:=AA (zP f1.heap.size) 0) (.inr Z) (zI k) AO Z (a1.ldp (i:=0) sM) (Ak (e:=81) Z Z Z) ?_
   by_cases cj:k=((6:Nat):Int)
   ·refine Av true Z Z (A7 cj) (Ak (e:=81) Z Z Z)<|Ae 2 Z<|Ag Z<|Ad _ [0,4] Z<|Aq (p:=zP f1.heap.size) 0 Bz Z Z Ac (BB (k:=0) (w:=op) I0 Z Z ⟨rfl,rfl⟩ a1 sM Ac fun o8 au ls c1=>?_)
    replace c1:BX o8.heap f1.heap.size [zI ((5:Nat):Int),zI 0,zI 0,zI 0,zN]:=c1
    have kk:op.heap.size≤o8.heap.size:=au.size
    have e8:Az [gs,gg] w o8:=b7.fresh au (fun _ h=>zE h)
    have e9:=ah.chg au fun c hc=>zH<|Ab hc
    have ea:=a2.chg au (zB ·)
    have eb:=a6.chg au (zB ·)
    exact Ai ⟨((5:Nat):Int),_,rfl,zR,⟨e8,e9,ea,eb,c1,oM,Q7⟩⟩
   exact Av false Z Z (A8 cj) (Ak (e:=81) Z Z Z)<|Ae 2 Z<|Aj Z<|A4 ⟨k,_,rfl,zR,⟨b7,ah,a2,a6,a1,oM,Q7⟩⟩
  clear a1 a6 a2 ah b7 e2
  rintro k2 ρ96 on ⟨ec,c2,ay,az,b0,nq,nr⟩
  have lu:w.heap.size≤on.heap.size:=ec.size
  have lv:=ay.lt
  have lw:=az.lt
  have lx:=b0.lt
  refine A0<|qT Z<|A5 ?_
  have hknb:=oH nq
  refine AQ (S:=Nat×Int×Nat×Value×List Ex) (fun⟨i,l,m,vk,xs⟩=>([(10,zI (i:Int)),(0,zP gg),(1,zI vars),(2,zI funcs),(3,zI (d:Int)),(8,zP w.heap.size),(9,zP f1.heap.size)])) (fun⟨i,l,m,vk,xs⟩ W=>Az [gs,gg] w W∧Fr (D7 5 (FD 153 d) 153) on.heap.size W.heap.size W.heap vk xs∧FC W.heap gs sv cs m∧BX W.heap gg [zP gs,pp,zI l,.bool pl]∧BX W.heap w.heap.size [zI 0,zI 0,zI 0,zI 0,zN]∧BX W.heap f1.heap.size [zI k2,zI 0,zI 0,zI 0,vk]∧(i:Int)≤kn k2∧Ti p funcs vars pl k2 d (l0-1) l xs i∧(n0≤m∧m≤n0+8+UD i (IJ (d-1)))∧gg<on.heap.size∧w.heap.size<on.heap.size∧f1.heap.size<on.heap.size∧on.heap.size≤W.heap.size) (fun⟨i,l,m,vk,xs⟩=>(kn k2).toNat-i) (0,l0-((1:Nat):Int),m1,zN,([]:List Ex)) ⟨rfl,rfl,rfl,rfl,rfl,rfl,rfl,trivial⟩ ⟨ec,(HO _ 0 _).up<|Ao<|AH 153 d,c2,ay,az,b0,oM,(by exact Ti.nil ..),(by exact⟨zO,by show _≤n0+8+0;omega⟩),oM,oM,oM,oM⟩ ?_
  clear b0 az ay c2
  rintro⟨i,l,m,vk,xs⟩ ρ114 f3 ⟨a7,a3,ac,a4,a5,a0,ny,hko,hmb,kl,km,ko,kp⟩
  have kq:w.heap.size≤f3.heap.size:=a7.size
  have ly:=a4.lt
  have lz:=a5.lt
  have m0:=a0.lt
  refine A0<|qS [0,0,2,0,0] Z<|Af 1 Z<|Aq (p:=zP f1.heap.size) 0 Bz Z Z Ac<|Al (p:=AA (zP f1.heap.size) 0) (.inr Z) (zI k2) AO Z (a0.ldp (i:=0) sM) Ac<|AD 198 [] [] [zI k2] Z Z dY Ac (zI<|kn k2) (fun wq=>qO wq _ oM) ?_
  by_cases ck:(i:Int)<kn k2
  ·refine Ay true Z Z (A7 ck) Ac<|Ai<|Ag Z<|A4<|A0<|A5<|qS [0,0] Z<|Ae 2 Z<|A0<|qS [0,2,0,0,0,0,0] Z<|Aq (p:=zP f1.heap.size) 0 Bz Z Z Ac<|Al (p:=AA (zP f1.heap.size) 0) (.inr Z) (zI k2) AO Z (a0.ldp (i:=0) sM) Ac ?_
   by_cases cl:k2=((9:Nat):Int)
   ·refine Av true Z Z (A7 cl) Ac<|Af 2 Z ?_
    by_cases cm:(i:Int)=((1:Nat):Int)
    ·refine Av true Z Z (A7 cm) (Ak (e:=99) Z Z Z)<|Ae 1 Z<|Ag Z<|Ad _ [0,0,0] Z<|Af 1 Z ?_
     refine AG (vars+((1:Nat):Int)) Z Z (Dh sD sD) Ac<|Ae 1 Z ?_
     letI:JR:=UU [gs,gg]
     refine Jx.AW _ [0,1,0,0,0,0,0,3,3,4,0,4] mixed (by kernel_rfl) ?_
     have htn:=OK (k:=IJ (d-1)) (i:=i+1) oM
     have hts:UD (i+1) (IJ (d-1))=UD i (IJ (d-1))+IJ (d-1):=rfl
     have hti:=QK (k:=Oa (d-1)) (i:=i) oM oM
     have hlo:=hko.lo
     have hln:=hko.len
     refine Jx.Aq (p:=zP f1.heap.size) 4 Bt Z Z Ac<|Jx.nQ (p:=AA (zP f1.heap.size) 4) vk BA Z (fun wj hj=>(BX.chg (w:=f3.drew) (F:=[gs,gg]) a0 hj fun hm=>zH<|Dr hm).ldp (i:=4) sM) Ac<|Jx.f8 (zP gg) Z Ac<|Jx.f8 (zI (vars+((1:Nat):Int))) Z Ac<|Jx.f8 (zI funcs) Z Ac<|Jx.f8 (zI (d:Int)) Z Ac<|Jx.j1<|Cb ((d-1:Nat):Int) Z Z (by rw[Dh oM oM];omega) Ac<|Ai ?_
     refine Jx.As 124 [] [] [zP gg,zI (vars+((1:Nat):Int)),zI funcs,zI ((d-1:Nat):Int)] Z Z OV Ac (IH1 (d-1) oM _ gg gs sv cs m pp dp l pl p (vars+((1:Nat):Int)) (funcs) oM ac a4 (hp.chg (Bf<|B2 dp) a7.drew) oM _hfuncs oM oM hpr oM oM oM) ?_
     rintro q2 o9 ⟨pe,fx,pf,pg,rfl,a8,ed,m2,ee,c3,ef,m3⟩
     refine⟨_,rfl,a8,?_⟩
     replace c3:=c3.low (B':=f3.heap.size)<|A9 _
     replace a8:=a8.of_drew
     have kr:f3.heap.size≤o9.heap.size:=a8.size
     have eg:Az [gs,gg] w o9:=a7.trans a8
     have eh:=a3.chg (Ao<|AH 153 d) a8 fun c hc=>zH<|Dr hc
     have ei:=a5.chg a8 fun hm=>zH<|Dr hm
     have ej:=a0.chg a8 fun hm=>zH<|Dr hm
     refine Jx.ZL Z (Gm (cs:=[zI fx.kind,zI fx.num,zI fx.pick,zI fx.count,pe]) (y:=fx) (B:=f3.heap.size) (AH 153 d) DE BE Z (by decide) Z (L6.mk1 oM ef c3) oM Ac fun ph oa ai m4 ek=>?_)
     have ks:o9.heap.size≤oa.heap.size:=ai.size
     have el:Az [gs,gg] w oa:=eg.ext ai
     have b8:=eh.ext (Ao<|AH 153 d) ai
     have b9:=ed.ext ai
     have ba:=ee.ext ai
     have bb:=ei.ext ai
     have bc:=ej.ext ai
     refine JW (v:=vk) (a:=ph) (AH 153 d) DE BE Z (by decide) Z Z b8 oM ek oM oM oM (by unfold maxLen;omega) Ac fun oq o5 q3 al av cn=>?_
     have kt:oa.heap.size≤o5.heap.size:=al.size
     have em:Az [gs,gg] w o5:=el.fresh al (fun c hc=>zH<|av _ hc)
     have en:=b9.chg al fun c hc=>zH<|av _ hc
     have eo:=ba.chg al fun hm=>zH<|av _ hm
     have ep:=bb.chg al fun hm=>zH<|av _ hm
     have eq:=bc.chg al fun hm=>zH<|av _ hm
     refine Aq (p:=zP f1.heap.size) 4 Bt Z Z Ac (BB (k:=4) (w:=o5) UO Z Z (Bo cn.isSlS) eq sM Ac fun ob am m5 c4=>?_)
     replace c4:BX ob.heap f1.heap.size [zI k2,zI 0,zI 0,zI 0,oq]:=c4
     have ku:o5.heap.size≤ob.heap.size:=am.size
     have er:Az [gs,gg] w ob:=em.fresh am (fun _ h=>zE h)
     have es:=en.chg am fun c hc=>zH<|Ab hc
     have et:=eo.chg am (zB ·)
     have eu:=ep.chg am (zB ·)
     have ev:=cn.chg (Ao<|AH 153 d) am fun _ h=>zA h
     exact Ai<|Ad _ [0,0,0] Z<|Af 1 Z<|AG ((i+1:Nat):Int) Z Z (Bd oM oM) Ac<|Ae 1 Z ⟨(i+1,pg,pf,oq,xs++[fx]),_,rfl,zR,⟨er,ev.up<|Ao<|AH 153 d,es,et,eu,c4,oM,So,oM,oM,oM,oM,oM⟩,zD⟩
    refine Av false Z Z (A8 cm) (Ak (e:=99) Z Z Z)<|Ae 1 Z<|Aj Z<|A4 ?_
    letI:JR:=UU [gs,gg]
    refine Jx.AW _ [0,1,0,0,0,0,0,3,3,4,0,4] mixed (by kernel_rfl) ?_
    have htn:=OK (k:=IJ (d-1)) (i:=i+1) oM
    have hts:UD (i+1) (IJ (d-1))=UD i (IJ (d-1))+IJ (d-1):=rfl
    have hti:=QK (k:=Oa (d-1)) (i:=i) oM oM
    have hlo:=hko.lo
    have hln:=hko.len
    refine Jx.Aq (p:=zP f1.heap.size) 4 Bt Z Z Ac<|Jx.nQ (p:=AA (zP f1.heap.size) 4) vk BA Z (fun wj hj=>(BX.chg (w:=f3.drew) (F:=[gs,gg]) a0 hj fun hm=>zH<|Dr hm).ldp (i:=4) sM) Ac<|Jx.f8 (zP gg) Z Ac<|Jx.f8 (zI vars) Z Ac<|Jx.f8 (zI funcs) Z Ac<|Jx.f8 (zI (d:Int)) Z Ac<|Jx.j1<|Cb ((d-1:Nat):Int) Z Z (by rw[Dh oM oM];omega) Ac<|Ai ?_
    refine Jx.As 124 [] [] [zP gg,zI vars,zI funcs,zI ((d-1:Nat):Int)] Z Z OV Ac (IH1 (d-1) oM _ gg gs sv cs m pp dp l pl p (vars) (funcs) oM ac a4 (hp.chg (Bf<|B2 dp) a7.drew) _hvars _hfuncs oM oM hpr oM oM oM) ?_
    rintro q4 oc ⟨pi,nz,pj,pk,rfl,a9,ew,m6,ey,c5,ez,m7⟩
    refine⟨_,rfl,a9,?_⟩
    replace c5:=c5.low (B':=f3.heap.size)<|A9 _
    replace a9:=a9.of_drew
    have kv:f3.heap.size≤oc.heap.size:=a9.size
    have g0:Az [gs,gg] w oc:=a7.trans a9
    have g1:=a3.chg (Ao<|AH 153 d) a9 fun c hc=>zH<|Dr hc
    have g2:=a5.chg a9 fun hm=>zH<|Dr hm
    have g3:=a0.chg a9 fun hm=>zH<|Dr hm
    refine Jx.ZL Z (Gm (cs:=[zI nz.kind,zI nz.num,zI nz.pick,zI nz.count,pi]) (y:=nz) (B:=f3.heap.size) (AH 153 d) DE BE Z (by decide) Z (L6.mk1 oM ez c5) oM Ac fun pn od aj m8 g4=>?_)
    have kw:oc.heap.size≤od.heap.size:=aj.size
    have g5:Az [gs,gg] w od:=g0.ext aj
    have bd:=g1.ext (Ao<|AH 153 d) aj
    have be:=ew.ext aj
    have bf:=ey.ext aj
    have bg:=g2.ext aj
    have bh:=g3.ext aj
    refine JW (v:=vk) (a:=pn) (AH 153 d) DE BE Z (by decide) Z Z bd oM g4 oM oM oM (by unfold maxLen;omega) Ac fun os o6 q5 an aw co=>?_
    have kx:od.heap.size≤o6.heap.size:=an.size
    have g6:Az [gs,gg] w o6:=g5.fresh an (fun c hc=>zH<|aw _ hc)
    have g7:=be.chg an fun c hc=>zH<|aw _ hc
    have g8:=bf.chg an fun hm=>zH<|aw _ hm
    have g9:=bg.chg an fun hm=>zH<|aw _ hm
    have ga:=bh.chg an fun hm=>zH<|aw _ hm
    refine Aq (p:=zP f1.heap.size) 4 Bt Z Z Ac (BB (k:=4) (w:=o6) UO Z Z (Bo co.isSlS) ga sM Ac fun oe ao m9 c6=>?_)
    replace c6:BX oe.heap f1.heap.size [zI k2,zI 0,zI 0,zI 0,os]:=c6
    have ky:o6.heap.size≤oe.heap.size:=ao.size
    have gb:Az [gs,gg] w oe:=g6.fresh ao (fun _ h=>zE h)
    have gc:=g7.chg ao fun c hc=>zH<|Ab hc
    have gd:=g8.chg ao (zB ·)
    have ge:=g9.chg ao (zB ·)
    have gf:=co.chg (Ao<|AH 153 d) ao fun _ h=>zA h
    exact Ai<|Ad _ [0,0,0] Z<|Af 1 Z<|AG ((i+1:Nat):Int) Z Z (Bd oM oM) Ac<|Ae 1 Z ⟨(i+1,pk,pj,os,xs++[nz]),_,rfl,zR,⟨gb,gf.up<|Ao<|AH 153 d,gc,gd,ge,c6,oM,So,oM,oM,oM,oM,oM⟩,zD⟩
   refine Av false Z Z (A8 cl) Ac<|Ae 4 Z<|Aj Z<|A4 ?_
   letI:JR:=UU [gs,gg]
   refine Jx.AW _ [0,1,0,0,0,0,0,3,3,4,0,4] mixed (by kernel_rfl) ?_
   have htn:=OK (k:=IJ (d-1)) (i:=i+1) oM
   have hts:UD (i+1) (IJ (d-1))=UD i (IJ (d-1))+IJ (d-1):=rfl
   have hti:=QK (k:=Oa (d-1)) (i:=i) oM oM
   have hlo:=hko.lo
   have hln:=hko.len
   refine Jx.Aq (p:=zP f1.heap.size) 4 Bt Z Z Ac<|Jx.nQ (p:=AA (zP f1.heap.size) 4) vk BA Z (fun wj hj=>(BX.chg (w:=f3.drew) (F:=[gs,gg]) a0 hj fun hm=>zH<|Dr hm).ldp (i:=4) sM) Ac<|Jx.f8 (zP gg) Z Ac<|Jx.f8 (zI vars) Z Ac<|Jx.f8 (zI funcs) Z Ac<|Jx.f8 (zI (d:Int)) Z Ac<|Jx.j1<|Cb ((d-1:Nat):Int) Z Z (by rw[Dh oM oM];omega) Ac<|Ai ?_
   refine Jx.As 124 [] [] [zP gg,zI vars,zI funcs,zI ((d-1:Nat):Int)] Z Z OV Ac (IH1 (d-1) oM _ gg gs sv cs m pp dp l pl p (vars) (funcs) oM ac a4 (hp.chg (Bf<|B2 dp) a7.drew) _hvars _hfuncs oM oM hpr oM oM oM) ?_
   rintro q6 og ⟨po,o0,pq,pr,rfl,aa,gh,ma,gi,c7,gj,mb⟩
   refine⟨_,rfl,aa,?_⟩
   replace c7:=c7.low (B':=f3.heap.size)<|A9 _
   replace aa:=aa.of_drew
   have kz:f3.heap.size≤og.heap.size:=aa.size
   have gk:Az [gs,gg] w og:=a7.trans aa
   have gl:=a3.chg (Ao<|AH 153 d) aa fun c hc=>zH<|Dr hc
   have gm:=a5.chg aa fun hm=>zH<|Dr hm
   have gn:=a0.chg aa fun hm=>zH<|Dr hm
   refine Jx.ZL Z (Gm (cs:=[zI o0.kind,zI o0.num,zI o0.pick,zI o0.count,po]) (y:=o0) (B:=f3.heap.size) (AH 153 d) DE BE Z (by decide) Z (L6.mk1 oM gj c7) oM Ac fun pt oh ak mc go=>?_)
   have l2:og.heap.size≤oh.heap.size:=ak.size
   have gp:Az [gs,gg] w oh:=gk.ext ak
   have bi:=gl.ext (Ao<|AH 153 d) ak
   have bj:=gh.ext ak
   have bk:=gi.ext ak
   have bl:=gm.ext ak
   have bm:=gn.ext ak
   refine JW (v:=vk) (a:=pt) (AH 153 d) DE BE Z (by decide) Z Z bi oM go oM oM oM (by unfold maxLen;omega) Ac fun ot o7 q7 ap ax cp=>?_
   have l3:oh.heap.size≤o7.heap.size:=ap.size
   have gq:Az [gs,gg] w o7:=gp.fresh ap (fun c hc=>zH<|ax _ hc)
   have gr:=bj.chg ap fun c hc=>zH<|ax _ hc
   have gt:=bk.chg ap fun hm=>zH<|ax _ hm
   have gu:=bl.chg ap fun hm=>zH<|ax _ hm
   have gv:=bm.chg ap fun hm=>zH<|ax _ hm
   refine Aq (p:=zP f1.heap.size) 4 Bt Z Z Ac (BB (k:=4) (w:=o7) UO Z Z (Bo cp.isSlS) gv sM Ac fun oi aq md c8=>?_)
   replace c8:BX oi.heap f1.heap.size [zI k2,zI 0,zI 0,zI 0,ot]:=c8
   have l4:o7.heap.size≤oi.heap.size:=aq.size
   have gw:Az [gs,gg] w oi:=gq.fresh aq (fun _ h=>zE h)
   have gx:=gr.chg aq fun c hc=>zH<|Ab hc
   have gy:=gt.chg aq (zB ·)
   have gz:=gu.chg aq (zB ·)
   have i0:=cp.chg (Ao<|AH 153 d) aq fun _ h=>zA h
   exact Ai<|Ad _ [0,0,0] Z<|Af 1 Z<|AG ((i+1:Nat):Int) Z Z (Bd oM oM) Ac<|Ae 1 Z ⟨(i+1,pr,pq,ot,xs++[o0]),_,rfl,zR,⟨gw,i0.up<|Ao<|AH 153 d,gx,gy,gz,c8,oM,So,oM,oM,oM,oM,oM⟩,zD⟩
  refine Ay false Z Z (A8 ck) Ac<|Ai<|Aj Z<|A6<|Au<|Au<|An<|qS [2,4] Z<|AZ (p:=zP f1.heap.size) (.inr Z) [zI k2,zI 0,zI 0,zI 0,vk] Bi Z (fun qe ns=>LD.of_box<|BX.ext (w:=f3) a0 ns) Z Ac (BR (vs:=[zI k2,zI 0,zI 0,zI 0,vk]) Bi Z Z (by intro u hu;simp only[ze,z2,or_false]at hu;rcases hu with rfl|rfl|rfl|rfl|rfl <;> first|exact⟨rfl,rfl⟩|exact Bo a3.isSlS) a5 Z Z Ac fun oj ar me c9=>?_)
  replace c9:BX oj.heap w.heap.size [zI k2,zI 0,zI 0,zI 0,vk]:=c9
  have l5:f3.heap.size≤oj.heap.size:=ar.size
  have i1:Az [gs,gg] w oj:=a7.fresh ar (fun _ h=>zE h)
  have i2:=a3.chg (Ao<|AH 153 d) ar fun _ h=>zA h
  have i3:=ac.chg ar fun c hc=>zH<|Ab hc
  have i4:=a4.chg ar (zB ·)
  have mf:=a0.chg ar (zB ·)
  refine Ai<|A3 ?_
  have hln:=hko.len
  have htn:=OK (k:=IJ (d-1)) (i:=i) oM
  exact CA (cs:=[zI k2,zI 0,zI 0,zI 0,vk]) Z Bi Z c9 Z ⟨vk,.mk k2 0 0 0 xs,m,l,rfl,i1,i3,⟨zO,zO⟩,i4,(i2.up<|Ao<|AH 153 d).low (B':=w.heap.size) oM,EG oM oM oM oM,(by exact hko.node oM oM oM nr (fM oM oM))⟩
 refine Ag (by first|rfl|exact zW dh)<|qS [0,0,4,4] Z<|Af 2 Z<|AE 196 [] [] [zP gg,zI vars] Z Z U3 Ac (Dm _ gg gs sv cs px pp dp (l0-((1:Nat):Int)) pl p (vars) oM df ce (hp.chg (Bf<|B2 dp) cd) _hvars oM oM) ?_
 rintro q8 ol ⟨f4,pu,rfl,ca,i5,mg,i6,i7,d9,mh⟩
 refine⟨_,rfl,?_⟩
 have l6:f1.heap.size≤ol.heap.size:=ca.size
 have i8:Az [gs,gg] w ol:=cd.trans ca
 have i9:=cf.chg ca fun hm=>zH<|Dr hm
 refine BR (vs:=[zI f4.kind,zI f4.num,zI f4.pick,zI f4.count,zN]) Bi Z Z I3 i9 Z Z Ac fun om b3 mi cb=>?_
 replace cb:BX om.heap w.heap.size [zI f4.kind,zI f4.num,zI f4.pick,zI f4.count,zN]:=cb
 have l7:ol.heap.size≤om.heap.size:=b3.size
 have ia:Az [gs,gg] w om:=i8.fresh b3 (fun _ h=>zE h)
 have ib:=i5.chg b3 fun c hc=>zH<|Ab hc
 have ic:=i6.chg b3 (zB ·)
 exact Ai<|A3<|Ap<|CA (cs:=[zI f4.kind,zI f4.num,zI f4.pick,zI f4.count,zN]) Z Bi Z cb Z ⟨zN,f4,pu,l0-((1:Nat):Int),rfl,ia,ib,⟨zO,zO⟩,ic,(by rw[d9];exact HO _ _ _),i7,(by exact RE.ok (by assumption) d)⟩
theorem iT:∀d,GX d∧(1≤d→GC d):=by
  intro d
  induction d using Nat.strongRecOn with
  |_ d ih =>
    have hc:1≤d→GC d:=fun h1 w gg gs sv cs n0 pp dp l0 pl p vars funcs hgg hs hB0 hp hv' hf' hv hfu hpr hd hn hl=>K7 w gg gs sv cs n0 pp dp l0 pl p vars funcs d hgg hs hB0 hp hv' hf' hv hfu hpr hd hn hl (ih (d-1) zO).1
    exact⟨fun w gg gs sv cs n0 pp dp l0 pl p vars funcs hgg hs hB0 hp hv' hf' hv hfu hpr hd hn hl=>K8 w gg gs sv cs n0 pp dp l0 pl p vars funcs d hgg hs hB0 hp hv' hf' hv hfu hpr hd hn hl (fun d' h=>(ih d' h).1) hc,hc⟩
theorem YZ (d:Nat):GX d:=(iT d).1
theorem K9 (w:World)(g:Nat)(sv:Value)(cs:List UInt8)(n0:Nat)(vl:Value)(us:List Value)(hs:FC w.heap g sv cs n0)(a7:n0+2≤1000000000000)(hl:∀w',Az [g] w w'→Rd (B3 rV) w'.heap vl us)(hus:∀u∈us,∃s,u=Value.string s)(hul:1≤us.length∧us.length≤1000)  :
  Calls Tryz.prog 123 #[zP g,vl] w (fun e w'=>∃(x0:ByteArray) (n1:Nat),e=.returned (.string x0)∧Az [g] w w'∧FC w'.heap g sv cs n1∧(n0≤n1∧n1≤n0+2)∧(Value.string x0∈us)):=by
 refine At [zP g,vl] 12 Tryz.func123 Z Z sM ?_
 have a1:Az [g] w w:=Az.refl [g] w
 have aa:=(hl _ a1).lenle
 have ab:=hs.lt
 refine qT Z<|qS [0,0,0,0,4,0,2,0] Z<|Af 3 Z<|AN (v:=vl) iL Z (hl _ a1).isSl Ac<|AE 68 [] [] [zP g,zI (us.length:Int)] Z Z Ip Ac (B6 _ g _ _ _ (us.length:Int) hs oM oM oM) ?_
 rintro e1 w1 ⟨a9,n1,rfl,a3,a5,a8,a4⟩
 refine⟨_,rfl,?_⟩
 have a6:w.heap.size≤w1.heap.size:=a3.size
 have a2:Az [g] w w1:=a1.trans a3
 refine Aw (v:=vl) ((a9).toNat) iL qZ Z Z (hl _ a2).isSl oM sD Ac ?_
 obtain⟨sx2,a0⟩:=hus (us.getD ((a9).toNat) undef) (X3 sD)
 refine Al (p:=Ax vl ((a9).toNat) 1) (.inr Z) (.string sx2) Sc Z (by rw[← a0];exact(Rd.getV (hl _ a2) sD).1) Ac ?_
 have hsm:Value.string sx2∈us:=a0 ▸ X3 sD
 exact Ae 1 Z<|A3<|Ah [4] Z (.string sx2) Z ⟨sx2,n1,rfl,a2,a5,⟨zO,zO⟩,hsm⟩
theorem NK (w:World)(n:Int)(_hn:BI n)(hk:0≤n∧n<10) :
  Calls Tryz.prog 150 #[zI n] w (fun e w'=>∃s,e=.returned (.string s)∧AB w w'∧s=KF n.toNat):=by
 refine At [zI n] 20 Tryz.func150 Z Z sM ?_
 have a2:AB w w:=AB.refl w
 refine qT Z<|A0<|qS [0,0] Z<|Af 1 Z ?_
 by_cases a0:n<((10:Nat):Int)
 ·refine Ay true Z Z (A7 a0) Ac<|Ai<|Ag Z<|qS [0,0,0,3,2,0] Z<|Af 1 Z ?_
  refine AG (((48:Nat):Int)+n) Z Z (Dh sD sD) Ac<|JN (IntKind.u8.wrap (((48:Nat):Int)+n)) u2 u5 Z Z Ac ?_
  refine Bs (u:=.int .u8<|IntKind.u8.wrap (((48:Nat):Int)+n)) (B:=w.heap.size) Bc U8 qN Z Z (LR (w.heap.size) (w.heap.size) _ ⟨rfl,rfl⟩) (A9 _) Ac fun v2 w2 a1 a6 a3=>?_
  have a4:=a1.size
  have a5:=a2.trans a1
  exact ZO U8 u5 u9 Z a3 Ac<|Ae 1 Z<|A3<|Ap<|Ah [2] Z (.string (⟨#[UInt8.ofNat (IntKind.u8.wrap (((48:Nat):Int)+n)).toNat]⟩:ByteArray)) Z ⟨(⟨#[UInt8.ofNat (IntKind.u8.wrap (((48:Nat):Int)+n)).toNat]⟩:ByteArray),rfl,a5,(by exact fP hk.1 hk.2)⟩
 exact absurd hk.2 a0
theorem NL (w:World)(g:Nat)(sv:Value)(cs:List UInt8)(n0:Nat)(funcs:Int)(nodes:Int)(plain:Bool)(hs:FC w.heap g sv cs n0)(j0:n0+(150000*funcs.toNat)≤1000000000000)(_hfuncs:BI funcs)(_hnodes:BI nodes)(hfn:0≤funcs∧funcs≤9)(hnd:1≤nodes∧nodes≤30) :
  Calls Tryz.prog 67 #[zP g,zI funcs,zI nodes,.bool plain] w (fun e w'=>∃(v:Value) (p:List Fn) (n1:Nat),e=.returned (.agg #[v])∧Az [g] w w'∧FC w'.heap g sv cs n1∧(n0≤n1∧n1≤n0+(150000*funcs.toNat))∧Fr (D7 3 (LZ 153 6) 49) w.heap.size w'.heap.size w'.heap v p∧Qf p plain∧Dn p∧(p.length:Int)=funcs):=by
 refine At [zP g,zI funcs,zI nodes,.bool plain] 65 Tryz.func67 Z Z sM ?_
 have ga:Az [g] w w:=Az.refl [g] w
 have jy:=hs.lt
 have j1:=oI
 have j2:=oJ
 refine qS [3] Z (Br (z:=.agg #[zN]) YG Ac fun w1 dr i1 ds=>?_)
 have dt:w.heap.size≤w1.heap.size:=dr.size
 have gb:Az [g] w w1:=ga.ext dr
 have du:=hs.ext dr
 replace ds:BX w1.heap w.heap.size [zN]:=ds
 refine Ai<|qS [0,3,4] Z ?_
 have dv:∀(wq:World),(Instr.build 26 #[]).run Tryz.prog wq=.ok (.agg #[zN]) wq:=by intro wq;kernel_rfl
 refine Ce (ps:=#[]) (.agg #[zN]) (by simp only[zc,zf,zh]) (fun wq=>dv  wq) Ac ?_
 have j3:=ds.lt
 refine Br (z:=.agg #[zN]) YG Ac fun w3 cb i2 dw=>?_
 have dx:w1.heap.size≤w3.heap.size:=cb.size
 have gc:Az [g] w w3:=gb.ext cb
 have dy:=du.ext cb
 have cc:=ds.ext cb
 replace dw:BX w3.heap w1.heap.size [zN]:=dw
 refine BR (vs:=[zN]) CL Z Z (by intro u hu;simp only[ze,z2,or_false]at hu;rcases hu with rfl <;> first|exact⟨rfl,rfl⟩) dw Z Z Ac fun w5 cd i3 dz=>?_
 replace dz:BX w5.heap w1.heap.size [zN]:=dz
 have i4:w3.heap.size≤w5.heap.size:=cd.size
 have i5:Az [g] w w5:=gc.fresh cd (fun _ h=>zE h)
 have gd:=dy.chg cd fun c hc=>zH<|Ab hc
 have ge:=cc.chg cd (zB ·)
 refine Ai<|A0<|qT Z<|A5 ?_
 refine AQ (S:=Nat×Value×List Fn×Nat) (fun⟨k,vp,ps,m⟩=>([(10,zI (k:Int)),(0,zP g),(1,zI funcs),(2,zI nodes),(3,.bool plain),(8,zP w.heap.size),(9,zP w1.heap.size)])) (fun⟨k,vp,ps,m⟩ W=>Az [g] w W∧Fr (D7 3 (LZ 153 6) 49) w5.heap.size W.heap.size W.heap vp ps∧FC W.heap g sv cs m∧BX W.heap w.heap.size [zN]∧BX W.heap w1.heap.size [vp]∧(k:Int)≤funcs∧Qf ps plain∧Dn ps∧ps.length=k∧(n0≤m∧m≤n0+150000*k)∧(g<w5.heap.size∧w.heap.size≤w5.heap.size)∧w.heap.size<w5.heap.size∧w1.heap.size<w5.heap.size∧w5.heap.size≤W.heap.size) (fun⟨k,vp,ps,m⟩=>funcs.toNat-k) (0,zN,([]:List Fn),n0) ⟨rfl,rfl,rfl,rfl,rfl,rfl,rfl,trivial⟩ ⟨i5,(HO _ 0 _).up<|Ao<|AJ 153 6,gd,ge,dz,oM,(by exact Qf.nil _),Dn.nil,(by rfl),oM,oM,oM,oM,oM⟩ ?_
 clear ga i1 dr dt gb i2 cb dx gc i3 cd gd ge
 rintro⟨k,vp,ps,m⟩ ρ10 fe ⟨bx,ab,an,ac,a1,hkf,ja,hdn,hpk,hmk,hgb,i6,i7,gf⟩
 have gg:w.heap.size≤fe.heap.size:=bx.size
 have i8:=ac.lt
 have i9:=a1.lt
 refine A0<|qS [0,0,0] Z<|Af 2 Z ?_
 by_cases ce:(k:Int)<funcs
 ·refine Ay true Z Z (A7 ce) Ac<|Ai<|Ag Z<|A4<|A0<|A5<|qS [0,3,4,0,3,0,0,4,0,0,3,4] Z<|Af 1 Z (fQ (ys:=[.string<|⟨#[102]⟩,.string<|⟨#[103]⟩,.string<|⟨#[115,116,101,112]⟩,.string<|⟨#[104,50]⟩]) Bc iL qZ Z Z Z Z Z Z (jO ⟨rfl,rfl⟩ ⟨rfl,rfl⟩ ⟨rfl,rfl⟩ ⟨rfl,rfl⟩) Ac fun jo jg ao e0 bz=>?_)
  have cf:fe.heap.size≤jg.heap.size:=ao.size
  have cg:Az [g] w jg:=bx.ext ao
  have a5:=ab.ext (Ao<|AJ 153 6) ao
  have a6:=an.ext ao
  have a7:=ac.ext ao
  have a8:=a1.ext ao
  refine AE 123 [] [] [zP g,jo] Z Z lA Ac (K9 _ g _ _ _ jo _ a6 oM (fun w9 h9=>(bz.chg oV h9 fun c hc=>zH<|Ab hc).rdV1) (by intro u hu;simp only[ze,z2,or_false]at hu;rcases hu with rfl|rfl|rfl|rfl <;> exact⟨_,rfl⟩) sM) ?_
  rintro jz jh ⟨f2,k0,rfl,ap,e1,ia,c0⟩
  refine⟨_,rfl,?_⟩
  have ch:jg.heap.size≤jh.heap.size:=ap.size
  have ci:Az [g] w jh:=cg.trans ap
  have cj:=a5.chg (Ao<|AJ 153 6) ap fun _ h=>zA h
  have ck:=a7.chg ap (zB ·)
  have cl:=a8.chg ap (zB ·)
  have cm:=bz.chg (oV) ap fun _ h=>zA h
  have hfo:=X7 c0
  refine Af 1 Z<|As 150 [] [] [zI (k:Int)] Z Z lD Ac (NK _ (k:Int) oM oM) ?_
  rintro k1 ji ⟨st21,rfl,ad,rfl⟩
  refine⟨_,rfl,ad,?_⟩
  have cn:jh.heap.size≤ji.heap.size:=ad.size
  have co:Az [g] w ji:=ci.ext ad
  have az:=cj.ext (Ao<|AJ 153 6) ad
  have bo:=e1.ext ad
  have b0:=ck.ext ad
  have b1:=cl.ext ad
  have b2:=cm.ext (oV) ad
  refine fh (a:=f2) (b:=KF k) Z Z (by have:=UE _ hfo;have:=X5 k;omega) Ac<|Af 1 Z<|AE 68 [] [] [zP g,zI ((3:Nat):Int)] Z Z Ip Ac (B6 _ g _ _ _ ((3:Nat):Int) bo oM oM sD) ?_
  rintro k2 f3 ⟨f1,k3,rfl,aq,e2,ib,e3⟩
  refine⟨_,rfl,?_⟩
  have cp:ji.heap.size≤f3.heap.size:=aq.size
  have cq:Az [g] w f3:=co.trans aq
  have cr:=az.chg (Ao<|AJ 153 6) aq fun _ h=>zA h
  have c1:=b0.chg aq (zB ·)
  have c2:=b1.chg aq (zB ·)
  have ct:=b2.chg (oV) aq fun _ h=>zA h
  refine AG (((1:Nat):Int)+f1) Z Z (Dh sD sD) Ac ?_
  have cu:∀(wq:World),(Instr.build 49 #[(0,.string (f2++KF k)),(1,zI (((1:Nat):Int)+f1))]).run Tryz.prog wq=.ok (.agg #[.string (f2++KF k),zI (((1:Nat):Int)+f1),zN]) wq:=by intro wq;kernel_rfl
  refine Ce (ps:=#[(0,.string (f2++KF k)),(1,zI (((1:Nat):Int)+f1))]) (.agg #[.string (f2++KF k),zI (((1:Nat):Int)+f1),zN]) (by simp only[zc,zf,zh];rfl) (fun wq=>cu  wq) Ac ?_
  have ic:=c1.lt
  have id:=c2.lt
  refine Br (z:=.agg #[.string ByteArray.empty,zI 0,zN]) bJ Ac fun jb ag e4 c3=>?_
  have cv:f3.heap.size≤jb.heap.size:=ag.size
  have cw:Az [g] w jb:=cq.ext ag
  have b3:=cr.ext (Ao<|AJ 153 6) ag
  have bp:=e2.ext ag
  have b4:=c1.ext ag
  have b5:=c2.ext ag
  have b6:=ct.ext (oV) ag
  replace c3:BX jb.heap f3.heap.size [.string ByteArray.empty,zI 0,zN]:=c3
  refine BR (vs:=[.string (f2++KF k),zI (((1:Nat):Int)+f1),zN]) KT Z Z (by intro u hu;simp only[ze,z2,or_false]at hu;rcases hu with rfl|rfl|rfl <;> first|exact⟨rfl,rfl⟩) c3 Z Z Ac fun jc ah e5 c4=>?_
  replace c4:BX jc.heap f3.heap.size [.string (f2++KF k),zI (((1:Nat):Int)+f1),zN]:=c4
  have cx:jb.heap.size≤jc.heap.size:=ah.size
  have cy:Az [g] w jc:=cw.fresh ah (fun _ h=>zE h)
  have cz:=b3.chg (Ao<|AJ 153 6) ah fun _ h=>zA h
  have d0:=bp.chg ah fun c hc=>zH<|Ab hc
  have d1:=b4.chg ah (zB ·)
  have d2:=b5.chg ah (zB ·)
  have d3:=b6.chg (oV) ah fun _ h=>zA h
  refine Ai<|qS [0,4,0,0] Z<|Af 1 Z<|AE 68 [] [] [zP g,zI ((3:Nat):Int)] Z Z Ip Ac (B6 _ g _ _ _ ((3:Nat):Int) d0 oM oM sD) ?_
  rintro k4 jd ⟨fr,k5,rfl,ai,e6,ie,e7⟩
  refine⟨_,rfl,?_⟩
  have d4:jc.heap.size≤jd.heap.size:=ai.size
  have d5:Az [g] w jd:=cy.trans ai
  have d6:=cz.chg (Ao<|AJ 153 6) ai fun _ h=>zA h
  have d7:=d1.chg ai (zB ·)
  have d8:=d2.chg ai (zB ·)
  have d9:=d3.chg (oV) ai fun _ h=>zA h
  have da:=c4.chg ai (zB ·)
  refine AG (((1:Nat):Int)+fr) Z Z (Dh sD sD) Ac<|Ae 1 Z ?_
  refine A0<|Ib (S:=Int×Nat) (fun⟨o,m1⟩=>([(12,zI o),(0,zP g),(1,zI funcs),(2,zI nodes),(3,.bool plain),(8,zP w.heap.size),(9,zP w1.heap.size),(10,zI (k:Int)),(11,zP f3.heap.size)])) (fun⟨o,m1⟩ W=>Az [g] w W∧Fr (D7 3 (LZ 153 6) 49) w5.heap.size fe.heap.size W.heap vp ps∧FC W.heap g sv cs m1∧BX W.heap w.heap.size [zN]∧BX W.heap w1.heap.size [vp]∧BX W.heap f3.heap.size [.string (f2++KF k),zI (((1:Nat):Int)+f1),zN]∧(1≤o∧o≤3)∧(n0≤m1∧m1≤n0+150000*k+8)∧fe.heap.size≤jd.heap.size∧(g<w5.heap.size∧w.heap.size≤w5.heap.size)∧fe.heap.size≤f3.heap.size∧w5.heap.size≤W.heap.size) ?_ ?_
  ·refine qS [0,4] Z<|Af 1 Z<|AE 122 [] [] [zP g,zI ((2:Nat):Int)] Z Z Ra Ac (CY _ g _ _ _ ((2:Nat):Int) e6 oM oM sD) ?_
   rintro k6 jp ⟨j9,jq,rfl,ar,db,ig,e8⟩
   refine⟨_,rfl,?_⟩
   have gh:jd.heap.size≤jp.heap.size:=ar.size
   have dc:Az [g] w jp:=d5.trans ar
   have dd:=d6.chg (Ao<|AJ 153 6) ar fun _ h=>zA h
   have de:=d7.chg ar (zB ·)
   have df:=d8.chg ar (zB ·)
   have ih:=d9.chg (oV) ar fun _ h=>zA h
   have c5:=da.chg ar (zB ·)
   refine Ai ?_
   cases dg:j9
   ·exact Aj (by first|rfl|exact zW dg)<|A4 ⟨(((1:Nat):Int)+fr,jq),_,rfl,zR,⟨dc,dd,db,de,df,c5,oM,oM,oM,oM,oM,oM⟩⟩
   exact Ag (by first|rfl|exact zW dg)<|Ad _ [0,2,0] Z<|Aq (p:=zP f3.heap.size) 1 CG Z Z Ac<|Al (p:=AA (zP f3.heap.size) 1) (.inr Z) (zI (((1:Nat):Int)+f1)) AO Z (c5.ldp (i:=1) sM) Ac<|Ae 1 Z ⟨(((1:Nat):Int)+f1,jq),_,rfl,zR,⟨dc,dd,db,de,df,c5,oM,oM,oM,oM,oM,oM⟩⟩
  clear a1 ac an ab bz e0 ao cf cg a5 a6 a7 a8 ap ch ci cj ck cl cm ad cn co az b0 b1 b2 aq cp cq cr c1 c2 ct e4 ag cv cw b3 b4 b5 b6 e5 ah cx cy cz d0 d1 d2 d3 ai d4 d5 d6 d7 d8 d9 da
  rintro⟨o,m1⟩ ρ43 fs ⟨dh,bh,bi,au,av,aw,j4,j5,huw,hgb,huf,gi⟩
  have gj:w.heap.size≤fs.heap.size:=dh.size
  have ii:=au.lt
  have ij:=av.lt
  have ik:=aw.lt
  refine A0<|qT Z<|A5 ?_
  refine AQ (S:=Nat×Value×List Ex×Nat) (fun⟨i,vo,xs,m2⟩=>([(13,zI (i:Int)),(0,zP g),(1,zI funcs),(2,zI nodes),(3,.bool plain),(8,zP w.heap.size),(9,zP w1.heap.size),(10,zI (k:Int)),(11,zP f3.heap.size),(12,zI o)])) (fun⟨i,vo,xs,m2⟩ W=>Az [g] w W∧Fr (D7 5 (FD 153 6) 153) fs.heap.size W.heap.size W.heap vo xs∧Fr (D7 3 (LZ 153 6) 49) w5.heap.size fe.heap.size W.heap vp ps∧FC W.heap g sv cs m2∧BX W.heap w.heap.size [zN]∧BX W.heap w1.heap.size [vp]∧BX W.heap f3.heap.size [.string (f2++KF k),zI (((1:Nat):Int)+f1),vo]∧(i:Int)≤o∧X6 ps (((1:Nat):Int)+f1) plain xs i∧(n0≤m2∧m2≤n0+150000*k+8+47770*i)∧fe.heap.size≤fs.heap.size∧(g<w5.heap.size∧w.heap.size≤w5.heap.size)∧fe.heap.size≤f3.heap.size∧w.heap.size<fs.heap.size∧w1.heap.size<fs.heap.size∧f3.heap.size<fs.heap.size∧fs.heap.size≤W.heap.size∧w5.heap.size≤W.heap.size) (fun⟨i,vo,xs,m2⟩=>o.toNat-i) (0,zN,([]:List Ex),m1) ⟨rfl,rfl,rfl,rfl,rfl,rfl,rfl,rfl,rfl,rfl,trivial⟩ ⟨dh,(HO _ 0 _).up<|Ao<|AH 153 6,bh,bi,au,av,aw,oM,(by exact X6.nil _ _ _),oM,oM,oM,oM,oM,oM,oM,oM,oM⟩ ?_
  clear aw av au bi bh
  rintro⟨i,vo,xs,m2⟩ ρ58 f4 ⟨c6,bj,bk,bl,ae,a2,a3,hio,hff,j6,huw,hgb,huf,gk,gl,gm,gn,go⟩
  have gp:w.heap.size≤f4.heap.size:=c6.size
  have il:=ae.lt
  have im:=a2.lt
  have io:=a3.lt
  refine A0<|qS [0,0,0] Z<|Af 2 Z ?_
  by_cases di:(i:Int)<o
  ·refine Ay true Z Z (A7 di) Ac<|Ai<|Ag Z<|A4<|A0<|A5<|qS [0,0,0,0,3,0] Z<|Af 3 Z ?_
   have dj:∀(wq:World),(Instr.build 151 #[(0,zP g),(1,zP w1.heap.size),(2,zI nodes),(3,.bool plain)]).run Tryz.prog wq=.ok (.agg #[zP g,zP w1.heap.size,zI nodes,.bool plain]) wq:=by intro wq;kernel_rfl
   refine Ce (ps:=#[(0,zP g),(1,zP w1.heap.size),(2,zI nodes),(3,.bool plain)]) (.agg #[zP g,zP w1.heap.size,zI nodes,.bool plain]) (by simp only[zc,zf,zh];rfl) (fun wq=>dj  wq) Ac ?_
   have ip:=ae.lt
   have iq:=a2.lt
   have ir:=a3.lt
   refine C8 (cs:=#[zP g,zP w1.heap.size,zI nodes,.bool plain]) Z Ac fun fx aj is c7=>?_
   have gq:f4.heap.size≤fx.heap.size:=aj.size
   have e9:Az [g] w fx:=c6.ext aj
   have b7:=bj.ext (Ao<|AH 153 6) aj
   have a9:=bk.ext (Ao<|AJ 153 6) aj
   have b8:=bl.ext aj
   have b9:=ae.ext aj
   have aa:=a2.ext aj
   have a0:=a3.ext aj
   replace c7:BX fx.heap f4.heap.size [zP g,zP w1.heap.size,zI nodes,.bool plain]:=c7
   refine Ae 1 Z ?_
   letI:JR:=UU [g,f4.heap.size]
   refine Jx.AW _ [0,1,0,0,1,0,3,3,4,0,4] mixed (by kernel_rfl)<|Jx.Aq (p:=zP f3.heap.size) 2 Cn Z Z Ac<|Jx.nQ (p:=AA (zP f3.heap.size) 2) vo BA Z (fun wj hj=>(BX.chg (w:=fx.drew) (F:=[g,f4.heap.size]) a0 hj fun hm=>zH<|Dr hm).ldp (i:=2) sM) Ac<|Jx.f8 (zP f4.heap.size) Z Ac<|Jx.Aq (p:=zP f3.heap.size) 1 CG Z Z Ac ?_
   refine Jx.nQ (p:=AA (zP f3.heap.size) 1) (zI (((1:Nat):Int)+f1)) AO Z (fun wj hj=>(BX.chg (w:=fx.drew) (F:=[g,f4.heap.size]) a0 hj fun hm=>zH<|Dr hm).ldp (i:=1) sM) Ac<|Jx.f8 (zI (k:Int)) Z Ac ?_
   refine Jx.As 124 [] [] [zP f4.heap.size,zI (((1:Nat):Int)+f1),zI (k:Int),zI ((5:Nat):Int)] Z Z OV Ac (YZ 5 _ f4.heap.size g sv cs m2 (zP w1.heap.size) 6 nodes plain ps (((1:Nat):Int)+f1) (k:Int) oM b8 c7 (RN.box aa (RP.mk'<|RN.of_frF2 a9 fun b hb=>zH<|Dr hb) fun hb=>zH<|Dr hb) oM oM oM oM ja.gpr oM oM oM) ?_
   rintro k7 jj ⟨jt,j8,ju,k8,rfl,a4,ea,it,eb,c8,ec,iu⟩
   refine⟨_,rfl,a4,?_⟩
   replace c8:=c8.low (B':=fx.heap.size)<|A9 _
   replace a4:=a4.of_drew
   have gr:fx.heap.size≤jj.heap.size:=a4.size
   have ed:Az [g] w jj:=e9.new2 a4 (List.mem_singleton.2 Z) oM
   have ee:=b7.chg (Ao<|AH 153 6) a4 fun c hc=>zH<|Dr hc
   have ef:=a9.chg (Ao<|AJ 153 6) a4 fun c hc=>zH<|Dr hc
   have eg:=b9.chg a4 fun hm=>zH<|Dr hm
   have eh:=aa.chg a4 fun hm=>zH<|Dr hm
   have ei:=a0.chg a4 fun hm=>zH<|Dr hm
   refine Jx.ZL Z (Gm (cs:=[zI j8.kind,zI j8.num,zI j8.pick,zI j8.count,jt]) (y:=j8) (B:=fx.heap.size) (AH 153 6) DE BE Z (by decide) Z (L6.mk1 (d:=6) oM ec c8) oM Ac fun jv jk af iv ej=>?_)
   have gs:jj.heap.size≤jk.heap.size:=af.size
   have ek:Az [g] w jk:=ed.ext af
   have bq:=ee.ext (Ao<|AH 153 6) af
   have br:=ef.ext (Ao<|AJ 153 6) af
   have bs:=ea.ext af
   have bt:=eg.ext af
   have bu:=eh.ext af
   have bv:=ei.ext af
   have bw:=eb.ext af
   refine JW (v:=vo) (a:=jv) (AH 153 6) DE BE Z (by decide) Z Z bq oM ej oM oM (zH<|hff.len) (by have:=hff.len;unfold maxLen;omega) Ac fun jr je k9 ak ax dk=>?_
   have gt:jk.heap.size≤je.heap.size:=ak.size
   have el:Az [g] w je:=ek.fresh ak (fun c hc=>zH<|ax _ hc)
   have em:=br.chg (Ao<|AJ 153 6) ak fun c hc=>zH<|ax _ hc
   have en:=bs.chg ak fun c hc=>zH<|ax _ hc
   have eo:=bt.chg ak fun hm=>zH<|ax _ hm
   have ep:=bu.chg ak fun hm=>zH<|ax _ hm
   have eq:=bv.chg ak fun hm=>zH<|ax _ hm
   have er:=bw.chg ak fun hm=>zH<|ax _ hm
   refine Aq (p:=zP f3.heap.size) 2 Cn Z Z Ac (BB (k:=2) (w:=je) UO Z Z (Bo dk.isSlS) eq sM Ac fun jl al iw c9=>?_)
   replace c9:BX jl.heap f3.heap.size [.string (f2++KF k),zI (((1:Nat):Int)+f1),jr]:=c9
   have gu:je.heap.size≤jl.heap.size:=al.size
   have es:Az [g] w jl:=el.fresh al (fun _ h=>zE h)
   have et:=em.chg (Ao<|AJ 153 6) al fun _ h=>zA h
   have eu:=en.chg al fun c hc=>zH<|Ab hc
   have ev:=eo.chg al (zB ·)
   have ew:=ep.chg al (zB ·)
   have ix:=er.chg al (zB ·)
   have ex:=dk.chg (Ao<|AH 153 6) al fun _ h=>zA h
   exact Ai<|Ad _ [0,0,0] Z<|Af 1 Z<|AG ((i+1:Nat):Int) Z Z (Bd oM oM) Ac<|Ae 1 Z ⟨(i+1,jr,xs++[j8],ju),_,rfl,zR,⟨es,ex.up<|Ao<|AH 153 6,et,eu,ev,ew,c9,oM,(by exact hff.snoc (funcs:=(k:Int)) (d:=5) (l0:=nodes) oM oM oM (by assumption)),oM,oM,oM,oM,oM,oM,oM,oM,oM⟩,zD⟩
  refine Ay false Z Z (A8 di) Ac<|Ai<|Aj Z<|A6<|Au<|Au<|An<|Ad _ [0,2,2,3,4,0,4] Z<|Aq (p:=zP w1.heap.size) 0 BQ Z Z Ac<|Al (p:=AA (zP w1.heap.size) 0) (.inr Z) vp Cr Z (a2.ldp (i:=0) sM) Ac<|AZ (p:=zP f3.heap.size) (.inr Z) [.string (f2++KF k),zI (((1:Nat):Int)+f1),vo] KT Z (fun jw ey=>LD.of_box<|BX.ext (w:=f4) a3 ey) Z Ac ?_
  refine Gm (cs:=[.string (f2++KF k),zI (((1:Nat):Int)+f1),vo]) (y:=Fn.mk (f2++KF k) (((1:Nat):Int)+f1) xs) (B:=fs.heap.size) (AJ 153 6) H6 CM Z (by decide) Z (L6.mkF (x:=⟨f2++KF k,((1:Nat):Int)+f1,xs⟩) (X4 (a:=((1:Nat):Int)+f1) oM) bj) oM Ac fun jx jm ay iy ez=>?_
  have gv:f4.heap.size≤jm.heap.size:=ay.size
  have g0:Az [g] w jm:=c6.ext ay
  have ba:=bk.ext (Ao<|AJ 153 6) ay
  have bb:=bl.ext ay
  have bc:=ae.ext ay
  have bd:=a2.ext ay
  have be:=a3.ext ay
  refine JW (v:=vp) (a:=jx) (AJ 153 6) H6 CM Z (by decide) Z Z ba oM ez oM oM oM (by unfold maxLen;omega) Ac fun js jf ka bf bm dl=>?_
  have gw:jm.heap.size≤jf.heap.size:=bf.size
  have g1:Az [g] w jf:=g0.fresh bf (fun c hc=>zH<|bm _ hc)
  have g2:=bb.chg bf fun c hc=>zH<|bm _ hc
  have g3:=bc.chg bf fun hm=>zH<|bm _ hm
  have g4:=bd.chg bf fun hm=>zH<|bm _ hm
  have g5:=be.chg bf fun hm=>zH<|bm _ hm
  refine Aq (p:=zP w1.heap.size) 0 BQ Z Z Ac (BB (k:=0) (w:=jf) mT Z Z (Bo dl.isSlS) g4 sM Ac fun jn bg iz ca=>?_)
  replace ca:BX jn.heap w1.heap.size [js]:=ca
  have gx:jf.heap.size≤jn.heap.size:=bg.size
  have g6:Az [g] w jn:=g1.fresh bg (fun _ h=>zE h)
  have g7:=g2.chg bg fun c hc=>zH<|Ab hc
  have g8:=g3.chg bg (zB ·)
  have gy:=g5.chg bg (zB ·)
  have dm:=dl.chg (Ao<|AJ 153 6) bg fun _ h=>zA h
  refine Ai<|Ad _ [0,0,0] Z<|Af 1 Z<|AG ((k+1:Nat):Int) Z Z (Bd oM oM) Ac<|Ae 1 Z ?_
  exact⟨(k+1,js,ps++[Fn.mk (f2++KF k) (((1:Nat):Int)+f1) xs],m2),_,rfl,zR,⟨g6,dm.up (Ao (AJ 153 6)),g7,g8,ca,oM,(by exact(X6.fn (i:=i) (f:=⟨f2++KF k,((1:Nat):Int)+f1,xs⟩) ja hdn oM ⟨by show 1≤(((1:Nat):Int)+f1);omega,by show(((1:Nat):Int)+f1)≤3;omega⟩ ⟨zO,zO⟩ hff hfo (by show _=_++KF ps.length;rw[hpk])).1),(by exact(X6.fn (i:=i) (f:=⟨f2++KF k,((1:Nat):Int)+f1,xs⟩) ja hdn oM ⟨by show 1≤(((1:Nat):Int)+f1);omega,by show(((1:Nat):Int)+f1)≤3;omega⟩ ⟨zO,zO⟩ hff hfo (by show _=_++KF ps.length;rw[hpk])).2),(by rw[z4,hpk];rfl),oM,oM,oM,oM,oM⟩,zD⟩
 refine Ay false Z Z (A8 ce) Ac<|Ai<|Aj Z<|A6<|Au<|Au<|An<|qS [2,4] Z<|AZ (p:=zP w1.heap.size) (.inr Z) [vp] CL Z (fun jw ey=>LD.of_box<|BX.ext (w:=fe) a1 ey) Z Ac (BR (vs:=[vp]) CL Z Z (by intro u hu;simp only[ze,z2,or_false]at hu;rcases hu with rfl <;> first|exact⟨rfl,rfl⟩|exact Bo ab.isSlS) ac Z Z Ac fun j7 am gz bn=>?_)
 replace bn:BX j7.heap w.heap.size [vp]:=bn
 have g9:fe.heap.size≤j7.heap.size:=am.size
 have dn:Az [g] w j7:=bx.fresh am (fun _ h=>zE h)
 have dp:=ab.chg (Ao<|AJ 153 6) am fun _ h=>zA h
 have dq:=an.chg am fun c hc=>zH<|Ab hc
 have i0:=a1.chg am (zB ·)
 exact Ai<|A3<|CA (cs:=[vp]) Z CL Z bn Z ⟨vp,ps,m,rfl,dn,dq,⟨zO,zO⟩,(dp.up<|Ao<|AJ 153 6).low (B':=w.heap.size) oM,(by exact⟨ja,hdn,zO⟩)⟩
theorem Og (w:World)(n:Int)(_hn:BI n)  :
  Calls Tryz.prog 155 #[zI n] w (fun e w'=>e=.returned (.agg #[zI 2,zI n,zI 0,zI 0,zN])∧AB w w'):=by
 refine At [zI n] 5 Tryz.func155 Z Z sM ?_
 have a6:AB w w:=AB.refl w
 refine qS [3] Z (Br (z:=.agg #[zI 0,zI 0,zI 0,zI 0,zN]) GV Ac fun w1 a3 aa a0=>?_)
 have a7:=a3.size
 have a4:=a6.trans a3
 replace a0:BX w1.heap w.heap.size [zI 0,zI 0,zI 0,zI 0,zN]:=a0
 refine Ai<|qS [0,0,4] Z<|Af 1 Z ?_
 have a1:∀(wq:World),(Instr.build 153 #[(0,zI ((2:Nat):Int)),(1,zI n)]).run Tryz.prog wq=.ok (.agg #[zI ((2:Nat):Int),zI n,zI 0,zI 0,zN]) wq:=by intro wq;kernel_rfl
 refine Ce (ps:=#[(0,zI ((2:Nat):Int)),(1,zI n)]) (.agg #[zI ((2:Nat):Int),zI n,zI 0,zI 0,zN]) (by simp only[zc,zf,zh];rfl) (fun wq=>a1  wq) Ac (BR (vs:=[zI ((2:Nat):Int),zI n,zI 0,zI 0,zN]) Bi Z Z (by intro u hu;simp only[ze,z2,or_false]at hu;rcases hu with rfl|rfl|rfl|rfl|rfl <;> first|exact⟨rfl,rfl⟩) a0 Z Z Ac fun w3 a5 ab a2=>?_)
 replace a2:BX w3.heap w.heap.size [zI ((2:Nat):Int),zI n,zI 0,zI 0,zN]:=a2
 have a8:w1.heap.size≤w3.heap.size:=a5.size
 have a9:AB w w3:=a5.below a4 (fun _ h=>zE h) a4.size
 exact Ai<|A3<|CA (cs:=[zI ((2:Nat):Int),zI n,zI 0,zI 0,zN]) Z Bi Z a2 Z ⟨rfl,a9⟩
theorem Oh (w:World)(a:Int)(b:Int)(_ha:BI a)(_hb:BI b)  :
  Calls Tryz.prog 286 #[zI a,zI b] w (fun e w'=>e=.returned (zI (max a b))∧w'=w):=by
 refine At [zI a,zI b] 10 Tryz.func286 Z Z sM ?_
 have a0:w=w:=rfl
 refine qT Z<|A0<|qS [0,0,0] Z<|Af 2 Z ?_
 by_cases a1:b<a
 ·exact C9 true Z Z (A7 a1) Ac<|Ai<|Ag Z<|qS [0,0] Z<|Ae 2 Z<|A3<|Ap<|Ah [4] Z (zI a) Z ⟨B5 oM,a0⟩
 exact C9 false Z Z (A8 a1) Ac<|Ai<|Aj Z<|A4<|qS [0,0] Z<|Ae 2 Z<|A3<|Ah [4] Z (zI b) Z ⟨B5 oM,a0⟩
theorem Z0 {p:Prop}(h:p:=by rw[aC,hx];first|rw[za oM]|exact(ON oM).symm):p:=h
theorem IU (w:World)(dex:Nat)(ve:Value)(ex:Ex)(left:Int)(hex:RN [] (rP (P9 dex)) w.heap ve ex)(_hleft:BI left)(af:0≤left∧left≤100000)(hs:ex.size≤1000000000) :
  Calls Tryz.prog 239 #[ve,zI left] w (fun e w'=>e=.returned (zI (Jk ex left))∧AB w w'):=by
 induction dex using Nat.strongRecOn generalizing w ve ex left
 rename_i dex ih
 refine At [ve,zI left] 30 Tryz.func239 Z Z sM ?_
 have a6:AB w w:=AB.refl w
 have hsk:=CV ex
 refine qT Z<|qS [0,0,0] Z<|Af 1 Z<|Cb (left-1) Z Z (Dh oM oM) Ac<|Ae 1 Z<|A0<|qT Z<|A5 ?_
 refine AQ (S:=Nat×Int) (fun⟨k,x⟩=>([(1,zI x),(5,zI (k:Int)),(0,ve)])) (fun⟨k,x⟩ W=>AB w W∧k≤ex.kids.length∧x=Dw (ex.kids.take k) (left-1)∧(-1≤x∧x≤left)) (fun⟨k,x⟩=>ex.kids.length-k) (0,left-1) ⟨rfl,rfl,rfl,trivial⟩ ⟨a6,sD,(by rw[List.take_zero,Dw]),oM⟩ ?_
 clear a6
 rintro⟨k,x⟩ ρ1 w1 ⟨a0,a7,hx,a8⟩
 have ab:w.heap.size≤w1.heap.size:=a0.size
 refine A0<|qS [0,0,0,0,2,0,0,0,0,0,0] Z<|Af 2 Z<|AV (hex.isPtr) Z Ac ?_
 obtain⟨cs2,ac,a2⟩:=RN.at (AL _) hex
 obtain⟨dd2,a1,ag,rfl,a3⟩:=RX.of ac
 have a4:=a3.rn.lenle
 unfold maxLen at a4
 refine AP (p:=ve) 4 Bt Z (a2 _<|Az.of_ext [] a0) Ac<|Al (p:=AA ve 4) (.inr Z) a1 BA Z ((a2 _<|Az.of_ext [] a0).ld (i:=4) (by simp[Dd,FU])) Ac<|AN (v:=a1) DE Z a3.rn.isSl Ac ?_
 by_cases a9:(k:Int)<(ex.kids.length:Int)
 ·refine Ay true Z Z (A7 a9) Ac<|Af 2 Z ?_
  by_cases aa:((0:Nat):Int)≤x
  ·refine FB true Z Z (A7 aa) (Ak (e:=15) Z Z Z)<|Ae 1 Z<|Ag Z<|A4<|A0<|A5<|Ad _ [0,0,0,2,0,0,0,3,0] Z ?_
   have hst:=Eh (l:=ex.kids) (k:=k) oM
   have hle:=DH ex.kids (k+1)
   have hnx:=OM (l:=ex.kids) (k:=k) (x:=left-1) oM oM
   have hnr:=QS (e:=ex.kids.getD k Ex.zero) (x:=x) oM
   refine Af 1 Z<|AV (hex.isPtr) Z Ac<|AP (p:=ve) 4 Bt Z (a2 _<|Az.of_ext [] a0) Ac<|Al (p:=AA ve 4) (.inr Z) a1 BA Z ((a2 _<|Az.of_ext [] a0).ld (i:=4) (by simp[Dd,FU])) Ac<|Af 1 Z<|Aw (v:=a1) k DE BE Z Z a3.rn.isSl Z sD Ac<|Af 1 Z ?_
   refine As 239 [] [] [Ax a1 k 5,zI x] Z Z YE Ac (ih dd2 oM _ (Ax a1 k 5) (ex.kids.getD k Ex.zero) _ (RN.ptr (AL dd2) (by decide) Ex.zero (a3.rn.ext (Am<|AL dd2) a0) sD) oM oM oM) ?_
   rintro e5 w5 ⟨rfl,a5⟩
   refine⟨_,rfl,a5,?_⟩
   have ad:=a5.size
   have ae:=a0.trans a5
   refine Ae 1 Z<|Ad _ [0,0,0] Z<|Af 1 Z<|AG ((k+1:Nat):Int) Z Z (Bd oM sD) Ac<|Ae 1 Z ?_
   exact⟨(k+1,Jk (ex.kids.getD k Ex.zero) x),_,rfl,zR,⟨ae,sD,(by rw[hnx,hx]),oM⟩,zD⟩
  exact FB false Z Z (A8 aa) (Ak (e:=15) Z Z Z)<|Ae 1 Z<|Aj Z<|A6<|Au<|Au<|An<|qS [0,0] Z<|Ae 2 Z<|A3<|Ah [4] Z (zI x) Z ⟨B5 Z0,a0⟩
 exact Ay false Z Z (A8 a9) Ac<|Ae 4 Z<|Aj Z<|A6<|Au<|Au<|An<|qS [0,0] Z<|Ae 2 Z<|A3<|Ah [4] Z (zI x) Z ⟨B5 Z0,a0⟩
theorem Ma (w:World)(dex:Nat)(ve:Value)(ex:Ex)(hex:RN [] (rP (P9 dex)) w.heap ve ex)(hs:ex.size≤1000000000) :
  Calls Tryz.prog 271 #[ve] w (fun e w'=>e=.returned (zI (ex.deep:Int))∧AB w w'):=by
 induction dex using Nat.strongRecOn generalizing w ve ex
 rename_i dex ih
 refine At [ve] 25 Tryz.func271 Z Z sM ?_
 have a6:AB w w:=AB.refl w
 have hsk:=CV ex
 have hdk:=EW ex
 refine qT Z<|qT Z<|A0<|qT Z<|A5 ?_
 refine AQ (S:=Nat×Int) (fun⟨k,sz⟩=>([(3,zI sz),(4,zI (k:Int)),(0,ve)])) (fun⟨k,sz⟩ W=>AB w W∧k≤ex.kids.length∧sz=((Ex.deeps (ex.kids.take k):Nat):Int)∧(0≤sz∧sz≤1000000000)) (fun⟨k,sz⟩=>ex.kids.length-k) (0,((0:Nat):Int)) ⟨rfl,rfl,rfl,trivial⟩ ⟨a6,sD,(by rw[List.take_zero,Oz] <;> rfl),oM⟩ ?_
 clear a6
 rintro⟨k,sz⟩ ρ1 w1 ⟨a0,a7,hsz,a8⟩
 have aa:w.heap.size≤w1.heap.size:=a0.size
 refine A0<|qS [0,0,0,0,2,0,0] Z<|Af 2 Z<|AV (hex.isPtr) Z Ac ?_
 obtain⟨cs2,ab,a2⟩:=RN.at (AL _) hex
 obtain⟨dd2,a1,ae,rfl,a3⟩:=RX.of ab
 have a4:=a3.rn.lenle
 unfold maxLen at a4
 refine AP (p:=ve) 4 Bt Z (a2 _<|Az.of_ext [] a0) Ac<|Al (p:=AA ve 4) (.inr Z) a1 BA Z ((a2 _<|Az.of_ext [] a0).ld (i:=4) (by simp[Dd,FU])) Ac<|AN (v:=a1) DE Z a3.rn.isSl Ac ?_
 by_cases a9:(k:Int)<(ex.kids.length:Int)
 ·refine Ay true Z Z (A7 a9) Ac<|Ai<|Ag Z<|A4<|A0<|A5<|Ad _ [0,0,0,0,2,0,0,3,0,0] Z ?_
  have hst:=Eh (l:=ex.kids) (k:=k) oM
  have hle:=DH ex.kids (k+1)
  have hdt:=HN (l:=ex.kids) (k:=k) oM
  have hda:=EX<|ex.kids.getD k Ex.zero
  have hdz:=JU<|ex.kids.take k
  refine Af 2 Z<|AV (hex.isPtr) Z Ac<|AP (p:=ve) 4 Bt Z (a2 _<|Az.of_ext [] a0) Ac<|Al (p:=AA ve 4) (.inr Z) a1 BA Z ((a2 _<|Az.of_ext [] a0).ld (i:=4) (by simp[Dd,FU])) Ac<|Af 1 Z<|Aw (v:=a1) k DE BE Z Z a3.rn.isSl Z sD Ac ?_
  refine As 271 [] [] [Ax a1 k 5] Z Z eG Ac (ih dd2 oM _ (Ax a1 k 5) (ex.kids.getD k Ex.zero) (RN.ptr (AL dd2) (by decide) Ex.zero (a3.rn.ext (Am<|AL dd2) a0) sD) oM) ?_
  rintro e4 w4 ⟨rfl,a5⟩
  refine⟨_,rfl,a5,?_⟩
  have ac:=a5.size
  have ad:=a0.trans a5
  refine AD 286 [] [] [zI sz,zI (((ex.kids.getD k Ex.zero).deep:Nat):Int)] Z Z mP Ac (zI<|max sz (((ex.kids.getD k Ex.zero).deep:Nat):Int)) (fun wq=>Oh wq _ _ oM (zH<|EX (ex.kids.getD k Ex.zero)))<|Ae 1 Z<|Ad _ [0,0,0] Z<|Af 1 Z<|AG ((k+1:Nat):Int) Z Z (Bd oM sD) Ac<|Ae 1 Z ?_
  exact⟨(k+1,max sz (((ex.kids.getD k Ex.zero).deep:Nat):Int)),_,rfl,zR,⟨ad,sD,oM,oM⟩,zD⟩
 refine Ay false Z Z (A8 a9) Ac<|Ai<|Aj Z<|A6<|Au<|Au<|An<|qS [0,0,0] Z ?_
 have h8:=Lf (l:=ex.kids) (k:=k) oM
 have h9:=EX ex
 exact Af 1 Z<|AG (sz+1) Z Z (Dh oM oM) Ac<|Ae 1 Z<|A3<|Ah [2] Z (zI (sz+1)) Z ⟨B5 oM,a0⟩
theorem Ha {p:Prop}(h:p:=by unfold UH;repeat (first|rfl|(rw[if_pos oM])|(rw[if_neg oM]))):p:=h
theorem NM (w:World)(kind:Int)(_hkind:BI kind)  :
  Calls Tryz.prog 198 #[zI kind] w (fun e w'=>e=.returned (zI (UH kind))∧w'=w):=by
 refine At [zI kind] 17 Tryz.func198 Z Z sM ?_
 have a0:w=w:=rfl
 refine qT Z<|A0<|qT Z<|A5<|A0<|qS [0,0] Z ?_
 by_cases a1:kind=((1:Nat):Int)
 ·exact Av true Z Z (A7 a1) Ac<|Ae 1 Z<|Ag Z<|A4<|Ag Z<|qT Z<|A3<|AK<|Ap<|Ah [2] Z (zI ((0:Nat):Int)) Z ⟨B5 Ha,a0⟩
 refine Av false Z Z (A8 a1) Ac<|Ae 1 Z<|Aj Z<|Ad _ [0,0] Z ?_
 by_cases a2:kind=((2:Nat):Int)
 ·exact Av true Z Z (A7 a2) Ac<|Ae 1 Z<|Ag Z<|qT Z<|A3<|AK<|Ap<|Ah [2] Z (zI ((0:Nat):Int)) Z ⟨B5 Ha,a0⟩
 refine Av false Z Z (A8 a2) Ac<|Ae 1 Z<|Aj Z<|A0<|qS [0,0] Z ?_
 by_cases a3:kind=((3:Nat):Int)
 ·exact Av true Z Z (A7 a3) Ac<|Ae 1 Z<|Ag Z<|A4<|Ag Z<|qT Z<|A3<|AK<|Ap<|Ah [2] Z (zI ((2:Nat):Int)) Z ⟨B5 Ha,a0⟩
 refine Av false Z Z (A8 a3) Ac<|Ae 1 Z<|Aj Z<|qS [0,0] Z ?_
 by_cases a4:kind=((4:Nat):Int)
 ·exact Av true Z Z (A7 a4) Ac<|Ae 1 Z<|Ag Z<|A4<|Ag Z<|qT Z<|A3<|AK<|Ap<|Ah [2] Z (zI ((2:Nat):Int)) Z ⟨B5 Ha,a0⟩
 refine Av false Z Z (A8 a4) Ac<|Ae 1 Z<|Aj Z<|qS [0,0] Z ?_
 by_cases a5:kind=((5:Nat):Int)
 ·exact Av true Z Z (A7 a5) Ac<|Ae 1 Z<|Ag Z<|A4<|Ag Z<|qT Z<|A3<|AK<|Ap<|Ah [2] Z (zI ((2:Nat):Int)) Z ⟨B5 Ha,a0⟩
 refine Av false Z Z (A8 a5) Ac<|Ae 1 Z<|Aj Z<|qS [0,0] Z ?_
 by_cases a6:kind=((6:Nat):Int)
 ·exact Av true Z Z (A7 a6) Ac<|Ae 1 Z<|Ag Z<|A4<|Ag Z<|qT Z<|A3<|AK<|Ap<|Ah [2] Z (zI ((2:Nat):Int)) Z ⟨B5 Ha,a0⟩
 refine Av false Z Z (A8 a6) Ac<|Ae 1 Z<|Aj Z<|Ad _ [0,0] Z ?_
 by_cases a7:kind=((9:Nat):Int)
 ·exact Av true Z Z (A7 a7) Ac<|Ae 1 Z<|Ag Z<|qT Z<|A3<|AK<|Ap<|Ah [2] Z (zI ((2:Nat):Int)) Z ⟨B5 Ha,a0⟩
 refine Av false Z Z (A8 a7) Ac<|Ae 1 Z<|Aj Z<|qS [0,0] Z ?_
 by_cases a8:kind=((7:Nat):Int)
 ·exact Av true Z Z (A7 a8) Ac<|Ae 1 Z<|Ag Z<|qT Z<|A3<|AK<|Ap<|Ah [2] Z (zI ((1:Nat):Int)) Z ⟨B5 Ha,a0⟩
 refine Av false Z Z (A8 a8) Ac<|Ae 1 Z<|Aj Z<|qS [0,0] Z ?_
 by_cases a9:kind=((8:Nat):Int)
 ·exact Av true Z Z (A7 a9) Ac<|Ae 1 Z<|Ag Z<|qT Z<|A3<|AK<|Ap<|Ah [2] Z (zI ((3:Nat):Int)) Z ⟨B5 Ha,a0⟩
 exact Av false Z Z (A8 a9) Ac<|Ae 1 Z<|Aj Z<|A4<|qT Z<|A3<|Ah [2] Z (zI (-1)) Z ⟨B5 Ha,a0⟩
theorem Dx {p:Prop}(h:p:=by first|exact AF (gA oM oM oM)|exact AF (oP oM oM oM oM)|exact AF (oQ oM oM oM oM)|exact AF ((PF oM).trans (oR oM oM oM oM oM oM oM))|exact AF (by unfold HQ El Gp;first|(simp[*];done)|(simp[*];omega)|(simp[*] <;> intros <;> omega)|(simp_all;done)|(simp_all <;> omega))):p:=h
theorem C5 {p:Prop}(h:p:=by simp[Dd,FU]):p:=h
theorem NN (w:World)(dp:Nat)(vp:Value)(p:List Fn)(dex:Nat)(ve:Value)(ex:Ex)(vars:Int)(funcs:Int)(hp:RN [] (rP (LS dp)) w.heap vp p)(hex:RN [] (rP (P9 dex)) w.heap ve ex)(_hvars:BI vars)(_hfuncs:BI funcs)(hv:0≤vars∧vars≤2000000000)(hf:0≤funcs∧funcs≤(p.length:Int)) :
  Calls Tryz.prog 287 #[vp,ve,zI vars,zI funcs] w (fun e w'=>e=.returned (.bool (HQ p funcs vars ex))∧AB w w'):=by
 refine At [vp,ve,zI vars,zI funcs] 140 Tryz.func287 Z Z sM ?_
 have a0:AB w w:=AB.refl w
 refine qT Z<|A0<|qS [0,0,0,2,0,0,0,0,0,2,0,0] Z<|Af 1 Z<|AV (hex.isPtr) Z Ac ?_
 obtain⟨cs1,b2,a1⟩:=RN.at (AL _) hex
 obtain⟨dd1,ab,b8,rfl,a5⟩:=RX.of b2
 have aq:=a5.rn.lenle
 unfold maxLen at aq
 refine AP (p:=ve) 0 Bz Z (a1 _<|Az.of_ext [] a0) Ac<|Al (p:=AA ve 0) (.inr Z) (zI ex.kind) AO Z ((a1 _<|Az.of_ext [] a0).ld (i:=0) C5) Ac ?_
 by_cases ay:ex.kind=((10:Nat):Int)
 ·refine Av true Z Z (A7 ay) Ac<|Ae 7 Z<|Ag Z<|A0<|qS [0,0,0,2,0,0,0,0] Z<|Af 1 Z<|AV (hex.isPtr) Z Ac<|AP (p:=ve) 1 Co Z (a1 _<|Az.of_ext [] a0) Ac<|Al (p:=AA ve 1) (.inr Z) (zI ex.num) AO Z ((a1 _<|Az.of_ext [] a0).ld (i:=1) C5) Ac<|Af 1 Z<|Cb (funcs-1) Z Z (Dh oM oM) Ac<|AD 74 [] [] [zI ex.num,zI ((0:Nat):Int),zI (funcs-1)] Z Z Jl Ac (.bool (decide (((0:Nat):Int)≤ex.num) && decide (ex.num≤(funcs-1)))) (fun wq=>BJ wq _ _ _ a5.rng.num oM oM) ?_
  refine BH (!(decide (((0:Nat):Int)≤ex.num) && decide (ex.num≤(funcs-1)))) Z Z Ac<|Ai ?_
  cases az:(!(decide (((0:Nat):Int)≤ex.num) && decide (ex.num≤(funcs-1))))
  ·refine Aj (by first|rfl|exact zW az)<|A4<|A0<|AW _ [0,0,0,1,0,0,0,1,0,0] mixed (by kernel_rfl) ?_
   have hnr:=HC (ES (by assumption):(decide (((0:Nat):Int)≤ex.num) && decide (ex.num≤funcs-1))=true)
   refine Af 1 Z<|AV (hp.isPtr) Z Ac ?_
   obtain⟨cs5,b3,b0⟩:=RN.at (B2 _) hp
   obtain⟨a6,rfl,a9⟩:=RPr.of b3
   have ar:=a9.lenle
   unfold maxLen at ar
   refine AP (p:=vp) 0 BQ Z (b0 _<|Az.of_ext [] a0.drew) Ac<|Al (p:=AA vp 0) (.inl Z) a6 Cr Z ((b0 _<|Az.of_ext [] a0.drew).ld (i:=0) C5) Ac<|Af 1 Z<|AV (hex.isPtr) Z Ac<|AP (p:=ve) 1 Co Z (a1 _<|Az.of_ext [] a0.drew) Ac<|Al (p:=AA ve 1) (.inl Z) (zI ex.num) AO Z ((a1 _<|Az.of_ext [] a0.drew).ld (i:=1) C5) Ac ?_
   refine Aw (v:=a6) ((ex.num).toNat) H6 CM Z Z a9.isSl oM sD Ac<|Ae 1 Z<|A0<|A0<|AW _ [0,0,0,1,0,0,0,1,0,0,0,0,0,0,0,0,1,0,0,0,0,1,0,0] mixed (by kernel_rfl)<|Af 1 Z<|AV (hex.isPtr) Z Ac<|AP (p:=ve) 2 EK Z (a1 _<|Az.of_ext [] a0.drew.drew) Ac ?_
   refine Al (p:=AA ve 2) (.inl Z) (zI ex.pick) AO Z ((a1 _<|Az.of_ext [] a0.drew.drew).ld (i:=2) C5) Ac<|Af 1 Z<|AV (RN.isPtr<|RN.ptr (AC dp) (by decide) Fn.zero a9 sD) Z Ac ?_
   obtain⟨cs6,b4,a8⟩:=a9.get (AC dp) Fn.zero (k:=(ex.num).toNat) sD
   obtain⟨ap,rfl,au⟩:=RF.of b4
   have av:=au.rn.lenle
   unfold maxLen at av
   refine AP (p:=Ax a6 ((ex.num).toNat) 3) 2 Cn Z (a8 _<|Az.of_ext [] a0.drew.drew) Ac<|Al (p:=AA (Ax a6 ((ex.num).toNat) 3) 2) (.inl Z) ap BA Z ((a8 _<|Az.of_ext [] a0.drew.drew).ld (i:=2) C5) Ac<|AN (v:=ap) DE Z au.rn.isSl Ac<|Cb ((((p.getD (ex.num).toNat Fn.zero).outs.length:Nat):Int)-1) Z Z (Dh oM oM) Ac<|AD 74 [] [] [zI ex.pick,zI ((0:Nat):Int),zI ((((p.getD (ex.num).toNat Fn.zero).outs.length:Nat):Int)-1)] Z Z Jl Ac (.bool (decide (((0:Nat):Int)≤ex.pick) && decide (ex.pick≤((((p.getD (ex.num).toNat Fn.zero).outs.length:Nat):Int)-1)))) (fun wq=>BJ wq _ _ _ a5.rng.pick oM oM) ?_
   refine BH (!(decide (((0:Nat):Int)≤ex.pick) && decide (ex.pick≤((((p.getD (ex.num).toNat Fn.zero).outs.length:Nat):Int)-1)))) Z Z Ac<|Af 1 Z ?_
   cases b9:(!(decide (((0:Nat):Int)≤ex.pick) && decide (ex.pick≤((((p.getD (ex.num).toNat Fn.zero).outs.length:Nat):Int)-1))))
   ·refine Af 1 Z<|AV (hex.isPtr) Z (Ak (e:=51) Z Z Z)<|AP (p:=ve) 4 Bt Z (a1 _<|Az.of_ext [] a0.drew.drew) (Ak (e:=51) Z Z Z)<|Al (p:=AA ve 4) (.inl Z) ab BA Z ((a1 _<|Az.of_ext [] a0.drew.drew).ld (i:=4) C5) (Ak (e:=51) Z Z Z)<|AN (v:=ab) DE Z a5.rn.isSl (Ak (e:=51) Z Z Z)<|Af 1 Z ?_
    refine AV (RN.isPtr<|RN.ptr (AC dp) (by decide) Fn.zero a9 sD) Z (Ak (e:=51) Z Z Z)<|AP (p:=Ax a6 ((ex.num).toNat) 3) 1 CG Z (a8 _<|Az.of_ext [] a0.drew.drew) (Ak (e:=51) Z Z Z)<|Al (p:=AA (Ax a6 ((ex.num).toNat) 3) 1) (.inl Z) (zI<|(p.getD ((ex.num).toNat) Fn.zero).params) AO Z ((a8 _<|Az.of_ext [] a0.drew.drew).ld (i:=1) C5) (Ak (e:=51) Z Z Z) ?_
    by_cases b1:(ex.kids.length:Int)≠(p.getD ((ex.num).toNat) Fn.zero).params
    ·exact B4 true Z Z (A7 b1) (Ak (e:=51) Z Z Z)<|Ae 1 Z<|Ag Z<|qT Z<|A3<|Ap<|Ap<|Ah [8] Z (.bool false) Z ⟨Dx,a0.drew.drew⟩
    refine B4 false Z Z (A8 b1) (Ak (e:=51) Z Z Z)<|Ae 1 Z<|Aj Z<|A4<|A0<|qS [0,0,0,2,0] Z<|Af 1 Z<|AV (hex.isPtr) Z Ac<|AP (p:=ve) 0 Bz Z (a1 _<|Az.of_ext [] a0.drew.drew) Ac<|Al (p:=AA ve 0) (.inr Z) (zI ex.kind) AO Z ((a1 _<|Az.of_ext [] a0.drew.drew).ld (i:=0) C5) Ac ?_
    by_cases ac:ex.kind=((10:Nat):Int)
    ·refine Av true Z Z (A7 ac) Ac<|Ai<|Ag Z<|qS [0,0,0,2,0,0] Z<|Af 1 Z<|AV (hex.isPtr) Z Ac<|AP (p:=ve) 3 Ee Z (a1 _<|Az.of_ext [] a0.drew.drew) Ac<|Al (p:=AA ve 3) (.inr Z) (zI ex.count) AO Z ((a1 _<|Az.of_ext [] a0.drew.drew).ld (i:=3) C5) Ac<|Av (decide (ex.count=((0:Nat):Int))) Z Z Z Ac<|Ae 1 Z<|A3<|Ap<|Ap ?_
     exact Ah [8] Z (.bool<|decide (ex.count=((0:Nat):Int))) Z ⟨Dx,a0.drew.drew⟩
    refine Av false Z Z (A8 ac) Ac<|Ai<|Aj Z<|A4<|A0<|AW _ [0,0,0,1,0,0,0,0,0,1,0,0,0,0,1,0,0,0] mixed (by kernel_rfl)<|Af 1 Z<|AV (hex.isPtr) Z Ac<|AP (p:=ve) 3 Ee Z (a1 _<|Az.of_ext [] a0.drew.drew.drew) Ac<|Al (p:=AA ve 3) (.inl Z) (zI ex.count) AO Z ((a1 _<|Az.of_ext [] a0.drew.drew.drew).ld (i:=3) C5) Ac<|AD 74 [] [] [zI ex.count,zI ((0:Nat):Int),zI ((8:Nat):Int)] Z Z Jl Ac (.bool (decide (((0:Nat):Int)≤ex.count) && decide (ex.count≤((8:Nat):Int)))) (fun wq=>BJ wq _ _ _ a5.rng.count oM oM)<|Af 1 Z ?_
    cases b5:(decide (((0:Nat):Int)≤ex.count) && decide (ex.count≤((8:Nat):Int)))
    ·exact Ae 12 Z<|A3<|Ap<|Ah [8] Z (.bool false) Z ⟨Dx,a0.drew.drew.drew⟩
    refine Af 1 Z<|AV (RN.isPtr<|RN.ptr (AC dp) (by decide) Fn.zero a9 sD) Z (Ak (e:=78) Z Z Z)<|AP (p:=Ax a6 ((ex.num).toNat) 3) 2 Cn Z (a8 _<|Az.of_ext [] a0.drew.drew.drew) (Ak (e:=78) Z Z Z)<|Al (p:=AA (Ax a6 ((ex.num).toNat) 3) 2) (.inl Z) ap BA Z ((a8 _<|Az.of_ext [] a0.drew.drew.drew).ld (i:=2) C5) (Ak (e:=78) Z Z Z) ?_
    refine AN (v:=ap) DE Z au.rn.isSl (Ak (e:=78) Z Z Z)<|Af 1 Z<|AV (RN.isPtr<|RN.ptr (AC dp) (by decide) Fn.zero a9 sD) Z (Ak (e:=78) Z Z Z)<|AP (p:=Ax a6 ((ex.num).toNat) 3) 1 CG Z (a8 _<|Az.of_ext [] a0.drew.drew.drew) (Ak (e:=78) Z Z Z) ?_
    refine Al (p:=AA (Ax a6 ((ex.num).toNat) 3) 1) (.inl Z) (zI<|(p.getD ((ex.num).toNat) Fn.zero).params) AO Z ((a8 _<|Az.of_ext [] a0.drew.drew.drew).ld (i:=1) C5) (Ak (e:=78) Z Z Z)<|Av (decide (((((p.getD ((ex.num).toNat) Fn.zero).outs).length:Nat):Int)=(p.getD ((ex.num).toNat) Fn.zero).params)) Z Z Z (Ak (e:=78) Z Z Z)<|Ae 2 Z<|A3<|Ap ?_
    exact Ah [8] Z (.bool<|decide (((((p.getD ((ex.num).toNat) Fn.zero).outs).length:Nat):Int)=(p.getD ((ex.num).toNat) Fn.zero).params)) Z ⟨Dx,a0.drew.drew.drew⟩
   exact Ae 11 Z<|Ag Z<|qT Z<|A3<|Ap<|Ap<|Ah [8] Z (.bool false) Z ⟨Dx,a0.drew.drew⟩
  exact Ag (by first|rfl|exact zW az)<|qT Z<|A3<|Ap<|Ap<|Ah [8] Z (.bool false) Z ⟨Dx,a0⟩
 refine Av false Z Z (A8 ay) Ac<|Af 2 Z<|AV (hex.isPtr) Z (Ak (e:=15) Z Z Z)<|AP (p:=ve) 0 Bz Z (a1 _<|Az.of_ext [] a0) (Ak (e:=15) Z Z Z)<|Al (p:=AA ve 0) (.inr Z) (zI ex.kind) AO Z ((a1 _<|Az.of_ext [] a0).ld (i:=0) C5) (Ak (e:=15) Z Z Z) ?_
 by_cases ad:ex.kind=((11:Nat):Int)
 ·refine Av true Z Z (A7 ad) (Ak (e:=15) Z Z Z)<|Ae 1 Z<|Ag Z<|A0<|qS [0,0,0,2,0,0,0,0] Z<|Af 1 Z<|AV (hex.isPtr) Z Ac<|AP (p:=ve) 1 Co Z (a1 _<|Az.of_ext [] a0) Ac<|Al (p:=AA ve 1) (.inr Z) (zI ex.num) AO Z ((a1 _<|Az.of_ext [] a0).ld (i:=1) C5) Ac<|Af 1 Z<|Cb (funcs-1) Z Z (Dh oM oM) Ac<|AD 74 [] [] [zI ex.num,zI ((0:Nat):Int),zI (funcs-1)] Z Z Jl Ac (.bool (decide (((0:Nat):Int)≤ex.num) && decide (ex.num≤(funcs-1)))) (fun wq=>BJ wq _ _ _ a5.rng.num oM oM) ?_
  refine BH (!(decide (((0:Nat):Int)≤ex.num) && decide (ex.num≤(funcs-1)))) Z Z Ac<|Ai ?_
  cases ae:(!(decide (((0:Nat):Int)≤ex.num) && decide (ex.num≤(funcs-1))))
  ·refine Aj (by first|rfl|exact zW ae)<|A4<|A0<|AW _ [0,0,0,1,0,0,0,1,0,0] mixed (by kernel_rfl) ?_
   have hnr:=HC (ES (by assumption):(decide (((0:Nat):Int)≤ex.num) && decide (ex.num≤funcs-1))=true)
   refine Af 1 Z<|AV (hp.isPtr) Z Ac ?_
   obtain⟨cs16,aw,af⟩:=RN.at (B2 _) hp
   obtain⟨a2,rfl,a4⟩:=RPr.of aw
   have ag:=a4.lenle
   unfold maxLen at ag
   refine AP (p:=vp) 0 BQ Z (af _<|Az.of_ext [] a0.drew) Ac<|Al (p:=AA vp 0) (.inl Z) a2 Cr Z ((af _<|Az.of_ext [] a0.drew).ld (i:=0) C5) Ac<|Af 1 Z<|AV (hex.isPtr) Z Ac<|AP (p:=ve) 1 Co Z (a1 _<|Az.of_ext [] a0.drew) Ac<|Al (p:=AA ve 1) (.inl Z) (zI ex.num) AO Z ((a1 _<|Az.of_ext [] a0.drew).ld (i:=1) C5) Ac ?_
   refine Aw (v:=a2) ((ex.num).toNat) H6 CM Z Z a4.isSl oM sD Ac<|Ae 1 Z<|A0<|A0<|AW _ [0,0,0,1,0,0,0,1,0,0,0,0,0,0,0,0,1,0,0,0,0,1,0,0] mixed (by kernel_rfl)<|Af 1 Z<|AV (hex.isPtr) Z Ac<|AP (p:=ve) 2 EK Z (a1 _<|Az.of_ext [] a0.drew.drew) Ac ?_
   refine Al (p:=AA ve 2) (.inl Z) (zI ex.pick) AO Z ((a1 _<|Az.of_ext [] a0.drew.drew).ld (i:=2) C5) Ac<|Af 1 Z<|AV (RN.isPtr<|RN.ptr (AC dp) (by decide) Fn.zero a4 sD) Z Ac ?_
   obtain⟨cs17,ax,a3⟩:=a4.get (AC dp) Fn.zero (k:=(ex.num).toNat) sD
   obtain⟨a7,rfl,aa⟩:=RF.of ax
   have ah:=aa.rn.lenle
   unfold maxLen at ah
   refine AP (p:=Ax a2 ((ex.num).toNat) 3) 2 Cn Z (a3 _<|Az.of_ext [] a0.drew.drew) Ac<|Al (p:=AA (Ax a2 ((ex.num).toNat) 3) 2) (.inl Z) a7 BA Z ((a3 _<|Az.of_ext [] a0.drew.drew).ld (i:=2) C5) Ac<|AN (v:=a7) DE Z aa.rn.isSl Ac<|Cb ((((p.getD (ex.num).toNat Fn.zero).outs.length:Nat):Int)-1) Z Z (Dh oM oM) Ac<|AD 74 [] [] [zI ex.pick,zI ((0:Nat):Int),zI ((((p.getD (ex.num).toNat Fn.zero).outs.length:Nat):Int)-1)] Z Z Jl Ac (.bool (decide (((0:Nat):Int)≤ex.pick) && decide (ex.pick≤((((p.getD (ex.num).toNat Fn.zero).outs.length:Nat):Int)-1)))) (fun wq=>BJ wq _ _ _ a5.rng.pick oM oM) ?_
   refine BH (!(decide (((0:Nat):Int)≤ex.pick) && decide (ex.pick≤((((p.getD (ex.num).toNat Fn.zero).outs.length:Nat):Int)-1)))) Z Z Ac<|Af 1 Z ?_
   cases b6:(!(decide (((0:Nat):Int)≤ex.pick) && decide (ex.pick≤((((p.getD (ex.num).toNat Fn.zero).outs.length:Nat):Int)-1))))
   ·refine Af 1 Z<|AV (hex.isPtr) Z (Ak (e:=51) Z Z Z)<|AP (p:=ve) 4 Bt Z (a1 _<|Az.of_ext [] a0.drew.drew) (Ak (e:=51) Z Z Z)<|Al (p:=AA ve 4) (.inl Z) ab BA Z ((a1 _<|Az.of_ext [] a0.drew.drew).ld (i:=4) C5) (Ak (e:=51) Z Z Z)<|AN (v:=ab) DE Z a5.rn.isSl (Ak (e:=51) Z Z Z)<|Af 1 Z ?_
    refine AV (RN.isPtr<|RN.ptr (AC dp) (by decide) Fn.zero a4 sD) Z (Ak (e:=51) Z Z Z)<|AP (p:=Ax a2 ((ex.num).toNat) 3) 1 CG Z (a3 _<|Az.of_ext [] a0.drew.drew) (Ak (e:=51) Z Z Z)<|Al (p:=AA (Ax a2 ((ex.num).toNat) 3) 1) (.inl Z) (zI<|(p.getD ((ex.num).toNat) Fn.zero).params) AO Z ((a3 _<|Az.of_ext [] a0.drew.drew).ld (i:=1) C5) (Ak (e:=51) Z Z Z) ?_
    by_cases ai:(ex.kids.length:Int)≠(p.getD ((ex.num).toNat) Fn.zero).params
    ·exact B4 true Z Z (A7 ai) (Ak (e:=51) Z Z Z)<|Ae 1 Z<|Ag Z<|qT Z<|A3<|Ap<|Ap<|Ah [8] Z (.bool false) Z ⟨Dx,a0.drew.drew⟩
    refine B4 false Z Z (A8 ai) (Ak (e:=51) Z Z Z)<|Ae 1 Z<|Aj Z<|A4<|A0<|qS [0,0,0,2,0] Z<|Af 1 Z<|AV (hex.isPtr) Z Ac<|AP (p:=ve) 0 Bz Z (a1 _<|Az.of_ext [] a0.drew.drew) Ac<|Al (p:=AA ve 0) (.inr Z) (zI ex.kind) AO Z ((a1 _<|Az.of_ext [] a0.drew.drew).ld (i:=0) C5) Ac ?_
    by_cases aj:ex.kind=((10:Nat):Int)
    ·refine Av true Z Z (A7 aj) Ac<|Ai<|Ag Z<|qS [0,0,0,2,0,0] Z<|Af 1 Z<|AV (hex.isPtr) Z Ac<|AP (p:=ve) 3 Ee Z (a1 _<|Az.of_ext [] a0.drew.drew) Ac<|Al (p:=AA ve 3) (.inr Z) (zI ex.count) AO Z ((a1 _<|Az.of_ext [] a0.drew.drew).ld (i:=3) C5) Ac<|Av (decide (ex.count=((0:Nat):Int))) Z Z Z Ac<|Ae 1 Z<|A3<|Ap<|Ap ?_
     exact Ah [8] Z (.bool<|decide (ex.count=((0:Nat):Int))) Z ⟨Dx,a0.drew.drew⟩
    refine Av false Z Z (A8 aj) Ac<|Ai<|Aj Z<|A4<|A0<|AW _ [0,0,0,1,0,0,0,0,0,1,0,0,0,0,1,0,0,0] mixed (by kernel_rfl)<|Af 1 Z<|AV (hex.isPtr) Z Ac<|AP (p:=ve) 3 Ee Z (a1 _<|Az.of_ext [] a0.drew.drew.drew) Ac<|Al (p:=AA ve 3) (.inl Z) (zI ex.count) AO Z ((a1 _<|Az.of_ext [] a0.drew.drew.drew).ld (i:=3) C5) Ac<|AD 74 [] [] [zI ex.count,zI ((0:Nat):Int),zI ((8:Nat):Int)] Z Z Jl Ac (.bool (decide (((0:Nat):Int)≤ex.count) && decide (ex.count≤((8:Nat):Int)))) (fun wq=>BJ wq _ _ _ a5.rng.count oM oM)<|Af 1 Z ?_
    cases b7:(decide (((0:Nat):Int)≤ex.count) && decide (ex.count≤((8:Nat):Int)))
    ·exact Ae 12 Z<|A3<|Ap<|Ah [8] Z (.bool false) Z ⟨Dx,a0.drew.drew.drew⟩
    refine Af 1 Z<|AV (RN.isPtr<|RN.ptr (AC dp) (by decide) Fn.zero a4 sD) Z (Ak (e:=78) Z Z Z)<|AP (p:=Ax a2 ((ex.num).toNat) 3) 2 Cn Z (a3 _<|Az.of_ext [] a0.drew.drew.drew) (Ak (e:=78) Z Z Z)<|Al (p:=AA (Ax a2 ((ex.num).toNat) 3) 2) (.inl Z) a7 BA Z ((a3 _<|Az.of_ext [] a0.drew.drew.drew).ld (i:=2) C5) (Ak (e:=78) Z Z Z) ?_
    refine AN (v:=a7) DE Z aa.rn.isSl (Ak (e:=78) Z Z Z)<|Af 1 Z<|AV (RN.isPtr<|RN.ptr (AC dp) (by decide) Fn.zero a4 sD) Z (Ak (e:=78) Z Z Z)<|AP (p:=Ax a2 ((ex.num).toNat) 3) 1 CG Z (a3 _<|Az.of_ext [] a0.drew.drew.drew) (Ak (e:=78) Z Z Z) ?_
    refine Al (p:=AA (Ax a2 ((ex.num).toNat) 3) 1) (.inl Z) (zI<|(p.getD ((ex.num).toNat) Fn.zero).params) AO Z ((a3 _<|Az.of_ext [] a0.drew.drew.drew).ld (i:=1) C5) (Ak (e:=78) Z Z Z)<|Av (decide (((((p.getD ((ex.num).toNat) Fn.zero).outs).length:Nat):Int)=(p.getD ((ex.num).toNat) Fn.zero).params)) Z Z Z (Ak (e:=78) Z Z Z)<|Ae 2 Z<|A3<|Ap ?_
    exact Ah [8] Z (.bool<|decide (((((p.getD ((ex.num).toNat) Fn.zero).outs).length:Nat):Int)=(p.getD ((ex.num).toNat) Fn.zero).params)) Z ⟨Dx,a0.drew.drew.drew⟩
   exact Ae 11 Z<|Ag Z<|qT Z<|A3<|Ap<|Ap<|Ah [8] Z (.bool false) Z ⟨Dx,a0.drew.drew⟩
  exact Ag (by first|rfl|exact zW ae)<|qT Z<|A3<|Ap<|Ap<|Ah [8] Z (.bool false) Z ⟨Dx,a0⟩
 refine Av false Z Z (A8 ad) (Ak (e:=15) Z Z Z)<|Ae 1 Z<|Aj Z<|A4<|A0<|A0<|AW _ [0,0,0,1,0,0,0,0,1,0,0,0,0,0,0,1,0,0,0,0,0,0,1,0,0] mixed (by kernel_rfl)<|Af 1 Z<|AV (hex.isPtr) Z Ac<|AP (p:=ve) 0 Bz Z (a1 _<|Az.of_ext [] a0.drew) Ac<|Al (p:=AA ve 0) (.inl Z) (zI ex.kind) AO Z ((a1 _<|Az.of_ext [] a0.drew).ld (i:=0) C5) Ac<|AD 198 [] [] [zI ex.kind] Z Z dY Ac (zI<|UH ex.kind) (fun wq=>NM wq _ a5.rng.kind)<|Af 1 Z<|AV (hex.isPtr) Z Ac<|AP (p:=ve) 4 Bt Z (a1 _<|Az.of_ext [] a0.drew) Ac ?_
 refine Al (p:=AA ve 4) (.inl Z) ab BA Z ((a1 _<|Az.of_ext [] a0.drew).ld (i:=4) C5) Ac<|AN (v:=ab) DE Z a5.rn.isSl Ac ?_
 by_cases ak:UH ex.kind≠(ex.kids.length:Int)
 ·exact B4 true Z Z (A7 ak) Ac<|Ae 14 Z<|Ag Z<|qT Z<|A3<|Ap<|Ah [8] Z (.bool false) Z ⟨Dx,a0.drew⟩
 refine B4 false Z Z (A8 ak) Ac<|Af 2 Z<|AV (hex.isPtr) Z (Ak (e:=101) Z Z Z)<|AP (p:=ve) 2 EK Z (a1 _<|Az.of_ext [] a0.drew) (Ak (e:=101) Z Z Z)<|Al (p:=AA ve 2) (.inl Z) (zI ex.pick) AO Z ((a1 _<|Az.of_ext [] a0.drew).ld (i:=2) C5) (Ak (e:=101) Z Z Z) ?_
 by_cases al:ex.pick≠((0:Nat):Int)
 ·exact B4 true Z Z (A7 al) (Ak (e:=101) Z Z Z)<|Ae 8 Z<|Ag Z<|qT Z<|A3<|Ap<|Ah [8] Z (.bool false) Z ⟨Dx,a0.drew⟩
 refine B4 false Z Z (A8 al) (Ak (e:=101) Z Z Z)<|Af 3 Z<|AV (hex.isPtr) Z (Ak (e:=108) Z Z Z)<|AP (p:=ve) 3 Ee Z (a1 _<|Az.of_ext [] a0.drew) (Ak (e:=108) Z Z Z)<|Al (p:=AA ve 3) (.inl Z) (zI ex.count) AO Z ((a1 _<|Az.of_ext [] a0.drew).ld (i:=3) C5) (Ak (e:=108) Z Z Z) ?_
 by_cases am:ex.count≠((0:Nat):Int)
 ·exact B4 true Z Z (A7 am) (Ak (e:=108) Z Z Z)<|Ae 1 Z<|Ag Z<|qT Z<|A3<|Ap<|Ah [8] Z (.bool false) Z ⟨Dx,a0.drew⟩
 refine B4 false Z Z (A8 am) (Ak (e:=108) Z Z Z)<|Ae 1 Z<|Aj Z<|A4<|A0<|qS [0,0,0,2] Z<|Af 1 Z<|AV (hex.isPtr) Z Ac<|AP (p:=ve) 0 Bz Z (a1 _<|Az.of_ext [] a0.drew) Ac<|Al (p:=AA ve 0) (.inr Z) (zI ex.kind) AO Z ((a1 _<|Az.of_ext [] a0.drew).ld (i:=0) C5) Ac<|Ai<|A5<|qS [0,0] Z ?_
 by_cases an:ex.kind=((1:Nat):Int)
 ·refine Av true Z Z (A7 an) Ac<|Ae 1 Z<|Ag Z<|qS [0,0,0,2,0,0] Z<|Af 1 Z<|AV (hex.isPtr) Z Ac<|AP (p:=ve) 1 Co Z (a1 _<|Az.of_ext [] a0.drew) Ac<|Al (p:=AA ve 1) (.inr Z) (zI ex.num) AO Z ((a1 _<|Az.of_ext [] a0.drew).ld (i:=1) C5) Ac<|AD 220 [] [] [zI ex.num] Z Z dZ Ac (.bool<|JX ex.num) (fun wq=>HA wq _ a5.rng.num)<|Ae 1 Z<|A3<|AK<|Ap ?_
  exact Ah [8] Z (.bool<|JX ex.num) Z ⟨Dx,a0.drew⟩
 refine Av false Z Z (A8 an) Ac<|Ae 1 Z<|Aj Z<|qS [0,0] Z ?_
 by_cases ao:ex.kind=((2:Nat):Int)
 ·refine Av true Z Z (A7 ao) Ac<|Ae 1 Z<|Ag Z<|qS [0,0,0,2,0,0,0,0] Z<|Af 1 Z<|AV (hex.isPtr) Z Ac<|AP (p:=ve) 1 Co Z (a1 _<|Az.of_ext [] a0.drew) Ac<|Al (p:=AA ve 1) (.inr Z) (zI ex.num) AO Z ((a1 _<|Az.of_ext [] a0.drew).ld (i:=1) C5) Ac<|Af 1 Z<|Cb (vars-1) Z Z (Dh oM oM) Ac<|AD 74 [] [] [zI ex.num,zI ((0:Nat):Int),zI (vars-1)] Z Z Jl Ac (.bool (decide (((0:Nat):Int)≤ex.num) && decide (ex.num≤(vars-1)))) (fun wq=>BJ wq _ _ _ a5.rng.num oM oM)<|Ae 1 Z<|A3<|AK<|Ap ?_
  exact Ah [8] Z (.bool (decide (((0:Nat):Int)≤ex.num) && decide (ex.num≤(vars-1)))) Z ⟨Dx,a0.drew⟩
 refine Av false Z Z (A8 ao) Ac<|Ae 1 Z<|Aj Z<|A4<|qS [0,0,0,2,0,0] Z<|Af 1 Z<|AV (hex.isPtr) Z Ac<|AP (p:=ve) 1 Co Z (a1 _<|Az.of_ext [] a0.drew) Ac<|Al (p:=AA ve 1) (.inr Z) (zI ex.num) AO Z ((a1 _<|Az.of_ext [] a0.drew).ld (i:=1) C5) Ac<|Av (decide (ex.num=((0:Nat):Int))) Z Z Z Ac<|Ae 1 Z<|A3 ?_
 exact Ah [8] Z (.bool<|decide (ex.num=((0:Nat):Int))) Z ⟨Dx,a0.drew⟩
theorem NO {p:Prop}(h:p:=by first|exact AF (Vs (GL (by assumption)))|exact AF (Pg (ES (by assumption)) fun j hj=>hall j oM)|exact AF (Vt (k:=k) oM (by first|(rw[if_pos oM])|(rw[if_neg oM])) (GL (by assumption)))):p:=h
theorem Sp {p:Prop}(h:p:=by intro j hj;by_cases e9:j=k;(rw[e9];first|(rw[if_pos oM];exact ES (by assumption))|(rw[if_neg oM];exact ES (by assumption)));exact hall j oM):p:=h
theorem NP (w:World)(dp:Nat)(vp:Value)(p:List Fn)(dex:Nat)(ve:Value)(ex:Ex)(vars:Int)(funcs:Int)(hp:RN [] (rP (LS dp)) w.heap vp p)(hex:RN [] (rP (P9 dex)) w.heap ve ex)(_hvars:BI vars)(_hfuncs:BI funcs)(hs:0≤vars∧vars+(ex.deep:Int)≤2000000000)(hf:0≤funcs∧funcs≤(p.length:Int)) :
  Calls Tryz.prog 272 #[vp,ve,zI vars,zI funcs] w (fun e w'=>e=.returned (.bool (wf p funcs ex vars))∧AB w w'):=by
 induction dex using Nat.strongRecOn generalizing w dp vp p ve ex vars funcs
 rename_i dex ih
 refine At [vp,ve,zI vars,zI funcs] 49 Tryz.func272 Z Z sM ?_
 have aa:AB w w:=AB.refl w
 have hdk:=EW ex
 refine qT Z<|A0<|qS [0,0,0,0,3,0] Z<|Af 4 Z<|As 287 [] [] [vp,ve,zI vars,zI funcs] Z Z mQ Ac (NN _ dp vp (p) dex ve (ex) _ _ (hp.ext (Bf<|B2 dp) aa) (hex.ext (Bf<|AL dex) aa) _hvars _hfuncs oM oM) ?_
 rintro e1 w1 ⟨rfl,ab⟩
 refine⟨_,rfl,ab,?_⟩
 have ac:=ab.size
 have ad:=aa.trans ab
 refine BH (!(HQ p funcs vars ex)) Z Z Ac<|Ai ?_
 cases ag:(!(HQ p funcs vars ex))
 ·refine Aj (by first|rfl|exact zW ag)<|A4<|A0<|qT Z<|A5 ?_
  refine AQ (S:=Nat) (fun k=>([(9,zI (k:Int)),(0,vp),(1,ve),(2,zI vars),(3,zI funcs)])) (fun k W=>AB w W∧k≤ex.kids.length∧(∀j,j<k→wf p funcs (ex.kids.getD j Ex.zero) (if ex.kind=9∧j=1 then vars+1 else vars)=true)) (fun k=>ex.kids.length-k) 0 ⟨rfl,rfl,rfl,rfl,rfl,trivial⟩ ⟨ad,sD,(by intro j hj;omega)⟩ ?_
  clear aa ab ac ad
  rintro k ρ3 w3 ⟨a0,ah,hall⟩
  have ap:w.heap.size≤w3.heap.size:=a0.size
  refine A0<|qS [0,0,0,0,2,0,0] Z<|Af 2 Z<|AV (hex.isPtr) Z Ac ?_
  obtain⟨cs4,aq,a2⟩:=RN.at (AL _) hex
  obtain⟨dd4,a1,au,rfl,a3⟩:=RX.of aq
  have ae:=a3.rn.lenle
  unfold maxLen at ae
  refine AP (p:=ve) 4 Bt Z (a2 _<|Az.of_ext [] a0) Ac<|Al (p:=AA ve 4) (.inr Z) a1 BA Z ((a2 _<|Az.of_ext [] a0).ld (i:=4) (by simp[Dd,FU])) Ac<|AN (v:=a1) DE Z a3.rn.isSl Ac ?_
  by_cases ai:(k:Int)<(ex.kids.length:Int)
  ·refine Ay true Z Z (A7 ai) Ac<|Ai<|Ag Z<|A4<|A0<|A5<|qS [0,0] Z ?_
   have hkd:=FV (l:=ex.kids) (k:=k) oM
   refine Ae 2 Z<|A0<|qS [0,0,0,2,0,0,0,0,0] Z<|Af 1 Z<|AV (hex.isPtr) Z Ac<|AP (p:=ve) 0 Bz Z (a2 _<|Az.of_ext [] a0) Ac<|Al (p:=AA ve 0) (.inr Z) (zI ex.kind) AO Z ((a2 _<|Az.of_ext [] a0).ld (i:=0) (by simp[Dd,FU])) Ac ?_
   by_cases aj:ex.kind=((9:Nat):Int)
   ·refine Av true Z Z (A7 aj) Ac<|Af 2 Z ?_
    by_cases ak:(k:Int)=((1:Nat):Int)
    ·refine Av true Z Z (A7 ak) (Ak (e:=32) Z Z Z)<|Ae 1 Z<|Ag Z<|Ad _ [0,0,0] Z<|Af 1 Z<|AG (vars+1) Z Z (Dh oM oM) Ac<|Ae 1 Z<|qS [0,0,0,0,2,0,0,0,0,3,0] Z<|Af 2 Z<|AV (hex.isPtr) Z Ac<|AP (p:=ve) 4 Bt Z (a2 _<|Az.of_ext [] a0) Ac<|Al (p:=AA ve 4) (.inr Z) a1 BA Z ((a2 _<|Az.of_ext [] a0).ld (i:=4) (by simp[Dd,FU])) Ac<|Af 1 Z ?_
     refine Aw (v:=a1) k DE BE Z Z a3.rn.isSl Z sD Ac<|Af 2 Z ?_
     refine As 272 [] [] [vp,Ax a1 k 5,zI (vars+1),zI funcs] Z Z U6 Ac (ih dd4 oM _ dp vp (p) (Ax a1 k 5) (ex.kids.getD k Ex.zero) _ _ (hp.ext (Bf<|B2 dp) a0) (RN.ptr (AL dd4) (by decide) Ex.zero (a3.rn.ext (Am<|AL dd4) a0) sD) oM _hfuncs oM oM) ?_
     rintro e8 w8 ⟨rfl,af⟩
     refine⟨_,rfl,af,?_⟩
     have ar:=af.size
     have al:=a0.trans af
     refine BH (!(wf p funcs (ex.kids.getD k Ex.zero) (vars+1))) Z Z Ac<|Ai ?_
     cases am:(!(wf p funcs (ex.kids.getD k Ex.zero) (vars+1)))
     ·refine Aj (by first|rfl|exact zW am)<|A4<|Ad _ [0,0,0] Z<|Af 1 Z<|AG ((k+1:Nat):Int) Z Z (Bd oM sD) Ac<|Ae 1 Z ?_
      exact⟨k+1,_,rfl,zR,⟨al,sD,Sp⟩,zD⟩
     exact Ag (by first|rfl|exact zW am)<|qT Z<|A3<|AK<|Ap<|Ap<|AK<|Ap<|Ah [8] Z (.bool false) Z ⟨NO,al⟩
    refine Av false Z Z (A8 ak) (Ak (e:=32) Z Z Z)<|Ae 1 Z<|Aj Z<|A4<|qS [0,0,0,0,2,0,0,0,0,3,0] Z<|Af 2 Z<|AV (hex.isPtr) Z Ac<|AP (p:=ve) 4 Bt Z (a2 _<|Az.of_ext [] a0) Ac<|Al (p:=AA ve 4) (.inr Z) a1 BA Z ((a2 _<|Az.of_ext [] a0).ld (i:=4) (by simp[Dd,FU])) Ac<|Af 1 Z ?_
    refine Aw (v:=a1) k DE BE Z Z a3.rn.isSl Z sD Ac<|Af 2 Z ?_
    refine As 272 [] [] [vp,Ax a1 k 5,zI vars,zI funcs] Z Z U6 Ac (ih dd4 oM _ dp vp (p) (Ax a1 k 5) (ex.kids.getD k Ex.zero) _ _ (hp.ext (Bf<|B2 dp) a0) (RN.ptr (AL dd4) (by decide) Ex.zero (a3.rn.ext (Am<|AL dd4) a0) sD) _hvars _hfuncs oM oM) ?_
    rintro av aw ⟨rfl,a4⟩
    refine⟨_,rfl,a4,?_⟩
    have an:=a4.size
    have a6:=a0.trans a4
    refine BH (!(wf p funcs (ex.kids.getD k Ex.zero) vars)) Z Z Ac<|Ai ?_
    cases a7:(!(wf p funcs (ex.kids.getD k Ex.zero) vars))
    ·refine Aj (by first|rfl|exact zW a7)<|A4<|Ad _ [0,0,0] Z<|Af 1 Z<|AG ((k+1:Nat):Int) Z Z (Bd oM sD) Ac<|Ae 1 Z ?_
     exact⟨k+1,_,rfl,zR,⟨a6,sD,Sp⟩,zD⟩
    exact Ag (by first|rfl|exact zW a7)<|qT Z<|A3<|AK<|Ap<|Ap<|AK<|Ap<|Ah [8] Z (.bool false) Z ⟨NO,a6⟩
   refine Av false Z Z (A8 aj) Ac<|Ae 4 Z<|Aj Z<|A4<|qS [0,0,0,0,2,0,0,0,0,3,0] Z<|Af 2 Z<|AV (hex.isPtr) Z Ac<|AP (p:=ve) 4 Bt Z (a2 _<|Az.of_ext [] a0) Ac<|Al (p:=AA ve 4) (.inr Z) a1 BA Z ((a2 _<|Az.of_ext [] a0).ld (i:=4) (by simp[Dd,FU])) Ac<|Af 1 Z ?_
   refine Aw (v:=a1) k DE BE Z Z a3.rn.isSl Z sD Ac<|Af 2 Z ?_
   refine As 272 [] [] [vp,Ax a1 k 5,zI vars,zI funcs] Z Z U6 Ac (ih dd4 oM _ dp vp (p) (Ax a1 k 5) (ex.kids.getD k Ex.zero) _ _ (hp.ext (Bf<|B2 dp) a0) (RN.ptr (AL dd4) (by decide) Ex.zero (a3.rn.ext (Am<|AL dd4) a0) sD) _hvars _hfuncs oM oM) ?_
   rintro ax ay ⟨rfl,a5⟩
   refine⟨_,rfl,a5,?_⟩
   have ao:=a5.size
   have a8:=a0.trans a5
   refine BH (!(wf p funcs (ex.kids.getD k Ex.zero) vars)) Z Z Ac<|Ai ?_
   cases a9:(!(wf p funcs (ex.kids.getD k Ex.zero) vars))
   ·refine Aj (by first|rfl|exact zW a9)<|A4<|Ad _ [0,0,0] Z<|Af 1 Z<|AG ((k+1:Nat):Int) Z Z (Bd oM sD) Ac<|Ae 1 Z ?_
    exact⟨k+1,_,rfl,zR,⟨a8,sD,Sp⟩,zD⟩
   exact Ag (by first|rfl|exact zW a9)<|qT Z<|A3<|AK<|Ap<|Ap<|AK<|Ap<|Ah [8] Z (.bool false) Z ⟨NO,a8⟩
  exact Ay false Z Z (A8 ai) Ac<|Ai<|Aj Z<|A6<|Au<|Au<|An<|qT Z<|A3<|Ah [8] Z (.bool true) Z ⟨NO,a0⟩
 exact Ag (by first|rfl|exact zW ag)<|qT Z<|A3<|Ap<|Ah [8] Z (.bool false) Z ⟨NO,ad⟩
theorem NR (w:World)(vars:Int)(_hvars:BI vars)  :
  Calls Tryz.prog 270 #[zI vars] w (fun e w'=>e=.returned (.bool (Gp vars 0 412))∧w'=w):=by
 refine At [zI vars] 5 Tryz.func270 Z Z sM ?_
 have a0:w=w:=rfl
 exact qT Z<|qS [0,0,0] Z<|Af 1 Z<|AD 74 [] [] [zI vars,zI ((0:Nat):Int),zI ((412:Nat):Int)] Z Z Jl Ac (.bool (decide (((0:Nat):Int)≤vars) && decide (vars≤((412:Nat):Int)))) (fun wq=>BJ wq _ _ _ _hvars oM oM)<|Ae 1 Z<|A3<|Ah [2] Z (.bool (decide (((0:Nat):Int)≤vars) && decide (vars≤((412:Nat):Int)))) Z ⟨rfl,a0⟩
theorem NS {p:Prop}(h:p:=by first|exact AF (eK (by assumption))|exact AF (Ud ⟨Ct.1 (by assumption),HC (by assumption),zO,zO⟩)|exact AF ((by assumption:wf p funcs ex vars=true).symm.trans (Ud ⟨Ct.1 (by assumption),HC (by assumption),zO,zO⟩))|exact AF (OX fun hh=>YO (by assumption) hh.1)|exact AF (OX fun hh=>Rf (by assumption) hh.2.1)|exact AF (OX oM)):p:=h
theorem NT (w:World)(dp:Nat)(vp:Value)(p:List Fn)(dex:Nat)(ve:Value)(ex:Ex)(vars:Int)(funcs:Int)(hp:RN [] (rP (LS dp)) w.heap vp p)(hex:RN [] (rP (P9 dex)) w.heap ve ex)(_hvars:BI vars)(_hfuncs:BI funcs)(hs:ex.size≤1000000000) :
  Calls Tryz.prog 240 #[vp,ve,zI vars,zI funcs] w (fun e w'=>e=.returned (.bool (OJ p ex vars funcs))∧AB w w'):=by
 refine At [vp,ve,zI vars,zI funcs] 37 Tryz.func240 Z Z sM ?_
 have a1:AB w w:=AB.refl w
 have hlp:=Xo (e:=ex) (x:=((400:Nat):Int)) oM
 refine qT Z<|qS [0,0,0,0,0,0,0,2,0,0,0,0,0,3,0,0,0,0,3,0,0,0,0,0,0,0,3,0,0] Z<|Af 1 Z<|AD 270 [] [] [zI vars] Z Z mO Ac (.bool<|Gp vars 0 412) (fun wq=>NR wq _ _hvars)<|Af 1 Z ?_
 cases ah:(Gp vars 0 412)
 ·exact Ae 26 Z<|A3<|Ah [8] Z (.bool false) Z ⟨NS,a1⟩
 refine Af 2 Z<|AV (hp.isPtr) Z (Ak (e:=11) Z Z Z) ?_
 obtain⟨cs3,ae,a8⟩:=RN.at (B2 _) hp
 obtain⟨a9,rfl,aa⟩:=RPr.of ae
 have a3:=aa.lenle
 unfold maxLen at a3
 refine AP (p:=vp) 0 BQ Z (a8 _<|Az.of_ext [] a1) (Ak (e:=11) Z Z Z)<|Al (p:=AA vp 0) (.inr Z) a9 Cr Z ((a8 _<|Az.of_ext [] a1).ld (i:=0) (by simp[Dd,FU])) (Ak (e:=11) Z Z Z)<|AN (v:=a9) H6 Z aa.isSl (Ak (e:=11) Z Z Z)<|AD 74 [] [] [zI funcs,zI ((0:Nat):Int),zI (p.length:Int)] Z Z Jl (Ak (e:=11) Z Z Z) (.bool (decide (((0:Nat):Int)≤funcs) && decide (funcs≤(p.length:Int)))) (fun wq=>BJ wq _ _ _ _hfuncs oM oM)<|Af 2 Z ?_
 cases ai:(decide (((0:Nat):Int)≤funcs) && decide (funcs≤(p.length:Int)))
 ·exact Ae 17 Z<|A3<|Ah [8] Z (.bool false) Z ⟨NS,a1⟩
 refine Af 1 Z<|As 239 [] [] [ve,zI ((400:Nat):Int)] Z Z YE (Ak (e:=20) Z Z Z) (IU _ dex ve (ex) _ (hex.ext (Bf<|AL dex) a1) oM oM oM) ?_
 rintro e6 w6 ⟨rfl,a4⟩
 refine⟨_,rfl,a4,?_⟩
 have af:=a4.size
 have a5:=a1.trans a4
 by_cases ab:((0:Nat):Int)≤Jk ex ((400:Nat):Int)
 ·refine FB true Z Z (A7 ab) (Ak (e:=20) Z Z Z)<|Af 3 Z<|As 271 [] [] [ve] Z Z eG (Ak (e:=25) Z Z Z) (Ma _ dex ve (ex) (hex.ext (Bf<|AL dex) a5) oM) ?_
  rintro e8 w8 ⟨rfl,a6⟩
  refine⟨_,rfl,a6,?_⟩
  have ag:=a6.size
  have a2:=a5.trans a6
  by_cases ac:(ex.deep:Int)≤((60:Nat):Int)
  ·refine DF true Z Z (A7 ac) (Ak (e:=25) Z Z Z)<|Af 6 Z<|As 272 [] [] [vp,ve,zI vars,zI funcs] Z Z U6 (Ak (e:=30) Z Z Z) (NP _ dp vp (p) dex ve (ex) _ _ (hp.ext (Bf<|B2 dp) a2) (hex.ext (Bf<|AL dex) a2) _hvars _hfuncs (by have h1:=Ct.1 (by assumption:Gp vars 0 412=true);omega) (by have h2:=HC (by assumption:(decide (((0:Nat):Int)≤funcs) && decide (funcs≤(p.length:Int)))=true);omega)) ?_
   rintro aj ak ⟨rfl,a0⟩
   refine⟨_,rfl,a0,?_⟩
   have ad:=a0.size
   have a7:=a2.trans a0
   exact Ae 2 Z<|A3<|Ah [8] Z (.bool<|wf p funcs ex vars) Z ⟨NS,a7⟩
  exact DF false Z Z (A8 ac) (Ak (e:=25) Z Z Z)<|Ae 9 Z<|A3<|Ah [8] Z (.bool false) Z ⟨NS,a2⟩
 exact FB false Z Z (A8 ab) (Ak (e:=20) Z Z Z)<|Ae 14 Z<|A3<|Ah [8] Z (.bool false) Z ⟨NS,a5⟩
theorem iU {s:ByteArray}(h:¬(1≤s.size∧s.size≤12)):false=Na s:=by
  cases hh:Na s with
  |false=>rfl
  |true=>unfold Na at hh;simp only[z7,decide_eq_true_eq]at hh;exact absurd hh.1 h
theorem IV {p:Prop}(h:p:=by first|exact AF (iU (fun hh=>Rf (GL (by assumption)) ⟨zO,zO⟩))|exact AF (Si (k:=0) oM oM)|exact AF (Si (k:=k) oM oM)|exact AF (YN hq oM (by rw[A7 (show 1≤s.size by omega),A7 (show s.size≤12 by omega)];rfl))):p:=h
theorem Ss {p:Prop}(h:p:=by exact Ep hq (Uc (by(by_cases h0:k=0;(rw[h0];left;omega);omega)))):p:=h
theorem Oi (w:World)(s:ByteArray)  (hl:s.size≤1000000000) :
  Calls Tryz.prog 238 #[.string s] w (fun e w'=>e=.returned (.bool (Na s))∧w'=w):=by
 refine At [.string s] 46 Tryz.func238 Z Z sM ?_
 have a1:w=w:=rfl
 refine qT Z<|A0<|qS [0,0,0,0,0,0,0,0,0,0,0,0,0,0] Z<|Af 1 Z<|MJ (s:=s) u9 Z Ac<|AD 74 [] [] [zI (s.size:Int),zI ((1:Nat):Int),zI ((12:Nat):Int)] Z Z Jl Ac (.bool (decide (((1:Nat):Int)≤(s.size:Int)) && decide ((s.size:Int)≤((12:Nat):Int)))) (fun wq=>BJ wq _ _ _ oM oM oM)<|BH (!(decide (((1:Nat):Int)≤(s.size:Int)) && decide ((s.size:Int)≤((12:Nat):Int)))) Z Z Ac<|Af 1 Z ?_
 cases ac:(!(decide (((1:Nat):Int)≤(s.size:Int)) && decide ((s.size:Int)≤((12:Nat):Int))))
 ·refine Af 1 Z ?_
  have hsz:=HC (ES (by assumption):(decide (((1:Nat):Int)≤(s.size:Int)) && decide ((s.size:Int)≤((12:Nat):Int)))=true)
  refine DA (s:=s) 0 u9 Z Z Z sD (Ak (e:=8) Z Z Z) ?_
  by_cases a5:((L5 s 0:Nat):Int)<97
  ·exact Ay true Z Z (A7 a5) (Ak (e:=8) Z Z Z)<|Ae 6 Z<|Ag Z<|qT Z<|A3<|Ap<|Ah [2] Z (.bool false) Z ⟨IV,a1⟩
  refine Ay false Z Z (A8 a5) (Ak (e:=8) Z Z Z)<|Af 3 Z<|DA (s:=s) 0 u9 Z Z Z sD (Ak (e:=13) Z Z Z) ?_
  by_cases a6:122<((L5 s 0:Nat):Int)
  ·exact C9 true Z Z (A7 a6) (Ak (e:=13) Z Z Z)<|Ae 1 Z<|Ag Z<|qT Z<|A3<|Ap<|Ah [2] Z (.bool false) Z ⟨IV,a1⟩
  refine C9 false Z Z (A8 a6) (Ak (e:=13) Z Z Z)<|Ae 1 Z<|Aj Z<|A4<|A0<|qT Z<|A5<|AQ (S:=Nat) (fun k=>([(3,zI (k:Int)),(0,.string s)])) (fun k W=>W=w∧k≤s.size∧(List.range k).all (cF s)=true) (fun k=>s.size-k) 0 ⟨rfl,rfl,trivial⟩ ⟨a1,sD,(by rfl)⟩ ?_
  clear a1
  rintro k ρ5 w5 ⟨a0,a7,hq⟩
  refine A0<|qS [0,0,0,0] Z<|Af 2 Z<|MJ (s:=s) u9 Z Ac ?_
  by_cases a8:(k:Int)<(s.size:Int)
  ·refine Ay true Z Z (A7 a8) Ac<|Ai<|Ag Z<|A4<|A0<|A5<|qS [0,0,0,0,0,0,0,0,0,0,0,0,0,0,0,0,0,0,0,0,0,0] Z<|Af 2 Z<|DA (s:=s) k u9 Z Z Z sD Ac ?_
   by_cases a9:((L5 s k:Nat):Int)<97
   ·refine Ay true Z Z (A7 a9) Ac<|Af 9 Z<|DA (s:=s) k u9 Z Z Z sD (Ak (e:=34) Z Z Z) ?_
    by_cases aa:((L5 s k:Nat):Int)<48
    ·exact Ay true Z Z (A7 aa) (Ak (e:=34) Z Z Z)<|Ae 7 Z<|Ag Z<|qT Z<|A3<|AK<|Ap<|Ap<|AK<|Ap<|Ah [2] Z (.bool false) Z ⟨IV,a0⟩
    refine Ay false Z Z (A8 aa) (Ak (e:=34) Z Z Z)<|Af 3 Z<|DA (s:=s) k u9 Z Z Z sD (Ak (e:=39) Z Z Z) ?_
    by_cases ab:57<((L5 s k:Nat):Int)
    ·exact C9 true Z Z (A7 ab) (Ak (e:=39) Z Z Z)<|Ae 2 Z<|Ag Z<|qT Z<|A3<|AK<|Ap<|Ap<|AK<|Ap<|Ah [2] Z (.bool false) Z ⟨IV,a0⟩
    refine C9 false Z Z (A8 ab) (Ak (e:=39) Z Z Z)<|Ae 2 Z<|Aj Z<|A4<|Ad _ [0,0,0] Z<|Af 1 Z<|AG ((k+1:Nat):Int) Z Z (Bd oM sD) Ac<|Ae 1 Z ?_
    exact⟨k+1,_,rfl,⟨rfl,rfl,trivial⟩,⟨a0,sD,Ss⟩,zD⟩
   refine Ay false Z Z (A8 a9) Ac<|Af 3 Z<|DA (s:=s) k u9 Z Z Z sD (Ak (e:=28) Z Z Z) ?_
   by_cases a2:122<((L5 s k:Nat):Int)
   ·refine C9 true Z Z (A7 a2) (Ak (e:=28) Z Z Z)<|Af 4 Z<|DA (s:=s) k u9 Z Z Z sD (Ak (e:=34) Z Z Z) ?_
    by_cases a3:((L5 s k:Nat):Int)<48
    ·exact Ay true Z Z (A7 a3) (Ak (e:=34) Z Z Z)<|Ae 7 Z<|Ag Z<|qT Z<|A3<|AK<|Ap<|Ap<|AK<|Ap<|Ah [2] Z (.bool false) Z ⟨IV,a0⟩
    refine Ay false Z Z (A8 a3) (Ak (e:=34) Z Z Z)<|Af 3 Z<|DA (s:=s) k u9 Z Z Z sD (Ak (e:=39) Z Z Z) ?_
    by_cases a4:57<((L5 s k:Nat):Int)
    ·exact C9 true Z Z (A7 a4) (Ak (e:=39) Z Z Z)<|Ae 2 Z<|Ag Z<|qT Z<|A3<|AK<|Ap<|Ap<|AK<|Ap<|Ah [2] Z (.bool false) Z ⟨IV,a0⟩
    refine C9 false Z Z (A8 a4) (Ak (e:=39) Z Z Z)<|Ae 2 Z<|Aj Z<|A4<|Ad _ [0,0,0] Z<|Af 1 Z<|AG ((k+1:Nat):Int) Z Z (Bd oM sD) Ac<|Ae 1 Z ?_
    exact⟨k+1,_,rfl,⟨rfl,rfl,trivial⟩,⟨a0,sD,Ss⟩,zD⟩
   refine C9 false Z Z (A8 a2) (Ak (e:=28) Z Z Z)<|Ae 13 Z<|Aj Z<|A4<|Ad _ [0,0,0] Z<|Af 1 Z<|AG ((k+1:Nat):Int) Z Z (Bd oM sD) Ac<|Ae 1 Z ?_
   exact⟨k+1,_,rfl,⟨rfl,rfl,trivial⟩,⟨a0,sD,Ss⟩,zD⟩
  exact Ay false Z Z (A8 a8) Ac<|Ai<|Aj Z<|A6<|Au<|Au<|An<|qT Z<|A3<|Ah [2] Z (.bool true) Z ⟨IV,a0⟩
 exact Ae 9 Z<|Ag Z<|qT Z<|A3<|Ap<|Ah [2] Z (.bool false) Z ⟨IV,a1⟩
theorem Z1 {α:Type}{l:List α}{f:α→Bool}{k:Nat}(d:α)(hk:k<l.length)(h:(l.take k).any f=false)(h2:f (l.getD k d)=false):(l.take (k+1)).any f=false:=by
  rw[List.take_succ_eq_append_getElem hk,List.any_append,h]
  have:l.getD k d=l[k]:=by simp[hk]
  rw[this]at h2
  simp[h2]
theorem bU {α:Type}{l:List α}{f:α→Bool}{k n:Nat}(d:α)(hk:k<n)(hn:n≤l.length)(h:f (l.getD k d)=true):(l.take n).any f=true:=by
  rw[List.any_eq_true]
  have hkl:k<l.length:=by omega
  have e:l.getD k d=l[k]:=by simp[hkl]
  refine⟨l[k],?_,by rw[← e];exact h⟩
  rw[List.mem_take_iff_getElem]
  exact⟨k,zO,rfl⟩
theorem bV {p:List Fn}{a j:Nat}{x:Int}(hx:x=Dw ((p.getD a Fn.zero).outs.take j) ((400:Nat):Int))(h:0≤x)(hj:(p.getD a Fn.zero).outs.length≤j):Ex.sizes (p.getD a Fn.zero).outs≤400:=by
  rw[za hj]at hx
  rcases J6 (p.getD a Fn.zero).outs ((400:Nat):Int) (Int.natCast_nonneg _)with h2|h2
  · have:=h2.2;omega
  · have:=h2.1;omega
theorem Z2 {p:List Fn}{a j:Nat}(h:Dw ((p.getD a Fn.zero).outs.take j) ((400:Nat):Int)<0):M3 p a=false:=nB (by
  have h1:=ON h
  rcases J6 (p.getD a Fn.zero).outs ((400:Nat):Int) (Int.natCast_nonneg _)with h2|h2
  · have:=h2.1;have:=h2.2;omega
  · have:=h2.2;omega)
theorem Ka {p:Prop}(h:p:=by first|exact AF (mV (GL (by assumption))).symm|exact AF (mX (GL (by assumption))).symm|exact AF (mY (GL (by assumption))).symm|exact AF (mW (bU (k:=k) Fn.zero oM oM (by assumption))).symm|exact AF (Z2 (j:=j+1) (by rw[hnx,← hx];omega)).symm|exact AF (mZ (j:=j) oM (GL (by assumption))).symm|exact AF (eL (ES (by assumption)) hqa (ES (by assumption)) (ES (by assumption)) hqe oM (bV hx oM oM)).symm):p:=h
theorem GD {p:Prop}(h:p:=by simp[Dd,FU]):p:=h
theorem NU (w:World)(dp:Nat)(vp:Value)(p:List Fn)(a:Nat)(hp:RN [] (rP (LS dp)) w.heap vp p)(ha:a<p.length)(hpl:p.length≤1000000)(hz:Px p) :
  Calls Tryz.prog 207 #[vp,zI (a:Int)] w (fun e w'=>e=.returned (.bool (M3 p a))∧AB w w'):=by
 refine At [vp,zI (a:Int)] 91 Tryz.func207 Z Z sM ?_
 have a4:AB w w:=AB.refl w
 have hza:=hz a ha
 refine qT Z<|qS [0,0,0,2,0,0,0] Z<|Af 1 Z<|AV (hp.isPtr) Z Ac ?_
 obtain⟨cs1,ay,al⟩:=RN.at (B2 _) hp
 obtain⟨a0,rfl,a5⟩:=RPr.of ay
 have ab:=a5.lenle
 unfold maxLen at ab
 refine AP (p:=vp) 0 BQ Z (al _<|Az.of_ext [] a4) Ac<|Al (p:=AA vp 0) (.inr Z) a0 Cr Z ((al _<|Az.of_ext [] a4).ld (i:=0) GD) Ac<|Af 1 Z<|Aw (v:=a0) a H6 CM Z Z a5.isSl Z sD Ac<|Ae 1 Z<|A0<|qS [0,0,0,2,0,0,0,0,0,0,2,0,0,0,0,0,0,0,2,0,0,0,0] Z<|Af 1 Z ?_
 refine AV (RN.isPtr<|RN.ptr (AC dp) (by decide) Fn.zero a5 sD) Z Ac ?_
 obtain⟨cs2,az,a3⟩:=a5.get (AC dp) Fn.zero (k:=a) sD
 obtain⟨a6,rfl,a9⟩:=RF.of az
 have ac:=a9.rn.lenle
 unfold maxLen at ac
 refine AP (p:=Ax a0 a 3) 0 LC Z (a3 _<|Az.of_ext [] a4) Ac<|Al (p:=AA (Ax a0 a 3) 0) (.inr Z) (.string<|(p.getD a Fn.zero).name) Sc Z ((a3 _<|Az.of_ext [] a4).ld (i:=0) GD) Ac<|AD 238 [] [] [.string<|(p.getD a Fn.zero).name] Z Z mH Ac (.bool<|Na<|(p.getD a Fn.zero).name) (fun wq=>Oi wq ((p.getD a Fn.zero).name) oM)<|BH (!(Na<|(p.getD a Fn.zero).name)) Z Z Ac<|Af 1 Z ?_
 cases b1:(!(Na ((p.getD a Fn.zero).name)))
 ·refine Af 1 Z<|AV (RN.isPtr<|RN.ptr (AC dp) (by decide) Fn.zero a5 sD) Z (Ak (e:=21) Z Z Z)<|AP (p:=Ax a0 a 3) 1 CG Z (a3 _<|Az.of_ext [] a4) (Ak (e:=21) Z Z Z)<|Al (p:=AA (Ax a0 a 3) 1) (.inr Z) (zI<|(p.getD a Fn.zero).params) AO Z ((a3 _<|Az.of_ext [] a4).ld (i:=1) GD) (Ak (e:=21) Z Z Z) ?_
  refine AD 74 [] [] [zI<|(p.getD a Fn.zero).params,zI ((0:Nat):Int),zI ((12:Nat):Int)] Z Z Jl (Ak (e:=21) Z Z Z) (.bool (decide (((0:Nat):Int)≤((p.getD a Fn.zero).params)) && decide (((p.getD a Fn.zero).params)≤((12:Nat):Int)))) (fun wq=>BJ wq _ _ _ a9.rng oM oM)<|BH (!(decide (((0:Nat):Int)≤((p.getD a Fn.zero).params)) && decide (((p.getD a Fn.zero).params)≤((12:Nat):Int)))) Z Z (Ak (e:=21) Z Z Z)<|Af 2 Z ?_
  cases b2:(!(decide (((0:Nat):Int)≤((p.getD a Fn.zero).params)) && decide (((p.getD a Fn.zero).params)≤((12:Nat):Int))))
  ·refine Af 1 Z<|AV (RN.isPtr<|RN.ptr (AC dp) (by decide) Fn.zero a5 sD) Z (Ak (e:=29) Z Z Z)<|AP (p:=Ax a0 a 3) 2 Cn Z (a3 _<|Az.of_ext [] a4) (Ak (e:=29) Z Z Z)<|Al (p:=AA (Ax a0 a 3) 2) (.inr Z) a6 BA Z ((a3 _<|Az.of_ext [] a4).ld (i:=2) GD) (Ak (e:=29) Z Z Z)<|AN (v:=a6) DE Z a9.rn.isSl (Ak (e:=29) Z Z Z) ?_
   refine AD 74 [] [] [zI ((((p.getD a Fn.zero).outs).length:Nat):Int),zI ((1:Nat):Int),zI ((12:Nat):Int)] Z Z Jl (Ak (e:=29) Z Z Z) (.bool (decide (((1:Nat):Int)≤((((p.getD a Fn.zero).outs).length:Nat):Int)) && decide (((((p.getD a Fn.zero).outs).length:Nat):Int)≤((12:Nat):Int)))) (fun wq=>BJ wq _ _ _ oM oM oM)<|BH (!(decide (((1:Nat):Int)≤((((p.getD a Fn.zero).outs).length:Nat):Int)) && decide (((((p.getD a Fn.zero).outs).length:Nat):Int)≤((12:Nat):Int)))) Z Z (Ak (e:=29) Z Z Z)<|Ae 1 Z ?_
   cases ar:(!(decide (((1:Nat):Int)≤((((p.getD a Fn.zero).outs).length:Nat):Int)) && decide (((((p.getD a Fn.zero).outs).length:Nat):Int)≤((12:Nat):Int))))
   ·refine Aj (by first|rfl|exact zW ar)<|A4<|A0<|qT Z<|A5 ?_
    refine AQ (S:=Nat) (fun k=>([(6,zI (k:Int)),(0,vp),(1,zI (a:Int)),(5,Ax a0 a 3)])) (fun k W=>AB w W∧k≤a∧(p.take k).any (fun g=>JV g.name (p.getD a Fn.zero).name)=false) (fun k=>a-k) 0 ⟨rfl,rfl,rfl,rfl,trivial⟩ ⟨a4,sD,(by rfl)⟩ ?_
    clear a4 ab ac
    rintro k ρ9 w9 ⟨a7,au,hq⟩
    have am:w.heap.size≤w9.heap.size:=a7.size
    refine A0<|qS [0,0,0] Z<|Af 2 Z ?_
    by_cases ad:(k:Int)<(a:Int)
    ·refine Ay true Z Z (A7 ad) Ac<|Ai<|Ag Z<|A4<|A0<|A5<|A0<|AW _ [0,0,0,1,0,0,0,1,0,0,0,1,0] mixed (by kernel_rfl)<|Af 1 Z<|AV (hp.isPtr) Z Ac<|AP (p:=vp) 0 BQ Z (al _<|Az.of_ext [] a7.drew) Ac<|Al (p:=AA vp 0) (.inl Z) a0 Cr Z ((al _<|Az.of_ext [] a7.drew).ld (i:=0) GD) Ac<|Af 1 Z ?_
     refine Aw (v:=a0) k H6 CM Z Z a5.isSl Z sD Ac ?_
     obtain⟨cs11,an,ae⟩:=a5.get (AC dp) Fn.zero (k:=k) sD
     obtain⟨b0,rfl,ao⟩:=RF.of an
     have af:=ao.rn.lenle
     unfold maxLen at af
     refine AP (p:=Ax a0 k 3) 0 LC Z (ae _<|Az.of_ext [] a7.drew) Ac<|Al (p:=AA (Ax a0 k 3) 0) (.inl Z) (.string<|(p.getD k Fn.zero).name) Sc Z ((ae _<|Az.of_ext [] a7.drew).ld (i:=0) GD) Ac<|Af 1 Z<|AV (RN.isPtr<|RN.ptr (AC dp) (by decide) Fn.zero a5 sD) Z Ac<|AP (p:=Ax a0 a 3) 0 LC Z (a3 _<|Az.of_ext [] a7.drew) Ac ?_
     refine Al (p:=AA (Ax a0 a 3) 0) (.inl Z) (.string<|(p.getD a Fn.zero).name) Sc Z ((a3 _<|Az.of_ext [] a7.drew).ld (i:=0) GD) Ac ?_
     cases ag:JV ((p.getD k Fn.zero).name) ((p.getD a Fn.zero).name)
     ·refine Rt false u9 Z Z ag Ac<|Ai<|Aj Z<|A4<|Ad _ [0,0,0] Z<|Af 1 Z<|AG ((k+1:Nat):Int) Z Z (Bd oM sD) Ac<|Ae 1 Z ?_
      exact⟨k+1,_,rfl,zR,⟨a7.drew,sD,(by exact Z1 Fn.zero oM hq (by assumption))⟩,zD⟩
     exact Rt true u9 Z Z ag Ac<|Ai<|Ag Z<|qT Z<|A3<|AK<|Ap<|Ap<|AK<|Ap<|Ah [4] Z (.bool false) Z ⟨Ka,a7.drew⟩
    refine Ay false Z Z (A8 ad) Ac<|Ai<|Aj Z<|A6<|Au<|Au<|An<|qS [0] Z ?_
    have hka:k=a:=by omega
    rw[hka]at hq
    have hqa:=hq
    refine Ae 1 Z<|A0<|qT Z<|A5 ?_
    refine AQ (S:=Nat×Int) (fun⟨j,x⟩=>([(7,zI x),(8,zI (j:Int)),(0,vp),(1,zI (a:Int)),(5,Ax a0 a 3)])) (fun⟨j,x⟩ W=>AB w W∧j≤(p.getD a Fn.zero).outs.length∧x=Dw ((p.getD a Fn.zero).outs.take j) ((400:Nat):Int)∧(0≤x∧x≤400)∧(List.range j).all (fun j=>OJ p ((p.getD a Fn.zero).outs.getD j Ex.zero) (p.getD a Fn.zero).params (a:Int))=true) (fun⟨j,x⟩=>(p.getD a Fn.zero).outs.length-j) (0,((400:Nat):Int)) ⟨rfl,rfl,rfl,rfl,rfl,trivial⟩ ⟨a7,sD,(by rw[List.take_zero,Dw]),oM,(by rfl)⟩ ?_
    clear a7 am
    rintro⟨j,x⟩ ρ13 b3 ⟨a1,ap,hx,aq,hqe⟩
    have av:w.heap.size≤b3.heap.size:=a1.size
    refine A0<|qS [0,0,0,0,2,0,0] Z<|Af 2 Z<|AV (RN.isPtr<|RN.ptr (AC dp) (by decide) Fn.zero a5 sD) Z Ac<|AP (p:=Ax a0 a 3) 2 Cn Z (a3 _<|Az.of_ext [] a1) Ac<|Al (p:=AA (Ax a0 a 3) 2) (.inr Z) a6 BA Z ((a3 _<|Az.of_ext [] a1).ld (i:=2) GD) Ac<|AN (v:=a6) DE Z a9.rn.isSl Ac ?_
    by_cases ah:(j:Int)<((((p.getD a Fn.zero).outs).length:Nat):Int)
    ·refine Ay true Z Z (A7 ah) Ac<|Ai<|Ag Z<|A4<|A0<|A5<|qS [0,0,0,2,0,0,0,3,0] Z ?_
     have hst:=Eh (l:=(p.getD a Fn.zero).outs) (k:=j) oM
     have hle:=DH (p.getD a Fn.zero).outs (j+1)
     have hnx:=OM (l:=(p.getD a Fn.zero).outs) (k:=j) (x:=((400:Nat):Int)) oM oM
     have hnr:=QS (e:=(p.getD a Fn.zero).outs.getD j Ex.zero) (x:=x) oM
     refine Af 1 Z<|AV (RN.isPtr<|RN.ptr (AC dp) (by decide) Fn.zero a5 sD) Z Ac<|AP (p:=Ax a0 a 3) 2 Cn Z (a3 _<|Az.of_ext [] a1) Ac<|Al (p:=AA (Ax a0 a 3) 2) (.inr Z) a6 BA Z ((a3 _<|Az.of_ext [] a1).ld (i:=2) GD) Ac<|Af 1 Z ?_
     refine Aw (v:=a6) j DE BE Z Z a9.rn.isSl Z sD Ac<|Af 1 Z ?_
     refine As 239 [] [] [Ax a6 j 5,zI x] Z Z YE Ac (IU _ dp (Ax a6 j 5) (((p.getD a Fn.zero).outs).getD j Ex.zero) _ (RN.ptr (AL dp) (by decide) Ex.zero (a9.rn.ext (Am<|AL dp) a1) sD) oM oM oM) ?_
     rintro b4 b5 ⟨rfl,aa⟩
     refine⟨_,rfl,aa,?_⟩
     have aw:=aa.size
     have a2:=a1.trans aa
     refine Ae 1 Z<|A0<|AW _ [0,0,0,0,0,0,0,1,0,0,0,0,0,1,0,3,0,0] mixed (by kernel_rfl)<|Af 1 Z ?_
     by_cases ai:Jk (((p.getD a Fn.zero).outs).getD j Ex.zero) x<((0:Nat):Int)
     ·exact Ay true Z Z (A7 ai) Ac<|Ae 16 Z<|Ag Z<|qT Z<|A3<|AK<|Ap<|Ap<|AK<|Ap<|Ah [4] Z (.bool false) Z ⟨Ka,a2.drew⟩
     refine Ay false Z Z (A8 ai) Ac<|Af 3 Z<|AV (RN.isPtr<|RN.ptr (AC dp) (by decide) Fn.zero a5 sD) Z (Ak (e:=75) Z Z Z)<|AP (p:=Ax a0 a 3) 2 Cn Z (a3 _<|Az.of_ext [] a2.drew) (Ak (e:=75) Z Z Z)<|Al (p:=AA (Ax a0 a 3) 2) (.inl Z) a6 BA Z ((a3 _<|Az.of_ext [] a2.drew).ld (i:=2) GD) (Ak (e:=75) Z Z Z)<|Af 1 Z ?_
     refine Aw (v:=a6) j DE BE Z Z a9.rn.isSl Z sD (Ak (e:=75) Z Z Z)<|Af 1 Z ?_
     refine AV (RN.isPtr<|RN.ptr (AC dp) (by decide) Fn.zero a5 sD) Z (Ak (e:=75) Z Z Z)<|AP (p:=Ax a0 a 3) 1 CG Z (a3 _<|Az.of_ext [] a2.drew) (Ak (e:=75) Z Z Z)<|Al (p:=AA (Ax a0 a 3) 1) (.inl Z) (zI<|(p.getD a Fn.zero).params) AO Z ((a3 _<|Az.of_ext [] a2.drew).ld (i:=1) GD) (Ak (e:=75) Z Z Z)<|Af 1 Z ?_
     refine As 240 [] [] [vp,Ax a6 j 5,zI<|(p.getD a Fn.zero).params,zI (a:Int)] Z Z mI (Ak (e:=75) Z Z Z) (NT _ dp vp (p) dp (Ax a6 j 5) (((p.getD a Fn.zero).outs).getD j Ex.zero) _ _ (hp.ext (Bf<|B2 dp) a2.drew) (RN.ptr (AL dp) (by decide) Ex.zero (a9.rn.ext (Am<|AL dp) a2.drew) sD) a9.rng oM oM) ?_
     rintro b6 b7 ⟨rfl,a8⟩
     refine⟨_,rfl,a8,?_⟩
     replace a8:=a8.of_drew
     have ax:=a8.size
     have aj:=a2.trans a8
     refine BH (!(OJ p (((p.getD a Fn.zero).outs).getD j Ex.zero) ((p.getD a Fn.zero).params) (a:Int))) Z Z (Ak (e:=75) Z Z Z)<|Ae 1 Z ?_
     cases ak:(!(OJ p (((p.getD a Fn.zero).outs).getD j Ex.zero) ((p.getD a Fn.zero).params) (a:Int)))
     ·refine Aj (by first|rfl|exact zW ak)<|A4<|Ad _ [0,0,0] Z<|Af 1 Z<|AG ((j+1:Nat):Int) Z Z (Bd oM sD) Ac<|Ae 1 Z ?_
      exact⟨(j+1,Jk (((p.getD a Fn.zero).outs).getD j Ex.zero) x),_,rfl,zR,⟨aj,sD,(by rw[hnx,← hx]),oM,(by exact Ep hqe (ES (by assumption)))⟩,zD⟩
     exact Ag (by first|rfl|exact zW ak)<|qT Z<|A3<|AK<|Ap<|Ap<|AK<|Ap<|Ah [4] Z (.bool false) Z ⟨Ka,aj⟩
    exact Ay false Z Z (A8 ah) Ac<|Ai<|Aj Z<|A6<|Au<|Au<|An<|qT Z<|A3<|Ah [4] Z (.bool true) Z ⟨Ka,a1⟩
   exact Ag (by first|rfl|exact zW ar)<|qT Z<|A3<|Ap<|Ah [4] Z (.bool false) Z ⟨Ka,a4⟩
  exact Ae 8 Z<|Ag Z<|qT Z<|A3<|Ap<|Ah [4] Z (.bool false) Z ⟨Ka,a4⟩
 exact Ae 16 Z<|Ag Z<|qT Z<|A3<|Ap<|Ah [4] Z (.bool false) Z ⟨Ka,a4⟩
theorem St {p:Prop}(h:p:=by first|exact AF (YP oM)|exact AF (YQ oM oM oM hq)|exact AF (K5 (k:=k) oM (GL (by assumption)))):p:=h
theorem KZ (w:World)(dp:Nat)(vp:Value)(p:List Fn)(hp:RN [] (rP (LS dp)) w.heap vp p)(hz:Px p) :
  Calls Tryz.prog 138 #[vp] w (fun e w'=>e=.returned (.bool (KE p))∧AB w w'):=by
 refine At [vp] 23 Tryz.func138 Z Z sM ?_
 have a1:AB w w:=AB.refl w
 refine qT Z<|A0<|qS [0,0,0,2,0,0] Z<|Af 1 Z<|AV (hp.isPtr) Z Ac ?_
 obtain⟨cs1,ac,a3⟩:=RN.at (B2 _) hp
 obtain⟨a4,rfl,a5⟩:=RPr.of ac
 have a2:=a5.lenle
 unfold maxLen at a2
 refine AP (p:=vp) 0 BQ Z (a3 _<|Az.of_ext [] a1) Ac<|Al (p:=AA vp 0) (.inr Z) a4 Cr Z ((a3 _<|Az.of_ext [] a1).ld (i:=0) (by simp[Dd,FU])) Ac<|AN (v:=a4) H6 Z a5.isSl Ac ?_
 by_cases a7:((16:Nat):Int)<(p.length:Int)
 ·exact C9 true Z Z (A7 a7) Ac<|Ai<|Ag Z<|qT Z<|A3<|Ap<|Ah [2] Z (.bool false) Z ⟨St,a1⟩
 refine C9 false Z Z (A8 a7) Ac<|Ai<|Aj Z<|A4<|A0<|qT Z<|A5<|AQ (S:=Nat) (fun k=>([(3,zI (k:Int)),(0,vp)])) (fun k W=>AB w W∧k≤p.length∧(List.range k).all (M3 p)=true) (fun k=>p.length-k) 0 ⟨rfl,rfl,trivial⟩ ⟨a1,sD,(by rfl)⟩ ?_
 clear a1 a2
 rintro k ρ3 w3 ⟨a0,a8,hq⟩
 have ad:w.heap.size≤w3.heap.size:=a0.size
 refine A0<|qS [0,0,0,0,2,0,0] Z<|Af 2 Z<|AV (hp.isPtr) Z Ac<|AP (p:=vp) 0 BQ Z (a3 _<|Az.of_ext [] a0) Ac<|Al (p:=AA vp 0) (.inr Z) a4 Cr Z ((a3 _<|Az.of_ext [] a0).ld (i:=0) (by simp[Dd,FU])) Ac<|AN (v:=a4) H6 Z a5.isSl Ac ?_
 by_cases a9:(k:Int)<(p.length:Int)
 ·refine Ay true Z Z (A7 a9) Ac<|Ai<|Ag Z<|A4<|A0<|A5<|qS [0,0,3,0] Z<|Af 2 Z<|As 207 [] [] [vp,zI (k:Int)] Z Z lZ Ac (NU _ dp vp (p) (k) (hp.ext (Bf<|B2 dp) a0) oM oM hz) ?_
  rintro e5 w5 ⟨rfl,a6⟩
  refine⟨_,rfl,a6,?_⟩
  have ae:=a6.size
  have aa:=a0.trans a6
  refine BH (!(M3 p k)) Z Z Ac<|Ai ?_
  cases ab:(!(M3 p k))
  ·refine Aj (by first|rfl|exact zW ab)<|A4<|Ad _ [0,0,0] Z<|Af 1 Z<|AG ((k+1:Nat):Int) Z Z (Bd oM sD) Ac<|Ae 1 Z ?_
   exact⟨k+1,_,rfl,⟨rfl,rfl,trivial⟩,⟨aa,sD,(by exact Ep hq (ES (by assumption)))⟩,zD⟩
  exact Ag (by first|rfl|exact zW ab)<|qT Z<|A3<|AK<|Ap<|Ap<|AK<|Ap<|Ah [2] Z (.bool false) Z ⟨St,aa⟩
 exact Ay false Z Z (A8 a9) Ac<|Ai<|Aj Z<|A6<|Au<|Au<|An<|qT Z<|A3<|Ah [2] Z (.bool true) Z ⟨St,a0⟩
theorem Su {p:Prop}(h:p:=by first|exact B5 (eN (GL (by assumption)))|exact B5 (eO (ES (by assumption)) (Rf (GL (by assumption))))|exact B5 (eP (ES (by assumption)) (HC (ES (by assumption))))):p:=h
theorem Mb (w:World)(dp:Nat)(vp:Value)(p:List Fn)(f:Int)(hp:RN [] (rP (LS dp)) w.heap vp p)(_hf:BI f)(hz:Px p) :
  Calls Tryz.prog 156 #[vp,zI f] w (fun e w'=>e=.returned (zI (Jz p f))∧AB w w'):=by
 refine At [vp,zI f] 17 Tryz.func156 Z Z sM ?_
 have a3:AB w w:=AB.refl w
 refine qT Z<|A0<|qS [0,3,0] Z<|Af 1 Z<|As 138 [] [] [vp] Z Z dQ Ac (KZ _ dp vp (p) (hp.ext (Bf<|B2 dp) a3) hz) ?_
 rintro e1 w1 ⟨rfl,a1⟩
 refine⟨_,rfl,a1,?_⟩
 have a9:=a1.size
 have a0:=a3.trans a1
 refine BH (!(KE p)) Z Z Ac<|Ai ?_
 cases a4:(!(KE p))
 ·refine Aj (by first|rfl|exact zW a4)<|A4<|A0<|qS [0,0,0,0,2,0,0,0,0] Z<|Af 2 Z<|AV (hp.isPtr) Z Ac ?_
  obtain⟨cs3,aa,a5⟩:=RN.at (B2 _) hp
  obtain⟨a6,rfl,a7⟩:=RPr.of aa
  have a2:=a7.lenle
  unfold maxLen at a2
  refine AP (p:=vp) 0 BQ Z (a5 _<|Az.of_ext [] a0) Ac<|Al (p:=AA vp 0) (.inr Z) a6 Cr Z ((a5 _<|Az.of_ext [] a0).ld (i:=0) (by simp[Dd,FU])) Ac<|AN (v:=a6) H6 Z a7.isSl Ac<|Cb ((p.length:Int)-1) Z Z (Dh oM oM) Ac<|AD 74 [] [] [zI f,zI ((0:Nat):Int),zI ((p.length:Int)-1)] Z Z Jl Ac (.bool (decide (((0:Nat):Int)≤f) && decide (f≤((p.length:Int)-1)))) (fun wq=>BJ wq _ _ _ _hf oM oM)<|BH (!(decide (((0:Nat):Int)≤f) && decide (f≤((p.length:Int)-1)))) Z Z Ac<|Ai ?_
  cases a8:(!(decide (((0:Nat):Int)≤f) && decide (f≤((p.length:Int)-1))))
  ·exact Aj (by first|rfl|exact zW a8)<|A4<|qT Z<|A3<|Ah [4] Z (zI ((0:Nat):Int)) Z ⟨Su,a0⟩
  exact Ag (by first|rfl|exact zW a8)<|qT Z<|A3<|Ap<|Ah [4] Z (zI ((2:Nat):Int)) Z ⟨Su,a0⟩
 exact Ag (by first|rfl|exact zW a4)<|qT Z<|A3<|Ap<|Ah [4] Z (zI ((1:Nat):Int)) Z ⟨Su,a0⟩
theorem CW (w:World)(x:Int)(K:Nat)(_hx:BI x)(_hK:K≤1000000000000)(hK:K≤1000000000) :
  Calls Tryz.prog 79 #[zI x,zI (K:Int)] w (fun e w'=>∃v0:Value,e=.returned (v0)∧AB w w'∧Fr (AY rI 2) w.heap.size w'.heap.size w'.heap v0 (cst K x)):=by
 refine At [zI x,zI (K:Int)] 14 Tryz.func79 Z Z sM ?_
 have a5:AB w w:=AB.refl w
 refine qT Z<|qS [0,3,0] Z<|Af 1 Z (FM (n:=K) Bm BM Z Z Z sD Ac fun v1 w1 a2 ab a0=>?_)
 have a6:=a2.size
 have a1:=a5.trans a2
 refine Ae 1 Z<|A0<|qS [0,0] Z<|Af 1 Z ?_
 by_cases a3:((0:Nat):Int)<(K:Int)
 ·refine C9 true Z Z (A7 a3) Ac<|Ai<|Ag Z<|Ad _ [0,0,0,4] Z<|Af 2 Z<|Aw (v:=v1) 0 Bm BM Z Z a0.isSl Z sD Ac ?_
  refine EV (v:=v1) (w:=w1) I0 Z Z _hx a0 sD Ac fun w3 F3 a4 ac a7 a8=>?_
  have a9:AB w w3:=a4.below a1 (fun c hc=>Aa (A9 _) (a7 c hc).1) a1.size
  have aa:=a4.size
  exact Ai<|qS [0,0] Z<|Ae 2 Z<|A3<|Ah [4] Z v1 Z ⟨v1,rfl,a9,(by exact a8.up o1)⟩
 exact C9 false Z Z (A8 a3) Ac<|Ai<|Aj Z<|A4<|qS [0,0] Z<|Ae 2 Z<|A3<|Ah [4] Z v1 Z ⟨v1,rfl,a1,(by have h:=a0.up o1;obtain rfl:K=0:=oM;exact h)⟩
theorem Sv (a:List Int)(y:Int):scl a y=CX a y:=by
  unfold scl CX
  exact Hj (d:=0) (k:=a.length) (fun r hr=>by rw[B8 (d:=0) hr,Bx _ hr]) (by simp) (by simp)
theorem CO {p:Prop}(h:p:=by first|omega|assumption|(simp only[zb,z9,z4,z6,z5,DR];omega)|(simp[zb,z9,z4,z6,z5,DR];done)|(simp[zb,z9,z4,z6,z5,DR];omega)):p:=h
theorem JH (w:World)(va:Value)(a:Sr)(vb:Value)(b:Sr)(ha:Rd (B3 rI) w.heap va a)(hb:Rd (B3 rI) w.heap vb b)(hla:a.length≤1000000000000)(hl:a.length≤b.length) :
  Calls Tryz.prog 253 #[va,vb] w (fun e w'=>∃v0:Value,e=.returned (v0)∧AB w w'∧Fr (AY rI 2) w.heap.size w'.heap.size w'.heap v0 (EE a b)):=by
 refine At [va,vb] 27 Tryz.func253 Z Z sM ?_
 have a8:AB w w:=AB.refl w
 have an:=ha.lenle
 have ao:=hb.lenle
 refine qT Z<|qS [3,0] Z (BS (rI) AS Bm BM Ac fun v1 w1 a4 af a9=>?_)
 have a5:=a4.size
 have aa:=a8.trans a4
 refine Ae 1 Z<|A0<|qT Z<|A5 ?_
 refine AQ (S:=Nat×Value) (fun⟨k,vo⟩=>([(5,vo),(6,zI (k:Int)),(0,va),(1,vb)])) (fun⟨k,vo⟩ W=>AB w W∧Fr (AY rI 2) w.heap.size W.heap.size W.heap vo (FN k fun t=>md (a.getD t 0+b.getD t 0))∧k≤a.length) (fun⟨k,vo⟩=>a.length-k) (0,v1) ⟨rfl,rfl,rfl,rfl,trivial⟩ ⟨aa,(by exact a9.up o1),CO⟩ ?_
 clear a8 a9 af a4 a5 aa
 rintro⟨k,vo⟩ ρ2 w2 ⟨a2,a1,ab⟩
 have ag:w.heap.size≤w2.heap.size:=a2.size
 refine A0<|qS [0,0,0,0] Z<|Af 2 Z<|AN (v:=va) Bm Z ha.isSl Ac ?_
 by_cases ac:(k:Int)<(a.length:Int)
 ·refine Ay true Z Z (A7 ac) Ac<|Ai<|Ag Z<|A4<|A0<|A5<|AW _ [0,0,0,0,1,0,0,0,1,0,3,4,0] mixed (by kernel_rfl)<|Af 3 Z<|Aw (v:=va) k Bm BM Z Z ha.isSl Z CO Ac ?_
  refine Al (p:=Ax va k 1) (.inl Z) (zI<|a.getD k 0) AO Z (AR a2.drew (ha.getI CO).1) Ac<|Af 2 Z ?_
  refine Aw (v:=vb) k Bm BM Z Z hb.isSl Z CO Ac ?_
  refine Al (p:=Ax vb k 1) (.inl Z) (zI<|b.getD k 0) AO Z (AR a2.drew (hb.getI CO).1) Ac ?_
  refine AD 50 [] [] [zI<|a.getD k 0,zI<|b.getD k 0] Z Z iH Ac (zI<|md ((a.getD k 0)+(b.getD k 0))) (fun wq=>IP wq _ _ (ha.getI CO).2 (hb.getI CO).2) ?_
  refine Bs (u:=zI<|md ((a.getD k 0)+(b.getD k 0))) (B:=w2.heap.size) AS Bm BM Z Z (Mf w2.heap.size w2.heap.size _ _<|DI _) (A9 _) Ac fun v5 w5 a3 al ad=>?_
  replace a3:=a3.of_drew
  have ah:=a3.size
  have a6:=a2.trans a3
  have a0:=a1.ext (o1) a3
  refine Ey (v:=vo) (a:=v5) Bm BM Z Z Z a0 a6.size ad.rd1 CO (by unfold maxLen;first|omega|assumption|(simp[DR];done)|(simp[DR];omega)) Ac fun v6 w6 F6 a7 ae ai=>?_
  have aj:AB w w6:=a7.below a6 (fun c hc=>Aa (A9 _) (ae c hc).1) a6.size
  have ak:=a7.size
  have am:=ad.chg (o1) a7 fun c hc=>zH<|ae c hc
  refine Ae 1 Z<|Ad _ [0,0,0] Z<|Af 1 Z<|AG ((k+1:Nat):Int) Z Z (Bd oM CO) Ac<|Ae 1 Z ?_
  exact⟨(k+1,v6),_,rfl,zR,⟨aj,(by rw[MW];exact ai.up o1),CO⟩,zD⟩
 exact Ay false Z Z (A8 ac) Ac<|Ai<|Aj Z<|A6<|Au<|Au<|An<|qS [0,0] Z<|Ae 2 Z<|A3<|Ah [4] Z vo Z ⟨vo,rfl,a2,(by have h:=a1.up o1;rw[show k=a.length from by omega]at h;exact h)⟩
theorem Oj (w:World)(va:Value)(a:Sr)(vb:Value)(b:Sr)(ha:Rd (B3 rI) w.heap va a)(hb:Rd (B3 rI) w.heap vb b)(hla:a.length≤1000000000000)(hlb:b.length≤1000000000000)(hl:a.length≤b.length) :
  Calls Tryz.prog 254 #[va,vb] w (fun e w'=>∃v0:Value,e=.returned (v0)∧AB w w'∧Fr (AY rI 2) w.heap.size w'.heap.size w'.heap v0 (DJ a b)):=by
 refine At [va,vb] 9 Tryz.func254 Z Z sM ?_
 have a7:AB w w:=AB.refl w
 have ab:=ha.lenle
 have ac:=hb.lenle
 refine qT Z<|qS [0,0,3,3,0] Z<|Af 2 Z<|As 165 [] [] [vb,zI ((1000002:Nat):Int)] Z Z Yu Ac (FQ _ _ _ _ (hb.ext g1 a7) oM hlb) ?_
 rintro e1 w1 ⟨a3,rfl,a4,a0⟩
 refine⟨_,rfl,a4,?_⟩
 have a8:=a4.size
 have a5:=a7.trans a4
 refine As 253 [] [] [va,a3] Z Z eE Ac (JH _ _ _ _ _ (ha.ext g1 a5) a0.rd1 hla (by unfold scl;simp;omega)) ?_
 rintro e2 w2 ⟨a1,rfl,a6,a2⟩
 refine⟨_,rfl,a6,?_⟩
 have a9:=a6.size
 have aa:=a5.trans a6
 exact Ae 1 Z<|A3<|Ah [4] Z a1 Z ⟨a1,rfl,aa,(by rw[← VC hl,← Sv];exact(a2.up o1).low a5.size)⟩
theorem Ok (w:World)(va:Value)(a:Sr)(vb:Value)(b:Sr)(ha:Rd (B3 rI) w.heap va a)(hb:Rd (B3 rI) w.heap vb b)(hla:a.length≤1000000000000)(hl:a.length≤b.length) :
  Calls Tryz.prog 255 #[va,vb] w (fun e w'=>∃v0:Value,e=.returned (v0)∧AB w w'∧Fr (AY rI 2) w.heap.size w'.heap.size w'.heap v0 (Ci a b)):=by
 refine At [va,vb] 39 Tryz.func255 Z Z sM ?_
 have ab:AB w w:=AB.refl w
 have au:=ha.lenle
 have av:=hb.lenle
 refine qT Z<|qS [3,0] Z (BS (rI) AS Bm BM Ac fun v1 w1 a5 ak ac=>?_)
 have a6:=a5.size
 have ad:=ab.trans a5
 refine Ae 1 Z<|A0<|qT Z<|A5 ?_
 refine AQ (S:=Nat×Value) (fun⟨k,vo⟩=>([(5,vo),(6,zI (k:Int)),(0,va),(1,vb)])) (fun⟨k,vo⟩ W=>AB w W∧Fr (AY rI 2) w.heap.size W.heap.size W.heap vo (FN k fun t=>O8 a b t (t+1))∧k≤a.length) (fun⟨k,vo⟩=>a.length-k) (0,v1) ⟨rfl,rfl,rfl,rfl,trivial⟩ ⟨ad,(by exact ac.up o1),CO⟩ ?_
 clear ab ac ak a5 a6 ad
 rintro⟨k,vo⟩ ρ2 w2 ⟨a4,a0,ae⟩
 have a7:w.heap.size≤w2.heap.size:=a4.size
 refine A0<|qS [0,0,0,0] Z<|Af 2 Z<|AN (v:=va) Bm Z ha.isSl Ac ?_
 by_cases af:(k:Int)<(a.length:Int)
 ·refine Ay true Z Z (A7 af) Ac<|Ai<|Ag Z<|A4<|A0<|A5<|qT Z<|A0<|qT Z<|A5 ?_
  refine AQ (S:=Nat×Int) (fun⟨i,s⟩=>([(7,zI s),(8,zI (i:Int)),(0,va),(1,vb),(5,vo),(6,zI (k:Int))])) (fun⟨i,s⟩ W=>AB w W∧Fr (AY rI 2) w.heap.size W.heap.size W.heap vo (FN k fun t=>O8 a b t (t+1))∧i≤k+1∧s=O8 a b k i∧(0≤s∧s<1000003)) (fun⟨i,s⟩=>k+1-i) (0,((0:Nat):Int)) ⟨rfl,rfl,rfl,rfl,rfl,rfl,trivial⟩ ⟨a4,a0.up o1,CO,(by rfl),oM⟩ ?_
  clear a0 a4 a7
  rintro⟨i,s⟩ ρ4 w4 ⟨a3,a2,ag,hs,hsr⟩
  have al:w.heap.size≤w4.heap.size:=a3.size
  refine A0<|qS [0,0,0] Z<|Af 2 Z ?_
  by_cases ah:(i:Int)≤(k:Int)
  ·refine DF true Z Z (A7 ah) Ac<|Ai<|Ag Z<|A4<|A0<|A5<|AW _ [0,0,0,0,1,0,0,0,0,0,1,0,0,0] mixed (by kernel_rfl)<|Af 3 Z<|Aw (v:=va) i Bm BM Z Z ha.isSl Z CO Ac ?_
   refine Al (p:=Ax va i 1) (.inl Z) (zI<|a.getD i 0) AO Z (AR a3.drew (ha.getI CO).1) Ac<|Af 3 Z<|Cb ((k-i:Nat):Int) Z Z (by rw[Dh oM oM];omega) Ac ?_
   refine Aw (v:=vb) (k-i) Bm BM Z Z hb.isSl Z CO Ac ?_
   refine Al (p:=Ax vb (k-i) 1) (.inl Z) (zI<|b.getD (k-i) 0) AO Z (AR a3.drew (hb.getI CO).1) Ac ?_
   refine AD 112 [] [] [zI<|a.getD i 0,zI<|b.getD (k-i) 0] Z Z JA Ac (zI<|md ((a.getD i 0)*(b.getD (k-i) 0))) (fun wq=>Cy wq _ _ (ha.getI CO).2 (hb.getI CO).2) ?_
   refine AD 50 [] [] [zI s,zI<|md ((a.getD i 0)*(b.getD (k-i) 0))] Z Z iH Ac (zI<|md (s+(md ((a.getD i 0)*(b.getD (k-i) 0))))) (fun wq=>IP wq _ _ oM<|DI _)<|Ae 1 Z<|Ad _ [0,0,0] Z<|Af 1 Z<|AG ((i+1:Nat):Int) Z Z (Bd oM CO) Ac<|Ae 1 Z ?_
   exact⟨(i+1,md (s+(md ((a.getD i 0)*(b.getD (k-i) 0))))),_,rfl,zR,⟨a3.drew,a2.up o1,CO,(by rw[GO,hs];rfl),(by exact BU _)⟩,zD⟩
  refine DF false Z Z (A8 ah) Ac<|Ai<|Aj Z<|A6<|Au<|Au<|An<|Ad _ [0,0,3,4,0] Z<|Af 2 Z (Bs (u:=zI s) (B:=w4.heap.size) AS Bm BM Z Z (Mf w4.heap.size w4.heap.size _ _ oM) (A9 _) Ac fun v8 w8 a8 ar ai=>?_)
  have am:=a8.size
  have a9:=a3.trans a8
  have a1:=a2.ext (o1) a8
  refine Ey (v:=vo) (a:=v8) Bm BM Z Z Z a1 a9.size ai.rd1 CO (by unfold maxLen;first|omega|assumption|(simp[DR];done)|(simp[DR];omega)) Ac fun v9 w9 F9 aa aj an=>?_
  have ao:AB w w9:=aa.below a9 (fun c hc=>Aa (A9 _) (aj c hc).1) a9.size
  have ap:=aa.size
  have aq:=ai.chg (o1) aa fun c hc=>zH<|aj c hc
  refine Ae 1 Z<|Ad _ [0,0,0] Z<|Af 1 Z<|AG ((k+1:Nat):Int) Z Z (Bd oM CO) Ac<|Ae 1 Z ?_
  exact⟨(k+1,v9),_,rfl,zR,⟨ao,(by rw[MW];have h:=an.up o1;rw[hs,show i=k+1 from by omega]at h;exact h),CO⟩,zD⟩
 exact Ay false Z Z (A8 af) Ac<|Ai<|Aj Z<|A6<|Au<|Au<|An<|qS [0,0] Z<|Ae 2 Z<|A3<|Ah [4] Z vo Z ⟨vo,rfl,a4,(by have h:=a0.up o1;rw[show k=a.length from by omega]at h;exact h)⟩
theorem Dy {p:Prop}(h:p:=by first|omega|assumption|(simp only[zb,z9,z4,z6,z5,Ea];omega)|(simp[zb,z9,z4,z6,z5,Ea];done)|(simp[zb,z9,z4,z6,z5,Ea];omega)):p:=h
theorem Ol (w:World)(va:Value)(a:Sr)(vb:Value)(b:Sr)(ha:Rd (B3 rI) w.heap va a)(hb:Rd (B3 rI) w.heap vb b)(hla:a.length≤1000000000000)(hl:a.length≤b.length)(h1:0<b.length)(hqa:B9 a=true) :
  Calls Tryz.prog 256 #[va,vb] w (fun e w'=>∃v0:Value,e=.returned (v0)∧AB w w'∧Fr (AY rI 2) w.heap.size w'.heap.size w'.heap v0 (C6 a b)):=by
 refine At [va,vb] 50 Tryz.func256 Z Z sM ?_
 have ag:AB w w:=AB.refl w
 have au:=ha.lenle
 have av:=hb.lenle
 refine qT Z<|qS [3,0] Z (BS (rI) AS Bm BM Ac fun v1 w1 aa ao ah=>?_)
 have ab:=aa.size
 have ac:=ag.trans aa
 refine Ae 1 Z<|qS [0,0,2,0,0] Z<|Af 1 Z<|Aw (v:=vb) 0 Bm BM Z Z hb.isSl Z Dy Ac ?_
 refine Al (p:=Ax vb 0 1) (.inr Z) (zI<|b.getD 0 0) AO Z (AR ac (hb.getI Dy).1) Ac ?_
 refine AD 163 [] [] [zI<|b.getD 0 0] Z Z Yt Ac (zI<|inv<|b.getD 0 0) (fun wq=>H7 wq _ (hb.getI Dy).2)<|Ae 1 Z<|A0<|qT Z<|A5 ?_
 refine AQ (S:=Nat×Value) (fun⟨k,vo⟩=>([(5,vo),(7,zI (k:Int)),(0,va),(1,vb),(6,zI<|inv<|b.getD 0 0)])) (fun⟨k,vo⟩ W=>AB w W∧Fr (AY rI 2) w.heap.size W.heap.size W.heap vo (Jw a b k)∧k≤a.length) (fun⟨k,vo⟩=>a.length-k) (0,v1) ⟨rfl,rfl,rfl,rfl,rfl,trivial⟩ ⟨ac,(by exact ah.up o1),Dy⟩ ?_
 clear ag ah ao aa ab ac
 rintro⟨k,vo⟩ ρ3 w3 ⟨a6,a1,ai⟩
 have ad:w.heap.size≤w3.heap.size:=a6.size
 refine A0<|qS [0,0,0,0] Z<|Af 2 Z<|AN (v:=va) Bm Z ha.isSl Ac ?_
 by_cases aj:(k:Int)<(a.length:Int)
 ·refine Ay true Z Z (A7 aj) Ac<|Ai<|Ag Z<|A4<|A0<|A5<|qS [0,0,0,2,0] Z<|Af 2 Z<|Aw (v:=va) k Bm BM Z Z ha.isSl Z Dy Ac ?_
  refine Al (p:=Ax va k 1) (.inr Z) (zI<|a.getD k 0) AO Z (AR a6 (ha.getI Dy).1) Ac<|Ae 1 Z<|A0<|qT Z<|A5 ?_
  refine AQ (S:=Nat×Int) (fun⟨i,t⟩=>([(8,zI t),(9,zI (i:Int)),(0,va),(1,vb),(5,vo),(6,zI<|inv<|b.getD 0 0),(7,zI (k:Int))])) (fun⟨i,t⟩ W=>AB w W∧Fr (AY rI 2) w.heap.size W.heap.size W.heap vo (Jw a b k)∧i≤k∧t=Pj a b (Jw a b k) k i∧(0≤t∧t<1000003)) (fun⟨i,t⟩=>k-i) (0,a.getD k 0) ⟨rfl,rfl,rfl,rfl,rfl,rfl,rfl,trivial⟩ ⟨a6,a1.up o1,Dy,(by rfl),(by exact Bg hqa k)⟩ ?_
  clear a1 a6 ad
  rintro⟨i,t⟩ ρ5 w5 ⟨a9,a0,ak,ht,htr⟩
  have ap:w.heap.size≤w5.heap.size:=a9.size
  refine A0<|qS [0,0,0] Z<|Af 2 Z ?_
  by_cases al:(i:Int)<(k:Int)
  ·refine Ay true Z Z (A7 al) Ac<|Ai<|Ag Z<|A4<|A0<|A5<|AW _ [0,0,0,0,1,0,0,0,0,0,1,0,0,0] mixed (by kernel_rfl) ?_
   have hmn:=BU ((Jw a b k).getD i 0*b.getD (k-i) 0)
   refine Af 3 Z<|Aw (v:=vo) i Bm BM Z Z a0.isSl Z Dy Ac ?_
   refine Al (p:=Ax vo i 1) (.inl Z) (zI<|(Jw a b k).getD i 0) AO Z (a0.rd1.getI Dy).1 Ac (Af 3 Z<|Cb ((k-i:Nat):Int) Z Z (by rw[Dh oM oM];omega) Ac ?_)
   refine Aw (v:=vb) (k-i) Bm BM Z Z hb.isSl Z Dy Ac ?_
   refine Al (p:=Ax vb (k-i) 1) (.inl Z) (zI<|b.getD (k-i) 0) AO Z (AR a9.drew (hb.getI Dy).1) Ac ?_
   refine AD 112 [] [] [zI<|(Jw a b k).getD i 0,zI<|b.getD (k-i) 0] Z Z JA Ac (zI<|md (((Jw a b k).getD i 0)*(b.getD (k-i) 0))) (fun wq=>Cy wq _ _ (a0.rd1.getI Dy).2 (hb.getI Dy).2) ?_
   refine AD 223 [] [] [zI t,zI<|md (((Jw a b k).getD i 0)*(b.getD (k-i) 0))] Z Z eA Ac (zI<|md (t-(md (((Jw a b k).getD i 0)*(b.getD (k-i) 0))))) (fun wq=>Ih wq _ _ oM (DI _) oM)<|Ae 1 Z<|Ad _ [0,0,0] Z<|Af 1 Z<|AG ((i+1:Nat):Int) Z Z (Bd oM Dy) Ac<|Ae 1 Z ?_
   exact⟨(i+1,md (t-(md (((Jw a b k).getD i 0)*(b.getD (k-i) 0))))),_,rfl,zR,⟨a9.drew,a0.up o1,Dy,(by rw[Ks,ht];rfl),(by exact BU _)⟩,zD⟩
  refine Ay false Z Z (A8 al) Ac<|Ai<|Aj Z<|A6<|Au<|Au<|An<|Ad _ [0,0,0,0,3,4,0] Z<|Af 3 Z<|AD 112 [] [] [zI t,zI<|inv<|b.getD 0 0] Z Z JA Ac (zI<|md (t*(inv<|b.getD 0 0))) (fun wq=>Cy wq _ _ oM<|Mh _) (Bs (u:=zI<|md (t*(inv<|b.getD 0 0))) (B:=w5.heap.size) AS Bm BM Z Z (Mf w5.heap.size w5.heap.size _ _<|DI _) (A9 _) Ac fun aw az a3 aq a7=>?_)
  have am:=a3.size
  have a4:=a9.trans a3
  have a2:=a0.ext (o1) a3
  refine Ey (v:=vo) (a:=aw) Bm BM Z Z Z a2 a4.size a7.rd1 Dy (by unfold maxLen;first|omega|assumption|(simp[Ea];done)|(simp[Ea];omega)) Ac fun ax ay b0 a5 a8 ae=>?_
  have af:AB w ay:=a5.below a4 (fun c hc=>Aa (A9 _) (a8 c hc).1) a4.size
  have an:=a5.size
  have ar:=a7.chg (o1) a5 fun c hc=>zH<|a8 c hc
  refine Ae 1 Z<|Ad _ [0,0,0] Z<|Af 1 Z<|AG ((k+1:Nat):Int) Z Z (Bd oM Dy) Ac<|Ae 1 Z ?_
  exact⟨(k+1,ax),_,rfl,zR,⟨af,(by have h:=ae.up o1;rw[ht,show i=k from by omega]at h;exact h),Dy⟩,zD⟩
 exact Ay false Z Z (A8 aj) Ac<|Ai<|Aj Z<|A6<|Au<|Au<|An<|qS [0,0] Z<|Ae 2 Z<|A3<|Ah [4] Z vo Z ⟨vo,rfl,a6,(by have h:=a1.up o1;rw[show k=a.length from by omega]at h;exact h)⟩
def SV (F d:Nat):Prop:=∀(w:World) (S:List Nat) (g:Nat) (pp:Value) (dp n s0:Nat) (c0:Int) (p:List Fn) (ve:Value) (ex:Ex) (vv:Value) (env:List (List Int)) (hS:∀b∈S,b<w.heap.size) (hgS:g∈S) (hB0:BX w.heap g [pp,.int .i64 ((n:Nat):Int),.int .i64 ((s0:Nat):Int),.int .i64 c0]) (hp:RN S (rP (LS dp)) w.heap pp p) (hn:1≤n∧n≤13) (hs0:s0≤3000) (hc0:0≤c0∧c0≤9) (hex:RN S (rP (P9 d)) w.heap ve ex) (henv:RN S (B3 (B3 rI)) w.heap vv env) (hqenv:Cj vv)
  (hvp:J2 p) (hF:F≤p.length) (hwf:wf p ((F:Nat):Int) ex ((env.length:Nat):Int)=true) (hse:BC n env) (hdp:env.length+ex.deep≤1000000),
  Calls Tryz.prog 221 #[.pointer (some ⟨g,0,none⟩),ve,vv] w (fun e w'=>∃(v:Value) (x:List Int) (s1:Nat) (c1:Int),e=.returned v∧Az [g] w w'∧BX w'.heap g [pp,.int .i64 ((n:Nat):Int),.int .i64 ((s1:Nat):Int),.int .i64 c1]∧RN S (B3 rI) w'.heap v x∧BN n x∧s1≤3000∧(0≤c1∧c1≤9)∧AX (go c0 (Eo n (Hc p n F) ex env s0)) x s1 c1)
def SC (F d:Nat):Prop:=∀(w:World) (S:List Nat) (g:Nat) (pp:Value) (dp n s0:Nat) (c0:Int) (p:List Fn) (ve:Value) (ex:Ex) (vv:Value) (env:List (List Int)) (hS:∀b∈S,b<w.heap.size) (hgS:g∈S) (hB0:BX w.heap g [pp,.int .i64 ((n:Nat):Int),.int .i64 ((s0:Nat):Int),.int .i64 c0]) (hp:RN S (rP (LS dp)) w.heap pp p) (hn:1≤n∧n≤13) (hs0:s0≤3000) (hc0:0≤c0∧c0≤9) (hex:RN S (rP (P9 d)) w.heap ve ex) (henv:RN S (B3 (B3 rI)) w.heap vv env) (hqenv:Cj vv)
  (hvp:J2 p) (hF:F≤p.length) (hwf:wf p ((F:Nat):Int) ex ((env.length:Nat):Int)=true) (hse:BC n env) (hdp:env.length+ex.deep≤1000000) (hk:ex.kind=10∨ex.kind=11),
  Calls Tryz.prog 252 #[.pointer (some ⟨g,0,none⟩),ve,vv] w (fun e w'=>∃(v:Value) (x:List Int) (s1:Nat) (c1:Int),e=.returned v∧Az [g] w w'∧BX w'.heap g [pp,.int .i64 ((n:Nat):Int),.int .i64 ((s1:Nat):Int),.int .i64 c1]∧RN S (B3 rI) w'.heap v x∧BN n x∧s1≤3000∧(0≤c1∧c1≤9)∧AX (go c0 (LX n (Hc p n F) ex env s0)) x s1 c1)
def SO (F:Nat):Prop:=∀(w:World) (S:List Nat) (g:Nat) (pp:Value) (dp n s0:Nat) (c0:Int) (p:List Fn) (dfx:Nat) (vf:Value) (fx:Fn) (va:Value) (env:List (List Int)) (hS:∀b∈S,b<w.heap.size) (hgS:g∈S) (hB0:BX w.heap g [pp,.int .i64 ((n:Nat):Int),.int .i64 ((s0:Nat):Int),.int .i64 c0]) (hp:RN S (rP (LS dp)) w.heap pp p) (hn:1≤n∧n≤13) (hs0:s0≤3000) (hc0:0≤c0∧c0≤9) (hfx:RN S (rP (cC dfx)) w.heap vf fx) (henv:RN S (B3 (B3 rI)) w.heap va env) (hqenv:Cj va)
  (hvp:J2 p) (hF:F≤p.length) (hwf:∀k,k<fx.outs.length→wf p ((F:Nat):Int) (fx.outs.getD k Ex.zero) ((env.length:Nat):Int)=true) (hse:BC n env) (hdp:∀k,k<fx.outs.length→env.length+(fx.outs.getD k Ex.zero).deep≤1000000) (hll:fx.outs.length≤1000000),
  Calls Tryz.prog 158 #[.pointer (some ⟨g,0,none⟩),vf,va] w (fun e w'=>∃(v:Value) (x:List (List Int)) (s1:Nat) (c1:Int),e=.returned v∧Az [g] w w'∧BX w'.heap g [pp,.int .i64 ((n:Nat):Int),.int .i64 ((s1:Nat):Int),.int .i64 c1]∧RN S (B3 (B3 rI)) w'.heap v x∧(Cj v∧x.length=fx.outs.length∧BC n x)∧s1≤3000∧(0≤c1∧c1≤9)∧AX (go c0 (Eb n (Hc p n F) fx.outs env s0)) x s1 c1)
theorem Do (w:World)(S:List Nat)(g:Nat)(pp:Value)(dp n s0:Nat)(c0:Int)(p:List Fn)(code:Int)(hS:∀b∈S,b<w.heap.size)(hgS:g∈S)(hB0:BX w.heap g [pp,zI (n:Int),zI (s0:Int),zI c0])(hp:RN S (rP (LS dp)) w.heap pp p)(hn:1≤n∧n≤13)(hs0:s0≤3000)(hc0:0≤c0∧c0≤9)(_hcode:BI code)(hcd:1≤code∧code≤9) :
  Calls Tryz.prog 250 #[zP g,zI code] w (fun e w'=>∃(v:Value) (x:Sr) (s1:Nat) (c1:Int),e=.returned v∧Az [g] w w'∧BX w'.heap g [pp,zI (n:Int),zI (s1:Int),zI c1]∧RN S (B3 rI) w'.heap v x∧BN n x∧s1≤3000∧(0≤c1∧c1≤9)∧(s1=s0∧c1=if c0=0 then code else c0)):=by
 refine At [zP g,zI code] 19 Tryz.func250 Z Z sM ?_
 have a9:Az [g] w w:=Az.refl [g] w
 have aj:=hB0.lt
 refine qT Z<|A0<|qS [0,0,0,2,0] Z<|Af 1 Z<|Be Z Ac<|Aq (p:=zP g) 3 Gd Z Z Ac<|Al (p:=AA (zP g) 3) (.inr Z) (zI c0) AO Z (hB0.ldp (i:=3) sM) Ac ?_
 by_cases aa:c0=((0:Nat):Int)
 ·refine Av true Z Z (A7 aa) Ac<|Ai<|Ag Z<|Ad _ [0,0,0,0,4] Z<|Af 2 Z<|Be Z Ac<|Aq (p:=zP g) 3 Gd Z Z Ac (BB (k:=3) (w:=w) I0 Z Z ⟨rfl,rfl⟩ hB0 sM Ac fun w2 ab ai a6=>?_)
  replace a6:BX w2.heap g [pp,zI (n:Int),zI (s0:Int),zI code]:=a6
  have ac:Az [g] w w2:=a9.trans ab
  have ad:=ab.size
  refine Ai<|qS [0,0,0,2,3,0] Z<|Af 1 Z<|Be Z Ac<|Aq (p:=zP g) 1 PZ Z Z Ac<|Al (p:=AA (zP g) 1) (.inr Z) (zI (n:Int)) M6 Z (a6.ldp (i:=1) sM) Ac ?_
  refine As 79 [] [] [zI ((0:Nat):Int),zI (n:Int)] Z Z UN Ac (CW _ _ (n) oM sD oM) ?_
  rintro e3 w3 ⟨a0,rfl,a7,a1⟩
  refine⟨_,rfl,a7,?_⟩
  have ae:=a7.size
  have af:Az [g] w w3:=ac.ext a7
  have a2:=a6.ext a7
  exact Ae 1 Z<|A3<|Ah [4] Z a0 Z ⟨a0,cst n ((0:Nat):Int),s0,code,rfl,af,a2,RN.of_fr1 a1 fun b hb=>zH<|hS b hb,(by exact Ft (by decide)),oM,oM,(by exact⟨rfl,by first|(rw[if_pos oM])|(rw[if_neg oM])⟩)⟩
 refine Av false Z Z (A8 aa) Ac<|Ai<|Aj Z<|A4<|qS [0,0,0,2,3,0] Z<|Af 1 Z<|Be Z Ac<|Aq (p:=zP g) 1 PZ Z Z Ac<|Al (p:=AA (zP g) 1) (.inr Z) (zI (n:Int)) M6 Z (hB0.ldp (i:=1) sM) Ac ?_
 refine As 79 [] [] [zI ((0:Nat):Int),zI (n:Int)] Z Z UN Ac (CW _ _ (n) oM sD oM) ?_
 rintro e4 w4 ⟨a3,rfl,a8,a4⟩
 refine⟨_,rfl,a8,?_⟩
 have ag:=a8.size
 have ah:Az [g] w w4:=a9.ext a8
 have a5:=hB0.ext a8
 exact Ae 1 Z<|A3<|Ah [4] Z a3 Z ⟨a3,cst n ((0:Nat):Int),s0,c0,rfl,ah,a5,RN.of_fr1 a4 fun b hb=>zH<|hS b hb,(by exact Ft (by decide)),oM,oM,(by exact⟨rfl,by first|(rw[if_pos oM])|(rw[if_neg oM])⟩)⟩
theorem Z3 {p:Prop}(h:p:=by unfold maxLen;first|omega|assumption|(simp only[zb,z9,z4,z6,z5];omega)|(simp[zb,z9,z4,z6,z5];done)|(simp[zb,z9,z4,z6,z5];omega)):p:=h
theorem Om (w:World)(S:List Nat)(vv:Value)(env:List (Sr))(vx:Value)(x:Sr)(hS:∀b∈S,b<w.heap.size)(henv:RN S (B3 (B3 rI)) w.heap vv env)(hqenv:Cj vv)(hx:RN S (B3 rI) w.heap vx x)(hel:env.length≤1000000) :
  Calls Tryz.prog 251 #[vv,vx] w (fun e w'=>∃v,e=.returned v∧AB w w'∧RN S (B3 (B3 rI)) w'.heap v (env++[x])∧Cj v):=by
 refine At [vv,vx] 25 Tryz.func251 Z Z sM ?_
 have ai:AB w w:=AB.refl w
 have b8:=henv.lenL
 unfold maxLen at b8
 have b9:=hx.lenL
 unfold maxLen at b9
 refine qT Z<|qS [3,0] Z (BS rV Bc Bn AU Ac fun v1 w1 a7 aq aj=>?_)
 have a8:=a7.size
 have ak:=ai.trans a7
 obtain⟨b2,F1,b3⟩:=Ic.nil (S:=S) (aj.low (B':=w.heap.size) (A9 _))
 refine Ae 1 Z<|A0<|qT Z<|A5<|AQ (S:=Nat×Value) (fun⟨k,vo⟩=>([(5,vo),(6,zI (k:Int)),(0,vv),(1,vx)])) (fun⟨k,vo⟩ W=>AB w W∧k≤env.length∧Pa 27 S w.heap.size W.heap vo (env.take k)) (fun⟨k,vo⟩=>env.length-k) (0,v1) ⟨rfl,rfl,rfl,rfl,trivial⟩ ⟨ak,sD,(by exact⟨_,_,by assumption⟩)⟩ ?_
 clear ai aj aq a7 a8 ak
 rintro⟨k,vo⟩ ρ2 w2 ⟨a6,al,hbld⟩
 have ar:w.heap.size≤w2.heap.size:=a6.size
 obtain⟨b4,F4,a3⟩:=hbld
 refine A0<|qS [0,0,0,0] Z<|Af 2 Z<|AN (v:=vv) Bn Z henv.slL Ac ?_
 by_cases am:(k:Int)<(env.length:Int)
 ·refine Ay true Z Z (A7 am) Ac<|Ai<|Ag Z<|A4<|A0<|A5<|Ad _ [0,0,0,0,2,3,4,0] Z<|Af 3 Z<|Aw (v:=vv) k Bn AU Z Z henv.slL Z sD Ac ?_
  obtain⟨a9,au,aa⟩:=RN.getL (w:=w) g1 [] (k:=k) henv sD
  have ab:=aa.lenL
  unfold maxLen at ab
  refine Al (p:=Ax vv k 1) (.inr Z) a9 B7 Z (au _<|Az.of_ext S a6) Ac (Bs (u:=a9) (B:=w2.heap.size) Bc Bn AU Z Z (LR w2.heap.size w2.heap.size _<|aa.one1 g1) (A9 _) Ac fun v7 w7 ac b5 av=>?_)
  have aw:=ac.size
  have ad:=a6.trans ac
  have ae:=a3.ext ac
  refine Ei (v:=vo) (a:=v7) (u:=a9) Bn AU Z Z Z ae oM av ((aa.add (F:=F4) g1 ae.low).ext g1 ad) sD Z3 Ac ?_
  rintro v9 w9 G9 an ax ⟨b6,F9,b7⟩
  have ay:=an.size
  have az:AB w w9:=an.below ad (fun c hc=>ae.low c (ax c hc)) ad.size
  refine Ae 1 Z<|Ad _ [0,0,0] Z<|Af 1 Z<|AG ((k+1:Nat):Int) Z Z (Bd oM sD) Ac<|Ae 1 Z ?_
  exact⟨(k+1,v9),_,rfl,zR,⟨az,sD,(by rw[Cp [] oM];exact⟨_,_,by assumption⟩)⟩,zD⟩
 refine Ay false Z Z (A8 am) Ac<|Ai<|Aj Z<|A6<|Au<|Au<|An<|qS [0,0,3,4,0] Z<|Af 2 Z (Bs (u:=vx) (B:=w2.heap.size) Bc Bn AU Z Z (LR w2.heap.size w2.heap.size _<|hx.one1 g1) (A9 _) Ac fun bb bd a0 b0 af=>?_)
 have ao:=a0.size
 have a1:=a6.trans a0
 have a2:=a3.ext a0
 refine Ei (v:=vo) (a:=bb) (u:=vx) Bn AU Z Z Z a2 oM af ((hx.add (F:=F4) g1 a2.low).ext g1 a1) sD Z3 Ac ?_
 rintro ba bc G12 a4 ag ⟨b1,be,a5⟩
 have ap:=a4.size
 have ah:AB w bc:=a4.below a1 (fun c hc=>a2.low c (ag c hc)) a1.size
 exact Ae 1 Z<|A3<|Ah [4] Z ba Z ⟨ba,rfl,ah,(by have h9:=(a5.done hS);rw[za oM]at h9;exact h9),a5.cap⟩
theorem Kb (w:World)(S:List Nat)(F:Nat)(g:Nat)(pp:Value)(dp n s0:Nat)(c0:Int)(p:List Fn)(dfx:Nat)(vf:Value)(fx:Fn)(va:Value)(env:List (Sr))(hS:∀b∈S,b<w.heap.size)(hgS:g∈S)(hB0:BX w.heap g [pp,zI (n:Int),zI (s0:Int),zI c0])(hp:RN S (rP (LS dp)) w.heap pp p)(hn:1≤n∧n≤13)(hs0:s0≤3000)(hc0:0≤c0∧c0≤9)(hfx:RN S (rP (cC dfx)) w.heap vf fx)(henv:RN S (B3 (B3 rI)) w.heap va env)(hqenv:Cj va)(hvp:J2 p)(hF:F≤p.length)(hwf:∀k,k<fx.outs.length→wf p (F:Int) (fx.outs.getD k Ex.zero) (env.length:Int)=true)(hse:BC n env)(hdp:∀k,k<fx.outs.length→env.length+(fx.outs.getD k Ex.zero).deep≤1000000)(hll:fx.outs.length≤1000000)(IHv:∀d,SV F d) :
  Calls Tryz.prog 158 #[zP g,vf,va] w (fun e w'=>∃(v:Value) (x:List (Sr)) (s1:Nat) (c1:Int),e=.returned v∧Az [g] w w'∧BX w'.heap g [pp,zI (n:Int),zI (s1:Int),zI c1]∧RN S (B3 (B3 rI)) w'.heap v x∧(Cj v∧x.length=fx.outs.length∧BC n x)∧s1≤3000∧(0≤c1∧c1≤9)∧AX (go c0 (Eb n (Hc p n F) fx.outs env s0)) x s1 c1):=by
 refine At [zP g,vf,va] 32 Tryz.func158 Z Z sM ?_
 have ao:Az [g] w w:=Az.refl [g] w
 have bg:=henv.lenL
 unfold maxLen at bg
 have bl:=hB0.lt
 refine qT Z<|qS [3,0] Z (BS rV Bc Bn AU Ac fun v1 w1 aa az ap=>?_)
 have ae:=aa.size
 have aq:Az [g] w w1:=ao.ext aa
 have a9:=hB0.ext aa
 obtain⟨bc,F1,bd⟩:=Ic.nil (S:=S) (ap.low (B':=w.heap.size) (A9 _))
 refine Ae 1 Z<|A0<|qT Z<|A5 ?_
 refine AQ (S:=Nat×Value×List (Sr)×Nat×Int) (fun⟨k,vo,xs,s9,c9⟩=>([(7,vo),(8,zI (k:Int)),(0,zP g),(1,vf),(2,va)])) (fun⟨k,vo,xs,s9,c9⟩ W=>Az [g] w W∧BX W.heap g [pp,zI (n:Int),zI (s9:Int),zI c9]∧k≤fx.outs.length∧Pa 27 S w.heap.size W.heap vo xs∧xs.length=k∧BC n xs∧s9≤3000∧(0≤c9∧c9≤9)∧AX (go c0<|Eb n (Hc p n F) (fx.outs.take k) env s0) xs s9 c9) (fun⟨k,vo,xs,s9,c9⟩=>fx.outs.length-k) (0,v1,([]:List (Sr)),s0,c0) ⟨rfl,rfl,rfl,rfl,rfl,trivial⟩ ⟨aq,a9,sD,(by exact⟨_,_,by assumption⟩),(by rfl),(by intro j hj;simp at hj),oM,oM,(by exact J3 _ _ _ _ _ _)⟩ ?_
 clear ao ap az aa ae aq
 rintro⟨k,vo,xs,s9,c9⟩ ρ2 w2 ⟨a3,a1,ar,hbld,hxl,hxs,au,av,hrl⟩
 have b0:w.heap.size≤w2.heap.size:=a3.size
 have be:=a1.lt
 obtain⟨bf,F5,a0⟩:=hbld
 refine A0<|qS [0,0,0,0,2,0,0] Z<|Af 2 Z<|AV (hfx.isPtr) Z Ac ?_
 obtain⟨cs6,b1,ab⟩:=RN.at (AC _) hfx
 obtain⟨a8,rfl,ac⟩:=RF.of b1
 have af:=ac.rn.lenle
 unfold maxLen at af
 refine AP (p:=vf) 2 Cn Z (ab _<|a3.sub<|Bq hgS) Ac<|Al (p:=AA vf 2) (.inr Z) a8 BA Z ((ab _<|a3.sub<|Bq hgS).ld (i:=2) (by simp[Dd,FU])) Ac<|AN (v:=a8) DE Z ac.rn.isSl Ac ?_
 by_cases aw:(k:Int)<(fx.outs.length:Int)
 ·refine Ay true Z Z (A7 aw) Ac<|Ai<|Ag Z<|A4<|A0<|A5<|Ad _ [0,0,0,0,0,2,0,0,0,4,3,4,0] Z<|Af 3 Z<|AV (hfx.isPtr) Z Ac<|AP (p:=vf) 2 Cn Z (ab _<|a3.sub<|Bq hgS) Ac<|Al (p:=AA vf 2) (.inr Z) a8 BA Z ((ab _<|a3.sub<|Bq hgS).ld (i:=2) (by simp[Dd,FU])) Ac<|Af 1 Z ?_
  refine Aw (v:=a8) k DE BE Z Z ac.rn.isSl Z sD Ac<|Af 1 Z ?_
  refine AE 221 [] [] [zP g,Ax a8 k 5,va] Z Z IM Ac (IHv dfx _ (S++F5) g pp dp (n) (s9) (c9) (p) (Ax a8 k 5) (fx.outs.getD k Ex.zero) va (env) (fun b hb=>(by rcases zi.1 hb with hb|hb;(have:=hS b hb;omega);exact a0.lt b hb:b<w2.heap.size)) (z8 _ hgS) a1 ((hp.add (F:=F5) (Bf<|B2 dp) a0.low).chg (Bf<|B2 dp)<|a3.sub<|Rr hgS) oM oM oM (RN.ptr (AL dfx) (by decide) Ex.zero ((ac.rn.add (F:=F5) (Am<|AL dfx) a0.low).chg (Am<|AL dfx)<|a3.sub<|Rr hgS) sD) ((henv.add (F:=F5) g2 a0.low).chg g2<|a3.sub<|Rr hgS) hqenv hvp oM (by exact hwf k oM) hse (by exact hdp k oM)) ?_
  rintro e8 w8 ⟨v8,x8,s8,c8,rfl,ag,b2,ad,ah,b3,b4,b5⟩
  refine⟨_,rfl,?_⟩
  have b6:=ag.size
  have b7:Az [g] w w8:=a3.trans ag
  have ai:=a0.run hgS oM ag
  have b8:=ah.1
  replace ad:RN (S++F5) (B3 rI) w8.heap v8 x8:=ad
  refine Bs (u:=v8) (B:=w8.heap.size) Bc Bn AU Z Z (LR w8.heap.size w8.heap.size _<|ad.one1 g1) (A9 _) Ac fun bh bi a2 b9 aj=>?_
  have ax:=a2.size
  have ak:Az [g] w bi:=b7.ext a2
  have a5:=b2.ext a2
  have a4:=ai.ext a2
  have al:=ad.ext g1 a2
  refine Ei (v:=vo) (a:=bh) (u:=v8) Bn AU Z Z Z a4 oM aj al sD (by unfold maxLen;first|omega|assumption|(simp;done)|(simp;omega)) Ac ?_
  rintro bj bk G17 a6 a7 ⟨ba,bm,bb⟩
  have ay:=a6.size
  have am:Az [g] w bk:=ak.fresh a6 (fun c hc=>a4.low c (a7 c hc))
  have an:=a5.chg a6 fun hm=>by have:=a4.low _ (a7 _ hm);have:=a4.lt _ (a7 _ hm);omega
  refine Ae 1 Z<|Ad _ [0,0,0] Z<|Af 1 Z<|AG ((k+1:Nat):Int) Z Z (Bd oM sD) Ac<|Ae 1 Z ?_
  exact⟨(k+1,bj,xs++[x8],s8,c8),_,rfl,zR,⟨am,an,sD,(by exact⟨_,_,by assumption⟩),(by rw[z4,zd,hxl]),(by exact BC.snoc hxs (by assumption)),oM,oM,(by exact IF oM hrl (by assumption))⟩,zD⟩
 exact Ay false Z Z (A8 aw) Ac<|Ai<|Aj Z<|A6<|Au<|Au<|An<|qS [0,0] Z<|Ae 2 Z<|A3<|Ah [6] Z vo Z ⟨vo,xs,s9,c9,rfl,a3,a1,a0.done hS,(by exact⟨a0.cap,zO,hxs⟩),oM,oM,(by rw[za oM]at hrl;exact hrl)⟩
theorem Z4 (F:Nat)(IH:∀d,SV F d):SO F:=by
 intro w S g pp dp n s0 c0 p dfx vf fx va env hS hgS hB0 hp hn hs0 hc0 hfx henv hqenv hvp hF hwf hse hdp hll
 exact Kb w S F g pp dp n s0 c0 p dfx vf fx va env hS hgS hB0 hp hn hs0 hc0 hfx henv hqenv hvp hF hwf hse hdp hll IH
theorem Z5 {p:Prop}(h:p:=by first|exact Xq oM oM hKr (by assumption)|exact Xt oM oM hKr (by rw[show(ex.count).toNat=i from by omega];exact hrl9)):p:=h
theorem I4 {p:Prop}(h:p:=by simp[Dd,FU]):p:=h
theorem Kc (w:World)(S:List Nat)(F:Nat)(g:Nat)(pp:Value)(dp n s0:Nat)(c0:Int)(p:List Fn)(dex:Nat)(ve:Value)(ex:Ex)(vv:Value)(env:List (Sr))(hS:∀b∈S,b<w.heap.size)(hgS:g∈S)(hB0:BX w.heap g [pp,zI (n:Int),zI (s0:Int),zI c0])(hp:RN S (rP (LS dp)) w.heap pp p)(hn:1≤n∧n≤13)(hs0:s0≤3000)(hc0:0≤c0∧c0≤9)(hex:RN S (rP (P9 dex)) w.heap ve ex)(henv:RN S (B3 (B3 rI)) w.heap vv env)(hqenv:Cj vv)(hvp:J2 p)(hF:F≤p.length)(hwf:wf p (F:Int) ex (env.length:Int)=true)(hse:BC n env)(hdp:env.length+ex.deep≤1000000)(hk:ex.kind=10∨ex.kind=11)(IH1:∀F',F'<F→∀d,SV F' d)(IH2:∀d',d'<dex→SV F d') :
  Calls Tryz.prog 252 #[zP g,ve,vv] w (fun e w'=>∃(v:Value) (x:Sr) (s1:Nat) (c1:Int),e=.returned v∧Az [g] w w'∧BX w'.heap g [pp,zI (n:Int),zI (s1:Int),zI c1]∧RN S (B3 rI) w'.heap v x∧BN n x∧s1≤3000∧(0≤c1∧c1≤9)∧AX (go c0 (LX n (Hc p n F) ex env s0)) x s1 c1):=by
 refine At [zP g,ve,vv] 81 Tryz.func252 Z Z sM ?_
 have bo:Az [g] w w:=Az.refl [g] w
 have d0:=henv.lenL
 unfold maxLen at d0
 have dh:=hB0.lt
 have hwk:=Mn hwf hk
 have ay:ex.kind≠9:=by omega
 have hkH:=DZ hk
 clear hk
 have hdk:=EW ex
 refine qT Z<|qS [3,0] Z (BS rV Bc Bn AU Ac fun v1 w1 az cf bp=>?_)
 have b2:=az.size
 have bq:Az [g] w w1:=bo.ext az
 have am:=hB0.ext az
 obtain⟨cv,F1,cw⟩:=Ic.nil (S:=S) (bp.low (B':=w.heap.size) (A9 _))
 refine Ae 1 Z<|A0<|qT Z<|A5 ?_
 refine AQ (S:=Nat×Value×List (Sr)×Nat×Int) (fun⟨k,vo,xs,s9,c9⟩=>([(7,vo),(8,zI (k:Int)),(0,zP g),(1,ve),(2,vv)])) (fun⟨k,vo,xs,s9,c9⟩ W=>Az [g] w W∧BX W.heap g [pp,zI (n:Int),zI (s9:Int),zI c9]∧k≤ex.kids.length∧Pa 27 S w.heap.size W.heap vo xs∧xs.length=k∧BC n xs∧s9≤3000∧(0≤c9∧c9≤9)∧AX (go c0<|Eb n (Hc p n F) (ex.kids.take k) env s0) xs s9 c9) (fun⟨k,vo,xs,s9,c9⟩=>ex.kids.length-k) (0,v1,([]:List (Sr)),s0,c0) ⟨rfl,rfl,rfl,rfl,rfl,trivial⟩ ⟨bq,am,sD,(by exact⟨_,_,by assumption⟩),(by rfl),(by intro j hj;simp at hj),oM,oM,(by exact J3 _ _ _ _ _ _)⟩ ?_
 clear bo bp cf az b2 bq
 rintro⟨k,vo,xs,s9,c9⟩ ρ2 w2 ⟨a0,a1,br,hbld,hxl,hxs,bs,bt,hrl⟩
 have b3:w.heap.size≤w2.heap.size:=a0.size
 have cx:=a1.lt
 obtain⟨cy,F5,a3⟩:=hbld
 refine A0<|qS [0,0,0,0,2,0,0] Z<|Af 2 Z<|AV (hex.isPtr) Z Ac ?_
 obtain⟨cs6,cg,a7⟩:=RN.at (AL _) hex
 obtain⟨dd6,al,cz,rfl,b0⟩:=RX.of cg
 have an:=b0.rn.lenle
 unfold maxLen at an
 refine AP (p:=ve) 4 Bt Z (a7 _<|a0.sub<|Bq hgS) Ac<|Al (p:=AA ve 4) (.inr Z) al BA Z ((a7 _<|a0.sub<|Bq hgS).ld (i:=4) I4) Ac<|AN (v:=al) DE Z b0.rn.isSl Ac ?_
 by_cases bu:(k:Int)<(ex.kids.length:Int)
 ·refine Ay true Z Z (A7 bu) Ac<|Ai<|Ag Z<|A4<|A0<|A5<|Ad _ [0,0,0,0,0,2,0,0,0,4,3,4,0] Z ?_
  have hvo:=hvp.outs (ex.num).toNat oM
  have hvr:=hvp.par (ex.num).toNat oM
  have hkd:=FV (l:=ex.kids) (k:=k) oM
  have hkb:ex.kids.length≤412:=by omega
  refine Af 3 Z<|AV (hex.isPtr) Z Ac<|AP (p:=ve) 4 Bt Z (a7 _<|a0.sub<|Bq hgS) Ac<|Al (p:=AA ve 4) (.inr Z) al BA Z ((a7 _<|a0.sub<|Bq hgS).ld (i:=4) I4) Ac<|Af 1 Z<|Aw (v:=al) k DE BE Z Z b0.rn.isSl Z sD Ac<|Af 1 Z ?_
  refine AE 221 [] [] [zP g,Ax al k 5,vv] Z Z IM Ac (IH2 dd6 oM _ (S++F5) g pp dp (n) (s9) (c9) (p) (Ax al k 5) (ex.kids.getD k Ex.zero) vv (env) (fun b hb=>(by rcases zi.1 hb with hb|hb;(have:=hS b hb;omega);exact a3.lt b hb:b<w2.heap.size)) (z8 _ hgS) a1 ((hp.add (F:=F5) (Bf<|B2 dp) a3.low).chg (Bf<|B2 dp)<|a0.sub<|Rr hgS) oM oM oM (RN.ptr (AL dd6) (by decide) Ex.zero ((b0.rn.add (F:=F5) (Am<|AL dd6) a3.low).chg (Am<|AL dd6)<|a0.sub<|Rr hgS) sD) ((henv.add (F:=F5) g2 a3.low).chg g2<|a0.sub<|Rr hgS) hqenv hvp oM (by exact H1 hwf oM oM) hse oM) ?_
  rintro e8 w8 ⟨v8,x8,s8,c8,rfl,b4,ch,b1,b5,ci,cj,ck⟩
  refine⟨_,rfl,?_⟩
  have cl:=b4.size
  have cm:Az [g] w w8:=a0.trans b4
  have b6:=a3.run hgS oM b4
  have cn:=b5.1
  replace b1:RN (S++F5) (B3 rI) w8.heap v8 x8:=b1
  refine Bs (u:=v8) (B:=w8.heap.size) Bc Bn AU Z Z (LR w8.heap.size w8.heap.size _<|b1.one1 g1) (A9 _) Ac fun d3 d4 a8 co b7=>?_
  have bv:=a8.size
  have b8:Az [g] w d4:=cm.ext a8
  have af:=ch.ext a8
  have ab:=b6.ext a8
  have b9:=b1.ext g1 a8
  refine Ei (v:=vo) (a:=d3) (u:=v8) Bn AU Z Z Z ab oM b7 b9 sD (by unfold maxLen;first|omega|assumption|(simp;done)|(simp;omega)) Ac ?_
  rintro d5 d6 G17 ag ah ⟨cp,di,cq⟩
  have bw:=ag.size
  have ba:Az [g] w d6:=b8.fresh ag (fun c hc=>ab.low c (ah c hc))
  have bb:=af.chg ag fun hm=>by have:=ab.low _ (ah _ hm);have:=ab.lt _ (ah _ hm);omega
  refine Ae 1 Z<|Ad _ [0,0,0] Z<|Af 1 Z<|AG ((k+1:Nat):Int) Z Z (Bd oM sD) Ac<|Ae 1 Z ?_
  exact⟨(k+1,d5,xs++[x8],s8,c8),_,rfl,zR,⟨ba,bb,sD,(by exact⟨_,_,by assumption⟩),(by rw[z4,zd,hxl]),(by exact BC.snoc hxs (by assumption)),oM,oM,(by exact IF oM hrl (by assumption))⟩,zD⟩
 refine Ay false Z Z (A8 bu) Ac<|Ai<|Aj Z<|A6<|Au<|Au<|An<|A0<|AW _ [0,0,0,1,0,0,1,0,0,0,1,0,0] mixed (by kernel_rfl) ?_
 have ad:=a3.done hS
 have hfn19c:=a3.cap
 have hvo:=hvp.outs (ex.num).toNat oM
 have hvr:=hvp.par (ex.num).toNat oM
 have hxk:xs.length=ex.kids.length:=by omega
 have hKr:AX (go c0 (Eb n (Hc p n F) ex.kids env s0)) xs s9 c9:=by rw[za oM]at hrl;exact hrl
 refine Af 1 Z<|Be Z Ac<|Aq (p:=zP g) 0 bO Z Z Ac<|Al (p:=AA (zP g) 0) (.inl Z) pp eH Z (a1.ldp (i:=0) sM) Ac<|AV (hp.isPtr) Z Ac ?_
 obtain⟨cs20,bc,ao⟩:=RN.at (B2 _) hp
 obtain⟨a4,rfl,a9⟩:=RPr.of bc
 have ae:=a9.lenle
 unfold maxLen at ae
 refine AP (p:=pp) 0 BQ Z (ao _<|a0.drew.sub<|Bq hgS) Ac<|Al (p:=AA pp 0) (.inl Z) a4 Cr Z ((ao _<|a0.drew.sub<|Bq hgS).ld (i:=0) I4) Ac<|Af 1 Z<|AV (hex.isPtr) Z Ac<|AP (p:=ve) 1 Co Z (a7 _<|a0.drew.sub<|Bq hgS) Ac<|Al (p:=AA ve 1) (.inl Z) (zI ex.num) AO Z ((a7 _<|a0.drew.sub<|Bq hgS).ld (i:=1) I4) Ac ?_
 refine Aw (v:=a4) ((ex.num).toNat) H6 CM Z Z a9.isSl oM sD Ac<|Ae 1 Z<|A0<|qS [0,0,0,2,0] Z<|Af 1 Z<|AV (hex.isPtr) Z Ac<|AP (p:=ve) 0 Bz Z (a7 _<|a0.drew.sub<|Bq hgS) Ac<|Al (p:=AA ve 0) (.inr Z) (zI ex.kind) AO Z ((a7 _<|a0.drew.sub<|Bq hgS).ld (i:=0) I4) Ac ?_
 by_cases ap:ex.kind=((10:Nat):Int)
 ·refine Av true Z Z (A7 ap) Ac<|Ai<|Ag Z<|A0<|AW _ [0,0,0,0,1,0,0,0,1,0,0,4,0] mixed (by kernel_rfl)<|Af 2 Z ?_
  have hvd:=hvp.deep (ex.num).toNat oM (ex.pick).toNat oM
  refine AV (RN.isPtr<|RN.ptr (AC dp) (by decide) Fn.zero a9 sD) Z Ac ?_
  obtain⟨cs22,bd,aq⟩:=a9.get (AC dp) Fn.zero (k:=(ex.num).toNat) sD
  obtain⟨ac,rfl,ai⟩:=RF.of bd
  have ar:=ai.rn.lenle
  unfold maxLen at ar
  refine AP (p:=Ax a4 ((ex.num).toNat) 3) 2 Cn Z (aq _<|a0.drew.drew.sub<|Bq hgS) Ac<|Al (p:=AA (Ax a4 ((ex.num).toNat) 3) 2) (.inl Z) ac BA Z ((aq _<|a0.drew.drew.sub<|Bq hgS).ld (i:=2) I4) Ac<|Af 1 Z<|AV (hex.isPtr) Z Ac<|AP (p:=ve) 2 EK Z (a7 _<|a0.drew.drew.sub<|Bq hgS) Ac<|Al (p:=AA ve 2) (.inl Z) (zI ex.pick) AO Z ((a7 _<|a0.drew.drew.sub<|Bq hgS).ld (i:=2) I4) Ac ?_
  refine Aw (v:=ac) ((ex.pick).toNat) DE BE Z Z ai.rn.isSl oM sD Ac<|Af 1 Z ?_
  refine AE 221 [] [] [zP g,Ax ac ((ex.pick).toNat) 5,vo] Z Z IM Ac (IH1 (ex.num).toNat oM dp _ S g pp dp (n) (s9) (c9) (p) (Ax ac ((ex.pick).toNat) 5) (((p.getD ((ex.num).toNat) Fn.zero).outs).getD ((ex.pick).toNat) Ex.zero) vo (xs) (fun b hb=>(by have:=hS b hb;omega:b<w2.heap.size)) hgS a1 (hp.chg (Bf<|B2 dp)<|a0.drew.drew.sub<|Bq hgS) oM oM oM (RN.ptr (AL dp) (by decide) Ex.zero (ai.rn.chg (Am<|AL dp)<|a0.drew.drew.sub<|Bq hgS) sD) ad hfn19c hvp oM (by have h9:=hvp.wf (ex.num).toNat oM (ex.pick).toNat oM;rw[show(xs.length:Int)=(p.getD (ex.num).toNat Fn.zero).params from by omega];exact h9) hxs oM) ?_
  rintro dj d7 ⟨d2,d8,da,db,rfl,a5,be,bf,au,bx,bz,c2⟩
  refine⟨_,rfl,?_⟩
  replace a5:=a5.of_drew
  replace a5:=a5.of_drew
  have c3:=a5.size
  have bg:Az [g] w d7:=a0.trans a5
  have cr:=ad.run g2 hgS a5
  have c4:=au.1
  exact Ae 1 Z<|A3<|Ap<|Ah [6] Z d2 Z ⟨d2,d8,da,db,rfl,bg,be,bf,(by first|assumption|exact hks _ oM),oM,oM,Z5⟩
 refine Av false Z Z (A8 ap) Ac<|Ai<|Aj Z<|A4<|A0<|qS [0] Z ?_
 have bh:ex.kind=11:=by have h9:ex.kind=10∨ex.kind=11:=hkH;omega
 have hwl:=Tf hwf bh
 refine Ae 1 Z<|A5 ?_
 refine AQ (S:=Nat×Value×List (Sr)×Nat×Int) (fun⟨i,vk,ks,s8,c8⟩=>([(7,vk),(10,zI (i:Int)),(0,zP g),(1,ve),(9,Ax a4 ((ex.num).toNat) 3)])) (fun⟨i,vk,ks,s8,c8⟩ W=>Az [g] w W∧BX W.heap g [pp,zI (n:Int),zI (s8:Int),zI c8]∧i≤(ex.count).toNat∧RN S (B3<|B3 rI) W.heap vk ks∧Cj vk∧ks.length=(p.getD (ex.num).toNat Fn.zero).outs.length∧BC n ks∧s8≤3000∧(0≤c8∧c8≤9)∧AX (go c9<|Ml (fun a t=>Eb n (Hc p n (ex.num).toNat) (p.getD (ex.num).toNat Fn.zero).outs a t) i xs s9) ks s8 c8) (fun⟨i,vk,ks,s8,c8⟩=>(ex.count).toNat-i) (0,vo,xs,s9,c9) ⟨rfl,rfl,rfl,rfl,rfl,trivial⟩ ⟨a0.drew,a1,oM,(by assumption),(by assumption),oM,(by assumption),oM,oM,(by exact Xs Z)⟩ ?_
 clear a1 a0 b3 an ae
 rintro⟨i,vk,ks,s8,c8⟩ ρ31 d1 ⟨a2,a6,bi,hrk,hck,hkl,hks,bj,bk,hrl9⟩
 have c5:w.heap.size≤d1.heap.size:=a2.size
 have cs:=a6.lt
 refine A0<|qS [0,0,0,0,2,0] Z<|Af 2 Z<|AV (hex.isPtr) Z Ac<|AP (p:=ve) 3 Ee Z (a7 _<|a2.sub<|Bq hgS) Ac<|Al (p:=AA ve 3) (.inr Z) (zI ex.count) AO Z ((a7 _<|a2.sub<|Bq hgS).ld (i:=3) I4) Ac ?_
 by_cases av:(i:Int)<ex.count
 ·refine Ay true Z Z (A7 av) Ac<|Ai<|Ag Z<|A4<|A0<|A5<|Ad _ [0,0,0,4,0] Z<|Af 3 Z ?_
  refine AE 158 [] [] [zP g,Ax a4 ((ex.num).toNat) 3,vk] Z Z Ys Ac (Z4 (ex.num).toNat (fun d9=>IH1 (ex.num).toNat oM d9) _ S g pp dp (n) (s8) (c8) (p) dp (Ax a4 ((ex.num).toNat) 3) (p.getD ((ex.num).toNat) Fn.zero) vk (ks) (fun b hb=>(by have:=hS b hb;omega:b<d1.heap.size)) hgS a6 (hp.chg (Bf<|B2 dp)<|a2.sub<|Bq hgS) oM oM oM (RN.ptr (AC dp) (by decide) Fn.zero (a9.chg (Am<|AC dp)<|a2.sub<|Bq hgS) sD) hrk hck hvp oM (by intro k9 ay;have h9:=hvp.wf (ex.num).toNat oM k9 ay;rw[show(ks.length:Int)=(p.getD (ex.num).toNat Fn.zero).params from by omega];exact h9) hks (by intro k9 ay;have:=hvp.deep (ex.num).toNat oM k9 ay;omega) oM) ?_
  rintro dk dc ⟨dd,de,df,dg,rfl,aj,bl,ct,aa,c6,c7,ca⟩
  refine⟨_,rfl,?_⟩
  have cb:=aj.size
  have bm:Az [g] w dc:=a2.trans aj
  have cu:=hrk.run g2 hgS aj
  have cc:=aa.2.1
  have cd:=aa.2.2
  have ce:=aa.1
  exact Ae 1 Z<|Ad _ [0,0,0] Z<|Af 1 Z<|AG ((i+1:Nat):Int) Z Z (Bd oM oM) Ac<|Ae 1 Z ⟨(i+1,dd,de,df,dg),_,rfl,zR,⟨bm,bl,oM,(by assumption),(by assumption),oM,(by assumption),oM,oM,(by exact Xr hrl9 (by assumption))⟩,zD⟩
 refine Ay false Z Z (A8 av) Ac<|Ai<|Aj Z<|A6<|Au<|Au<|An<|qS [0,0,0,0,2,0,2,0] Z<|Af 2 Z<|AV (hex.isPtr) Z Ac<|AP (p:=ve) 2 EK Z (a7 _<|a2.sub<|Bq hgS) Ac<|Al (p:=AA ve 2) (.inr Z) (zI ex.pick) AO Z ((a7 _<|a2.sub<|Bq hgS).ld (i:=2) I4) Ac ?_
 refine Aw (v:=vk) ((ex.pick).toNat) Bn AU Z Z hrk.slL oM sD Ac ?_
 obtain⟨ak,bn,aw⟩:=RN.getL (w:=d1) g1 [] (k:=(ex.pick).toNat) hrk sD
 have ax:=aw.lenL
 unfold maxLen at ax
 exact Al (p:=Ax vk ((ex.pick).toNat) 1) (.inr Z) ak B7 Z (bn _<|Az.refl _ _) Ac<|Ae 1 Z<|A3<|Ah [6] Z ak Z ⟨ak,ks.getD ((ex.pick).toNat) [],s8,c8,rfl,a2,a6,aw,(by first|assumption|exact hks _ oM),oM,oM,Z5⟩
theorem Z6 (F d:Nat)(IH1:∀F',F'<F→∀d,SV F' d)(IH2:∀d',d'<d→SV F d'):SC F d:=by
 intro w S g pp dp n s0 c0 p ve ex vv env hS hgS a0 hp hn a1 a2 hex henv hqenv hvp hF hwf hse hdp hk
 exact Kc w S F g pp dp n s0 c0 p d ve ex vv env hS hgS a0 hp hn a1 a2 hex henv hqenv hvp hF hwf hse hdp hk IH1 IH2
theorem Z7 {p:Prop}(h:p:=by first|exact ZG hc00 hs1 oM oM ‹AX (go c0 (Eo _ _ (ex.kids.getD 0 _) _ _)) _ _ _› oM (by assumption)|exact ZH hc00 hs1 oM oM ‹AX (go c0 (Eo _ _ (ex.kids.getD 0 _) _ _)) _ _ _› oM (by assumption)):p:=h
theorem Q8 {p:Prop}(h:p:=by have:=FV (l:=ex.kids) (k:=0) oM;omega):p:=h
theorem Kd {p:Prop}(h:p:=by exact H1 hwf oM oM):p:=h
theorem EO {p:Prop}(h:p:=by simp[Dd,FU]):p:=h
theorem Ke (w:World)(S:List Nat)(F:Nat)(g:Nat)(pp:Value)(dp n s0:Nat)(c0:Int)(p:List Fn)(dex:Nat)(ve:Value)(ex:Ex)(vv:Value)(env:List (Sr))(hS:∀b∈S,b<w.heap.size)(hgS:g∈S)(b0:BX w.heap g [pp,zI (n:Int),zI (s0:Int),zI c0])(hp:RN S (rP (LS dp)) w.heap pp p)(hn:1≤n∧n≤13)(j2:s0≤3000)(j3:0≤c0∧c0≤9)(hex:RN S (rP (P9 dex)) w.heap ve ex)(henv:RN S (B3 (B3 rI)) w.heap vv env)(hqenv:Cj vv)(hvp:J2 p)(hF:F≤p.length)(hwf:wf p (F:Int) ex (env.length:Int)=true)(hse:BC n env)(hdp:env.length+ex.deep≤1000000)(IH1:∀F',F'<F→∀d,SV F' d)(IH2:∀d',d'<dex→SV F d') :
  Calls Tryz.prog 221 #[zP g,ve,vv] w (fun e w'=>∃(v:Value) (x:Sr) (s1:Nat) (c1:Int),e=.returned v∧Az [g] w w'∧BX w'.heap g [pp,zI (n:Int),zI (s1:Int),zI c1]∧RN S (B3 rI) w'.heap v x∧BN n x∧s1≤3000∧(0≤c1∧c1≤9)∧AX (go c0 (Eo n (Hc p n F) ex env s0)) x s1 c1):=by
 refine At [zP g,ve,vv] 186 Tryz.func221 Z Z sM ?_
 have bk:Az [g] w w:=Az.refl [g] w
 have fr:=henv.lenL
 unfold maxLen at fr
 have l1:=b0.lt
 have hdk:=EW ex
 refine qT Z<|A0<|qS [0,0,0,2,0] Z<|Af 1 Z<|Be Z Ac<|Aq (p:=zP g) 3 Gd Z Z Ac<|Al (p:=AA (zP g) 3) (.inr Z) (zI c0) AO Z (b0.ldp (i:=3) sM) Ac ?_
 by_cases e8:c0≠((0:Nat):Int)
 ·refine B4 true Z Z (A7 e8) Ac<|Ai<|Ag Z<|qS [0,0,0,0,2,4,0] Z<|Af 2 Z<|Be Z Ac<|Aq (p:=zP g) 3 Gd Z Z Ac<|Al (p:=AA (zP g) 3) (.inr Z) (zI c0) AO Z (b0.ldp (i:=3) sM) Ac<|AE 250 [] [] [zP g,zI c0] Z Z U5 Ac (Do _ S g pp dp (n) (s0) (c0) (p) (c0) (fun b hb=>(by have:=hS b hb;omega:b<w.heap.size)) hgS b0 (hp.chg (Bf<|B2 dp)<|bk.sub<|Bq hgS) oM oM oM oM oM) ?_
  rintro e2 w2 ⟨v2,x2,s2,c2,rfl,e9,i9,ia,d1,ib,ic,bl⟩
  refine⟨_,rfl,?_⟩
  have id:=e9.size
  have ie:Az [g] w w2:=bk.trans e9
  have ig:=d1.1
  have hfs:=bl.1
  have hff:=bl.2
  exact Ae 1 Z<|A3<|Ap<|Ah [6] Z v2 Z ⟨v2,x2,s2,c2,rfl,ie,i9,ia,(by assumption),oM,oM,(by rw[hff,if_neg oM];exact VZ oM)⟩
 refine B4 false Z Z (A8 e8) Ac<|Ai<|Aj Z<|A4<|A0<|qS [0,0,0,2,0] Z<|Af 1 Z<|Be Z Ac<|Aq (p:=zP g) 2 ME Z Z Ac<|Al (p:=AA (zP g) 2) (.inr Z) (zI (s0:Int)) AO Z (b0.ldp (i:=2) sM) Ac ?_
 by_cases ea:(s0:Int)=((3000:Nat):Int)
 ·refine Av true Z Z (A7 ea) Ac<|Ai<|Ag Z<|qS [0,4,0] Z<|Af 1 Z<|AE 250 [] [] [zP g,zI ((7:Nat):Int)] Z Z U5 Ac (Do _ S g pp dp (n) (s0) (c0) (p) ((7:Nat):Int) (fun b hb=>(by have:=hS b hb;omega:b<w.heap.size)) hgS b0 (hp.chg (Bf<|B2 dp)<|bk.sub<|Bq hgS) oM oM oM oM oM) ?_
  rintro e7 w7 ⟨v7,x7,s7,c7,rfl,eb,ih,ii,d2,ij,ik,bm⟩
  refine⟨_,rfl,?_⟩
  have il:=eb.size
  have im:Az [g] w w7:=bk.trans eb
  have io:=d2.1
  have hfs:=bm.1
  have hff:=bm.2
  exact Ae 1 Z<|A3<|Ap<|Ah [6] Z v7 Z ⟨v7,x7,s7,c7,rfl,im,ih,ii,(by assumption),oM,oM,(by rw[hff,if_pos oM];exact RB oM oM)⟩
 refine Av false Z Z (A8 ea) Ac<|Ai<|Aj Z<|A4<|qS [0,0,0,2,0,0,0,4] Z<|Af 1 Z<|Be Z Ac<|Aq (p:=zP g) 2 ME Z Z Ac<|Al (p:=AA (zP g) 2) (.inr Z) (zI (s0:Int)) AO Z (b0.ldp (i:=2) sM) Ac<|AG ((s0+1:Nat):Int) Z Z (Bd oM oM) Ac<|Be Z Ac<|Aq (p:=zP g) 2 ME Z Z Ac (BB (k:=2) (w:=w) I0 Z Z ⟨rfl,rfl⟩ b0 sM Ac fun f1 bn ip a7=>?_)
 replace a7:BX f1.heap g [pp,zI (n:Int),zI ((s0+1:Nat):Int),zI c0]:=a7
 have a0:Az [g] w f1:=bk.trans bn
 have ec:=bn.size
 refine Ai<|A0<|qS [0,0,0,2] Z ?_
 have hc00:c0=0:=by omega
 have hs1:s0+1≤3000:=by omega
 refine Af 1 Z<|AV (hex.isPtr) Z Ac ?_
 obtain⟨cs12,d3,a2⟩:=RN.at (AL _) hex
 obtain⟨dd12,a1,iq,rfl,a3⟩:=RX.of d3
 have bo:=a3.rn.lenle
 unfold maxLen at bo
 refine AP (p:=ve) 0 Bz Z (a2 _<|a0.sub<|Bq hgS) Ac<|Al (p:=AA ve 0) (.inr Z) (zI ex.kind) AO Z ((a2 _<|a0.sub<|Bq hgS).ld (i:=0) EO) Ac<|Ai<|A5<|qS [0,0] Z ?_
 by_cases bp:ex.kind=((1:Nat):Int)
 ·refine Av true Z Z (A7 bp) Ac<|Ae 1 Z<|Ag Z<|A0<|AW _ [0,0,0,1,0,0,0,1,3,0] mixed (by kernel_rfl) ?_
  have hwk:=VU hwf oM
  refine Af 1 Z<|AV (hex.isPtr) Z Ac<|AP (p:=ve) 1 Co Z (a2 _<|a0.drew.sub<|Bq hgS) Ac<|Al (p:=AA ve 1) (.inl Z) (zI ex.num) AO Z ((a2 _<|a0.drew.sub<|Bq hgS).ld (i:=1) EO) Ac<|Af 1 Z<|Be Z Ac<|Aq (p:=zP g) 1 PZ Z Z Ac<|Al (p:=AA (zP g) 1) (.inl Z) (zI (n:Int)) M6 Z (a7.ldp (i:=1) sM) Ac ?_
  refine As 79 [] [] [zI ex.num,zI (n:Int)] Z Z UN Ac (CW _ _ (n) a3.rng.num sD oM) ?_
  rintro l2 jw ⟨b1,rfl,ae,aa⟩
  refine⟨_,rfl,ae,?_⟩
  replace ae:=ae.of_drew
  have ed:=ae.size
  have d4:Az [g] w jw:=a0.ext ae
  have an:=a7.ext ae
  replace aa:=aa.low (B':=f1.heap.size)<|A9 _
  exact Ae 1 Z<|A3<|AK<|Ap<|Ah [6] Z b1 Z ⟨b1,cst n ex.num,s0+1,c0,rfl,d4,an,RN.of_fr1 aa fun b hb=>zH<|hS b hb,(by exact Ft (Ck.2 oM)),oM,oM,(by exact ZE hc00 hs1 oM)⟩
 refine Av false Z Z (A8 bp) Ac<|Ae 1 Z<|Aj Z<|qS [0,0] Z ?_
 by_cases bq:ex.kind=((2:Nat):Int)
 ·refine Av true Z Z (A7 bq) Ac<|Ae 1 Z<|Ag Z<|qS [0,0,0,0,2,0,2,0] Z ?_
  have hwk:=VV hwf oM
  refine Af 2 Z<|AV (hex.isPtr) Z Ac<|AP (p:=ve) 1 Co Z (a2 _<|a0.sub<|Bq hgS) Ac<|Al (p:=AA ve 1) (.inr Z) (zI ex.num) AO Z ((a2 _<|a0.sub<|Bq hgS).ld (i:=1) EO) Ac<|Aw (v:=vv) ((ex.num).toNat) Bn AU Z Z henv.slL oM sD Ac ?_
  obtain⟨ba,d5,br⟩:=RN.getL (w:=w) g1 [] (k:=(ex.num).toNat) henv sD
  have bs:=br.lenL
  unfold maxLen at bs
  exact Al (p:=Ax vv ((ex.num).toNat) 1) (.inr Z) ba B7 Z (d5 _<|a0.sub<|Bq hgS) Ac<|Ae 1 Z<|A3<|AK<|Ap<|Ah [6] Z ba Z ⟨ba,env.getD ((ex.num).toNat) [],s0+1,c0,rfl,a0,a7,br.chg g1<|a0.sub<|Bq hgS,(by exact hse _ oM),oM,oM,(by exact ZF hc00 hs1 oM)⟩
 refine Av false Z Z (A8 bq) Ac<|Ae 1 Z<|Aj Z<|qS [0,0] Z ?_
 by_cases bt:ex.kind=((7:Nat):Int)
 ·refine Av true Z Z (A7 bt) Ac<|Ae 1 Z<|Ag Z<|qS [0,0,0,0,2,0,0,4,3,0] Z ?_
  have hwk:=VX hwf oM
  refine Af 2 Z<|AV (hex.isPtr) Z Ac<|AP (p:=ve) 4 Bt Z (a2 _<|a0.sub<|Bq hgS) Ac<|Al (p:=AA ve 4) (.inr Z) a1 BA Z ((a2 _<|a0.sub<|Bq hgS).ld (i:=4) EO) Ac<|Aw (v:=a1) 0 DE BE Z Z a3.rn.isSl Z sD Ac<|Af 1 Z ?_
  refine AE 221 [] [] [zP g,Ax a1 0 5,vv] Z Z IM Ac (IH2 dd12 oM _ S g pp dp (n) (s0+1) (c0) (p) (Ax a1 0 5) (ex.kids.getD 0 Ex.zero) vv (env) (fun b hb=>(by have:=hS b hb;omega:b<f1.heap.size)) hgS a7 (hp.chg (Bf<|B2 dp)<|a0.sub<|Bq hgS) oM oM oM (RN.ptr (AL dd12) (by decide) Ex.zero (a3.rn.chg (Am<|AL dd12)<|a0.sub<|Bq hgS) sD) (henv.chg g2<|a0.sub<|Bq hgS) hqenv hvp oM Kd hse Q8) ?_
  rintro l3 jx ⟨jy,jz,k0,k1,rfl,bu,d6,bv,bw,ee,ef,eg⟩
  refine⟨_,rfl,?_⟩
  have eh:=bu.size
  have d7:Az [g] w jx:=a0.trans bu
  have ei:=bw.1
  refine As 165 [] [] [jy,zI ((1000002:Nat):Int)] Z Z Yu Ac (FQ _ _ _ _ (bv).rd oM oM) ?_
  rintro l4 k2 ⟨b2,rfl,aj,bb⟩
  refine⟨_,rfl,aj,?_⟩
  have ej:=aj.size
  have d8:Az [g] w k2:=d7.ext aj
  have ao:=d6.ext aj
  have ir:=bv.ext g1 aj
  exact Ae 1 Z<|A3<|AK<|Ap<|Ah [6] Z b2 Z ⟨b2,scl jz ((1000002:Nat):Int),k0,k1,rfl,d8,ao,RN.of_fr1 bb fun b hb=>zH<|hS b hb,(by rw[Sv];exact QH (by assumption)),oM,oM,(by exact HV hc00 hs1 oM (gB oM ‹AX (go c0<|Eo _ _ (ex.kids.getD 0 _) _ _) _ _ _›) (fun h0=>by rw[h0,Sv];exact fI oM) (fun _=>rfl))⟩
 refine Av false Z Z (A8 bt) Ac<|Ae 1 Z<|Aj Z<|qS [0,0] Z ?_
 by_cases bx:ex.kind=((8:Nat):Int)
 ·refine Av true Z Z (A7 bx) Ac<|Ae 1 Z<|Ag Z<|A0<|qS [0,0,0,0,2,0,0,4,0,2,0] Z ?_
  have hwk:=cE hwf oM
  refine Af 2 Z<|AV (hex.isPtr) Z Ac<|AP (p:=ve) 4 Bt Z (a2 _<|a0.sub<|Bq hgS) Ac<|Al (p:=AA ve 4) (.inr Z) a1 BA Z ((a2 _<|a0.sub<|Bq hgS).ld (i:=4) EO) Ac<|Aw (v:=a1) 0 DE BE Z Z a3.rn.isSl Z sD Ac<|Af 1 Z ?_
  refine AE 221 [] [] [zP g,Ax a1 0 5,vv] Z Z IM Ac (IH2 dd12 oM _ S g pp dp (n) (s0+1) (c0) (p) (Ax a1 0 5) (ex.kids.getD 0 Ex.zero) vv (env) (fun b hb=>(by have:=hS b hb;omega:b<f1.heap.size)) hgS a7 (hp.chg (Bf<|B2 dp)<|a0.sub<|Bq hgS) oM oM oM (RN.ptr (AL dd12) (by decide) Ex.zero (a3.rn.chg (Am<|AL dd12)<|a0.sub<|Bq hgS) sD) (henv.chg g2<|a0.sub<|Bq hgS) hqenv hvp oM Kd hse Q8) ?_
  rintro l5 fx ⟨jg,jh,ji,jj,rfl,bz,c3,ap,c4,ek,el,en⟩
  refine⟨_,rfl,?_⟩
  have eo:=bz.size
  have a5:Az [g] w fx:=a0.trans bz
  have ep:=c4.1
  refine Aw (v:=jg) 0 Bm BM Z Z ap.slL Z sD Ac ?_
  have d9:=RN.getI (w:=fx) (k:=0) ap sD
  refine Al (p:=Ax jg 0 1) (.inr Z) (zI<|jh.getD 0 0) AO Z (d9.1 _<|Az.refl _ _) Ac ?_
  by_cases c5:jh.getD 0 0=((0:Nat):Int)
  ·refine Av true Z Z (A7 c5) Ac<|Ai<|Ag Z<|qS [0,0,0,0,2,0,0,4,0] Z<|Af 2 Z<|AV (hex.isPtr) Z Ac<|AP (p:=ve) 4 Bt Z (a2 _<|a5.sub<|Bq hgS) Ac<|Al (p:=AA ve 4) (.inr Z) a1 BA Z ((a2 _<|a5.sub<|Bq hgS).ld (i:=4) EO) Ac<|Aw (v:=a1) 1 DE BE Z Z a3.rn.isSl Z sD Ac ?_
   refine Af 1 Z ?_
   refine AE 221 [] [] [zP g,Ax a1 1 5,vv] Z Z IM Ac (IH2 dd12 oM _ S g pp dp (n) (ji) (jj) (p) (Ax a1 1 5) (ex.kids.getD 1 Ex.zero) vv (env) (fun b hb=>(by have:=hS b hb;omega:b<fx.heap.size)) hgS c3 (hp.chg (Bf<|B2 dp)<|a5.sub<|Bq hgS) oM oM oM (RN.ptr (AL dd12) (by decide) Ex.zero (a3.rn.chg (Am<|AL dd12)<|a5.sub<|Bq hgS) sD) (henv.chg g2<|a5.sub<|Bq hgS) hqenv hvp oM Kd hse (zH<|FV (l:=ex.kids) (k:=1) oM)) ?_
   rintro l6 k3 ⟨jk,k4,k5,k6,rfl,bc,da,db,c6,eq,er,es⟩
   refine⟨_,rfl,?_⟩
   have et:=bc.size
   have dc:Az [g] w k3:=a5.trans bc
   have is:=ap.run g1 hgS bc
   have eu:=c6.1
   exact Ae 1 Z<|A3<|Ap<|AK<|Ap<|Ah [6] Z jk Z ⟨jk,k4,k5,k6,rfl,dc,da,db,(by assumption),oM,oM,Z7⟩
  refine Av false Z Z (A8 c5) Ac<|Ai<|Aj Z<|A4<|qS [0,0,0,0,2,0,0,4,0] Z<|Af 2 Z<|AV (hex.isPtr) Z Ac<|AP (p:=ve) 4 Bt Z (a2 _<|a5.sub<|Bq hgS) Ac<|Al (p:=AA ve 4) (.inr Z) a1 BA Z ((a2 _<|a5.sub<|Bq hgS).ld (i:=4) EO) Ac ?_
  refine Aw (v:=a1) 2 DE BE Z Z a3.rn.isSl Z sD Ac<|Af 1 Z ?_
  refine AE 221 [] [] [zP g,Ax a1 2 5,vv] Z Z IM Ac (IH2 dd12 oM _ S g pp dp (n) (ji) (jj) (p) (Ax a1 2 5) (ex.kids.getD 2 Ex.zero) vv (env) (fun b hb=>(by have:=hS b hb;omega:b<fx.heap.size)) hgS c3 (hp.chg (Bf<|B2 dp)<|a5.sub<|Bq hgS) oM oM oM (RN.ptr (AL dd12) (by decide) Ex.zero (a3.rn.chg (Am<|AL dd12)<|a5.sub<|Bq hgS) sD) (henv.chg g2<|a5.sub<|Bq hgS) hqenv hvp oM Kd hse (zH<|FV (l:=ex.kids) (k:=2) oM)) ?_
  rintro l7 k7 ⟨jl,k8,k9,ka,rfl,bd,dd,de,c8,ev,ew,ey⟩
  refine⟨_,rfl,?_⟩
  have ez:=bd.size
  have df:Az [g] w k7:=a5.trans bd
  have it:=ap.run g1 hgS bd
  have g0:=c8.1
  exact Ae 1 Z<|A3<|AK<|Ap<|Ah [6] Z jl Z ⟨jl,k8,k9,ka,rfl,df,dd,de,(by assumption),oM,oM,Z7⟩
 refine Av false Z Z (A8 bx) Ac<|Ae 1 Z<|Aj Z<|qS [0,0] Z ?_
 by_cases c9:ex.kind=((9:Nat):Int)
 ·refine Av true Z Z (A7 c9) Ac<|Ae 1 Z<|Ag Z<|qS [0,0,0,0,2,0,0,4,0] Z ?_
  have hwk:=VW hwf oM
  refine Af 2 Z<|AV (hex.isPtr) Z Ac<|AP (p:=ve) 4 Bt Z (a2 _<|a0.sub<|Bq hgS) Ac<|Al (p:=AA ve 4) (.inr Z) a1 BA Z ((a2 _<|a0.sub<|Bq hgS).ld (i:=4) EO) Ac<|Aw (v:=a1) 0 DE BE Z Z a3.rn.isSl Z sD Ac<|Af 1 Z ?_
  refine AE 221 [] [] [zP g,Ax a1 0 5,vv] Z Z IM Ac (IH2 dd12 oM _ S g pp dp (n) (s0+1) (c0) (p) (Ax a1 0 5) (ex.kids.getD 0 Ex.zero) vv (env) (fun b hb=>(by have:=hS b hb;omega:b<f1.heap.size)) hgS a7 (hp.chg (Bf<|B2 dp)<|a0.sub<|Bq hgS) oM oM oM (RN.ptr (AL dd12) (by decide) Ex.zero (a3.rn.chg (Am<|AL dd12)<|a0.sub<|Bq hgS) sD) (henv.chg g2<|a0.sub<|Bq hgS) hqenv hvp oM Kd hse Q8) ?_
  rintro l8 jm ⟨jn,jo,kb,kc,rfl,ca,dg,cb,cc,g3,g4,g5⟩
  refine⟨_,rfl,?_⟩
  have g6:=ca.size
  have aq:Az [g] w jm:=a0.trans ca
  have g7:=cc.1
  refine Ae 1 Z<|A0<|AW _ [0,0,0,0,1,0,0,0,3,4,0] mixed (by kernel_rfl)<|Af 2 Z<|AV (hex.isPtr) Z Ac<|AP (p:=ve) 4 Bt Z (a2 _<|aq.drew.sub<|Bq hgS) Ac<|Al (p:=AA ve 4) (.inl Z) a1 BA Z ((a2 _<|aq.drew.sub<|Bq hgS).ld (i:=4) EO) Ac<|Aw (v:=a1) 1 DE BE Z Z a3.rn.isSl Z sD Ac<|Af 2 Z ?_
  refine As 251 [] [] [vv,jn] Z Z mJ Ac (Om _ S vv (env) jn (jo) (fun b hb=>(by have:=hS b hb;omega:b<jm.heap.size)) (henv.chg g2<|aq.drew.sub<|Bq hgS) hqenv cb oM) ?_
  rintro l9 jp ⟨jq,rfl,ab,cd,ce⟩
  refine⟨_,rfl,ab,?_⟩
  replace ab:=ab.of_drew
  have g8:=ab.size
  have be:Az [g] w jp:=aq.ext ab
  have ar:=dg.ext ab
  have dh:=cb.ext g1 ab
  refine AE 221 [] [] [zP g,Ax a1 1 5,jq] Z Z IM Ac (IH2 dd12 oM _ S g pp dp (n) (kb) (kc) (p) (Ax a1 1 5) (ex.kids.getD 1 Ex.zero) jq (env++[jo]) (fun b hb=>(by have:=hS b hb;omega:b<jp.heap.size)) hgS ar (hp.chg (Bf<|B2 dp)<|be.sub<|Bq hgS) oM oM oM (RN.ptr (AL dd12) (by decide) Ex.zero (a3.rn.chg (Am<|AL dd12)<|be.sub<|Bq hgS) sD) cd ce hvp oM (by have h9:=N7 hwf oM oM;rw[z4,zd];exact h9) (by exact hse.snoc (by assumption)) (by have:=FV (l:=ex.kids) (k:=1) oM;rw[z4,zd];omega)) ?_
  rintro la kd ⟨jr,ke,kf,kg,rfl,au,di,dj,cf,g9,ga,gb⟩
  refine⟨_,rfl,?_⟩
  have gc:=au.size
  have dk:Az [g] w kd:=be.trans au
  have iu:=dh.run g1 hgS au
  have iv:=cd.run g2 hgS au
  have gd:=cf.1
  exact Ae 1 Z<|A3<|AK<|Ap<|Ah [6] Z jr Z ⟨jr,ke,kf,kg,rfl,dk,di,dj,(by assumption),oM,oM,(by exact ZI hc00 hs1 oM oM ‹AX (go c0<|Eo _ _ (ex.kids.getD 0 _) _ _) _ _ _› (by assumption))⟩
 refine Av false Z Z (A8 c9) Ac<|Ae 1 Z<|Aj Z<|A0<|qS [0,0] Z ?_
 by_cases cg:ex.kind=((10:Nat):Int)
 ·refine Av true Z Z (A7 cg) Ac<|Ae 1 Z<|Ag Z<|A4<|Ag Z<|qS [0,0,0,4,0] Z<|Af 3 Z<|AE 252 [] [] [zP g,ve,vv] Z Z eD Ac (Z6 F dex IH1 IH2 _ S g pp dp (n) (s0+1) (c0) (p) ve (ex) vv (env) (fun b hb=>(by have:=hS b hb;omega:b<f1.heap.size)) hgS a7 (hp.chg (Bf<|B2 dp)<|a0.sub<|Bq hgS) oM oM oM (hex.chg (Bf<|AL dex)<|a0.sub<|Bq hgS) (henv.chg g2<|a0.sub<|Bq hgS) hqenv hvp oM hwf hse oM oM) ?_
  rintro lb kh ⟨js,ki,kj,kk,rfl,ch,dl,dm,ci,ge,gf,gg⟩
  refine⟨_,rfl,?_⟩
  have gh:=ch.size
  have dn:Az [g] w kh:=a0.trans ch
  have gi:=ci.1
  exact Ae 1 Z<|A3<|AK<|Ap<|Ah [6] Z js Z ⟨js,ki,kj,kk,rfl,dn,dl,dm,(by assumption),oM,oM,(by exact OO hc00 hs1 oM (by assumption))⟩
 refine Av false Z Z (A8 cg) Ac<|Ae 1 Z<|Aj Z<|Ad _ [0,0] Z ?_
 by_cases cj:ex.kind=((11:Nat):Int)
 ·refine Av true Z Z (A7 cj) Ac<|Ae 1 Z<|Ag Z<|qS [0,0,0,4,0] Z<|Af 3 Z<|AE 252 [] [] [zP g,ve,vv] Z Z eD Ac (Z6 F dex IH1 IH2 _ S g pp dp (n) (s0+1) (c0) (p) ve (ex) vv (env) (fun b hb=>(by have:=hS b hb;omega:b<f1.heap.size)) hgS a7 (hp.chg (Bf<|B2 dp)<|a0.sub<|Bq hgS) oM oM oM (hex.chg (Bf<|AL dex)<|a0.sub<|Bq hgS) (henv.chg g2<|a0.sub<|Bq hgS) hqenv hvp oM hwf hse oM oM) ?_
  rintro lc kl ⟨jt,km,ko,kp,rfl,ck,dq,dr,cl,gj,gk,gl⟩
  refine⟨_,rfl,?_⟩
  have gm:=ck.size
  have ds:Az [g] w kl:=a0.trans ck
  have gn:=cl.1
  exact Ae 1 Z<|A3<|AK<|Ap<|Ah [6] Z jt Z ⟨jt,km,ko,kp,rfl,ds,dq,dr,(by assumption),oM,oM,(by exact OO hc00 hs1 oM (by assumption))⟩
 refine Av false Z Z (A8 cj) Ac<|Ae 1 Z<|Aj Z<|A4<|qS [0,0,0,0,2,0,0,4,0] Z ?_
 have hkk:ex.kind=3∨ex.kind=4∨ex.kind=5∨ex.kind=6:=fB hwf oM
 have j4:ex.kids.length=2:=VY hwf hkk
 have j5:=FV (l:=ex.kids) (k:=0) oM
 have j6:=FV (l:=ex.kids) (k:=1) oM
 refine Af 2 Z<|AV (hex.isPtr) Z Ac<|AP (p:=ve) 4 Bt Z (a2 _<|a0.sub<|Bq hgS) Ac<|Al (p:=AA ve 4) (.inr Z) a1 BA Z ((a2 _<|a0.sub<|Bq hgS).ld (i:=4) EO) Ac<|Aw (v:=a1) 0 DE BE Z Z a3.rn.isSl Z sD Ac<|Af 1 Z ?_
 refine AE 221 [] [] [zP g,Ax a1 0 5,vv] Z Z IM Ac (IH2 dd12 oM _ S g pp dp (n) (s0+1) (c0) (p) (Ax a1 0 5) (ex.kids.getD 0 Ex.zero) vv (env) (fun b hb=>(by have:=hS b hb;omega:b<f1.heap.size)) hgS a7 (hp.chg (Bf<|B2 dp)<|a0.sub<|Bq hgS) oM oM oM (RN.ptr (AL dd12) (by decide) Ex.zero (a3.rn.chg (Am<|AL dd12)<|a0.sub<|Bq hgS) sD) (henv.chg g2<|a0.sub<|Bq hgS) hqenv hvp oM Kd hse Q8) ?_
 rintro lf ju ⟨j8,j9,kq,kr,rfl,cm,dt,du,b3,gp,gq,cn⟩
 refine⟨_,rfl,?_⟩
 have gr:=cm.size
 have af:Az [g] w ju:=a0.trans cm
 have gs:=b3.1
 have hra:=cn
 have co:=b3
 refine Ae 1 Z<|qS [0,0,0,0,2,0,0,4,0] Z<|Af 2 Z<|AV (hex.isPtr) Z Ac<|AP (p:=ve) 4 Bt Z (a2 _<|af.sub<|Bq hgS) Ac<|Al (p:=AA ve 4) (.inr Z) a1 BA Z ((a2 _<|af.sub<|Bq hgS).ld (i:=4) EO) Ac<|Aw (v:=a1) 1 DE BE Z Z a3.rn.isSl Z sD Ac<|Af 1 Z ?_
 refine AE 221 [] [] [zP g,Ax a1 1 5,vv] Z Z IM Ac (IH2 dd12 oM _ S g pp dp (n) (kq) (kr) (p) (Ax a1 1 5) (ex.kids.getD 1 Ex.zero) vv (env) (fun b hb=>(by have:=hS b hb;omega:b<ju.heap.size)) hgS dt (hp.chg (Bf<|B2 dp)<|af.sub<|Bq hgS) oM oM oM (RN.ptr (AL dd12) (by decide) Ex.zero (a3.rn.chg (Am<|AL dd12)<|af.sub<|Bq hgS) sD) (henv.chg g2<|af.sub<|Bq hgS) hqenv hvp oM Kd hse (zH<|FV (l:=ex.kids) (k:=1) oM)) ?_
 rintro lg ja ⟨f4,f2,fe,f3,rfl,bf,ac,a6,b4,gt,gu,cp⟩
 refine⟨_,rfl,?_⟩
 have gv:=bf.size
 have a4:Az [g] w ja:=af.trans bf
 have a8:=du.run g1 hgS bf
 have cq:=b4.1
 have hrb:=cp
 have j7:=b4
 have hlb:=cq
 have hzz:f2.getD 0 0=0∨¬f2.getD 0 0=0:=Decidable.em _
 refine Ae 1 Z<|A0<|A5<|qS [0,0,0,2,0,0] Z<|Af 1 Z<|AV (hex.isPtr) Z Ac<|AP (p:=ve) 0 Bz Z (a2 _<|a4.sub<|Bq hgS) Ac<|Al (p:=AA ve 0) (.inr Z) (zI ex.kind) AO Z ((a2 _<|a4.sub<|Bq hgS).ld (i:=0) EO) Ac ?_
 by_cases cr:ex.kind=((3:Nat):Int)
 ·refine Av true Z Z (A7 cr) Ac<|Ae 1 Z<|Ag Z<|qS [0,0,3,0] Z<|Af 2 Z<|As 253 [] [] [j8,f4] Z Z eE Ac (JH _ _ _ _ _ (a8).rd (a6).rd oM oM) ?_
  rintro lh ks ⟨b5,rfl,ag,bg⟩
  refine⟨_,rfl,ag,?_⟩
  have gw:=ag.size
  have dv:Az [g] w ks:=a4.ext ag
  have av:=ac.ext ag
  have iw:=a8.ext g1 ag
  have ix:=a6.ext g1 ag
  exact Ae 1 Z<|A3<|AK<|Ap<|Ah [6] Z b5 Z ⟨b5,EE j9 f2,fe,f3,rfl,dv,av,RN.of_fr1 bg fun b hb=>zH<|hS b hb,(by exact IG co),oM,oM,(by exact HV hc00 hs1 oM (Lw oM hra hrb) (fun h0=>by rw[h0];exact fF oM) (fun _=>rfl))⟩
 refine Av false Z Z (A8 cr) Ac<|Ae 1 Z<|Aj Z<|qS [0,0,0,2,0,0] Z<|Af 1 Z<|AV (hex.isPtr) Z Ac<|AP (p:=ve) 0 Bz Z (a2 _<|a4.sub<|Bq hgS) Ac<|Al (p:=AA ve 0) (.inr Z) (zI ex.kind) AO Z ((a2 _<|a4.sub<|Bq hgS).ld (i:=0) EO) Ac ?_
 by_cases cs:ex.kind=((4:Nat):Int)
 ·refine Av true Z Z (A7 cs) Ac<|Ae 1 Z<|Ag Z<|qS [0,0,3,0] Z<|Af 2 Z<|As 254 [] [] [j8,f4] Z Z mK Ac (Oj _ _ _ _ _ (a8).rd (a6).rd oM oM oM) ?_
  rintro li kt ⟨b6,rfl,ah,bh⟩
  refine⟨_,rfl,ah,?_⟩
  have gx:=ah.size
  have dw:Az [g] w kt:=a4.ext ah
  have aw:=ac.ext ah
  have iy:=a8.ext g1 ah
  have iz:=a6.ext g1 ah
  exact Ae 1 Z<|A3<|AK<|Ap<|Ah [6] Z b6 Z ⟨b6,DJ j9 f2,fe,f3,rfl,dw,aw,RN.of_fr1 bh fun b hb=>zH<|hS b hb,(by exact N9 co),oM,oM,(by exact HV hc00 hs1 oM (Lw oM hra hrb) (fun h0=>by rw[h0];exact fG oM) (fun _=>rfl))⟩
 refine Av false Z Z (A8 cs) Ac<|Ae 1 Z<|Aj Z<|qS [0,0,0,2,0,0] Z<|Af 1 Z<|AV (hex.isPtr) Z Ac<|AP (p:=ve) 0 Bz Z (a2 _<|a4.sub<|Bq hgS) Ac<|Al (p:=AA ve 0) (.inr Z) (zI ex.kind) AO Z ((a2 _<|a4.sub<|Bq hgS).ld (i:=0) EO) Ac ?_
 by_cases ct:ex.kind=((5:Nat):Int)
 ·refine Av true Z Z (A7 ct) Ac<|Ae 1 Z<|Ag Z<|qS [0,0,3,0] Z<|Af 2 Z<|As 255 [] [] [j8,f4] Z Z mL Ac (Ok _ _ _ _ _ (a8).rd (a6).rd oM oM) ?_
  rintro lj ku ⟨b7,rfl,ai,bi⟩
  refine⟨_,rfl,ai,?_⟩
  have gy:=ai.size
  have dx:Az [g] w ku:=a4.ext ai
  have ax:=ac.ext ai
  have j0:=a8.ext g1 ai
  have j1:=a6.ext g1 ai
  exact Ae 1 Z<|A3<|AK<|Ap<|Ah [6] Z b7 Z ⟨b7,Ci j9 f2,fe,f3,rfl,dx,ax,RN.of_fr1 bi fun b hb=>zH<|hS b hb,(by exact II co),oM,oM,(by exact HV hc00 hs1 oM (Lw oM hra hrb) (fun h0=>by rw[h0];exact fH oM) (fun _=>rfl))⟩
 refine Av false Z Z (A8 ct) Ac<|Ae 1 Z<|Aj Z<|qS [0,0,0,2,0,0,0,0,2,0,0,0] Z<|Af 1 Z<|Be Z Ac<|Aq (p:=zP g) 3 Gd Z Z Ac<|Al (p:=AA (zP g) 3) (.inr Z) (zI f3) AO Z (ac.ldp (i:=3) sM) Ac ?_
 by_cases cu:f3≠((0:Nat):Int)
 ·refine B4 true Z Z (A7 cu) Ac<|Ae 7 Z<|Ag Z<|qS [0,4,0] Z<|Af 1 Z<|AE 250 [] [] [zP g,zI ((6:Nat):Int)] Z Z U5 Ac (Do _ S g pp dp (n) (fe) (f3) (p) ((6:Nat):Int) (fun b hb=>(by have:=hS b hb;omega:b<ja.heap.size)) hgS ac (hp.chg (Bf<|B2 dp)<|a4.sub<|Bq hgS) oM oM oM oM oM) ?_
  rintro lk kv ⟨jv,kw,kx,ky,rfl,ay,dy,dz,cv,gz,i0,b8⟩
  refine⟨_,rfl,?_⟩
  have i1:=ay.size
  have e0:Az [g] w kv:=a4.trans ay
  have i2:=a8.run g1 hgS ay
  have i3:=a6.run g1 hgS ay
  have i4:=cv.1
  have hfs:=b8.1
  have hff:=b8.2
  exact Ae 1 Z<|A3<|AK<|Ap<|Ah [6] Z jv Z ⟨jv,kw,kx,ky,rfl,e0,dy,dz,(by assumption),oM,oM,(by rw[hfs];exact HV hc00 hs1 oM (Lw oM hra hrb) (fun h0=>absurd h0 oM) (fun h0=>by rw[hff,if_neg h0]))⟩
 refine B4 false Z Z (A8 cu) Ac<|Af 2 Z<|Aw (v:=f4) 0 Bm BM Z Z a6.slL Z (by rw[hlb];omega) (Ak (e:=175) Z Z Z) ?_
 have cw:=RN.getI (w:=ja) (k:=0) a6 (by rw[hlb];omega)
 refine Al (p:=Ax f4 0 1) (.inr Z) (zI<|f2.getD 0 0) AO Z (cw.1 _<|Az.refl _ _) (Ak (e:=175) Z Z Z) ?_
 by_cases b9:f2.getD 0 0=((0:Nat):Int)
 ·refine Av true Z Z (A7 b9) (Ak (e:=175) Z Z Z)<|Ae 2 Z<|Ag Z<|qS [0,4,0] Z<|Af 1 Z<|AE 250 [] [] [zP g,zI ((6:Nat):Int)] Z Z U5 Ac (Do _ S g pp dp (n) (fe) (f3) (p) ((6:Nat):Int) (fun b hb=>(by have:=hS b hb;omega:b<ja.heap.size)) hgS ac (hp.chg (Bf<|B2 dp)<|a4.sub<|Bq hgS) oM oM oM oM oM) ?_
  rintro kz jb ⟨fs,jc,jd,je,rfl,ad,cx,cy,bj,e1,e3,ak⟩
  refine⟨_,rfl,?_⟩
  have e4:=ad.size
  have cz:Az [g] w jb:=a4.trans ad
  have i5:=a8.run g1 hgS ad
  have i6:=a6.run g1 hgS ad
  have e5:=bj.1
  have hfs:=ak.1
  have hff:=ak.2
  exact Ae 1 Z<|A3<|AK<|Ap<|Ah [6] Z fs Z ⟨fs,jc,jd,je,rfl,cz,cx,cy,(by assumption),oM,oM,(by rw[hfs];exact HV hc00 hs1 oM (Lw oM hra hrb) (fun h0=>by rw[hff,if_pos h0];exact ZJ (xs:=[_,_]) oM (hzz.resolve_right oM)) (fun h0=>by rw[hff,if_neg h0]))⟩
 refine Av false Z Z (A8 b9) (Ak (e:=175) Z Z Z)<|Ae 2 Z<|Aj Z<|A4<|qS [0,0,3,0] Z<|Af 2 Z<|As 256 [] [] [j8,f4] Z Z mM Ac (Ol _ _ _ _ _ (a8).rd (a6).rd oM oM oM co.2) ?_
 rintro l0 jf ⟨al,rfl,a9,az⟩
 refine⟨_,rfl,a9,?_⟩
 have e6:=a9.size
 have d0:Az [g] w jf:=a4.ext a9
 have am:=ac.ext a9
 have i7:=a8.ext g1 a9
 have i8:=a6.ext g1 a9
 exact Ae 1 Z<|A3<|Ah [6] Z al Z ⟨al,C6 j9 f2,fe,f3,rfl,d0,am,RN.of_fr1 az fun b hb=>zH<|hS b hb,(by exact Hu co),oM,oM,(by exact HV hc00 hs1 oM (Lw oM hra hrb) (fun h0=>by rw[h0];exact fJ (xs:=[_,_]) oM (hzz.resolve_left oM)) (fun _=>rfl))⟩
theorem bW:∀F d,SV F d:=by
  intro F
  induction F using Nat.strongRecOn with
  |_ F ihF =>
    intro d
    induction d using Nat.strongRecOn with
    |_ d ihd =>
      intro w S g pp dp n s0 c0 p ve ex vv env hS hgS hB0 hp hn hs0 hc0 hex henv hqenv hvp hF hwf hse hdp
      exact Ke w S F g pp dp n s0 c0 p d ve ex vv env hS hgS hB0 hp hn hs0 hc0 hex henv hqenv hvp hF hwf hse hdp ihF ihd
theorem Z8 (F:Nat):SO F:=Z4 F fun d=>bW F d
theorem IW (w:World)(dp:Nat)(vp:Value)(p:List Fn)(f:Int)(va:Value)(a:List (Sr))(n:Nat)(hp:RN [] (rP (LS dp)) w.heap vp p)(_hf:BI f)(ha:RN [] (B3 (B3 rI)) w.heap va a)(hqa:Cj va)(hvp:J2 p)(hf:0≤f∧f<(p.length:Int))(hl:(a.length:Int)=(p.getD f.toNat Fn.zero).params)(hse:BC n a)(hn:1≤n∧n≤13) :
  Calls Tryz.prog 80 #[vp,zI f,va,zI (n:Int)] w (fun e w'=>∃v0:Value,e=.returned (.tuple #[v0,zI (H2 p n f.toNat a)])∧AB w w'∧Fr (AY (AY rI 2) 27) w.heap.size w'.heap.size w'.heap v0 (CS p n f.toNat a)∧ZK p n f.toNat a):=by
 refine At [vp,zI f,va,zI (n:Int)] 53 Tryz.func80 Z Z sM ?_
 have bi:AB w w:=AB.refl w
 have c9:=ha.lenL
 unfold maxLen at c9
 refine qS [0,0] Z<|Ae 2 Z<|qS [0,0,0,3,0] Z<|Af 2 Z ?_
 have aw:∀(vp:Value) (a8:∃b o,vp=.pointer (some ⟨b,o,none⟩)) (wq:World),(Instr.build 187 #[(0,vp),(1,zI (n:Int))]).run Tryz.prog wq=.ok (.agg #[vp,zI (n:Int),zI 0,zI 0]) wq:=by intro vp a8 wq;obtain⟨b0,o0,rfl⟩:=a8;kernel_rfl
 refine Ce (ps:=#[(0,vp),(1,zI (n:Int))]) (.agg #[vp,zI (n:Int),zI 0,zI 0]) (by simp only[zc,zf,zh];rfl) (fun wq=>aw vp hp.isPtr wq) Ac (C8 (cs:=#[vp,zI (n:Int),zI 0,zI 0]) Z Ac fun w2 ax bt ay=>?_)
 have az:=ax.size
 have a9:=bi.trans ax
 replace ay:BX w2.heap w.heap.size [vp,zI (n:Int),zI 0,zI 0]:=ay
 refine Ae 1 Z<|qS [0,0,0,0,2,0,0,0,4,0] Z ?_
 have cf:=hvp.par f.toNat oM
 have cg:=hvp.outs f.toNat oM
 have hle:a.length=a.length:=rfl
 refine Af 2 Z<|AV (hp.isPtr) Z Ac ?_
 obtain⟨cs3,bu,bj⟩:=RN.at (B2 _) hp
 obtain⟨av,rfl,b1⟩:=RPr.of bu
 have af:=b1.lenle
 unfold maxLen at af
 refine AP (p:=vp) 0 BQ Z (bj _<|Az.of_ext [] a9) Ac<|Al (p:=AA vp 0) (.inr Z) av Cr Z ((bj _<|Az.of_ext [] a9).ld (i:=0) (by simp[Dd,FU])) Ac<|Af 1 Z<|Aw (v:=av) ((f).toNat) H6 CM Z Z b1.isSl oM sD Ac<|Af 1 Z ?_
 refine AE 158 [] [] [zP w.heap.size,Ax av ((f).toNat) 3,va] Z Z Ys Ac (Z8 f.toNat _ [w.heap.size] w.heap.size vp dp (n) (0) (0) (p) dp (Ax av ((f).toNat) 3) (p.getD ((f).toNat) Fn.zero) va (a) (fun b hb=>(by have:=Ab hb;omega:b<w2.heap.size)) (List.mem_singleton.2 Z) ay ((hp.add (F:=[w.heap.size]) (Bf<|B2 dp) fun b hb=>zH<|Ab hb).ext (Bf<|B2 dp) a9) oM oM oM (RN.ptr (AC dp) (by decide) Fn.zero ((b1.add (F:=[w.heap.size]) (Am<|AC dp) fun b hb=>zH<|Ab hb).ext (Am<|AC dp) a9) sD) ((ha.add (F:=[w.heap.size]) g2 fun b hb=>zH<|Ab hb).ext g2 a9) hqa hvp oM (by intro k9 b2;have h9:=hvp.wf f.toNat oM k9 b2;rw[hle];rw[hl];exact h9) hse (by intro k9 b2;have:=hvp.deep f.toNat oM k9 b2;omega) oM) ?_
 rintro e4 w4 ⟨v4,x4,s4,c4,rfl,b3,bk,bv,aa,b4,b5,b6⟩
 refine⟨_,rfl,?_⟩
 have bw:=b3.size
 have ag:AB w w4:=b3.below a9 (fun b hb=>by have:b=w.heap.size:=(by simpa using hb);omega) a9.size
 have ah:=aa.2.1
 have ai:=aa.2.2
 have bx:=aa.1
 have aj:=bv.rt g2
 have hRL:=b6
 have hCB:=b5
 have hEP:=ZK.mk' hRL hCB b4 ah ai
 have hXS:=ai
 have hXL:=ah
 refine Ae 1 Z<|A0<|qS [0,0,0,2,0] Z<|Af 1 Z<|Be Z Ac<|Aq (p:=zP w.heap.size) 3 Gd Z Z Ac<|Al (p:=AA (zP w.heap.size) 3) (.inr Z) (zI c4) AO Z (bk.ldp (i:=3) sM) Ac ?_
 by_cases bl:c4≠((0:Nat):Int)
 ·refine B4 true Z Z (A7 bl) Ac<|Ai<|Ag Z<|A0<|AW _ [3,0,0,0,1,0,0] mixed (by kernel_rfl) (BS (AY rI 2) o1 Bn AU Ac fun v9 w9 ak c8 bz=>?_)
  replace ak:=ak.of_drew
  have c0:=ak.size
  have c1:=ag.trans ak
  have c2:=aj.ext g2 ak
  exact Af 1 Z<|Be Z Ac<|Aq (p:=zP w.heap.size) 3 Gd Z Z Ac<|Al (p:=AA (zP w.heap.size) 3) (.inl Z) (zI c4) AO Z (bk.ldp (i:=3) sM) Ac<|Ae 2 Z<|A3<|Ap<|Ah [8,9] Z (.tuple #[v9,zI c4]) Z ⟨v9,(by rw[Hv<|Lp hRL oM] <;> rfl),c1,(by rw[QI<|Lp hRL oM];exact(bz.up o2).low ag.size),hEP⟩
 refine B4 false Z Z (A8 bl) Ac<|Ai<|Aj Z<|A4<|qS [3,0] Z (BS (AY rI 2) o1 Bn AU Ac fun cb ch a6 b7 al=>?_)
 have am:=a6.size
 have an:=ag.trans a6
 have c3:=aj.ext g2 a6
 refine Ae 1 Z<|A0<|qT Z<|A5 ?_
 refine AQ (S:=Nat×Value) (fun⟨k,vo⟩=>([(12,vo),(13,zI (k:Int)),(11,v4)])) (fun⟨k,vo⟩ W=>AB w W∧Fr (AY (AY rI 2) 27) w4.heap.size W.heap.size W.heap vo ((x4).take k)∧k≤(x4).length∧RT w4.heap.size (B3<|B3 rI) W.heap v4 x4∧w4.heap.size≤W.heap.size∧w4.heap.size≤w4.heap.size∧w4.heap.size≤W.heap.size) (fun⟨k,vo⟩=>(x4).length-k) (0,cb) ⟨rfl,rfl,rfl,trivial⟩ ⟨an,al.up o2,sD,(by assumption),oM,oM,oM⟩ ?_
 clear bi bt ax az a9 af b3 al b7 a6 am an
 rintro⟨k,vo⟩ ρ16 ca ⟨ab,a4,b8,a0,bm,bn,bo⟩
 have bp:w.heap.size≤ca.heap.size:=ab.size
 refine A0<|qS [0,0,0,0] Z<|Af 2 Z<|AN (v:=v4) Bn Z a0.slL Ac ?_
 by_cases ao:(k:Int)<(x4.length:Int)
 ·refine Ay true Z Z (A7 ao) Ac<|Ai<|Ag Z<|A4<|A0<|A5<|Ad _ [0,0,0,0,2,3,3,4,0] Z ?_
  have hkx:=hXS k oM
  have hkl:=hkx.1
  refine Af 3 Z<|Aw (v:=v4) k Bn AU Z Z a0.slL Z sD Ac ?_
  obtain⟨ap,b9,ac⟩:=RT.getL g1 [] (k:=k) a0 sD
  have aq:=ac.lenL
  unfold maxLen at aq
  refine Al (p:=Ax v4 k 1) (.inr Z) ap B7 Z b9 Ac<|As 143 [] [] [ap] Z Z TZ Ac (Fy _ _ _ ac.rd oM) ?_
  rintro ci cj ⟨ar,rfl,a1,ad⟩
  refine⟨_,rfl,a1,?_⟩
  have bq:=a1.size
  have ba:=ab.trans a1
  have a2:=a4.ext (o2) a1
  have bb:=a0.ext g2 a1
  have bc:=ac.ext g1 a1
  refine Bs (u:=ar) (B:=ca.heap.size) o1 Bn AU Z Z ad (by first|exact A9 _|omega) Ac fun cc ck a5 c5 bd=>?_
  have br:=a5.size
  have au:=ba.trans a5
  have a3:=a2.ext (o2) a5
  have be:=bb.ext g2 a5
  have bf:=bc.ext g1 a5
  refine Ez o1 (v:=vo) (a:=cc) Bn AU Z Z Z a3 oM bd oM oM sD (by unfold maxLen;first|omega|assumption|(simp;done)|(simp;omega)) Ac fun cd ce cl a7 ae bg=>?_
  have bh:AB w ce:=a7.below au (fun c hc=>Aa ag.size (ae c hc).1) au.size
  have bs:=a7.size
  have c6:=be.chg g2 a7 fun c hc=>zH<|ae c hc
  have c7:=bf.chg g1 a7 fun c hc=>zH<|ae c hc
  refine Ae 1 Z<|Ad _ [0,0,0] Z<|Af 1 Z<|AG ((k+1:Nat):Int) Z Z (Bd oM sD) Ac<|Ae 1 Z ?_
  exact⟨(k+1,cd),_,rfl,zR,⟨bh,(by rw[Cp [] oM];exact bg.up o2),sD,(by assumption),oM,oM,oM⟩,zD⟩
 exact Ay false Z Z (A8 ao) Ac<|Ai<|Aj Z<|A6<|Au<|Au<|An<|qS [0,0,0] Z<|Ae 3 Z<|A3<|Ah [8,9] Z (.tuple #[vo,zI ((0:Nat):Int)]) Z ⟨vo,(by rw[LU<|OI hRL oM] <;> rfl),ab,(by have h:=(a4.up o2).low ag.size;rw[KD<|OI hRL oM];rwa [za oM]at h),hEP⟩
theorem eU {p:Prop}(h:p:=by unfold maxLen;first|omega|assumption|(simp only[zb,z9,z4,z6,z5];omega)|(simp[zb,z9,z4,z6,z5];done)|(simp[zb,z9,z4,z6,z5];omega)):p:=h
theorem GE (w:World)(dp:Nat)(vp:Value)(p:List Fn)(f:Int)(va:Value)(a:Sr)(hp:RN [] (rP (LS dp)) w.heap vp p)(_hf:BI f)(ha:Rd (B3 rI) w.heap va a)(hvp:J2 p)(hf:0≤f∧f<(p.length:Int))(hl:(a.length:Int)=(p.getD f.toNat Fn.zero).params)(hna:B9 a=true) :
  Calls Tryz.prog 75 #[vp,zI f,va] w (fun e w'=>∃v0:Value,e=.returned (.tuple #[v0,zI ((Pw p 1 f.toNat (Cd a):Nat):Int),zI (Et p f.toNat a)])∧AB w w'∧Fr (AY rI 2) w.heap.size w'.heap.size w'.heap v0 (Eq p f.toNat a)∧gC p f.toNat a∧Pw p 1 f.toNat (Cd a)≤3000):=by
 refine At [vp,zI f,va] 73 Tryz.func75 Z Z sM ?_
 have cb:AB w w:=AB.refl w
 have dh:=ha.lenle
 have dt:=hvp.par f.toNat oM
 have du:=hvp.outs f.toNat oM
 refine qS [0,0,0] Z<|Ae 3 Z<|qS [0,0,3,0] Z<|Af 1 Z ?_
 have bm:∀(vp:Value) (ap:∃b o,vp=.pointer (some ⟨b,o,none⟩)) (wq:World),(Instr.build 187 #[(0,vp),(1,zI ((1:Nat):Int))]).run Tryz.prog wq=.ok (.agg #[vp,zI ((1:Nat):Int),zI 0,zI 0]) wq:=by intro vp ap wq;obtain⟨b0,o0,rfl⟩:=ap;kernel_rfl
 refine Ce (ps:=#[(0,vp),(1,zI ((1:Nat):Int))]) (.agg #[vp,zI ((1:Nat):Int),zI 0,zI 0]) (by simp only[zc,zf,zh];rfl) (fun wq=>bm vp hp.isPtr wq) Ac (C8 (cs:=#[vp,zI ((1:Nat):Int),zI 0,zI 0]) Z Ac fun w2 bn ct bo=>?_)
 have bp:=bn.size
 have bq:=cb.trans bn
 replace bo:BX w2.heap w.heap.size [vp,zI ((1:Nat):Int),zI 0,zI 0]:=bo
 refine Ae 1 Z<|qS [3,0] Z (BS (AY rI 2) o1 Bn AU Ac fun v3 w3 bj cu cc=>?_)
 have br:=bj.size
 have cd:=bq.trans bj
 have b3:=bo.ext bj
 refine Ae 1 Z<|A0<|qT Z<|A5 ?_
 refine AQ (S:=Nat×Value) (fun⟨k,vo⟩=>([(10,vo),(11,zI (k:Int)),(0,vp),(1,zI f),(2,va),(9,zP w.heap.size)])) (fun⟨k,vo⟩ W=>AB w W∧Fr (AY (AY rI 2) 27) w2.heap.size W.heap.size W.heap vo ((a.take k).map fun x=>[x])∧BX W.heap w.heap.size [vp,zI ((1:Nat):Int),zI 0,zI 0]∧k≤a.length∧w.heap.size<w2.heap.size∧w2.heap.size≤W.heap.size) (fun⟨k,vo⟩=>a.length-k) (0,v3) ⟨rfl,rfl,rfl,rfl,rfl,rfl,trivial⟩ ⟨cd,cc.up o2,b3,sD,oM,oM⟩ ?_
 clear cb ct bn cc cu bj br cd
 rintro⟨k,vo⟩ ρ5 w5 ⟨ag,a0,a2,ce,cv,cw⟩
 have bs:w.heap.size≤w5.heap.size:=ag.size
 have d9:=a2.lt
 refine A0<|qS [0,0,0,0] Z<|Af 2 Z<|AN (v:=va) Bm Z ha.isSl Ac ?_
 by_cases cf:(k:Int)<(a.length:Int)
 ·refine Ay true Z Z (A7 cf) Ac<|Ai<|Ag Z<|A4<|A0<|A5<|Ad _ [0,0,0,0,2,3,3,4,0] Z<|Af 3 Z<|Aw (v:=va) k Bm BM Z Z ha.isSl Z sD Ac ?_
  refine Al (p:=Ax va k 1) (.inr Z) (zI<|a.getD k 0) AO Z (AR ag (ha.getI sD).1) Ac ?_
  refine Bs (u:=zI<|a.getD k 0) (B:=w5.heap.size) AS Bm BM Z Z (Mf w5.heap.size w5.heap.size _ _ (ha.getI sD).2) (A9 _) Ac fun v9 w9 bk da cx=>?_
  have cy:=bk.size
  have cz:=ag.trans bk
  have ah:=a0.ext (o2) bk
  have ai:=a2.ext bk
  refine Bs (u:=v9) (B:=w5.heap.size) o1 Bn AU Z Z cx (by first|exact A9 _|omega) Ac fun dj dv aj d0 bt=>?_
  have cg:=aj.size
  have b4:=cz.trans aj
  have aa:=ah.ext (o2) aj
  have ab:=ai.ext aj
  refine Ez o1 (v:=vo) (a:=dj) Bn AU Z Z Z aa oM bt oM oM sD eU Ac fun dk dm dw aw b5 bu=>?_
  have bv:AB w dm:=aw.below b4 (fun c hc=>Aa bq.size (b5 c hc).1) b4.size
  have ch:=aw.size
  have bw:=ab.chg aw fun hm=>zH<|b5 _ hm
  refine Ae 1 Z<|Ad _ [0,0,0] Z<|Af 1 Z<|AG ((k+1:Nat):Int) Z Z (Bd oM sD) Ac<|Ae 1 Z ?_
  exact⟨(k+1,dk),_,rfl,zR,⟨bv,(by rw[Dq 0 oM];exact bu.up o2),bw,sD,oM,oM⟩,zD⟩
 refine Ay false Z Z (A8 cf) Ac<|Ai<|Aj Z<|A6<|Au<|Au<|An<|qS [0,0,0,0,2,0,0,0,4,0] Z ?_
 have henv:(a.take k).map (fun x=>[x])=Cd a:=by rw[za oM];rfl
 have hle:((a.take k).map (fun x=>[x])).length=a.length:=by rw[henv];unfold Cd;rw[zg]
 refine Af 2 Z<|AV (hp.isPtr) Z Ac ?_
 obtain⟨cs13,bx,b6⟩:=RN.at (B2 _) hp
 obtain⟨ak,rfl,ax⟩:=RPr.of bx
 have aq:=ax.lenle
 unfold maxLen at aq
 refine AP (p:=vp) 0 BQ Z (b6 _<|Az.of_ext [] ag) Ac<|Al (p:=AA vp 0) (.inr Z) ak Cr Z ((b6 _<|Az.of_ext [] ag).ld (i:=0) (by simp[Dd,FU])) Ac<|Af 1 Z<|Aw (v:=ak) ((f).toNat) H6 CM Z Z ax.isSl oM sD Ac<|Af 1 Z ?_
 refine AE 158 [] [] [zP w.heap.size,Ax ak ((f).toNat) 3,vo] Z Z Ys Ac (Z8 f.toNat _ [w.heap.size] w.heap.size vp dp (1) (0) (0) (p) dp (Ax ak ((f).toNat) 3) (p.getD ((f).toNat) Fn.zero) vo ((a.take k).map fun x=>[x]) (fun b hb=>(by have:=Ab hb;omega:b<w5.heap.size)) (List.mem_singleton.2 Z) a2 ((hp.add (F:=[w.heap.size]) (Bf<|B2 dp) fun b hb=>zH<|Ab hb).ext (Bf<|B2 dp) ag) oM oM oM (RN.ptr (AC dp) (by decide) Fn.zero ((ax.add (F:=[w.heap.size]) (Am<|AC dp) fun b hb=>zH<|Ab hb).ext (Am<|AC dp) ag) sD) (RN.of_fr2 a0 fun b hb=>zH<|Ab hb) a0.cap hvp oM (by intro k9 bz;have h9:=hvp.wf f.toNat oM k9 bz;rw[hle];rw[hl];exact h9) (by rw[henv];exact DL hna) (by intro k9 bz;have:=hvp.deep f.toNat oM k9 bz;omega) oM) ?_
 rintro dx db ⟨dd,dc,dg,de,rfl,al,ay,c0,ac,b7,b8,b9⟩
 refine⟨_,rfl,?_⟩
 have ci:=al.size
 have ad:AB w db:=al.below ag (fun b hb=>by have:b=w.heap.size:=(by simpa using hb);omega) ag.size
 have az:=a0.chg (o2) al fun _ h=>zA h
 have ar:=ac.2.1
 have au:=ac.2.2
 have cj:=ac.1
 have av:=c0.rt g2
 have hRL:=b9
 rw[henv]at hRL
 have hCB:=b8
 have hEP:=ZK.mk' hRL hCB b7 ar au
 have hNP:=gC.mk' hEP
 have hST:=hEP.steps
 have hXS:=au
 have hXL:=ar
 refine Ae 1 Z<|A0<|qS [0,0,0,2,0] Z<|Af 1 Z<|Be Z Ac<|Aq (p:=zP w.heap.size) 3 Gd Z Z Ac<|Al (p:=AA (zP w.heap.size) 3) (.inr Z) (zI de) AO Z (ay.ldp (i:=3) sM) Ac ?_
 by_cases ba:de≠((0:Nat):Int)
 ·refine B4 true Z Z (A7 ba) Ac<|Ai<|Ag Z<|A0<|AW _ [3,0,0,0,1,0,0,0] mixed (by kernel_rfl) (BS (rI) AS Bm BM Ac fun di dy a4 d1 c1=>?_)
  replace a4:=a4.of_drew
  have ck:=a4.size
  have c2:=ad.trans a4
  have bl:=az.ext (o2) a4
  have d2:=av.ext g2 a4
  exact Af 1 Z<|Be Z Ac<|Aq (p:=zP w.heap.size) 3 Gd Z Z Ac<|Al (p:=AA (zP w.heap.size) 3) (.inl Z) (zI de) AO Z (ay.ldp (i:=3) sM) Ac<|Ae 3 Z<|A3<|Ap<|Ah [6,7,8] Z (.tuple #[di,zI ((0:Nat):Int),zI de]) Z ⟨di,(by rw[X1<|Lp hRL oM,show Et p f.toNat a=_ from Hv (Lp hRL oM)] <;> rfl),c2,(by rw[hNP.non (by rw[show Et p f.toNat a=_ from Hv (Lp hRL oM)];omega)];exact(c1.up o1).low ad.size),hNP,hST⟩
 refine B4 false Z Z (A8 ba) Ac<|Ai<|Aj Z<|A4<|qS [3,0] Z (BS (rI) AS Bm BM Ac fun dn dz a5 c3 bb=>?_)
 have bc:=a5.size
 have bd:=ad.trans a5
 have am:=az.ext (o2) a5
 have an:=ay.ext a5
 have d3:=av.ext g2 a5
 refine Ae 1 Z<|A0<|qT Z<|A5 ?_
 refine AQ (S:=Nat×Value) (fun⟨k,vo⟩=>([(13,vo),(14,zI (k:Int)),(9,zP w.heap.size),(12,dd)])) (fun⟨k,vo⟩ W=>AB w W∧Fr (AY rI 2) db.heap.size W.heap.size W.heap vo (((dc).take k).map fun s=>s.getD 0 0)∧BX W.heap w.heap.size [vp,zI ((1:Nat):Int),zI (dg:Int),zI de]∧k≤(dc).length∧RT db.heap.size (B3<|B3 rI) W.heap dd dc∧db.heap.size≤W.heap.size∧w.heap.size<db.heap.size∧db.heap.size≤db.heap.size∧db.heap.size≤W.heap.size) (fun⟨k,vo⟩=>(dc).length-k) (0,dn) ⟨rfl,rfl,rfl,rfl,trivial⟩ ⟨bd,bb.up o1,an,sD,(by assumption),oM,oM,oM,oM⟩ ?_
 clear bp bq a2 a0 ag bs aq al az bb c3 a5 bc bd am
 rintro⟨k,vo⟩ ρ28 df ⟨b1,ae,a1,c4,a3,cl,cm,cn,co⟩
 have cp:w.heap.size≤df.heap.size:=b1.size
 have d4:=a1.lt
 refine A0<|qS [0,0,0,0] Z<|Af 2 Z<|AN (v:=dd) Bn Z a3.slL Ac ?_
 by_cases be:(k:Int)<(dc.length:Int)
 ·refine Ay true Z Z (A7 be) Ac<|Ai<|Ag Z<|A4<|A0<|A5<|Ad _ [0,0,0,0,2,0,2,3,4,0] Z ?_
  have hkx:=hXS k oM
  have hkl:=hkx.1
  refine Af 3 Z<|Aw (v:=dd) k Bn AU Z Z a3.slL Z sD Ac ?_
  obtain⟨b2,c5,ao⟩:=RT.getL g1 [] (k:=k) a3 sD
  have bf:=ao.lenL
  unfold maxLen at bf
  refine Al (p:=Ax dd k 1) (.inr Z) b2 B7 Z c5 Ac<|Aw (v:=b2) 0 Bm BM Z Z ao.slL Z sD Ac ?_
  have bg:=RT.getI (k:=0) ao sD
  refine Al (p:=Ax b2 0 1) (.inr Z) (zI<|(dc.getD k []).getD 0 0) AO Z bg.1 Ac (Bs (u:=zI<|(dc.getD k []).getD 0 0) (B:=df.heap.size) AS Bm BM Z Z (Mf df.heap.size df.heap.size _ _ bg.2) (A9 _) Ac fun dq e0 a6 d5 bh=>?_)
  have cq:=a6.size
  have bi:=b1.trans a6
  have a7:=ae.ext (o1) a6
  have a8:=a1.ext a6
  have c6:=a3.ext g2 a6
  have c7:=ao.ext g1 a6
  refine Ey (v:=vo) (a:=dq) Bm BM Z Z Z a7 oM bh.rd1 sD eU Ac fun dr ds e1 a9 af c8=>?_
  have c9:AB w ds:=a9.below bi (fun c hc=>Aa ad.size (af c hc).1) bi.size
  have cr:=a9.size
  have d6:=c6.chg g2 a9 fun c hc=>zH<|af c hc
  have d7:=c7.chg g1 a9 fun c hc=>zH<|af c hc
  have ca:=a8.chg a9 fun hm=>zH<|af _ hm
  have d8:=bh.chg (o1) a9 fun c hc=>zH<|af c hc
  refine Ae 1 Z<|Ad _ [0,0,0] Z<|Af 1 Z<|AG ((k+1:Nat):Int) Z Z (Bd oM sD) Ac<|Ae 1 Z ?_
  exact⟨(k+1,dr),_,rfl,zR,⟨c9,(by rw[Dq [] oM];exact c8.up o1),ca,sD,(by assumption),oM,oM,oM,oM⟩,zD⟩
 refine Ay false Z Z (A8 be) Ac<|Ai<|Aj Z<|A6<|Au<|Au<|An<|A0<|AW _ [0,0,0,0,1,0,0,0] mixed (by kernel_rfl)<|Af 2 Z<|Be Z Ac<|Aq (p:=zP w.heap.size) 2 ME Z Z Ac<|Al (p:=AA (zP w.heap.size) 2) (.inl Z) (zI (dg:Int)) AO Z (a1.ldp (i:=2) sM) Ac<|Ae 3 Z<|A3 ?_
 exact Ah [6,7,8] Z (.tuple #[vo,zI (dg:Int),zI ((0:Nat):Int)]) Z ⟨vo,(by rw[X0<|OI hRL oM,show Et p f.toNat a=_ from LU (OI hRL oM)] <;> rfl),b1.drew,(by have h:=(ae.up o1).low ad.size;unfold Eq;rw[KD<|OI hRL oM];rwa [za oM]at h),hNP,hST⟩
theorem JI (w:World)(n:Int)(_hn:BI n)  :
  Calls Tryz.prog 154 #[zI n] w (fun e w'=>e=.returned (.agg #[zI 1,zI n,zI 0,zI 0,zN])∧AB w w'):=by
 refine At [zI n] 5 Tryz.func154 Z Z sM ?_
 have a6:AB w w:=AB.refl w
 refine qS [3] Z (Br (z:=.agg #[zI 0,zI 0,zI 0,zI 0,zN]) GV Ac fun w1 a3 aa a0=>?_)
 have a7:=a3.size
 have a4:=a6.trans a3
 replace a0:BX w1.heap w.heap.size [zI 0,zI 0,zI 0,zI 0,zN]:=a0
 refine Ai<|qS [0,0,4] Z<|Af 1 Z ?_
 have a1:∀(wq:World),(Instr.build 153 #[(0,zI ((1:Nat):Int)),(1,zI n)]).run Tryz.prog wq=.ok (.agg #[zI ((1:Nat):Int),zI n,zI 0,zI 0,zN]) wq:=by intro wq;kernel_rfl
 refine Ce (ps:=#[(0,zI ((1:Nat):Int)),(1,zI n)]) (.agg #[zI ((1:Nat):Int),zI n,zI 0,zI 0,zN]) (by simp only[zc,zf,zh];rfl) (fun wq=>a1  wq) Ac (BR (vs:=[zI ((1:Nat):Int),zI n,zI 0,zI 0,zN]) Bi Z Z (by intro u hu;simp only[ze,z2,or_false]at hu;rcases hu with rfl|rfl|rfl|rfl|rfl <;> first|exact⟨rfl,rfl⟩) a0 Z Z Ac fun w3 a5 ab a2=>?_)
 replace a2:BX w3.heap w.heap.size [zI ((1:Nat):Int),zI n,zI 0,zI 0,zN]:=a2
 have a8:w1.heap.size≤w3.heap.size:=a5.size
 have a9:AB w w3:=a5.below a4 (fun _ h=>zE h) a4.size
 exact Ai<|A3<|CA (cs:=[zI ((1:Nat):Int),zI n,zI 0,zI 0,zN]) Z Bi Z a2 Z ⟨rfl,a9⟩
theorem I5 (w:World)(k:Int)(xa:Ex)(va:Value)(xb:Ex)(vb:Value)(_hk:BI k)(hra:Rp xa)(h1a:∀u∈Dd xa va,u.cells=#[u]∧u.oneCell'=true)(hrb:Rp xb)(h1b:∀u∈Dd xb vb,u.cells=#[u]∧u.oneCell'=true)  :
  Calls Tryz.prog 153 #[zI k,(.agg #[(zI xa.kind),(zI xa.num),(zI xa.pick),(zI xa.count),va]),(.agg #[(zI xb.kind),(zI xb.num),(zI xb.pick),(zI xb.count),vb])] w (fun e w'=>∃v,e=.returned (.agg #[zI k,zI 0,zI 0,zI 0,v])∧AB w w'∧Er v 2∧(∀dd Fa Fb,FD 153 dd w.heap (Dd xa va) xa Fa→FD 153 dd w.heap (Dd xb vb) xb Fb→Fa.Nodup→Fb.Nodup→(∀c∈Fa,c∉Fb)→∃F',D7 5 (FD 153 dd) 153 w'.heap v [xa,xb] F'∧F'.Nodup∧∀c∈F',c∈Fa∨c∈Fb∨w.heap.size≤c)):=by
 refine At [zI k,.agg #[zI xa.kind,zI xa.num,zI xa.pick,zI xa.count,va],.agg #[zI xb.kind,zI xb.num,zI xb.pick,zI xb.count,vb]] 12 Tryz.func153 Z Z sM ?_
 have ak:AB w w:=AB.refl w
 refine qS [3,3,3] Z (C8 (cs:=#[zI xa.kind,zI xa.num,zI xa.pick,zI xa.count,va]) Z Ac fun w1 ah ay a8=>?_)
 have al:=ah.size
 have am:=ak.trans ah
 replace a8:BX w1.heap w.heap.size [zI xa.kind,zI xa.num,zI xa.pick,zI xa.count,va]:=a8
 have az:=a8.lt
 refine C8 (cs:=#[zI xb.kind,zI xb.num,zI xb.pick,zI xb.count,vb]) Z Ac fun w2 ab b0 a9=>?_
 have an:=ab.size
 have ao:=am.trans ab
 have a0:=a8.ext ab
 replace a9:BX w2.heap w1.heap.size [zI xb.kind,zI xb.num,zI xb.pick,zI xb.count,vb]:=a9
 have b1:=a0.lt
 have b2:=a9.lt
 refine Br (z:=.agg #[zI 0,zI 0,zI 0,zI 0,zN]) GV Ac fun w4 aa b3 ac=>?_
 have ap:=aa.size
 have ai:=ao.trans aa
 have a1:=a0.ext aa
 have a2:=a9.ext aa
 replace ac:BX w4.heap w2.heap.size [zI 0,zI 0,zI 0,zI 0,zN]:=ac
 refine Ai<|qS [0,2,2,3,0,4] Z<|Af 1 Z<|AZ (p:=zP w.heap.size) (.inr Z) [zI xa.kind,zI xa.num,zI xa.pick,zI xa.count,va] Bi Z (fun a5 ad=>LD.of_box<|BX.ext (w:=w4) a1 ad) Z Ac<|AZ (p:=zP w1.heap.size) (.inr Z) [zI xb.kind,zI xb.num,zI xb.pick,zI xb.count,vb] Bi Z (fun a5 ad=>LD.of_box<|BX.ext (w:=w4) a2 ad) Z Ac (iR (xa:=xa) (xb:=xb) (va:=va) (vb:=vb) DE BE Z Z Z Ac fun v7 w7 a3 b4 ae aq=>?_)
 have ar:=a3.size
 have aj:=ai.trans a3
 have a6:=ac.ext a3
 have af:∀(v7:Value) (a4:Nat) (h8_0:Er v7 a4) (wq:World),(Instr.build 153 #[(0,zI k),(4,v7)]).run Tryz.prog wq=.ok (.agg #[zI k,zI 0,zI 0,zI 0,v7]) wq:=by intro v7 a4 h8_0 wq;obtain⟨a8_0,aw,rfl,_⟩:=h8_0;kernel_rfl
 refine Ce (ps:=#[(0,zI k),(4,v7)]) (.agg #[zI k,zI 0,zI 0,zI 0,v7]) (by simp only[zc,zf,zh];rfl) (fun wq=>af v7 _ ae wq) Ac (BR (vs:=[zI k,zI 0,zI 0,zI 0,v7]) Bi Z Z (by intro u hu;simp only[ze,z2,or_false]at hu;rcases hu with rfl|rfl|rfl|rfl|rfl <;> first|exact⟨rfl,rfl⟩|exact Bo ae) a6 Z Z Ac fun w9 a7 b5 ag=>?_)
 replace ag:BX w9.heap w2.heap.size [zI k,zI 0,zI 0,zI 0,v7]:=ag
 have au:w7.heap.size≤w9.heap.size:=a7.size
 have av:AB w w9:=a7.below aj (fun _ h=>zE h) aj.size
 exact Ai<|A3<|CA (cs:=[zI k,zI 0,zI 0,zI 0,v7]) Z Bi Z ag Z ⟨v7,rfl,av,ae,bR (g:=w2.heap.size) ai aq a7 oM⟩
theorem eW {p:Prop}(h:p:=by unfold Dd;intro u hu;simp only[ze,z2,or_false]at hu;rcases hu with rfl|rfl|rfl|rfl|rfl <;> first|exact⟨rfl,rfl⟩):p:=h
theorem Mc (w:World)(g:Nat)(sv:Value)(cs:List UInt8)(n0:Nat)(gp:Nat)(vp:Value)(p:List Fn)(Bp Up:Nat)(nm:ByteArray)(va:Value)(a:Sr)(outs:Int)(fr:Int)(hs:FC w.heap g sv cs n0)(gj:n0+40000≤1000000000000)(hBp:BX w.heap gp [vp])(hOp:Fr (D7 3 (LZ 153 6) 49) Bp Up w.heap vp p)(hgo:g<Bp∧Bp≤Up∧Up≤gp)(ha:Rd (B3 rI) w.heap va a)(_houts:BI outs)(_hfr:BI fr)(hal:1≤a.length∧a.length≤4)(hou:1≤outs∧outs≤3)(hfr:0≤fr∧fr≤10)(hdp:Qf p false)(hpl:p.length≤9) :
  Calls Tryz.prog 70 #[zP g,zP gp,.string nm,va,zI outs,zI fr] w (fun e w'=>∃(v':Value) (xs:List Ex) (n1:Nat),e=.returned (.tuple #[])∧Az (g::gp::LG Bp Up) w w'∧FC w'.heap g sv cs n1∧(n0≤n1∧n1≤n0+40000)∧BX w'.heap gp [v']∧OC (D7 3 (LZ 153 6) 49) (fun b=>(Bp≤b∧b<Up)∨w.heap.size≤b) w'.heap v' (p++[Fn.mk nm (a.length:Int) xs])∧(xs.length:Int)=outs∧Ex.sizes xs≤3000):=by
 refine At [zP g,zP gp,.string nm,va,zI outs,zI fr] 69 Tryz.func70 Z Z sM ?_
 have ex:Az (g::gp::LG Bp Up) w w:=Az.refl (g::gp::LG Bp Up) w
 have fe:=ha.lenle
 have ig:=hs.lt
 have gk:=jP
 have gl:=jQ
 have ig:=hs.lt
 have gm:=hBp.lt
 refine qS [0,0,0,0,3,4] Z<|Af 2 Z<|AN (v:=va) Bm Z ha.isSl Ac ?_
 have d1:∀(wq:World),(Instr.build 49 #[(0,.string nm),(1,zI (a.length:Int))]).run Tryz.prog wq=.ok (.agg #[.string nm,zI (a.length:Int),zN]) wq:=by intro wq;kernel_rfl
 refine Ce (ps:=#[(0,.string nm),(1,zI (a.length:Int))]) (.agg #[.string nm,zI (a.length:Int),zN]) (by simp only[zc,zf,zh];rfl) (fun wq=>d1  wq) Ac ?_
 have io:=hBp.lt
 refine Br (z:=.agg #[.string ByteArray.empty,zI 0,zN]) bJ Ac fun w2 ce gn d2=>?_
 have d3:w.heap.size≤w2.heap.size:=ce.size
 have ey:Az (g::gp::LG Bp Up) w w2:=ex.ext ce
 have d4:=hs.ext ce
 have cg:=hOp.ext (Ao<|AJ 153 6) ce
 have ch:=hBp.ext ce
 replace d2:BX w2.heap w.heap.size [.string ByteArray.empty,zI 0,zN]:=d2
 refine BR (vs:=[.string nm,zI (a.length:Int),zN]) KT Z Z (by intro u hu;simp only[ze,z2,or_false]at hu;rcases hu with rfl|rfl|rfl <;> first|exact⟨rfl,rfl⟩) d2 Z Z Ac fun w4 cf go d5=>?_
 replace d5:BX w4.heap w.heap.size [.string nm,zI (a.length:Int),zN]:=d5
 have gq:w2.heap.size≤w4.heap.size:=cf.size
 have gr:Az (g::gp::LG Bp Up) w w4:=ey.fresh cf (fun _ h=>zE h)
 have ez:=d4.chg cf fun c hc=>zH<|Ab hc
 have d6:=cg.chg (Ao<|AJ 153 6) cf fun _ h=>zA h
 have d7:=ch.chg cf (zB ·)
 refine Ai<|qS [0,0,0,2,0,0] Z<|Af 1 Z<|Be Z Ac<|Aq (p:=zP gp) 0 BQ Z Z Ac<|Al (p:=AA (zP gp) 0) (.inr Z) vp Cr Z (d7.ldp (i:=0) sM) Ac<|AN (v:=vp) H6 Z d6.isSlS Ac<|Ae 1 Z<|A0<|qT Z<|A5 ?_
 refine AQ (S:=Nat×Value×List Ex×Nat) (fun⟨i,vo,xs,m⟩=>([(14,zI (i:Int)),(0,zP g),(1,zP gp),(4,zI outs),(5,zI fr),(12,zP w.heap.size),(13,zI (p.length:Int))])) (fun⟨i,vo,xs,m⟩ W=>Az (g::gp::LG Bp Up) w W∧Fr (D7 5 (FD 153 6) 153) w4.heap.size W.heap.size W.heap vo xs∧Fr (D7 3 (LZ 153 6) 49) Bp Up W.heap vp p∧FC W.heap g sv cs m∧BX W.heap gp [vp]∧BX W.heap w.heap.size [.string nm,zI (a.length:Int),vo]∧(i:Int)≤outs∧xs.length=i∧Ex.sizes xs≤1000*i∧(n0≤m∧m≤n0+12000*i)∧(w4.heap.size≤W.heap.size∧Up≤w4.heap.size∧w.heap.size≤w4.heap.size)∧Up≤w.heap.size∧w.heap.size≤w.heap.size∧gp<w4.heap.size∧w.heap.size<w4.heap.size∧w4.heap.size≤W.heap.size∧Bp≤W.heap.size) (fun⟨i,vo,xs,m⟩=>outs.toNat-i) (0,zN,([]:List Ex),n0) ⟨rfl,rfl,rfl,rfl,rfl,rfl,rfl,trivial⟩ ⟨gr,(HO _ 0 _).up<|Ao<|AH 153 6,d6,ez,d7,d5,oM,(by rfl),(by exact A9 _),oM,oM,oM,oM,oM,oM,oM,oM⟩ ?_
 clear ex gn ce d3 ey go cf ez d6 d7
 rintro⟨i,vo,xs,m⟩ ρ10 bk ⟨ax,aq,ar,au,a5,a6,hio,hxl,hxz,gs,gt,huf,gu,gv,gw,g0,g1⟩
 have g2:w.heap.size≤bk.heap.size:=ax.size
 have gx:=a5.lt
 have gy:=a6.lt
 refine A0<|qS [0,0,0] Z<|Af 2 Z ?_
 by_cases ci:(i:Int)<outs
 ·refine Ay true Z Z (A7 ci) Ac<|Ai<|Ag Z<|A4<|A0<|A5<|qS [0,0,0,4,0,0,3,0] Z<|Af 3 Z<|AE 122 [] [] [zP g,zI ((4:Nat):Int)] Z Z Ra Ac (CY _ g _ _ _ ((4:Nat):Int) au oM oM sD) ?_
  rintro is bm ⟨b5,il,rfl,ak,d8,gz,d9⟩
  refine⟨_,rfl,?_⟩
  have g3:bk.heap.size≤bm.heap.size:=ak.size
  have da:Az (g::gp::LG Bp Up) w bm:=ax.trans (ak.sub (eS _ _))
  have db:=aq.chg (Ao<|AH 153 6) ak fun _ h=>zA h
  have dc:=ar.chg (Ao<|AJ 153 6) ak fun _ h=>zA h
  have cj:=a5.chg ak (zB ·)
  have ck:=a6.chg ak (zB ·)
  refine BH (!b5) Z Z Ac ?_
  have cl:∀(wq:World),(Instr.build 151 #[(0,zP g),(1,zP gp),(2,zI ((7:Nat):Int)),(3,.bool (!b5))]).run Tryz.prog wq=.ok (.agg #[zP g,zP gp,zI ((7:Nat):Int),.bool (!b5)]) wq:=by intro wq;kernel_rfl
  refine Ce (ps:=#[(0,zP g),(1,zP gp),(2,zI ((7:Nat):Int)),(3,.bool (!b5))]) (.agg #[zP g,zP gp,zI ((7:Nat):Int),.bool (!b5)]) (by simp only[zc,zf,zh];rfl) (fun wq=>cl  wq) Ac ?_
  have i0:=cj.lt
  have i1:=ck.lt
  refine C8 (cs:=#[zP g,zP gp,zI ((7:Nat):Int),.bool (!b5)]) Z Ac fun bs ad i2 ca=>?_
  have g4:bm.heap.size≤bs.heap.size:=ad.size
  have dd:Az (g::gp::LG Bp Up) w bs:=da.ext ad
  have ay:=db.ext (Ao<|AH 153 6) ad
  have af:=dc.ext (Ao<|AJ 153 6) ad
  have az:=d8.ext ad
  have ag:=cj.ext ad
  have ah:=ck.ext ad
  replace ca:BX bs.heap bm.heap.size [zP g,zP gp,zI ((7:Nat):Int),.bool (!b5)]:=ca
  refine Ae 1 Z<|qS [0,0,2,0,4,3,4] Z<|Af 1 Z<|Aq (p:=zP w.heap.size) 1 CG Z Z Ac<|Al (p:=AA (zP w.heap.size) 1) (.inr Z) (zI (a.length:Int)) AO Z (ah.ldp (i:=1) sM) Ac<|Af 1 Z ?_
  refine AE 124 [] [] [zP bm.heap.size,zI (a.length:Int),zI (p.length:Int),zI ((4:Nat):Int)] Z Z OV Ac (YZ 4 _ bm.heap.size g sv cs il (zP gp) 6 ((7:Nat):Int) (!b5) p (a.length:Int) (p.length:Int) oM az ca (RN.box ag (RP.mk'<|RN.of_frF2 af fun b hb=>zH<|Dr hb) fun hb=>zH<|Dr hb) oM oM oM oM hdp.gpr oM oM oM) ?_
  rintro iu bt ⟨c7,bc,iv,iw,rfl,al,de,i3,cm,df,cn,dg⟩
  refine⟨_,rfl,?_⟩
  have g5:bs.heap.size≤bt.heap.size:=al.size
  have dh:Az (g::gp::LG Bp Up) w bt:=dd.new2 al (z0 ..) oM
  have di:=ay.chg (Ao<|AH 153 6) al fun c hc=>zH<|Dr hc
  have dj:=af.chg (Ao<|AJ 153 6) al fun c hc=>zH<|Dr hc
  have co:=ag.chg al fun hm=>zH<|Dr hm
  have cp:=ah.chg al fun hm=>zH<|Dr hm
  have hGz:bc.size≤29:=by have h9:=dg.sz;revert h9;clear ax hxz gs gj gk gl;intro h9;omega
  have i4:=co.lt
  have i5:=cp.lt
  have i6:=cm.lt
  refine Br (z:=.agg #[zI 0,zI 0,zI 0,zI 0,zN]) GV Ac fun dr a7 i7 cb=>?_
  have g6:bt.heap.size≤dr.heap.size:=a7.size
  have dk:Az (g::gp::LG Bp Up) w dr:=dh.ext a7
  have b0:=di.ext (Ao<|AH 153 6) a7
  have b1:=dj.ext (Ao<|AJ 153 6) a7
  have b2:=de.ext a7
  have b3:=co.ext a7
  have b4:=cp.ext a7
  have ai:=df.ext (Ao<|AH 153 4) a7
  replace cb:BX dr.heap bt.heap.size [zI 0,zI 0,zI 0,zI 0,zN]:=cb
  refine BR (vs:=[zI bc.kind,zI bc.num,zI bc.pick,zI bc.count,c7]) Bi Z Z (by intro u hu;simp only[ze,z2,or_false]at hu;rcases hu with rfl|rfl|rfl|rfl|rfl <;> first|exact⟨rfl,rfl⟩|exact Bo ai.isSlS) cb Z Z Ac fun c0 a8 i8 b6=>?_
  replace b6:BX c0.heap bt.heap.size [zI bc.kind,zI bc.num,zI bc.pick,zI bc.count,c7]:=b6
  have g7:dr.heap.size≤c0.heap.size:=a8.size
  have dl:Az (g::gp::LG Bp Up) w c0:=dk.fresh a8 (fun _ h=>zE h)
  have dm:=b0.chg (Ao<|AH 153 6) a8 fun _ h=>zA h
  have dn:=b1.chg (Ao<|AJ 153 6) a8 fun _ h=>zA h
  have dp:=b2.chg a8 fun c hc=>zH<|Ab hc
  have dq:=b3.chg a8 (zB ·)
  have cq:=b4.chg a8 (zB ·)
  have ds:=ai.chg (Ao<|AH 153 4) a8 fun _ h=>zA h
  refine Ai ?_
  letI:JR:=UU [g]
  refine Jx.AW _ [0,1,1,0,3,0,3,0,0,0,3,3,3,3,4,0,4] mixed (by kernel_rfl)<|Jx.Aq (p:=zP w.heap.size) 2 Cn Z Z Ac<|Jx.nQ (p:=AA (zP w.heap.size) 2) vo BA Z (fun wj hj=>(BX.chg (w:=c0.drew) (F:=[g]) cq hj (zB ·)).ldp (i:=2) sM) Ac<|Jx.jH (p:=zP bt.heap.size) [zI bc.kind,zI bc.num,zI bc.pick,zI bc.count,c7] Bi Z (fun wj hj=>LD.of_box<|BX.chg (w:=c0.drew) (F:=[g]) b6 hj (zB ·)) Z Ac<|Jx.f8 (zP g) Z Ac ?_
  refine Jx.As 68 [] [] [zP g,zI ((5:Nat):Int)] Z Z Ip Ac (B6 _ g _ _ _ ((5:Nat):Int) dp oM oM sD) ?_
  rintro ix eh ⟨ap,ip,rfl,a0,dt,i9,du⟩
  refine⟨_,rfl,a0,?_⟩
  replace a0:=a0.of_drew
  have g8:c0.heap.size≤eh.heap.size:=a0.size
  have dv:Az (g::gp::LG Bp Up) w eh:=dl.trans (a0.sub (eS _ _))
  have dw:=dm.chg (Ao<|AH 153 6) a0 fun _ h=>zA h
  have dx:=dn.chg (Ao<|AJ 153 6) a0 fun _ h=>zA h
  have dy:=dq.chg a0 (zB ·)
  have dz:=cq.chg a0 (zB ·)
  have e1:=ds.chg (Ao<|AH 153 4) a0 fun _ h=>zA h
  refine Jx.ZL Z<|AG (((1:Nat):Int)+ap) Z Z (Dh sD sD) Ac ?_
  refine As 154 [] [] [zI (((1:Nat):Int)+ap)] Z Z dS Ac (JI _ (((1:Nat):Int)+ap) oM) ?_
  rintro iy ei ⟨rfl,a1⟩
  refine⟨_,rfl,a1,?_⟩
  have g9:eh.heap.size≤ei.heap.size:=a1.size
  have e3:Az (g::gp::LG Bp Up) w ei:=dv.ext a1
  have b7:=dw.ext (Ao<|AH 153 6) a1
  have b8:=dx.ext (Ao<|AJ 153 6) a1
  have b9:=dt.ext a1
  have ba:=dy.ext a1
  have bb:=dz.ext a1
  have bd:=e1.ext (Ao<|AH 153 4) a1
  refine Af 2 Z<|AG (fr+(i:Int)) Z Z (Dh sD sD) Ac ?_
  refine As 155 [] [] [zI (fr+(i:Int))] Z Z lE Ac (Og _ (fr+(i:Int)) oM) ?_
  rintro iz be ⟨rfl,a2⟩
  refine⟨_,rfl,a2,?_⟩
  have ga:ei.heap.size≤be.heap.size:=a2.size
  have e4:Az (g::gp::LG Bp Up) w be:=e3.ext a2
  have bf:=b7.ext (Ao<|AH 153 6) a2
  have bg:=b8.ext (Ao<|AJ 153 6) a2
  have bh:=b9.ext a2
  have bi:=ba.ext a2
  have bj:=bb.ext a2
  have bl:=bd.ext (Ao<|AH 153 4) a2
  have cr:=(L6.leaf (H:=be.heap) (e:=153) (d:=1) (x:=.mk 1 (((1:Nat):Int)+ap) 0 0 []) oM (EG (a:=1) (b:=((1:Nat):Int)+ap) (c:=0) (k:=0) oM oM oM oM) Z be.heap.size be.heap.size)
  have ct:=(L6.leaf (H:=be.heap) (e:=153) (d:=1) (x:=.mk 2 (fr+(i:Int)) 0 0 []) oM (EG (a:=2) (b:=fr+(i:Int)) (c:=0) (k:=0) oM oM oM oM) Z be.heap.size be.heap.size)
  have cu:=I5 be ((5:Nat):Int) (.mk 1 (((1:Nat):Int)+ap) 0 0 []) zN (.mk 2 (fr+(i:Int)) 0 0 []) zN oM (EG (a:=1) (b:=((1:Nat):Int)+ap) (c:=0) (k:=0) oM oM oM oM) eW (EG (a:=2) (b:=fr+(i:Int)) (c:=0) (k:=0) oM oM oM oM) eW
  refine As 153 [] [] [zI ((5:Nat):Int),.agg #[zI ((1:Nat):Int),zI (((1:Nat):Int)+ap),zI 0,zI 0,zN],.agg #[zI ((2:Nat):Int),zI (fr+(i:Int)),zI 0,zI 0,zN]] Z Z Yr Ac cu ?_
  rintro j0 c1 ⟨et,rfl,a3,ia,e5⟩
  refine⟨_,rfl,a3,?_⟩
  have cv:Fr (D7 5 (FD 153 1) 153) be.heap.size c1.heap.size c1.heap et [.mk 1 (((1:Nat):Int)+ap) 0 0 [],.mk 2 (fr+(i:Int)) 0 0 []]:=YX (e5 1) cr ct oM oM oM oM
  have gb:be.heap.size≤c1.heap.size:=a3.size
  have e6:Az (g::gp::LG Bp Up) w c1:=e4.ext a3
  have bn:=bf.ext (Ao<|AH 153 6) a3
  have bo:=bg.ext (Ao<|AJ 153 6) a3
  have bp:=bh.ext a3
  have bq:=bi.ext a3
  have br:=bj.ext a3
  have aj:=bl.ext (Ao<|AH 153 4) a3
  have cw:=(L6.le (d':=5) (L6.mk1 (d:=4+1) (x:=bc) oM cn aj) oM)
  have cx:=(L6.le (d':=5) (L6.mk1 (d:=1+1) (x:=.mk ((5:Nat):Int) 0 0 0 [.mk 1 (((1:Nat):Int)+ap) 0 0 [],.mk 2 (fr+(i:Int)) 0 0 []]) oM (EG (a:=((5:Nat):Int)) (b:=0) (c:=0) (k:=0) oM oM oM oM) cv) oM)
  have cy:=I5 c1 ((3:Nat):Int) bc c7 (.mk ((5:Nat):Int) 0 0 0 [.mk 1 (((1:Nat):Int)+ap) 0 0 [],.mk 2 (fr+(i:Int)) 0 0 []]) et oM cn (by unfold Dd;intro u hu;simp only[ze,z2,or_false]at hu;rcases hu with rfl|rfl|rfl|rfl|rfl <;> first|exact⟨rfl,rfl⟩|exact Bo aj.isSlS) (EG (a:=((5:Nat):Int)) (b:=0) (c:=0) (k:=0) oM oM oM oM) (by unfold Dd;intro u hu;simp only[ze,z2,or_false]at hu;rcases hu with rfl|rfl|rfl|rfl|rfl <;> first|exact⟨rfl,rfl⟩|exact Bo cv.isSlS)
  refine As 153 [] [] [zI ((3:Nat):Int),.agg #[zI bc.kind,zI bc.num,zI bc.pick,zI bc.count,c7],.agg #[zI ((5:Nat):Int),zI 0,zI 0,zI 0,et]] Z Z Yr Ac cy ?_
  rintro j2 c8 ⟨fs,rfl,a4,ib,e7⟩
  refine⟨_,rfl,a4,?_⟩
  have e8:Fr (D7 5 (FD 153 5) 153) bs.heap.size c8.heap.size c8.heap fs [bc,.mk ((5:Nat):Int) 0 0 0 [.mk 1 (((1:Nat):Int)+ap) 0 0 [],.mk 2 (fr+(i:Int)) 0 0 []]]:=YX (e7 5) cw cx oM oM oM oM
  have gc:c1.heap.size≤c8.heap.size:=a4.size
  have e9:Az (g::gp::LG Bp Up) w c8:=e6.ext a4
  have bu:=bn.ext (Ao<|AH 153 6) a4
  have bv:=bo.ext (Ao<|AJ 153 6) a4
  have bw:=bp.ext a4
  have bx:=bq.ext a4
  have bz:=br.ext a4
  refine Gm (cs:=[zI ((3:Nat):Int),zI 0,zI 0,zI 0,fs]) (y:=.mk ((3:Nat):Int) 0 0 0 [bc,.mk ((5:Nat):Int) 0 0 0 [.mk 1 (((1:Nat):Int)+ap) 0 0 [],.mk 2 (fr+(i:Int)) 0 0 []]]) (B:=bs.heap.size) (AH 153 6) DE BE Z (by decide) Z (L6.mk1 (d:=6) oM (EG (a:=((3:Nat):Int)) (b:=0) (c:=0) (k:=0) oM oM oM oM) e8) oM Ac fun iq f1 a9 ic ea=>?_
  have gd:c8.heap.size≤f1.heap.size:=a9.size
  have eb:Az (g::gp::LG Bp Up) w f1:=e9.ext a9
  have c2:=bu.ext (Ao<|AH 153 6) a9
  have c3:=bv.ext (Ao<|AJ 153 6) a9
  have c4:=bw.ext a9
  have c5:=bx.ext a9
  have c6:=bz.ext a9
  refine JW (v:=vo) (a:=iq) (AH 153 6) DE BE Z (by decide) Z Z c2 oM ea oM oM oM (by unfold maxLen;omega) Ac fun fx e0 j3 aa ae cz=>?_
  have ge:f1.heap.size≤e0.heap.size:=aa.size
  have ec:Az (g::gp::LG Bp Up) w e0:=eb.fresh aa (fun c hc=>zH<|ae _ hc)
  have ed:=c3.chg (Ao<|AJ 153 6) aa fun c hc=>zH<|ae _ hc
  have ee:=c4.chg aa fun c hc=>zH<|ae _ hc
  have ef:=c5.chg aa fun hm=>zH<|ae _ hm
  have eg:=c6.chg aa fun hm=>zH<|ae _ hm
  refine Aq (p:=zP w.heap.size) 2 Cn Z Z Ac (BB (k:=2) (w:=e0) UO Z Z (Bo cz.isSlS) eg sM Ac fun f2 ab id cc=>?_)
  replace cc:BX f2.heap w.heap.size [.string nm,zI (a.length:Int),fx]:=cc
  have gf:e0.heap.size≤f2.heap.size:=ab.size
  have ej:Az (g::gp::LG Bp Up) w f2:=ec.fresh ab (fun _ h=>zE h)
  have ek:=ed.chg (Ao<|AJ 153 6) ab fun _ h=>zA h
  have el:=ee.chg ab fun c hc=>zH<|Ab hc
  have em:=ef.chg ab (zB ·)
  have en:=cz.chg (Ao<|AH 153 6) ab fun _ h=>zA h
  exact Ai<|Ad _ [0,0,0] Z<|Af 1 Z<|AG ((i+1:Nat):Int) Z Z (Bd oM oM) Ac<|Ae 1 Z ⟨(i+1,fx,xs++[.mk ((3:Nat):Int) 0 0 0 [bc,.mk ((5:Nat):Int) 0 0 0 [.mk 1 (((1:Nat):Int)+ap) 0 0 [],.mk 2 (fr+(i:Int)) 0 0 []]]],ip),_,rfl,zR,⟨ej,en.up<|Ao<|AH 153 6,ek,el,em,cc,oM,(by rw[z4,hxl];rfl),(by rw[HM];simp only[Ex.sizes,Ex.size]at *;omega),oM,oM,oM,oM,oM,oM,oM,oM⟩,zD⟩
 refine Ay false Z Z (A8 ci) Ac<|Ai<|Aj Z<|A6<|Au<|Au<|An<|AW _ [0,0,0,0,1,1,3,4,0,0,4] mixed (by kernel_rfl)<|Af 2 Z<|Be Z Ac<|Aq (p:=zP gp) 0 BQ Z Z Ac<|Al (p:=AA (zP gp) 0) (.inl Z) vp Cr Z (a5.ldp (i:=0) sM) Ac<|AZ (p:=zP w.heap.size) (.inl Z) [.string nm,zI (a.length:Int),vo] KT Z (fun j4 ih=>LD.of_box<|BX.ext (w:=bk.drew) a6 ih) Z Ac ?_
 have ii:bk.drew.heap.size=bk.heap.size:=rfl
 refine Gm (cs:=[.string nm,zI (a.length:Int),vo]) (y:=Fn.mk nm (a.length:Int) xs) (B:=w4.heap.size) (AJ 153 6) H6 CM Z (by decide) Z (L6.mkF (x:=⟨nm,(a.length:Int),xs⟩) (X4 (a:=(a.length:Int)) oM) aq) oM Ac fun ir f3 ac ij eo=>?_
 replace ac:=ac.of_drew
 have gg:bk.heap.size≤f3.heap.size:=ac.size
 have ep:Az (g::gp::LG Bp Up) w f3:=ax.ext ac
 have am:=ar.ext (Ao<|AJ 153 6) ac
 have an:=au.ext ac
 have ao:=a5.ext ac
 refine fi (v:=vp) (a:=ir) (AJ 153 6) H6 CM Z (by decide) Z Z am eo oM oM (by unfold maxLen;omega) Ac fun ie e2 j5 av c9 d0=>?_
 have gh:f3.heap.size≤e2.heap.size:=av.size
 have eq:Az (g::gp::LG Bp Up) w e2:=ep.trans (av.sub (fun c hc=>bS (c9 c hc)))
 have er:=an.chg av fun c hc=>zH<|c9 _ hc
 have es:=ao.chg av fun hm=>zH<|c9 _ hm
 refine Be Z Ac<|Aq (p:=zP gp) 0 BQ Z Z Ac (BB (k:=0) (w:=e2) mT Z Z (Bo<|OC.isSlS d0) es sM Ac fun f4 aw ik cd=>?_)
 replace cd:BX f4.heap gp [ie]:=cd
 have gi:e2.heap.size≤f4.heap.size:=aw.size
 have eu:Az (g::gp::LG Bp Up) w f4:=eq.trans (aw.sub (nH _ _))
 have ev:=er.chg aw fun c hc=>zH<|Ab hc
 have ew:=d0.chg (Ao<|AJ 153 6) aw fun c hc=>by have:=Ab hc;intro im;(try dsimp only at im);omega
 exact Ai<|Iw [] Z (.tuple #[]) Z ⟨ie,_,m,rfl,eu,ev,⟨zO,zO⟩,cd,ew.mono fun b hb=>by(try dsimp only at hb);omega,oM,oM⟩
theorem NV (w:World)(gp:Nat)(vp:Value)(p:List Fn)(F0:List Nat)(va:Value)(a:Sr)(hBp:BX w.heap gp [vp])(hOp:D7 3 (LZ 153 6) 49 w.heap vp p F0)(ar:F0.Nodup)(hgF:gp∉F0)(ha:Rd (B3 rI) w.heap va a)(hz:eT 1000000 p)(hpl:1≤p.length∧p.length≤100)(hl:(a.length:Int)=(p.getD (p.length-1) Fn.zero).params)(hna:B9 a=true)(hol:(p.getD (p.length-1) Fn.zero).outs.length≤3) :
  Calls Tryz.prog 71 #[zP gp,va] w (fun e w'=>∃(ps:List Fn) (F':List Nat),e=.returned (.tuple #[])∧Az F0 w w'∧D7 3 (LZ 153 9) 49 w'.heap vp ps F'∧F'.Nodup∧(∀b∈F',b∈F0∨w.heap.size≤b)∧ps.length=p.length∧Px ps):=by
 refine At [zP gp,va] 63 Tryz.func71 Z Z sM ?_
 have au:AB w w:=AB.refl w
 have bx:=ha.lenle
 have hFlt:=(Ao<|AJ 153 6).lt hOp
 have hrp:RP [] 6 w.heap vp p:=RN.of_frF (e:=153) (B:=0) (U:=w.heap.size) ⟨F0,hOp,ar,fun b hb=>⟨Nat.zero_le _,hFlt b hb⟩⟩ (fun b hb=>by cases hb)
 have bj:=hBp.lt
 refine qS [0,0,0,2,0,0,0] Z<|Af 1 Z<|Be Z Ac<|Aq (p:=zP gp) 0 BQ Z Z Ac<|Al (p:=AA (zP gp) 0) (.inr Z) vp Cr Z (hBp.ldp (i:=0) sM) Ac<|AN (v:=vp) H6 Z hrp.isSl Ac<|Cb ((p.length-1:Nat):Int) Z Z (by rw[Dh oM oM];omega) Ac<|Ae 1 Z<|A0<|qS [0,3,0] Z<|Af 1 Z<|As 138 [] [] [zP gp] Z Z dQ Ac (KZ _ 6 (zP gp) (p) (RN.box hBp (RP.mk'<|hrp.ext (Am<|AC 6) au) sM) (by exact hz.szp oM)) ?_
 rintro e1 w1 ⟨rfl,ah⟩
 refine⟨_,rfl,ah,?_⟩
 have bk:=ah.size
 have ai:=au.trans ah
 have ab:=hBp.ext ah
 refine BH (!(KE p)) Z Z Ac<|Ai ?_
 cases b9:(!(KE p))
 ·refine Aj (by first|rfl|exact zW b9)<|A4<|qS [0,0,0,3,0,0,0,0,0,0,0] Z ?_
  have hok:KE p=true:=ES (by assumption)
  have htn:((p.length-1:Nat):Int).toNat=p.length-1:=by omega
  refine Af 3 Z<|As 75 [] [] [zP gp,zI ((p.length-1:Nat):Int),va] Z Z iI Ac (GE _ 6 (zP gp) (p) _ _ _ (RN.box ab (RP.mk'<|hrp.ext (Am<|AC 6) ai) sM) oM (ha.ext g1 ai) (by exact Fu hok) oM (by rw[htn];exact hl) sD) ?_
  rintro e3 w3 ⟨a0,rfl,aj,ac,ba,bb⟩
  refine⟨_,rfl,aj,?_⟩
  have bl:=aj.size
  have bc:=ai.trans aj
  have ak:=ab.ext aj
  refine Af 1 Z<|AI (vs:=[a0,zI ((Pw p 1 ((p.length-1:Nat):Int).toNat (Cd a):Nat):Int),zI<|Et p ((p.length-1:Nat):Int).toNat a]) a0 Z Z Ac<|AI (vs:=[a0,zI ((Pw p 1 ((p.length-1:Nat):Int).toNat (Cd a):Nat):Int),zI<|Et p ((p.length-1:Nat):Int).toNat a]) (zI ((Pw p 1 ((p.length-1:Nat):Int).toNat (Cd a):Nat):Int)) Z Z Ac<|AI (vs:=[a0,zI ((Pw p 1 ((p.length-1:Nat):Int).toNat (Cd a):Nat):Int),zI<|Et p ((p.length-1:Nat):Int).toNat a]) (zI<|Et p ((p.length-1:Nat):Int).toNat a) Z Z Ac<|Ae 3 Z<|qS [0] Z ?_
  have hNP:=‹gC p ((p.length-1:Nat):Int).toNat a›
  have hnl:(Eq p ((p.length-1:Nat):Int).toNat a).length≤(p.getD (p.length-1) Fn.zero).outs.length:=(Decidable.em (Et p ((p.length-1:Nat):Int).toNat a=0)).elim (fun h9=>by rw[hNP.len h9,htn];exact A9 _) (fun h9=>by rw[hNP.non h9];exact Nat.zero_le _)
  refine Ae 1 Z<|A5 ?_
  have hOpx:=(Ao<|AJ 153 6).stable hOp fun b hb=>AB.heap bc<|hFlt b hb
  have hEz:Az F0 w w3:=AB.chg bc
  have bm:w.heap.size≤w3.heap.size:=hEz.size
  refine AQ (S:=Nat×List Fn×List Nat) (fun⟨i,ps,Fk⟩=>([(8,zI (i:Int)),(0,zP gp),(4,zI ((p.length-1:Nat):Int)),(5,a0),(7,zI<|Et p ((p.length-1:Nat):Int).toNat a)])) (fun⟨i,ps,Fk⟩ W=>Az F0 w W∧Fr (AY rI 2) w1.heap.size w3.heap.size W.heap a0 (Eq p ((p.length-1:Nat):Int).toNat a)∧BX W.heap gp [vp]∧i≤(Eq p ((p.length-1:Nat):Int).toNat a).length∧w3.heap.size≤W.heap.size∧D7 3 (LZ 153 (6+i)) 49 W.heap vp ps Fk∧Fk.Nodup∧(∀b∈Fk,b∈F0∨w3.heap.size≤b)∧ps.length=p.length∧(ps.getD (p.length-1) Fn.zero).outs.length=(p.getD (p.length-1) Fn.zero).outs.length∧eT (1000000+2*i) ps∧w1.heap.size≤W.heap.size) (fun⟨i,ps,Fk⟩=>(Eq p ((p.length-1:Nat):Int).toNat a).length-i) (0,p,F0) ⟨rfl,rfl,rfl,rfl,rfl,trivial⟩ ⟨hEz,ac,ak,oM,oM,hOpx,ar,(by exact fun b h=>.inl h),(by rfl),(by rfl),hz,oM⟩ ?_
  clear au ah ac aj bm
  rintro⟨i,ps,Fk⟩ ρ4 w4 ⟨aq,a1,a3,bd,bn,hOz,hNz,hKz,ae,av,af,bo⟩
  have bp:w.heap.size≤w4.heap.size:=aq.size
  have bv:=a3.lt
  have hFlz:=(Ao<|AJ 153 (6+i)).lt hOz
  refine A0<|qS [0,0,0,0,0,0,0,0] Z<|Af 2 Z<|AN (v:=a0) Bm Z a1.isSl Ac ?_
  by_cases be:(i:Int)<(((Eq p ((p.length-1:Nat):Int).toNat a).length:Nat):Int)
  ·refine Ay true Z Z (A7 be) Ac<|Af 2 Z ?_
   by_cases bf:Et p ((p.length-1:Nat):Int).toNat a=((0:Nat):Int)
   ·refine Av true Z Z (A7 bf) (Ak (e:=30) Z Z Z)<|Ae 1 Z<|Ag Z<|A4<|A0<|A5<|AW _ [0,0,0,1,0,0,0,1,0,0,0,0,1,0,0,0,1,0,0,1,0,0,0,1,3,3,0,4] mixed (by kernel_rfl) ?_
    have bq:=Bg hNP.num i
    obtain⟨voz,vkz,a4,hvoz,hrz,al,hvkz⟩:=UR (at_:=p.length-1) (i:=i) hOz hNz oM oM
    refine Af 1 Z<|Be Z Ac<|Aq (p:=zP gp) 0 BQ Z Z Ac<|Al (p:=AA (zP gp) 0) (.inl Z) vp Cr Z (a3.ldp (i:=0) sM) Ac<|Af 1 Z<|Aw (v:=vp) (p.length-1) H6 CM Z Z hOz.isSl Z oM Ac<|AP (p:=Ax vp (p.length-1) 3) 2 Cn Z a4 Ac<|Al (p:=AA (Ax vp (p.length-1) 3) 2) (.inl Z) voz BA Z (a4.ld (i:=2) (by simp[FU])) Ac<|Af 2 Z<|Be Z Ac<|Aq (p:=zP gp) 0 BQ Z Z Ac<|Al (p:=AA (zP gp) 0) (.inl Z) vp Cr Z (a3.ldp (i:=0) sM) Ac<|Af 1 Z ?_
    refine Aw (v:=vp) (p.length-1) H6 CM Z Z hOz.isSl Z oM Ac<|AP (p:=Ax vp (p.length-1) 3) 2 Cn Z a4 Ac<|Al (p:=AA (Ax vp (p.length-1) 3) 2) (.inl Z) voz BA Z (a4.ld (i:=2) (by simp[FU])) Ac<|Af 1 Z<|Aw (v:=voz) i DE BE Z Z hvoz Z oM Ac<|AZ (p:=Ax voz i 5) (.inl Z) (Dd ((ps.getD (p.length-1) Fn.zero).outs.getD i Ex.zero) vkz) Bi Z (fun c1 br=>al.exts br.of_drew) Z Ac<|Af 2 Z ?_
    refine Aw (v:=a0) i Bm BM Z Z a1.isSl Z sD Ac ?_
    refine Al (p:=Ax a0 i 1) (.inl Z) (zI<|(Eq p ((p.length-1:Nat):Int).toNat a).getD i 0) AO Z (a1.rd1.getI sD).1 Ac ?_
    refine As 154 [] [] [zI<|(Eq p ((p.length-1:Nat):Int).toNat a).getD i 0] Z Z dS Ac (JI _ ((Eq p ((p.length-1:Nat):Int).toNat a).getD i 0) (a1.rd1.getI sD).2) ?_
    rintro e9 w9 ⟨rfl,ad⟩
    refine⟨_,rfl,ad,?_⟩
    replace ad:=ad.of_drew
    have bs:w4.heap.size≤w9.heap.size:=ad.size
    have bt:Az F0 w w9:=aq.ext ad
    have a9:=a1.ext (o1) ad
    have aa:=a3.ext ad
    have am:=I5 w9 ((4:Nat):Int) ((ps.getD (p.length-1) Fn.zero).outs.getD i Ex.zero) vkz (.mk 1 ((Eq p ((p.length-1:Nat):Int).toNat a).getD i 0) 0 0 []) zN oM hrz (by unfold Dd;intro u hu;simp only[ze,z2,or_false]at hu;rcases hu with rfl|rfl|rfl|rfl|rfl <;> first|exact⟨rfl,rfl⟩|exact Bo hvkz) (EG (a:=1) (b:=(Eq p ((p.length-1:Nat):Int).toNat a).getD i 0) (c:=0) (k:=0) oM oM oM oM) (by unfold Dd;intro u hu;simp only[ze,z2,or_false]at hu;rcases hu with rfl|rfl|rfl|rfl|rfl <;> first|exact⟨rfl,rfl⟩)
    refine As 153 [] [] [zI ((4:Nat):Int),.agg #[zI<|((ps.getD (p.length-1) Fn.zero).outs.getD i Ex.zero).kind,zI<|((ps.getD (p.length-1) Fn.zero).outs.getD i Ex.zero).num,zI<|((ps.getD (p.length-1) Fn.zero).outs.getD i Ex.zero).pick,zI<|((ps.getD (p.length-1) Fn.zero).outs.getD i Ex.zero).count,vkz],.agg #[zI ((1:Nat):Int),zI<|(Eq p ((p.length-1:Nat):Int).toNat a).getD i 0,zI 0,zI 0,zN]] Z Z Yr Ac am ?_
    rintro c2 bw ⟨c3,rfl,a2,aw,ax⟩
    refine⟨_,rfl,a2,?_⟩
    have bg:w9.heap.size≤bw.heap.size:=a2.size
    have ay:Az F0 w bw:=bt.ext a2
    have a5:=a9.ext (o1) a2
    have a6:=aa.ext a2
    have an:=YY (U:=w4.heap.size) oM Z (EG (a:=1) (b:=(Eq p ((p.length-1:Nat):Int).toNat a).getD i 0) (c:=0) (k:=0) oM oM oM oM) oM (ax (6+i)) a2
    refine Aw (v:=voz) i DE BE Z Z hvoz Z oM Ac ?_
    have a7:AB w4 bw:=(ad.trans a2)
    have ao:=(Ao<|AJ 153 (6+i)).stable hOz fun b hb=>AB.heap a7<|hFlz b hb
    refine iS (at_:=p.length-1) (z:=.mk 1 ((Eq p ((p.length-1:Nat):Int).toNat a).getD i 0) 0 0 []) (v:=vp) (by unfold BI;omega) Bi Z Z (Bo aw).2 ao hNz oM oM ((a4.exts a7).ld (i:=2) (by simp[FU])) ((al.exts a7).ld (i:=4) (by simp[Dd])) hFlz (by have h9:=an;exact h9) Ac fun bz b11 c0 ag bu az b0 b1 b2=>?_
    have a8:b11∈F0∨w3.heap.size≤b11:=hKz b11 az
    have bh:b11<w.heap.size∨w3.heap.size≤b11:=a8.elim (fun h=>.inl (hFlt _ h)) .inr
    have ap:b11≠gp:=fun h9=>by rcases a8 with h8|h8;exact hgF (h9 ▸ h8);omega
    have bi:bw.heap.size≤bz.heap.size:=by omega
    have b3:Az F0 w bz:=Az.step ay ag (a8.elim .inl (fun h=>.inr oM))
    have b4:=a5.chg (o1) ag fun _ h=>zA h
    have b5:=a6.chg ag fun hm=>ap (Ab hm).symm
    refine Ai<|Ad _ [0,0,0] Z<|Af 1 Z<|AG ((i+1:Nat):Int) Z Z (Bd oM oM) Ac<|Ae 1 Z ?_
    have b6:=b0
    have b7:=b1
    have b8:=b2
    exact⟨(i+1,ps.set (p.length-1) ⟨(ps.getD (p.length-1) Fn.zero).name,(ps.getD (p.length-1) Fn.zero).params,(ps.getD (p.length-1) Fn.zero).outs.set i (.mk ((4:Nat):Int) 0 0 0 [(ps.getD (p.length-1) Fn.zero).outs.getD i Ex.zero,.mk 1 ((Eq p ((p.length-1:Nat):Int).toNat a).getD i 0) 0 0 []])⟩,c0),_,rfl,zR,⟨b3,b4,b5,oM,oM,b6,b7,(by exact fun b hb=>(b8 b hb).elim (hKz b) (fun h=>.inr oM)),(by rw[z6];exact ae),(by rw[bT oM];dsimp only;rw[z6];exact av),(by exact af.set oM oM),oM⟩,zD⟩
   exact Av false Z Z (A8 bf) (Ak (e:=30) Z Z Z)<|Ae 1 Z<|Aj Z<|A6<|Au<|Au<|An<|Iw [] Z (.tuple #[]) Z ⟨ps,Fk,rfl,aq,Sl hOz oM,hNz,fun b hb=>(hKz b hb).elim .inl fun h=>.inr oM,ae,af.szp oM⟩
  exact Ay false Z Z (A8 be) Ac<|Ae 4 Z<|Aj Z<|A6<|Au<|Au<|An<|Iw [] Z (.tuple #[]) Z ⟨ps,Fk,rfl,aq,Sl hOz oM,hNz,fun b hb=>(hKz b hb).elim .inl fun h=>.inr oM,ae,af.szp oM⟩
 exact Ag (by first|rfl|exact zW b9)<|A3<|Ap<|Ah [] Z (.tuple #[]) Z ⟨p,F0,rfl,AB.chg ai,Sl ((Ao<|AJ 153 6).stable hOp fun b hb=>AB.heap ai<|hFlt b hb) oM,ar,fun b hb=>.inl hb,rfl,hz.szp oM⟩
structure rj (p:List Fn)(f:Int)(a:List Int):Prop where
  sz:Px p
  fe:f=((p.length:Nat):Int)-1
  len:1≤p.length∧p.length≤12
  na:B9 a=true
  al:1≤a.length∧a.length≤3
theorem L1 (w:World)(vc:Value)(cs:List UInt8)(hcs:Rd (B3 rU) w.heap vc cs)  :
  Calls Tryz.prog 13 #[vc] w (fun e w'=>∃(v va:Value) (p:List Fn) (f:Int) (a:Sr),e=.returned (.tuple #[.agg #[v],zI f,va])∧AB w w'∧Fr (D7 3 (LZ 153 9) 49) w.heap.size w'.heap.size w'.heap v p∧Fr (AY rI 2) w.heap.size w'.heap.size w'.heap va a∧rj p f a):=by
 refine At [vc] 37 Tryz.func13 Z Z sM ?_
 have cp:AB w w:=AB.refl w
 have dw:=hcs.lenle
 have c6:=jP
 have da:=jQ
 refine qS [3,0,0] Z (Br (z:=.agg #[zN]) YG Ac fun w1 c7 db b7=>?_)
 have cq:=c7.size
 have c8:=cp.trans c7
 replace b7:BX w1.heap w.heap.size [zN]:=b7
 refine Ae 2 Z<|qS [0,3,0] Z<|Af 1 Z<|As 66 [] [] [vc] Z Z pS Ac (NJ _ _ _<|hcs.ext Di c8) ?_
 rintro e2 w2 ⟨gB2,rfl,b6,c9,dc⟩
 refine⟨_,rfl,b6,?_⟩
 have cr:=b6.size
 have ca:=c8.trans b6
 have al:=b7.ext b6
 refine Ae 1 Z<|qS [0,0,4,4,3,4] Z ?_
 have e0:=c9.lt
 refine Af 2 Z<|AE 68 [] [] [zP gB2,zI ((2:Nat):Int)] Z Z Ip Ac (B6 _ gB2 _ _ _ ((2:Nat):Int) c9 oM oM sD) ?_
 rintro e3 w3 ⟨dm,n3,rfl,b8,ct,dd,cb⟩
 refine⟨_,rfl,?_⟩
 have cu:w2.heap.size≤w3.heap.size:=b8.size
 have cc:AB w w3:=b8.below ca (fun _ h=>zE h) ca.size
 have cv:=al.chg b8 (zB ·)
 refine AE 67 [] [] [zP gB2,zI dm,zI ((8:Nat):Int),.bool true] Z Z pT Ac (NL _ gB2 vc cs n3 (dm) ((8:Nat):Int) true ct oM oM oM oM oM) ?_
 rintro e5 w5 ⟨v5,p5,n5,rfl,b9,c6,de,cw,ba⟩
 refine⟨_,rfl,?_⟩
 have cx:w3.heap.size≤w5.heap.size:=b9.size
 have cy:AB w w5:=b9.below cc (fun _ h=>zE h) cc.size
 have cd:=cv.chg b9 (zB ·)
 have dx:=ba.1.npl
 have hdn:=ba.2.1
 have hpk:=ba.2.2
 have df:=cd.lt
 refine Br (z:=.agg #[zN]) YG Ac fun w7 am dg bb=>?_
 have cz:=am.size
 have ce:=cy.trans am
 have an:=cd.ext am
 have ao:=c6.ext am
 have af:=cw.ext (Ao<|AJ 153 6) am
 replace bb:BX w7.heap w5.heap.size [zN]:=bb
 refine BR (vs:=[v5]) CL Z Z (by intro u hu;simp only[ze,z2,or_false]at hu;rcases hu with rfl <;> first|exact⟨rfl,rfl⟩|exact Bo af.isSlS) bb Z Z Ac fun w9 ap dh bc=>?_
 replace bc:BX w9.heap w5.heap.size [v5]:=bc
 have d0:w7.heap.size≤w9.heap.size:=ap.size
 have cf:AB w w9:=ap.below ce (fun _ h=>zE h) ce.size
 have bd:=an.chg ap (zB ·)
 have be:=ao.chg ap fun c hc=>zH<|Ab hc
 have bf:=af.chg (Ao<|AJ 153 6) ap fun _ h=>zA h
 refine Ai<|qS [0,4,0,0] Z<|Af 1 Z<|AE 68 [] [] [zP gB2,zI ((3:Nat):Int)] Z Z Ip Ac (B6 _ gB2 _ _ _ ((3:Nat):Int) be oM oM sD) ?_
 rintro e1 ds ⟨di,e4,rfl,a8,bg,d1,bh⟩
 refine⟨_,rfl,?_⟩
 have cg:w9.heap.size≤ds.heap.size:=a8.size
 have aq:AB w ds:=a8.below cf (fun _ h=>zE h) cf.size
 have bi:=bd.chg a8 (zB ·)
 have bj:=bf.chg (Ao<|AJ 153 6) a8 fun _ h=>zA h
 have bk:=bc.chg a8 (zB ·)
 refine AG (((1:Nat):Int)+di) Z Z (Dh sD sD) Ac<|Ae 1 Z<|qS [0,0,4,0] Z ?_
 refine Af 2 Z<|AE 69 [] [] [zP gB2,zI (((1:Nat):Int)+di)] Z Z pU Ac (NI _ gB2 _ _ _ (((1:Nat):Int)+di) bg oM oM oM) ?_
 rintro e6 dn ⟨a2,dp,e7,rfl,a9,bl,d2,ag,ah⟩
 refine⟨_,rfl,?_⟩
 have ch:ds.heap.size≤dn.heap.size:=a9.size
 have ar:AB w dn:=a9.below aq (fun _ h=>zE h) aq.size
 have bm:=bi.chg a9 (zB ·)
 have bn:=bj.chg (Ao<|AJ 153 6) a9 fun _ h=>zA h
 have bo:=bk.chg a9 (zB ·)
 have hst:=ah
 refine Ae 1 Z<|qS [3,0,4,0] Z (Bs (u:=zI ((0:Nat):Int)) (B:=dn.heap.size) AS Bm BM Z Z (Mf dn.heap.size dn.heap.size _ _ oM) (A9 _) Ac fun dy dz a4 d3 bp=>?_)
 have ci:=a4.size
 have au:=ar.trans a4
 have ab:=bm.ext a4
 have ac:=bl.ext a4
 have ad:=bn.ext (Ao<|AJ 153 6) a4
 have ae:=bo.ext a4
 have a1:=ag.ext (o1) a4
 refine Af 1 Z (Ey (v:=dy) (a:=a2) Bm BM Z Z Z bp oM a1.rd1 sD (by unfold maxLen;first|omega|assumption|(simp;done)|(simp;omega)) Ac fun dr dq e8 a5 a7 av=>?_)
 have aw:AB w dq:=a5.below au (fun c hc=>Aa ar.size (a7 c hc).1) au.size
 have cj:dz.heap.size≤dq.heap.size:=a5.size
 have bq:=ab.chg a5 fun hm=>zH<|a7 _ hm
 have br:=ac.chg a5 fun c hc=>zH<|a7 c hc
 have bs:=ad.chg (Ao<|AJ 153 6) a5 fun c hc=>zH<|a7 c hc
 have bt:=ae.chg a5 fun hm=>zH<|a7 _ hm
 have bu:=a1.chg (o1) a5 fun c hc=>zH<|a7 c hc
 refine Ae 1 Z<|qS [0,0,0,4] Z<|Af 3 Z<|AE 70 [] [] [zP gB2,zP w5.heap.size,.string<|⟨#[101,113]⟩,dr,zI (((1:Nat):Int)+di),zI ((1:Nat):Int)] Z Z pV Ac (Mc _ gB2 _ _ _ w5.heap.size v5 _ w3.heap.size w5.heap.size (⟨#[101,113]⟩) dr _ (((1:Nat):Int)+di) ((1:Nat):Int) br oM bt bs oM av.rd1 oM oM (by rw[z4,zd];omega) oM oM dx oM) ?_
 rintro e9 dt ⟨dj,du,ea,rfl,aa,bv,d4,ax,bw,ck,cl⟩
 refine⟨_,rfl,?_⟩
 have cm:dq.heap.size≤dt.heap.size:=aa.size
 have ay:AB w dt:=aa.below aw (fun c hc=>zH<|I2.1 hc) aw.size
 have bx:=bq.chg aa fun hm=>zH<|I2.1 hm
 have bz:=bu.chg (o1) aa fun c hc=>zH<|I2.1 hc
 have az:=av.chg (o1) aa fun c hc=>zH<|I2.1 hc
 refine Ai<|qS [0,4] Z<|Af 1 Z ?_
 obtain⟨Fz,hOz,hNz,hSz⟩:=bw
 have a3:∀c∈Fz,(w3.heap.size≤c∧c<w5.heap.size)∨dq.heap.size≤c:=hSz
 refine AE 71 [] [] [zP w5.heap.size,dr] Z Z pW Ac (NV _ w5.heap.size dj _ Fz dr _ ax hOz hNz (fun hm=>zH<|a3 _ hm) az.rd1 (by exact dx.szq (by decide) oM oM) (by rw[z4,zd];omega) (by rw[GZ (by rw[z4,zd];omega)]) (by have h9:=hst.2;unfold B9 at h9 ⊢;rw[List.singleton_append,List.all_cons,h9];rfl) (by rw[GZ (by rw[z4,zd];omega)];show du.length≤3;omega)) ?_
 rintro eb dk ⟨ps32,Fy32,rfl,a6,b0,b1,b2,b3,b4⟩
 refine⟨_,rfl,?_⟩
 have cn:dt.heap.size≤dk.heap.size:=a6.size
 have b5:AB w dk:=a6.below ay (fun c hc=>zH<|a3 _ hc) ay.size
 have c0:=bx.chg a6 fun hm=>zH<|a3 _ hm
 have d5:=bv.chg a6 fun c hc=>zH<|a3 _ hc
 have ai:=ax.chg a6 fun hm=>zH<|a3 _ hm
 have c1:=bz.chg (o1) a6 fun c hc=>zH<|a3 _ hc
 have c2:=az.chg (o1) a6 fun c hc=>zH<|a3 _ hc
 have aj:OC (D7 3 (LZ 153 9) 49) (fun b=>(w3.heap.size≤b∧b<w5.heap.size)∨dq.heap.size≤b) dk.heap dj ps32:=⟨Fy32,b0,b1,fun b hb=>(b2 b hb).elim (a3 b) (fun h9=>.inr oM)⟩
 rw[z4,zd]at b3
 refine Ai<|A0 ?_
 letI:JR:=UU [w.heap.size]
 refine Jx.AW _ [1,0,1,0,0,0,3,0,0] mixed (by kernel_rfl)<|Jx.jH (p:=zP w5.heap.size) [dj] CL Z (fun wj hj=>LD.of_box<|BX.chg (w:=dk.drew) (F:=[w.heap.size]) ai hj (zB ·)) Z Ac<|Jx.Aq (p:=zP w5.heap.size) 0 BQ Z Z Ac<|Jx.nQ (p:=AA (zP w5.heap.size) 0) dj Cr Z (fun wj hj=>(BX.chg (w:=dk.drew) (F:=[w.heap.size]) ai hj (zB ·)).ldp (i:=0) sM) Ac<|Jx.j1<|AN (v:=dj) H6 Z (OC.isSlS aj) Ac<|Ai<|Jx.j1 ?_
 refine Cb ((ps32.length:Int)-((1:Nat):Int)) Z Z (Dh sD sD) Ac<|Ai<|Jx.f8 a2 Z Ac ?_
 refine Jx.qX (BR (vs:=[dj]) CL Z Z (by intro u hu;simp only[ze,z2,or_false]at hu;rcases hu with rfl <;> first|exact⟨rfl,rfl⟩|exact Bo (OC.isSlS aj)) c0 Z Z Ac fun dv a0 d6 ak=>?_)
 replace ak:BX dv.heap w.heap.size [dj]:=ak
 replace a0:=a0.of_drew
 have co:dk.heap.size≤dv.heap.size:=a0.size
 have c3:AB w dv:=a0.below b5 (fun _ h=>zE h) b5.size
 have d7:=ai.chg a0 (zB ·)
 have c4:=c1.chg (o1) a0 fun _ h=>zA h
 have d8:=c2.chg (o1) a0 fun _ h=>zA h
 have c5:=aj.chg (Ao<|AJ 153 9) a0 fun c hc=>by have:=Ab hc;intro d9;(try dsimp only at d9);omega
 refine Ai ⟨⟨a0.os,a0.tape,a0.output,a0.size,a0.block⟩,?_⟩
 exact Jx.V3 (zI ((ps32.length:Int)-((1:Nat):Int))) Z Ac<|Jx.V3 a2 Z Ac<|Jx.Ai<|A3<|Lr (t0:=3) (ts:=[4]) (cs:=[dj]) [zI ((ps32.length:Int)-((1:Nat):Int)),a2] Z CL Z ak Z Z ⟨dj,a2,ps32,(ps32.length:Int)-((1:Nat):Int),dp,rfl,c3,c5.fr (Ao<|AJ 153 9) (B:=w.heap.size) fun b hb=>by(try dsimp only at hb);omega,(c4.up o1).low (B':=w.heap.size) oM,(by exact⟨b4,rfl,zO,hst.2,zO⟩)⟩
theorem Q9 (w:World)(n:Nat)(vp:Value)(ps:Sr)(_hn:n≤1000000000000)(hps:Rd (B3 rI) w.heap vp ps)(hn:n≤1000)(hk:∀j,j<ps.length→0≤ps.getD j 0∧ps.getD j 0<(n:Int)) :
  Calls Tryz.prog 182 #[zI (n:Int),vp] w (fun e w'=>∃v0:Value,e=.returned (v0)∧AB w w'∧Fr (AY rI 2) w.heap.size w'.heap.size w'.heap v0 (Gw n ps ps.length)):=by
 refine At [zI (n:Int),vp] 27 Tryz.func182 Z Z sM ?_
 have a4:AB w w:=AB.refl w
 have ah:=hps.lenle
 refine qT Z<|qS [0,3,0] Z<|Af 1 Z (FM (n:=n) Bm BM Z Z Z sD Ac fun v1 w1 a2 aa a5=>?_)
 have a3:=a2.size
 have a6:=a4.trans a2
 refine Ae 1 Z<|A0<|qS [0,0,0] Z<|Af 1 Z<|AN (v:=vp) Bm Z hps.isSl Ac<|Ae 1 Z<|A5<|AQ (S:=Nat) (fun j=>([(12,zI (j:Int)),(5,v1),(10,vp),(11,zI (ps.length:Int))])) (fun j W=>AB w W∧Fr (AY rI 2) w.heap.size W.heap.size W.heap v1 (Gw n ps j)∧j≤ps.length) (fun j=>ps.length-j) 0 ⟨rfl,rfl,rfl,rfl,trivial⟩ ⟨a6,(by exact a5.up o1),oM⟩ ?_
 clear a4 a5 aa a2 a3 a6
 rintro j ρ2 w2 ⟨a1,a0,a7⟩
 have ab:w.heap.size≤w2.heap.size:=a1.size
 have hul:=IK n ps j
 refine qS [0] Z ?_
 by_cases a8:(j:Int)<(ps.length:Int)
 ·refine Ay true Z Z (A7 a8) Ac<|Ai<|A0<|Ag Z<|A4<|A0<|A5<|qS [0,2,0] Z ?_
  have hkj:=hk j oM
  refine Aw (v:=vp) j Bm BM Z Z hps.isSl Z sD Ac ?_
  refine Al (p:=Ax vp j 1) (.inr Z) (zI<|ps.getD j 0) AO Z (AR a1 (hps.getI sD).1) Ac<|Ae 1 Z<|Ad _ [0,0,0,0,0,2,0,0,0,4] Z<|Af 4 Z ?_
  refine Aw (v:=v1) ((ps.getD j 0).toNat) Bm BM Z Z a0.isSl oM sD Ac ?_
  refine Al (p:=Ax v1 ((ps.getD j 0).toNat) 1) (.inr Z) (zI<|(Gw n ps j).getD ((ps.getD j 0).toNat) 0) AO Z (a0.rd1.getI sD).1 Ac ?_
  have hgn:=Bg (Hx n ps j) (ps.getD j 0).toNat
  refine AG (((Gw n ps j).getD ((ps.getD j 0).toNat) 0)+((1:Nat):Int)) Z Z (Dh sD sD) Ac ?_
  refine E5 (md (((Gw n ps j).getD ((ps.getD j 0).toNat) 0)+((1:Nat):Int))) Z Z (by decide) (Int.tmod_eq_emod_of_nonneg oM) Ac<|Aw (v:=v1) ((ps.getD j 0).toNat) Bm BM Z Z a0.isSl oM sD Ac ?_
  refine EV (v:=v1) (w:=w2) I0 Z Z (DI _) a0 sD Ac fun w4 F4 a9 ag ac ad=>?_
  have ae:AB w w4:=a9.below a1 (fun c hc=>Aa (A9 _) (ac c hc).1) a1.size
  have af:w2.heap.size≤w4.heap.size:=a9.size
  exact Ai<|Ad _ [0,0] Z<|AG ((j+1:Nat):Int) Z Z (Bd oM sD) Ac<|Ae 1 Z ⟨j+1,_,rfl,zR,⟨ae,(by exact ad.up o1),oM⟩,zD⟩
 exact Ay false Z Z (A8 a8) Ac<|Ai<|A0<|Aj Z<|A6<|Au<|Au<|An<|qS [0,0] Z<|Ae 2 Z<|A3<|Ah [4] Z v1 Z ⟨v1,rfl,a1,(by have h:=a0.up o1;rw[show j=ps.length from by omega]at h;exact h)⟩
end
end Go.Proofs.YtbajepcpgncekaaGreat
