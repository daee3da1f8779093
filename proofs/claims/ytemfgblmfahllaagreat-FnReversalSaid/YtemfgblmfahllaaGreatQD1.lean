/- FwA, FwB, FwC, FwD, FwE, FwF, FwG, FwH, FwK, FwM, FwP, FwQ, FwI, FwO, FwR, FwN, FwS, FwT, FwU, Lz, Ix, FwV, FwW, FwX, Ig, Id, Ih: texts of this claim, joined; what the claim does not come to is left out. -/
import Derived.Test.YtemfgblmfahllaaGreatProg
import Derived.Still
import Derived.Below
import Derived.WalkKit
import Derived.IntWalk
import Derived.Laws.CopyRow
import Derived.ProofKit
import Derived.Carry
import Derived.Deep.Matrix
import Derived.Laws.StructEq
import Derived.WideKeyEntry
import Derived.Maps.OwnSet
set_option linter.unusedVariables false
set_option linter.unusedSimpArgs false
namespace Go.Proofs.YtemfgblmfahllaaGreat
open Go Go.RowKit
theorem zK{p:Prop}(h:p:=by kernel_rfl):p:=h
theorem zV{p:Prop}(h:p:=by assumption):p:=h
theorem zz{v:Value}{p q:Prop}(h:p)(k:q):∃u,Ending.returned v=.returned u∧p∧q:=⟨_,rfl,h,k⟩

abbrev zI (x:Int):Value:=.int .i64 x
abbrev zP (g:Nat):Value:=.pointer (some ⟨g,0,none⟩)
abbrev zN:Value:=.slice none 0 0
theorem zA{c g B U:Nat}(h:c∈[g])(o:g<B∨U≤g:=by omega):c<B∨U≤c:=by rw[List.mem_singleton.1 h];exact o
theorem zE{c g B:Nat}(h:c∈[g])(o:B≤g:=by omega):B≤c:=by rw[List.mem_singleton.1 h];exact o
theorem zB{a g:Nat}(h:a∈[g])(o:a≠g:=by omega):False:=o (List.mem_singleton.1 h)
theorem zR{p:Prop}(h:p:=by repeat(first|exact trivial|exact rfl|refine ⟨rfl,?_⟩)):p:=h
theorem zD{p:Prop}(h:p:=by first|omega|(dsimp only;omega)):p:=h
theorem zW{a b:Bool}(h:a=b):Value.bool a=Value.bool b:=by rw[h]
theorem zO{p:Prop}(h:p:=by omega):p:=h
theorem zH{p q:Prop}(h:p)(o:p→q:=by intro h;omega):q:=o h
theorem z0:type_of% @List.mem_cons_self:=@List.mem_cons_self
theorem z1:type_of% @List.mem_append_right:=@List.mem_append_right
theorem z2:type_of% @List.not_mem_nil:=@List.not_mem_nil
theorem z3:type_of% @List.mem_cons_of_mem:=@List.mem_cons_of_mem
theorem z4:type_of% @List.length_append:=@List.length_append
theorem z5:type_of% @List.length_replicate:=@List.length_replicate
theorem z6:type_of% @List.length_set:=@List.length_set
theorem z7:type_of% @Bool.and_eq_true:=@Bool.and_eq_true
theorem z8:type_of% @List.mem_append_left:=@List.mem_append_left
theorem z9:type_of% @List.length_cons:=@List.length_cons
theorem za:type_of% @List.take_of_length_le:=@List.take_of_length_le
theorem zb:type_of% @List.length_nil:=@List.length_nil
theorem zc:type_of% @List.map_toArray:=@List.map_toArray
theorem zd:type_of% @List.length_singleton:=@List.length_singleton
theorem ze:type_of% @List.mem_cons:=@List.mem_cons
theorem zf:type_of% @List.map_cons:=@List.map_cons
theorem zg:type_of% @List.length_map:=@List.length_map
theorem zh:type_of% @List.map_nil:=@List.map_nil
theorem zi:type_of% @List.mem_append:=@List.mem_append
theorem zj:type_of% @List.mem_of_mem_take:=@List.mem_of_mem_take
theorem zk:type_of% @List.nodup_nil:=@List.nodup_nil
theorem zl:type_of% @List.nil_append:=@List.nil_append
theorem zm:type_of% @List.all_eq_true:=@List.all_eq_true
abbrev A0:=@wp_seq
abbrev A1:=@wp_ret
abbrev A2:=@wp_skip
abbrev A3:=@wp_block
abbrev A4:=@wp_exit
abbrev A5:=@decide_eq_true
abbrev A6:=@decide_eq_false
abbrev A7:=@Nat.le_refl
abbrev A8:=@Nat.le_trans
theorem A9 {α:Type}{a b:α}(h:a ∈ [b]):a=b:=List.mem_singleton.1 h
theorem Y {α:Sort _}{a:α}:a=a:=rfl
section
def AI (w w':World):Prop:=Below w.heap.size w w'
theorem AI.refl (w:World):AI w w:=Below.refl _ _
theorem AI.trans {a b c:World}(h:AI a b)(k:AI b c):AI a c:=Below.trans h (k.mono h.size)
section
variable {P:Program} {ops:Array Oper} {md:Region.Mode}
def YR (P:Program)(r:Result Next)(w:World)(v:Value):Prop :=
 r=.ok (.value v) w∨(r=.ok .skip w∧v=undef)∨∃f args,r=.ok (.enter f args) w∧Calls P f args w (fun e w'=>e=.returned v∧w'=w)
def YA (P:Program)(o:Oper)(a:Act)(w:World)(v:Value):Prop:=YR P ((execOp a.eval o).run P w) w v
def FY (P:Program):Frame:={ fn:=P.funcs.size,tmps:=#[undef],todo:=[.inRegion #[⟨some 0,.move (.tmp 0),0,"",#[],none⟩] [0]],defers:=[],mode:=.returning,kind:=.report }
theorem Kf (P:Program) (v:Value) (w:World):∃ o,step P (lone ((FY P).finish v) [] w) = .ended o w:=by
 have hf:P.funcs[P.funcs.size]? = none:=by simp
 refine ⟨.stuck "report: Error or String returned no string" "",step_lone_ended ?_⟩;simp [stepG,unwind,doReturn,FY,Frame.finish]
theorem Kg {P:Program}{n k:Nat}{m x y:Machine}{o:Outcome}{w:World}(hx:runN P n m=.next x)(hy:runN P (n+k) m=.next y)(he:step P x=.ended o w):x=y:=by
 rw[runN_add,hx]at hy;cases k with
 |zero=>simp only[runN]at hy;injection hy
 |succ k=>simp only[runN,he]at hy;cases hy
theorem Q3 {P:Program}{f:FuncId}{args:Array Value}{w:World}{v u:Value}(h:Calls P f args w (fun e w'=>e=.returned v∧w'=w))(k:Calls P f args w (fun e w'=>e=.returned u∧w'=w)):v=u:=by
 have go:∀ {x:Value},Calls P f args w (fun e w'=>e=.returned x∧w'=w)→Steps P (lone (Frame.enter P f args .normal) [FY P] w) (lone ((FY P).finish x) [] w):=by
  intro x hx;obtain⟨e,w',fr,⟨rfl,rfl⟩,hs,_,hl⟩:=hx [FY P];exact Steps.trans hs<|Steps.one<|step_leave_returned hl
 obtain⟨n,hn⟩:=go h;obtain⟨m,hm⟩:=go k;obtain⟨o1,e1⟩:=Kf P v w;obtain⟨o2,e2⟩:=Kf P u w;have he:lone ((FY P).finish v) [] w=lone ((FY P).finish u) [] w:=by
  rcases Nat.le_total n m with hle|hle;obtain⟨k,rfl⟩:=Nat.le.dest hle;exact Kg hn hm e1;obtain⟨k,rfl⟩:=Nat.le.dest hle;exact (Kg hm hn e2).symm
 simpa [lone,FY,Frame.finish]using he
theorem YA.unique {o:Oper}{a:Act}{w:World}{v u:Value}(h:YA P o a w v)(k:YA P o a w u):v=u:=by
 unfold YA at h k;rcases h with h|⟨h,rfl⟩|⟨f,args,h,hc⟩ <;> rcases k with k|⟨k,rfl⟩|⟨f',args',k,kc⟩ <;> rw[h]at k
 injection k with k _;injection k
 injection k with k _;cases k
 injection k with k _;cases k
 injection k with k _;cases k
 injection k with k _;cases k
 injection k with k _;cases k
 injection k with k _;cases k
 injection k with k _
 injection k with k1 k2;subst k1;subst k2;exact Q3 hc kc
def NQ (Q:Act→World→Prop):Exit→Act→World→Prop
 |.normal,a,w=>Q a w
 |_,_,_=>False
def Cl (w0 w:World):Nat→World→Prop
 |0,_=>True
 |1,w'=>AI w0 w'
 |_,w'=>AI w w'
def Cb (P:Program)(w0:World)(o:Oper)(k:Nat)(a:Act)(w:World)(K:Act→World→Prop):Prop :=
 if k≤2 then ∃v,(∀w',Cl w0 w k w'→YA P o a w' v)∧K (a.put o.dst v) w
 else if k=3 then o.wp P a w (fun a' w'=>AI w w'∧K a' w') (NQ fun _ _=>False)
 else o.wp P a w K (NQ fun _ _=>False)
def LW (P:Program)(ops:Array Oper)(w0:World)(Q:Act→World→Prop):List Oper→List Nat→Act→World→Prop
 |[],_,a,w=>Q a w
 |_::_,[],_,_=>False
 |o::os,k::ks,a,w =>
  if Region.wanted o (yielded ops a.tmps)=true then Cb P w0 o k a w (LW P ops w0 Q os ks)else LW P ops w0 Q os ks (a.put o.dst undef) w
theorem Cb.mono {w0:World}{o:Oper}{k:Nat}{a:Act}{w:World}{K K':Act→World→Prop}(h:∀a w,K a w→K' a w)
  (hh:Cb P w0 o k a w K):Cb P w0 o k a w K':=by
 unfold Cb at *;split;rename_i hk;rw[if_pos hk]at hh;obtain⟨v,h1,h2⟩:=hh;exact⟨v,h1,h _ _ h2⟩;rename_i hk;rw[if_neg hk]at hh;split;rename_i h3;rw[if_pos h3]at hh;exact Oper.wp_mono (fun a w hx=>⟨hx.1,h _ _ hx.2⟩) hh;rename_i h3;rw[if_neg h3]at hh;exact Oper.wp_mono h hh
theorem Uj {o:Oper}{a:Act}{w:World}{K:Act→World→Prop}(h:o.wp P a w K (NQ fun _ _=>False)):∃v w',K (a.put o.dst v) w'∨∃d,K ({ a with defers:=d::a.defers }.put o.dst v) w':=by
 unfold Oper.wp at h;generalize (execOp a.eval o).run P w=r at h;cases r with
 |ok n w' =>
  cases n <;> simp only[Oper.upon]at h;case value v=>exact⟨v,w',.inl h⟩
  case skip=>exact⟨undef,w',.inl h⟩
  case defer d=>exact⟨undef,w',.inr ⟨d,h⟩⟩
  case enter f args =>
   obtain⟨e,w1,fr,hR,_⟩:=h [];cases e with
   |returned v=>exact⟨v,w1,.inl hR⟩
   |panicked c=>exact hR.elim
   |outgrown=>obtain⟨a1,w2,hf⟩:=hR;exact hf.elim
  case row row args =>
   obtain⟨v,w1,hR,_⟩:=h default [];exact⟨v,w1,.inl hR⟩
 |halt x w'=>cases x <;> simp only[Oper.upon]at h;exact h.elim
theorem Lc {o:Oper}(hs:∀cs b,o.op≠.select cs b){a:Act}{d:Option Tmp}{v:Value}{w:World}{K:Act→World→Prop}{Q:Act→World→Prop}
  (h1:∀x,d=some x→x∉o.looksAt ops) (h2:∀x,d=some x→o.dst≠some x)
  (h:o.wp P (a.put d v) w K (NQ Q)):o.wp P a w (fun a' w'=>K (a'.put d v) w') (NQ fun _ _=>False):=by
 unfold Oper.wp at *;rw[execOp_put (ops:=ops) o hs a d v h1]at h;generalize (execOp a.eval o).run P w=r at *;have hc:∀u,(a.put d v).put o.dst u=(a.put o.dst u).put d v:=fun u=>Act.put_comm a v u h2;cases r with
 |ok n w' =>
  cases n <;> simp only[Oper.upon]at h ⊢;case value u=>rw[← hc];exact h
  case skip=>rw[← hc];exact h
  case defer dd =>
   rw[Act.put_defers]at h;have:=Act.put_comm ({ a with defers:=dd::a.defers }:Act) v undef h2;rw[← this];exact h
  case enter f args =>
   refine Calls.mono h fun e w'' he=>?_;cases e with
   |returned u=>show K _ _;rw[← hc];exact he
   |panicked c=>exact he
   |outgrown=>obtain⟨_,_,hf⟩:=he;exact hf.elim
  case row row args=>exact Rows.mono h (fun u w'' he=>by show K _ _;rw[← hc];exact he)
 |halt x w'=>cases x <;> simp only[Oper.upon]at h ⊢;exact h
theorem Nq {o:Oper}(hs:∀cs b,o.op≠.select cs b){a:Act}{d:Option Tmp}{v:Value}{w:World}{K:Act→World→Prop}
  (h1:∀x,d=some x→x∉o.looksAt ops) (h2:∀x,d=some x→o.dst≠some x)
  (h:o.wp P a w (fun a' w'=>K (a'.put d v) w') (NQ fun _ _=>False)):o.wp P (a.put d v) w K (NQ fun _ _=>False):=by
 unfold Oper.wp at *;rw[execOp_put (ops:=ops) o hs a d v h1];generalize (execOp a.eval o).run P w=r at *;have hc:∀u,(a.put d v).put o.dst u=(a.put o.dst u).put d v:=fun u=>Act.put_comm a v u h2;cases r with
 |ok n w' =>
  cases n <;> simp only[Oper.upon]at h ⊢;case value u=>rw[hc];exact h
  case skip=>rw[hc];exact h
  case defer dd =>
   rw[Act.put_defers];have:=Act.put_comm ({ a with defers:=dd::a.defers }:Act) v undef h2;rw[this];exact h
  case enter f args =>
   refine Calls.mono h fun e w'' he=>?_;cases e with
   |returned u=>show K _ _;rw[hc];exact he
   |panicked c=>exact he
   |outgrown=>obtain⟨_,_,hf⟩:=he;exact hf.elim
  case row row args=>exact Rows.mono h (fun u w'' he=>by show K _ _;rw[hc];exact he)
 |halt x w'=>cases x <;> simp only[Oper.upon]at h ⊢;exact h
theorem YA.apart {o:Oper}(hs:∀cs b,o.op≠.select cs b){a:Act}{d:Option Tmp}{v u:Value}{w:World}
  (h1:∀x,d=some x→x∉o.looksAt ops):YA P o (a.put d v) w u↔YA P o a w u:=by
 unfold YA;rw[execOp_put (ops:=ops) o hs a d v h1]
variable (P ops) in
def LI (kd:Nat→Nat)(w0:World)(Q:Act→World→Prop):List Nat→Act→World→Prop
 |[],a,w=>Q a w
 |i::l,a,w =>
  match ops[i]? with
  |none=>False
  |some o=>if Region.wanted o (yielded ops a.tmps)=true then Cb P w0 o (kd i) a w (LI kd w0 Q l)else LI kd w0 Q l (a.put o.dst undef) w
def DB (ki kj:Nat):Bool :=
 (ki≤2 && kj≤2) || (ki≤2 && kj == 3) || (ki == 0 && kj == 4) || (ki == 3 && kj≤1) || (ki == 4 && kj == 0)
def gG (ops:Array Oper)(kd:Nat→Nat)(bs:Nat→Nat):Prop :=
 ∀i j oi oj,i<j→ops[i]? = some oi→ops[j]? = some oj→(bs j).testBit i=true∨(oi.apart ops oj=true∧DB (kd i) (kd j)=true)
def Pm (md:Region.Mode)(ops:Array Oper)(bs:Nat→Nat):Prop :=
 ∀j oj,ops[j]? = some oj→∀i,(bs j).testBit i=true→∃e∈oj.after,Region.binds md e=true∧(i=e.on∨(bs e.on).testBit i=true)
def Ro (kd:Nat→Nat)(w0 w:World)(l:List Nat):Prop:=(∃j∈l,kd j=1)→AI w0 w
def Rp (kd:Nat→Nat)(l:List Nat):Prop:=∀l1 i l2,l=l1++i::l2→4≤kd i→∀j∈l2,kd j≠1
theorem Rp.erase {kd:Nat→Nat}{l1 l2:List Nat}{i:Nat}(h:Rp kd (l1++i::l2)):Rp kd (l1++l2):=by
 intro m1 j m2 e hj x hx;by_cases hlt:m1.length<l1.length;have e1:l1=m1++j::(m2.take (l1.length-m1.length-1)):=by
  have:=congrArg (List.take l1.length) e;rw[List.take_left,List.take_append,za (by omega)]at this;rw[this];congr 1;obtain⟨n,hn⟩:∃n,l1.length-m1.length=n+1:=⟨l1.length-m1.length-1,zO⟩;rw[hn];simp
 have e2:l2=m2.drop (l1.length-m1.length-1):=by
  have:=congrArg (List.drop l1.length) e;rw[List.drop_left,List.drop_append]at this;rw[this,List.drop_of_length_le zO,zl];obtain⟨n,hn⟩:∃n,l1.length-m1.length=n+1:=⟨l1.length-m1.length-1,zO⟩;rw[hn];simp
 refine h m1 j (m2.take (l1.length-m1.length-1)++i::l2) (by rw[e1];simp[List.append_assoc]) hj x ?_;have hx':x∈m2.take (l1.length-m1.length-1)++m2.drop (l1.length-m1.length-1):=by rw[List.take_append_drop];exact hx
 rw[← e2]at hx';simp only[zi,ze]at hx' ⊢;rcases hx' with hx'|hx';exact .inl hx';exact .inr<|.inr hx';have e2:l2=m1.drop l1.length++j::m2:=by
  have:=congrArg (List.drop l1.length) e;rw[List.drop_left,List.drop_append_of_le_length (by omega)]at this;exact this
 exact h (l1++i::m1.drop l1.length) j m2 (by rw[e2];simp) hj x hx
def Yv (P:Program)(ops:Array Oper)(w0:World)(k:Nat)(o:Oper)(a:Act)(w:World)(v:Value):Prop :=
 (Region.wanted o (yielded ops a.tmps)=true∧∀w',Cl w0 w k w'→YA P o a w' v)∨(Region.wanted o (yielded ops a.tmps)=false∧v=undef)
theorem Cl.self {w0 w:World}{k:Nat}(h:k=1→AI w0 w):Cl w0 w k w:=by
 match k,h with
 |0,_=>exact trivial
 |1,h=>exact h rfl
 |_+2,_=>exact AI.refl w
theorem Yv.unique {w0 w:World}{k:Nat}{o:Oper}{a:Act}{v u:Value}(hk:k=1→AI w0 w)(h:Yv P ops w0 k o a w v)(h':Yv P ops w0 k o a w u):v=u:=by rcases h with⟨h1,h2⟩|⟨h1,h2⟩ <;> rcases h' with⟨g1,g2⟩|⟨g1,g2⟩;exact (h2 w<|Cl.self hk).unique<|g2 w<|Cl.self hk;rw[h1]at g1;cases g1;rw[h1]at g1;cases g1;rw[h2,g2]
theorem Yv.apart {w0 w:World}{k:Nat}{o:Oper}(hs:∀cs b,o.op≠.select cs b){a:Act}{d:Option Tmp}{u v:Value}
  (h1:∀x,d=some x→x∉o.looksAt ops):Yv P ops w0 k o (a.put d u) w v↔Yv P ops w0 k o a w v:=by
 unfold Yv;rw[wanted_put (ops:=ops) o a d u h1];simp only[YA.apart (ops:=ops) (P:=P) hs h1]
theorem Yv.defers {w0 w:World}{k:Nat}{o:Oper}{a:Act}{l:List Deferred}{v:Value}:Yv P ops w0 k o { a with defers:=l } w v↔Yv P ops w0 k o a w v:=by
 have he:Act.eval { a with defers:=l }=Act.eval a:=funext fun x=>by cases x <;> rfl
 unfold Yv YA;rw[he]
def Pn (a:Act)(d:Option Tmp)(a':Act):Prop:=∃u,a'=a.put d u∨∃x,a'=({ a with defers:=x::a.defers }:Act).put d u
theorem HP {o:Oper}{a:Act}{w:World}{K:Act→World→Prop}{Q:Exit→Act→World→Prop}(h:o.wp P a w K Q) :
  o.wp P a w (fun a' w'=>K a' w'∧Pn a o.dst a') Q:=by
 unfold Oper.wp at *;generalize (execOp a.eval o).run P w=r at *;cases r with
 |ok n w' =>
  cases n <;> simp only[Oper.upon]at h ⊢;case value u=>exact⟨h,u,.inl rfl⟩
  case skip=>exact⟨h,undef,.inl rfl⟩
  case defer dd=>exact⟨h,undef,.inr ⟨dd,rfl⟩⟩
  case enter f args =>
   refine Calls.mono h fun e w'' he=>?_;cases e with
   |returned u=>exact⟨he,u,.inl rfl⟩
   |panicked c=>exact he
   |outgrown=>exact he
  case row row args=>exact Rows.mono h (fun u w'' he=>⟨he,u,.inl rfl⟩)
 |halt x w'=>cases x <;> simp only[Oper.upon]at h ⊢;exact h
theorem Yv.shape {w0 w:World}{k:Nat}{o:Oper}(hs:∀cs b,o.op≠.select cs b){a a':Act}{d:Option Tmp}{v:Value}
  (h1:∀x,d=some x→x∉o.looksAt ops) (h:Pn a d a'):Yv P ops w0 k o a' w v↔Yv P ops w0 k o a w v:=by
 obtain⟨u,rfl|⟨x,rfl⟩⟩:=h;exact Yv.apart hs h1;rw[Yv.apart hs h1];exact Yv.defers
theorem Gy {o:Oper}{a a':Act}{d:Option Tmp}(h1:∀x,d=some x→x∉o.looksAt ops)(h:Pn a d a') :
  Region.wanted o (yielded ops a'.tmps)=Region.wanted o (yielded ops a.tmps):=by
 obtain⟨u,rfl|⟨x,rfl⟩⟩:=h;exact wanted_put o a d u h1;rw[wanted_put o _ d u h1]
section main
variable {kd bs:Nat→Nat} {w0:World} {Q:Act→World→Prop}
theorem rK {ki kj:Nat}(h:DB ki kj=true)(hk:ki=3):kj≤1:=by simp[DB]at h;omega
theorem rL {ki kj:Nat}(h:DB ki kj=true)(hk:4≤ki):kj=0:=by simp[DB]at h;omega
theorem qa {ki kj:Nat}(h:DB ki kj=true)(hk:3≤kj):ki≤2∧(4≤kj→ki=0):=by simp[DB]at h;omega
theorem Kh (hsel:∀(j:Nat)(o:Oper) cs b,ops[j]? = some o→o.op≠.select cs b){j:Nat}{oj:Oper}(hj:ops[j]? = some oj)(hk:kd j≤2) :
  ∀(l1 l2:List Nat) (a:Act) (w:World),(∀i∈l1,∀oi,ops[i]? = some oi→oi.apart ops oj=true∧DB (kd i) (kd j)=true)→(kd j=1→AI w0 w) →
   LI P ops kd w0 Q (l1++j::l2) a w→∃v,Yv P ops w0 (kd j) oj a w v∧LI P ops kd w0 Q (l1++l2) (a.put oj.dst v) w
 |[],l2,a,w,_,_,h=>by
  simp only[zl,LI,hj]at h ⊢
  split at h
  rename_i hw
  unfold Cb at h
  rw[if_pos hk]at h
  obtain⟨v,h1,h2⟩:=h
  exact⟨v,.inl ⟨hw,h1⟩,h2⟩
  rename_i hw
  exact⟨undef,.inr ⟨by simpa using hw,rfl⟩,h⟩
 |i::l1,l2,a,w,hl,hx,h=>by
  have hi:=hl i (z0 ..)
  have hl':∀x∈l1,∀ox,ops[x]? = some ox→ox.apart ops oj=true∧DB (kd x) (kd j)=true:=fun x hx=>hl x (z3 _ hx)
  simp only[List.cons_append,LI]at h ⊢
  cases hoi:ops[i]? with
  |none=>rw[hoi]at h;exact h.elim
  |some oi =>
   rw[hoi]at h
   simp only at h ⊢
   obtain⟨hap,hok⟩:=hi oi hoi
   obtain⟨p1,p2,p3⟩:=Oper.apart_spec hap
   have p2':∀d,oj.dst=some d→oi.dst≠some d:=fun d hd he=>p2 d he hd
   have si:=fun cs b=>hsel i oi cs b hoi
   have sj:=fun cs b=>hsel j oj cs b hj
   by_cases hw:Region.wanted oi (yielded ops a.tmps)=true
   rw[if_pos hw]at h
   unfold Cb at h
   by_cases hki:kd i≤2
   rw[if_pos hki]at h
   obtain⟨vi,hy,h⟩:=h
   obtain⟨v,h1,h2⟩:=Kh hsel hj hk l1 l2 (a.put oi.dst vi) w hl' hx h
   refine⟨v,(Yv.apart sj p1).1 h1,?_⟩
   rw[wanted_put oi a oj.dst v p3,if_pos hw]
   unfold Cb
   rw[if_pos hki]
   refine⟨vi,fun w' hc=>(YA.apart (ops:=ops) si p3).2 (hy w' hc),?_⟩
   rw[Act.put_comm a v vi p2']
   exact h2
   rw[if_neg hki]at h
   have gen:∀(G:World→Prop),(∀w',G w'→kd j=1→AI w0 w')→(kd j=2→False) →
     oi.wp P a w (fun a' w'=>G w'∧LI P ops kd w0 Q (l1++j::l2) a' w') (NQ fun _ _=>False) →
     ∃v,Yv P ops w0 (kd j) oj a w v∧oi.wp P (a.put oj.dst v) w (fun a' w'=>G w'∧LI P ops kd w0 Q (l1++l2) a' w') (NQ fun _ _=>False):=by
    intro G hG hn2 hh;have hcl:∀w1 w2,Cl w0 w1 (kd j) w2→Cl w0 w (kd j) w2:=by
     intro w1 w2 hc;match hkj:kd j,hk,hn2 with
     |0,_,_=>trivial
     |1,_,_=>rw[hkj]at hc;exact hc
     |2,_,hn=>exact(hn rfl).elim
     |_+3,hle,_=>omega
    have hcl':∀w1 w2,Cl w0 w (kd j) w2→Cl w0 w1 (kd j) w2:=by
     intro w1 w2 hc;match hkj:kd j,hk,hn2 with
     |0,_,_=>trivial
     |1,_,_=>rw[hkj]at hc;exact hc
     |2,_,hn=>exact(hn rfl).elim
     |_+3,hle,_=>omega
    have hs:=HP hh;have step:∀a' w',((G w'∧LI P ops kd w0 Q (l1++j::l2) a' w')∧Pn a oi.dst a') →
      ∃v,Yv P ops w0 (kd j) oj a w v∧LI P ops kd w0 Q (l1++l2) (a'.put oj.dst v) w':=by
     rintro a' w' ⟨⟨hg,hL⟩,hsh⟩;obtain⟨v,h1,h2⟩:=Kh hsel hj hk l1 l2 a' w' hl' (hG w' hg) hL;have h1':=(Yv.shape sj p1 hsh).1 h1;refine⟨v,?_,h2⟩;rcases h1' with⟨q1,q2⟩|⟨q1,q2⟩;exact .inl ⟨q1,fun w2 hc=>q2 w2<|hcl' w' w2 hc⟩;exact .inr ⟨q1,q2⟩
    obtain⟨v,hv⟩:∃v,Yv P ops w0 (kd j) oj a w v:=by
     obtain⟨u,w',hK|⟨d,hK⟩⟩:=Uj hs;obtain⟨v,h1,_⟩:=step _ _ hK;exact⟨v,h1⟩;obtain⟨v,h1,_⟩:=step _ _ hK;exact⟨v,h1⟩
    refine⟨v,hv,Nq (ops:=ops) si p3 p2' ?_⟩;refine Oper.wp_mono (fun a' w' hK=>?_) hs;obtain⟨v',h1,h2⟩:=step a' w' hK;have:v'=v:=h1.unique hx hv;subst this;exact⟨hK.1.1,h2⟩
   by_cases h3:kd i=3;rw[if_pos h3]at h;have hj1:=rK hok h3;obtain⟨v,hv,hwp⟩:=gen (fun w'=>AI w w') (fun w' hg h1=>(hx h1).trans hg) (fun h2=>by omega) h;refine⟨v,hv,?_⟩;rw[wanted_put oi a oj.dst v p3,if_pos hw];unfold Cb;rw[if_neg hki,if_pos h3];exact hwp;rw[if_neg h3]at h;have hj0:=rL hok zO;obtain⟨v,hv,hwp⟩:=gen (fun _=>True) (fun w' _ h1=>by omega) (fun h2=>by omega) (Oper.wp_mono (fun a w hh=>⟨trivial,hh⟩) h);refine⟨v,hv,?_⟩;rw[wanted_put oi a oj.dst v p3,if_pos hw];unfold Cb;rw[if_neg hki,if_neg h3];exact Oper.wp_mono (fun a w hh=>hh.2) hwp;rw[if_neg hw]at h;obtain⟨v,h1,h2⟩:=Kh hsel hj hk l1 l2 (a.put oi.dst undef) w hl' hx h;refine⟨v,(Yv.apart sj p1).1 h1,?_⟩;rw[wanted_put oi a oj.dst v p3,if_neg hw,Act.put_comm a v undef p2'];exact h2
theorem Mz (hsel:∀(j:Nat)(o:Oper) cs b,ops[j]? = some o→o.op≠.select cs b){j:Nat}{oj:Oper}(hj:ops[j]? = some oj)(hk:3≤kd j) :
  ∀(l1 l2:List Nat) (a:Act) (w:World),(∀i∈l1,∀oi,ops[i]? = some oi→oi.apart ops oj=true∧DB (kd i) (kd j)=true)→LI P ops kd w0 Q (l1++j::l2) a w →
   (Region.wanted oj (yielded ops a.tmps)=true→oj.wp P a w (fun a' w'=>(kd j=3→AI w w')∧LI P ops kd w0 Q (l1++l2) a' w') (NQ fun _ _=>False)) ∧
   (Region.wanted oj (yielded ops a.tmps)=false→LI P ops kd w0 Q (l1++l2) (a.put oj.dst undef) w)
 |[],l2,a,w,_,h=>by
  simp only[zl,LI,hj]at h ⊢
  refine⟨fun hw=>?_,fun hw=>?_⟩
  rw[if_pos hw]at h
  unfold Cb at h
  rw[if_neg (by omega)]at h
  split at h
  exact Oper.wp_mono (fun _ _ hh=>⟨fun _=>hh.1,hh.2⟩) h
  rename_i h3;exact Oper.wp_mono (fun _ _ hh=>⟨fun h'=>(h3 h').elim,hh⟩) h
  rw[if_neg (by simp[hw])]at h;exact h
 |i::l1,l2,a,w,hl,h=>by
  have hi:=hl i (z0 ..)
  have hl':∀x∈l1,∀ox,ops[x]? = some ox→ox.apart ops oj=true∧DB (kd x) (kd j)=true:=fun x hx=>hl x (z3 _ hx)
  simp only[List.cons_append,LI]at h ⊢
  cases hoi:ops[i]? with
  |none=>rw[hoi]at h;exact h.elim
  |some oi =>
   rw[hoi]at h
   simp only at h ⊢
   obtain⟨hap,hok⟩:=hi oi hoi
   obtain⟨p1,p2,p3⟩:=Oper.apart_spec hap
   have p2':∀d,oj.dst=some d→oi.dst≠some d:=fun d hd he=>p2 d he hd
   have si:=fun cs b=>hsel i oi cs b hoi
   have sj:=fun cs b=>hsel j oj cs b hj
   obtain⟨hki,hk4⟩:=qa hok hk
   by_cases hw:Region.wanted oi (yielded ops a.tmps)=true
   rw[if_pos hw]at h
   unfold Cb at h
   rw[if_pos hki]at h
   obtain⟨vi,hy,h⟩:=h
   obtain⟨g1,g2⟩:=Mz hsel hj hk l1 l2 (a.put oi.dst vi) w hl' h
   rw[wanted_put oj a oi.dst vi p1]at g1 g2
   refine⟨fun hwj=>?_,fun hwj=>?_⟩
   have g:=Lc (ops:=ops) (Q:=fun _ _=>False) sj p1 p2<|g1 hwj
   refine Oper.wp_mono (fun a' w' hK=>?_)<|HP g
   obtain⟨⟨hE,hL⟩,hsh⟩:=hK
   refine⟨hE,?_⟩
   rw[Gy p3 hsh,if_pos hw]
   unfold Cb
   rw[if_pos hki]
   refine⟨vi,fun w'' hc=>?_,hL⟩
   have hya:YA P oi a w'' vi:=by
    refine hy w'' ?_;match hki':kd i,hki,hk4 with
    |0,_,_=>trivial
    |1,_,_=>rw[hki']at hc;exact hc
    |2,_,h4=>rw[hki']at hc;exact(hE (by have:¬4≤kd j:=(fun hh=>by have:=h4 hh;omega);omega)).trans hc
    |_+3,hle,_=>omega
   have he:∀b,YA P oi b w'' vi↔YR P ((execOp b.eval oi).run P w'') w'' vi:=fun _=>Iff.rfl;obtain⟨u,rfl|⟨x,rfl⟩⟩:=hsh;exact (YA.apart (ops:=ops) si p3).2 hya;refine (YA.apart (ops:=ops) si p3).2 ?_;have hee:Act.eval { a with defers:=x::a.defers }=Act.eval a:=funext fun y=>by cases y <;> rfl
   rw[he,hee,← he];exact hya;rw[wanted_put oi a oj.dst undef p3,if_pos hw];unfold Cb;rw[if_pos hki];refine⟨vi,fun w' hc=>(YA.apart (ops:=ops) si p3).2 (hy w' hc),?_⟩;rw[Act.put_comm a undef vi p2'];exact g2 hwj;rw[if_neg hw]at h;obtain⟨g1,g2⟩:=Mz hsel hj hk l1 l2 (a.put oi.dst undef) w hl' h;rw[wanted_put oj a oi.dst undef p1]at g1 g2;refine⟨fun hwj=>?_,fun hwj=>?_⟩;have g:=Lc (ops:=ops) (Q:=fun _ _=>False) sj p1 p2<|g1 hwj;refine Oper.wp_mono (fun a' w' hK=>?_)<|HP g;obtain⟨⟨hE,hL⟩,hsh⟩:=hK;refine⟨hE,?_⟩;rw[Gy p3 hsh,if_neg hw];exact hL;rw[wanted_put oi a oj.dst undef p3,if_neg hw,Act.put_comm a undef undef p2'];exact g2 hwj
end main
end
end
section
section
variable {P:Program} {ops:Array Oper} {md:Region.Mode} {kd bs:Nat→Nat} {w0:World} {Q:Act→World→Prop}
theorem Ld {o:Oper}{a:Act}{w:World}{K:Act→World→Prop}{Q':Exit→Act→World→Prop}(h:o.wp P a w K (NQ fun _ _=>False)):o.wp P a w K Q':=by
 unfold Oper.wp at *;generalize (execOp a.eval o).run P w=r at *;cases r with
 |ok n w' =>
  cases n <;> simp only[Oper.upon]at h ⊢ <;> try exact h
  case enter f args =>
   refine Calls.mono h fun e w'' he=>?_;cases e with
   |returned u=>exact he
   |panicked c=>exact he.elim
   |outgrown=>obtain⟨_,_,hf⟩:=he;exact hf.elim
 |halt x w'=>cases x <;> simp only[Oper.upon]at h ⊢;exact h.elim
theorem Le {o:Oper}{a:Act}{w:World}{v:Value}{K:Act→World→Prop}{Q':Exit→Act→World→Prop}(h:YA P o a w v)(hK:K (a.put o.dst v) w):o.wp P a w K Q':=by
 unfold Oper.wp;unfold YA at h;rcases h with h|⟨h,rfl⟩|⟨f,args,h,hc⟩ <;> rw[h];exact hK;exact hK;exact Calls.mono hc fun e w' he=>by
  obtain⟨rfl,rfl⟩:=he;exact hK
def LZ (bs:Nat→Nat)(listed:Array Bool):Prop:=∀i,listed.getD i false=true→∀j,(bs i).testBit j=true→listed.getD j false=true
theorem EH {l:Array Bool}{i:Nat}(h:l.getD i true=false):l.getD i false=false:=by by_cases hi:i<l.size;simpa [hi]using h;simp[hi]at h
def Fy (md:Region.Mode)(ops:Array Oper)(kd bs:Nat→Nat)(x y:Nat):Prop :=
 (∀ox oy,ops[x]? = some ox→ops[y]? = some oy→(bs y).testBit x=true∨(ox.apart ops oy=true∧DB (kd x) (kd y)=true)) ∧
 (∀ox,ops[x]? = some ox→∀e∈ox.after,Region.binds md e=true→e.on≠y)
section lists
variable {l1 l2:List Nat} {i:Nat} {listed:Array Bool}
theorem Ku (hz:listed.size=ops.size){l:List Nat}(hm:∀x,x∈i::l↔listed.getD x true=false)(hself:∀x ox,ops[x]? = some ox→∀e∈ox.after,Region.binds md e=true→e.on<x)
  (hs:∀y∈l,∀ox,ops[i]? = some ox→∀e∈ox.after,Region.binds md e=true→e.on≠y):i∈Region.ready md ops listed:=by
 have hil:=(hm i).1 (z0 ..);have hlt:i<ops.size:=by
  rw[← hz];rcases Nat.lt_or_ge i listed.size with h'|h';exact h';simp[Array.getElem?_eq_none h']at hil
 refine mem_ready.2 ⟨hil,ops[i],by simp[hlt],fun e he hb=>?_⟩;have hlt':=hself i ops[i] (by simp[hlt]) e he hb;have hnot:e.on∉i::l:=by
  intro hmem;rcases ze.1 hmem with hh|hh;omega;exact hs _ hh ops[i] (by simp[hlt]) e he hb rfl
 have:listed.getD e.on true=true:=by
  cases hb':listed.getD e.on true with
  |true=>rfl
  |false=>exact absurd ((hm e.on).2 hb') hnot
 have hlt2:e.on<listed.size:=by omega
 simpa [hlt2]using this
theorem JK (hm:∀x,x∈l1++i::l2↔listed.getD x true=false)(hnd:i∉l1++l2)(hsz:i<listed.size):∀x,x∈l1++l2↔(listed.setIfInBounds i true).getD x true=false:=by
 intro x;by_cases hxi:x=i;subst hxi;constructor;exact fun hh=>absurd hh hnd
 intro hh;simp[hsz]at hh;rw[getD_set_ne true (Ne.symm hxi),← hm x];simp only[zi,ze];constructor;exact fun hh=>hh.elim .inl fun y=>.inr<|.inr y
 exact fun hh=>hh.elim .inl fun y=>y.elim (fun z=>absurd z hxi) .inr
theorem Ic (hc:LZ bs listed)(hbits:∀j,(bs i).testBit j=true→listed.getD j false=true):LZ bs (listed.setIfInBounds i true):=by intro x hx j hj;by_cases hxi:x=i;subst hxi;exact getD_set_true (hbits j hj);rw[getD_set_ne false (Ne.symm hxi)]at hx;exact getD_set_true (hc x hx j hj)
theorem FM (hS:Pm md ops bs)(hc:LZ bs listed){oi:Oper}(hoi:ops[i]? = some oi)(hall:∀e∈oi.after,Region.binds md e=true→listed.getD e.on false=true):∀j,(bs i).testBit j=true→listed.getD j false=true:=by intro j hj;obtain⟨e,he,hb,hh⟩:=hS i oi hoi j hj;have hl:=hall e he hb;rcases hh with rfl|hh;exact hl;exact hc e.on hl j hh
theorem Hd {oi:Oper}(hoi:ops[i]? = some oi)(hp:∀x∈l1,(∀ox oy,ops[x]? = some ox→ops[i]? = some oy→(bs i).testBit x=true∨(ox.apart ops oy=true∧DB (kd x) (kd i)=true)))
  (hm:∀x∈l1,listed.getD x true=false) (hbits:∀j,(bs i).testBit j=true→listed.getD j false=true):∀x∈l1,∀ox,ops[x]? = some ox→ox.apart ops oi=true∧DB (kd x) (kd i)=true:=by
 intro x hx ox hox;rcases hp x hx ox oi hox hoi with hb|hb;have h1:=hbits x hb;have h2:=EH<|hm x hx;rw[h1]at h2;cases h2;exact hb
theorem DC (h:listed.getD i true=false):i<listed.size:=by rcases Nat.lt_or_ge i listed.size with h'|h';exact h';simp[Array.getElem?_eq_none h']at h
end lists
theorem GM (hsel:∀(j:Nat)(o:Oper) cs b,ops[j]? = some o→o.op≠.select cs b)(hS:Pm md ops bs)
  (hlex:∀j oj,ops[j]? = some oj→∀e∈oj.after,Region.binds md e=true→e.on<j) :
  ∀(n:Nat) (l:List Nat) (listed:Array Bool) (a:Act) (w:World),l.length=n→l.Pairwise (Fy md ops kd bs)→l.Nodup→listed.size=ops.size →
   (∀i,i∈l↔listed.getD i true=false)→LZ bs listed→Rp kd l→Ro kd w0 w l→LI P ops kd w0 Q l a w→wpAny P md ops (NQ Q) n listed a w
 |0,l,listed,a,w,hn,_,_,_,hm,_,_,_,h=>by
  have hl:l=[]:=List.eq_nil_of_length_eq_zero hn
  subst hl
  refine⟨?_,h⟩
  cases hr:Region.ready md ops listed with
  |nil=>rfl
  |cons x xs =>
   have:=(mem_ready.1 (by rw[hr];exact z0 ..:x∈Region.ready md ops listed)).1
   exact absurd ((hm x).2 this) (by simp)
 |n+1,l,listed,a,w,hn,hs,hd,hz,hm,hc,h14,hi1,h=>by
  refine⟨fun h0=>?_,fun i hi=>?_⟩
  exfalso
  match l,hn with
  |i::l,hn =>
   have hready:=Ku (md:=md) hz hm hlex fun y hy ox hox=>((List.pairwise_cons.1 hs).1 y hy).2 ox hox
   rw[h0]at hready
   cases hready
  obtain⟨hun,oi,hoi,hall⟩:=mem_ready.1 hi
  obtain⟨l1,l2,rfl⟩:=List.append_of_mem ((hm i).2 hun)
  have hbits:=FM hS hc hoi hall
  have hpi:∀x∈l1,Fy md ops kd bs x i:=fun x hx=>(List.pairwise_append.1 hs).2.2 x hx i (z0 ..)
  have hfree:=Hd (kd:=kd) (l1:=l1) hoi (fun x hx=>(hpi x hx).1) (fun x hx=>(hm x).1 (z8 _ hx)) hbits
  have hsz:=DC hun
  have hsub0:(l1++l2).Sublist (l1++i::l2):=List.Sublist.append_left (List.sublist_cons_self _ _) _
  have hnd:i∉l1++l2:=by
   have h1:=List.nodup_append.1 hd
   intro hmem;rcases zi.1 hmem with hh|hh;exact h1.2.2 i hh i (z0 ..) rfl;exact (List.nodup_cons.1 h1.2.1).1 hh
  have hn':(l1++l2).length=n:=by simp at hn ⊢;omega
  have rec_:∀a' w',Ro kd w0 w' (l1++l2)→LI P ops kd w0 Q (l1++l2) a' w'→wpAny P md ops (NQ Q) n (listed.setIfInBounds i true) a' w':=fun a' w' hi' hL =>
   GM hsel hS hlex n (l1++l2) _ a' w' hn' (hs.sublist hsub0) (hd.sublist hsub0) (by simpa using hz) (JK hm hnd hsz) (Ic hc hbits) (Rp.erase h14) hi' hL
  have hsub:Ro kd w0 w (l1++l2):=fun⟨j,hj,hk⟩=>hi1 ⟨j,hsub0.subset hj,hk⟩;by_cases hk:kd i≤2;obtain⟨v,hv,hL⟩:=Kh hsel hoi hk l1 l2 a w hfree (fun h1=>hi1 ⟨i,by simp,h1⟩) h;unfold wpOp;rw[hoi];rcases hv with⟨hw,hy⟩|⟨hw,rfl⟩;simp only[hw,if_true];exact .inl<|Le (hy w (Cl.self fun h1=>hi1 ⟨i,by simp,h1⟩))<|rec_ _ _ hsub hL;simp only[hw,Bool.false_eq_true,if_false];exact rec_ _ _ hsub hL;obtain⟨g1,g2⟩:=Mz hsel hoi zO l1 l2 a w hfree h;unfold wpOp;rw[hoi];by_cases hw:Region.wanted oi (yielded ops a.tmps)=true;simp only[hw,if_true];refine .inl<|Oper.wp_mono (fun a' w' hK=>rec_ a' w' ?_ hK.2)<|Ld<|g1 hw;rintro⟨j,hj,hkj⟩;by_cases h3:kd i=3;exact (hsub ⟨j,hj,hkj⟩).trans<|hK.1 h3;exfalso;rcases zi.1 hj with hh|hh;obtain⟨oj,hoj⟩:∃oj,ops[j]? = some oj:=by
   have:=DC ((hm j).1 (z8 _ hh));exact⟨ops[j]'(by omega),by simp[show j<ops.size by omega]⟩
  have:=(qa (hfree j hh oj hoj).2 zO).2 zO;omega;exact h14 l1 i l2 rfl zO j hh hkj;simp only[hw,Bool.false_eq_true,if_false];exact rec_ _ _ hsub<|g2 (by simpa using hw)
def sF (i j:Nat)(l1 l2:List Nat):Prop:=∃A M C,l1=A++i::(M++j::C)∧l2=A++(M++j::i::C)
theorem IT (ks:List Nat):∀(os:List Oper)(k:Nat)(a:Act)(w:World),(∀j,os[j]? = ops[k+j]?) →
  LW P ops w0 Q os (ks.drop k) a w→LI P ops (fun i=>ks.getD i 0) w0 Q (List.range' k os.length) a w
 |[],_,_,_,_,h=>by simpa [LI,LW]using h
 |o::os,k,a,w,ho,h=>by
  have h0:ops[k]? = some o:=by simpa using (ho 0).symm
  have hr:∀a w,LW P ops w0 Q os (ks.drop (k+1)) a w→LI P ops (fun i=>ks.getD i 0) w0 Q (List.range' (k+1) os.length) a w:=fun a w hh =>
   IT ks os (k+1) a w (fun j=>by have:=ho (j+1);simpa [Nat.add_assoc,Nat.add_comm 1 j]using this) hh
  have hlt:k<ks.length:=by
   rcases Nat.lt_or_ge k ks.length with hh|hh;exact hh;rw[List.drop_of_length_le hh]at h;exact h.elim
  have hd:ks.drop k=ks[k]::ks.drop (k+1):=List.drop_eq_getElem_cons hlt;rw[hd]at h;simp only[z9,List.range'_succ,LI,h0,LW]at h ⊢;have hg:ks.getD k 0=ks[k]:=by simp[hlt]
  split;rename_i hw;rw[if_pos hw]at h;rw[hg];exact h.mono hr;rename_i hw;rw[if_neg hw]at h;exact hr _ _ h
def qb (ops:Array Oper)(ks:List Nat):Bool :=
  let b:=(Region.before ops).toList
  let os:=ops.toList
  Region.noSelect ops &&
  (os.zipIdx.all fun(o,j) =>
    (o.after.all fun e=>!Region.binds .any e || decide (e.on<j)) &&
    (let m:=o.after.foldl (fun s e=>if Region.binds .any e then s ||| 2 ^ e.on ||| b.getD e.on 0 else s) 0
     (b.getD j 0 == m)) &&
    (os.zipIdx.all fun(p,i)=>!(decide (i<j)) || (b.getD j 0).testBit i || (p.apart ops o && DB (ks.getD i 0) (ks.getD j 0)))) &&
  (os.zipIdx.all fun(_,i)=>!(decide (4≤ks.getD i 0)) || os.zipIdx.all fun(_,j)=>!(decide (i<j)) || ks.getD j 0 != 1)
theorem Id (f:Edge→Nat):∀(l:List Edge)(s:Nat)(i:Nat),(l.foldl (fun s e=>if Region.binds .any e then s ||| 2 ^ e.on ||| f e else s) s).testBit i=true →
  s.testBit i=true∨∃e∈l,Region.binds .any e=true∧(i=e.on∨(f e).testBit i=true)
 |[],s,i,h=>.inl h
 |e::l,s,i,h=>by
  rcases Id f l _ i h with h|⟨x,hx,hb⟩
  dsimp only at h
  split at h
  rename_i hb
  simp only[Nat.testBit_or,Bool.or_eq_true]at h
  rcases h with(h|h)|h
  exact .inl h
  refine .inr ⟨e,z0 ..,hb,.inl ?_⟩
  simp[Nat.testBit_two_pow]at h
  exact h.symm
  exact .inr ⟨e,z0 ..,hb,.inr h⟩
  exact .inl h
  exact .inr ⟨x,z3 _ hx,hb⟩
theorem Kv {os:List Oper}{Q:Exit→Act→World→Prop}:∀(n:Nat)(listed:Array Bool)(a:Act)(w:World),wpAny P .any os.toArray (NQ fun a w=>Q .normal a w) n listed a w→wpAny P .any os.toArray Q n listed a w:=by
 intro n
 induction n with
 |zero=>exact fun listed a w h=>h
 |succ n ih =>
  intro listed a w h;refine⟨h.1,fun i hi=>?_⟩;have:=wpOp_mono (fun a w=>ih _ a w) (h.2 i hi);unfold wpOp at this ⊢;split;rename_i ho;rw[ho]at this;exact this
  ·rename_i o ho;rw[ho]at this;split
   ·rename_i hw;simp only[hw,if_true]at this;rcases this with this|⟨_,_,_,hf⟩
    ·left;unfold Oper.wp at *;generalize (execOp a.eval o).run P w=r at *;cases r with
     |ok m w' =>
      cases m <;> simp only[Oper.upon]at this ⊢ <;> try exact this
      case enter f args =>
       refine Calls.mono this fun e w'' he=>?_;cases e with
       |returned u=>exact he
       |panicked c=>exact he.elim
       |outgrown=>obtain⟨_,_,hf⟩:=he;exact hf.elim
     |halt x w'=>cases x <;> simp only[Oper.upon]at this ⊢;exact this.elim
    exact hf.elim
   rename_i hw;simp only[hw]at this;exact this
theorem Lf {md:Region.Mode}(hF:gG ops kd bs)(hlex:∀j oj,ops[j]? = some oj→∀e∈oj.after,Region.binds md e=true→e.on<j){l:List Nat}(h:l.Pairwise (· < ·)):l.Pairwise (Fy md ops kd bs) :=
 h.imp fun {x y} hxy=>⟨fun ox oy hox hoy=>hF x y ox oy hxy hox hoy,fun ox hox e he hb=>by have:=hlex x ox hox e he hb;omega⟩
theorem Az {id:Nat}{Q:Exit→Act→World→Prop}{a:Act}{w:World}(os:List Oper)(ks:List Nat)(hm:P.follows .mixedOrders=true)(hB:qb os.toArray ks=true)
  (h:LW P os.toArray w.drew (fun a w=>Q .normal a w) os ks a w.drew):(Code.region id os.toArray true).wp P Q a w:=by
 refine wp_region_any hm ?_;simp only[qb,z7]at hB;obtain⟨⟨hsel,hpl⟩,h14⟩:=hB;have hz:∀ {j:Nat} {o:Oper},os.toArray[j]? = some o→(o,j)∈os.toArray.toList.zipIdx:=by
  intro j o ho;rw[List.mem_zipIdx_iff_getElem?];simpa using ho
 have hall:∀j oj,os.toArray[j]? = some oj→_:=fun j oj hj=>zm.1 hpl _ (hz hj);have hF:gG os.toArray (fun i=>ks.getD i 0) (fun j=>(Region.before os.toArray).toList.getD j 0):=by
  intro i j oi oj hij hi hj;have h3:=(z7 _ _ ▸ hall j oj hj:_∧_).2;have h4:=zm.1 h3 _<|hz hi;simp only[Bool.or_eq_true,Bool.not_eq_true',decide_eq_false_iff_not,z7]at h4;rcases h4 with(h4|h4)|h4;exact absurd hij h4;exact .inl h4;exact .inr h4
 have hlex:∀j oj,os.toArray[j]? = some oj→∀e∈oj.after,Region.binds .any e=true→e.on<j:=by
  intro j oj hj e he hb;have h1:=(z7 _ _ ▸ (z7 _ _ ▸ hall j oj hj:_∧_).1:_∧_).1;have h2:=(Array.all_eq_true_iff_forall_mem.1 h1) e he;simpa [hb]using h2
 have key:=GM (P:=P) (ops:=os.toArray) (md:=.any) (kd:=fun i=>ks.getD i 0) (bs:=fun j=>(Region.before os.toArray).toList.getD j 0) (w0:=w.drew) (Q:=fun a w=>Q .normal a w)
  (Region.noSelect_spec hsel) ?_ ?_ os.length (List.range' 0 os.length) (Array.replicate os.length false) a w.drew (by simp) ?_ List.nodup_range' (by simp) ?_ ?_ ?_ (fun _=>AI.refl _) ?_
 have:=Kv _ _ _ _ key;simpa using this
 intro j oj hj i hb;have h3:=(z7 _ _ ▸ (z7 _ _ ▸ hall j oj hj:_∧_).1:_∧_).2;have h5:(Region.before os.toArray).toList.getD j 0=oj.after.foldl (fun s e=>if Region.binds .any e then s ||| 2 ^ e.on ||| (Region.before os.toArray).toList.getD e.on 0 else s) 0:=by simpa using h3
 dsimp only at hb;rw[h5,← Array.foldl_toList]at hb;rcases Id _ _ _ _ hb with hb|⟨e,he,hbb,hh⟩;simp at hb;exact⟨e,Array.mem_toList_iff.1 he,hbb,hh⟩;exact hlex;exact Lf hF hlex List.pairwise_lt_range'
 intro i;simp only[List.mem_range',Nat.zero_add,Nat.one_mul];constructor;rintro⟨x,hx,rfl⟩;simp[hx]
 intro hh;rcases Nat.lt_or_ge i os.length with h'|h';exact⟨i,h',rfl⟩;simp[Array.getElem?_eq_none (show(Array.replicate os.length false).size≤i by simpa using h')]at hh
 intro i hi;rcases Nat.lt_or_ge i os.length with h'|h';simp[h']at hi;simp[Array.getElem?_eq_none (show(Array.replicate os.length false).size≤i by simpa using h')]at hi
 intro l1 i l2 hl hk j hj;have hs:(l1++i::l2).Pairwise (· < ·):=hl ▸ List.pairwise_lt_range';have hij:i<j:=List.rel_of_pairwise_cons (List.pairwise_append.1 hs).2.1 hj;have mem:∀x∈l1++i::l2,x<os.length:=by
  intro x hx;rw[← hl]at hx;simp only[List.mem_range',Nat.zero_add,Nat.one_mul]at hx;obtain⟨y,hy,rfl⟩:=hx;exact hy
 have hi:=mem i (by simp);have hj':=mem j (by simp[hj]);have h1:=zm.1 h14 _<|hz (j:=i) (o:=os[i]) (by simp[hi]);simp only[Bool.or_eq_true,Bool.not_eq_true',decide_eq_false_iff_not]at h1;rcases h1 with h1|h1;exact absurd hk h1;have h2:=zm.1 h1 _<|hz (j:=j) (o:=os[j]) (by simp[hj']);simp only[Bool.or_eq_true,Bool.not_eq_true',decide_eq_false_iff_not]at h2;rcases h2 with h2|h2;exact absurd hij h2;simpa using h2;exact IT ks os 0 a w.drew (by simp) (by simpa using h)
def Mt (ops:Array Oper)(kd:Nat→Nat):List Nat→List Oper→List Nat→Prop
 |[],[],_=>True
 |x::l,o::os,k::ks=>ops[x]? = some o∧kd x=k∧Mt ops kd l os ks
 |_,_,_=>False
theorem EO:∀(l:List Nat)(os:List Oper)(ks:List Nat)(a:Act)(w:World),Mt ops kd l os ks→LW P ops w0 Q os ks a w→LI P ops kd w0 Q l a w
 |[],[],_,_,_,_,h=>by simpa [LI,LW]using h
 |x::l,o::os,k::ks,a,w,⟨h0,hk,hM⟩,h=>by
  have hr:∀a w,LW P ops w0 Q os ks a w→LI P ops kd w0 Q l a w:=fun a w hh=>EO l os ks a w hM hh
  simp only[LI,h0,LW]at h ⊢
  split
  rename_i hw
  rw[if_pos hw]at h
  rw[hk]
  exact h.mono hr
  rename_i hw
  rw[if_neg hw]at h
  exact hr _ _ h
 |[],_::_,_,_,_,h,_=>h.elim
 |_::_,[],_,_,_,h,_=>h.elim
 |_::_,_::_,[],_,_,h,_=>h.elim
def IU (ops:Array Oper)(ks b:List Nat)(x y:Nat):Bool :=
 match ops[x]?,ops[y]? with
 |some ox,some oy=>((b.getD y 0).testBit x || (ox.apart ops oy && DB (ks.getD x 0) (ks.getD y 0))) && ox.after.all fun e=>!Region.binds .any e || e.on != y
 |_,_=>false
def VX (f:Nat→Nat→Bool):List Nat→Bool
 |[]=>true
 |x::l=>l.all (f x) && VX f l
theorem Lg {f:Nat→Nat→Bool}{R:Nat→Nat→Prop}(hR:∀x y,f x y=true→R x y):∀ {l:List Nat},VX f l=true→l.Pairwise R
 |[],_=>List.Pairwise.nil
 |x::l,h=>by
  simp only[VX,z7,zm]at h
  exact List.pairwise_cons.2 ⟨fun y hy=>hR x y<|h.1 y hy,Lg hR h.2⟩
theorem GN {ks b:List Nat}{x y:Nat}(h:IU ops ks b x y=true):Fy .any ops (fun i=>ks.getD i 0) (fun j=>b.getD j 0) x y:=by unfold IU at h;split at h;rename_i ox oy hx hy;simp only[z7,Bool.or_eq_true]at h;refine⟨fun ox' oy' hx' hy'=>?_,fun ox' hx' e he hb=>?_⟩;rw[hx]at hx';rw[hy]at hy';cases hx';cases hy';exact h.1;rw[hx]at hx';cases hx';have:=(Array.all_eq_true_iff_forall_mem.1 h.2) e he;simpa [hb]using this;cases h
theorem HQ:∀(rest:List Oper)(ks:List Nat)(a:Act)(w:World)(Q:Exit→Act→World→Prop),(∀k∈ks,k≠1)→LW P ops w0 (fun a w=>Q .normal a w) rest ks a w→wpList P ops Q rest a w
 |[],_,_,_,_,_,h=>h
 |_::_,[],_,_,_,_,h=>h.elim
 |o::os,k::ks,a,w,Q,hk,h=>by
  have hk':∀x∈ks,x≠1:=fun x hx=>hk x (z3 _ hx)
  have hk1:=hk k (z0 ..)
  refine wpList_step fun K hK=>?_
  simp only[LW]at h
  split
  rename_i hw
  rw[if_pos hw]at h
  unfold Cb at h
  split at h
  obtain⟨v,h1,h2⟩:=h
  exact Le (h1 w (Cl.self fun hh=>absurd hh hk1))<|hK _ _<|HQ os ks _ _ Q hk' h2
  split at h
  exact Oper.wp_mono (fun a w hh=>hK _ _<|HQ os ks _ _ Q hk' hh.2)<|Ld h
  exact Oper.wp_mono (fun a w hh=>hK _ _<|HQ os ks _ _ Q hk' hh)<|Ld h
  rename_i hw
  rw[if_neg hw]at h
  exact hK _ _<|HQ os ks _ _ Q hk' h
theorem Ab {id:Nat}{Q:Exit→Act→World→Prop}{a:Act}{w:World}(os:List Oper)(ks:List Nat)(hk:ks.all (· != 1)=true)
  (h:LW P os.toArray w (fun a w=>Q .normal a w) os ks a w):(Code.region id os.toArray false).wp P Q a w :=
 wp_region_lit (HQ os ks a w Q (fun k hh=>by simpa using zm.1 hk k hh) h)
end
end
section
def Ch (ρ:Nat→Value)(d:Nat)(v:Value):Nat→Value:=fun i=>cond (Nat.beq i d) v (ρ i)
def qd (l:List Value):Nat→Value:=fun i=>l.getD i undef
def mk (N:Nat) (ρ:Nat→Value):Act:=⟨((List.range N).map ρ).toArray,[]⟩
def Bk (N:Nat) (ρ:Nat→Value):Operand→Value
 |.tmp t=>cond (Nat.blt t N) (ρ t) undef
 |.const v=>v
 |.global g=>.pointer (some ⟨g,0,none⟩)
 |.func f=>.func (.func f) #[] #[]
theorem Rq (ρ:Nat→Value)(d:Nat)(v:Value):Ch ρ d v d=v:=by simp[Ch]
theorem Xs (ρ:Nat→Value){d i:Nat}(v:Value)(h:i≠d):Ch ρ d v i=ρ i:=by
 have:Nat.beq i d=false:=by
  cases hb:Nat.beq i d with
  |false=>rfl
  |true=>exact absurd (Nat.eq_of_beq_eq_true hb) h
 simp[Ch,this]
theorem DJ (N:Nat) (ρ:Nat→Value):(mk N ρ).eval=Bk N ρ:=by
 funext x;cases x with
 |tmp t =>
  simp only[Act.eval,Bk,mk];by_cases h:t<N;have:Nat.blt t N=true:=by simpa using h
  simp[h,this];have:Nat.blt t N=false:=by
   cases hb:Nat.blt t N with
   |false=>rfl
   |true=>exact absurd (by simpa using hb) h
  simp[this,Nat.not_lt.1 h]
 |_=>rfl
theorem Gh (N:Nat) (ρ:Nat→Value)(d:Nat)(v:Value):(mk N ρ).put (some d) v=mk N (Ch ρ d v):=by
 simp only[Act.put,mk,Act.mk.injEq,and_true];apply Array.ext;simp
 intro i h1 h2;simp at h1;by_cases hi:i=d;subst hi;simp[Rq];simp[Ne.symm hi,Xs _ _ hi]
theorem Am {P:Program}{f:FuncId}{fn:Func}{c:Code}{w:World}{R:Ending→World→Prop}(args:List Value)(N:Nat)
  (hf:P.funcs[f]? = some fn) (hb:fn.body=some c) (hN:fn.ntmps=N) (hl:args.length≤N)
  (h:c.wp P (bodyPost P fn R) (mk N (qd args)) w):Calls P f args.toArray w R:=by
 refine calls_of_wp hf hb ?_;have:(mk N (qd args)) = { tmps:=args.toArray++Array.replicate (fn.ntmps-args.toArray.size) undef,defers:=[] }:=by
  simp only[mk,Act.mk.injEq,and_true];apply Array.ext;simp;omega
  intro i h1 h2;simp at h1;by_cases hi:i<args.length;simp[qd,hi];simp[qd,hi,Array.getElem_append]
 rw[← this];exact h
def gH (N:Nat) (ρ:Nat→Value):List Nat→Value
 |[t]=>Bk N ρ (.tmp t)
 |ts=>.tuple (ts.map fun t=>Bk N ρ (.tmp t)).toArray
theorem JL (N:Nat) (ρ:Nat→Value)(t:Nat):(mk N ρ).tmps.getD t undef=Bk N ρ (.tmp t):=by rw[← DJ];rfl
theorem MA {P:Program}{fn:Func}{N:Nat} {ρ:Nat→Value}{w:World}(ts:List Nat)(hr:fn.results=(ts.map ResultVar.tmp).toArray) :
  (results fn (mk N ρ).tmps).run P w=.ok (gH N ρ ts) w:=by
 have key:∀(l:List Nat),(((l.map ResultVar.tmp).mapM (m:=Sem) fun
  |.tmp t=>pure ((mk N ρ).tmps.getD t undef)
  |.cell a t=>do loadVar t (← asAddr ((mk N ρ).tmps.getD a undef)))).run P w=.ok (l.map fun t=>Bk N ρ (.tmp t)) w:=by
  intro l
  induction l with
  |nil=>rfl
  |cons t l ih =>
   simp only[zf,List.mapM_cons,Sem.run_bind,Sem.run_pure,Result.andThen_ok,JL]at ih ⊢;rw[ih];rfl
 unfold results;rw[hr];simp only[List.mapM_toArray,Sem.run_bind,Sem.run_map];refine (congrArg (fun r=>(Result.andThen (Result.andThen r fun a w'=>Result.ok a.toArray w') fun a w'=>Result.ok (if h:a.size=1 then a[0]else Value.tuple a) w'))<|key ts).trans ?_;simp only[Result.andThen_ok];match ts with
 |[]=>rfl
 |[t]=>rfl
 |_::_::_=>rfl
theorem Ag {P:Program}{fn:Func}{N:Nat} {ρ:Nat→Value}{w:World}{R:Ending→World→Prop}(ts:List Nat)(hr:fn.results=(ts.map ResultVar.tmp).toArray)(v:Value)(hv:gH N ρ ts=v)
  (h:R (.returned v) w):bodyPost P fn R .ret (mk N ρ) w:=⟨rfl,v,by rw[← hv];exact MA ts hr,h⟩
theorem HR {P:Program}{fn:Func}{N:Nat} {ρ:Nat→Value}{w:World}{R:Ending→World→Prop}(ts:List Nat)(hr:fn.results=(ts.map ResultVar.tmp).toArray)(v:Value)(hv:gH N ρ ts=v)
  (h:R (.returned v) w):bodyPost P fn R .normal (mk N ρ) w:=⟨rfl,v,by rw[← hv];exact MA ts hr,h⟩
section code
variable {P:Program} {N:Nat} {ρ:Nat→Value} {Q:Exit→Act→World→Prop} {w:World}
theorem Ae {c:Operand}{x y:Code}(hc:Bk N ρ c=.bool true)(h:x.wp P Q (mk N ρ) w):(Code.cond c x y).wp P Q (mk N ρ) w :=
 wp_cond_true (by rw[DJ];exact hc) h
theorem Af {c:Operand}{x y:Code}(hc:Bk N ρ c=.bool false)(h:y.wp P Q (mk N ρ) w):(Code.cond c x y).wp P Q (mk N ρ) w :=
 wp_cond_false (by rw[DJ];exact hc) h
theorem An {id:Nat}{a:Act}(h:Q .normal a w):Exit.inBlock id Q (.exit id) a w:=by simpa [Exit.inBlock]using h
theorem Tj {id id':Nat}{a:Act}(hne:Nat.beq id' id=false)(h:Q (.exit id') a w):Exit.inBlock id Q (.exit id') a w:=by
 have:id'≠id:=fun e=>by rw[e,Nat.beq_refl]at hne;cases hne
 simpa [Exit.inBlock,this]using h
theorem Ap {id:Nat}{a:Act}{K:Act→World→Prop}(h:Q (.exit id) a w):Exit.then K Q (.exit id) a w:=h
theorem Ak {a:Act}{K:Act→World→Prop}(h:Q .ret a w):Exit.then K Q .ret a w:=h
theorem Au {id:Nat}{a:Act}(h:Q .ret a w):Exit.inBlock id Q .ret a w:=h
def Xt:List (Nat×Value)→(Nat→Value)→Nat→Value
 |[],ρ=>ρ
 |(i,v)::l,ρ=>Ch (Xt l ρ) i v
def M0 (ρ:Nat→Value):List (Nat×Value)→Prop
 |[]=>True
 |(i,v)::l=>ρ i=v∧M0 ρ l
theorem GO {ρ:Nat→Value}:∀ {l:List (Nat×Value)},M0 ρ l→Xt l ρ=ρ
 |[],_=>rfl
 |(i,v)::l,h=>by
  simp only[Xt,GO h.2]
  funext j
  by_cases hj:j=i
  subst hj;rw[Rq];exact h.1.symm
  rw[Xs _ _ hj]
theorem AM {S:Type}(fr:S→List (Nat×Value))(I:S→World→Prop)(m:S→Nat)(s0:S){body:Code}(hfr:M0 ρ (fr s0))(h0:I s0 w)
  (round:∀s ρ w,I s w→body.wp P (Exit.then (fun a' w'=>∃s' ρ',a'=mk N ρ'∧M0 ρ' (fr s')∧I s' w'∧m s'<m s) Q) (mk N (Xt (fr s) ρ)) w) :
  (Code.loop body).wp P Q (mk N ρ) w:=by
 intro b k cs;have key:∀n s ρ w,m s=n→M0 ρ (fr s)→I s w→∃e a' w',Q e a' w'∧Arrives P (lone (b.at (mk N ρ) (.code body :: .inLoop body::k)) cs w) b k cs e a' w':=by
  intro n
  induction n using Nat.strongRecOn with
  |_ n ih =>
   intro s ρ w hn hfr hI;have hr:=round s ρ w hI;rw[GO hfr]at hr;obtain⟨e,a₁,w₁,hq,harr⟩:=hr b (.inLoop body::k) cs;cases e with
   |normal =>
    obtain⟨s',ρ',rfl,hfr',hI',hlt⟩:=hq;obtain⟨e₂,a₂,w₂,hq₂,harr₂⟩:=ih (m s') (hn ▸ hlt) s' ρ' w₁ rfl hfr' hI';exact⟨e₂,a₂,w₂,hq₂,.of_steps (Steps.trans harr (.one step_inLoop)) harr₂⟩
   |exit id=>exact⟨_,a₁,w₁,hq,.pass (x:=.inLoop body) rfl (fun _ _=>.inl (by simp)) harr⟩
   |goto l=>exact⟨_,a₁,w₁,hq,.pass (x:=.inLoop body) rfl (fun _ _=>.inl (by simp)) harr⟩
   |ret=>exact⟨_,a₁,w₁,hq,.pass (x:=.inLoop body) rfl (fun _ _=>.inl (by simp)) harr⟩
   |panic ch=>exact⟨_,a₁,w₁,hq,.pass (x:=.inLoop body) rfl (fun _ _=>.inl (by simp)) harr⟩
   |outgrown=>exact⟨_,a₁,w₁,hq,.pass (x:=.inLoop body) rfl (fun _ _=>.inl (by simp)) harr⟩
 obtain⟨e,a',w',hq,harr⟩:=key _ s0 ρ w rfl hfr h0;exact⟨e,a',w',hq,.of_steps (.one step_loop) harr⟩
theorem GP {S:Type}(fr:S→List (Nat×Value))(I:S→World→Prop){c:Code}{K:Act→World→Prop}{Q':Exit→Act→World→Prop}
  (h:c.wp P (Exit.then (fun a' w'=>∃s' ρ',a'=mk N ρ'∧M0 ρ' (fr s')∧I s' w') Q') (mk N ρ) w)
  (hn:∀s ρ w,I s w→K (mk N (Xt (fr s) ρ)) w):c.wp P (Exit.then K Q') (mk N ρ) w:=by
 refine wp_mono h ?_
 intro e a w hh;cases e with
 |normal =>
  obtain⟨s,ρ',rfl,h1,h2⟩:=hh;have:=hn s ρ' w h2;rw[GO h1]at this;exact this
 |_=>exact hh
end code
section ops
variable {P:Program} {ops:Array Oper} {w0:World} {Q:Act→World→Prop} {os:List Oper} {ks:List Nat} {N:Nat} {ρ:Nat→Value} {w:World}
abbrev Up (ops:Array Oper)(N:Nat) (ρ:Nat→Value)(o:Oper):Prop:=Region.wanted o (yielded ops (mk N ρ).tmps)=true
theorem Aa {d:Option Tmp}{op:Op}{ty:TypeId}{pos:String}{aft:Array Edge}:Up ops N ρ ⟨d,op,ty,pos,aft,none⟩:=rfl
theorem Tl {j d:Nat}{b:Bool}(hd:(ops[j]?).bind (·.dst)=some d)(hlt:Nat.blt d N=true)(hv:ρ d=.bool b):yielded ops (mk N ρ).tmps j=some b:=by
 have h:d<N:=by simpa using hlt
 unfold yielded;rw[hd];simp[mk,h,hv]
theorem Ah {d:Option Tmp}{op:Op}{ty:TypeId}{pos:String}{aft:Array Edge}{j e:Nat}{b:Bool}(hd:(ops[j]?).bind (·.dst)=some e)(hlt:Nat.blt e N=true)(hv:ρ e=.bool b) :
  Up ops N ρ ⟨d,op,ty,pos,aft,some (j,b)⟩:=by
 unfold Up Region.wanted;simp[Tl hd hlt hv]
theorem D2 {o:Oper}{k d:Nat}(hk:k≤2)(hd:o.dst=some d)(hu:Up ops N ρ o)(v:Value)(hr:∀w',Cl w0 w k w'→(execOp (Bk N ρ) o).run P w'=.ok (.value v) w')
  (h:LW P ops w0 Q os ks (mk N (Ch ρ d v)) w):LW P ops w0 Q (o::os) (k::ks) (mk N ρ) w:=by
 simp only[LW];rw[if_pos hu];unfold Cb;rw[if_pos hk];refine⟨v,fun w' hc=>.inl ?_,?_⟩;rw[DJ];exact hr w' hc;rw[hd,Gh];exact h
theorem II {o:Oper}{d:Nat}(hd:o.dst=some d)(hu:Up ops N ρ o)
  (v:Value) (w1:World) (hr:(execOp (Bk N ρ) o).run P w=.ok (.value v) w1) (hE:AI w w1) (h:LW P ops w0 Q os ks (mk N (Ch ρ d v)) w1):LW P ops w0 Q (o::os) (3::ks) (mk N ρ) w:=by
 simp only[LW];rw[if_pos hu];unfold Cb;rw[if_neg (by decide),if_pos rfl];unfold Oper.wp;rw[DJ,hr];show AI w w1∧LW P ops w0 Q os ks ((mk N ρ).put o.dst v) w1;rw[hd,Gh];exact⟨hE,h⟩
theorem IV {o:Oper}{d:Nat}(hd:o.dst=some d)(hu:Up ops N ρ o)
  (v:Value) (w1:World) (hr:(execOp (Bk N ρ) o).run P w=.ok (.value v) w1) (h:LW P ops w0 Q os ks (mk N (Ch ρ d v)) w1):LW P ops w0 Q (o::os) (4::ks) (mk N ρ) w:=by
 simp only[LW];rw[if_pos hu];unfold Cb;rw[if_neg (by decide),if_neg (by decide)];unfold Oper.wp;rw[DJ,hr];show LW P ops w0 Q os ks ((mk N ρ).put o.dst v) w1;rw[hd,Gh];exact h
theorem Q4 {o:Oper}(hd:o.dst=none)(hu:Up ops N ρ o)
  (w1:World) (hr:(execOp (Bk N ρ) o).run P w=.ok .skip w1) (h:LW P ops w0 Q os ks (mk N ρ) w1):LW P ops w0 Q (o::os) (4::ks) (mk N ρ) w:=by
 simp only[LW];rw[if_pos hu];unfold Cb;rw[if_neg (by decide),if_neg (by decide)];unfold Oper.wp;rw[DJ,hr];show LW P ops w0 Q os ks ((mk N ρ).put o.dst undef) w1;rw[hd];exact h
theorem Cd {d:Nat} {x:Operand} {xs:Array Operand} {ats:Array TypeId} {ty:TypeId} {pos:String} {aft:Array Edge} {g:Option (Nat × Bool)} (f:FuncId) (first cap:List Value) (args:List Value)
  (hx:Bk N ρ x = .func (.func f) first.toArray cap.toArray) (hxs:first++(xs.toList.map (Bk N ρ))++cap = args) (hf:((P.funcs[f]?).map fun fn=>(fn.name != "runtime.NumGoroutine") && fn.body.isSome) = some true)
  (hu:Up ops N ρ ⟨some d,.call ⟨.value x,xs,ats⟩,ty,pos,aft,g⟩) {R:Ending→World→Prop} (hc:Calls P f args.toArray w R)
  (h:∀ e w1,R e w1→∃ v,e = .returned v∧AI w w1∧LW P ops w0 Q os ks (mk N (Ch ρ d v)) w1) :
  LW P ops w0 Q (⟨some d,.call ⟨.value x,xs,ats⟩,ty,pos,aft,g⟩ :: os) (3 :: ks) (mk N ρ) w:=by
 simp only [LW];rw [if_pos hu];unfold Cb;rw [if_neg (by decide),if_pos rfl];unfold Oper.wp;rw [DJ];have hrun:(execOp (Bk N ρ) ⟨some d,.call ⟨.value x,xs,ats⟩,ty,pos,aft,g⟩).run P w = .ok (.enter f args.toArray) w:=by
  obtain ⟨fn,hfn,hb⟩:=Option.map_eq_some_iff.1 hf;simp only [z7,bne_iff_ne,ne_eq] at hb;have hargs:first.toArray++xs.map (Bk N ρ)++cap.toArray = args.toArray:=by
   rw [← hxs]; apply Array.ext'; simp
  obtain ⟨c,hbc⟩:=Option.isSome_iff_exists.1 hb.2;have hcf:(callFunc f args.toArray).run P w = .ok (.enter f args.toArray) w:=by
   simp [callFunc,hfn,hb.1,hbc]
  simp [execOp,resolve,hargs,hx,Deferred.ofValue,invoke,hcf]
 rw [hrun];refine Calls.mono hc (fun e w1 he=>?_);obtain ⟨v,rfl,hE,hL⟩:=h e w1 he;show AI w w1∧LW P ops w0 Q os ks ((mk N ρ).put (some d) v) w1;rw [Gh];exact ⟨hE,hL⟩
theorem BR {d:Nat} {x:Operand} {xs:Array Operand} {ats:Array TypeId} {ty:TypeId} {pos:String} {aft:Array Edge} {g:Option (Nat × Bool)} (f:FuncId) (first cap:List Value) (args:List Value)
  (hx:Bk N ρ x = .func (.func f) first.toArray cap.toArray) (hxs:first++(xs.toList.map (Bk N ρ))++cap = args) (hf:((P.funcs[f]?).map fun fn=>(fn.name != "runtime.NumGoroutine") && fn.body.isSome) = some true)
  (hu:Up ops N ρ ⟨some d,.call ⟨.value x,xs,ats⟩,ty,pos,aft,g⟩) (v:Value) (hc:∀ w',Calls P f args.toArray w' (fun e w''=>e = .returned v∧w'' = w'))
  (h:LW P ops w0 Q os ks (mk N (Ch ρ d v)) w) :
  LW P ops w0 Q (⟨some d,.call ⟨.value x,xs,ats⟩,ty,pos,aft,g⟩ :: os) (0 :: ks) (mk N ρ) w:=by
 simp only [LW];rw [if_pos hu];unfold Cb;rw [if_pos (by decide)];have hrun:∀ w,(execOp (Bk N ρ) ⟨some d,.call ⟨.value x,xs,ats⟩,ty,pos,aft,g⟩).run P w = .ok (.enter f args.toArray) w:=by
  intro w;obtain ⟨fn,hfn,hb⟩:=Option.map_eq_some_iff.1 hf;simp only [z7,bne_iff_ne,ne_eq] at hb;have hargs:first.toArray++xs.map (Bk N ρ)++cap.toArray = args.toArray:=by
   rw [← hxs]; apply Array.ext'; simp
  obtain ⟨c,hbc⟩:=Option.isSome_iff_exists.1 hb.2;have hcf:(callFunc f args.toArray).run P w = .ok (.enter f args.toArray) w:=by
   simp [callFunc,hfn,hb.1,hbc]
  simp [execOp,resolve,hargs,hx,Deferred.ofValue,invoke,hcf]
 refine ⟨v,fun w' _=>.inr (.inr ⟨f,args.toArray,?_,hc w'⟩),?_⟩;rw [DJ]; exact hrun w';show LW P ops w0 Q os ks ((mk N ρ).put (some d) v) w;rw [Gh]; exact h
end ops
def it {σ:Type}(f:Nat→σ→σ):Nat→σ→σ
 |0,s=>s
 |k+1,s=>f k (it f k s)
def wr (x:Int):Int:=IntKind.i64.wrap x
theorem Q5 (x:Int):-9223372036854775808≤wr x∧wr x≤9223372036854775807:=by unfold wr;rw[IntKind.wrap_i64];omega
end
section
theorem Cs {x:Int}(h:-9223372036854775808≤x)(h':x≤9223372036854775807):IntKind.i64.wrap x=x:=IntWalk.i64_in x ⟨h,h'⟩
theorem Cc {x:Int}{n:Nat}(h:x=(n:Int))(h':x≤9223372036854775807):IntKind.i64.wrap x=(n:Int):=by rw[Cs zO h',h]
theorem qs {x y:Int}(h:x=y)(h0:-9223372036854775808≤y)(h':y≤9223372036854775807):IntKind.i64.wrap x=y:=by rw[h];exact Cs h0 h'
def TI (P:Program)(e:TypeId)(s:Nat)(z:Value)(b:Nat):Prop:=(P.info? e).map (fun i=>(i.zero,i.size,i.bytes))=some (some z,s,b)
theorem TI.get {P:Program}{e:TypeId}{s:Nat}{z:Value}{b:Nat}(h:TI P e s z b):∃i,P.info? e=some i∧i.zero=some z∧i.size=s∧i.bytes=b:=by obtain⟨i,hi,hh⟩:=Option.map_eq_some_iff.1 h;simp only[Prod.mk.injEq]at hh;exact⟨i,hi,hh⟩
def ES (v:Value)(n:Nat):Prop:=∃a c,v=.slice a n c∧(a=none→n=0)
def BJ (v:Value)(i s:Nat):Value :=
 match v with
 |.slice (some a) _ _=>.pointer (some (a.add (i*s)))
 |_=>undef
def Cv (H:Array Obj)(g o:Nat):Option Value :=
 match H[g]? with
 |some (.cells c _ _)=>c[o]?
 |_=>none
theorem BY (w:World)(g o:Nat):w.cell? ⟨g,o,none⟩=Cv w.heap g o:=by
 unfold World.cell? Cv;cases w.heap[g]? with
 |none=>rfl
 |some o=>cases o <;> rfl
def IJ (H:Array Obj)(p:Value):Option Value :=
 match p with
 |.pointer (some ⟨g,o,none⟩)=>Cv H g o
 |_=>none
theorem AI.heap {w w':World}(h:AI w w'){k:Nat}(hk:k<w.heap.size):w'.heap[k]? = w.heap[k]?:=Below.block h k hk
theorem Xu {H:Array Obj}{g o:Nat}{v:Value}(h:Cv H g o=some v):g<H.size:=by unfold Cv at h;rcases Nat.lt_or_ge g H.size with hh|hh;exact hh;simp[Array.getElem?_eq_none hh]at h
theorem VY {w w':World}(h:AI w w'){g o:Nat}{v:Value}(hc:Cv w.heap g o=some v):Cv w'.heap g o=some v:=by have:=h.heap (Xu hc);unfold Cv at *;rw[this];exact hc
theorem BC {w w':World}(h:AI w w'){p v:Value}(hc:IJ w.heap p=some v):IJ w'.heap p=some v:=by unfold IJ at *;split at hc;exact VY h hc;cases hc
def Co (P:Program)(t:TypeId):Prop:=((P.underlying t).map fun d=>match d with|.struct _=>false|.array _ _=>false|_=>true)=some true
theorem Po {P:Program}{t:TypeId}(ht:Co P t){p v:Value}{w:World}(h:IJ w.heap p=some v):(Instr.loadAt t p).run P w=.ok v w:=by
 unfold IJ at h;split at h;rename_i g o;rw[← BY]at h;obtain⟨d,hd,hh⟩:=Option.map_eq_some_iff.1 ht;have hag:(isAgg t).run P w=.ok false w:=by
  unfold isAgg;simp only[Sem.run_bind,run_underlying hd,Result.andThen_ok];cases d <;> first|rfl|simp at hh
 simp[Instr.loadAt,Instr.sureAddr,loadVar,hag,h];cases h
section ops
variable {P:Program} {ops:Array Oper} {w0:World} {Q:Act→World→Prop} {os:List Oper} {ks:List Nat} {N:Nat} {ρ:Nat→Value} {w:World}
 {d:Nat} {ty:TypeId} {pos:String} {aft:Array Edge} {g:Option (Nat×Bool)}
theorem gI {x:Operand}(v:Value)(hx:Bk N ρ x=v)(hu:Up ops N ρ ⟨some d,.move x,ty,pos,aft,g⟩)(h:LW P ops w0 Q os ks (mk N (Ch ρ d v)) w) :
  LW P ops w0 Q (⟨some d,.move x,ty,pos,aft,g⟩::os) (0::ks) (mk N ρ) w :=
 D2 (by decide) rfl hu v (fun w' _=>by simp[execOp,hx]) h
theorem Xv {x:Operand}(v:Value)(hx:Bk N ρ x=v)(hu:Up ops N ρ ⟨some d,.assign x,ty,pos,aft,g⟩)(h:LW P ops w0 Q os ks (mk N (Ch ρ d v)) w) :
  LW P ops w0 Q (⟨some d,.assign x,ty,pos,aft,g⟩::os) (0::ks) (mk N ρ) w :=
 D2 (by decide) rfl hu v (fun w' _=>by simp[execOp,hx]) h
section bin
variable {xt yt:TypeId} {x y:Operand} {k:IntKind} {a b:Int}
theorem EV {op:BinOp}{w:World}:(eqGuard op xt x y (.int k a) (.int k b)).run P w=.ok () w:=by unfold eqGuard;cases op <;> rfl
theorem AP (c:Int)(hx:Bk N ρ x=.int k a)(hy:Bk N ρ y=.int k b)(hc:k.wrap (a+b)=c)(hu:Up ops N ρ ⟨some d,.binOp .add xt x y yt,ty,pos,aft,g⟩)
  (h:LW P ops w0 Q os ks (mk N (Ch ρ d (.int k c))) w):LW P ops w0 Q (⟨some d,.binOp .add xt x y yt,ty,pos,aft,g⟩::os) (0::ks) (mk N ρ) w :=
 D2 (by decide) rfl hu _ (fun w' _=>by simp[execOp,hx,hy,EV,binOp,Op.intArith,hc]) h
theorem Bs (c:Int)(hx:Bk N ρ x=.int k a)(hy:Bk N ρ y=.int k b)(hc:k.wrap (a-b)=c)(hu:Up ops N ρ ⟨some d,.binOp .sub xt x y yt,ty,pos,aft,g⟩)
  (h:LW P ops w0 Q os ks (mk N (Ch ρ d (.int k c))) w):LW P ops w0 Q (⟨some d,.binOp .sub xt x y yt,ty,pos,aft,g⟩::os) (0::ks) (mk N ρ) w :=
 D2 (by decide) rfl hu _ (fun w' _=>by simp[execOp,hx,hy,EV,binOp,Op.intArith,hc]) h
theorem Fw (c:Int)(hx:Bk N ρ x=.int k a)(hy:Bk N ρ y=.int k b)(hc:k.wrap (a*b)=c)(hu:Up ops N ρ ⟨some d,.binOp .mul xt x y yt,ty,pos,aft,g⟩)
  (h:LW P ops w0 Q os ks (mk N (Ch ρ d (.int k c))) w):LW P ops w0 Q (⟨some d,.binOp .mul xt x y yt,ty,pos,aft,g⟩::os) (0::ks) (mk N ρ) w :=
 D2 (by decide) rfl hu _ (fun w' _=>by simp[execOp,hx,hy,EV,binOp,Op.intArith,hc]) h
theorem Es (c:Int)(hx:Bk N ρ x=.int k a)(hy:Bk N ρ y=.int k b)(hb:b≠0)(hc:a.tmod b=c)(hu:Up ops N ρ ⟨some d,.binOp .rem xt x y yt,ty,pos,aft,g⟩)
  (h:LW P ops w0 Q os ks (mk N (Ch ρ d (.int k c))) w):LW P ops w0 Q (⟨some d,.binOp .rem xt x y yt,ty,pos,aft,g⟩::os) (0::ks) (mk N ρ) w :=
 D2 (by decide) rfl hu _ (fun w' _=>by simp[execOp,hx,hy,EV,binOp,Op.intDiv,hb,hc]) h
theorem Ul (c:Int)(hx:Bk N ρ x=.int k a)(hy:Bk N ρ y=.int k b)(hb:b≠0)(hc:k.wrap (a.tdiv b)=c)(hu:Up ops N ρ ⟨some d,.binOp .quo xt x y yt,ty,pos,aft,g⟩)
  (h:LW P ops w0 Q os ks (mk N (Ch ρ d (.int k c))) w):LW P ops w0 Q (⟨some d,.binOp .quo xt x y yt,ty,pos,aft,g⟩::os) (0::ks) (mk N ρ) w :=
 D2 (by decide) rfl hu _ (fun w' _=>by simp[execOp,hx,hy,EV,binOp,Op.intDiv,hb,hc]) h
theorem Um (c:Bool)(hx:Bk N ρ x=.int k a)(hy:Bk N ρ y=.int k b)(hc:decide (a<b)=c)(hu:Up ops N ρ ⟨some d,.binOp .lss xt x y yt,ty,pos,aft,g⟩)
  (h:LW P ops w0 Q os ks (mk N (Ch ρ d (.bool c))) w):LW P ops w0 Q (⟨some d,.binOp .lss xt x y yt,ty,pos,aft,g⟩::os) (0::ks) (mk N ρ) w :=
 D2 (by decide) rfl hu _ (fun w' _=>by simp[execOp,hx,hy,EV,binOp,Op.intCmp,← hc]) h
theorem Pp (c:Bool)(hx:Bk N ρ x=.int k a)(hy:Bk N ρ y=.int k b)(hc:decide (a≤b)=c)(hu:Up ops N ρ ⟨some d,.binOp .leq xt x y yt,ty,pos,aft,g⟩)
  (h:LW P ops w0 Q os ks (mk N (Ch ρ d (.bool c))) w):LW P ops w0 Q (⟨some d,.binOp .leq xt x y yt,ty,pos,aft,g⟩::os) (0::ks) (mk N ρ) w :=
 D2 (by decide) rfl hu _ (fun w' _=>by simp[execOp,hx,hy,EV,binOp,Op.intCmp,← hc]) h
theorem Un (c:Bool)(hx:Bk N ρ x=.int k a)(hy:Bk N ρ y=.int k b)(hc:decide (b<a)=c)(hu:Up ops N ρ ⟨some d,.binOp .gtr xt x y yt,ty,pos,aft,g⟩)
  (h:LW P ops w0 Q os ks (mk N (Ch ρ d (.bool c))) w):LW P ops w0 Q (⟨some d,.binOp .gtr xt x y yt,ty,pos,aft,g⟩::os) (0::ks) (mk N ρ) w :=
 D2 (by decide) rfl hu _ (fun w' _=>by simp[execOp,hx,hy,EV,binOp,Op.intCmp,← hc]) h
theorem Pq (c:Bool)(hx:Bk N ρ x=.int k a)(hy:Bk N ρ y=.int k b)(hc:decide (b≤a)=c)(hu:Up ops N ρ ⟨some d,.binOp .geq xt x y yt,ty,pos,aft,g⟩)
  (h:LW P ops w0 Q os ks (mk N (Ch ρ d (.bool c))) w):LW P ops w0 Q (⟨some d,.binOp .geq xt x y yt,ty,pos,aft,g⟩::os) (0::ks) (mk N ρ) w :=
 D2 (by decide) rfl hu _ (fun w' _=>by simp[execOp,hx,hy,EV,binOp,Op.intCmp,← hc]) h
theorem DI (c:Bool)(hx:Bk N ρ x=.int k a)(hy:Bk N ρ y=.int k b)(hc:decide (a=b)=c)(hu:Up ops N ρ ⟨some d,.binOp .eql xt x y yt,ty,pos,aft,g⟩)
  (h:LW P ops w0 Q os ks (mk N (Ch ρ d (.bool c))) w):LW P ops w0 Q (⟨some d,.binOp .eql xt x y yt,ty,pos,aft,g⟩::os) (0::ks) (mk N ρ) w :=
 D2 (by decide) rfl hu _ (fun w' _=>by
  have:(a == b)=c:=by rw[← hc];rfl
  simp[execOp,hx,hy,EV,binOp,Op.intCmp,this]) h
theorem Nr (c:Bool)(hx:Bk N ρ x=.int k a)(hy:Bk N ρ y=.int k b)(hc:decide (a≠b)=c)(hu:Up ops N ρ ⟨some d,.binOp .neq xt x y yt,ty,pos,aft,g⟩)
  (h:LW P ops w0 Q os ks (mk N (Ch ρ d (.bool c))) w):LW P ops w0 Q (⟨some d,.binOp .neq xt x y yt,ty,pos,aft,g⟩::os) (0::ks) (mk N ρ) w :=
 D2 (by decide) rfl hu _ (fun w' _=>by
  have:(a != b)=c:=by rw[← hc];simp[bne,BEq.beq]
  simp[execOp,hx,hy,EV,binOp,Op.intCmp,this]) h
end bin
theorem Bp {xt:TypeId}{x:Operand}{a:Bool}(c:Bool)(hx:Bk N ρ x=.bool a)(hc:(!a)=c)(hu:Up ops N ρ ⟨some d,.unOp .not xt x,ty,pos,aft,g⟩)
  (h:LW P ops w0 Q os ks (mk N (Ch ρ d (.bool c))) w):LW P ops w0 Q (⟨some d,.unOp .not xt x,ty,pos,aft,g⟩::os) (0::ks) (mk N ρ) w :=
 D2 (by decide) rfl hu _ (fun w' _=>by simp[execOp,hx,Op.unary,← hc]) h
theorem lP {xt:TypeId}{x:Operand}{k:IntKind}{a:Int}(c:Int)(hx:Bk N ρ x=.int k a)(hc:k.wrap (-a)=c)(hu:Up ops N ρ ⟨some d,.unOp .neg xt x,ty,pos,aft,g⟩)
  (h:LW P ops w0 Q os ks (mk N (Ch ρ d (.int k c))) w):LW P ops w0 Q (⟨some d,.unOp .neg xt x,ty,pos,aft,g⟩::os) (0::ks) (mk N ρ) w :=
 D2 (by decide) rfl hu _ (fun w' _=>by simp[execOp,hx,Op.unary,Op.intArith,hc]) h
theorem Uo {t e:TypeId}{x:Operand}{v:Value}{n:Nat}(ht:P.underlying t=some (.slice e))(hx:Bk N ρ x=v)(hs:ES v n)(hu:Up ops N ρ ⟨some d,.call ⟨.builtin .len,#[x],#[t]⟩,ty,pos,aft,g⟩)
  (h:LW P ops w0 Q os ks (mk N (Ch ρ d (.int .i64 (n:Int)))) w):LW P ops w0 Q (⟨some d,.call ⟨.builtin .len,#[x],#[t]⟩,ty,pos,aft,g⟩::os) (0::ks) (mk N ρ) w :=
 D2 (by decide) rfl hu _ (fun w' _=>by
  obtain⟨a,c,rfl,_⟩:=hs
  simp[execOp,resolve,invoke,builtin,hx,Builtin.len_,run_underlying ht,goInt]) h
theorem Ns {t:TypeId}{x:Operand}{s:ByteArray}(ht:P.underlying t=some .string)(hx:Bk N ρ x=.string s)(hu:Up ops N ρ ⟨some d,.call ⟨.builtin .len,#[x],#[t]⟩,ty,pos,aft,g⟩)
  (h:LW P ops w0 Q os ks (mk N (Ch ρ d (.int .i64 (s.size:Int)))) w):LW P ops w0 Q (⟨some d,.call ⟨.builtin .len,#[x],#[t]⟩,ty,pos,aft,g⟩::os) (0::ks) (mk N ρ) w :=
 D2 (by decide) rfl hu _ (fun w' _=>by
  simp[execOp,resolve,invoke,builtin,hx,Builtin.len_,run_underlying ht,goInt]) h
theorem Pr {t e:TypeId}{x y:Operand}{v:Value}{n s:Nat}{k:IntKind}{i:Int}(j:Nat)(ht:P.underlying t=some (.slice e)){z:Value}{b:Nat}(hi:TI P e s z b)(hx:Bk N ρ x=v)(hy:Bk N ρ y=.int k i)
  (hs:ES v n) (hj:i=(j:Int)) (hlt:j<n) (hu:Up ops N ρ ⟨some d,.indexAddr t x y,ty,pos,aft,g⟩)
  (h:LW P ops w0 Q os ks (mk N (Ch ρ d (BJ v j s))) w):LW P ops w0 Q (⟨some d,.indexAddr t x y,ty,pos,aft,g⟩::os) (0::ks) (mk N ρ) w :=
 D2 (by decide) rfl hu _ (fun w' _=>by
  obtain⟨a,c,rfl,ha⟩:=hs
  obtain⟨inf,h1,_,h3,_⟩:=hi.get
  subst hj
  cases a with
  |none=>have:=ha rfl;omega
  |some a =>
   have hlt':(j:Int)<(n:Int):=by omega
   simp[execOp,hx,hy,Instr.indexAt,asIntOf,run_underlying ht,sizeOf,typeInfo,h1,h3,BJ,hlt]) h
theorem AC {k:Nat}(hk:k=1∨k=2){t:TypeId}{x:Operand}{p:Value}(u:Value)(ht:Co P t)(hx:Bk N ρ x=p)(hc:IJ (if k=1 then w0.heap else w.heap) p=some u)(hu:Up ops N ρ ⟨some d,.load t x,ty,pos,aft,g⟩)
  (h:LW P ops w0 Q os ks (mk N (Ch ρ d u)) w):LW P ops w0 Q (⟨some d,.load t x,ty,pos,aft,g⟩::os) (k::ks) (mk N ρ) w :=
 D2 zO rfl hu _ (fun w' hcl=>by
  have hl:IJ w'.heap p=some u:=by
   rcases hk with rfl|rfl;exact BC (w:=w0) hcl hc;exact BC (w:=w) hcl hc
  simp[execOp,hx,Po ht hl]) h
theorem VZ {x:Operand}{vs:List Value}{i:Nat}(v:Value)(hx:Bk N ρ x=.tuple vs.toArray)(hv:vs[i]? = some v)(hu:Up ops N ρ ⟨some d,.extract x i,ty,pos,aft,g⟩)
  (h:LW P ops w0 Q os ks (mk N (Ch ρ d v)) w):LW P ops w0 Q (⟨some d,.extract x i,ty,pos,aft,g⟩::os) (0::ks) (mk N ρ) w :=
 D2 (by decide) rfl hu _ (fun w' _=>by simp[execOp,hx,Instr.extract,hv]) h
theorem EW {st dt:TypeId}{x:Operand}{k k':IntKind}{a:Int}(c:Int){sd:TypeDesc}(hst:P.underlying st=some sd)(hdt:P.underlying dt=some (.int k'))(hx:Bk N ρ x=.int k a)(hc:k'.wrap a=c)(hu:Up ops N ρ ⟨some d,.convert st dt x,ty,pos,aft,g⟩)
  (h:LW P ops w0 Q os ks (mk N (Ch ρ d (.int k' c))) w):LW P ops w0 Q (⟨some d,.convert st dt x,ty,pos,aft,g⟩::os) (0::ks) (mk N ρ) w :=
 D2 (by decide) rfl hu _ (fun w' _=>by
  simp[execOp,hx,convert,run_underlying hst,run_underlying hdt,Conv.intToInt,hc]) h
theorem Q6 {fn:Fn}{first cap:Array Operand}(fs cs:List Value)(h1:first.toList.map (Bk N ρ)=fs)(h2:cap.toList.map (Bk N ρ)=cs)(hu:Up ops N ρ ⟨some d,.makeFunc fn first cap,ty,pos,aft,g⟩)
  (h:LW P ops w0 Q os ks (mk N (Ch ρ d (.func fn fs.toArray cs.toArray))) w):LW P ops w0 Q (⟨some d,.makeFunc fn first cap,ty,pos,aft,g⟩::os) (0::ks) (mk N ρ) w :=
 D2 (by decide) rfl hu _ (fun w' _=>by
  have e1:first.map (Bk N ρ)=fs.toArray:=by rw[← h1];apply Array.ext';simp
  have e2:cap.map (Bk N ρ)=cs.toArray:=by rw[← h2];apply Array.ext';simp
  simp[execOp,Instr.makeFunc,e1,e2]) h
end ops
end
section
abbrev BL (α:Type):=Array Obj→Value→α→List Nat→Prop
structure CA {α:Type}(E:BL α):Prop where
 cells:∀ {H v x F},E H v x F→v.cells=#[v]
 one:∀ {H v x F},E H v x F→v.oneCell'=true
 lt:∀ {H v x F},E H v x F→∀b∈F,b<H.size
 stable:∀ {H H' v x F},E H v x F→(∀b∈F,H'[b]? = H[b]?)→E H' v x F
def els {α:Type}(E:BL α)(H:Array Obj):List Value→List α→List Nat→Prop
 |[],[],F=>F=[]
 |u::us,x::xs,F=>∃F1 F2,F=F1++F2∧E H u x F1∧els E H us xs F2
 |_,_,_=>False
section els
variable {α:Type} {E:BL α} {H H':Array Obj}
theorem els.length:∀ {us:List Value}{xs:List α}{F:List Nat},els E H us xs F→us.length=xs.length
 |[],[],_,_=>rfl
 |_::_,_::_,_,⟨_,_,_,_,h⟩=>by simp[els.length h]
 |[],_::_,_,h=>h.elim
 |_::_,[],_,h=>h.elim
theorem els.stable (hE:CA E):∀ {us:List Value}{xs:List α}{F:List Nat},els E H us xs F→(∀b∈F,H'[b]? = H[b]?)→els E H' us xs F
 |[],[],_,h,_=>h
 |_::_,_::_,_,⟨F1,F2,rfl,h1,h2⟩,hb =>
  ⟨F1,F2,rfl,hE.stable h1 fun b hh=>hb b (z8 _ hh),els.stable hE h2 fun b hh=>hb b (z1 _ hh)⟩
 |[],_::_,_,h,_=>h.elim
 |_::_,[],_,h,_=>h.elim
theorem els.lt (hE:CA E):∀ {us:List Value}{xs:List α}{F:List Nat},els E H us xs F→∀b∈F,b<H.size
 |[],[],_,h,b,hb=>by rw[show _=[]from h]at hb;cases hb
 |_::_,_::_,_,⟨F1,F2,rfl,h1,h2⟩,b,hb=>(zi.1 hb).elim (hE.lt h1 b) (els.lt hE h2 b)
 |[],_::_,_,h,_,_=>h.elim
 |_::_,[],_,h,_,_=>h.elim
theorem els.get:∀ {us:List Value}{xs:List α}{F:List Nat}{k:Nat}(d:α),els E H us xs F→k<xs.length →
  ∃u F1,us[k]? = some u∧E H u (xs.getD k d) F1∧∀b∈F1,b∈F
 |u::us,x::xs,_,0,d,⟨F1,F2,rfl,h1,h2⟩,_=>⟨u,F1,rfl,h1,fun b hb=>z8 _ hb⟩
 |u::us,x::xs,_,k+1,d,⟨F1,F2,rfl,h1,h2⟩,hk=>by
  obtain⟨u',G,hu,hx,hb⟩:=els.get d h2 (by simpa using hk)
  exact⟨u',G,by simpa using hu,by simpa using hx,fun b hh=>z1 _ (hb b hh)⟩
 |[],[],_,_,_,_,hk=>by simp at hk
 |[],_::_,_,_,_,h,_=>h.elim
theorem els.append:∀ {us vs:List Value}{xs ys:List α}{F G:List Nat},els E H us xs F→els E H vs ys G→els E H (us++vs) (xs++ys) (F++G)
 |[],_,[],_,_,_,h,k=>by rw[show _=[]from h];exact k
 |_::_,_,_::_,_,_,_,⟨F1,F2,rfl,h1,h2⟩,k=>⟨F1,_,by rw[List.append_assoc],h1,els.append h2 k⟩
 |[],_,_::_,_,_,_,h,_=>h.elim
 |_::_,_,[],_,_,_,h,_=>h.elim
theorem els.imp {E':BL α}(h:∀ {H v x F},E H v x F→E' H v x F):∀ {us:List Value}{xs:List α}{F:List Nat},els E H us xs F→els E' H us xs F
 |[],[],_,hh=>hh
 |_::_,_::_,_,⟨F1,F2,e,h1,h2⟩=>⟨F1,F2,e,h h1,els.imp h h2⟩
 |[],_::_,_,hh=>hh.elim
 |_::_,[],_,hh=>hh.elim
theorem els.one (hE:CA E):∀ {us:List Value}{xs:List α}{F:List Nat},els E H us xs F→∀u∈us,u.oneCell'=true
 |[],[],_,_,u,hu=>by cases hu
 |_::_,_::_,_,⟨F1,F2,rfl,h1,h2⟩,v,hv=>(ze.1 hv).elim (fun e=>e ▸ hE.one h1) (els.one hE h2 v)
 |[],_::_,_,h,_,_=>h.elim
 |_::_,[],_,h,_,_=>h.elim
end els
def rI:BL Int:=fun _ v x F=>v=.int .i64 x∧F=[]∧-9223372036854775808≤x∧x≤9223372036854775807
def rU:BL UInt8:=fun _ v x F=>v=.int .u8 (x.toNat:Int)∧F=[]
theorem Ay:CA rI:=⟨fun h=>by rw[h.1];rfl,fun h=>by rw[h.1];rfl,fun h b hb=>(by rw[h.2.1]at hb;cases hb),fun h _=>h⟩
theorem aS:CA rU:=⟨fun h=>by rw[h.1];rfl,fun h=>by rw[h.1];rfl,fun h b hb=>(by rw[h.2]at hb;cases hb),fun h _=>h⟩
def B8 {α:Type}(E:BL α):BL (List α):=fun H v xs F =>
 (∃a cap,v=.slice a 0 cap∧xs=[]∧F=[]) ∨
 ∃us g off cap cur e fr F',els E H us xs F'∧v=.slice (some ⟨g,off,none⟩) xs.length cap∧H[g]? = some (.cells cur e fr)∧(cur.toList.drop off).take xs.length=us∧xs.length≤maxLen∧F=g::F'
def By {α:Type}(E:BL α)(e:TypeId):BL (List α):=fun H v xs F =>
 (v=.slice none 0 0∧xs=[]∧F=[]) ∨
 ∃us g cap cur F',els E H us xs F'∧v=.slice (some ⟨g,0,none⟩) xs.length cap∧H[g]? = some (.cells cur e (0,0))∧xs.length≤cap∧cap≤maxLen∧cur.size=cap∧cur.toList.take xs.length=us∧F=g::F'
theorem getElem?_lt {H:Array Obj}{g:Nat}{o:Obj}(h:H[g]? = some o):g<H.size:=(Array.getElem?_eq_some_iff.1 h).1
section lists
variable {α:Type} {E:BL α} {e:TypeId} {H:Array Obj} {v:Value} {xs:List α} {F:List Nat}
theorem IW (hE:CA E):CA (B8 E) where
 cells:=by
  rintro H v xs F (⟨a,cap,rfl,_⟩|⟨us,g,off,cap,cur,e,fr,F',_,rfl,_⟩) <;> rfl
 one:=by
  rintro H v xs F (⟨a,cap,rfl,_⟩|⟨us,g,off,cap,cur,e,fr,F',_,rfl,_⟩) <;> rfl
 lt:=by
  rintro H v xs F (⟨a,cap,rfl,_,rfl⟩|⟨us,g,off,cap,cur,e,fr,F',h,rfl,hg,_,_,rfl⟩) b hb;cases hb;rcases ze.1 hb with rfl|hb;exact getElem?_lt hg;exact h.lt hE b hb
 stable:=by
  rintro H H' v xs F (⟨a,cap,rfl,h1,h2⟩|⟨us,g,off,cap,cur,e,fr,F',h,rfl,hg,hw,hml,rfl⟩) hb;exact .inl ⟨a,cap,rfl,h1,h2⟩;exact .inr ⟨us,g,off,cap,cur,e,fr,F',h.stable hE fun b hh=>hb b<|z3 _ hh,rfl,by rw[hb g (z0 ..)];exact hg,hw,hml,rfl⟩
theorem B3 (hE:CA E):CA (By E e) where
 cells:=by
  rintro H v xs F (⟨rfl,_⟩|⟨us,g,cap,cur,F',_,rfl,_⟩) <;> rfl
 one:=by
  rintro H v xs F (⟨rfl,_⟩|⟨us,g,cap,cur,F',_,rfl,_⟩) <;> rfl
 lt:=by
  rintro H v xs F (⟨rfl,_,rfl⟩|⟨us,g,cap,cur,F',h,rfl,hg,_,_,_,_,rfl⟩) b hb;cases hb;rcases ze.1 hb with rfl|hb;exact getElem?_lt hg;exact h.lt hE b hb
 stable:=by
  rintro H H' v xs F (⟨rfl,h1,h2⟩|⟨us,g,cap,cur,F',h,rfl,hg,r1,r2,r3,r4,rfl⟩) hb;exact .inl ⟨rfl,h1,h2⟩;exact .inr ⟨us,g,cap,cur,F',h.stable hE fun b hh=>hb b<|z3 _ hh,rfl,by rw[hb g (z0 ..)];exact hg,r1,r2,r3,r4,rfl⟩
theorem By.rd {E':BL α}(hi:∀ {H v x F},E H v x F→E' H v x F)(h:By E e H v xs F):B8 E' H v xs F:=by rcases h with⟨rfl,rfl,rfl⟩|⟨us,g,cap,cur,F',h,rfl,hg,r1,r2,r3,r4,rfl⟩;exact .inl ⟨none,0,rfl,rfl,rfl⟩;exact .inr ⟨us,g,0,cap,cur,e,(0,0),F',h.imp hi,rfl,hg,by simpa using r4,zO,rfl⟩
theorem B8.isSl (h:B8 E H v xs F):ES v xs.length:=by rcases h with⟨a,cap,rfl,rfl,_⟩|⟨us,g,off,cap,cur,e,fr,F',_,rfl,_⟩;exact⟨a,cap,rfl,fun _=>rfl⟩;exact⟨_,cap,rfl,fun h=>by cases h⟩
theorem He (g off n cap k:Nat):BJ (.slice (some ⟨g,off,none⟩) n cap) k 1=.pointer (some ⟨g,off+k,none⟩):=by unfold BJ Addr.add;simp only[Nat.mul_one];split;rename_i h;subst h;rfl;rfl
theorem B8.get (d:α){k:Nat}(h:B8 E H v xs F)(hk:k<xs.length):∃u F1,IJ H (BJ v k 1)=some u∧E H u (xs.getD k d) F1∧∀b∈F1,b∈F:=by rcases h with⟨a,cap,rfl,rfl,_⟩|⟨us,g,off,cap,cur,e,fr,F',h,rfl,hg,hw,_,rfl⟩;simp at hk;obtain⟨u,F1,hu,hx,hb⟩:=h.get d hk;refine⟨u,F1,?_,hx,fun b hh=>z3 _ (hb b hh)⟩;rw[He];simp only[IJ,Cv,hg];rw[← hw,List.getElem?_take,if_pos hk,List.getElem?_drop]at hu;simpa using hu
theorem B8.lenle (h:B8 E H v xs F):xs.length≤maxLen:=by rcases h with⟨a,cap,_,rfl,_⟩|⟨us,g,off,cap,cur,e,fr,F',_,_,_,_,h,_⟩;simp;exact h
theorem By.lenle (h:By E e H v xs F):xs.length≤maxLen:=by rcases h with⟨_,rfl,_⟩|⟨us,g,cap,cur,F',_,_,_,r1,r2,_⟩;simp;omega
end lists
structure AF (F:List Nat)(w w':World):Prop where
 os:w'.os=w.os
 tape:w'.tape=w.tape
 output:w'.output=w.output
 size:w.heap.size≤w'.heap.size
 block:∀k,k<w.heap.size→k∉F→w'.heap[k]? = w.heap[k]?
theorem AF.below {F:List Nat}{w0 w w':World}{B:Nat}(h:Below B w0 w)(c:AF F w w')(hF:∀b∈F,B≤b)(hB:B≤w.heap.size):Below B w0 w' :=
 h.trans ⟨c.os,c.tape,c.output,c.size,fun k hk=>c.block k zO fun hm=>by have:=hF k hm;omega⟩
theorem AI.drew {w w':World}(h:AI w w'):AI w w'.drew:=⟨h.os,h.tape,h.output,h.size,h.block⟩
theorem AI.of_drew {w w':World}(h:AI w.drew w'):AI w w':=⟨h.os,h.tape,h.output,h.size,h.block⟩
def Fr {α:Type}(E:BL α)(B U:Nat)(H:Array Obj)(v:Value)(x:α):Prop:=∃F,E H v x F∧F.Nodup∧∀b∈F,B≤b∧b<U
def Rd {α:Type}(E:BL α)(H:Array Obj)(v:Value)(x:α):Prop:=∃F,E H v x F
section
variable {α:Type} {E:BL α} {B U:Nat} {v:Value} {x:α} {w w':World}
theorem Fr.ext (hE:CA E)(h:Fr E B U w.heap v x)(k:AI w w'):Fr E B U w'.heap v x:=by obtain⟨F,h1,h2,h3⟩:=h;exact⟨F,hE.stable h1 fun b hb=>k.heap (hE.lt h1 b hb),h2,h3⟩
theorem Fr.up (hE:CA E){H:Array Obj}(h:Fr E B U H v x):Fr E B H.size H v x:=by obtain⟨F,h1,h2,h3⟩:=h;exact⟨F,h1,h2,fun b hb=>⟨(h3 b hb).1,hE.lt h1 b hb⟩⟩
theorem Fr.low {H:Array Obj}{B':Nat}(h:Fr E B U H v x)(hB:B'≤B):Fr E B' U H v x:=by obtain⟨F,h1,h2,h3⟩:=h;exact⟨F,h1,h2,fun b hb=>⟨A8 hB (h3 b hb).1,(h3 b hb).2⟩⟩
theorem Fr.chg (hE:CA E){F:List Nat}(h:Fr E B U w.heap v x)(c:AF F w w')(hF:∀b∈F,b<B∨U≤b):Fr E B U w'.heap v x:=by obtain⟨G,h1,h2,h3⟩:=h;refine⟨G,hE.stable h1 fun b hb=>c.block b (hE.lt h1 b hb) fun hm=>?_,h2,h3⟩;have:=h3 b hb;have:=hF b hm;omega
theorem Rd.ext (hE:CA E)(h:Rd E w.heap v x)(k:AI w w'):Rd E w'.heap v x:=by obtain⟨F,h1⟩:=h;exact⟨F,hE.stable h1 fun b hb=>k.heap (hE.lt h1 b hb)⟩
end
section
variable {α:Type} {E:BL α} {e:TypeId} {B U:Nat} {H:Array Obj} {v:Value} {xs:List α}
theorem Rd.lenle (h:Rd (B8 E) H v xs):xs.length≤9223372036854775807:=by obtain⟨F,h⟩:=h;have:=B8.lenle h;simp only[maxLen]at this;omega
theorem Rd.isSl (h:Rd (B8 E) H v xs):ES v xs.length:=by obtain⟨F,h⟩:=h;exact B8.isSl h
theorem Rd.get (d:α){k:Nat}(h:Rd (B8 E) H v xs)(hk:k<xs.length):∃u,IJ H (BJ v k 1)=some u∧Rd E H u (xs.getD k d):=by obtain⟨F,h⟩:=h;obtain⟨u,F1,h1,h2,_⟩:=B8.get d h hk;exact⟨u,h1,F1,h2⟩
theorem Rd.getI {xs:List Int}{k:Nat}(h:Rd (B8 rI) H v xs)(hk:k<xs.length):IJ H (BJ v k 1)=some (.int .i64 (xs.getD k 0))∧-9223372036854775808≤xs.getD k 0∧xs.getD k 0≤9223372036854775807:=by obtain⟨u,h1,F,h2,_,h3,h4⟩:=Rd.get (0:Int) h hk;rw[h1,h2];exact⟨rfl,h3,h4⟩
theorem Fr.rd {E':BL α}(hi:∀ {H v x F},E H v x F→E' H v x F)(h:Fr (By E e) B U H v xs):Rd (B8 E') H v xs:=by obtain⟨F,h,_⟩:=h;exact⟨F,h.rd hi⟩
theorem Fr.rd1 {xs:List Int}(h:Fr (By rI e) B U H v xs):Rd (B8 rI) H v xs:=h.rd id
theorem Fr.rd2 {e':TypeId}{xs:List (List Int)}(h:Fr (By (By rI e) e') B U H v xs):Rd (B8 (B8 rI)) H v xs:=h.rd fun h=>h.rd id
theorem Fr.isSl (h:Fr (By E e) B U H v xs):ES v xs.length:=by obtain⟨F,h,_⟩:=h;exact(h.rd id:B8 E H v xs F).isSl
end
theorem Ki {α:Type}{E:BL α}{e:TypeId}(B U:Nat)(H:Array Obj):Fr (By E e) B U H (.slice none 0 0) []:=⟨[],.inl ⟨rfl,rfl,rfl⟩,zk,fun c hc=>(by cases hc)⟩
theorem Rd.getU {H:Array Obj}{v:Value}{xs:List UInt8}{k:Nat}(h:Rd (B8 rU) H v xs)(hk:k<xs.length):IJ H (BJ v k 1)=some (.int .u8 ((xs.getD k 0).toNat:Int))∧0≤k:=by obtain⟨u,h1,F,h2,_⟩:=Rd.get (0:UInt8) h hk;rw[h1,h2];exact⟨rfl,Nat.zero_le _⟩
theorem B9 {a b:Int}(h:a=b):Ending.returned (.int .i64 a)=.returned (.int .i64 b):=by rw[h]
theorem AB {a b:Bool}(h:a=b):Ending.returned (.bool a)=.returned (.bool b):=by rw[h]
theorem Dr:CA (B8 rU):=IW aS
theorem g1:CA (B8 rI):=IW Ay
theorem g2:CA (B8 (B8 rI)):=IW g1
theorem g3:CA (B8 (B8 (B8 rI))):=IW g2
theorem o1 {e:TypeId}:CA (By rI e):=B3 Ay
theorem o2 {e e':TypeId}:CA (By (By rI e) e'):=B3 o1
theorem o3 {e e' e'':TypeId}:CA (By (By (By rI e) e') e''):=B3 o2
end
section
theorem BM (w:World)(o:Obj):AI w (w.alloc o):=(Below.refl _ _).alloc (A7 _) o
theorem Gz {α:Type}{E:BL α}(hE:CA E){e:TypeId}{w:World}{us:List Value}{xs:List α}{F:List Nat}{cur:Array Value}(h:els E w.heap us xs F)(hm:cur.size≤maxLen)
  (hc:cur.toList.take xs.length=us) (hl:xs.length≤cur.size) :
  By E e (w.alloc (.cells cur e)).heap (.slice (some ⟨w.heap.size,0,none⟩) xs.length cur.size) xs (w.heap.size::F):=by
 refine .inr ⟨us,w.heap.size,cur.size,cur,F,h.stable hE fun b hb=>?_,rfl,?_,hl,hm,rfl,hc,rfl⟩;exact Below.heap_alloc _ _ _<|h.lt hE b hb;show(w.heap.push _)[w.heap.size]? = _;simp
theorem HS {f:Nat→Value}(n:Nat):Array.map f (Array.range n)=((List.range n).map f).toArray:=by apply Array.ext';simp
section run
variable {P:Program} {w:World}
theorem Uq {t e:TypeId}{s b:Nat}{z:Value}(ht:P.underlying t=some (.slice e))(hi:TI P e s z b) :
  (Instr.buildSlice t 0 #[]).run P w=.ok (.slice (some ⟨w.heap.size,0,none⟩) 0 0) (w.alloc (.cells #[] e)):=by
 obtain⟨i,h1,h2,h3,h4⟩:=hi.get;simp[Instr.buildSlice,run_underlying ht,sizeOf,typeInfo,h1,Instr.fill,newRow,HS]
theorem Ur {t e:TypeId}{b:Nat}{z u:Value}(ht:P.underlying t=some (.slice e))(hi:TI P e 1 z b)(hu:u.cells=#[u])(hz:z.cells=#[z]) :
  (Instr.buildSlice t 1 #[(0,u)]).run P w=.ok (.slice (some ⟨w.heap.size,0,none⟩) 1 1) (w.alloc (.cells #[u] e)):=by
 obtain⟨i,h1,h2,h3,h4⟩:=hi.get;simp[Instr.buildSlice,run_underlying ht,sizeOf,typeInfo,zeroValue,h1,h2,h3,Instr.fill,newRow,hu,hz,HS,List.range_succ]
theorem aT {t e:TypeId}{b:Nat}{z u v:Value}(ht:P.underlying t=some (.slice e))(hi:TI P e 1 z b)(hu:u.cells=#[u])(hv:v.cells=#[v])(hz:z.cells=#[z]) :
  (Instr.buildSlice t 2 #[(0,u),(1,v)]).run P w=.ok (.slice (some ⟨w.heap.size,0,none⟩) 2 2) (w.alloc (.cells #[u,v] e)):=by
 obtain⟨i,h1,h2,h3,h4⟩:=hi.get;simp[Instr.buildSlice,run_underlying ht,sizeOf,typeInfo,zeroValue,h1,h2,h3,Instr.fill,newRow,hu,hv,hz,HS,List.range_succ]
end run
section append
variable {P:Program} {w:World} {α:Type} {E:BL α} {t ty e:TypeId} {b:Nat} {z:Value}
theorem Lh (hE:CA E) (ht:P.underlying t = some (.slice e)) (hi:TI P e 1 z b) (hz:z.cells = #[z]) {v:Value} {xs:List α} {F:List Nat} (hv:By E e w.heap v xs F) (hn:F.Nodup)
  {a:Value} {ys:List α} {G us:List Nat} (ha:B8 E w.heap a ys G) (hus:us = G.drop 1) (hbytes:(xs.length + ys.length) * b≤140737488355328) (hmx:xs.length + ys.length≤maxLen)
  (hdis:∀ c∈us,c∉F) (hnu:us.Nodup) :
  ∃ v' w' F',(Builtin.append_ #[t,t] ty #[v,a]).run P w = .ok v' w'∧By E e w'.heap v' (xs++ys) F'∧F'.Nodup∧(∀ c∈F',c∈F∨c∈us∨c = w.heap.size)∧AF (F.take 1) w w':=by
 obtain ⟨i,h1,h2,h3,h4⟩:=hi.get;subst h4;have hsmall:xs.length + ys.length≤9223372036854775807:=by simp only [maxLen] at hmx; omega
 rcases ha with ⟨a0,cap0,rfl,rfl,rfl⟩ | ⟨asq,g,off,cap,cur,e',fr,G',hels,rfl,hg,hw,_,rfl⟩;-- nothing is appended
 have hle:By E e w.heap v xs F:=hv;have hsl:∃ b0 c0,v = .slice b0 xs.length c0∧xs.length≤c0∧(b0 = none→xs.length = 0):=by
  rcases hv with ⟨rfl,rfl,_⟩ | ⟨_,g,cap,cur,F',_,rfl,_,hh,_⟩;exact ⟨none,0,rfl,by simp,fun _=>rfl⟩;exact ⟨_,cap,rfl,hh,fun h=>by cases h⟩
 obtain ⟨b0,c0,rfl,hc0,hb0⟩:=hsl;refine ⟨_,w,F,?_,by simpa using hle,hn,fun c hc=>.inl hc,⟨rfl,rfl,rfl,A7 _,fun _ _ _=>rfl⟩⟩;have hf:(Builtin.firstCells 1 0 (.slice a0 0 cap0)).run P w = .ok #[] w:=by
  cases a0 <;> simp [Builtin.firstCells,loadCells,loadCellsFrom]
 cases b0 with
 | none=>simp [Builtin.append_,run_underlying ht,sizeOf,typeInfo,h1,h3,Builtin.lenOf,hc0,hf]
 | some a1=>simp [Builtin.append_,run_underlying ht,sizeOf,typeInfo,h1,h3,Builtin.lenOf,hc0,hf,storeCells]
 simp only [List.drop_succ_cons,List.drop_zero] at hus;subst hus;have hasl:asq.length = ys.length:=hels.length;have hnews:∀ j u,asq[j]? = some u→w.cell? ((⟨g,off,none⟩:Addr).add j) = some u:=by
  intro j u hj;have e1:(⟨g,off,none⟩:Addr).add j = ⟨g,off + j,none⟩:=by
   unfold Addr.add;split;rename_i hh; subst hh; rfl;rfl
  rw [e1,BY];simp only [Cv,hg];rw [← hw,List.getElem?_take] at hj;split at hj;rw [List.getElem?_drop] at hj; simpa using hj;cases hj
 have h1c:∀ u∈asq,u.oneCell' = true:=hels.one hE;have hl1:asq.length = ys.length * i.size:=by rw [h3,hasl]; omega
 -- the new block
 have made:∀ (w1:World) (ous:List Value) (F0:List Nat) (rest:Nat),w1.heap = w.heap→w1.os = w.os→w1.tape = w.tape→w1.output = w.output→els E w.heap ous xs F0→(∀ c∈F0,c∈F)→F0.Nodup →
   (xs.length + ys.length + rest)≤maxLen→∀ (ow:List Nat),
   ∃ F',By E e (w1.alloc (.cells (ous.toArray++asq.toArray++Builtin.zeroCells z.cells rest) e)).heap (.slice (some ⟨w.heap.size,0,none⟩) (xs.length + ys.length) (xs.length + ys.length + rest)) (xs++ys) F'∧F'.Nodup ∧
    (∀ c∈F',c∈F∨c∈us∨c = w.heap.size)∧AF ow w (w1.alloc (.cells (ous.toArray++asq.toArray++Builtin.zeroCells z.cells rest) e)):=by
  intro w1 ous F0 rest hh ho htp hop hou hsub hnd hmax ow;have happ:=hou.append hels;have hzc:(Builtin.zeroCells z.cells rest).size = rest:=by simp [Builtin.zeroCells,hz]
  have hsz:(ous.toArray++asq.toArray++Builtin.zeroCells z.cells rest).size = xs.length + ys.length + rest:=by
   simp only [Array.size_append,List.size_toArray,hzc,hasl,hou.length]
  have hnew:=Gz (e:=e) (w:=w1) hE (us:=ous++asq) (xs:=xs++ys) (F:=F0++us) (cur:=ous.toArray++asq.toArray++Builtin.zeroCells z.cells rest)
   (by rw [hh]; exact happ) (by rw [hsz]; exact hmax) (by
    rw [Array.toList_append,Array.toList_append];rw [show (xs++ys).length = (ous++asq).length from by simp [hou.length,hasl]];exact List.take_left) (by rw [hsz,z4]; omega)
  rw [hh,hsz,z4] at hnew;refine ⟨_,hnew,?_,?_,?_⟩;rw [List.nodup_cons];refine ⟨fun hm=>?_,?_⟩;have:=happ.lt hE _ hm; omega;rw [List.nodup_append];refine ⟨hnd,hnu,?_⟩;rintro x hx y hy rfl;exact hdis x hy<|hsub x hx
  intro c hc;rcases ze.1 hc with rfl | hc;exact .inr<|.inr rfl;rcases zi.1 hc with hc | hc;exact .inl<|hsub c hc;exact .inr<|.inl hc;refine ⟨ho,htp,hop,?_,fun k hk _=>?_⟩;show w.heap.size≤(w1.heap.push _).size;rw [hh]; simp;have:=Below.heap_alloc w1 (.cells (ous.toArray++asq.toArray++Builtin.zeroCells z.cells rest) e) k (by rw [hh]; exact hk);rw [this,hh]
 rcases hv with ⟨rfl,rfl,rfl⟩ | ⟨ous,gv,capv,curv,F0,hels0,rfl,hgv,hle,hcm,hcs,htk,rfl⟩;-- nil
 by_cases hy:ys.length = 0;have hy0:ys = []:=List.eq_nil_of_length_eq_zero hy;subst hy0;have has0:asq = []:=List.eq_nil_of_length_eq_zero hasl;subst has0;rw [show us = [] from hels];refine ⟨.slice none 0 0,w,[],?_,.inl ⟨rfl,rfl,rfl⟩,zk,fun c hc=>(by cases hc),⟨rfl,rfl,rfl,A7 _,fun _ _ _=>rfl⟩⟩;simp [Builtin.append_,run_underlying ht,sizeOf,typeInfo,h1,Builtin.lenOf,Builtin.firstCells,loadCells,loadCellsFrom];have hr:=run_append_nil (P:=P) w t ty e i z ht h1 h2 ⟨g,off,none⟩ ys.length cap asq hl1 hnews zO (by simp at hsmall; omega) (by simp only [zb,Nat.zero_add] at hbytes; omega);have hge:=grownCap_ge w ys.length 0 e;have hgm:=grownCap_le_maxLen w ys.length 0 e (by simpa using hmx);obtain ⟨F',q1,q2,q3,q4⟩:=made w.drew [] [] (grownCap w ys.length 0 e - ys.length) rfl rfl rfl rfl rfl (fun c hc=>by cases hc) zk (by simp; omega) (List.take 1 []);refine ⟨_,_,F',hr,?_,q2,q3,?_⟩;have ea:(([]:List α).length + ys.length + (grownCap w ys.length 0 e - ys.length)) = grownCap w ys.length 0 e:=by simp; omega
 rw [ea] at q1;simpa using q1;simpa using q4;by_cases hroom:xs.length + ys.length≤capv;-- room
 have hr:=run_append_room (P:=P) w t ty e i ht h1 gv xs.length capv curv hgv ⟨g,off,none⟩ ys.length cap asq hl1 hnews h1c hroom (by rw [h3,hasl,hcs]; omega);rw [h3] at hr;refine ⟨_,_,gv :: (F0++us),hr,?_,?_,?_,?_⟩;have hgF:gv∉F0:=(List.nodup_cons.1 hn).1;have hgU:gv∉us:=fun hm=>hdis gv hm (z0 ..);refine .inr ⟨ous++asq,gv,capv,_,F0++us,?_,by rw [z4],setRow_heap w gv curv _ e _ hgv,by rw [z4]; exact hroom,hcm,?_,?_,rfl⟩;refine (hels0.append hels).stable hE fun c hc=>setRow_other w gv c _ fun hcg=>?_;subst hcg;rcases zi.1 hc with hc | hc;exact hgF hc;exact hgU hc;simp only [List.size_toArray,z4,List.length_take,List.length_drop,Array.length_toList];omega;rw [z4];simp only [Nat.mul_one];rw [htk,show xs.length + ys.length = (ous++asq).length from by simp [hels0.length,hasl]];exact List.take_left;rw [List.nodup_cons,List.nodup_append];have hn':=List.nodup_cons.1 hn;refine ⟨?_,hn'.2,hnu,?_⟩
 intro hm;rcases zi.1 hm with hm | hm;exact hn'.1 hm;exact hdis gv hm (z0 ..);rintro x hx y hy rfl;exact hdis x hy<|z3 _ hx
 intro c hc;rcases ze.1 hc with rfl | hc;exact .inl (z0 ..);rcases zi.1 hc with hc | hc;exact .inl<|z3 _ hc;exact .inr<|.inl hc;refine ⟨rfl,rfl,rfl,by simp,fun k _ hk=>setRow_other w gv k _ fun hh=>hk (by simp [hh])⟩;-- grown
 have holds:∀ j u,ous[j]? = some u→w.cell? ((⟨gv,0,none⟩:Addr).add j) = some u:=by
  intro j u hj;have e1:(⟨gv,0,none⟩:Addr).add j = ⟨gv,j,none⟩:=by
   unfold Addr.add;split;rename_i hh; subst hh; rfl;simp
  rw [e1,BY];simp only [Cv,hgv];rw [← htk,List.getElem?_take] at hj;split at hj;simpa using hj;cases hj
 have hr:=run_append_grow (P:=P) w t ty e i z ht h1 h2 ⟨gv,0,none⟩ xs.length capv ous (by rw [h3,hels0.length]; omega) holds ⟨g,off,none⟩ ys.length cap asq hl1 hnews zO zO<|growslice_fits zO hbytes;have hge:=grownCap_ge w (xs.length + ys.length) capv e;have hgm:=grownCap_le_maxLen w (xs.length + ys.length) capv e hmx;obtain ⟨F',q1,q2,q3,q4⟩:=made w.drew ous F0 (grownCap w (xs.length + ys.length) capv e - (xs.length + ys.length)) rfl rfl rfl rfl hels0 (fun c hc=>z3 _ hc) (List.nodup_cons.1 hn).2 zO (List.take 1 (gv :: F0));refine ⟨_,_,F',hr,?_,q2,q3,q4⟩;have ea:(xs.length + ys.length + (grownCap w (xs.length + ys.length) capv e - (xs.length + ys.length))) = grownCap w (xs.length + ys.length) capv e:=by omega
 rw [ea] at q1;exact q1
theorem Xw (ht:P.underlying t=some (.slice e))(hi:TI P e 1 z b)(hz:z.cells=#[z]){v:Value}{xs:List Int}{B U:Nat}(hv:Fr (By rI e) B U w.heap v xs)(hB:B≤w.heap.size)
  {a:Value} {ys:List Int} (ha:Rd (B8 rI) w.heap a ys) (hbytes:(xs.length+ys.length)*b≤140737488355328) (hmx:xs.length+ys.length≤maxLen) :
  ∃v' w' F,(Builtin.append_ #[t,t] ty #[v,a]).run P w=.ok v' w'∧Fr (By rI e) B w'.heap.size w'.heap v' (xs++ys)∧AF F w w'∧∀c∈F,B≤c∧c<U:=by
 obtain⟨F,h1,h2,h3⟩:=hv;obtain⟨G,hG⟩:=ha;have hGe:G.drop 1=[]:=by
  rcases hG with⟨_,_,_,_,rfl⟩|⟨us,g,off,cap,cur,e',fr,F',hels,_,_,_,_,rfl⟩;rfl;show F'=[];have:∀ {us:List Value} {xs:List Int} {F:List Nat},els rI w.heap us xs F→F=[]:=by
   intro us xs
   induction us generalizing xs with
   |nil=>intro F h;cases xs with
    |nil=>exact h
    |cons=>exact h.elim
   |cons u us ih =>
    intro F h;cases xs with
    |nil=>exact h.elim
    |cons x xs =>
     obtain⟨F1,F2,rfl,q1,q2⟩:=h;rw[q1.2.1,ih q2];rfl
  exact this hels
 obtain⟨v',w',F',r1,r2,r3,r4,r5⟩:=Lh (P:=P) (ty:=ty) Ay ht hi hz h1 h2 hG rfl hbytes hmx (by rw[hGe];intro c hc;cases hc) (by rw[hGe];exact zk);refine⟨v',w',F.take 1,r1,⟨F',r2,r3,fun c hc=>?_⟩,r5,fun c hc=>h3 c (zj hc)⟩;have hlt:=o1.lt r2 c hc;refine⟨?_,hlt⟩;rcases r4 c hc with hh|hh|hh;exact (h3 c hh).1;rw[hGe]at hh;cases hh;omega
theorem Xx (hE:CA E)(ht:P.underlying t=some (.slice e))(hi:TI P e 1 z b)(hz:z.cells=#[z]){v:Value}{xs:List α}{B U:Nat}(hv:Fr (By E e) B U w.heap v xs)(hB:B≤w.heap.size)
  {a:Value} {ys:List α} {B' U':Nat} (ha:Fr (By E e) B' U' w.heap a ys) (hU:U≤B') (hBB:B≤B') (hbytes:(xs.length+ys.length)*b≤140737488355328) (hmx:xs.length+ys.length≤maxLen) :
  ∃v' w' F,(Builtin.append_ #[t,t] ty #[v,a]).run P w=.ok v' w'∧Fr (By E e) B w'.heap.size w'.heap v' (xs++ys)∧AF F w w'∧∀c∈F,B≤c∧c<U:=by
 obtain⟨F,h1,h2,h3⟩:=hv;obtain⟨G,g1,g2,g3⟩:=ha;have gd:∀c∈G.drop 1,c∈G:=fun c hc=>List.mem_of_mem_drop hc;obtain⟨v',w',F',r1,r2,r3,r4,r5⟩:=Lh (P:=P) (ty:=ty) hE ht hi hz h1 h2 (g1.rd id) rfl hbytes hmx (fun c hc hF=>by have:=g3 c (gd c hc);have:=h3 c hF;omega)
  ((List.drop_sublist 1 G).nodup g2)
 refine⟨v',w',F.take 1,r1,⟨F',r2,r3,fun c hc=>?_⟩,r5,fun c hc=>h3 c (zj hc)⟩;have hlt:=(B3 hE).lt r2 c hc;refine⟨?_,hlt⟩;rcases r4 c hc with hh|hh|hh;exact (h3 c hh).1;have:=g3 c (gd c hh);omega;omega
end append
section ops
variable {P:Program} {ops:Array Oper} {w0:World} {Q:Act→World→Prop} {os:List Oper} {ks:List Nat} {N:Nat} {ρ:Nat→Value} {w:World}
 {d:Nat} {ty:TypeId} {pos:String} {aft:Array Edge} {g:Option (Nat×Bool)} {t e:TypeId} {z:Value} {b:Nat}
theorem Cj {α:Type}(E:BL α)(hE:CA E){s:Nat}(ht:P.underlying t=some (.slice e))(hi:TI P e s z b)(hu:Up ops N ρ ⟨some d,.buildSlice t 0 #[],ty,pos,aft,g⟩)
  (h:∀v w1,AI w w1→w1.heap.size=w.heap.size+1→Fr (By E e) w.heap.size w1.heap.size w1.heap v ([]:List α)→LW P ops w0 Q os ks (mk N (Ch ρ d v)) w1) :
  LW P ops w0 Q (⟨some d,.buildSlice t 0 #[],ty,pos,aft,g⟩::os) (3::ks) (mk N ρ) w:=by
 have hrun:(execOp (Bk N ρ) ⟨some d,.buildSlice t 0 #[],ty,pos,aft,g⟩).run P w=.ok (.value (.slice (some ⟨w.heap.size,0,none⟩) 0 0)) (w.alloc (.cells #[] e)):=by
  simp only[execOp,zc,zh,Sem.run_bind,Uq ht hi,Result.andThen_ok,Sem.run_pure]
 refine II rfl hu _ _ hrun (BM _ _)<|h _ _ (BM _ _) (by simp) ?_;refine⟨_,Gz (e:=e) (w:=w) hE (us:=[]) (xs:=([]:List α)) (F:=[]) (cur:=#[]) rfl (by simp) rfl (by simp),by simp,fun c hc=>?_⟩;simp at hc;subst hc;simp
theorem BP {α:Type}{E:BL α}(hE:CA E){x:Operand}{u:Value}{y:α}{B U:Nat}(ht:P.underlying t=some (.slice e))(hi:TI P e 1 z b)(hz:z.cells=#[z])(hx:Bk N ρ x=u)(hy:Fr E B U w.heap u y)(hB:B≤w.heap.size)
  (hu:Up ops N ρ ⟨some d,.buildSlice t 1 #[(0,x)],ty,pos,aft,g⟩)
  (h:∀v w1,AI w w1→w1.heap.size=w.heap.size+1→Fr (By E e) B w1.heap.size w1.heap v [y]→LW P ops w0 Q os ks (mk N (Ch ρ d v)) w1) :
  LW P ops w0 Q (⟨some d,.buildSlice t 1 #[(0,x)],ty,pos,aft,g⟩::os) (3::ks) (mk N ρ) w:=by
 obtain⟨F,h1,h2,h3⟩:=hy;have hr:=Ur (P:=P) (w:=w) ht hi (hE.cells h1) hz;have hrun:(execOp (Bk N ρ) ⟨some d,.buildSlice t 1 #[(0,x)],ty,pos,aft,g⟩).run P w=.ok (.value (.slice (some ⟨w.heap.size,0,none⟩) 1 1)) (w.alloc (.cells #[u] e)):=by
  simp only[execOp,zc,zf,zh,Sem.run_bind,hx,hr,Result.andThen_ok,Sem.run_pure]
 refine II rfl hu _ _ hrun (BM _ _)<|h _ _ (BM _ _) (by simp) ?_;have hn:=Gz (e:=e) (w:=w) hE (us:=[u]) (xs:=[y]) (F:=F++[]) (cur:=#[u]) ⟨F,[],rfl,h1,rfl⟩ (by simp[maxLen]) rfl (by simp);refine⟨_,hn,?_,fun c hc=>?_⟩;rw[List.append_nil,List.nodup_cons];exact⟨fun hm=>by have:=hE.lt h1 _ hm;omega,h2⟩;have hlt:=(B3 hE).lt hn c hc;refine⟨?_,hlt⟩;rcases ze.1 hc with rfl|hc;exact hB;exact (h3 c (by simpa using hc)).1
theorem K4 (B U:Nat)(H:Array Obj)(x:Int)(h:-9223372036854775808≤x∧x≤9223372036854775807):Fr rI B U H (.int .i64 x) x:=⟨[],⟨rfl,rfl,h.1,h.2⟩,zk,fun c hc=>by cases hc⟩
theorem Gi {x y:Operand}{n:Nat}{c:Int}(ht:P.underlying t=some (.slice e))(hi:TI P e 1 (.int .i64 0) 8)(hx:Bk N ρ x=.int .i64 c)(hy:Bk N ρ y=.int .i64 c)(hc:c=(n:Int))(hn:n≤35184372088832)
  (hu:Up ops N ρ ⟨some d,.makeSlice t x y,ty,pos,aft,g⟩)
  (h:∀v w1,AI w w1→w1.heap.size=w.heap.size+1→Fr (By rI e) w.heap.size w1.heap.size w1.heap v (List.replicate n 0)→LW P ops w0 Q os ks (mk N (Ch ρ d v)) w1) :
  LW P ops w0 Q (⟨some d,.makeSlice t x y,ty,pos,aft,g⟩::os) (3::ks) (mk N ρ) w:=by
 subst hc;obtain⟨i,h1,h2,h3,h4⟩:=hi.get;have hr:=run_make (P:=P) w t e i _ ht h1 h2 .i64 .i64 n n zO zO (by rw[h4];omega) zO;have hrun:(execOp (Bk N ρ) ⟨some d,.makeSlice t x y,ty,pos,aft,g⟩).run P w=.ok (.value (.slice (some ⟨w.heap.size,0,none⟩) n n)) (w.alloc (.cells (madeCells (Value.int .i64 0).cells ((n:Int).toNat*i.size)) e)):=by
  simp only[execOp,Sem.run_bind,hx,hy,hr,Result.andThen_ok,Sem.run_pure,Int.toNat_natCast]
 refine II rfl hu _ _ hrun (BM _ _)<|h _ _ (BM _ _) (by simp) ?_;have hels:∀n,els rI w.heap (List.replicate n (.int .i64 0)) (List.replicate n (0:Int)) []:=by
  intro n
  induction n with
  |zero=>rfl
  |succ n ih=>exact⟨[],[],rfl,⟨rfl,rfl,zO,zO⟩,ih⟩
 have hmc:(madeCells (Value.int .i64 0).cells ((n:Int).toNat*i.size)).toList=List.replicate n (.int .i64 0):=by
  rw[h3];simp only[Int.toNat_natCast,Nat.mul_one,madeCells,Value.cells];apply List.ext_getElem;simp
  intro j q1 q2;simp[Nat.mod_one]
 have hcs:(madeCells (Value.int .i64 0).cells ((n:Int).toNat*i.size)).size=n:=by rw[size_madeCells,h3];simp
 have hn':=Gz (e:=e) (w:=w) Ay (us:=List.replicate n (.int .i64 0)) (xs:=List.replicate n (0:Int)) (F:=[]) (cur:=madeCells (Value.int .i64 0).cells ((n:Int).toNat*i.size)) (hels n) (by rw[hcs];simp only[maxLen];omega)
  (by rw[hmc,z5];exact za (by simp)) (by rw[hcs];simp)
 rw[hcs]at hn';simp only[z5]at hn';refine⟨_,by simpa using hn',by simp,fun c hc=>?_⟩;simp at hc;subst hc;simp
theorem DD {x y:Operand}{v a:Value}{xs ys:List Int}{B U:Nat}(ht:P.underlying t=some (.slice e))(hi:TI P e 1 z b)(hz:z.cells=#[z])(hx:Bk N ρ x=v)(hy:Bk N ρ y=a)(hv:Fr (By rI e) B U w.heap v xs)(hB:B≤w.heap.size)
  (ha:Rd (B8 rI) w.heap a ys) (hbytes:(xs.length+ys.length)*b≤140737488355328) (hmx:xs.length+ys.length≤maxLen) (hu:Up ops N ρ ⟨some d,.call ⟨.builtin .append,#[x,y],#[t,t]⟩,ty,pos,aft,g⟩)
  (h:∀v1 w1 F,AF F w w1→(∀c∈F,B≤c∧c<U)→Fr (By rI e) B w1.heap.size w1.heap v1 (xs++ys)→LW P ops w0 Q os ks (mk N (Ch ρ d v1)) w1) :
  LW P ops w0 Q (⟨some d,.call ⟨.builtin .append,#[x,y],#[t,t]⟩,ty,pos,aft,g⟩::os) (4::ks) (mk N ρ) w:=by
 obtain⟨v1,w1,F,r1,r2,r3,r4⟩:=Xw (P:=P) (ty:=ty) ht hi hz hv hB ha hbytes hmx;exact IV rfl hu v1 w1 (by simp only[execOp,resolve,invoke,builtin,zc,zf,zh,Sem.run_bind,Sem.run_pure,Result.andThen_ok,hx,hy,r1])<|h v1 w1 F r3 r4 r2
theorem IX {α:Type}{E:BL α}(hE:CA E){x y:Operand}{v a:Value}{xs ys:List α}{B U B' U':Nat}(ht:P.underlying t=some (.slice e))(hi:TI P e 1 z b)(hz:z.cells=#[z])(hx:Bk N ρ x=v)(hy:Bk N ρ y=a)(hv:Fr (By E e) B U w.heap v xs)(hB:B≤w.heap.size)
  (ha:Fr (By E e) B' U' w.heap a ys) (hU:U≤B') (hBB:B≤B') (hbytes:(xs.length+ys.length)*b≤140737488355328) (hmx:xs.length+ys.length≤maxLen) (hu:Up ops N ρ ⟨some d,.call ⟨.builtin .append,#[x,y],#[t,t]⟩,ty,pos,aft,g⟩)
  (h:∀v1 w1 F,AF F w w1→(∀c∈F,B≤c∧c<U)→Fr (By E e) B w1.heap.size w1.heap v1 (xs++ys)→LW P ops w0 Q os ks (mk N (Ch ρ d v1)) w1) :
  LW P ops w0 Q (⟨some d,.call ⟨.builtin .append,#[x,y],#[t,t]⟩,ty,pos,aft,g⟩::os) (4::ks) (mk N ρ) w:=by
 obtain⟨v1,w1,F,r1,r2,r3,r4⟩:=Xx (P:=P) (ty:=ty) hE ht hi hz hv hB ha hU hBB hbytes hmx;exact IV rfl hu v1 w1 (by simp only[execOp,resolve,invoke,builtin,zc,zf,zh,Sem.run_bind,Sem.run_pure,Result.andThen_ok,hx,hy,r1])<|h v1 w1 F r3 r4 r2
theorem IY {st:TypeId}{x y:Operand}{v:Value}{n:Int}{xs:List Int}{B U j:Nat}(hst:(P.info? st).map (·.size)=some 1)(hx:Bk N ρ x=BJ v j 1)(hy:Bk N ρ y=.int .i64 n)(hn:-9223372036854775808≤n∧n≤9223372036854775807)
  (hv:Fr (By rI e) B U w.heap v xs) (hj:j<xs.length) (hu:Up ops N ρ ⟨none,.store st x y,ty,pos,aft,g⟩)
  (h:∀w1 F,AF F w w1→w1.heap.size=w.heap.size→(∀c∈F,B≤c∧c<U)→Fr (By rI e) B U w1.heap v (xs.set j n)→LW P ops w0 Q os ks (mk N ρ) w1) :
  LW P ops w0 Q (⟨none,.store st x y,ty,pos,aft,g⟩::os) (4::ks) (mk N ρ) w:=by
 obtain⟨F,h1,h2,h3⟩:=hv;rcases h1 with⟨rfl,rfl,rfl⟩|⟨us,gb,cap,cur,F',hels,rfl,hg,r1,r2,r3,r4,rfl⟩;simp at hj;obtain⟨i,hi1,hi2⟩:=Option.map_eq_some_iff.1 hst;rw[He]at hx;have hsz:j<cur.size:=by omega
 have hcell:w.cell? ⟨gb,j,none⟩=some cur[j]:=by
  rw[BY];simp[Cv,hg,hsz]
 have hfz:w.frozen? ⟨gb,j,none⟩=false:=by
  simp only[World.frozen?,hg];simp
 have hrun:(Instr.storeAt st (.pointer (some ⟨gb,0+j,none⟩)) (.int .i64 n)).run P w=.ok () (w.setCell ⟨gb,j,none⟩ (.int .i64 n)):=by
  have hadd:(⟨gb,j,none⟩:Addr).add 0=⟨gb,j,none⟩:=rfl;rw[Nat.zero_add];simp only[Instr.storeAt,Instr.sureAddr,Sem.run_bind,Sem.run_pure,Result.andThen_ok,storeVar,sizeOf,typeInfo,run_program,hi1,hi2,Value.cells];have hst1:(store ⟨gb,j,none⟩ (.int .i64 n)).run P w=.ok () (w.setCell ⟨gb,j,none⟩ (.int .i64 n)):=by
   rw[run_store P w _ _ _ rfl,hcell];simp only[hfz];rfl
  simp[storeCells,hadd,hst1]
 have hrun2:(execOp (Bk N ρ) ⟨none,.store st x y,ty,pos,aft,g⟩).run P w=.ok .skip (w.setCell ⟨gb,j,none⟩ (.int .i64 n)):=by
  simp only[execOp,hx,hy,Sem.run_bind,hrun,Result.andThen_ok,Sem.run_pure]
 refine Q4 rfl hu _ hrun2<|h _ [gb] ?_ (by simp[World.setCell]) (fun c hc=>by simp at hc;subst hc;exact h3 _ (z0 ..)) ?_;refine⟨rfl,rfl,rfl,by simp[World.setCell],fun k hk hne=>Below.heap_setCell _ _ _ _ (by simpa using hne)⟩;have hheap:(w.setCell ⟨gb,j,none⟩ (.int .i64 n)).heap[gb]? = some (.cells (cur.setIfInBounds j (.int .i64 n)) e (0,0)):=by
  simp only[World.setCell,Array.getElem?_modify];simp[hg]
 have hset:∀ {us:List Value} {xs:List Int} {F:List Nat} {k:Nat} {H:Array Obj},els rI H us xs F→k<xs.length→els rI H (us.set k (.int .i64 n)) (xs.set k n) F:=by
  intro us
  induction us with
  |nil=>intro xs F k H hh hk;cases xs with
   |nil=>simp at hk
   |cons=>exact hh.elim
  |cons u us ih =>
   intro xs F k H hh hk;cases xs with
   |nil=>exact hh.elim
   |cons x xs =>
    obtain⟨F1,F2,rfl,q1,q2⟩:=hh;cases k with
    |zero=>exact⟨F1,F2,rfl,⟨rfl,q1.2.1,hn.1,hn.2⟩,q2⟩
    |succ k=>exact⟨F1,F2,rfl,q1,ih q2 (by simpa using hk)⟩
 refine⟨gb::F',.inr ⟨us.set j (.int .i64 n),gb,cap,_,F',?_,by simp,hheap,by simpa using r1,r2,by simpa using r3,?_,rfl⟩,h2,h3⟩;exact(hset hels hj).stable Ay fun c hc=>Below.heap_setCell _ _ _ _ fun he=>by
  simp only at he;subst he;exact (List.nodup_cons.1 h2).1 hc
 rw[z6,Array.toList_setIfInBounds,List.take_set,r4]
end ops
end
section
section els
variable {α:Type} {E:BL α} {H:Array Obj}
theorem els.at_:∀ {us:List Value}{xs:List α}{F:List Nat}{k:Nat}(d:α),els E H us xs F→k<xs.length→F.Nodup →
  ∃u G,us[k]? = some u∧E H u (xs.getD k d) G∧G.Nodup∧(∀b∈G,b∈F) ∧
   (∀ {E':BL α} {H':Array Obj} {y:α},(∀ {v x C},E H v x C→(∀b∈C,b∈F∧b∉G)→E' H' v x C)→E' H' u y G→els E' H' us (xs.set k y) F)
 |u::us,x::xs,_,0,d,⟨F1,F2,rfl,h1,h2⟩,_,hn=>by
  have hn':=List.nodup_append.1 hn
  refine⟨u,F1,rfl,h1,hn'.1,fun b hb=>z8 _ hb,fun {E' H' y} hE hu=>⟨F1,F2,rfl,hu,?_⟩⟩
  have key:∀ {us:List Value} {xs:List α} {F:List Nat},els E H us xs F→(∀b∈F,b∈F2)→els E' H' us xs F:=by
   intro us
   induction us with
   |nil=>intro xs F h _;cases xs with
    |nil=>exact h
    |cons=>exact h.elim
   |cons u us ih =>
    intro xs F h hs;cases xs with
    |nil=>exact h.elim
    |cons x xs =>
     obtain⟨A,C,rfl,q1,q2⟩:=h;exact⟨A,C,rfl,hE q1 fun b hb=>⟨z1 _ (hs b (z8 _ hb)),fun hc=>hn'.2.2 b hc b (hs b (z8 _ hb)) rfl⟩,ih q2 fun b hb=>hs b (z1 _ hb)⟩
  exact key h2 fun b hb=>hb
 |u::us,x::xs,_,k+1,d,⟨F1,F2,rfl,h1,h2⟩,hk,hn=>by
  have hn':=List.nodup_append.1 hn;obtain⟨u',G,hu,hx,hg,hb,hc⟩:=els.at_ d h2 (by simpa using hk) hn'.2.1;refine⟨u',G,by simpa using hu,by simpa using hx,hg,fun b hh=>z1 _ (hb b hh),fun hE hy=>⟨F1,F2,rfl,hE h1 fun b hb'=>⟨z8 _ hb',fun hc'=>hn'.2.2 b hb' b (hb b hc') rfl⟩,?_⟩⟩;exact hc (fun q hs=>hE q fun b hb'=>⟨z1 _ (hs b hb').1,(hs b hb').2⟩) hy
 |[],[],_,_,_,_,hk,_=>by simp at hk
 |[],_::_,_,_,_,h,_,_=>h.elim
 |_::_,[],_,_,_,h,_,_=>h.elim
theorem els.set:∀ {us:List Value}{xs:List α}{F G:List Nat}{k:Nat}{u:Value}{y:α},els E H us xs F→k<xs.length→F.Nodup→E H u y G→G.Nodup→(∀b∈G,b∉F) →
  ∃F',els E H (us.set k u) (xs.set k y) F'∧F'.Nodup∧∀b∈F',b∈F∨b∈G
 |u0::us,x::xs,_,G,0,u,y,⟨F1,F2,rfl,h1,h2⟩,_,hn,hy,hg,hd=>by
  have hn':=List.nodup_append.1 hn
  refine⟨G++F2,⟨G,F2,rfl,hy,h2⟩,List.nodup_append.2 ⟨hg,hn'.2.1,?_⟩,fun b hb=>(zi.1 hb).elim .inr fun h=>.inl (z1 _ h)⟩
  rintro a ha b hb rfl
  exact hd a ha<|z1 _ hb
 |u0::us,x::xs,_,G,k+1,u,y,⟨F1,F2,rfl,h1,h2⟩,hk,hn,hy,hg,hd=>by
  have hn':=List.nodup_append.1 hn
  obtain⟨F',q1,q2,q3⟩:=els.set h2 (by simpa using hk) hn'.2.1 hy hg fun b hb hc=>hd b hb (z1 _ hc)
  refine⟨F1++F',⟨F1,F',rfl,h1,q1⟩,List.nodup_append.2 ⟨hn'.1,q2,?_⟩,fun b hb=>?_⟩
  rintro a ha b hb rfl
  rcases q3 a hb with hh|hh
  exact hn'.2.2 a ha a hh rfl
  exact hd a hh<|z8 _ ha
  rcases zi.1 hb with hh|hh
  exact .inl<|z8 _ hh
  rcases q3 b hh with h'|h'
  exact .inl<|z1 _ h'
  exact .inr h'
 |[],[],_,_,_,_,_,_,hk,_,_,_,_=>by simp at hk
 |[],_::_,_,_,_,_,_,h,_,_,_,_,_=>h.elim
 |_::_,[],_,_,_,_,_,h,_,_,_,_,_=>h.elim
end els
def rV:BL Value:=fun _ v x F=>v=x∧F=[]∧v.cells=#[v]∧v.oneCell'=true
theorem BQ:CA rV:=⟨fun h=>h.2.2.1,fun h=>h.2.2.2,fun h b hb=>(by rw[h.2.1]at hb;cases hb),fun h _=>h⟩
theorem Fr.row {α:Type}{E:BL α}{e:TypeId}(hE:CA E){B U:Nat}{w:World}{v:Value}{xs:List α}(d:α)(h:Fr (By E e) B U w.heap v xs){r:Nat}(hr:r<xs.length) :
  ∃u G,IJ w.heap (BJ v r 1)=some u∧E w.heap u (xs.getD r d) G∧G.Nodup∧(∀b∈G,B≤b∧b<U) ∧
   ∀ {w':World} {y:α},AF G w w'→E w'.heap u y G→Fr (By E e) B U w'.heap v (xs.set r y):=by
 obtain⟨F,h1,h2,h3⟩:=h;rcases h1 with⟨rfl,rfl,rfl⟩|⟨us,g,cap,cur,F',hels,rfl,hg,r1,r2,r3,r4,rfl⟩;simp at hr;have hn:=List.nodup_cons.1 h2;obtain⟨u,G,hu,hx,hgn,hsub,hput⟩:=hels.at_ d hr hn.2;refine⟨u,G,?_,hx,hgn,fun b hb=>h3 b (z3 _ (hsub b hb)),?_⟩;rw[He];simp only[IJ,Cv,hg,Nat.zero_add];rw[← r4,List.getElem?_take,if_pos hr]at hu;simpa using hu
 intro w' y hc hy;refine⟨g::F',.inr ⟨us,g,cap,cur,F',?_,by simp,?_,by simpa using r1,r2,r3,by simpa using r4,rfl⟩,h2,h3⟩;exact hput (fun q hs=>hE.stable q fun b hb=>hc.block b (hels.lt hE b (hs b hb).1) (hs b hb).2) hy;rw[hc.block g (getElem?_lt hg) fun hm=>hn.1 (hsub g hm)];exact hg
section run
variable {P:Program} {w:World}
theorem Kw {st:TypeId}(hst:(P.info? st).map (·.size)=some 1){g j:Nat}{cur:Array Value}{e:TypeId}(hg:w.heap[g]? = some (.cells cur e (0,0)))(hj:j<cur.size){u:Value}(hc:u.cells=#[u])(h1:u.oneCell'=true) :
  (Instr.storeAt st (.pointer (some ⟨g,j,none⟩)) u).run P w=.ok () (w.setCell ⟨g,j,none⟩ u):=by
 obtain⟨i,hi1,hi2⟩:=Option.map_eq_some_iff.1 hst;have hcell:w.cell? ⟨g,j,none⟩=some cur[j]:=by
  rw[BY];simp[Cv,hg,hj]
 have hfz:w.frozen? ⟨g,j,none⟩=false:=by
  simp only[World.frozen?,hg];simp
 have hadd:(⟨g,j,none⟩:Addr).add 0=⟨g,j,none⟩:=rfl;have hst1:(store ⟨g,j,none⟩ u).run P w=.ok () (w.setCell ⟨g,j,none⟩ u):=by
  rw[run_store P w _ _ _ h1,hcell];simp only[hfz];rfl
 simp only[Instr.storeAt,Instr.sureAddr,Sem.run_bind,Sem.run_pure,Result.andThen_ok,storeVar,sizeOf,typeInfo,run_program,hi1,hi2,hc];simp[storeCells,hadd,hst1]
theorem Q7 (w:World)(g j:Nat)(u:Value):AF [g] w (w.setCell ⟨g,j,none⟩ u) :=
 ⟨rfl,rfl,rfl,by simp[World.setCell],fun k hk hne=>Below.heap_setCell _ _ _ _ (by simpa using hne)⟩
theorem Nt {w:World}{g j:Nat}{u:Value}{cur:Array Value}{e:TypeId}(hg:w.heap[g]? = some (.cells cur e (0,0))):(w.setCell ⟨g,j,none⟩ u).heap[g]? = some (.cells (cur.setIfInBounds j u) e (0,0)):=by simp only[World.setCell,Array.getElem?_modify];simp[hg]
theorem Ut {α:Type}{E:BL α}(hE:CA E){st e:TypeId}(hst:(P.info? st).map (·.size)=some 1){v:Value}{xs:List α}{F:List Nat}(hv:By E e w.heap v xs F)(hn:F.Nodup){j:Nat}(hj:j<xs.length)
  {u:Value} {y:α} {G:List Nat} (hy:E w.heap u y G) (hg:G.Nodup) (hd:∀b∈G,b∉F) :
  ∃w' F',(Instr.storeAt st (BJ v j 1) u).run P w=.ok () w'∧By E e w'.heap v (xs.set j y) F'∧F'.Nodup∧(∀b∈F',b∈F∨b∈G)∧AF (F.take 1) w w'∧w'.heap.size=w.heap.size:=by
 rcases hv with⟨rfl,rfl,rfl⟩|⟨us,g,cap,cur,F0,hels,rfl,hgc,r1,r2,r3,r4,rfl⟩;simp at hj;have hn':=List.nodup_cons.1 hn;obtain⟨F',q1,q2,q3⟩:=hels.set hj hn'.2 hy hg fun b hb hc=>hd b hb (z3 _ hc);have hgF':g∉F':=fun hm=>(q3 g hm).elim hn'.1 fun h=>hd g h (z0 ..);rw[He,Nat.zero_add];refine⟨_,g::F',Kw hst hgc zO (hE.cells hy) (hE.one hy),.inr ⟨us.set j u,g,cap,_,F',?_,by simp,Nt hgc,by simpa using r1,r2,by simpa using r3,?_,rfl⟩,List.nodup_cons.2 ⟨hgF',q2⟩,fun b hb=>?_,Q7 _ _ _ _,by simp[World.setCell]⟩;exact q1.stable hE fun c hc=>Below.heap_setCell _ _ _ _ fun he=>by
  simp only at he;subst he;exact hgF' hc
 rw[z6,Array.toList_setIfInBounds,List.take_set,r4];rcases ze.1 hb with rfl|hb;exact .inl (z0 ..);exact (q3 b hb).elim (fun h=>.inl<|z3 _ h) .inr
end run
section opn
variable {α:Type} {E:BL α} {e:TypeId} {B U:Nat} {v:Value}
theorem Nu {H:Array Obj}:∀ {us:List Value},(∀u∈us,u.cells=#[u]∧u.oneCell'=true)→els rV H us us []
 |[],_=>rfl
 |u::_,h=>⟨[],[],rfl,⟨rfl,rfl,h u (z0 ..)⟩,Nu fun x hx=>h x (z3 _ hx)⟩
theorem els.cells1 (hE:CA E){H:Array Obj}:∀ {us:List Value}{xs:List α}{F:List Nat},els E H us xs F→∀u∈us,u.cells=#[u]∧u.oneCell'=true
 |[],[],_,_,u,hu=>by cases hu
 |_::_,_::_,_,⟨F1,F2,rfl,h1,h2⟩,v,hv=>(ze.1 hv).elim (fun e=>e ▸ ⟨hE.cells h1,hE.one h1⟩) (els.cells1 hE h2 v)
 |[],_::_,_,h,_,_=>h.elim
 |_::_,[],_,h,_,_=>h.elim
end opn
theorem BF {v:Value}{n:Nat}(h:ES v n):v.cells=#[v]∧v.oneCell'=true:=by obtain⟨a,c,rfl,_⟩:=h;exact⟨rfl,rfl⟩
section ops
variable {P:Program} {ops:Array Oper} {w0:World} {Q:Act→World→Prop} {os:List Oper} {ks:List Nat} {N:Nat} {ρ:Nat→Value} {w:World}
 {d:Nat} {ty:TypeId} {pos:String} {aft:Array Edge} {g:Option (Nat×Bool)} {t e:TypeId} {z:Value} {b:Nat}
theorem EI {st:TypeId}{x y:Operand}{p u:Value}{w1:World}(hx:Bk N ρ x=p)(hy:Bk N ρ y=u)(hr:(Instr.storeAt st p u).run P w=.ok () w1) :
  (execOp (Bk N ρ) ⟨none,.store st x y,ty,pos,aft,g⟩).run P w=.ok .skip w1:=by
 simp only[execOp,hx,hy,Sem.run_bind,hr,Result.andThen_ok,Sem.run_pure]
theorem MZ {α:Type}(E:BL (List α))(hE:CA E)(hnil:∀H,E H (.slice none 0 0) [] []){x y:Operand}{n:Nat}{c:Int}(ht:P.underlying t=some (.slice e))(hi:TI P e 1 (.slice none 0 0) 24)(hx:Bk N ρ x=.int .i64 c)(hy:Bk N ρ y=.int .i64 c)(hc:c=(n:Int))(hn:n≤8796093022208)
  (hu:Up ops N ρ ⟨some d,.makeSlice t x y,ty,pos,aft,g⟩)
  (h:∀v w1,AI w w1→w1.heap.size=w.heap.size+1→Fr (By E e) w.heap.size w1.heap.size w1.heap v (List.replicate n [])→LW P ops w0 Q os ks (mk N (Ch ρ d v)) w1) :
  LW P ops w0 Q (⟨some d,.makeSlice t x y,ty,pos,aft,g⟩::os) (3::ks) (mk N ρ) w:=by
 subst hc;obtain⟨i,h1,h2,h3,h4⟩:=hi.get;have hr:=run_make (P:=P) w t e i _ ht h1 h2 .i64 .i64 n n zO zO (by rw[h4];omega) zO;have hrun:(execOp (Bk N ρ) ⟨some d,.makeSlice t x y,ty,pos,aft,g⟩).run P w=.ok (.value (.slice (some ⟨w.heap.size,0,none⟩) n n)) (w.alloc (.cells (madeCells (Value.slice none 0 0).cells ((n:Int).toNat*i.size)) e)):=by
  simp only[execOp,Sem.run_bind,hx,hy,hr,Result.andThen_ok,Sem.run_pure,Int.toNat_natCast]
 refine II rfl hu _ _ hrun (BM _ _)<|h _ _ (BM _ _) (by simp) ?_;have hels:∀n,els E w.heap (List.replicate n (.slice none 0 0)) (List.replicate n []) []:=by
  intro n
  induction n with
  |zero=>rfl
  |succ n ih=>exact⟨[],[],rfl,hnil _,ih⟩
 have hmc:(madeCells (Value.slice none 0 0).cells ((n:Int).toNat*i.size)).toList=List.replicate n (.slice none 0 0):=by
  rw[h3];simp only[Int.toNat_natCast,Nat.mul_one,madeCells,Value.cells];apply List.ext_getElem;simp
  intro j q1 q2;simp[Nat.mod_one]
 have hcs:(madeCells (Value.slice none 0 0).cells ((n:Int).toNat*i.size)).size=n:=by rw[size_madeCells,h3];simp
 have hn':=Gz (e:=e) (w:=w) hE (us:=List.replicate n (.slice none 0 0)) (xs:=List.replicate n ([]:List α)) (F:=[]) (cur:=madeCells (Value.slice none 0 0).cells ((n:Int).toNat*i.size)) (hels n) (by rw[hcs];simp only[maxLen];omega)
  (by rw[hmc,z5];exact za (by simp)) (by rw[hcs];simp)
 rw[hcs]at hn';simp only[z5]at hn';refine⟨_,by simpa using hn',by simp,fun c hc=>?_⟩;simp at hc;subst hc;simp
theorem AG {x:Operand} {xs:Array Operand} {ats:Array TypeId} (f:FuncId) (first cap:List Value) (args:List Value)
  (hx:Bk N ρ x = .func (.func f) first.toArray cap.toArray) (hxs:first++(xs.toList.map (Bk N ρ))++cap = args) (hf:((P.funcs[f]?).map fun fn=>(fn.name != "runtime.NumGoroutine") && fn.body.isSome) = some true)
  (hu:Up ops N ρ ⟨some d,.call ⟨.value x,xs,ats⟩,ty,pos,aft,g⟩) {R:Ending→World→Prop} (hc:Calls P f args.toArray w R)
  (h:∀ e w1,R e w1→∃ v,e = .returned v∧LW P ops w0 Q os ks (mk N (Ch ρ d v)) w1) :
  LW P ops w0 Q (⟨some d,.call ⟨.value x,xs,ats⟩,ty,pos,aft,g⟩ :: os) (4 :: ks) (mk N ρ) w:=by
 simp only [LW];rw [if_pos hu];unfold Cb;rw [if_neg (by decide),if_neg (by decide)];unfold Oper.wp;rw [DJ];have hrun:(execOp (Bk N ρ) ⟨some d,.call ⟨.value x,xs,ats⟩,ty,pos,aft,g⟩).run P w = .ok (.enter f args.toArray) w:=by
  obtain ⟨fn,hfn,hb⟩:=Option.map_eq_some_iff.1 hf;simp only [z7,bne_iff_ne,ne_eq] at hb;have hargs:first.toArray++xs.map (Bk N ρ)++cap.toArray = args.toArray:=by
   rw [← hxs]; apply Array.ext'; simp
  obtain ⟨c,hbc⟩:=Option.isSome_iff_exists.1 hb.2;have hcf:(callFunc f args.toArray).run P w = .ok (.enter f args.toArray) w:=by
   simp [callFunc,hfn,hb.1,hbc]
  simp [execOp,resolve,hargs,hx,Deferred.ofValue,invoke,hcf]
 rw [hrun];refine Calls.mono hc (fun e w1 he=>?_);obtain ⟨v,rfl,hL⟩:=h e w1 he;show LW P ops w0 Q os ks ((mk N ρ).put (some d) v) w1;rw [Gh];exact hL
def Tm:Value→Bool
 |.slice none _ _=>true
 |_=>false
theorem Xy {x y:Operand}{xt yt:TypeId}{v:Value}{n:Nat}(c:Bool)(ht:P.underlying xt=some (.slice e))(hx:Bk N ρ x=v)(hy:Bk N ρ y=.slice none 0 0)(hs:ES v n)(hc:Tm v=c)(hu:Up ops N ρ ⟨some d,.binOp .eql xt x y yt,ty,pos,aft,g⟩)
  (h:LW P ops w0 Q os ks (mk N (Ch ρ d (.bool c))) w):LW P ops w0 Q (⟨some d,.binOp .eql xt x y yt,ty,pos,aft,g⟩::os) (0::ks) (mk N ρ) w :=
 D2 (by decide) rfl hu _ (fun w' _=>by
  obtain⟨a,cp,rfl,_⟩:=hs
  subst hc
  have he:(eqGuard .eql xt x y (.slice a n cp) (.slice none 0 0)).run P w'=.ok () w':=rfl
  have hq:∀k,(Op.equalIn (k+1) xt (.slice a n cp) (.slice none 0 0)).run P w'=.ok a.isNone w':=by
   intro k;cases a <;> simp only[Op.equalIn,Sem.run_bind,run_underlying ht,Result.andThen_ok,Sem.run_pure] <;> rfl
  simp only[execOp,hx,hy,Sem.run_bind,he,Result.andThen_ok,binOp,Op.equal];rw[show Op.maxDepth=9999+1 from rfl,hq];cases a <;> rfl) h
end ops
end
section
theorem oM {p:Prop}(h:p:=by omega):p:=h
theorem sM {p:Prop}(h:p:=by simp):p:=h
theorem sD {p:Prop}(h:p:=by first|omega|assumption|(simp only[zb,z9,z4,z6,z5];omega)|(simp[zb,z9,z4,z6,z5];done)|(simp[zb,z9,z4,z6,z5];omega)):p:=h
theorem AF.refl (F:List Nat)(w:World):AF F w w:=⟨rfl,rfl,rfl,A7 _,fun _ _ _=>rfl⟩
theorem AF.ext {F:List Nat}{a b c:World}(h:AF F a b)(k:AI b c):AF F a c :=
 ⟨k.os.trans h.os,k.tape.trans h.tape,k.output.trans h.output,A8 h.size k.size,fun i hi hm=>(k.heap (Nat.lt_of_lt_of_le hi h.size)).trans (h.block i hi hm)⟩
theorem AF.trans {F:List Nat}{a b c:World}(h:AF F a b)(k:AF F b c):AF F a c :=
 ⟨k.os.trans h.os,k.tape.trans h.tape,k.output.trans h.output,A8 h.size k.size,fun i hi hm=>(k.block i (Nat.lt_of_lt_of_le hi h.size) hm).trans (h.block i hi hm)⟩
theorem AF.drew {F:List Nat}{a b:World}(h:AF F a b):AF F a b.drew:=⟨h.os,h.tape,h.output,h.size,h.block⟩
theorem AF.of_drew {F:List Nat}{a b:World}(h:AF F a.drew b):AF F a b:=⟨h.os,h.tape,h.output,h.size,h.block⟩
theorem AF.sub {F G:List Nat}{a b:World}(h:AF F a b)(hs:∀x∈F,x∈G):AF G a b:=⟨h.os,h.tape,h.output,h.size,fun k hk hm=>h.block k hk fun hh=>hm (hs k hh)⟩
theorem JM {e:TypeId}{H:Array Obj}{v:Value}{xs:List Int}{F:List Nat}(h:By rI e H v xs F):Rd (B8 rI) H v xs:=⟨F,h.rd id⟩
theorem N0 {α:Type}{E:BL α}(hE:CA E){w w':World}{v:Value}{x:α}{F:List Nat}(h:E w.heap v x F)(k:AI w w'):E w'.heap v x F:=hE.stable h fun b hb=>k.heap (hE.lt h b hb)
theorem Kx:∀ {us:List Value}{xs:List Int}{F:List Nat}{H:Array Obj},els rI H us xs F→F=[]:=by
 intro us
 induction us with
 |nil=>intro xs F H h;cases xs with
  |nil=>exact h
  |cons=>exact h.elim
 |cons u us ih =>
  intro xs F H h;cases xs with
  |nil=>exact h.elim
  |cons x xs=>obtain⟨A,C,rfl,p1,p2⟩:=h;rw[p1.2.1,ih p2];rfl
theorem Rr {P:Program}{w:World}{st e:TypeId}{u:Value}{n:Int}{xs:List Int}{G:List Nat}{j:Nat}(hst:(P.info? st).map (·.size)=some 1)(q1:By rI e w.heap u xs G)(q2:G.Nodup)(hj:j<xs.length)(hn:-9223372036854775808≤n∧n≤9223372036854775807) :
  ∃w1,(Instr.storeAt st (BJ u j 1) (.int .i64 n)).run P w=.ok () w1∧By rI e w1.heap u (xs.set j n) G∧AF G w w1∧w1.heap.size=w.heap.size:=by
 obtain⟨w1,F',p1,p2,p3,p4,p5,p6⟩:=Ut (P:=P) Ay hst q1 q2 hj (u:=.int .i64 n) (y:=n) (G:=[]) ⟨rfl,rfl,hn.1,hn.2⟩ zk (fun b hb=>by cases hb);refine⟨w1,p1,?_,p5.sub fun x hx=>zj hx,p6⟩;rcases q1 with⟨rfl,hx0,rfl⟩|⟨us,g1,cap,cur,F1,hels,rfl,_,_,_,_,_,rfl⟩;rw[hx0]at hj;simp at hj;rw[Kx hels];rcases p2 with⟨hh,_⟩|⟨us2,g2,cap2,cur2,F2,hels2,hv2,r⟩;cases hh;rw[Kx hels2]at hels2;have:g2=g1:=by injection hv2 with hv2 _ _;injection hv2 with hv2;injection hv2 with hv2 _;exact hv2.symm
 subst this;exact .inr ⟨us2,g2,cap2,cur2,[],hels2,hv2,r.1,r.2.1,r.2.2.1,r.2.2.2.1,r.2.2.2.2.1,rfl⟩
theorem Rd.nil_of {α:Type}{E:BL α}{H:Array Obj}{v:Value}{xs:List α}(h:Rd (B8 E) H v xs)(hv:Tm v=true):xs=[]:=by obtain⟨F,⟨a,cap,rfl,hx,_⟩|⟨us,g,off,cap,cur,e,fr,F',_,rfl,_⟩⟩:=h;exact hx;cases hv
section ops
variable {P:Program} {ops:Array Oper} {w0:World} {Q:Act→World→Prop} {os:List Oper} {ks:List Nat} {N:Nat} {ρ:Nat→Value} {w:World}
 {d:Nat} {ty:TypeId} {pos:String} {aft:Array Edge} {g:Option (Nat×Bool)} {t e:TypeId} {z:Value} {b:Nat}
theorem Tn {st:TypeId}{x y:Operand}{v:Value}{n:Int}{xs:List Int}{F:List Nat}{j:Nat}(hst:(P.info? st).map (·.size)=some 1)(hx:Bk N ρ x=BJ v j 1)(hy:Bk N ρ y=.int .i64 n)(hn:-9223372036854775808≤n∧n≤9223372036854775807)
  (hv:By rI e w.heap v xs F) (hnd:F.Nodup) (hj:j<xs.length) (hu:Up ops N ρ ⟨none,.store st x y,ty,pos,aft,g⟩)
  (h:∀w1,AF F w w1→w1.heap.size=w.heap.size→By rI e w1.heap v (xs.set j n) F→LW P ops w0 Q os ks (mk N ρ) w1) :
  LW P ops w0 Q (⟨none,.store st x y,ty,pos,aft,g⟩::os) (4::ks) (mk N ρ) w:=by
 obtain⟨w1,p1,p2,p3,p4⟩:=Rr (P:=P) hst hv hnd hj hn;exact Q4 rfl hu w1 (EI hx hy p1)<|h w1 p3 p4 p2
theorem Ai {a:Act}(h:Q a w):LW P ops w0 Q [] ks a w:=h
def yv (ops:Array Oper)(N:Nat) (ρ:Nat→Value)(j:Nat):Option Bool:=match (ops[j]?).bind (·.dst)with
 |some e=>match cond (Nat.blt e N) (ρ e) undef with
  |.bool c=>some c
  |_=>none
 |none=>none
theorem lQ (ops:Array Oper)(N:Nat) (ρ:Nat→Value)(j:Nat):yielded ops (mk N ρ).tmps j=yv ops N ρ j:=by
 unfold yv yielded;cases(ops[j]?).bind (·.dst)with
 |none=>rfl
 |some e =>
  by_cases h:e<N;have hb:Nat.blt e N=true:=by simpa using h
  simp only[mk,hb,cond_true];have e1:((List.range N).map ρ).toArray[e]? = some (ρ e):=by simp[h]
  show(match ((List.range N).map ρ).toArray[e]? with|some (.bool b)=>some b|_=>none)=_;rw[e1];cases ρ e <;> rfl;have hb:Nat.blt e N=false:=by
   cases hb:Nat.blt e N with
   |false=>rfl
   |true=>exact absurd (by simpa using hb) h
  simp[mk,Nat.not_lt.1 h,hb,undef]
def qe (ops:Array Oper)(N:Nat) (ρ:Nat→Value):Option (Nat×Bool)→Bool
 |none=>true
 |some (j,b)=>match yv ops N ρ j with
  |some c=>cond b c (!c)
  |none=>false
theorem gJ (ops:Array Oper)(N:Nat) (ρ:Nat→Value)(o:Oper):Region.wanted o (yielded ops (mk N ρ).tmps)=qe ops N ρ o.guard:=by
 unfold Region.wanted qe;cases o.guard with
 |none=>rfl
 |some x =>
  obtain⟨j,b⟩:=x;simp only[lQ];cases yv ops N ρ j with
  |none=>rfl
  |some c=>cases c <;> cases b <;> rfl
def rM (N:Nat) (ρ:Nat→Value)(d:Nat)(x:Operand):Nat→Value:=fun i=>cond (Nat.beq i d) (Bk N ρ x) (ρ i)
def sf (ρ:Nat→Value)(d:Nat):Nat→Value:=fun i=>cond (Nat.beq i d) undef (ρ i)
def sg (N:Nat) (ρ:Nat→Value)(d:Nat)(c x y:Operand):Nat→Value:=fun i=>cond (Nat.beq i d) (match Bk N ρ c with
 |.bool true=>Bk N ρ x
 |_=>Bk N ρ y) (ρ i)
def qg (ops:Array Oper)(N:Nat)(o:Oper)(k:Nat) (ρ:Nat→Value):Option (Nat→Value) :=
 cond (qe ops N ρ o.guard)
  (cond (Nat.ble k 2)
   (match o.dst with
   |none=>none
   |some d=>match o.op with
    |.move x=>some (rM N ρ d x)
    |.assign x=>some (rM N ρ d x)
    |.pick c x y=>match Bk N ρ c with
     |.bool _=>some (sg N ρ d c x y)
     |_=>none
    |_=>none) none)
  (match o.dst with
  |none=>some ρ
  |some d=>some (sf ρ d))
def tv (ops:Array Oper)(N:Nat):Nat→List Oper→List Nat→(Nat→Value)→Option (List Oper×List Nat×(Nat→Value))
 |0,os,ks,ρ=>some (os,ks,ρ)
 |n+1,o::os,k::ks,ρ=>match qg ops N o k ρ with
  |some ρ'=>tv ops N n os ks ρ'
  |none=>none
 |_+1,_,_,_=>none
theorem gK {o:Oper}{k:Nat} {ρ':Nat→Value}(h:qg ops N o k ρ=some ρ')(hn:LW P ops w0 Q os ks (mk N ρ') w):LW P ops w0 Q (o::os) (k::ks) (mk N ρ) w:=by
 simp only[LW];rw[gJ];unfold qg at h;cases hg:qe ops N ρ o.guard with
 |false =>
  rw[hg]at h;rw[if_neg (by simp)];cases hd:o.dst with
  |none=>rw[hd]at h;cases h;exact hn
  |some d=>rw[hd]at h;injection h with h;rw[Gh,show Ch ρ d undef=ρ' from h];exact hn
 |true =>
  rw[hg]at h;rw[if_pos rfl];cases hk:Nat.ble k 2 with
  |false=>rw[hk]at h;cases h
  |true =>
   rw[hk]at h;have hk2:k≤2:=by simpa using hk
   unfold Cb;rw[if_pos hk2];cases hd:o.dst with
   |none=>rw[hd]at h;cases h
   |some d =>
    rw[hd]at h;have key:∀v,ρ'=Ch ρ d v→(∀w',(execOp (Bk N ρ) o).run P w'=.ok (.value v) w')→∃v,(∀w',Cl w0 w k w'→YA P o (mk N ρ) w' v)∧LW P ops w0 Q os ks ((mk N ρ).put (some d) v) w:=fun v hv hr =>
     ⟨v,fun w' _=>.inl (by rw[DJ];exact hr w'),by rw[Gh,← hv];exact hn⟩
    obtain⟨od,oop,oty,opos,oaft,og⟩:=o;dsimp only at h;cases oop with
    |move x=>injection h with h;exact key (Bk N ρ x) h.symm fun w'=>by simp[execOp]
    |assign x=>injection h with h;exact key (Bk N ρ x) h.symm fun w'=>by simp[execOp]
    |pick c x y =>
     dsimp only at h;split at h;rename_i bb hc;injection h with h;refine key (match Bk N ρ c with
      |.bool true=>Bk N ρ x
      |_=>Bk N ρ y) h.symm fun w'=>?_
     rw[hc];cases bb <;> simp[execOp,hc,asBool];cases h
    |_=>cases h
theorem Ad {os':List Oper}{ks':List Nat} {ρ':Nat→Value}(n:Nat)(h:tv ops N n os ks ρ=some (os',ks',ρ'))(hn:LW P ops w0 Q os' ks' (mk N ρ') w):LW P ops w0 Q os ks (mk N ρ) w:=by
 induction n generalizing os ks ρ with
 |zero =>
  have h':(os,ks,ρ)=(os',ks',ρ'):=by injection h
  cases h';exact hn
 |succ n ih =>
  cases os with
  |nil=>cases ks <;> cases h
  |cons o os =>
   cases ks with
   |nil=>cases h
   |cons k ks =>
    have h':(match qg ops N o k ρ with|some ρ'=>tv ops N n os ks ρ'|none=>none)=some (os',ks',ρ'):=h;split at h';rename_i r hr;exact gK hr (ih h');cases h'
theorem Ac {ks':List Nat} {ρ':Nat→Value}(n:Nat)(h:tv ops N n os ks ρ=some ([],ks',ρ'))(hn:Q (mk N ρ') w):LW P ops w0 Q os ks (mk N ρ) w :=
 Ad n h (show LW P ops w0 Q [] ks' (mk N ρ') w from hn)
end ops
theorem rN {P : Program}{y : Code}{id : Nat}{Q : Exit → Act → World → Prop}{a : Act}{w : World}{os : List Oper}(ks : List Nat)(hk : ks.all (· != 1)=true)(h : LW P os.toArray w (fun a w => y.wp P Q a w) os ks a w) : (Code.seq (Code.region id os.toArray false) y).wp P Q a w := A0 (Ab os ks hk h)
theorem rO {P : Program}{y : Code}{id : Nat}{Q : Exit → Act → World → Prop}{w : World}{o : Oper}{N : Nat} {ρ ρ' : Nat → Value}{ks' : List Nat}(h : tv #[o] N 1 [o] [0] ρ=some ([], ks', ρ'))(hn : y.wp P Q (mk N ρ') w) : (Code.seq (Code.region id #[o] false) y).wp P Q (mk N ρ) w := A0 (Ab [o] [0] rfl (Ac 1 h hn))
theorem rQ {P : Program}{ops : Array Oper}{w0 : World}{Q : Act → World → Prop}{os : List Oper}{ks : List Nat}{N : Nat} {ρ : Nat → Value}{w : World}{ks' : List Nat} {ρ' : Nat → Value}(h : tv ops N 1 os ks ρ=some ([], ks', ρ'))(hn : Q (mk N ρ') w) : LW P ops w0 Q os ks (mk N ρ) w := Ac 1 h hn
theorem rR {P : Program}{ops : Array Oper}{w0 : World}{Q : Act → World → Prop}{os : List Oper}{ks : List Nat}{N : Nat} {ρ : Nat → Value}{w : World}{os' : List Oper}{ks' : List Nat} {ρ' : Nat → Value}(h : tv ops N 1 os ks ρ=some (os', ks', ρ'))(hn : LW P ops w0 Q os' ks' (mk N ρ') w) : LW P ops w0 Q os ks (mk N ρ) w := Ad 1 h hn
end
section
theorem OZ (B U:Nat)(H:Array Obj){u:Value}(h:u.cells=#[u]∧u.oneCell'=true):Fr rV B U H u u:=⟨[],⟨rfl,rfl,h.1,h.2⟩,zk,fun c hc=>by cases hc⟩
theorem oV {e:TypeId}:CA (By rV e):=B3 BQ
section rd
variable {e e':TypeId} {B U:Nat} {H:Array Obj} {v:Value}
theorem Fr.rdV1 {us:List Value}(h:Fr (By rV e) B U H v us):Rd (B8 rV) H v us:=h.rd id
theorem Rd.getV {us:List Value}{k:Nat}(h:Rd (B8 rV) H v us)(hk:k<us.length):IJ H (BJ v k 1)=some (us.getD k undef)∧(us.getD k undef).cells=#[us.getD k undef]∧(us.getD k undef).oneCell'=true:=by obtain⟨u,h1,F,h2,_,h3,h4⟩:=Rd.get undef h hk;rw[← h2];exact⟨h1,h3,h4⟩
end rd
theorem X0 {α:Type}{E:BL α}(hE:CA E){w w':World}{v:Value}{x:α}{X G:List Nat}(h:E w.heap v x X)(c:AF G w w')(hG:∀b∈G,b∉X):E w'.heap v x X :=
 hE.stable h fun b hb=>c.block b (hE.lt h b hb) fun hm=>hG b hm hb
theorem lR {α:Type}{l:List α}{x d:α}{r:Nat}:(l++[x]).getD r d=if r=l.length then x else l.getD r d:=by rw[List.getD_eq_getElem?_getD,List.getD_eq_getElem?_getD];by_cases h:r<l.length;rw[List.getElem?_append_left h,if_neg (by omega)];rw[List.getElem?_append_right (by omega)];by_cases e:r=l.length;subst e;simp;rw[if_neg e];have h1:[x][r-l.length]? = none:=List.getElem?_eq_none (by simp;omega);have h2:l[r]? = none:=List.getElem?_eq_none zO;rw[h1,h2]
end
section
def rS (P:Program)(s:TypeId)(i off:Nat):Bool :=
 match P.underlying s with
 |some (.struct fs) =>
  match fs[i]? with
  |some f=>(f.offset == off) && (match P.info? f.type with|some inf=>inf.size != 0|none=>false)
  |none=>false
 |_=>false
def BX (H:Array Obj)(g:Nat)(cs:List Value):Prop:=∃e,H[g]? = some (.cells cs.toArray e (0,0))
theorem BX.lt {H:Array Obj}{g:Nat}{cs:List Value}(h:BX H g cs):g<H.size:=by obtain⟨e,h⟩:=h;exact getElem?_lt h
theorem BX.ext {w w':World}{g:Nat}{cs:List Value}(h:BX w.heap g cs)(k:AI w w'):BX w'.heap g cs:=by have hl:=h.lt;obtain⟨e,h⟩:=h;exact⟨e,by rw[k.heap hl];exact h⟩
theorem BX.chg {w w':World}{g:Nat}{cs:List Value}{F:List Nat}(h:BX w.heap g cs)(k:AF F w w')(hg:g∉F):BX w'.heap g cs:=by have hl:=h.lt;obtain⟨e,h⟩:=h;exact⟨e,by rw[k.block g hl hg];exact h⟩
theorem BX.ld {H:Array Obj}{g k:Nat}{cs:List Value}(h:BX H g cs)(hk:k<cs.length):IJ H (.pointer (some ⟨g,k,none⟩))=some (cs.getD k undef):=by obtain⟨e,h⟩:=h;simp only[IJ,Cv,h];simp[hk]
theorem AF.fresh {F G:List Nat}{a b c:World}(h:AF F a b)(k:AF G b c)(hG:∀x∈G,a.heap.size≤x):AF F a c :=
 ⟨k.os.trans h.os,k.tape.trans h.tape,k.output.trans h.output,A8 h.size k.size,fun i hi hm=>(k.block i (Nat.lt_of_lt_of_le hi h.size) fun hg=>by have:=hG i hg;omega).trans (h.block i hi hm)⟩
def FZ (H:Array Obj)(g:Nat)(v:Value)(cs:List UInt8)(n:Nat):Prop:=∃sd:Int,BX H g [v,.int .i64 ((n:Nat):Int),.int .u64 sd]∧∃F,B8 rU H v cs F∧∀b∈F,b<g
theorem FZ.lt {H:Array Obj}{g n:Nat}{v:Value}{cs:List UInt8}(h:FZ H g v cs n):g<H.size:=by obtain⟨sd,h,_⟩:=h;exact h.lt
theorem FZ.ext {w w':World}{g n:Nat}{v:Value}{cs:List UInt8}(h:FZ w.heap g v cs n)(k:AI w w'):FZ w'.heap g v cs n:=by obtain⟨sd,h,F,h1,h2⟩:=h;exact⟨sd,h.ext k,F,Dr.stable h1 fun b hb=>k.heap (Dr.lt h1 b hb),h2⟩
theorem FZ.chg {w w':World}{g n:Nat}{v:Value}{cs:List UInt8}{G:List Nat}(h:FZ w.heap g v cs n)(k:AF G w w')(hG:∀b∈G,g<b):FZ w'.heap g v cs n:=by obtain⟨sd,h,F,h1,h2⟩:=h;exact⟨sd,h.chg k fun hm=>by have:=hG g hm;omega,F,Dr.stable h1 fun b hb=>k.block b (Dr.lt h1 b hb) fun hm=>by have:=hG b hm;have:=h2 b hb;omega,h2⟩
theorem FZ.parts {w:World}{g n:Nat}{v:Value}{cs:List UInt8}(h:FZ w.heap g v cs n):∃sd:Int,BX w.heap g [v,.int .i64 ((n:Nat):Int),.int .u64 sd]∧∀w',AF [g] w w'→Rd (B8 rU) w'.heap v cs:=by
 obtain⟨sd,h,F,h1,h2⟩:=h;refine⟨sd,h,fun w' k=>⟨F,Dr.stable h1 fun b hb=>k.block b (Dr.lt h1 b hb) fun hm=>?_⟩⟩;have:b=g:=by simpa using hm
 have:=h2 b hb;omega
theorem FZ.close {w w':World}{g n n':Nat}{v:Value}{cs:List UInt8}{sd:Int}(h:FZ w.heap g v cs n)(k:AF [g] w w')(hb:BX w'.heap g [v,.int .i64 ((n':Nat):Int),.int .u64 sd]):FZ w'.heap g v cs n':=by
 obtain⟨sd0,h,F,h1,h2⟩:=h;refine⟨sd,hb,F,Dr.stable h1 fun b hb=>k.block b (Dr.lt h1 b hb) fun hm=>?_,h2⟩;have:b=g:=by simpa using hm
 have:=h2 b hb;omega
theorem FZ.new {w w':World}{g:Nat}{v:Value}{cs:List UInt8}(h:Rd (B8 rU) w.heap v cs)(k:AI w w')(hb:BX w'.heap g [v,.int .i64 0,.int .u64 0])(hg:w.heap.size≤g):FZ w'.heap g v cs 0:=by obtain⟨F,h⟩:=h;exact⟨0,hb,F,Dr.stable h fun b hb=>k.heap (Dr.lt h b hb),fun b hb=>by have:=Dr.lt h b hb;omega⟩
theorem rT (x:UInt8):-9223372036854775808≤((x.toNat:Nat):Int)∧((x.toNat:Nat):Int)≤9223372036854775807:=by have:=x.toNat_lt;omega
theorem w8 (x:UInt8):IntKind.i64.wrap ((x.toNat:Nat):Int)=((x.toNat:Nat):Int):=Cs (rT x).1 (rT x).2
theorem Uu (x:UInt8):x.toNat<256:=x.toNat_lt
section ops
variable {P:Program} {ops:Array Oper} {w0:World} {Q:Act→World→Prop} {os:List Oper} {ks:List Nat} {N:Nat} {ρ:Nat→Value} {w:World}
 {d:Nat} {ty:TypeId} {pos:String} {aft:Array Edge} {g:Option (Nat×Bool)} {t e:TypeId}
theorem AE {x:Operand}{a:Addr}(hx:Bk N ρ x=.pointer (some a))(hu:Up ops N ρ ⟨some d,.nilCheck x,ty,pos,aft,g⟩)
  (h:LW P ops w0 Q os ks (mk N (Ch ρ d (.pointer (some a)))) w):LW P ops w0 Q (⟨some d,.nilCheck x,ty,pos,aft,g⟩::os) (0::ks) (mk N ρ) w :=
 D2 (by decide) rfl hu _ (fun w' _=>by simp[execOp,hx]) h
theorem CR {s:TypeId}{x:Operand}{b i:Nat}(off:Nat)(hf:rS P s i off=true)(hx:Bk N ρ x=.pointer (some ⟨b,0,none⟩))(hu:Up ops N ρ ⟨some d,.fieldAddr s x i,ty,pos,aft,g⟩)
  (h:LW P ops w0 Q os ks (mk N (Ch ρ d (.pointer (some ⟨b,off,none⟩)))) w):LW P ops w0 Q (⟨some d,.fieldAddr s x i,ty,pos,aft,g⟩::os) (0::ks) (mk N ρ) w :=
 D2 (by decide) rfl hu _ (fun w' _=>by
  unfold rS at hf
  split at hf
  rename_i fs hfs
  split at hf
  rename_i f hff
  simp only[z7,beq_iff_eq]at hf
  obtain⟨rfl,hf2⟩:=hf
  split at hf2
  rename_i inf hin
  have hne:inf.size≠0:=by simpa using hf2
  have ha:(⟨b,0,none⟩:Addr).add f.offset=⟨b,f.offset,none⟩:=by
   unfold Addr.add;split;rename_i h0;rw[h0];simp
  simp[execOp,Instr.fieldAt,Instr.sureAddr,run_underlying hfs,hff,hx,fieldPlace,sizeOf,typeInfo,hin,hne,ha];cases hf2;cases hf;cases hf) h
theorem Uv {xt yt:TypeId}{x y:Operand}{k k':IntKind}{a b:Int}(c:Int)(hx:Bk N ρ x=.int k a)(hy:Bk N ρ y=.int k' b)(hb:0≤b)(hc:a.fdiv (2 ^ (min b.toNat k.bits))=c)(hu:Up ops N ρ ⟨some d,.binOp .shr xt x y yt,ty,pos,aft,g⟩)
  (h:LW P ops w0 Q os ks (mk N (Ch ρ d (.int k c))) w):LW P ops w0 Q (⟨some d,.binOp .shr xt x y yt,ty,pos,aft,g⟩::os) (0::ks) (mk N ρ) w :=
 D2 (by decide) rfl hu _ (fun w' _=>by
  have he:(eqGuard .shr xt x y (.int k a) (.int k' b)).run P w'=.ok () w':=rfl
  simp[execOp,hx,hy,he,binOp,Op.shift,Int.not_lt.2 hb,hc]) h
def GA (k:IntKind)(a b:Int):Int:=k.wrap ((BitVec.ofInt k.bits a &&& BitVec.ofInt k.bits b).toNat:Int)
theorem Uw (a:Int):0≤GA .u64 a 255∧GA .u64 a 255≤255:=by
 have h:(BitVec.ofInt 64 a &&& BitVec.ofInt 64 255).toNat≤255:=by
  rw[BitVec.toNat_and];exact A8 Nat.and_le_right (by decide)
 have hw:∀m:Nat,m≤255→IntKind.u64.wrap (m:Int)=(m:Int):=fun m hm=>IntWalk.u64_in _ zO;have e:GA .u64 a 255=(((BitVec.ofInt 64 a &&& BitVec.ofInt 64 255).toNat:Nat):Int):=hw _ h;rw[e];generalize (BitVec.ofInt 64 a &&& BitVec.ofInt 64 255).toNat=m at h;omega
theorem eC (a:Int):-9223372036854775808≤GA .u64 a 255∧GA .u64 a 255≤9223372036854775807:=by have:=Uw a;omega
theorem aU (a:Int):IntKind.i64.wrap (GA .u64 a 255)=GA .u64 a 255:=Cs (eC a).1 (eC a).2
theorem Ux {xt yt:TypeId}{x y:Operand}{k:IntKind}{a b:Int}(hx:Bk N ρ x=.int k a)(hy:Bk N ρ y=.int k b)(hu:Up ops N ρ ⟨some d,.binOp .and xt x y yt,ty,pos,aft,g⟩)
  (h:LW P ops w0 Q os ks (mk N (Ch ρ d (.int k (GA k a b)))) w):LW P ops w0 Q (⟨some d,.binOp .and xt x y yt,ty,pos,aft,g⟩::os) (0::ks) (mk N ρ) w :=
 D2 (by decide) rfl hu _ (fun w' _=>by
  have he:(eqGuard .and xt x y (.int k a) (.int k b)).run P w'=.ok () w':=rfl
  simp[execOp,hx,hy,he,binOp,Op.intBits,GA]) h
theorem Ba {st:TypeId}{x y:Operand}{b k:Nat}{u:Value}{cs:List Value}(hst:(P.info? st).map (·.size)=some 1)(hx:Bk N ρ x=.pointer (some ⟨b,k,none⟩))(hy:Bk N ρ y=u)(hc:u.cells=#[u]∧u.oneCell'=true)
  (hb:BX w.heap b cs) (hk:k<cs.length) (hu:Up ops N ρ ⟨none,.store st x y,ty,pos,aft,g⟩)
  (h:∀w1,AF [b] w w1→w1.heap.size=w.heap.size→BX w1.heap b (cs.set k u)→LW P ops w0 Q os ks (mk N ρ) w1) :
  LW P ops w0 Q (⟨none,.store st x y,ty,pos,aft,g⟩::os) (4::ks) (mk N ρ) w:=by
 obtain⟨e,hb⟩:=hb;have hr:=Kw (P:=P) hst hb (j:=k) (by simpa using hk) hc.1 hc.2;refine Q4 rfl hu _ (EI hx hy hr)<|h _ (Q7 _ _ _ _) (by simp[World.setCell]) ⟨e,?_⟩;rw[Nt hb];simp
theorem Bf {parts:Array (Nat×Operand)}{ps:Array (Nat×Value)}(u:Value)(hp:(parts.map fun(i,x)=>(i,Bk N ρ x))=ps)(hr:∀w',(Instr.build t ps).run P w'=.ok u w')(hu:Up ops N ρ ⟨some d,.build t parts,ty,pos,aft,g⟩)
  (h:LW P ops w0 Q os ks (mk N (Ch ρ d u)) w):LW P ops w0 Q (⟨some d,.build t parts,ty,pos,aft,g⟩::os) (0::ks) (mk N ρ) w :=
 D2 (by decide) rfl hu _ (fun w' _=>by subst hp;simp[execOp,hr w']) h
theorem BH {x:Operand}{cs:Array Value}(hx:Bk N ρ x=.agg cs)(hu:Up ops N ρ ⟨some d,.box t x,ty,pos,aft,g⟩)
  (h:∀w1,AI w w1→w1.heap.size=w.heap.size+1→BX w1.heap w.heap.size cs.toList→LW P ops w0 Q os ks (mk N (Ch ρ d (.pointer (some ⟨w.heap.size,0,none⟩)))) w1) :
  LW P ops w0 Q (⟨some d,.box t x,ty,pos,aft,g⟩::os) (3::ks) (mk N ρ) w:=by
 have hrun:(execOp (Bk N ρ) ⟨some d,.box t x,ty,pos,aft,g⟩).run P w=.ok (.value (.pointer (some ⟨w.heap.size,0,none⟩))) (w.alloc (.cells cs t)):=by
  simp[execOp,Instr.box,newVar,newRow,hx,Value.cells]
 refine II rfl hu _ _ hrun (BM _ _)<|h _ (BM _ _) (by simp) ⟨t,?_⟩;have:=heap_alloc_new w (.cells cs t);simpa using this
end ops
end
section
abbrev BS (α:Type):=Array Obj→List Value→α→List Nat→Prop
structure Ct {α:Type}(s:Nat)(E:BS α):Prop where
 len:∀ {H cs x F},E H cs x F→cs.length=s
 one:∀ {H cs x F},E H cs x F→∀u∈cs,u.cells=#[u]∧u.oneCell'=true
 lt:∀ {H cs x F},E H cs x F→∀b∈F,b<H.size
 stable:∀ {H H' cs x F},E H cs x F→(∀b∈F,H'[b]? = H[b]?)→E H' cs x F
def CL {α:Type}(E:BS α)(H:Array Obj):List (List Value)→List α→List Nat→Prop
 |[],[],F=>F=[]
 |c::css,x::xs,F=>∃F1 F2,F=F1++F2∧E H c x F1∧CL E H css xs F2
 |_,_,_=>False
section CL
variable {α:Type} {E:BS α} {s:Nat} {H H':Array Obj}
theorem CL.length:∀ {css:List (List Value)}{xs:List α}{F:List Nat},CL E H css xs F→css.length=xs.length
 |[],[],_,_=>rfl
 |_::_,_::_,_,⟨_,_,_,_,h⟩=>by simp[CL.length h]
 |[],_::_,_,h=>h.elim
 |_::_,[],_,h=>h.elim
theorem CL.stable (hE:Ct s E):∀ {css:List (List Value)}{xs:List α}{F:List Nat},CL E H css xs F→(∀b∈F,H'[b]? = H[b]?)→CL E H' css xs F
 |[],[],_,h,_=>h
 |_::_,_::_,_,⟨F1,F2,rfl,h1,h2⟩,hb =>
  ⟨F1,F2,rfl,hE.stable h1 fun b hh=>hb b (z8 _ hh),CL.stable hE h2 fun b hh=>hb b (z1 _ hh)⟩
 |[],_::_,_,h,_=>h.elim
 |_::_,[],_,h,_=>h.elim
theorem CL.lt (hE:Ct s E):∀ {css:List (List Value)}{xs:List α}{F:List Nat},CL E H css xs F→∀b∈F,b<H.size
 |[],[],_,h,b,hb=>by rw[show _=[]from h]at hb;cases hb
 |_::_,_::_,_,⟨F1,F2,rfl,h1,h2⟩,b,hb=>(zi.1 hb).elim (hE.lt h1 b) (CL.lt hE h2 b)
 |[],_::_,_,h,_,_=>h.elim
 |_::_,[],_,h,_,_=>h.elim
theorem CL.get (hE:Ct s E):∀ {css:List (List Value)}{xs:List α}{F:List Nat}{k:Nat}(d:α),CL E H css xs F→k<xs.length →
  ∃cs F1,E H cs (xs.getD k d) F1∧(∀b∈F1,b∈F)∧∀i,i<s→css.flatten[k*s+i]? = some (cs.getD i undef)
 |c::css,x::xs,_,0,d,⟨F1,F2,rfl,h1,h2⟩,_=>⟨c,F1,h1,fun b hb=>z8 _ hb,fun i hi=>by
   have hl:=hE.len h1
   rw[List.flatten_cons,Nat.zero_mul,Nat.zero_add,List.getElem?_append_left (by omega)]
   simp[hl,hi]⟩
 |c::css,x::xs,_,k+1,d,⟨F1,F2,rfl,h1,h2⟩,hk=>by
  obtain⟨cs,G,q1,q2,q3⟩:=CL.get hE d h2 (by simpa using hk)
  refine⟨cs,G,by simpa using q1,fun b hh=>z1 _ (q2 b hh),fun i hi=>?_⟩
  have hl:=hE.len h1
  have e:(k+1)*s+i=c.length+(k*s+i):=by rw[Nat.succ_mul,hl];omega
  rw[List.flatten_cons,e,List.getElem?_append_right zO,Nat.add_sub_cancel_left]
  exact q3 i hi
 |[],[],_,_,_,_,hk=>by simp at hk
 |[],_::_,_,_,_,h,_=>h.elim
theorem CL.append:∀ {us vs:List (List Value)}{xs ys:List α}{F G:List Nat},CL E H us xs F→CL E H vs ys G→CL E H (us++vs) (xs++ys) (F++G)
 |[],_,[],_,_,_,h,k=>by rw[show _=[]from h];exact k
 |_::_,_,_::_,_,_,_,⟨F1,F2,rfl,h1,h2⟩,k=>⟨F1,_,by rw[List.append_assoc],h1,CL.append h2 k⟩
 |[],_,_::_,_,_,_,h,_=>h.elim
 |_::_,_,[],_,_,_,h,_=>h.elim
theorem CL.flen (hE:Ct s E):∀ {css:List (List Value)}{xs:List α}{F:List Nat},CL E H css xs F→css.flatten.length=xs.length*s
 |[],[],_,_=>by simp
 |c::css,x::xs,_,⟨F1,F2,rfl,h1,h2⟩=>by
  rw[List.flatten_cons,z4,hE.len h1,CL.flen hE h2,z9,Nat.succ_mul];omega
 |[],_::_,_,h=>h.elim
 |_::_,[],_,h=>h.elim
theorem CL.one (hE:Ct s E):∀ {css:List (List Value)}{xs:List α}{F:List Nat},CL E H css xs F→∀u∈css.flatten,u.cells=#[u]∧u.oneCell'=true
 |[],[],_,_,u,hu=>by cases hu
 |_::_,_::_,_,⟨F1,F2,rfl,h1,h2⟩,v,hv=>by
  rw[List.flatten_cons]at hv
  exact (zi.1 hv).elim (hE.one h1 v)<|CL.one hE h2 v
 |[],_::_,_,h,_,_=>h.elim
 |_::_,[],_,h,_,_=>h.elim
end CL
def D7 {α:Type}(s:Nat)(E:BS α):BL (List α):=fun H v xs F =>
 (∃a cap,v=.slice a 0 cap∧xs=[]∧F=[]) ∨
 ∃css g off cap cur e fr F',CL E H css xs F'∧v=.slice (some ⟨g,off,none⟩) xs.length cap∧H[g]? = some (.cells cur e fr)∧(cur.toList.drop off).take (xs.length*s)=css.flatten∧(xs.length≤maxLen∧xs.length≤cap)∧F=g::F'
def LD (H:Array Obj)(p:Value)(cs:List Value):Prop:=∃g o,p=.pointer (some ⟨g,o,none⟩)∧∀i,i<cs.length→Cv H g (o+i)=some (cs.getD i undef)
def BV (p:Value)(k:Nat):Value :=
 match p with
 |.pointer (some ⟨g,o,none⟩)=>.pointer (some ⟨g,o+k,none⟩)
 |_=>undef
theorem LD.ld {H:Array Obj}{p:Value}{cs:List Value}(h:LD H p cs){i:Nat}(hi:i<cs.length):IJ H (BV p i)=some (cs.getD i undef):=by obtain⟨g,o,rfl,h⟩:=h;exact h i hi
theorem Nv (g off n cap k s:Nat):BJ (.slice (some ⟨g,off,none⟩) n cap) k s=.pointer (some ⟨g,off+k*s,none⟩):=by unfold BJ Addr.add;simp only;split;rename_i h;rw[h];rfl;rfl
section D7
variable {α:Type} {E:BS α} {s:Nat} {H H':Array Obj} {v:Value} {xs:List α} {F:List Nat}
theorem Al (hE:Ct s E):CA (D7 s E) where
 cells:=by
  rintro H v xs F (⟨a,cap,rfl,_⟩|⟨us,g,off,cap,cur,e,fr,F',_,rfl,_⟩) <;> rfl
 one:=by
  rintro H v xs F (⟨a,cap,rfl,_⟩|⟨us,g,off,cap,cur,e,fr,F',_,rfl,_⟩) <;> rfl
 lt:=by
  rintro H v xs F (⟨a,cap,rfl,_,rfl⟩|⟨us,g,off,cap,cur,e,fr,F',h,rfl,hg,_,_,rfl⟩) b hb;cases hb;rcases ze.1 hb with rfl|hb;exact getElem?_lt hg;exact h.lt hE b hb
 stable:=by
  rintro H H' v xs F (⟨a,cap,rfl,h1,h2⟩|⟨us,g,off,cap,cur,e,fr,F',h,rfl,hg,hw,hml,rfl⟩) hb;exact .inl ⟨a,cap,rfl,h1,h2⟩;exact .inr ⟨us,g,off,cap,cur,e,fr,F',h.stable hE fun b hh=>hb b<|z3 _ hh,rfl,by rw[hb g (z0 ..)];exact hg,hw,hml,rfl⟩
theorem D7.isSl (h:D7 s E H v xs F):ES v xs.length:=by rcases h with⟨a,cap,rfl,rfl,_⟩|⟨us,g,off,cap,cur,e,fr,F',_,rfl,_⟩;exact⟨a,cap,rfl,fun _=>rfl⟩;exact⟨_,cap,rfl,fun h=>by cases h⟩
theorem D7.lenle (h:D7 s E H v xs F):xs.length≤maxLen:=by rcases h with⟨a,cap,_,rfl,_⟩|⟨us,g,off,cap,cur,e,fr,F',_,_,_,_,h,_⟩;simp;exact h.1
theorem D7.cap (h:D7 s E H v xs F):∃a c,v=.slice a xs.length c∧xs.length≤c:=by rcases h with⟨a,cap,rfl,rfl,_⟩|⟨us,g,off,cap,cur,e,fr,F',_,rfl,_,_,h,_⟩;exact⟨a,cap,rfl,Nat.zero_le _⟩;exact⟨_,cap,rfl,h.2⟩
theorem M1 (hE:Ct s E):∀ {css:List (List Value)}{xs:List α}{F:List Nat}(k:Nat),CL E H css xs F→∃G,CL E H (css.take k) (xs.take k) G∧∀b∈G,b∈F
 |[],[],F,k,h=>⟨[],by simp[CL],fun b hb=>by cases hb⟩
 |c::css,x::xs,F,0,h=>⟨[],by simp[CL],fun b hb=>by cases hb⟩
 |c::css,x::xs,_,k+1,⟨F1,F2,rfl,h1,h2⟩=>by
  obtain⟨G,g1,g2⟩:=M1 hE k h2
  exact⟨F1++G,⟨F1,G,rfl,h1,g1⟩,fun b hb=>(zi.1 hb).elim (fun h=>z8 _ h) (fun h=>z1 _ (g2 b h))⟩
 |[],_::_,_,_,h=>h.elim
 |_::_,[],_,_,h=>h.elim
theorem D7.take (hE:Ct s E){k:Nat}{a:Option Addr}{n c:Nat}(h:D7 s E H (.slice a n c) xs F)(hk:k≤xs.length):∃G,D7 s E H (.slice a k c) (xs.take k) G∧∀b∈G,b∈F:=by
 rcases h with⟨a',cap,hv,rfl,_⟩|⟨us,g,off,cap,cur,e,fr,F',h,hv,hg,hw,hl,rfl⟩;have:k=0:=by simpa using hk
 subst this;exact⟨[],.inl ⟨a,c,rfl,by simp,rfl⟩,fun b hb=>by cases hb⟩
 injection hv with h1 h2 h3;subst h1;subst h2;subst h3;obtain⟨G,g1,g2⟩:=M1 hE k h;have hkl:(xs.take k).length=k:=by rw[List.length_take];omega
 refine⟨g::G,.inr ⟨us.take k,g,off,c,cur,e,fr,G,g1,by rw[hkl],hg,?_,by rw[hkl];omega,rfl⟩,fun b hb=>?_⟩;have hf:=h.flen hE;have ht:=g1.flen hE;rw[hkl]at ht;rw[hkl];have e1:us.flatten=(us.take k).flatten++(us.drop k).flatten:=by rw[← List.flatten_append,List.take_append_drop]
 have e2:(cur.toList.drop off).take (k*s)=((cur.toList.drop off).take (xs.length*s)).take (k*s):=by
  rw[List.take_take,Nat.min_eq_left (Nat.mul_le_mul_right s hk)]
 rw[e2,hw,e1,← ht,List.take_left];rcases ze.1 hb with rfl|hb;exact z0 ..;exact z3 _<|g2 b hb
theorem D7.get (hE:Ct s E)(d:α){k:Nat}(h:D7 s E H v xs F)(hk:k<xs.length) :
  ∃cs F1,E H cs (xs.getD k d) F1∧(∀b∈F1,b∈F)∧∀H':Array Obj,(∀b∈F,H'[b]? = H[b]?)→LD H' (BJ v k s) cs:=by
 rcases h with⟨a,cap,rfl,rfl,_⟩|⟨css,g,off,cap,cur,e,fr,F',h,rfl,hg,hw,_,rfl⟩;simp at hk;obtain⟨cs,F1,q1,q2,q3⟩:=h.get hE d hk;refine⟨cs,F1,q1,fun b hb=>z3 _ (q2 b hb),fun H' hH=>⟨g,off+k*s,Nv ..,fun i hi=>?_⟩⟩;rw[hE.len q1]at hi;have h1:=q3 i hi;have hlt:k*s+i<xs.length*s:=by
  have:(k+1)*s≤xs.length*s:=Nat.mul_le_mul_right s hk;rw[Nat.succ_mul]at this;omega
 rw[← hw,List.getElem?_take,if_pos hlt,List.getElem?_drop]at h1;simp only[Cv,hH g (z0 ..),hg];rw[Nat.add_assoc];simpa using h1
end D7
def RN {β α:Type}(S:List Nat)(E:Array Obj→β→α→List Nat→Prop)(H:Array Obj)(v:β)(x:α):Prop:=∃F,E H v x F∧∀b∈F,b∉S
section rn
variable {α:Type} {S:List Nat} {w w':World} {s:Nat} {E:BS α} {v:Value} {xs:List α} {cs:List Value} {x:α}
theorem RN.chg {E:BL α}(hE:CA E)(h:RN S E w.heap v x)(c:AF S w w'):RN S E w'.heap v x:=by obtain⟨F,h,hb⟩:=h;exact⟨F,hE.stable h fun b hm=>c.block b (hE.lt h b hm) (hb b hm),hb⟩
theorem RN.ext {E:BL α}(hE:CA E)(h:RN S E w.heap v x)(c:AI w w'):RN S E w'.heap v x:=by obtain⟨F,h,hb⟩:=h;exact⟨F,hE.stable h fun b hm=>c.heap (hE.lt h b hm),hb⟩
theorem RN.none {β:Type}{E:Array Obj→β→α→List Nat→Prop}{H:Array Obj}{v:β}(h:RN S E H v x):RN [] E H v x:=by obtain⟨F,h,_⟩:=h;exact⟨F,h,fun _ _ hm=>by cases hm⟩
theorem RN.rd {E:BL α}{H:Array Obj}(h:RN S E H v x):Rd E H v x:=by obtain⟨F,h,_⟩:=h;exact⟨F,h⟩
theorem RN.of {E:BL α}{H:Array Obj}(h:Rd E H v x):RN [] E H v x:=by obtain⟨F,h⟩:=h;exact⟨F,h,fun _ _ hm=>by cases hm⟩
theorem RN.isSl {H:Array Obj}(h:RN S (D7 s E) H v xs):ES v xs.length:=by obtain⟨F,h,_⟩:=h;exact h.isSl
theorem RN.lenle {H:Array Obj}(h:RN S (D7 s E) H v xs):xs.length≤maxLen:=by obtain⟨F,h,_⟩:=h;exact h.lenle
theorem RN.get (hE:Ct s E)(d:α){k:Nat}(h:RN S (D7 s E) w.heap v xs)(hk:k<xs.length) :
  ∃cs,RN S E w.heap cs (xs.getD k d)∧∀w',AF S w w'→LD w'.heap (BJ v k s) cs:=by
 obtain⟨F,h,hb⟩:=h;have hlt:=(Al hE).lt h;obtain⟨cs,F1,q1,q2,q3⟩:=D7.get hE d h hk;exact⟨cs,⟨F1,q1,fun b hm=>hb b (q2 b hm)⟩,fun w' c=>q3 _ fun b hm=>c.block b (hlt b hm) (hb b hm)⟩
end rn
theorem AF.of_ext {w w':World}(S:List Nat)(h:AI w w'):AF S w w':=⟨h.os,h.tape,h.output,h.size,fun k hk _=>h.heap hk⟩
def E0 (P:Program)(t:TypeId)(s:Nat):Bool :=
 (match P.underlying t with|some (.struct _)=>true|_=>false) && (match P.info? t with|some i=>i.size == s|none=>false)
def Er (P:Program)(s:TypeId)(i off:Nat):Bool :=
 match P.underlying s with
 |some (.struct fs) =>
  match fs[i]? with
  |some f=>(f.offset == off) && (match P.info? f.type with|some inf=>inf.size != 0|none=>false)
  |none=>false
 |_=>false
section ops
variable {P:Program} {ops:Array Oper} {w0:World} {Q:Act→World→Prop} {os:List Oper} {ks:List Nat} {N:Nat} {ρ:Nat→Value} {w:World}
 {d:Nat} {ty:TypeId} {pos:String} {aft:Array Edge} {g:Option (Nat×Bool)} {t e:TypeId}
theorem GQ (b o k:Nat):(⟨b,o,none⟩:Addr).add k=⟨b,o+k,none⟩:=by unfold Addr.add;split;rename_i h;rw[h];rfl;rfl
theorem C9 {s:TypeId}{x:Operand}{i:Nat}{p:Value}{b o:Nat}(off:Nat)(hf:Er P s i off=true)(hx:Bk N ρ x=p)(hp:p=.pointer (some ⟨b,o,none⟩))(hu:Up ops N ρ ⟨some d,.fieldAddr s x i,ty,pos,aft,g⟩)
  (h:LW P ops w0 Q os ks (mk N (Ch ρ d (BV p off))) w):LW P ops w0 Q (⟨some d,.fieldAddr s x i,ty,pos,aft,g⟩::os) (0::ks) (mk N ρ) w :=
 D2 (by decide) rfl hu _ (fun w' _=>by
  subst hp
  unfold Er at hf
  split at hf
  rename_i fs hfs
  split at hf
  rename_i f hff
  simp only[z7,beq_iff_eq]at hf
  obtain⟨rfl,hf2⟩:=hf
  split at hf2
  rename_i inf hin
  have hne:inf.size≠0:=by simpa using hf2
  simp[execOp,Instr.fieldAt,Instr.sureAddr,run_underlying hfs,hff,hx,fieldPlace,sizeOf,typeInfo,hin,hne,GQ,BV]
  cases hf2
  cases hf
  cases hf) h
theorem LD.ptr {H:Array Obj}{p:Value}{cs:List Value}(h:LD H p cs):∃b o,p=.pointer (some ⟨b,o,none⟩):=by obtain⟨b,o,h,_⟩:=h;exact⟨b,o,h⟩
theorem Gj {s:TypeId}{x:Operand}{i:Nat}{p:Value}{H:Array Obj}{cs:List Value}(off:Nat)(hf:Er P s i off=true)(hx:Bk N ρ x=p)(hp:LD H p cs)(hu:Up ops N ρ ⟨some d,.fieldAddr s x i,ty,pos,aft,g⟩)
  (h:LW P ops w0 Q os ks (mk N (Ch ρ d (BV p off))) w):LW P ops w0 Q (⟨some d,.fieldAddr s x i,ty,pos,aft,g⟩::os) (0::ks) (mk N ρ) w:=by
 obtain⟨b,o,hp⟩:=hp.ptr;exact C9 off hf hx hp hu h
theorem Ps {s:Nat}(ht:E0 P t s=true){p:Value}{cs:List Value}(h:LD w.heap p cs)(hl:cs.length=s):(Instr.loadAt t p).run P w=.ok (.agg cs.toArray) w:=by
 obtain⟨b,o,rfl,h⟩:=h;unfold E0 at ht;simp only[z7]at ht;obtain⟨h1,h2⟩:=ht;split at h1;rename_i fs hfs;split at h2;rename_i inf hin;have hs:inf.size=s:=by simpa using h2
 have hag:(isAgg t).run P w=.ok true w:=by
  unfold isAgg;simp only[Sem.run_bind,run_underlying hfs,Result.andThen_ok];rfl
 have hlc:=run_loadCells_list (P:=P) w ⟨b,o,none⟩ cs (fun j v hj=>by
  rw[GQ,BY];have hjl:j<cs.length:=(List.getElem?_eq_some_iff.1 hj).1;rw[h j hjl];simp[List.getD,hj])
 rw[hl,← hs]at hlc;simp[Instr.loadAt,Instr.sureAddr,loadVar,hag,sizeOf,typeInfo,hin,hlc];cases h2;cases h1
theorem Q8 {k s:Nat}(hk:k=1∨k=2){x:Operand}{p:Value}(cs:List Value)(ht:E0 P t s=true)(hx:Bk N ρ x=p)(hc:∀w',AI (if k=1 then w0 else w) w'→LD w'.heap p cs)(hl:cs.length=s)
  (hu:Up ops N ρ ⟨some d,.load t x,ty,pos,aft,g⟩)
  (h:LW P ops w0 Q os ks (mk N (Ch ρ d (.agg cs.toArray))) w):LW P ops w0 Q (⟨some d,.load t x,ty,pos,aft,g⟩::os) (k::ks) (mk N ρ) w :=
 D2 zO rfl hu _ (fun w' hcl=>by
  have hld:LD w'.heap p cs:=by
   rcases hk with rfl|rfl;exact hc w' hcl;exact hc w' hcl
  simp[execOp,hx,Ps ht hld hl]) h
theorem LD.of_box {H:Array Obj}{b:Nat}{cs:List Value}(h:BX H b cs):LD H (.pointer (some ⟨b,0,none⟩)) cs:=by obtain⟨e,h⟩:=h;refine⟨b,0,rfl,fun i hi=>?_⟩;simp only[Cv,h];simp[hi]
theorem BX.ldp {H:Array Obj}{b:Nat}{cs:List Value}(h:BX H b cs){i:Nat}(hi:i<cs.length):IJ H (BV (.pointer (some ⟨b,0,none⟩)) i)=some (cs.getD i undef):=(LD.of_box h).ld hi
theorem Bb {z:Value}(hz:(P.info? t).map (·.zero)=some (some z))(hu:Up ops N ρ ⟨some d,.alloc t,ty,pos,aft,g⟩)
  (h:∀w1,AI w w1→w1.heap.size=w.heap.size+1→BX w1.heap w.heap.size z.cells.toList→LW P ops w0 Q os ks (mk N (Ch ρ d (.pointer (some ⟨w.heap.size,0,none⟩)))) w1) :
  LW P ops w0 Q (⟨some d,.alloc t,ty,pos,aft,g⟩::os) (3::ks) (mk N ρ) w:=by
 obtain⟨i,hi1,hi2⟩:=Option.map_eq_some_iff.1 hz;have hrun:(execOp (Bk N ρ) ⟨some d,.alloc t,ty,pos,aft,g⟩).run P w=.ok (.value (.pointer (some ⟨w.heap.size,0,none⟩))) (w.alloc (.cells z.cells t)):=by
  simp[execOp,Instr.alloc,zeroValue,typeInfo,hi1,hi2,newVar,newRow]
 refine II rfl hu _ _ hrun (BM _ _)<|h _ (BM _ _) (by simp) ⟨t,?_⟩;have:=heap_alloc_new w (.cells z.cells t);simpa using this
theorem B5 {x y:Operand}{b s:Nat}{vs cs:List Value}(ht:E0 P t s=true)(hx:Bk N ρ x=.pointer (some ⟨b,0,none⟩))(hy:Bk N ρ y=.agg vs.toArray)(h1:∀u∈vs,u.cells=#[u]∧u.oneCell'=true)
  (hb:BX w.heap b cs) (hl:vs.length=s) (hl2:cs.length=s) (hu:Up ops N ρ ⟨none,.store t x y,ty,pos,aft,g⟩)
  (h:∀w1,AF [b] w w1→w1.heap.size=w.heap.size→BX w1.heap b vs→LW P ops w0 Q os ks (mk N ρ) w1) :
  LW P ops w0 Q (⟨none,.store t x y,ty,pos,aft,g⟩::os) (4::ks) (mk N ρ) w:=by
 obtain⟨e,hb⟩:=hb;unfold E0 at ht;simp only[z7]at ht;obtain⟨q1,q2⟩:=ht;split at q2;rename_i inf hin;have hs:inf.size=s:=by simpa using q2
 have hst:=run_storeCells_at (P:=P) b 0 e vs 0 cs.toArray w hb (by simp;omega) fun v hv=>(h1 v hv).2;have hcs:(cs.toArray.toList.take (0+0)++vs++cs.toArray.toList.drop (0+0+vs.length))=vs:=by
  simp[List.drop_of_length_le (show cs.length≤vs.length by omega)]
 rw[hcs]at hst;have hr:(Instr.storeAt t (.pointer (some ⟨b,0,none⟩)) (.agg vs.toArray)).run P w=.ok () (w.setRow b vs.toArray):=by
  simp[Instr.storeAt,Instr.sureAddr,storeVar,sizeOf,typeInfo,hin,Value.cells,hl,hs,hst]
 refine Q4 rfl hu _ (EI hx hy hr)<|h _ ⟨rfl,rfl,rfl,by simp,fun k _ hk=>setRow_other w b k _ (by simpa using hk)⟩ (by simp) ⟨e,setRow_heap w b _ _ _ _ hb⟩;cases q2
end ops
theorem lS {P : Program}{ops : Array Oper}{w0 : World}{Q : Act → World → Prop}{os : List Oper}{ks : List Nat}{N : Nat} {ρ : Nat → Value}{w : World}{d : Nat}{ty : TypeId}{pos : String}{aft : Array Edge}{g : Option (Nat×Bool)}{t : TypeId}{x : Operand}{b : Nat}{cs : List Value}(i : Nat)(u : Value)(ht : Co P t)(hb : BX w.heap b cs)(hu : Up ops N ρ ⟨some d, .load t x, ty, pos, aft, g⟩)(h : LW P ops w0 Q os ks (mk N (Ch ρ d u)) w)(hx : Bk N ρ x=BV (.pointer (some ⟨b, 0, none⟩)) i := by rfl) (hi : Nat.blt i cs.length=true := by rfl) (he : cs.getD i undef=u := by rfl) : LW P ops w0 Q (⟨some d, .load t x, ty, pos, aft, g⟩::os) (2::ks) (mk N ρ) w := by
 have hi : i<cs.length := by simpa using hi
 have hc := hb.ldp hi;rw[he]at hc;exact AC (p := BV (.pointer<|some ⟨b, 0, none⟩) i) (.inr rfl) u ht hx hc hu h
theorem rW {P : Program}{ops : Array Oper}{w0 : World}{Q : Act → World → Prop}{os : List Oper}{ks : List Nat}{N : Nat} {ρ : Nat → Value}{w : World}{d : Nat}{ty : TypeId}{pos : String}{aft : Array Edge}{g : Option (Nat×Bool)}{t : TypeId}{x : Operand}{b : Nat}{cs : List Value}{s : TypeId}{x2 : Operand}{j d2 : Nat}{ty2 : TypeId}{pos2 : String}{aft2 : Array Edge}{g2 : Option (Nat×Bool)}(i : Nat)(hf : Er P s j i=true)(u : Value)(ht : Co P t)(hb : BX w.heap b cs)(hu : Up ops N ρ ⟨some d, .fieldAddr s x j, ty, pos, aft, g⟩)(hu2 : Up ops N (Ch ρ d (BV (.pointer (some ⟨b, 0, none⟩)) i)) ⟨some d2, .load t x2, ty2, pos2, aft2, g2⟩)(h : LW P ops w0 Q os ks (mk N (Ch (Ch ρ d (BV (.pointer (some ⟨b, 0, none⟩)) i)) d2 u)) w)(hx : Bk N ρ x=.pointer (some ⟨b, 0, none⟩) := by rfl) (hx2 : Bk N (Ch ρ d (BV (.pointer (some ⟨b, 0, none⟩)) i)) x2=BV (.pointer (some ⟨b, 0, none⟩)) i := by rfl) (hi : Nat.blt i cs.length=true := by rfl) (he : cs.getD i undef=u := by rfl) : LW P ops w0 Q (⟨some d, .fieldAddr s x j, ty, pos, aft, g⟩::⟨some d2, .load t x2, ty2, pos2, aft2, g2⟩::os) (0::2::ks) (mk N ρ) w :=
 C9 (p := .pointer (some ⟨b, 0, none⟩)) (b := b) (o := 0) i hf hx rfl hu (lS i u ht hb hu2 h hx2 hi he)
theorem lT {P : Program}{ops : Array Oper}{w0 : World}{Q : Act → World → Prop}{os : List Oper}{ks : List Nat}{N : Nat} {ρ : Nat → Value}{w : World}{d : Nat}{ty : TypeId}{pos : String}{aft : Array Edge}{g : Option (Nat×Bool)}{t : TypeId}{x : Operand}{b : Nat}{cs : List Value}(i : Nat)(u : Value)(ht : Co P t)(hb : BX w0.heap b cs)(hu : Up ops N ρ ⟨some d, .load t x, ty, pos, aft, g⟩)(h : LW P ops w0 Q os ks (mk N (Ch ρ d u)) w)(hx : Bk N ρ x=BV (.pointer (some ⟨b, 0, none⟩)) i := by rfl) (hi : Nat.blt i cs.length=true := by rfl) (he : cs.getD i undef=u := by rfl) : LW P ops w0 Q (⟨some d, .load t x, ty, pos, aft, g⟩::os) (1::ks) (mk N ρ) w := by
 have hi : i<cs.length := by simpa using hi
 have hc := hb.ldp hi;rw[he]at hc;exact AC (p := BV (.pointer<|some ⟨b, 0, none⟩) i) (.inl rfl) u ht hx hc hu h
theorem rX {P : Program}{ops : Array Oper}{w0 : World}{Q : Act → World → Prop}{os : List Oper}{ks : List Nat}{N : Nat} {ρ : Nat → Value}{w : World}{d : Nat}{ty : TypeId}{pos : String}{aft : Array Edge}{g : Option (Nat×Bool)}{t : TypeId}{x : Operand}{b : Nat}{cs : List Value}{s : TypeId}{x2 : Operand}{j d2 : Nat}{ty2 : TypeId}{pos2 : String}{aft2 : Array Edge}{g2 : Option (Nat×Bool)}(i : Nat)(hf : Er P s j i=true)(u : Value)(ht : Co P t)(hb : BX w0.heap b cs)(hu : Up ops N ρ ⟨some d, .fieldAddr s x j, ty, pos, aft, g⟩)(hu2 : Up ops N (Ch ρ d (BV (.pointer (some ⟨b, 0, none⟩)) i)) ⟨some d2, .load t x2, ty2, pos2, aft2, g2⟩)(h : LW P ops w0 Q os ks (mk N (Ch (Ch ρ d (BV (.pointer (some ⟨b, 0, none⟩)) i)) d2 u)) w)(hx : Bk N ρ x=.pointer (some ⟨b, 0, none⟩) := by rfl) (hx2 : Bk N (Ch ρ d (BV (.pointer (some ⟨b, 0, none⟩)) i)) x2=BV (.pointer (some ⟨b, 0, none⟩)) i := by rfl) (hi : Nat.blt i cs.length=true := by rfl) (he : cs.getD i undef=u := by rfl) : LW P ops w0 Q (⟨some d, .fieldAddr s x j, ty, pos, aft, g⟩::⟨some d2, .load t x2, ty2, pos2, aft2, g2⟩::os) (0::1::ks) (mk N ρ) w :=
 C9 (p := .pointer (some ⟨b, 0, none⟩)) (b := b) (o := 0) i hf hx rfl hu (lT i u ht hb hu2 h hx2 hi he)
theorem rY {ops : Array Oper}{N : Nat} {ρ : Nat → Value}{d : Option Tmp}{op : Op}{ty : TypeId}{pos : String}{aft : Array Edge}{j : Nat}{b : Bool}(e : Nat)(hd : (ops[j]?).bind (·.dst)=some e := by rfl) (hlt : Nat.blt e N=true := by rfl) (hv : ρ e=.bool b := by rfl) : Up ops N ρ ⟨d, op, ty, pos, aft, some (j, b)⟩ := Ah hd hlt hv
end
section
inductive Ex where
 |mk (kind num pick count:Int) (kids:List Ex)
namespace Ex
def kind:Ex→Int|mk k _ _ _ _=>k
def num:Ex→Int|mk _ n _ _ _=>n
def pick:Ex→Int|mk _ _ p _ _=>p
def count:Ex→Int|mk _ _ _ c _=>c
def kids:Ex→List Ex|mk _ _ _ _ l=>l
def zero:Ex:=mk 0 0 0 0 []
end Ex
abbrev Bw (x:Int):Prop:=-9223372036854775808≤x∧x≤9223372036854775807
def Rt (e:Ex)(v:Value):List Value:=[.int .i64 e.kind,.int .i64 e.num,.int .i64 e.pick,.int .i64 e.count,v]
structure aO (e:Ex):Prop where
 kind:Bw e.kind
 num:Bw e.num
 pick:Bw e.pick
 count:Bw e.count
def N1:Nat→BS Ex
 |0=>fun _ _ _ _=>False
 |d+1=>fun H cs e F=>∃v,cs=Rt e v∧aO e∧D7 5 (N1 d) H v e.kids F
theorem As:∀d,Ct 5 (N1 d)
 |0=>⟨fun h=>h.elim,fun h=>h.elim,fun h=>h.elim,fun h=>h.elim⟩
 |d+1=>by
  have ih:=As d
  refine⟨?_,?_,?_,?_⟩
  rintro H cs e F ⟨v,rfl,_,_⟩;rfl
  rintro H cs e F ⟨v,rfl,_,h⟩ u hu
  unfold Rt at hu
  simp only[ze,z2,or_false]at hu
  rcases hu with rfl|rfl|rfl|rfl|rfl
  exact⟨rfl,rfl⟩
  exact⟨rfl,rfl⟩
  exact⟨rfl,rfl⟩
  exact⟨rfl,rfl⟩
  exact⟨(Al ih).cells h,(Al ih).one h⟩
  rintro H cs e F ⟨v,rfl,_,h⟩ b hb
  exact (Al ih).lt h b hb
  rintro H H' cs e F ⟨v,rfl,hr,h⟩ hb
  exact⟨v,rfl,hr,(Al ih).stable h hb⟩
structure RX (S:List Nat)(d:Nat)(H:Array Obj)(v:Value)(e:Ex):Prop where
 rng:aO e
 rn:RN S (D7 5 (N1 d)) H v e.kids
theorem RX.of {S:List Nat}{d:Nat}{H:Array Obj}{cs:List Value}{e:Ex}(h:RN S (N1 d) H cs e):∃d' v,d=d'+1∧cs=Rt e v∧RX S d' H v e:=by
 obtain⟨F,h,hb⟩:=h;cases d with
 |zero=>exact h.elim
 |succ d =>
  obtain⟨v,rfl,hr,h⟩:=h;exact⟨d,v,rfl,rfl,hr,F,h,hb⟩
theorem RX.mk' {S:List Nat}{d:Nat}{H:Array Obj}{v:Value}{e:Ex}(h:RX S d H v e):RN S (N1 (d+1)) H (Rt e v) e:=by obtain⟨hr,F,h,hb⟩:=h;exact⟨F,⟨v,rfl,hr,h⟩,hb⟩
section rx
variable {S:List Nat} {d:Nat} {w w':World} {v:Value} {e:Ex}
theorem RX.ext (h:RX S d w.heap v e)(k:AI w w'):RX S d w'.heap v e:=⟨h.rng,h.rn.ext (Al (As d)) k⟩
theorem RX.ones {H:Array Obj}(h:RX S d H v e):∀u∈Rt e v,u.cells=#[u]∧u.oneCell'=true:=by obtain⟨F,h,_⟩:=h.mk';exact (As (d+1)).one h
end rx
structure Fn where
 name:ByteArray
 params:Int
 outs:List Ex
def Fn.zero:Fn:=⟨.empty,0,[]⟩
def T6 (f:Fn)(v:Value):List Value:=[.string f.name,.int .i64 f.params,v]
def aV (d:Nat):BS Fn:=fun H cs f F=>∃v,cs=T6 f v∧Bw f.params∧D7 5 (N1 d) H v f.outs F
theorem Aw (d:Nat):Ct 3 (aV d):=by have ih:=Al<|As d;refine⟨?_,?_,?_,?_⟩;rintro H cs e F ⟨v,rfl,_,_⟩;rfl;rintro H cs e F ⟨v,rfl,_,h⟩ u hu;unfold T6 at hu;simp only[ze,z2,or_false]at hu;rcases hu with rfl|rfl|rfl;exact⟨rfl,rfl⟩;exact⟨rfl,rfl⟩;exact⟨ih.cells h,ih.one h⟩;rintro H cs e F ⟨v,rfl,_,h⟩ b hb;exact ih.lt h b hb;rintro H H' cs e F ⟨v,rfl,hr,h⟩ hb;exact⟨v,rfl,hr,ih.stable h hb⟩
structure RF (S:List Nat)(d:Nat)(H:Array Obj)(v:Value)(f:Fn):Prop where
 rng:Bw f.params
 rn:RN S (D7 5 (N1 d)) H v f.outs
theorem RF.of {S:List Nat}{d:Nat}{H:Array Obj}{cs:List Value}{f:Fn}(h:RN S (aV d) H cs f):∃v,cs=T6 f v∧RF S d H v f:=by obtain⟨F,⟨v,rfl,hr,h⟩,hb⟩:=h;exact⟨v,rfl,hr,F,h,hb⟩
theorem RF.one {S:List Nat}{d:Nat}{H:Array Obj}{v:Value}{f:Fn}(h:RF S d H v f):v.cells=#[v]∧v.oneCell'=true:=by obtain⟨_,F,h,_⟩:=h;exact⟨(Al (As d)).cells h,(Al (As d)).one h⟩
theorem RF.ones {S:List Nat}{d:Nat}{H:Array Obj}{v:Value}{f:Fn}(h:RF S d H v f):∀u∈T6 f v,u.cells=#[u]∧u.oneCell'=true:=by intro u hu;unfold T6 at hu;simp only[ze,z2,or_false]at hu;rcases hu with rfl|rfl|rfl;exact⟨rfl,rfl⟩;exact⟨rfl,rfl⟩;exact h.one
abbrev RP (S:List Nat)(d:Nat)(H:Array Obj)(v:Value)(p:List Fn):Prop:=RN S (D7 3 (aV d)) H v p
theorem Bq {v:Value}{n:Nat}(h:ES v n):v.cells=#[v]∧v.oneCell'=true:=by obtain⟨a,c,rfl,_⟩:=h;exact⟨rfl,rfl⟩
mutual
def Ex.size:Ex→Nat
 |.mk _ _ _ _ l=>1+Ex.sizes l
def Ex.sizes:List Ex→Nat
 |[]=>0
 |e::l=>e.size+Ex.sizes l
end
mutual
def Ex.deep:Ex→Nat
 |.mk _ _ _ _ l=>Ex.deeps l+1
def Ex.deeps:List Ex→Nat
 |[]=>0
 |e::l=>max e.deep (Ex.deeps l)
end
theorem DT (e:Ex):e.size=1+Ex.sizes e.kids:=by cases e;rw[Ex.size];rfl
theorem DU (e:Ex):e.deep=Ex.deeps e.kids+1:=by cases e;rw[Ex.deep];rfl
theorem Ky (l:List Ex)(e:Ex):Ex.sizes (l++[e])=Ex.sizes l+e.size:=by
 induction l with
 |nil=>rw[zl,Ex.sizes,Ex.sizes,Ex.sizes];omega
 |cons x l ih=>rw[List.cons_append,Ex.sizes,Ex.sizes,ih];omega
theorem Kz (l:List Ex)(e:Ex):Ex.deeps (l++[e])=max (Ex.deeps l) e.deep:=by
 induction l with
 |nil=>rw[zl,Ex.deeps,Ex.deeps,Ex.deeps];omega
 |cons x l ih=>rw[List.cons_append,Ex.deeps,Ex.deeps,ih];omega
theorem EJ {l:List Ex}{k:Nat}(hk:k<l.length):Ex.sizes (l.take (k+1))=Ex.sizes (l.take k)+(l.getD k Ex.zero).size:=by rw[List.take_succ_eq_append_getElem hk,Ky];simp[hk]
theorem KA {l:List Ex}{k:Nat}(hk:k<l.length):Ex.deeps (l.take (k+1))=max (Ex.deeps (l.take k)) (l.getD k Ex.zero).deep:=by rw[List.take_succ_eq_append_getElem hk,Kz];simp[hk]
theorem E8:∀(l:List Ex)(k:Nat),Ex.sizes (l.take k)≤Ex.sizes l
 |l,0=>by rw[List.take_zero,Ex.sizes];omega
 |[],k+1=>by simp
 |e::l,k+1=>by rw[List.take_succ_cons,Ex.sizes,Ex.sizes];have:=E8 l k;omega
theorem Nw {l:List Ex}{k:Nat}(hk:k<l.length):(l.getD k Ex.zero).size≤Ex.sizes l:=by have h1:=EJ hk;have h2:=E8 l (k+1);omega
theorem Pt:Ex.sizes []=0:=by rw[Ex.sizes]
theorem Pu:Ex.deeps []=0:=by rw[Ex.deeps]
theorem Pv {l:List Ex}{k:Nat}(hk:l.length≤k):Ex.sizes (l.take k)=Ex.sizes l:=by rw[za hk]
theorem M2 {l:List Ex}{k:Nat}(hk:l.length≤k):Ex.deeps (l.take k)=Ex.deeps l:=by rw[za hk]
mutual
theorem JN:∀e:Ex,e.deep≤e.size
 |.mk _ _ _ _ l=>by rw[Ex.deep,Ex.size];have:=Nx l;omega
theorem Nx:∀l:List Ex,Ex.deeps l≤Ex.sizes l
 |[]=>by rw[Ex.deeps,Ex.sizes];omega
 |e::l=>by rw[Ex.deeps,Ex.sizes];have:=JN e;have:=Nx l;omega
end
section ops
variable {P:Program} {ops:Array Oper} {w0:World} {Q:Act→World→Prop} {os:List Oper} {ks:List Nat} {N:Nat} {ρ:Nat→Value} {w:World}
 {d:Nat} {ty:TypeId} {pos:String} {aft:Array Edge} {g:Option (Nat×Bool)}
theorem lU {t t':TypeId}{x y:Operand}{k:IntKind}{a b:Int}(c:Int)(hc:max a b=c)(hx:Bk N ρ x=.int k a)(hy:Bk N ρ y=.int k b)(hu:Up ops N ρ ⟨some d,.call ⟨.builtin .max,#[x,y],#[t,t']⟩,ty,pos,aft,g⟩)
  (h:LW P ops w0 Q os ks (mk N (Ch ρ d (.int k c))) w):LW P ops w0 Q (⟨some d,.call ⟨.builtin .max,#[x,y],#[t,t']⟩,ty,pos,aft,g⟩::os) (0::ks) (mk N ρ) w :=
 D2 (by decide) rfl hu _ (fun w' _=>by
  have e:(if b > a then b else a)=c:=by omega
  simp[execOp,resolve,invoke,builtin,hx,hy,Builtin.max_,Builtin.max2,List.foldlM,e]) h
end ops
end
section
open Go Go.ChangeShapes Go.WideShapes Go.RowKit Go.Deep
theorem Xz {α:Type}{E:BL α}{H:Array Obj}(U:Nat→Value)(X:Nat→α):∀(n:Nat),(∀i,i<n→Rd E H (U i) (X i))→∃F,els E H ((List.range n).map U) ((List.range n).map X) F
 |0,_=>⟨[],rfl⟩
 |n+1,h=>by
  obtain⟨F,hF⟩:=Xz U X n fun i hi=>h i zO
  obtain⟨G,hG⟩:=h n zO
  refine⟨F++(G++[]),?_⟩
  rw[List.range_succ,List.map_append,List.map_append]
  exact els.append hF ⟨G,[],rfl,hG,rfl⟩
theorem gL {α:Type}{E:BL α}{W:World}{a:Option Addr}{n cap:Nat}(ha:a=none→n=0)(hm:n≤maxLen)(U:Nat→Value)(X:Nat→α)
  (hc:∀a' i,a=some a'→i<n→W.cell? (a'.add i)=some (U i)) (hE:∀i,i<n→Rd E W.heap (U i) (X i)):Rd (B8 E) W.heap (.slice a n cap) ((List.range n).map X):=by
 by_cases h0:n=0;subst h0;exact⟨[],.inl ⟨a,cap,rfl,rfl,rfl⟩⟩;obtain⟨F,hF⟩:=Xz U X n hE;cases a with
 |none=>exact absurd (ha rfl) h0
 |some a' =>
  obtain⟨g,off,spot⟩:=a';have h1:=hc _ 0 rfl zO;have hs:spot=none:=by simpa [Addr.add]using World.cell?_spot h1
  subst hs;have hcell:∀i,i<n→Cv W.heap g (off+i)=some (U i):=fun i hi=>by
   have:=hc _ i rfl hi;rw[add_plain,BY]at this;exact this
  have h2:=hcell 0 zO;unfold Cv at h2;cases hg:W.heap[g]? with
  |none=>rw[hg]at h2;cases h2
  |some o =>
   cases o with
   |cells cur e fr =>
    refine⟨g::F,.inr ⟨(List.range n).map U,g,off,cap,cur,e,fr,F,hF,by simp,hg,?_,by simpa using hm,rfl⟩⟩;apply List.ext_getElem?
    intro i;simp only[zg,List.length_range,List.getElem?_take,List.getElem?_drop];by_cases hi:i<n;have:=hcell i hi;unfold Cv at this;rw[hg]at this;simp only[Array.getElem?_toList]at *;rw[if_pos hi,this];simp[hi];rw[if_neg hi];simp[hi]
   |_=>rw[hg]at h2;cases h2
section
variable {H:Type} {enc:TypeId × Value→H} {P:Program} {W:World}
theorem AI.trodAll (hl:laidOutB P=true){W':World}(hx:AI W W'):∀ {ts:List TypeId}{vs:List Value}{ds:List (DataW H)}{ps:List MemPlace},(∀t∈ts,P.readableRec t=true∧t<P.types.size)→(∀x∈ps,x.block<W.heap.size) →
  DataW.TrodAll enc P W 0 (fun _=>true) true ts vs ds ps→DataW.TrodAll enc P W' 0 (fun b=>decide (b<W.heap.size)) true ts vs ds ps
 |[],[],[],_,_,_,h=>h
 |t::ts,v::vs,d::ds,ps,hr,hlt,⟨p,q,h1,h2,e⟩=>by
  subst e
  exact⟨p,q,Below.trod hl (hr t (z0 ..)).1 (hr t (z0 ..)).2 h1 hx fun x hx=>hlt x (z8 _ hx),
   AI.trodAll hl hx (fun t ht=>hr t (z3 _ ht)) (fun x hx=>hlt x (z1 _ hx)) h2,rfl⟩
 |[],[],_::_,_,_,_,h=>h.elim
 |[],_::_,_,_,_,_,h=>h.elim
 |_::_,[],_,_,_,_,h=>h.elim
 |_::_,_::_,[],_,_,_,h=>h.elim
theorem XA {fn:Func}{s:ChangeSpec}{W':World}{args:Array Value}{ds:List (DataW H)}{before:List MemPlace}{tb:TypeId}(hl:laidOutB P=true)
  (hr:∀t∈fn.params.toList,P.readableRec t=true∧t<P.types.size) (hv:s.vars=[]) (hres:fn.resultTypes=#[tb]) (hb:P.underlying tb=some .bool)
  (hW:DataW.Whole enc P fn.params.toList s.vars false W args.toList ds [] before) (he:s.fn H (ds++[]) = { results:=[.lit (.bool true)],args:=ds }) (hx:AI W W') :
  s.post enc P fn false true false false W args (.bool true) W':=by
 have hW':=hW;obtain⟨p,q,hA,hV,rfl,hfz,hnd⟩:=hW;have hlt:∀x∈p++q,x.block<W.heap.size:=fun x hx=>hW'.lt x hx;rw[hv]at hV;obtain⟨_,rfl⟩:=trodVars_none hV;refine⟨ds,[],_,[],p,[],hW',?_,?_,?_,Below.frame hx _,fun h=>by cases h⟩;rw[he,hres];exact trodAll_mk1 (shut_bool hb true);rw[he];exact AI.trodAll hl hx hr (fun x hx=>hlt x (z8 _ hx)) hA;rw[he,hv];rfl
end
end
section
open Go Go.ChangeShapes Go.WideShapes Go.RowKit Go.Deep
section
variable {H:Type} {enc:TypeId × Value→H} {P:Program} {W:World}
theorem aW {z:Int}(h:0≤z∧z≤255):(((UInt8.ofNat z.toNat).toNat:Nat):Int)=z:=by rw[UInt8.toNat_ofNat'];omega
theorem To {q:TypeId}{base fuel:Nat}{held:Bool}{u:Value}{x:DataW H×List MemPlace}{t:TypeId}(ht:P.underlying t=some (.slice q))(hq:P.underlying q=some (.int .u8))(cq:P.cellsOf q=1)
  (hf:DataW.trod enc P W base (fun _=>true) held fuel t [u]=some x):∃zsq:List UInt8,Rd (B8 rU) W.heap u zsq:=by
 rcases open_ints ht hq cq hf with⟨hcs,_⟩|⟨a,len,cap,zsq,hcs,_,hl,hm,hz,_,hc,hw⟩;simp only[List.cons.injEq,and_true]at hcs;subst hcs;exact⟨[],[],.inl ⟨none,0,rfl,rfl,rfl⟩⟩;simp only[List.cons.injEq,and_true]at hcs;subst hcs;simp only[if_true]at hz;refine⟨(List.range len).map fun i=>UInt8.ofNat (zsq.getD i 0).toNat,gL (fun h=>by cases h) zO (fun i=>.int .u8 (zsq.getD i 0)) _ (fun a' i ea hi=>by cases ea;exact hc i zO) fun i hi=>⟨[],?_,rfl⟩⟩;have hb:0≤zsq.getD i 0∧zsq.getD i 0≤255:=by
  have h:=hw (zsq.getD i 0) (by
   rw[List.getD_eq_getElem?_getD,List.getElem?_eq_getElem (show i<zsq.length by omega)];exact List.getElem_mem _)
  simp only[Lit.wf,z7,decide_eq_true_eq]at h;exact h
 rw[aW hb]
theorem Ru {t q:TypeId}{base:Nat}{held:Bool}{v:Value}{d:DataW H}{ps:List MemPlace}(ht:P.underlying t=some (.slice q))(hq:P.underlying q=some (.int .u8))(cq:P.cellsOf q=1)
  (hv:∃a len cap,v=.slice a len cap) (h:DataW.Trod enc P W base (fun _=>true) held t v d ps):∃zsq:List UInt8,Rd (B8 rU) W.heap v zsq:=by
 obtain⟨a0,n0,c0,rfl⟩:=hv;obtain⟨fuel,hf⟩:=h;exact To ht hq cq hf
end
end
section
def LV (s:ByteArray)(i:Nat):Nat:=((s[i]?).getD 0).toNat
section ops
variable {P:Program} {ops:Array Oper} {w0:World} {Q:Act→World→Prop} {os:List Oper} {ks:List Nat} {N:Nat} {ρ:Nat→Value} {w:World}
 {d:Nat} {ty:TypeId} {pos:String} {aft:Array Edge} {g:Option (Nat×Bool)}
theorem E1 {t:TypeId}{x y:Operand}{s:ByteArray}{i:Int}(j:Nat)(ht:P.underlying t=some .string)(hx:Bk N ρ x=.string s)(hy:Bk N ρ y=.int .i64 i)(hj:i=(j:Int))(hlt:j<s.size)(hu:Up ops N ρ ⟨some d,.index t x y,ty,pos,aft,g⟩)
  (h:LW P ops w0 Q os ks (mk N (Ch ρ d (.int .u8 ((LV s j:Nat):Int)))) w):LW P ops w0 Q (⟨some d,.index t x y,ty,pos,aft,g⟩::os) (0::ks) (mk N ρ) w :=
 D2 (by decide) rfl hu _ (fun w' _=>by
  subst hj
  have e:s[j]? = some s[j]:=getElem?_pos s j hlt
  simp[execOp,hx,hy,Instr.index,asIntOf,run_underlying ht,e,LV]) h
end ops
end
section
structure Ow {α:Type}(E:BL α)(B T:Nat)(H:Array Obj)(v:Value)(x:α)(F:List Nat):Prop where
 own:E H v x F
 nodup:F.Nodup
 low:∀b∈F,B≤b
 high:∀b∈F,b<T
section
variable {α:Type} {E:BL α} {B T U:Nat} {w w':World} {v:Value} {x:α} {F G:List Nat}
theorem Ow.of_fr (h:Fr E B U w.heap v x)(hT:U≤T):∃F,Ow E B T w.heap v x F:=by obtain⟨F,h1,h2,h3⟩:=h;exact⟨F,h1,h2,fun b hb=>(h3 b hb).1,fun b hb=>by have:=h3 b hb;omega⟩
theorem Ow.fr (h:Ow E B T w.heap v x F):Fr E B T w.heap v x:=⟨F,h.own,h.nodup,fun b hb=>⟨h.low b hb,h.high b hb⟩⟩
theorem Ow.ext (hE:CA E)(h:Ow E B T w.heap v x F)(k:AI w w'):Ow E B T w'.heap v x F:=⟨N0 hE h.own k,h.nodup,h.low,h.high⟩
theorem Ow.keep (hE:CA E)(h:Ow E B T w.heap v x F)(c:AF G w w')(hG:∀b∈G,b∉F):Ow E B T w'.heap v x F:=⟨X0 hE h.own c hG,h.nodup,h.low,h.high⟩
theorem Ow.up {T':Nat}(h:Ow E B T w.heap v x F)(hT:T≤T'):Ow E B T' w.heap v x F:=⟨h.own,h.nodup,h.low,fun b hb=>Nat.lt_of_lt_of_le (h.high b hb) hT⟩
end
section ops
variable {P:Program} {ops:Array Oper} {w0:World} {Q:Act→World→Prop} {os:List Oper} {ks:List Nat} {N:Nat} {ρ:Nat→Value} {w:World}
 {d:Nat} {ty:TypeId} {pos:String} {aft:Array Edge} {g:Option (Nat×Bool)} {t e:TypeId} {z:Value} {b:Nat}
theorem gM {α:Type}{E:BL α}(hE:CA E){x y:Operand}{v a:Value}{xs ys:List α}{B T B' U':Nat}{F:List Nat}(ht:P.underlying t=some (.slice e))(hi:TI P e 1 z b)(hz:z.cells=#[z])(hx:Bk N ρ x=v)(hy:Bk N ρ y=a)(hv:Ow (By E e) B T w.heap v xs F)
  (ha:Fr (By E e) B' U' w.heap a ys) (hT:T≤B') (hBB:B≤B') (hBw:B'≤w.heap.size) (hbytes:(xs.length+ys.length)*b≤140737488355328) (hmx:xs.length+ys.length≤maxLen) (hu:Up ops N ρ ⟨some d,.call ⟨.builtin .append,#[x,y],#[t,t]⟩,ty,pos,aft,g⟩)
  (h:∀v1 w1 F1,AF (F.take 1) w w1→Ow (By E e) B w1.heap.size w1.heap v1 (xs++ys) F1→(∀c∈F1,c∈F∨B'≤c)→LW P ops w0 Q os ks (mk N (Ch ρ d v1)) w1) :
  LW P ops w0 Q (⟨some d,.call ⟨.builtin .append,#[x,y],#[t,t]⟩,ty,pos,aft,g⟩::os) (4::ks) (mk N ρ) w:=by
 obtain⟨h1,h2,h3,h4⟩:=hv;obtain⟨G,g1,g2,g3⟩:=ha;have gd:∀c∈G.drop 1,c∈G:=fun c hc=>List.mem_of_mem_drop hc;obtain⟨v',w',F',r1,r2,r3,r4,r5⟩:=Lh (P:=P) (ty:=ty) hE ht hi hz h1 h2 (g1.rd id) rfl hbytes hmx (fun c hc hF=>by have:=g3 c (gd c hc);have:=h4 c hF;omega)
  ((List.drop_sublist 1 G).nodup g2)
 refine IV rfl hu v' w' (by simp only[execOp,resolve,invoke,builtin,zc,zf,zh,Sem.run_bind,Sem.run_pure,Result.andThen_ok,hx,hy,r1]) (h v' w' F' r5 ⟨r2,r3,fun c hc=>?_,fun c hc=>(B3 hE).lt r2 c hc⟩ fun c hc=>?_);rcases r4 c hc with hh|hh|hh;exact h3 c hh;have:=g3 c (gd c hh);omega;omega;rcases r4 c hc with hh|hh|hh;exact .inl hh;exact .inr (g3 c<|gd c hh).1;exact .inr zO
end ops
end
section
theorem K5 {β:Type}{l r:List β}{k:Nat}{d:β}(h:k<l.length):(l++r).getD k d=l.getD k d:=by rw[List.getD_eq_getElem?_getD,List.getD_eq_getElem?_getD,List.getElem?_append_left h]
theorem KB {β:Type}{l:List β}{x d:β}{k:Nat}(h:k=l.length):(l++[x]).getD k d=x:=by subst h;rw[List.getD_eq_getElem?_getD,List.getElem?_append_right (A7 _)];simp
theorem BD {g:Nat}{S:List Nat}(hg:g∈S):∀x∈[g],x∈S:=fun x hx=>by rw[A9 hx];exact hg
theorem P3 {g:Nat}{S F:List Nat}(hg:g∈S):∀x∈[g],x∈S++F:=fun x hx=>z8 _ (BD hg x hx)
theorem B8.get2 {α:Type}{E:BL α}{H:Array Obj}{v:Value}{xs:List α}{F:List Nat}(d:α){k:Nat}(h:B8 E H v xs F)(hk:k<xs.length) :
  ∃u F1,(∀H':Array Obj,(∀b∈F,H'[b]? = H[b]?)→IJ H' (BJ v k 1)=some u)∧E H u (xs.getD k d) F1∧∀b∈F1,b∈F:=by
 rcases h with⟨a,cap,rfl,rfl,_⟩|⟨us,g,off,cap,cur,e,fr,F',h,rfl,hg,hw,_,rfl⟩;simp at hk;obtain⟨u,F1,hu,hx,hb⟩:=h.get d hk;refine⟨u,F1,fun H' hH=>?_,hx,fun b hh=>z3 _ (hb b hh)⟩;rw[He];simp only[IJ,Cv,hH g (z0 ..),hg];rw[← hw,List.getElem?_take,if_pos hk,List.getElem?_drop]at hu;simpa using hu
section rn
variable {α:Type} {S F:List Nat} {w w':World} {E:BL α} {v:Value} {xs:List α} {x:α} {g:Nat}
theorem RN.run (hE:CA E)(h:RN S E w.heap v x)(hg:g∈S)(c:AF [g] w w'):RN S E w'.heap v x:=h.chg hE (c.sub (BD hg))
theorem RN.add (hE:CA E)(h:RN S E w.heap v x)(hF:∀b∈F,w.heap.size≤b):RN (S++F) E w.heap v x:=by obtain⟨G,h1,h2⟩:=h;refine⟨G,h1,fun b hb hm=>(zi.1 hm).elim (h2 b hb) fun hf=>?_⟩;have:=hE.lt h1 b hb;have:=hF b hf;omega
theorem RN.getL (hE:CA E)(d:α){k:Nat}(h:RN S (B8 E) w.heap v xs)(hk:k<xs.length) :
  ∃u,(∀w',AF S w w'→IJ w'.heap (BJ v k 1)=some u)∧RN S E w.heap u (xs.getD k d):=by
 obtain⟨F,h,hb⟩:=h;have hlt:=(IW hE).lt h;obtain⟨u,F1,h1,h2,h3⟩:=B8.get2 d h hk;exact⟨u,fun w' c=>h1 _ fun b hm=>c.block b (hlt b hm) (hb b hm),F1,h2,fun b hm=>hb b (h3 b hm)⟩
theorem RN.getI {xs:List Int}{k:Nat}(h:RN S (B8 rI) w.heap v xs)(hk:k<xs.length) :
  (∀w',AF S w w'→IJ w'.heap (BJ v k 1)=some (.int .i64 (xs.getD k 0)))∧-9223372036854775808≤xs.getD k 0∧xs.getD k 0≤9223372036854775807:=by
 obtain⟨u,h1,F1,h2,_⟩:=h.getL Ay 0 hk;rw[h2.1]at h1;exact⟨h1,h2.2.2⟩
theorem RN.slL {H:Array Obj}(h:RN S (B8 E) H v xs):Go.Proofs.YtemfgblmfahllaaGreat.ES v xs.length:=by obtain⟨F,h,_⟩:=h;exact B8.isSl h
theorem RN.lenL {H:Array Obj}(h:RN S (B8 E) H v xs):xs.length≤maxLen:=by obtain⟨F,h,_⟩:=h;exact h.lenle
theorem RN.of_fr1 {e:TypeId}{B U:Nat}{H:Array Obj}{xs:List Int}(h:Fr (By rI e) B U H v xs)(hS:∀b∈S,b<B):RN S (B8 rI) H v xs:=by obtain⟨F,h1,_,h3⟩:=h;exact⟨F,h1.rd id,fun b hb hm=>by have:=h3 b hb;have:=hS b hm;omega⟩
theorem RN.of_fr2 {e e':TypeId}{B U:Nat}{H:Array Obj}{xs:List (List Int)}(h:Fr (By (By rI e) e') B U H v xs)(hS:∀b∈S,b<B):RN S (B8 (B8 rI)) H v xs:=by obtain⟨F,h1,_,h3⟩:=h;exact⟨F,h1.rd fun h=>h.rd id,fun b hb hm=>by have:=h3 b hb;have:=hS b hm;omega⟩
theorem RN.one1 {H:Array Obj}(hE:CA E)(h:RN S E H v x):v.cells=#[v]∧v.oneCell'=true:=by obtain⟨F,h,_⟩:=h;exact⟨hE.cells h,hE.one h⟩
end rn
def rP {α:Type}(E:BS α):BL α:=fun H v x F=>∃cs F' g o,v=.pointer (some ⟨g,o,none⟩)∧g<H.size∧(∀i,i<cs.length→Cv H g (o+i)=some (cs.getD i undef))∧E H cs x F'∧F=g::F'
theorem AO {α:Type}{s:Nat}{E:BS α}(hE:Ct s E):CA (rP E) where
 cells:=by rintro H v x F ⟨cs,F',g,o,rfl,_⟩;rfl
 one:=by rintro H v x F ⟨cs,F',g,o,rfl,_⟩;rfl
 lt:=by
  rintro H v x F ⟨cs,F',g,o,rfl,hg,hc,he,rfl⟩ b hb;rcases ze.1 hb with rfl|hb;exact hg;exact hE.lt he b hb
 stable:=by
  rintro H H' v x F ⟨cs,F',g,o,rfl,hg,hc,he,rfl⟩ hb;refine⟨cs,F',g,o,rfl,?_,fun i hi=>?_,hE.stable he fun b hm=>hb b (z3 _ hm),rfl⟩;have:=hb g (z0 ..);rcases Nat.lt_or_ge g H'.size with h|h;exact h;rw[Array.getElem?_eq_none h,Array.getElem?_eq_getElem hg]at this;cases this;have:=hc i hi;unfold Cv at this ⊢;rw[hb g (z0 ..)];exact this
section rp
variable {α:Type} {S:List Nat} {w w':World} {s:Nat} {E:BS α} {v p:Value} {xs:List α} {x:α}
theorem RN.ptr (hE:Ct s E)(hs:0<s)(d:α){k:Nat}{H:Array Obj}(h:RN S (D7 s E) H v xs)(hk:k<xs.length):RN S (rP E) H (BJ v k s) (xs.getD k d):=by
 obtain⟨F,h,hb⟩:=h;rcases h with⟨a,cap,rfl,rfl,_⟩|⟨css,g,off,cap,cur,e,fr,F',h,rfl,hg,hw,_,rfl⟩;simp at hk;obtain⟨cs,F1,q1,q2,q3⟩:=h.get hE d hk;rw[Nv];refine⟨g::F1,⟨cs,F1,g,off+k*s,rfl,getElem?_lt hg,fun i hi=>?_,q1,rfl⟩,fun b hm=>?_⟩;rw[hE.len q1]at hi;have h1:=q3 i hi;have hlt:k*s+i<xs.length*s:=by
  have:(k+1)*s≤xs.length*s:=Nat.mul_le_mul_right s hk;rw[Nat.succ_mul]at this;omega
 rw[← hw,List.getElem?_take,if_pos hlt,List.getElem?_drop]at h1;simp only[Cv,hg];rw[Nat.add_assoc];simpa using h1;rcases ze.1 hm with rfl|hm;exact hb _ (z0 ..);exact hb b<|z3 _<|q2 b hm
theorem RN.at (hE:Ct s E)(h:RN S (rP E) w.heap p x):∃cs,RN S E w.heap cs x∧∀w',AF S w w'→LD w'.heap p cs:=by obtain⟨F,h,hb⟩:=h;have hlt:=(AO hE).lt h;obtain⟨cs,F',g,o,rfl,hg,hc,he,rfl⟩:=h;refine⟨cs,⟨F',he,fun b hm=>hb b (z3 _ hm)⟩,fun w' c=>⟨g,o,rfl,fun i hi=>?_⟩⟩;have:=hc i hi;unfold Cv at this ⊢;rw[c.block g hg (hb g (z0 ..))];exact this
theorem RN.isPtr {H:Array Obj}(h:RN S (rP E) H p x):∃g o,p=.pointer (some ⟨g,o,Option.none⟩):=by obtain⟨F,⟨cs,F',g,o,rfl,_⟩,_⟩:=h;exact⟨g,o,rfl⟩
theorem RN.box {b:Nat}{H:Array Obj}{cs:List Value}(hB:BX H b cs)(h:RN S E H cs x)(hb:b∉S):RN S (rP E) H (.pointer (some ⟨b,0,Option.none⟩)) x:=by have hl:=hB.lt;obtain⟨e,hB⟩:=hB;obtain⟨F,h1,h2⟩:=h;refine⟨b::F,⟨cs,F,b,0,rfl,hl,fun i hi=>?_,h1,rfl⟩,fun c hc=>?_⟩;simp only[Cv,hB];simp[hi];rcases ze.1 hc with rfl|hc;exact hb;exact h2 c hc
end rp
def KC (d:Nat):BS (List Fn):=fun H cs p F=>∃v,cs=[v]∧D7 3 (aV d) H v p F
theorem AJ (d:Nat):Ct 1 (KC d):=by have ih:=Al<|Aw d;refine⟨?_,?_,?_,?_⟩;rintro H cs e F ⟨v,rfl,_⟩;rfl;rintro H cs e F ⟨v,rfl,h⟩ u hu;rw[A9 hu];exact⟨ih.cells h,ih.one h⟩;rintro H cs e F ⟨v,rfl,h⟩ b hb;exact ih.lt h b hb;rintro H H' cs e F ⟨v,rfl,h⟩ hb;exact⟨v,rfl,ih.stable h hb⟩
theorem RPr.of {S:List Nat}{d:Nat}{H:Array Obj}{cs:List Value}{p:List Fn}(h:RN S (KC d) H cs p):∃v,cs=[v]∧RP S d H v p:=by obtain⟨F,⟨v,rfl,h⟩,hb⟩:=h;exact⟨v,rfl,F,h,hb⟩
theorem RP.mk' {S:List Nat}{d:Nat}{H:Array Obj}{v:Value}{p:List Fn}(h:RP S d H v p):RN S (KC d) H [v] p:=by obtain⟨F,h,hb⟩:=h;exact⟨F,⟨v,rfl,h⟩,hb⟩
structure Gc (e:TypeId)(S:List Nat)(B:Nat)(H:Array Obj)(v:Value)(xs:List (List Int))(us:List Value)(F:List Nat):Prop where
 own:By rV e H v us F
 nd:F.Nodup
 low:∀b∈F,B≤b
 len:us.length=xs.length
 els:∀k,k<xs.length→RN (S++F) (B8 rI) H (us.getD k undef) (xs.getD k [])
def Rv (e:TypeId)(S:List Nat)(B:Nat)(H:Array Obj)(v:Value)(xs:List (List Int)):Prop:=∃us F,Gc e S B H v xs us F
section bld
variable {e:TypeId} {S F:List Nat} {B:Nat} {w w':World} {v:Value} {xs:List (List Int)} {us:List Value} {g:Nat}
theorem Gc.nil {U:Nat}{H:Array Obj}(h:Fr (By rV e) B U H v []):Rv e S B H v []:=by obtain⟨F,h1,h2,h3⟩:=h;exact⟨[],F,h1,h2,fun b hb=>(h3 b hb).1,rfl,fun k hk=>by simp at hk⟩
theorem Gc.lt {H:Array Obj}(h:Gc e S B H v xs us F):∀b∈F,b<H.size:=(B3 BQ).lt h.own
theorem Gc.ext (h:Gc e S B w.heap v xs us F)(k:AI w w'):Gc e S B w'.heap v xs us F :=
 ⟨(B3 BQ).stable h.own fun b hb=>k.heap (h.lt b hb),h.nd,h.low,h.len,fun i hi=>(h.els i hi).ext g1 k⟩
theorem Gc.run (h:Gc e S B w.heap v xs us F)(hg:g∈S)(hgB:g<B)(c:AF [g] w w'):Gc e S B w'.heap v xs us F :=
  ⟨(B3 BQ).stable h.own fun b hb=>c.block b (h.lt b hb) fun hm=>by have:=h.low b hb;rw[A9 hm]at this;omega,h.nd,h.low,h.len,
   fun i hi=>(h.els i hi).chg g1 (c.sub (P3 hg))⟩
theorem Pw {S:List Nat}{H:Array Obj}:∀ {us:List Value}{xs:List (List Int)},us.length=xs.length→(∀k,k<xs.length→RN S (B8 rI) H (us.getD k undef) (xs.getD k []))→∃G,els (B8 rI) H us xs G∧∀b∈G,b∉S
 |[],[],_,_=>⟨[],rfl,fun b hb=>by cases hb⟩
 |u::us,x::xs,hl,h=>by
  obtain⟨G1,q1,q2⟩:=h 0 (by simp)
  obtain⟨G2,r1,r2⟩:=Pw (us:=us) (xs:=xs) (by simpa using hl) fun k hk=>by
   have:=h (k+1) (by simpa using hk)
   simpa using this
  exact⟨G1++G2,⟨G1,G2,rfl,by simpa using q1,r1⟩,fun b hb=>(zi.1 hb).elim (q2 b) (r2 b)⟩
theorem Hf {H:Array Obj}:∀ {us vs:List Value}{F:List Nat},els rV H us vs F→us=vs∧F=[]
 |[],[],_,h=>⟨rfl,h⟩
 |_::_,_::_,_,⟨F1,F2,rfl,h1,h2⟩=>by
  obtain⟨rfl,rfl⟩:=Hf h2
  rw[h1.1,h1.2.1];exact⟨rfl,rfl⟩
 |[],_::_,_,h=>h.elim
 |_::_,[],_,h=>h.elim
theorem Gc.done {H:Array Obj}(h:Gc e S B H v xs us F)(hS:∀b∈S,b<B):RN S (B8 (B8 rI)) H v xs:=by obtain⟨G,g1,g2⟩:=Pw h.len h.els;have g2':∀b∈G,b∉S:=fun b hb hm=>g2 b hb (z8 _ hm);rcases h.own with⟨rfl,hus,rfl⟩|⟨vs,gb,cap,cur,F',hels,rfl,hg,r1,r2,r3,r4,hF⟩;have:xs=[]:=List.eq_nil_of_length_eq_zero (by rw[← h.len,hus];rfl);subst this;exact⟨[],.inl ⟨none,0,rfl,rfl,rfl⟩,fun b hb=>by cases hb⟩;obtain⟨hv,hF0⟩:=Hf hels;subst hv;have hl:=h.len;refine⟨gb::G,.inr ⟨vs,gb,0,cap,cur,e,(0,0),G,g1,by rw[hl],hg,by simpa [hl]using r4,zO,rfl⟩,fun b hb hm=>?_⟩;rcases ze.1 hb with rfl|hb;have:=h.low b (by rw[hF];exact z0 ..);have:=hS b hm;omega;exact g2' b hb hm
end bld
section ops
variable {P:Program} {ops:Array Oper} {w0:World} {Q:Act→World→Prop} {os:List Oper} {ks:List Nat} {N:Nat} {ρ:Nat→Value} {w:World}
 {d:Nat} {ty:TypeId} {pos:String} {aft:Array Edge} {g:Option (Nat×Bool)} {t e:TypeId} {z:Value} {b:Nat}
theorem DK {x y:Operand}{v a u:Value}{xs:List (List Int)}{r:List Int}{us:List Value}{S F:List Nat}{B B' U':Nat}(ht:P.underlying t=some (.slice e))(hi:TI P e 1 z b)(hz:z.cells=#[z])(hx:Bk N ρ x=v)(hy:Bk N ρ y=a)
  (hv:Gc e S B w.heap v xs us F) (hB:B≤w.heap.size) (ha:Fr (By rV e) B' U' w.heap a [u]) (hr:RN (S++F) (B8 rI) w.heap u r) (hbytes:(xs.length+1)*b≤140737488355328) (hmx:xs.length+1≤maxLen)
  (hu:Up ops N ρ ⟨some d,.call ⟨.builtin .append,#[x,y],#[t,t]⟩,ty,pos,aft,g⟩)
  (h:∀v1 w1 F0,AF F0 w w1→(∀c∈F0,c∈F)→Rv e S B w1.heap v1 (xs++[r])→LW P ops w0 Q os ks (mk N (Ch ρ d v1)) w1) :
  LW P ops w0 Q (⟨some d,.call ⟨.builtin .append,#[x,y],#[t,t]⟩,ty,pos,aft,g⟩::os) (4::ks) (mk N ρ) w:=by
 obtain⟨G,g1',g2',g3'⟩:=ha;have hG1:G.drop 1=[]:=by
  rcases g1' with⟨_,hc,_⟩|⟨vs,gb,cap,cur,F',hels,_,_,_,_,_,_,rfl⟩;cases hc;rw[(Hf hels).2];rfl
 obtain⟨v',w',F',r1,r2,r3,r4,r5⟩:=Lh (P:=P) (ty:=ty) BQ ht hi hz hv.own hv.nd (g1'.rd id) rfl (by rw[hv.len];exact hbytes) (by rw[hv.len];exact hmx) (by rw[hG1];intro c hc;cases hc) (by rw[hG1];exact zk);rw[hG1]at r4;refine IV rfl hu v' w' (by simp only[execOp,resolve,invoke,builtin,zc,zf,zh,Sem.run_bind,Sem.run_pure,Result.andThen_ok,hx,hy,r1])<|h v' w' (F.take 1) r5 (fun c hc=>zj hc) ⟨us++[u],F',r2,r3,fun c hc=>?_,by simp[hv.len],fun k hk=>?_⟩;rcases r4 c hc with hh|hh|hh;exact hv.low c hh;cases hh;omega;have key:∀ {v0:Value} {x0:List Int},RN (S++F) (B8 rI) w.heap v0 x0→RN (S++F') (B8 rI) w'.heap v0 x0:=by
  rintro v0 x0 ⟨K,k1,k2⟩;have hlt:=g1.lt k1;refine⟨K,g1.stable k1 fun c hc=>r5.block c (hlt c hc) fun hm=>k2 c hc (z1 _ (zj hm)),fun c hc hm=>?_⟩;rcases zi.1 hm with hm|hm;exact k2 c hc<|z8 _ hm;rcases r4 c hm with hh|hh|hh;exact k2 c hc<|z1 _ hh;cases hh;have:=hlt c hc;omega
 rw[z4,zd]at hk;by_cases hkx:k<xs.length;have h1:=key<|hv.els k hkx;have hku:k<us.length:=by rw[hv.len];exact hkx
 rw[K5 hku,K5 hkx];exact h1;have e1:k=xs.length:=by omega
 have e2:k=us.length:=by rw[hv.len];exact e1
 rw[KB e2,KB e1];exact key hr
def Cx:Value→Prop
 |.slice _ n c=>n≤c
 |_=>False
theorem By.cap {α:Type}{E:BL α}{e:TypeId}{H:Array Obj}{v:Value}{xs:List α}{F:List Nat}(h:By E e H v xs F):Cx v:=by rcases h with⟨rfl,_⟩|⟨us,g,cap,cur,F',_,rfl,_,h,_⟩;exact A7 _;exact h
theorem Fr.cap {α:Type}{E:BL α}{e:TypeId}{B U:Nat}{H:Array Obj}{v:Value}{xs:List α}(h:Fr (By E e) B U H v xs):Cx v:=by obtain⟨F,h,_⟩:=h;exact h.cap
theorem Gc.cap {e:TypeId}{S F:List Nat}{B:Nat}{H:Array Obj}{v:Value}{xs:List (List Int)}{us:List Value}(h:Gc e S B H v xs us F):Cx v:=h.own.cap
def EP:Value→Value
 |.slice a n _=>.slice a n n
 |v=>v
theorem gN {x y:Operand} {v a u:Value} {xs:List (List Int)} {r:List Int} {S:List Nat} {B' U':Nat} (ht:P.underlying t = some (.slice e)) (hi:TI P e 1 z b) (hz:z.cells = #[z]) (hx:Bk N ρ x = EP v) (hy:Bk N ρ y = a)
  (hv:RN S (B8 (B8 rI)) w.heap v xs) (ha:Fr (By rV e) B' U' w.heap a [u]) (hr:RN S (B8 rI) w.heap u r) (hS:∀ c∈S,c < w.heap.size) (hbytes:(xs.length + 1) * b≤140737488355328) (hmx:xs.length + 1≤maxLen)
  (hu:Up ops N ρ ⟨some d,.call ⟨.builtin .append,#[x,y],#[t,t]⟩,ty,pos,aft,g⟩)
  (h:∀ v1 w1,AI w w1→RN S (B8 (B8 rI)) w1.heap v1 (xs++[r])→Cx v1→LW P ops w0 Q os ks (mk N (Ch ρ d v1)) w1) :
  LW P ops w0 Q (⟨some d,.call ⟨.builtin .append,#[x,y],#[t,t]⟩,ty,pos,aft,g⟩ :: os) (4 :: ks) (mk N ρ) w:=by
 obtain ⟨G,g1',g2',g3'⟩:=ha;obtain ⟨K,k1,k2⟩:=hv;obtain ⟨R,r1,r2⟩:=hr;obtain ⟨i,h1,h2,h3,h4⟩:=hi.get;subst h4;have hone:=g1.one r1;rcases g1' with ⟨_,hc,_⟩ | ⟨asq,ga,capa,cura,Fa,helsa,hav,hga,qa1,qa2,qa3,qa4,rfl⟩;cases hc
 ·obtain ⟨hq,hFa⟩:=Hf helsa;subst hq;subst hav;have hnews:∀ j q,[u][j]? = some q→w.cell? ((⟨ga,0,none⟩:Addr).add j) = some q:=by
   intro j q hj;rw [GQ,BY];simp only [Cv,hga];rw [← qa4,List.getElem?_take] at hj;split at hj;simpa using hj;cases hj
  have made:∀ (w1:World) (ous:List Value) (K0:List Nat) (rest:Nat),w1.heap = w.heap→w1.os = w.os→w1.tape = w.tape→w1.output = w.output→els (B8 rI) w.heap ous xs K0→(∀ c∈K0,c∈K)→xs.length + 1 + rest≤maxLen →
    AI w (w1.alloc (.cells (ous.toArray++[u].toArray++Builtin.zeroCells z.cells rest) e))∧RN S (B8 (B8 rI)) (w1.alloc (.cells (ous.toArray++[u].toArray++Builtin.zeroCells z.cells rest) e)).heap (.slice (some ⟨w.heap.size,0,none⟩) (xs.length + 1) (xs.length + 1 + rest)) (xs++[r]):=by
   intro w1 ous K0 rest hh ho htp hop hou hsub hmax;have hE:AI w (w1.alloc (.cells (ous.toArray++[u].toArray++Builtin.zeroCells z.cells rest) e)):=by
    refine ⟨ho,htp,hop,?_,fun k hk=>?_⟩;show w.heap.size≤(w1.heap.push _).size;rw [hh]; simp;have:=Below.heap_alloc w1 (.cells (ous.toArray++[u].toArray++Builtin.zeroCells z.cells rest) e) k (by rw [hh]; exact hk);rw [this,hh]
   refine ⟨hE,w.heap.size :: (K0++R),.inr ⟨ous++[u],w.heap.size,0,xs.length + 1 + rest,(ous.toArray++[u].toArray++Builtin.zeroCells z.cells rest),e,(0,0),K0++R,?_,by simp,?_,?_,by simp; omega,rfl⟩,?_⟩;refine els.stable g1 (hou.append (show els (B8 rI) w.heap [u] [r] R from ⟨R,[],by simp,r1,rfl⟩)) fun c hc=>hE.heap ?_;exact (hou.append (show els (B8 rI) w.heap [u] [r] R from ⟨R,[],by simp,r1,rfl⟩)).lt g1 c hc;have:=heap_alloc_new w1 (.cells (ous.toArray++[u].toArray++Builtin.zeroCells z.cells rest) e);rw [hh] at this; exact this;have hl:=hou.length;simp only [Array.toList_append,List.drop_zero];rw [show (xs++[r]).length = (ous++[u]).length from by simp [hl]];exact List.take_left
   intro c hc hm;rcases ze.1 hc with rfl | hc;have:=hS _ hm; omega;rcases zi.1 hc with hc | hc;exact k2 c (hsub c hc) hm;exact r2 c hc hm
  have hone1:[u].length = [u].length * i.size:=by rw [h3,Nat.mul_one]
  rcases k1 with ⟨a0,cap0,rfl,rfl,rfl⟩ | ⟨ous,gv,off,cap,cur,e',fr,K',hels,rfl,hg,hw,_,rfl⟩
  ·-- nothing so far
   cases a0 with
   | none =>
    have hrr:=run_append_nil (P:=P) w t ty e i z ht h1 h2 ⟨ga,0,none⟩ 1 capa [u] hone1 hnews (by decide) (by decide) (by simp at hbytes; omega);have hge:=grownCap_ge w 1 0 e;have hgm:=grownCap_le_maxLen w 1 0 e (by simpa using hmx);obtain ⟨q1,q2⟩:=made w.drew [] [] (grownCap w 1 0 e - 1) rfl rfl rfl rfl rfl (fun c hc=>by cases hc) (by simp; omega);refine IV rfl hu _ _ (by simp only [execOp,resolve,invoke,builtin,zc,zf,zh,Sem.run_bind,Sem.run_pure,Result.andThen_ok,hx,hy,EP]; rw [show [u].length = 1 from rfl,hrr]; rfl)<|h _ _ ?_ ?_ ?_;simpa using q1;have ea:(([]:List (List Int)).length + 1 + (grownCap w 1 0 e - 1)) = grownCap w 1 0 e:=by simp; omega
    rw [ea] at q2;simpa using q2;exact hge
   | some a1 =>
    have hrr:=run_append_grow (P:=P) w t ty e i z ht h1 h2 a1 0 0 [] (by rw [h3]; rfl) (by intro j q hj; cases hj) ⟨ga,0,none⟩ 1 capa [u] hone1 hnews zO (by decide)<|growslice_fits zO (by simpa using hbytes);have hge:=grownCap_ge w (0 + 1) 0 e;have hgm:=grownCap_le_maxLen w (0 + 1) 0 e (by simpa using hmx);obtain ⟨q1,q2⟩:=made w.drew [] [] (grownCap w (0 + 1) 0 e - (0 + 1)) rfl rfl rfl rfl rfl (fun c hc=>by cases hc) (by show 0 + 1 + (grownCap w (0 + 1) 0 e - (0 + 1))≤maxLen; omega);refine IV rfl hu _ _ (by simp only [execOp,resolve,invoke,builtin,zc,zf,zh,Sem.run_bind,Sem.run_pure,Result.andThen_ok,hx,hy,EP]; rw [show [u].length = 1 from rfl,hrr]; rfl)<|h _ _ q1 ?_ ?_;rotate_left;exact hge;have ea:(([]:List (List Int)).length + 1 + (grownCap w (0 + 1) 0 e - (0 + 1))) = grownCap w (0 + 1) 0 e:=by show 0 + 1 + (grownCap w (0 + 1) 0 e - (0 + 1)) = _; omega
    rw [ea] at q2;simpa using q2
  ·have holds:∀ j q,ous[j]? = some q→w.cell? ((⟨gv,off,none⟩:Addr).add j) = some q:=by
    intro j q hj;rw [GQ,BY];simp only [Cv,hg];rw [← hw,List.getElem?_take] at hj;split at hj;rw [List.getElem?_drop] at hj; simpa using hj;cases hj
   have hrr:=run_append_grow (P:=P) w t ty e i z ht h1 h2 ⟨gv,off,none⟩ xs.length xs.length ous (by rw [h3,hels.length]; omega) holds ⟨ga,0,none⟩ 1 capa [u] hone1 hnews zO (by simp only [maxLen] at hmx; omega)<|growslice_fits zO hbytes;have hge:=grownCap_ge w (xs.length + 1) xs.length e;have hgm:=grownCap_le_maxLen w (xs.length + 1) xs.length e hmx;obtain ⟨q1,q2⟩:=made w.drew ous K' (grownCap w (xs.length + 1) xs.length e - (xs.length + 1)) rfl rfl rfl rfl hels (fun c hc=>z3 _ hc) zO;refine IV rfl hu _ _ (by simp only [execOp,resolve,invoke,builtin,zc,zf,zh,Sem.run_bind,Sem.run_pure,Result.andThen_ok,hx,hy,EP]; rw [show [u].length = 1 from rfl,hrr]; rfl)<|h _ _ q1 ?_ ?_;rotate_left;exact hge;have ea:(xs.length + 1 + (grownCap w (xs.length + 1) xs.length e - (xs.length + 1))) = grownCap w (xs.length + 1) xs.length e:=by omega
   rw [ea] at q2;exact q2
end ops
end
section
set_option linter.unusedSectionVars false
class JR where
 rel:World→World→Prop
 refl:∀w,rel w w
 trans:∀ {a b c},rel a b→rel b c→rel a c
 ext:∀ {a b},AI a b→rel a b
@[reducible] def Tq (F:List Nat):JR:=⟨AF F,AF.refl F,AF.trans,AF.of_ext F⟩
namespace Jx
variable [J:JR]
def AI (w w':World):Prop:=J.rel w w'
theorem AI.refl (w:World):AI w w:=J.refl w
theorem AI.trans {a b c:World}(h:AI a b)(k:AI b c):AI a c:=J.trans h k
section
variable {P:Program} {ops:Array Oper} {md:Region.Mode}
def Cl (w0 w:World):Nat→World→Prop
 |0,_=>True
 |1,w'=>AI w0 w'
 |_,w'=>AI w w'
def Cb (P:Program)(w0:World)(o:Oper)(k:Nat)(a:Act)(w:World)(K:Act→World→Prop):Prop :=
 if k≤2 then ∃v,(∀w',Cl w0 w k w'→YA P o a w' v)∧K (a.put o.dst v) w
 else if k=3 then o.wp P a w (fun a' w'=>AI w w'∧K a' w') (NQ fun _ _=>False)
 else o.wp P a w K (NQ fun _ _=>False)
def LW (P:Program)(ops:Array Oper)(w0:World)(Q:Act→World→Prop):List Oper→List Nat→Act→World→Prop
 |[],_,a,w=>Q a w
 |_::_,[],_,_=>False
 |o::os,k::ks,a,w =>
  if Region.wanted o (yielded ops a.tmps)=true then Cb P w0 o k a w (LW P ops w0 Q os ks)else LW P ops w0 Q os ks (a.put o.dst undef) w
theorem Cb.mono {w0:World}{o:Oper}{k:Nat}{a:Act}{w:World}{K K':Act→World→Prop}(h:∀a w,K a w→K' a w)
  (hh:Cb P w0 o k a w K):Cb P w0 o k a w K':=by
 unfold Cb at *;split;rename_i hk;rw[if_pos hk]at hh;obtain⟨v,h1,h2⟩:=hh;exact⟨v,h1,h _ _ h2⟩;rename_i hk;rw[if_neg hk]at hh;split;rename_i h3;rw[if_pos h3]at hh;exact Oper.wp_mono (fun a w hx=>⟨hx.1,h _ _ hx.2⟩) hh;rename_i h3;rw[if_neg h3]at hh;exact Oper.wp_mono h hh
variable (P ops) in
def LI (kd:Nat→Nat)(w0:World)(Q:Act→World→Prop):List Nat→Act→World→Prop
 |[],a,w=>Q a w
 |i::l,a,w =>
  match ops[i]? with
  |none=>False
  |some o=>if Region.wanted o (yielded ops a.tmps)=true then Cb P w0 o (kd i) a w (LI kd w0 Q l)else LI kd w0 Q l (a.put o.dst undef) w
def Ro (kd:Nat→Nat)(w0 w:World)(l:List Nat):Prop:=(∃j∈l,kd j=1)→AI w0 w
def Yv (P:Program)(ops:Array Oper)(w0:World)(k:Nat)(o:Oper)(a:Act)(w:World)(v:Value):Prop :=
 (Region.wanted o (yielded ops a.tmps)=true∧∀w',Cl w0 w k w'→YA P o a w' v)∨(Region.wanted o (yielded ops a.tmps)=false∧v=undef)
theorem Cl.self {w0 w:World}{k:Nat}(h:k=1→AI w0 w):Cl w0 w k w:=by
 match k,h with
 |0,_=>exact trivial
 |1,h=>exact h rfl
 |_+2,_=>exact AI.refl w
theorem Yv.unique {w0 w:World}{k:Nat}{o:Oper}{a:Act}{v u:Value}(hk:k=1→AI w0 w)(h:Yv P ops w0 k o a w v)(h':Yv P ops w0 k o a w u):v=u:=by rcases h with⟨h1,h2⟩|⟨h1,h2⟩ <;> rcases h' with⟨g1,g2⟩|⟨g1,g2⟩;exact (h2 w<|Cl.self hk).unique<|g2 w<|Cl.self hk;rw[h1]at g1;cases g1;rw[h1]at g1;cases g1;rw[h2,g2]
theorem Yv.apart {w0 w:World}{k:Nat}{o:Oper}(hs:∀cs b,o.op≠.select cs b){a:Act}{d:Option Tmp}{u v:Value}
  (h1:∀x,d=some x→x∉o.looksAt ops):Yv P ops w0 k o (a.put d u) w v↔Yv P ops w0 k o a w v:=by
 unfold Yv;rw[wanted_put (ops:=ops) o a d u h1];simp only[YA.apart (ops:=ops) (P:=P) hs h1]
theorem Yv.defers {w0 w:World}{k:Nat}{o:Oper}{a:Act}{l:List Deferred}{v:Value}:Yv P ops w0 k o { a with defers:=l } w v↔Yv P ops w0 k o a w v:=by
 have he:Act.eval { a with defers:=l }=Act.eval a:=funext fun x=>by cases x <;> rfl
 unfold Yv YA;rw[he]
theorem Yv.shape {w0 w:World}{k:Nat}{o:Oper}(hs:∀cs b,o.op≠.select cs b){a a':Act}{d:Option Tmp}{v:Value}
  (h1:∀x,d=some x→x∉o.looksAt ops) (h:Pn a d a'):Yv P ops w0 k o a' w v↔Yv P ops w0 k o a w v:=by
 obtain⟨u,rfl|⟨x,rfl⟩⟩:=h;exact Yv.apart hs h1;rw[Yv.apart hs h1];exact Yv.defers
section main
variable {kd bs:Nat→Nat} {w0:World} {Q:Act→World→Prop}
theorem Kh (hsel:∀(j:Nat)(o:Oper) cs b,ops[j]? = some o→o.op≠.select cs b){j:Nat}{oj:Oper}(hj:ops[j]? = some oj)(hk:kd j≤2) :
  ∀(l1 l2:List Nat) (a:Act) (w:World),(∀i∈l1,∀oi,ops[i]? = some oi→oi.apart ops oj=true∧DB (kd i) (kd j)=true)→(kd j=1→AI w0 w) →
   LI P ops kd w0 Q (l1++j::l2) a w→∃v,Yv P ops w0 (kd j) oj a w v∧LI P ops kd w0 Q (l1++l2) (a.put oj.dst v) w
 |[],l2,a,w,_,_,h=>by
  simp only[zl,LI,hj]at h ⊢
  split at h
  rename_i hw
  unfold Cb at h
  rw[if_pos hk]at h
  obtain⟨v,h1,h2⟩:=h
  exact⟨v,.inl ⟨hw,h1⟩,h2⟩
  rename_i hw
  exact⟨undef,.inr ⟨by simpa using hw,rfl⟩,h⟩
 |i::l1,l2,a,w,hl,hx,h=>by
  have hi:=hl i (z0 ..)
  have hl':∀x∈l1,∀ox,ops[x]? = some ox→ox.apart ops oj=true∧DB (kd x) (kd j)=true:=fun x hx=>hl x (z3 _ hx)
  simp only[List.cons_append,LI]at h ⊢
  cases hoi:ops[i]? with
  |none=>rw[hoi]at h;exact h.elim
  |some oi =>
   rw[hoi]at h
   simp only at h ⊢
   obtain⟨hap,hok⟩:=hi oi hoi
   obtain⟨p1,p2,p3⟩:=Oper.apart_spec hap
   have p2':∀d,oj.dst=some d→oi.dst≠some d:=fun d hd he=>p2 d he hd
   have si:=fun cs b=>hsel i oi cs b hoi
   have sj:=fun cs b=>hsel j oj cs b hj
   by_cases hw:Region.wanted oi (yielded ops a.tmps)=true
   rw[if_pos hw]at h
   unfold Cb at h
   by_cases hki:kd i≤2
   rw[if_pos hki]at h
   obtain⟨vi,hy,h⟩:=h
   obtain⟨v,h1,h2⟩:=Kh hsel hj hk l1 l2 (a.put oi.dst vi) w hl' hx h
   refine⟨v,(Yv.apart sj p1).1 h1,?_⟩
   rw[wanted_put oi a oj.dst v p3,if_pos hw]
   unfold Cb
   rw[if_pos hki]
   refine⟨vi,fun w' hc=>(YA.apart (ops:=ops) si p3).2 (hy w' hc),?_⟩
   rw[Act.put_comm a v vi p2']
   exact h2
   rw[if_neg hki]at h
   have gen:∀(G:World→Prop),(∀w',G w'→kd j=1→AI w0 w')→(kd j=2→False) →
     oi.wp P a w (fun a' w'=>G w'∧LI P ops kd w0 Q (l1++j::l2) a' w') (NQ fun _ _=>False) →
     ∃v,Yv P ops w0 (kd j) oj a w v∧oi.wp P (a.put oj.dst v) w (fun a' w'=>G w'∧LI P ops kd w0 Q (l1++l2) a' w') (NQ fun _ _=>False):=by
    intro G hG hn2 hh;have hcl:∀w1 w2,Cl w0 w1 (kd j) w2→Cl w0 w (kd j) w2:=by
     intro w1 w2 hc;match hkj:kd j,hk,hn2 with
     |0,_,_=>trivial
     |1,_,_=>rw[hkj]at hc;exact hc
     |2,_,hn=>exact(hn rfl).elim
     |_+3,hle,_=>omega
    have hcl':∀w1 w2,Cl w0 w (kd j) w2→Cl w0 w1 (kd j) w2:=by
     intro w1 w2 hc;match hkj:kd j,hk,hn2 with
     |0,_,_=>trivial
     |1,_,_=>rw[hkj]at hc;exact hc
     |2,_,hn=>exact(hn rfl).elim
     |_+3,hle,_=>omega
    have hs:=HP hh;have step:∀a' w',((G w'∧LI P ops kd w0 Q (l1++j::l2) a' w')∧Pn a oi.dst a') →
      ∃v,Yv P ops w0 (kd j) oj a w v∧LI P ops kd w0 Q (l1++l2) (a'.put oj.dst v) w':=by
     rintro a' w' ⟨⟨hg,hL⟩,hsh⟩;obtain⟨v,h1,h2⟩:=Kh hsel hj hk l1 l2 a' w' hl' (hG w' hg) hL;have h1':=(Yv.shape sj p1 hsh).1 h1;refine⟨v,?_,h2⟩;rcases h1' with⟨q1,q2⟩|⟨q1,q2⟩;exact .inl ⟨q1,fun w2 hc=>q2 w2<|hcl' w' w2 hc⟩;exact .inr ⟨q1,q2⟩
    obtain⟨v,hv⟩:∃v,Yv P ops w0 (kd j) oj a w v:=by
     obtain⟨u,w',hK|⟨d,hK⟩⟩:=Uj hs;obtain⟨v,h1,_⟩:=step _ _ hK;exact⟨v,h1⟩;obtain⟨v,h1,_⟩:=step _ _ hK;exact⟨v,h1⟩
    refine⟨v,hv,Nq (ops:=ops) si p3 p2' ?_⟩;refine Oper.wp_mono (fun a' w' hK=>?_) hs;obtain⟨v',h1,h2⟩:=step a' w' hK;have:v'=v:=h1.unique hx hv;subst this;exact⟨hK.1.1,h2⟩
   by_cases h3:kd i=3;rw[if_pos h3]at h;have hj1:=rK hok h3;obtain⟨v,hv,hwp⟩:=gen (fun w'=>AI w w') (fun w' hg h1=>(hx h1).trans hg) (fun h2=>by omega) h;refine⟨v,hv,?_⟩;rw[wanted_put oi a oj.dst v p3,if_pos hw];unfold Cb;rw[if_neg hki,if_pos h3];exact hwp;rw[if_neg h3]at h;have hj0:=rL hok zO;obtain⟨v,hv,hwp⟩:=gen (fun _=>True) (fun w' _ h1=>by omega) (fun h2=>by omega) (Oper.wp_mono (fun a w hh=>⟨trivial,hh⟩) h);refine⟨v,hv,?_⟩;rw[wanted_put oi a oj.dst v p3,if_pos hw];unfold Cb;rw[if_neg hki,if_neg h3];exact Oper.wp_mono (fun a w hh=>hh.2) hwp;rw[if_neg hw]at h;obtain⟨v,h1,h2⟩:=Kh hsel hj hk l1 l2 (a.put oi.dst undef) w hl' hx h;refine⟨v,(Yv.apart sj p1).1 h1,?_⟩;rw[wanted_put oi a oj.dst v p3,if_neg hw,Act.put_comm a v undef p2'];exact h2
theorem Mz (hsel:∀(j:Nat)(o:Oper) cs b,ops[j]? = some o→o.op≠.select cs b){j:Nat}{oj:Oper}(hj:ops[j]? = some oj)(hk:3≤kd j) :
  ∀(l1 l2:List Nat) (a:Act) (w:World),(∀i∈l1,∀oi,ops[i]? = some oi→oi.apart ops oj=true∧DB (kd i) (kd j)=true)→LI P ops kd w0 Q (l1++j::l2) a w →
   (Region.wanted oj (yielded ops a.tmps)=true→oj.wp P a w (fun a' w'=>(kd j=3→AI w w')∧LI P ops kd w0 Q (l1++l2) a' w') (NQ fun _ _=>False)) ∧
   (Region.wanted oj (yielded ops a.tmps)=false→LI P ops kd w0 Q (l1++l2) (a.put oj.dst undef) w)
 |[],l2,a,w,_,h=>by
  simp only[zl,LI,hj]at h ⊢
  refine⟨fun hw=>?_,fun hw=>?_⟩
  rw[if_pos hw]at h
  unfold Cb at h
  rw[if_neg (by omega)]at h
  split at h
  exact Oper.wp_mono (fun _ _ hh=>⟨fun _=>hh.1,hh.2⟩) h
  rename_i h3;exact Oper.wp_mono (fun _ _ hh=>⟨fun h'=>(h3 h').elim,hh⟩) h
  rw[if_neg (by simp[hw])]at h;exact h
 |i::l1,l2,a,w,hl,h=>by
  have hi:=hl i (z0 ..)
  have hl':∀x∈l1,∀ox,ops[x]? = some ox→ox.apart ops oj=true∧DB (kd x) (kd j)=true:=fun x hx=>hl x (z3 _ hx)
  simp only[List.cons_append,LI]at h ⊢
  cases hoi:ops[i]? with
  |none=>rw[hoi]at h;exact h.elim
  |some oi =>
   rw[hoi]at h
   simp only at h ⊢
   obtain⟨hap,hok⟩:=hi oi hoi
   obtain⟨p1,p2,p3⟩:=Oper.apart_spec hap
   have p2':∀d,oj.dst=some d→oi.dst≠some d:=fun d hd he=>p2 d he hd
   have si:=fun cs b=>hsel i oi cs b hoi
   have sj:=fun cs b=>hsel j oj cs b hj
   obtain⟨hki,hk4⟩:=qa hok hk
   by_cases hw:Region.wanted oi (yielded ops a.tmps)=true
   rw[if_pos hw]at h
   unfold Cb at h
   rw[if_pos hki]at h
   obtain⟨vi,hy,h⟩:=h
   obtain⟨g1,g2⟩:=Mz hsel hj hk l1 l2 (a.put oi.dst vi) w hl' h
   rw[wanted_put oj a oi.dst vi p1]at g1 g2
   refine⟨fun hwj=>?_,fun hwj=>?_⟩
   have g:=Lc (ops:=ops) (Q:=fun _ _=>False) sj p1 p2<|g1 hwj
   refine Oper.wp_mono (fun a' w' hK=>?_)<|HP g
   obtain⟨⟨hE,hL⟩,hsh⟩:=hK
   refine⟨hE,?_⟩
   rw[Gy p3 hsh,if_pos hw]
   unfold Cb
   rw[if_pos hki]
   refine⟨vi,fun w'' hc=>?_,hL⟩
   have hya:YA P oi a w'' vi:=by
    refine hy w'' ?_;match hki':kd i,hki,hk4 with
    |0,_,_=>trivial
    |1,_,_=>rw[hki']at hc;exact hc
    |2,_,h4=>rw[hki']at hc;exact(hE (by have:¬4≤kd j:=(fun hh=>by have:=h4 hh;omega);omega)).trans hc
    |_+3,hle,_=>omega
   have he:∀b,YA P oi b w'' vi↔YR P ((execOp b.eval oi).run P w'') w'' vi:=fun _=>Iff.rfl;obtain⟨u,rfl|⟨x,rfl⟩⟩:=hsh;exact (YA.apart (ops:=ops) si p3).2 hya;refine (YA.apart (ops:=ops) si p3).2 ?_;have hee:Act.eval { a with defers:=x::a.defers }=Act.eval a:=funext fun y=>by cases y <;> rfl
   rw[he,hee,← he];exact hya;rw[wanted_put oi a oj.dst undef p3,if_pos hw];unfold Cb;rw[if_pos hki];refine⟨vi,fun w' hc=>(YA.apart (ops:=ops) si p3).2 (hy w' hc),?_⟩;rw[Act.put_comm a undef vi p2'];exact g2 hwj;rw[if_neg hw]at h;obtain⟨g1,g2⟩:=Mz hsel hj hk l1 l2 (a.put oi.dst undef) w hl' h;rw[wanted_put oj a oi.dst undef p1]at g1 g2;refine⟨fun hwj=>?_,fun hwj=>?_⟩;have g:=Lc (ops:=ops) (Q:=fun _ _=>False) sj p1 p2<|g1 hwj;refine Oper.wp_mono (fun a' w' hK=>?_)<|HP g;obtain⟨⟨hE,hL⟩,hsh⟩:=hK;refine⟨hE,?_⟩;rw[Gy p3 hsh,if_neg hw];exact hL;rw[wanted_put oi a oj.dst undef p3,if_neg hw,Act.put_comm a undef undef p2'];exact g2 hwj
end main
end
section
variable {P:Program} {ops:Array Oper} {md:Region.Mode} {kd bs:Nat→Nat} {w0:World} {Q:Act→World→Prop}
theorem GM (hsel:∀(j:Nat)(o:Oper) cs b,ops[j]? = some o→o.op≠.select cs b)(hS:Pm md ops bs)
  (hlex:∀j oj,ops[j]? = some oj→∀e∈oj.after,Region.binds md e=true→e.on<j) :
  ∀(n:Nat) (l:List Nat) (listed:Array Bool) (a:Act) (w:World),l.length=n→l.Pairwise (Fy md ops kd bs)→l.Nodup→listed.size=ops.size →
   (∀i,i∈l↔listed.getD i true=false)→LZ bs listed→Rp kd l→Ro kd w0 w l→LI P ops kd w0 Q l a w→wpAny P md ops (NQ Q) n listed a w
 |0,l,listed,a,w,hn,_,_,_,hm,_,_,_,h=>by
  have hl:l=[]:=List.eq_nil_of_length_eq_zero hn
  subst hl
  refine⟨?_,h⟩
  cases hr:Region.ready md ops listed with
  |nil=>rfl
  |cons x xs =>
   have:=(mem_ready.1 (by rw[hr];exact z0 ..:x∈Region.ready md ops listed)).1
   exact absurd ((hm x).2 this) (by simp)
 |n+1,l,listed,a,w,hn,hs,hd,hz,hm,hc,h14,hi1,h=>by
  refine⟨fun h0=>?_,fun i hi=>?_⟩
  exfalso
  match l,hn with
  |i::l,hn =>
   have hready:=Ku (md:=md) hz hm hlex fun y hy ox hox=>((List.pairwise_cons.1 hs).1 y hy).2 ox hox
   rw[h0]at hready
   cases hready
  obtain⟨hun,oi,hoi,hall⟩:=mem_ready.1 hi
  obtain⟨l1,l2,rfl⟩:=List.append_of_mem ((hm i).2 hun)
  have hbits:=FM hS hc hoi hall
  have hpi:∀x∈l1,Fy md ops kd bs x i:=fun x hx=>(List.pairwise_append.1 hs).2.2 x hx i (z0 ..)
  have hfree:=Hd (kd:=kd) (l1:=l1) hoi (fun x hx=>(hpi x hx).1) (fun x hx=>(hm x).1 (z8 _ hx)) hbits
  have hsz:=DC hun
  have hsub0:(l1++l2).Sublist (l1++i::l2):=List.Sublist.append_left (List.sublist_cons_self _ _) _
  have hnd:i∉l1++l2:=by
   have h1:=List.nodup_append.1 hd
   intro hmem;rcases zi.1 hmem with hh|hh;exact h1.2.2 i hh i (z0 ..) rfl;exact (List.nodup_cons.1 h1.2.1).1 hh
  have hn':(l1++l2).length=n:=by simp at hn ⊢;omega
  have rec_:∀a' w',Ro kd w0 w' (l1++l2)→LI P ops kd w0 Q (l1++l2) a' w'→wpAny P md ops (NQ Q) n (listed.setIfInBounds i true) a' w':=fun a' w' hi' hL =>
   GM hsel hS hlex n (l1++l2) _ a' w' hn' (hs.sublist hsub0) (hd.sublist hsub0) (by simpa using hz) (JK hm hnd hsz) (Ic hc hbits) (Rp.erase h14) hi' hL
  have hsub:Ro kd w0 w (l1++l2):=fun⟨j,hj,hk⟩=>hi1 ⟨j,hsub0.subset hj,hk⟩;by_cases hk:kd i≤2;obtain⟨v,hv,hL⟩:=Kh hsel hoi hk l1 l2 a w hfree (fun h1=>hi1 ⟨i,by simp,h1⟩) h;unfold wpOp;rw[hoi];rcases hv with⟨hw,hy⟩|⟨hw,rfl⟩;simp only[hw,if_true];exact .inl<|Le (hy w (Cl.self fun h1=>hi1 ⟨i,by simp,h1⟩))<|rec_ _ _ hsub hL;simp only[hw,Bool.false_eq_true,if_false];exact rec_ _ _ hsub hL;obtain⟨g1,g2⟩:=Mz hsel hoi zO l1 l2 a w hfree h;unfold wpOp;rw[hoi];by_cases hw:Region.wanted oi (yielded ops a.tmps)=true;simp only[hw,if_true];refine .inl<|Oper.wp_mono (fun a' w' hK=>rec_ a' w' ?_ hK.2)<|Ld<|g1 hw;rintro⟨j,hj,hkj⟩;by_cases h3:kd i=3;exact (hsub ⟨j,hj,hkj⟩).trans<|hK.1 h3;exfalso;rcases zi.1 hj with hh|hh;obtain⟨oj,hoj⟩:∃oj,ops[j]? = some oj:=by
   have:=DC ((hm j).1 (z8 _ hh));exact⟨ops[j]'(by omega),by simp[show j<ops.size by omega]⟩
  have:=(qa (hfree j hh oj hoj).2 zO).2 zO;omega;exact h14 l1 i l2 rfl zO j hh hkj;simp only[hw,Bool.false_eq_true,if_false];exact rec_ _ _ hsub<|g2 (by simpa using hw)
theorem IT (ks:List Nat):∀(os:List Oper)(k:Nat)(a:Act)(w:World),(∀j,os[j]? = ops[k+j]?) →
  LW P ops w0 Q os (ks.drop k) a w→LI P ops (fun i=>ks.getD i 0) w0 Q (List.range' k os.length) a w
 |[],_,_,_,_,h=>by simpa [LI,LW]using h
 |o::os,k,a,w,ho,h=>by
  have h0:ops[k]? = some o:=by simpa using (ho 0).symm
  have hr:∀a w,LW P ops w0 Q os (ks.drop (k+1)) a w→LI P ops (fun i=>ks.getD i 0) w0 Q (List.range' (k+1) os.length) a w:=fun a w hh =>
   IT ks os (k+1) a w (fun j=>by have:=ho (j+1);simpa [Nat.add_assoc,Nat.add_comm 1 j]using this) hh
  have hlt:k<ks.length:=by
   rcases Nat.lt_or_ge k ks.length with hh|hh;exact hh;rw[List.drop_of_length_le hh]at h;exact h.elim
  have hd:ks.drop k=ks[k]::ks.drop (k+1):=List.drop_eq_getElem_cons hlt;rw[hd]at h;simp only[z9,List.range'_succ,LI,h0,LW]at h ⊢;have hg:ks.getD k 0=ks[k]:=by simp[hlt]
  split;rename_i hw;rw[if_pos hw]at h;rw[hg];exact h.mono hr;rename_i hw;rw[if_neg hw]at h;exact hr _ _ h
theorem Az {id:Nat}{Q:Exit→Act→World→Prop}{a:Act}{w:World}(os:List Oper)(ks:List Nat)(hm:P.follows .mixedOrders=true)(hB:qb os.toArray ks=true)
  (h:LW P os.toArray w.drew (fun a w=>Q .normal a w) os ks a w.drew):(Code.region id os.toArray true).wp P Q a w:=by
 refine wp_region_any hm ?_;simp only[qb,z7]at hB;obtain⟨⟨hsel,hpl⟩,h14⟩:=hB;have hz:∀ {j:Nat} {o:Oper},os.toArray[j]? = some o→(o,j)∈os.toArray.toList.zipIdx:=by
  intro j o ho;rw[List.mem_zipIdx_iff_getElem?];simpa using ho
 have hall:∀j oj,os.toArray[j]? = some oj→_:=fun j oj hj=>zm.1 hpl _ (hz hj);have hF:gG os.toArray (fun i=>ks.getD i 0) (fun j=>(Region.before os.toArray).toList.getD j 0):=by
  intro i j oi oj hij hi hj;have h3:=(z7 _ _ ▸ hall j oj hj:_∧_).2;have h4:=zm.1 h3 _<|hz hi;simp only[Bool.or_eq_true,Bool.not_eq_true',decide_eq_false_iff_not,z7]at h4;rcases h4 with(h4|h4)|h4;exact absurd hij h4;exact .inl h4;exact .inr h4
 have hlex:∀j oj,os.toArray[j]? = some oj→∀e∈oj.after,Region.binds .any e=true→e.on<j:=by
  intro j oj hj e he hb;have h1:=(z7 _ _ ▸ (z7 _ _ ▸ hall j oj hj:_∧_).1:_∧_).1;have h2:=(Array.all_eq_true_iff_forall_mem.1 h1) e he;simpa [hb]using h2
 have key:=GM (P:=P) (ops:=os.toArray) (md:=.any) (kd:=fun i=>ks.getD i 0) (bs:=fun j=>(Region.before os.toArray).toList.getD j 0) (w0:=w.drew) (Q:=fun a w=>Q .normal a w)
  (Region.noSelect_spec hsel) ?_ ?_ os.length (List.range' 0 os.length) (Array.replicate os.length false) a w.drew (by simp) ?_ List.nodup_range' (by simp) ?_ ?_ ?_ (fun _=>AI.refl _) ?_
 have:=Kv _ _ _ _ key;simpa using this
 intro j oj hj i hb;have h3:=(z7 _ _ ▸ (z7 _ _ ▸ hall j oj hj:_∧_).1:_∧_).2;have h5:(Region.before os.toArray).toList.getD j 0=oj.after.foldl (fun s e=>if Region.binds .any e then s ||| 2 ^ e.on ||| (Region.before os.toArray).toList.getD e.on 0 else s) 0:=by simpa using h3
 dsimp only at hb;rw[h5,← Array.foldl_toList]at hb;rcases Id _ _ _ _ hb with hb|⟨e,he,hbb,hh⟩;simp at hb;exact⟨e,Array.mem_toList_iff.1 he,hbb,hh⟩;exact hlex;exact Lf hF hlex List.pairwise_lt_range'
 intro i;simp only[List.mem_range',Nat.zero_add,Nat.one_mul];constructor;rintro⟨x,hx,rfl⟩;simp[hx]
 intro hh;rcases Nat.lt_or_ge i os.length with h'|h';exact⟨i,h',rfl⟩;simp[Array.getElem?_eq_none (show(Array.replicate os.length false).size≤i by simpa using h')]at hh
 intro i hi;rcases Nat.lt_or_ge i os.length with h'|h';simp[h']at hi;simp[Array.getElem?_eq_none (show(Array.replicate os.length false).size≤i by simpa using h')]at hi
 intro l1 i l2 hl hk j hj;have hs:(l1++i::l2).Pairwise (· < ·):=hl ▸ List.pairwise_lt_range';have hij:i<j:=List.rel_of_pairwise_cons (List.pairwise_append.1 hs).2.1 hj;have mem:∀x∈l1++i::l2,x<os.length:=by
  intro x hx;rw[← hl]at hx;simp only[List.mem_range',Nat.zero_add,Nat.one_mul]at hx;obtain⟨y,hy,rfl⟩:=hx;exact hy
 have hi:=mem i (by simp);have hj':=mem j (by simp[hj]);have h1:=zm.1 h14 _<|hz (j:=i) (o:=os[i]) (by simp[hi]);simp only[Bool.or_eq_true,Bool.not_eq_true',decide_eq_false_iff_not]at h1;rcases h1 with h1|h1;exact absurd hk h1;have h2:=zm.1 h1 _<|hz (j:=j) (o:=os[j]) (by simp[hj']);simp only[Bool.or_eq_true,Bool.not_eq_true',decide_eq_false_iff_not]at h2;rcases h2 with h2|h2;exact absurd hij h2;simpa using h2;exact IT ks os 0 a w.drew (by simp) (by simpa using h)
end
section
variable {P:Program} {ops:Array Oper} {w0:World} {Q:Act→World→Prop} {os:List Oper} {ks:List Nat} {N:Nat} {ρ:Nat→Value} {w:World}
theorem Ai {a:Act}(h:Q a w):LW P ops w0 Q [] ks a w:=h
theorem D2 {o:Oper}{k d:Nat}(hk:k≤2)(hd:o.dst=some d)(hu:Up ops N ρ o)(v:Value)(hr:∀w',Cl w0 w k w'→(execOp (Bk N ρ) o).run P w'=.ok (.value v) w')
  (h:LW P ops w0 Q os ks (mk N (Ch ρ d v)) w):LW P ops w0 Q (o::os) (k::ks) (mk N ρ) w:=by
 simp only[LW];rw[if_pos hu];unfold Cb;rw[if_pos hk];refine⟨v,fun w' hc=>.inl ?_,?_⟩;rw[DJ];exact hr w' hc;rw[hd,Gh];exact h
theorem II {o:Oper}{d:Nat}(hd:o.dst=some d)(hu:Up ops N ρ o)
  (v:Value) (w1:World) (hr:(execOp (Bk N ρ) o).run P w=.ok (.value v) w1) (hE:AI w w1) (h:LW P ops w0 Q os ks (mk N (Ch ρ d v)) w1):LW P ops w0 Q (o::os) (3::ks) (mk N ρ) w:=by
 simp only[LW];rw[if_pos hu];unfold Cb;rw[if_neg (by decide),if_pos rfl];unfold Oper.wp;rw[DJ,hr];show AI w w1∧LW P ops w0 Q os ks ((mk N ρ).put o.dst v) w1;rw[hd,Gh];exact⟨hE,h⟩
theorem Cd {d:Nat} {x:Operand} {xs:Array Operand} {ats:Array TypeId} {ty:TypeId} {pos:String} {aft:Array Edge} {g:Option (Nat × Bool)} (f:FuncId) (first cap:List Value) (args:List Value)
  (hx:Bk N ρ x = .func (.func f) first.toArray cap.toArray) (hxs:first++(xs.toList.map (Bk N ρ))++cap = args) (hf:((P.funcs[f]?).map fun fn=>(fn.name != "runtime.NumGoroutine") && fn.body.isSome) = some true)
  (hu:Up ops N ρ ⟨some d,.call ⟨.value x,xs,ats⟩,ty,pos,aft,g⟩) {R:Ending→World→Prop} (hc:Calls P f args.toArray w R)
  (h:∀ e w1,R e w1→∃ v,e = .returned v∧AI w w1∧LW P ops w0 Q os ks (mk N (Ch ρ d v)) w1) :
  LW P ops w0 Q (⟨some d,.call ⟨.value x,xs,ats⟩,ty,pos,aft,g⟩ :: os) (3 :: ks) (mk N ρ) w:=by
 simp only [LW];rw [if_pos hu];unfold Cb;rw [if_neg (by decide),if_pos rfl];unfold Oper.wp;rw [DJ];have hrun:(execOp (Bk N ρ) ⟨some d,.call ⟨.value x,xs,ats⟩,ty,pos,aft,g⟩).run P w = .ok (.enter f args.toArray) w:=by
  obtain ⟨fn,hfn,hb⟩:=Option.map_eq_some_iff.1 hf;simp only [z7,bne_iff_ne,ne_eq] at hb;have hargs:first.toArray++xs.map (Bk N ρ)++cap.toArray = args.toArray:=by
   rw [← hxs]; apply Array.ext'; simp
  obtain ⟨c,hbc⟩:=Option.isSome_iff_exists.1 hb.2;have hcf:(callFunc f args.toArray).run P w = .ok (.enter f args.toArray) w:=by
   simp [callFunc,hfn,hb.1,hbc]
  simp [execOp,resolve,hargs,hx,Deferred.ofValue,invoke,hcf]
 rw [hrun];refine Calls.mono hc (fun e w1 he=>?_);obtain ⟨v,rfl,hE,hL⟩:=h e w1 he;show AI w w1∧LW P ops w0 Q os ks ((mk N ρ).put (some d) v) w1;rw [Gh];exact ⟨hE,hL⟩
theorem BR {d:Nat} {x:Operand} {xs:Array Operand} {ats:Array TypeId} {ty:TypeId} {pos:String} {aft:Array Edge} {g:Option (Nat × Bool)} (f:FuncId) (first cap:List Value) (args:List Value)
  (hx:Bk N ρ x = .func (.func f) first.toArray cap.toArray) (hxs:first++(xs.toList.map (Bk N ρ))++cap = args) (hf:((P.funcs[f]?).map fun fn=>(fn.name != "runtime.NumGoroutine") && fn.body.isSome) = some true)
  (hu:Up ops N ρ ⟨some d,.call ⟨.value x,xs,ats⟩,ty,pos,aft,g⟩) (v:Value) (hc:∀ w',Calls P f args.toArray w' (fun e w''=>e = .returned v∧w'' = w'))
  (h:LW P ops w0 Q os ks (mk N (Ch ρ d v)) w) :
  LW P ops w0 Q (⟨some d,.call ⟨.value x,xs,ats⟩,ty,pos,aft,g⟩ :: os) (0 :: ks) (mk N ρ) w:=by
 simp only [LW];rw [if_pos hu];unfold Cb;rw [if_pos (by decide)];have hrun:∀ w,(execOp (Bk N ρ) ⟨some d,.call ⟨.value x,xs,ats⟩,ty,pos,aft,g⟩).run P w = .ok (.enter f args.toArray) w:=by
  intro w;obtain ⟨fn,hfn,hb⟩:=Option.map_eq_some_iff.1 hf;simp only [z7,bne_iff_ne,ne_eq] at hb;have hargs:first.toArray++xs.map (Bk N ρ)++cap.toArray = args.toArray:=by
   rw [← hxs]; apply Array.ext'; simp
  obtain ⟨c,hbc⟩:=Option.isSome_iff_exists.1 hb.2;have hcf:(callFunc f args.toArray).run P w = .ok (.enter f args.toArray) w:=by
   simp [callFunc,hfn,hb.1,hbc]
  simp [execOp,resolve,hargs,hx,Deferred.ofValue,invoke,hcf]
 refine ⟨v,fun w' _=>.inr (.inr ⟨f,args.toArray,?_,hc w'⟩),?_⟩;rw [DJ]; exact hrun w';show LW P ops w0 Q os ks ((mk N ρ).put (some d) v) w;rw [Gh]; exact h
end
section
variable {P:Program} {ops:Array Oper} {w0:World} {Q:Act→World→Prop} {os:List Oper} {ks:List Nat} {N:Nat} {ρ:Nat→Value} {w:World}
 {d:Nat} {ty:TypeId} {pos:String} {aft:Array Edge} {g:Option (Nat×Bool)} {t e:TypeId}
theorem gI {x:Operand}(v:Value)(hx:Bk N ρ x=v)(hu:Up ops N ρ ⟨some d,.move x,ty,pos,aft,g⟩)(h:LW P ops w0 Q os ks (mk N (Ch ρ d v)) w) :
  LW P ops w0 Q (⟨some d,.move x,ty,pos,aft,g⟩::os) (0::ks) (mk N ρ) w :=
 D2 (by decide) rfl hu v (fun w' _=>by simp[execOp,hx]) h
theorem Xv {x:Operand}(v:Value)(hx:Bk N ρ x=v)(hu:Up ops N ρ ⟨some d,.assign x,ty,pos,aft,g⟩)(h:LW P ops w0 Q os ks (mk N (Ch ρ d v)) w) :
  LW P ops w0 Q (⟨some d,.assign x,ty,pos,aft,g⟩::os) (0::ks) (mk N ρ) w :=
 D2 (by decide) rfl hu v (fun w' _=>by simp[execOp,hx]) h
theorem Pr {t e:TypeId}{x y:Operand}{v:Value}{n s:Nat}{k:IntKind}{i:Int}(j:Nat)(ht:P.underlying t=some (.slice e)){z:Value}{b:Nat}(hi:TI P e s z b)(hx:Bk N ρ x=v)(hy:Bk N ρ y=.int k i)
  (hs:ES v n) (hj:i=(j:Int)) (hlt:j<n) (hu:Up ops N ρ ⟨some d,.indexAddr t x y,ty,pos,aft,g⟩)
  (h:LW P ops w0 Q os ks (mk N (Ch ρ d (BJ v j s))) w):LW P ops w0 Q (⟨some d,.indexAddr t x y,ty,pos,aft,g⟩::os) (0::ks) (mk N ρ) w :=
 D2 (by decide) rfl hu _ (fun w' _=>by
  obtain⟨a,c,rfl,ha⟩:=hs
  obtain⟨inf,h1,_,h3,_⟩:=hi.get
  subst hj
  cases a with
  |none=>have:=ha rfl;omega
  |some a =>
   have hlt':(j:Int)<(n:Int):=by omega
   simp[execOp,hx,hy,Instr.indexAt,asIntOf,run_underlying ht,sizeOf,typeInfo,h1,h3,BJ,hlt]) h
theorem C9 {s:TypeId}{x:Operand}{i:Nat}{p:Value}{b o:Nat}(off:Nat)(hf:Er P s i off=true)(hx:Bk N ρ x=p)(hp:p=.pointer (some ⟨b,o,none⟩))(hu:Up ops N ρ ⟨some d,.fieldAddr s x i,ty,pos,aft,g⟩)
  (h:LW P ops w0 Q os ks (mk N (Ch ρ d (BV p off))) w):LW P ops w0 Q (⟨some d,.fieldAddr s x i,ty,pos,aft,g⟩::os) (0::ks) (mk N ρ) w :=
 D2 (by decide) rfl hu _ (fun w' _=>by
  subst hp
  unfold Er at hf
  split at hf
  rename_i fs hfs
  split at hf
  rename_i f hff
  simp only[z7,beq_iff_eq]at hf
  obtain⟨rfl,hf2⟩:=hf
  split at hf2
  rename_i inf hin
  have hne:inf.size≠0:=by simpa using hf2
  simp[execOp,Instr.fieldAt,Instr.sureAddr,run_underlying hfs,hff,hx,fieldPlace,sizeOf,typeInfo,hin,hne,GQ,BV]
  cases hf2
  cases hf
  cases hf) h
theorem qh {x:Operand}{p:Value}(u:Value)(ht:Co P t)(hx:Bk N ρ x=p)(hc:∀w',AI w0 w'→IJ w'.heap p=some u)(hu:Up ops N ρ ⟨some d,.load t x,ty,pos,aft,g⟩)
  (h:LW P ops w0 Q os ks (mk N (Ch ρ d u)) w):LW P ops w0 Q (⟨some d,.load t x,ty,pos,aft,g⟩::os) (1::ks) (mk N ρ) w :=
 D2 (by decide) rfl hu _ (fun w' hcl=>by simp[execOp,hx,Po ht (hc w' hcl)]) h
theorem lV {s:Nat}{x:Operand}{p:Value}(cs:List Value)(ht:E0 P t s=true)(hx:Bk N ρ x=p)(hc:∀w',AI w0 w'→LD w'.heap p cs)(hl:cs.length=s)
  (hu:Up ops N ρ ⟨some d,.load t x,ty,pos,aft,g⟩)
  (h:LW P ops w0 Q os ks (mk N (Ch ρ d (.agg cs.toArray))) w):LW P ops w0 Q (⟨some d,.load t x,ty,pos,aft,g⟩::os) (1::ks) (mk N ρ) w :=
 D2 (by decide) rfl hu _ (fun w' hcl=>by simp[execOp,hx,Ps ht (hc w' hcl) hl]) h
end
section
variable {P:Program} {ops:Array Oper} {w0:World} {Q:Act→World→Prop} {os:List Oper} {ks:List Nat} {N:Nat} {ρ:Nat→Value} {w:World}
 {d:Nat} {ty:TypeId} {pos:String} {aft:Array Edge} {g:Option (Nat×Bool)} {t e:TypeId} {z:Value} {b:Nat}
theorem BP {α:Type}{E:BL α}(hE:CA E){x:Operand}{u:Value}{y:α}{B U:Nat}(ht:P.underlying t=some (.slice e))(hi:TI P e 1 z b)(hz:z.cells=#[z])(hx:Bk N ρ x=u)(hy:Fr E B U w.heap u y)(hB:B≤w.heap.size)
  (hu:Up ops N ρ ⟨some d,.buildSlice t 1 #[(0,x)],ty,pos,aft,g⟩)
  (h:∀v w1,_root_.Go.Proofs.YtemfgblmfahllaaGreat.AI w w1→w1.heap.size=w.heap.size+1→Fr (By E e) B w1.heap.size w1.heap v [y]→LW P ops w0 Q os ks (mk N (Ch ρ d v)) w1) :
  LW P ops w0 Q (⟨some d,.buildSlice t 1 #[(0,x)],ty,pos,aft,g⟩::os) (3::ks) (mk N ρ) w:=by
 obtain⟨F,h1,h2,h3⟩:=hy;have hr:=Ur (P:=P) (w:=w) ht hi (hE.cells h1) hz;have hrun:(execOp (Bk N ρ) ⟨some d,.buildSlice t 1 #[(0,x)],ty,pos,aft,g⟩).run P w=.ok (.value (.slice (some ⟨w.heap.size,0,none⟩) 1 1)) (w.alloc (.cells #[u] e)):=by
  simp only[execOp,zc,zf,zh,Sem.run_bind,hx,hr,Result.andThen_ok,Sem.run_pure]
 refine II rfl hu _ _ hrun (J.ext<|BM _ _)<|h _ _ (BM _ _) (by simp) ?_;have hn:=Gz (e:=e) (w:=w) hE (us:=[u]) (xs:=[y]) (F:=F++[]) (cur:=#[u]) ⟨F,[],rfl,h1,rfl⟩ (by simp[maxLen]) rfl (by simp);refine⟨_,hn,?_,fun c hc=>?_⟩;rw[List.append_nil,List.nodup_cons];exact⟨fun hm=>by have:=hE.lt h1 _ hm;omega,h2⟩;have hlt:=(B3 hE).lt hn c hc;refine⟨?_,hlt⟩;rcases ze.1 hc with rfl|hc;exact hB;exact (h3 c (by simpa using hc)).1
theorem gN {x y:Operand} {v a u:Value} {xs:List (List Int)} {r:List Int} {S:List Nat} {B' U':Nat} (ht:P.underlying t = some (.slice e)) (hi:TI P e 1 z b) (hz:z.cells = #[z]) (hx:Bk N ρ x = EP v) (hy:Bk N ρ y = a)
  (hv:RN S (B8 (B8 rI)) w.heap v xs) (ha:Fr (By rV e) B' U' w.heap a [u]) (hr:RN S (B8 rI) w.heap u r) (hS:∀ c∈S,c < w.heap.size) (hbytes:(xs.length + 1) * b≤140737488355328) (hmx:xs.length + 1≤maxLen)
  (hu:Up ops N ρ ⟨some d,.call ⟨.builtin .append,#[x,y],#[t,t]⟩,ty,pos,aft,g⟩)
  (h:∀ v1 w1,_root_.Go.Proofs.YtemfgblmfahllaaGreat.AI w w1→RN S (B8 (B8 rI)) w1.heap v1 (xs++[r])→Cx v1→LW P ops w0 Q os ks (mk N (Ch ρ d v1)) w1) :
  LW P ops w0 Q (⟨some d,.call ⟨.builtin .append,#[x,y],#[t,t]⟩,ty,pos,aft,g⟩ :: os) (3 :: ks) (mk N ρ) w:=by
 obtain ⟨G,g1',g2',g3'⟩:=ha;obtain ⟨K,k1,k2⟩:=hv;obtain ⟨R,r1,r2⟩:=hr;obtain ⟨i,h1,h2,h3,h4⟩:=hi.get;subst h4;have hone:=g1.one r1;rcases g1' with ⟨_,hc,_⟩ | ⟨asq,ga,capa,cura,Fa,helsa,hav,hga,qa1,qa2,qa3,qa4,rfl⟩;cases hc
 ·obtain ⟨hq,hFa⟩:=Hf helsa;subst hq;subst hav;have hnews:∀ j q,[u][j]? = some q→w.cell? ((⟨ga,0,none⟩:Addr).add j) = some q:=by
   intro j q hj;rw [GQ,BY];simp only [Cv,hga];rw [← qa4,List.getElem?_take] at hj;split at hj;simpa using hj;cases hj
  have made:∀ (w1:World) (ous:List Value) (K0:List Nat) (rest:Nat),w1.heap = w.heap→w1.os = w.os→w1.tape = w.tape→w1.output = w.output→els (B8 rI) w.heap ous xs K0→(∀ c∈K0,c∈K)→xs.length + 1 + rest≤maxLen →
    _root_.Go.Proofs.YtemfgblmfahllaaGreat.AI w (w1.alloc (.cells (ous.toArray++[u].toArray++Builtin.zeroCells z.cells rest) e))∧RN S (B8 (B8 rI)) (w1.alloc (.cells (ous.toArray++[u].toArray++Builtin.zeroCells z.cells rest) e)).heap (.slice (some ⟨w.heap.size,0,none⟩) (xs.length + 1) (xs.length + 1 + rest)) (xs++[r]):=by
   intro w1 ous K0 rest hh ho htp hop hou hsub hmax;have hE:_root_.Go.Proofs.YtemfgblmfahllaaGreat.AI w (w1.alloc (.cells (ous.toArray++[u].toArray++Builtin.zeroCells z.cells rest) e)):=by
    refine ⟨ho,htp,hop,?_,fun k hk=>?_⟩;show w.heap.size≤(w1.heap.push _).size;rw [hh]; simp;have:=Below.heap_alloc w1 (.cells (ous.toArray++[u].toArray++Builtin.zeroCells z.cells rest) e) k (by rw [hh]; exact hk);rw [this,hh]
   refine ⟨hE,w.heap.size :: (K0++R),.inr ⟨ous++[u],w.heap.size,0,xs.length + 1 + rest,(ous.toArray++[u].toArray++Builtin.zeroCells z.cells rest),e,(0,0),K0++R,?_,by simp,?_,?_,by simp; omega,rfl⟩,?_⟩;refine els.stable g1 (hou.append (show els (B8 rI) w.heap [u] [r] R from ⟨R,[],by simp,r1,rfl⟩)) fun c hc=>hE.heap ?_;exact (hou.append (show els (B8 rI) w.heap [u] [r] R from ⟨R,[],by simp,r1,rfl⟩)).lt g1 c hc;have:=heap_alloc_new w1 (.cells (ous.toArray++[u].toArray++Builtin.zeroCells z.cells rest) e);rw [hh] at this; exact this;have hl:=hou.length;simp only [Array.toList_append,List.drop_zero];rw [show (xs++[r]).length = (ous++[u]).length from by simp [hl]];exact List.take_left
   intro c hc hm;rcases ze.1 hc with rfl | hc;have:=hS _ hm; omega;rcases zi.1 hc with hc | hc;exact k2 c (hsub c hc) hm;exact r2 c hc hm
  have hone1:[u].length = [u].length * i.size:=by rw [h3,Nat.mul_one]
  rcases k1 with ⟨a0,cap0,rfl,rfl,rfl⟩ | ⟨ous,gv,off,cap,cur,e',fr,K',hels,rfl,hg,hw,_,rfl⟩
  ·-- nothing so far
   cases a0 with
   | none =>
    have hrr:=run_append_nil (P:=P) w t ty e i z ht h1 h2 ⟨ga,0,none⟩ 1 capa [u] hone1 hnews (by decide) (by decide) (by simp at hbytes; omega);have hge:=grownCap_ge w 1 0 e;have hgm:=grownCap_le_maxLen w 1 0 e (by simpa using hmx);obtain ⟨q1,q2⟩:=made w.drew [] [] (grownCap w 1 0 e - 1) rfl rfl rfl rfl rfl (fun c hc=>by cases hc) (by simp; omega);refine II rfl hu _ _ (by simp only [execOp,resolve,invoke,builtin,zc,zf,zh,Sem.run_bind,Sem.run_pure,Result.andThen_ok,hx,hy,EP]; rw [show [u].length = 1 from rfl,hrr]; rfl) (J.ext (by simpa using q1))<|h _ _ ?_ ?_ ?_;simpa using q1;have ea:(([]:List (List Int)).length + 1 + (grownCap w 1 0 e - 1)) = grownCap w 1 0 e:=by simp; omega
    rw [ea] at q2;simpa using q2;exact hge
   | some a1 =>
    have hrr:=run_append_grow (P:=P) w t ty e i z ht h1 h2 a1 0 0 [] (by rw [h3]; rfl) (by intro j q hj; cases hj) ⟨ga,0,none⟩ 1 capa [u] hone1 hnews zO (by decide)<|growslice_fits zO (by simpa using hbytes);have hge:=grownCap_ge w (0 + 1) 0 e;have hgm:=grownCap_le_maxLen w (0 + 1) 0 e (by simpa using hmx);obtain ⟨q1,q2⟩:=made w.drew [] [] (grownCap w (0 + 1) 0 e - (0 + 1)) rfl rfl rfl rfl rfl (fun c hc=>by cases hc) (by show 0 + 1 + (grownCap w (0 + 1) 0 e - (0 + 1))≤maxLen; omega);refine II rfl hu _ _ (by simp only [execOp,resolve,invoke,builtin,zc,zf,zh,Sem.run_bind,Sem.run_pure,Result.andThen_ok,hx,hy,EP]; rw [show [u].length = 1 from rfl,hrr]; rfl) (J.ext (by simpa using q1))<|h _ _ q1 ?_ ?_;rotate_left;exact hge;have ea:(([]:List (List Int)).length + 1 + (grownCap w (0 + 1) 0 e - (0 + 1))) = grownCap w (0 + 1) 0 e:=by show 0 + 1 + (grownCap w (0 + 1) 0 e - (0 + 1)) = _; omega
    rw [ea] at q2;simpa using q2
  ·have holds:∀ j q,ous[j]? = some q→w.cell? ((⟨gv,off,none⟩:Addr).add j) = some q:=by
    intro j q hj;rw [GQ,BY];simp only [Cv,hg];rw [← hw,List.getElem?_take] at hj;split at hj;rw [List.getElem?_drop] at hj; simpa using hj;cases hj
   have hrr:=run_append_grow (P:=P) w t ty e i z ht h1 h2 ⟨gv,off,none⟩ xs.length xs.length ous (by rw [h3,hels.length]; omega) holds ⟨ga,0,none⟩ 1 capa [u] hone1 hnews zO (by simp only [maxLen] at hmx; omega)<|growslice_fits zO hbytes;have hge:=grownCap_ge w (xs.length + 1) xs.length e;have hgm:=grownCap_le_maxLen w (xs.length + 1) xs.length e hmx;obtain ⟨q1,q2⟩:=made w.drew ous K' (grownCap w (xs.length + 1) xs.length e - (xs.length + 1)) rfl rfl rfl rfl hels (fun c hc=>z3 _ hc) zO;refine II rfl hu _ _ (by simp only [execOp,resolve,invoke,builtin,zc,zf,zh,Sem.run_bind,Sem.run_pure,Result.andThen_ok,hx,hy,EP]; rw [show [u].length = 1 from rfl,hrr]; rfl) (J.ext (by simpa using q1))<|h _ _ q1 ?_ ?_;rotate_left;exact hge;have ea:(xs.length + 1 + (grownCap w (xs.length + 1) xs.length e - (xs.length + 1))) = grownCap w (xs.length + 1) xs.length e:=by omega
   rw [ea] at q2;exact q2
end
end Jx
end
section
def RT {α:Type}(T:Nat)(E:BL α)(H:Array Obj)(v:Value)(x:α):Prop:=∃F,E H v x F∧∀b∈F,b<T
section rt
variable {α:Type} {E:BL α} {T:Nat} {w w':World} {v:Value} {x:α} {xs:List α} {F S:List Nat}
theorem RN.rt (hE:CA E)(h:RN S E w.heap v x):RT w.heap.size E w.heap v x:=by obtain⟨F,h,_⟩:=h;exact⟨F,h,hE.lt h⟩
theorem RT.ext (hE:CA E)(h:RT T E w.heap v x)(k:AI w w'):RT T E w'.heap v x:=by obtain⟨F,h,hb⟩:=h;exact⟨F,hE.stable h fun b hm=>k.heap (hE.lt h b hm),hb⟩
theorem RT.chg (hE:CA E)(h:RT T E w.heap v x)(c:AF F w w')(hF:∀b∈F,T≤b):RT T E w'.heap v x:=by obtain⟨G,h,hb⟩:=h;exact⟨G,hE.stable h fun b hm=>c.block b (hE.lt h b hm) fun hf=>by have:=hF b hf;have:=hb b hm;omega,hb⟩
theorem RT.rd {H:Array Obj}(h:RT T E H v x):Rd E H v x:=by obtain⟨F,h,_⟩:=h;exact⟨F,h⟩
theorem RT.rn {H:Array Obj}(h:RT T E H v x):RN [] E H v x:=by obtain⟨F,h,_⟩:=h;exact⟨F,h,fun b _ hm=>by cases hm⟩
theorem RT.slL {H:Array Obj}(h:RT T (B8 E) H v xs):Go.Proofs.YtemfgblmfahllaaGreat.ES v xs.length:=h.rn.slL
theorem RT.lenL {H:Array Obj}(h:RT T (B8 E) H v xs):xs.length≤maxLen:=h.rn.lenL
theorem RT.getL {H:Array Obj}(hE:CA E)(d:α){k:Nat}(h:RT T (B8 E) H v xs)(hk:k<xs.length):∃u,IJ H (BJ v k 1)=some u∧RT T E H u (xs.getD k d):=by obtain⟨F,h,hb⟩:=h;obtain⟨u,F1,h1,h2,h3⟩:=B8.get2 d h hk;exact⟨u,h1 _ fun _ _=>rfl,F1,h2,fun b hm=>hb b (h3 b hm)⟩
theorem RT.getI {H:Array Obj}{xs:List Int}{k:Nat}(h:RT T (B8 rI) H v xs)(hk:k<xs.length):IJ H (BJ v k 1)=some (.int .i64 (xs.getD k 0))∧-9223372036854775808≤xs.getD k 0∧xs.getD k 0≤9223372036854775807:=h.rd.getI hk
end rt
section ops
variable {P:Program} {ops:Array Oper} {w0:World} {Q:Act→World→Prop} {os:List Oper} {ks:List Nat} {N:Nat} {ρ:Nat→Value} {w:World}
 {d:Nat} {ty:TypeId} {pos:String} {aft:Array Edge} {g:Option (Nat×Bool)} {t e:TypeId}
theorem Ax {x:Operand}{p:Value}(hp:∃g o,p=.pointer (some ⟨g,o,none⟩))(hx:Bk N ρ x=p)(hu:Up ops N ρ ⟨some d,.nilCheck x,ty,pos,aft,g⟩)
  (h:LW P ops w0 Q os ks (mk N (Ch ρ d p)) w):LW P ops w0 Q (⟨some d,.nilCheck x,ty,pos,aft,g⟩::os) (0::ks) (mk N ρ) w:=by
 obtain⟨b,o,rfl⟩:=hp;exact D2 (by decide) rfl hu _ (fun w' _=>by simp[execOp,hx]) h
theorem M3 (a:Addr):a.add 0=a:=by obtain⟨b,o,s⟩:=a;unfold Addr.add;simp
theorem XB {x y z:Operand}{v u:Value}{n s b:Nat}(ht:P.underlying t=some (.slice e))(hi:TI P e s u b)(hx:Bk N ρ x=v)(hs:ES v n)(hy:Bk N ρ y=.int .i64 (n:Int))(hz:Bk N ρ z=.int .i64 (n:Int))(hc:Cx v)
  (hu:Up ops N ρ ⟨some d,.slice t x none (some y) (some z),ty,pos,aft,g⟩)
  (h:LW P ops w0 Q os ks (mk N (Ch ρ d (EP v))) w):LW P ops w0 Q (⟨some d,.slice t x none (some y) (some z),ty,pos,aft,g⟩::os) (0::ks) (mk N ρ) w:=by
 obtain⟨a,cap,rfl,_⟩:=hs;obtain⟨inf,h1,_,h3,_⟩:=hi.get;refine D2 (by decide) rfl hu _ (fun w' _=>?_) h;have hl':n≤cap:=hc;have hmap:∀a:Option Addr,a.map (·.add 0)=a:=fun a=>by cases a <;> simp[M3]
 simp[execOp,hx,hy,hz,Instr.sliceAt,Instr.slice,Instr.sliceBounds,Instr.sliceBound,asIntOf,run_underlying ht,sizeOf,typeInfo,h1,h3,EP,hl',hmap]
end ops
end
section
section lz
variable {P:Program} {ops:Array Oper} {w0:World} {Q:Act→World→Prop} {os:List Oper} {ks:List Nat} {N:Nat} {ρ:Nat→Value} {w:World} {d:Nat} {ty:TypeId} {pos:String} {aft:Array Edge} {g:Option (Nat × Bool)}
theorem BA {xt yt:TypeId}{x y:Operand}{k:IntKind}{a b:Int}(hc:a<b)(hu:Up ops N ρ ⟨some d,.binOp .lss xt x y yt,ty,pos,aft,g⟩)(h:LW P ops w0 Q os ks (mk N (Ch ρ d (.bool true))) w)(hx:Bk N ρ x=.int k a:=by exact rfl) (hy:Bk N ρ y=.int k b:=by exact rfl):LW P ops w0 Q (⟨some d,.binOp .lss xt x y yt,ty,pos,aft,g⟩::os) (0::ks) (mk N ρ) w:=Um true hx hy (A5 hc) hu h
theorem BB {xt yt:TypeId}{x y:Operand}{k:IntKind}{a b:Int}(hc:¬(a<b))(hu:Up ops N ρ ⟨some d,.binOp .lss xt x y yt,ty,pos,aft,g⟩)(h:LW P ops w0 Q os ks (mk N (Ch ρ d (.bool false))) w)(hx:Bk N ρ x=.int k a:=by exact rfl) (hy:Bk N ρ y=.int k b:=by exact rfl):LW P ops w0 Q (⟨some d,.binOp .lss xt x y yt,ty,pos,aft,g⟩::os) (0::ks) (mk N ρ) w:=Um false hx hy (A6 hc) hu h
theorem M4 {xt yt:TypeId}{x y:Operand}{k:IntKind}{a b:Int}(hc:a≤b)(hu:Up ops N ρ ⟨some d,.binOp .leq xt x y yt,ty,pos,aft,g⟩)(h:LW P ops w0 Q os ks (mk N (Ch ρ d (.bool true))) w)(hx:Bk N ρ x=.int k a:=by exact rfl) (hy:Bk N ρ y=.int k b:=by exact rfl):LW P ops w0 Q (⟨some d,.binOp .leq xt x y yt,ty,pos,aft,g⟩::os) (0::ks) (mk N ρ) w:=Pp true hx hy (A5 hc) hu h
theorem M5 {xt yt:TypeId}{x y:Operand}{k:IntKind}{a b:Int}(hc:¬(a≤b))(hu:Up ops N ρ ⟨some d,.binOp .leq xt x y yt,ty,pos,aft,g⟩)(h:LW P ops w0 Q os ks (mk N (Ch ρ d (.bool false))) w)(hx:Bk N ρ x=.int k a:=by exact rfl) (hy:Bk N ρ y=.int k b:=by exact rfl):LW P ops w0 Q (⟨some d,.binOp .leq xt x y yt,ty,pos,aft,g⟩::os) (0::ks) (mk N ρ) w:=Pp false hx hy (A6 hc) hu h
theorem FA {xt yt:TypeId}{x y:Operand}{k:IntKind}{a b:Int}(hc:b<a)(hu:Up ops N ρ ⟨some d,.binOp .gtr xt x y yt,ty,pos,aft,g⟩)(h:LW P ops w0 Q os ks (mk N (Ch ρ d (.bool true))) w)(hx:Bk N ρ x=.int k a:=by exact rfl) (hy:Bk N ρ y=.int k b:=by exact rfl):LW P ops w0 Q (⟨some d,.binOp .gtr xt x y yt,ty,pos,aft,g⟩::os) (0::ks) (mk N ρ) w:=Un true hx hy (A5 hc) hu h
theorem El {xt yt:TypeId}{x y:Operand}{k:IntKind}{a b:Int}(hc:¬(b<a))(hu:Up ops N ρ ⟨some d,.binOp .gtr xt x y yt,ty,pos,aft,g⟩)(h:LW P ops w0 Q os ks (mk N (Ch ρ d (.bool false))) w)(hx:Bk N ρ x=.int k a:=by exact rfl) (hy:Bk N ρ y=.int k b:=by exact rfl):LW P ops w0 Q (⟨some d,.binOp .gtr xt x y yt,ty,pos,aft,g⟩::os) (0::ks) (mk N ρ) w:=Un false hx hy (A6 hc) hu h
theorem IZ {xt yt:TypeId}{x y:Operand}{k:IntKind}{a b:Int}(hc:b≤a)(hu:Up ops N ρ ⟨some d,.binOp .geq xt x y yt,ty,pos,aft,g⟩)(h:LW P ops w0 Q os ks (mk N (Ch ρ d (.bool true))) w)(hx:Bk N ρ x=.int k a:=by exact rfl) (hy:Bk N ρ y=.int k b:=by exact rfl):LW P ops w0 Q (⟨some d,.binOp .geq xt x y yt,ty,pos,aft,g⟩::os) (0::ks) (mk N ρ) w:=Pq true hx hy (A5 hc) hu h
theorem J0 {xt yt:TypeId}{x y:Operand}{k:IntKind}{a b:Int}(hc:¬(b≤a))(hu:Up ops N ρ ⟨some d,.binOp .geq xt x y yt,ty,pos,aft,g⟩)(h:LW P ops w0 Q os ks (mk N (Ch ρ d (.bool false))) w)(hx:Bk N ρ x=.int k a:=by exact rfl) (hy:Bk N ρ y=.int k b:=by exact rfl):LW P ops w0 Q (⟨some d,.binOp .geq xt x y yt,ty,pos,aft,g⟩::os) (0::ks) (mk N ρ) w:=Pq false hx hy (A6 hc) hu h
theorem AH {xt yt:TypeId}{x y:Operand}{k:IntKind}{a b:Int}(hc:a=b)(hu:Up ops N ρ ⟨some d,.binOp .eql xt x y yt,ty,pos,aft,g⟩)(h:LW P ops w0 Q os ks (mk N (Ch ρ d (.bool true))) w)(hx:Bk N ρ x=.int k a:=by exact rfl) (hy:Bk N ρ y=.int k b:=by exact rfl):LW P ops w0 Q (⟨some d,.binOp .eql xt x y yt,ty,pos,aft,g⟩::os) (0::ks) (mk N ρ) w:=DI true hx hy (A5 hc) hu h
theorem AL {xt yt:TypeId}{x y:Operand}{k:IntKind}{a b:Int}(hc:¬(a=b))(hu:Up ops N ρ ⟨some d,.binOp .eql xt x y yt,ty,pos,aft,g⟩)(h:LW P ops w0 Q os ks (mk N (Ch ρ d (.bool false))) w)(hx:Bk N ρ x=.int k a:=by exact rfl) (hy:Bk N ρ y=.int k b:=by exact rfl):LW P ops w0 Q (⟨some d,.binOp .eql xt x y yt,ty,pos,aft,g⟩::os) (0::ks) (mk N ρ) w:=DI false hx hy (A6 hc) hu h
theorem D0 {xt yt:TypeId}{x y:Operand}{k:IntKind}{a b:Int}(hc:a≠b)(hu:Up ops N ρ ⟨some d,.binOp .neq xt x y yt,ty,pos,aft,g⟩)(h:LW P ops w0 Q os ks (mk N (Ch ρ d (.bool true))) w)(hx:Bk N ρ x=.int k a:=by exact rfl) (hy:Bk N ρ y=.int k b:=by exact rfl):LW P ops w0 Q (⟨some d,.binOp .neq xt x y yt,ty,pos,aft,g⟩::os) (0::ks) (mk N ρ) w:=Nr true hx hy (A5 hc) hu h
theorem Cz {xt yt:TypeId}{x y:Operand}{k:IntKind}{a b:Int}(hc:¬(a≠b))(hu:Up ops N ρ ⟨some d,.binOp .neq xt x y yt,ty,pos,aft,g⟩)(h:LW P ops w0 Q os ks (mk N (Ch ρ d (.bool false))) w)(hx:Bk N ρ x=.int k a:=by exact rfl) (hy:Bk N ρ y=.int k b:=by exact rfl):LW P ops w0 Q (⟨some d,.binOp .neq xt x y yt,ty,pos,aft,g⟩::os) (0::ks) (mk N ρ) w:=Nr false hx hy (A6 hc) hu h
theorem AZ {x:Operand} {xs:Array Operand} {ats:Array TypeId} {f:FuncId} {args:List Value} {R:Ending→World→Prop} (hxs:xs.toList.map (Bk N ρ) = args) (hc:Calls P f args.toArray w R) (hf:((P.funcs[f]?).map fun fn=>(fn.name != "runtime.NumGoroutine") && fn.body.isSome) = some true) (hu:Up ops N ρ ⟨some d,.call ⟨.value x,xs,ats⟩,ty,pos,aft,g⟩) (h:∀ e w1,R e w1→∃ v,e = .returned v∧AI w w1∧LW P ops w0 Q os ks (mk N (Ch ρ d v)) w1) (hx:Bk N ρ x = .func (.func f) #[] #[]:=by exact rfl):LW P ops w0 Q (⟨some d,.call ⟨.value x,xs,ats⟩,ty,pos,aft,g⟩ :: os) (3 :: ks) (mk N ρ) w:=Cd f [] [] args hx (by simpa using hxs) hf hu hc h
theorem AS {x:Operand} {xs:Array Operand} {ats:Array TypeId} {f:FuncId} {args:List Value} {u:Value} (hxs:xs.toList.map (Bk N ρ) = args) (hc:Calls P f args.toArray w fun e w1=>e = .returned u∧AI w w1) (hf:((P.funcs[f]?).map fun fn=>(fn.name != "runtime.NumGoroutine") && fn.body.isSome) = some true) (hu:Up ops N ρ ⟨some d,.call ⟨.value x,xs,ats⟩,ty,pos,aft,g⟩) (h:∀ w1,AI w w1→LW P ops w0 Q os ks (mk N (Ch ρ d u)) w1) (hx:Bk N ρ x = .func (.func f) #[] #[]:=by exact rfl):LW P ops w0 Q (⟨some d,.call ⟨.value x,xs,ats⟩,ty,pos,aft,g⟩ :: os) (3 :: ks) (mk N ρ) w:=AZ hxs hc hf hu (fun e w1 ⟨h1,h2⟩=>⟨u,h1,h2,h w1 h2⟩) hx
theorem Bm {x:Operand} {xs:Array Operand} {ats:Array TypeId} {f:FuncId} {args:List Value} {R:Ending→World→Prop} (hxs:xs.toList.map (Bk N ρ) = args) (hc:Calls P f args.toArray w R) (hf:((P.funcs[f]?).map fun fn=>(fn.name != "runtime.NumGoroutine") && fn.body.isSome) = some true) (hu:Up ops N ρ ⟨some d,.call ⟨.value x,xs,ats⟩,ty,pos,aft,g⟩) (h:∀ e w1,R e w1→∃ v,e = .returned v∧LW P ops w0 Q os ks (mk N (Ch ρ d v)) w1) (hx:Bk N ρ x = .func (.func f) #[] #[]:=by exact rfl):LW P ops w0 Q (⟨some d,.call ⟨.value x,xs,ats⟩,ty,pos,aft,g⟩ :: os) (4 :: ks) (mk N ρ) w:=AG f [] [] args hx (by simpa using hxs) hf hu hc h
theorem B4 {s:TypeId}{x2:Operand}{j d2:Nat}{ty2:TypeId}{pos2:String}{aft2:Array Edge}{g2:Option (Nat×Bool)}{t:TypeId}{x:Operand}{p:Value}{cs:List Value}(i:Nat)(hf:Er P s j i=true)(ht:Co P t)(hb:LD w.heap p cs)(hu:Up ops N ρ ⟨some d,.fieldAddr s x j,ty,pos,aft,g⟩)(hu2:Up ops N (Ch ρ d (BV p i)) ⟨some d2,.load t x2,ty2,pos2,aft2,g2⟩)(h:LW P ops w0 Q os ks (mk N (Ch (Ch ρ d (BV p i)) d2 (cs.getD i undef))) w)(hx:Bk N ρ x=p:=by exact rfl) (hx2:Bk N (Ch ρ d (BV p i)) x2=BV p i:=by exact rfl) (hi:Nat.blt i cs.length=true:=by exact rfl):LW P ops w0 Q (⟨some d,.fieldAddr s x j,ty,pos,aft,g⟩::⟨some d2,.load t x2,ty2,pos2,aft2,g2⟩::os) (0::2::ks) (mk N ρ) w:=by
 have hi:i<cs.length:=by simpa using hi
 exact Gj i hf hx hb hu<|AC (p:=BV p i) (.inr rfl) (cs.getD i undef) ht hx2 (hb.ld hi) hu2 h
theorem At {t:TypeId}{x:Operand}{b:Nat}{cs:List Value}(i:Nat)(ht:Co P t)(hb:BX w.heap b cs)(hu:Up ops N ρ ⟨some d,.load t x,ty,pos,aft,g⟩)(h:LW P ops w0 Q os ks (mk N (Ch ρ d (cs.getD i undef))) w)(hx:Bk N ρ x=BV (.pointer (some ⟨b,0,none⟩)) i:=by exact rfl) (hi:Nat.blt i cs.length=true:=by exact rfl):LW P ops w0 Q (⟨some d,.load t x,ty,pos,aft,g⟩::os) (2::ks) (mk N ρ) w:=by
 have hi:i<cs.length:=by simpa using hi
 exact AC (p:=BV (.pointer<|some ⟨b,0,none⟩) i) (.inr rfl) (cs.getD i undef) ht hx (hb.ldp hi) hu h
theorem BZ {s:TypeId}{x2:Operand}{j d2:Nat}{ty2:TypeId}{pos2:String}{aft2:Array Edge}{g2:Option (Nat×Bool)}{t:TypeId}{x:Operand}{p:Value}{cs:List Value}(i:Nat)(hf:Er P s j i=true)(ht:Co P t)(hb:LD w0.heap p cs)(hu:Up ops N ρ ⟨some d,.fieldAddr s x j,ty,pos,aft,g⟩)(hu2:Up ops N (Ch ρ d (BV p i)) ⟨some d2,.load t x2,ty2,pos2,aft2,g2⟩)(h:LW P ops w0 Q os ks (mk N (Ch (Ch ρ d (BV p i)) d2 (cs.getD i undef))) w)(hx:Bk N ρ x=p:=by exact rfl) (hx2:Bk N (Ch ρ d (BV p i)) x2=BV p i:=by exact rfl) (hi:Nat.blt i cs.length=true:=by exact rfl):LW P ops w0 Q (⟨some d,.fieldAddr s x j,ty,pos,aft,g⟩::⟨some d2,.load t x2,ty2,pos2,aft2,g2⟩::os) (0::1::ks) (mk N ρ) w:=by
 have hi:i<cs.length:=by simpa using hi
 exact Gj i hf hx hb hu<|AC (p:=BV p i) (.inl rfl) (cs.getD i undef) ht hx2 (hb.ld hi) hu2 h
theorem AU {t:TypeId}{x:Operand}{b:Nat}{cs:List Value}(i:Nat)(ht:Co P t)(hb:BX w0.heap b cs)(hu:Up ops N ρ ⟨some d,.load t x,ty,pos,aft,g⟩)(h:LW P ops w0 Q os ks (mk N (Ch ρ d (cs.getD i undef))) w)(hx:Bk N ρ x=BV (.pointer (some ⟨b,0,none⟩)) i:=by exact rfl) (hi:Nat.blt i cs.length=true:=by exact rfl):LW P ops w0 Q (⟨some d,.load t x,ty,pos,aft,g⟩::os) (1::ks) (mk N ρ) w:=by
 have hi:i<cs.length:=by simpa using hi
 exact AC (p:=BV (.pointer<|some ⟨b,0,none⟩) i) (.inl rfl) (cs.getD i undef) ht hx (hb.ldp hi) hu h
theorem Bu {xt yt:TypeId}{x y:Operand}(k:Nat)(hu:Up ops N ρ ⟨some d,.binOp .add xt x y yt,ty,pos,aft,g⟩)(h:LW P ops w0 Q os ks (mk N (Ch ρ d (.int .i64 ((k+1:Nat):Int)))) w)(hx:Bk N ρ x=.int .i64 (k:Int):=by exact rfl) (hy:Bk N ρ y=.int .i64 1:=by exact rfl) (hl:(k:Int)+1≤9223372036854775807:=by exact sD):LW P ops w0 Q (⟨some d,.binOp .add xt x y yt,ty,pos,aft,g⟩::os) (0::ks) (mk N ρ) w:=AP ((k+1:Nat):Int) hx hy (Cc oM hl) hu h
theorem Bd {t e:TypeId}{x:Operand}{v:Value}{n:Nat}(ht:P.underlying t=some (.slice e))(hs:ES v n)(hu:Up ops N ρ ⟨some d,.call ⟨.builtin .len,#[x],#[t]⟩,ty,pos,aft,g⟩)(h:LW P ops w0 Q os ks (mk N (Ch ρ d (.int .i64 (n:Int)))) w)(hx:Bk N ρ x=v:=by exact rfl):LW P ops w0 Q (⟨some d,.call ⟨.builtin .len,#[x],#[t]⟩,ty,pos,aft,g⟩::os) (0::ks) (mk N ρ) w:=Uo ht hx hs hu h
theorem Bc {t e:TypeId}{x y:Operand}{v:Value}{n s:Nat}{k:IntKind}(j:Nat)(ht:P.underlying t=some (.slice e)){z:Value}{b:Nat}(hi:TI P e s z b)(hs:ES v n)(hlt:j<n)(hu:Up ops N ρ ⟨some d,.indexAddr t x y,ty,pos,aft,g⟩)(h:LW P ops w0 Q os ks (mk N (Ch ρ d (BJ v j s))) w)(hx:Bk N ρ x=v:=by exact rfl) (hy:Bk N ρ y=.int k (j:Int):=by exact rfl):LW P ops w0 Q (⟨some d,.indexAddr t x y,ty,pos,aft,g⟩::os) (0::ks) (mk N ρ) w:=Pr j ht hi hx hy hs rfl hlt hu h
theorem Br {t e:TypeId}{x y:Operand}{v:Value}{n s:Nat}{k:IntKind}{i:Int}(j:Nat)(ht:P.underlying t=some (.slice e)){z:Value}{b:Nat}(hi:TI P e s z b)(hy:Bk N ρ y=.int k i)(hs:ES v n)(hj:i=(j:Int))(hlt:j<n)(hu:Up ops N ρ ⟨some d,.indexAddr t x y,ty,pos,aft,g⟩)(h:LW P ops w0 Q os ks (mk N (Ch ρ d (BJ v j s))) w)(hx:Bk N ρ x=v:=by exact rfl):LW P ops w0 Q (⟨some d,.indexAddr t x y,ty,pos,aft,g⟩::os) (0::ks) (mk N ρ) w:=Pr j ht hi hx hy hs hj hlt hu h
theorem AF.blw {F:List Nat}{a b c:World}(k:AF F b c)(h:AI a b)(hF:∀x∈F,a.heap.size≤x):AI a c:=k.below h hF h.size
theorem C7 {x:Operand}{vs:List Value}{i:Nat}(hx:Bk N ρ x=.tuple vs.toArray)(hu:Up ops N ρ ⟨some d,.extract x i,ty,pos,aft,g⟩)(h:LW P ops w0 Q os ks (mk N (Ch ρ d (vs.getD i undef))) w)(hi:Nat.blt i vs.length=true:=by exact rfl):LW P ops w0 Q (⟨some d,.extract x i,ty,pos,aft,g⟩::os) (0::ks) (mk N ρ) w:=VZ (vs.getD i undef) hx (by rw[List.getD_eq_getElem?_getD,List.getElem?_eq_getElem (show i<vs.length by simpa using hi)];rfl) hu h
theorem DH {t:TypeId}{x:Operand}{p u:Value}(hc:IJ w.heap p=some u)(ht:Co P t)(hu:Up ops N ρ ⟨some d,.load t x,ty,pos,aft,g⟩)(h:LW P ops w0 Q os ks (mk N (Ch ρ d u)) w)(hx:Bk N ρ x=p:=by exact rfl):LW P ops w0 Q (⟨some d,.load t x,ty,pos,aft,g⟩::os) (2::ks) (mk N ρ) w:=AC (p:=p) (.inr rfl) u ht hx hc hu h
theorem Be {t:TypeId}{s:Nat}{x:Operand}{p:Value}(cs:List Value)(ht:E0 P t s=true)(hx:Bk N ρ x=p)(hc:∀w',AI w w'→LD w'.heap p cs)(hu:Up ops N ρ ⟨some d,.load t x,ty,pos,aft,g⟩)(h:LW P ops w0 Q os ks (mk N (Ch ρ d (.agg cs.toArray))) w)(hl:cs.length=s:=by exact rfl):LW P ops w0 Q (⟨some d,.load t x,ty,pos,aft,g⟩::os) (2::ks) (mk N ρ) w:=Q8 (p:=p) (.inr rfl) cs ht hx hc hl hu h
theorem CT {t:TypeId}{x:Operand}{p u:Value}(hc:IJ w0.heap p=some u)(ht:Co P t)(hu:Up ops N ρ ⟨some d,.load t x,ty,pos,aft,g⟩)(h:LW P ops w0 Q os ks (mk N (Ch ρ d u)) w)(hx:Bk N ρ x=p:=by exact rfl):LW P ops w0 Q (⟨some d,.load t x,ty,pos,aft,g⟩::os) (1::ks) (mk N ρ) w:=AC (p:=p) (.inl rfl) u ht hx hc hu h
theorem HT {t:TypeId}{s:Nat}{x:Operand}{p:Value}(cs:List Value)(ht:E0 P t s=true)(hx:Bk N ρ x=p)(hc:∀w',AI w0 w'→LD w'.heap p cs)(hu:Up ops N ρ ⟨some d,.load t x,ty,pos,aft,g⟩)(h:LW P ops w0 Q os ks (mk N (Ch ρ d (.agg cs.toArray))) w)(hl:cs.length=s:=by exact rfl):LW P ops w0 Q (⟨some d,.load t x,ty,pos,aft,g⟩::os) (1::ks) (mk N ρ) w:=Q8 (p:=p) (.inl rfl) cs ht hx hc hl hu h
theorem Ao {s:TypeId}{x:Operand}{j b:Nat}(i:Nat)(hf:Er P s j i=true)(hx:Bk N ρ x=.pointer (some ⟨b,0,none⟩))(hu:Up ops N ρ ⟨some d,.fieldAddr s x j,ty,pos,aft,g⟩)(h:LW P ops w0 Q os ks (mk N (Ch ρ d (BV (.pointer (some ⟨b,0,none⟩)) i))) w):LW P ops w0 Q (⟨some d,.fieldAddr s x j,ty,pos,aft,g⟩::os) (0::ks) (mk N ρ) w:=C9 i hf hx rfl hu h
theorem Bi {x:Operand} {xs:Array Operand} {ats:Array TypeId} {f:FuncId} {args:List Value} {v:Value} (hxs:xs.toList.map (Bk N ρ) = args) (hc:∀ w1,Calls P f args.toArray w1 fun e w2=>e = .returned v∧w2 = w1) (hf:((P.funcs[f]?).map fun fn=>(fn.name != "runtime.NumGoroutine") && fn.body.isSome) = some true) (hu:Up ops N ρ ⟨some d,.call ⟨.value x,xs,ats⟩,ty,pos,aft,g⟩) (h:LW P ops w0 Q os ks (mk N (Ch ρ d v)) w) (hx:Bk N ρ x = .func (.func f) #[] #[]:=by exact rfl):LW P ops w0 Q (⟨some d,.call ⟨.value x,xs,ats⟩,ty,pos,aft,g⟩ :: os) (0 :: ks) (mk N ρ) w:=BR f [] [] args hx (by simpa using hxs) hf hu v hc h
theorem B6 {p:Prop}(h:p:=by repeat' (first|exact trivial|refine⟨rfl,?_⟩)):p:=h
end lz
end
section
def qi (P:Program):List Field→Nat→Bool
 | [],_=>true
 | f :: fs,i=>(f.name != "_") && (f.offset == i) && (match P.underlying f.type with | some (.int .i64)=>true | _=>false) && qi P fs (i + 1)
def eD (P:Program)(t:TypeId)(n:Nat):Bool :=
 (match P.underlying t with|some (.struct _)=>true|_=>false) && !P.stoodInHeld t && !P.eqGuardType P.depth t && qi P (P.fieldsOf t).toList 0 && ((P.fieldsOf t).size == n)
theorem gO {P:Program}{t:TypeId}{n:Nat}(h:eD P t n=true):P.underlying t=some (.struct (P.fieldsOf t)):=by unfold eD at h;simp only[z7]at h;have h1:=h.1.1.1.1;unfold Program.fieldsOf;split at h1;rename_i fs hfs;rw[hfs];cases h1
theorem Rw {P:Program}{e:TypeId}{xs:Array Value}{off:Nat}{v:Value}{w:World}(he:P.underlying e=some (.int .i64))(hx:xs[off]? = some v):(part e xs off).run P w=.ok v w:=by unfold part isAgg;simp[run_underlying he,hx]
theorem Uy {P:Program} {w:World} {d:Nat} (us vs:List Int) (hl:us.length = vs.length):∀ (fs:List Field) (i:Nat),qi P fs i = true→i + fs.length = us.length →
  (Op.eqFields (d + 1) ((us.map (Value.int .i64)).toArray) ((vs.map (Value.int .i64)).toArray) fs).run P w = .ok (decide (us.drop i = vs.drop i)) w
 | [],i,_,h=>by
  have h':i = us.length:=by simpa using h
  rw [List.drop_eq_nil_of_le (by omega),List.drop_eq_nil_of_le (by omega)]
  rfl
 | f :: fs,i,hf,h=>by
  unfold qi at hf
  simp only [z7] at hf
  obtain ⟨⟨⟨h1,h2⟩,h3⟩,h4⟩:=hf
  have h2:f.offset = i:=by simpa using h2
  have h1:f.name≠"_":=by simpa using h1
  have h3:P.underlying f.type = some (.int .i64):=by
   split at h3;assumption;cases h3
  have hlt:i < us.length:=by simp only [z9] at h; omega
  have hlv:i < vs.length:=by omega
  have e1:((us.map (Value.int .i64)).toArray)[i]? = some (.int .i64 us[i]):=by simp [hlt]
  have e2:((vs.map (Value.int .i64)).toArray)[i]? = some (.int .i64 vs[i]):=by simp [hlv]
  have ih:=Uy (P:=P) (w:=w) (d:=d) us vs hl fs (i + 1) h4 (by simp only [z9] at h; omega);simp only [Op.eqFields,if_pos h1,Sem.run_bind,h2,Rw h3 e1,Rw h3 e2,Result.andThen_ok,run_equalIn_int w d f.type .i64 .i64 us[i] vs[i] h3];rw [List.drop_eq_getElem_cons hlt,List.drop_eq_getElem_cons hlv];by_cases hq:us[i] = vs[i];simp only [hq,beq_self_eq_true,Bool.not_true,Bool.false_eq_true,if_false,ih];congr 1;exact decide_eq_decide.2 ⟨fun h=>by rw [h],fun h=>(List.cons.inj h).2⟩;have hb:(us[i] == vs[i]) = false:=by simpa using hq
  simp only [hb,Bool.not_false,if_true,Sem.run_pure];congr 1;exact (A6 (fun h=>hq (List.cons.inj h).1)).symm
theorem Uz {P:Program}{t:TypeId}{us vs:List Int}{w:World}(h:eD P t us.length=true)(hl:us.length=vs.length) :
  (Op.equalIn 10000 t (.agg (us.map (Value.int .i64)).toArray) (.agg (vs.map (Value.int .i64)).toArray)).run P w=.ok (decide (us=vs)) w:=by
 have hs:=gO h;unfold eD at h;simp only[z7]at h;obtain⟨⟨⟨⟨_,h2⟩,h3⟩,h4⟩,h5⟩:=h;have hfl:(P.fieldsOf t).size=us.length:=by simpa using h5
 rw[run_equalIn_struct w 9999 t _ _ hs (by simpa using h2),Uy us vs hl _ 0 h4 (by simpa using hfl)];rfl
section ops
variable {P:Program} {ops:Array Oper} {w0:World} {Q:Act→World→Prop} {os:List Oper} {ks:List Nat} {N:Nat} {ρ:Nat→Value} {w:World}
 {d:Nat} {ty:TypeId} {pos:String} {aft:Array Edge} {g:Option (Nat×Bool)} {xt yt:TypeId} {x y:Operand} {us vs:List Int} {cx cy:List Value}
theorem gP (c:Bool)(ht:eD P xt us.length=true)(hl:us.length=vs.length)(hx:Bk N ρ x=.agg cx.toArray)(hy:Bk N ρ y=.agg cy.toArray)(hu1:cx=us.map (Value.int .i64))(hv1:cy=vs.map (Value.int .i64))(hc:decide (us=vs)=c)(hu:Up ops N ρ ⟨some d,.binOp .eql xt x y yt,ty,pos,aft,g⟩)
  (h:LW P ops w0 Q os ks (mk N (Ch ρ d (.bool c))) w):LW P ops w0 Q (⟨some d,.binOp .eql xt x y yt,ty,pos,aft,g⟩::os) (0::ks) (mk N ρ) w :=
 D2 (by decide) rfl hu _ (fun w' _=>by
  subst hu1 hv1
  have hg:P.eqGuardType P.depth xt=false:=by
   unfold eD at ht;simp only[z7]at ht;simpa using ht.1.1.2
  simp only[execOp,hx,hy,Sem.run_bind,run_eqGuard_agg w' _ xt x y _ _ hg,Result.andThen_ok,run_eql_struct,Uz ht hl,hc,Sem.run_pure]) h
theorem gQ (c:Bool)(ht:eD P xt us.length=true)(hl:us.length=vs.length)(hx:Bk N ρ x=.agg cx.toArray)(hy:Bk N ρ y=.agg cy.toArray)(hu1:cx=us.map (Value.int .i64))(hv1:cy=vs.map (Value.int .i64))(hc:(!decide (us=vs))=c)(hu:Up ops N ρ ⟨some d,.binOp .neq xt x y yt,ty,pos,aft,g⟩)
  (h:LW P ops w0 Q os ks (mk N (Ch ρ d (.bool c))) w):LW P ops w0 Q (⟨some d,.binOp .neq xt x y yt,ty,pos,aft,g⟩::os) (0::ks) (mk N ρ) w :=
 D2 (by decide) rfl hu _ (fun w' _=>by
  subst hu1 hv1
  have hg:P.eqGuardType P.depth xt=false:=by
   unfold eD at ht;simp only[z7]at ht;simpa using ht.1.1.2
  simp only[execOp,hx,hy,Sem.run_bind,run_eqGuard_agg w' _ xt x y _ _ hg,Result.andThen_ok,run_neq_struct,Uz ht hl,hc,Sem.run_pure]) h
end ops
end
section
def K6 (a b:ByteArray):Bool:=a.toList == b.toList
section ops
variable {P:Program} {ops:Array Oper} {w0:World} {Q:Act→World→Prop} {os:List Oper} {ks:List Nat} {N:Nat} {ρ:Nat→Value} {w:World}
 {d:Nat} {ty:TypeId} {pos:String} {aft:Array Edge} {g:Option (Nat×Bool)} {t e:TypeId}
theorem Tr {xt yt:TypeId}{x y:Operand}{a b:ByteArray}(c:Bool)(ht:P.underlying xt=some .string)(hx:Bk N ρ x=.string a)(hy:Bk N ρ y=.string b)(hc:K6 a b=c)(hu:Up ops N ρ ⟨some d,.binOp .eql xt x y yt,ty,pos,aft,g⟩)
  (h:LW P ops w0 Q os ks (mk N (Ch ρ d (.bool c))) w):LW P ops w0 Q (⟨some d,.binOp .eql xt x y yt,ty,pos,aft,g⟩::os) (0::ks) (mk N ρ) w :=
 D2 (by decide) rfl hu _ (fun w' _=>by
  have he:(eqGuard .eql xt x y (.string a) (.string b)).run P w'=.ok () w':=rfl
  have hr:(binOp .eql xt (.string a) (.string b)).run P w'=.ok (.bool (K6 a b)) w':=by simp[binOp,Op.stringOp,K6]
  simp only[execOp,hx,hy,Sem.run_bind,he,Result.andThen_ok,hr,hc,Sem.run_pure]) h
def MB:Value→Nat→Value
 |.slice a _ c,k=>.slice a k c
 |v,_=>v
theorem RN.pref {α:Type}{S:List Nat}{s:Nat}{E:BS α}{H:Array Obj}{v:Value}{xs:List α}(hE:Ct s E){k:Nat}(h:RN S (D7 s E) H v xs)(hk:k≤xs.length):RN S (D7 s E) H (MB v k) (xs.take k):=by obtain⟨F,h,hb⟩:=h;obtain⟨a,c,rfl,_⟩:=h.cap;obtain⟨G,g1,g2⟩:=h.take hE hk;exact⟨G,g1,fun b hm=>hb b (g2 b hm)⟩
theorem RN.capS {α:Type}{S:List Nat}{s:Nat}{E:BS α}{H:Array Obj}{v:Value}{xs:List α}(h:RN S (D7 s E) H v xs):Cx v:=by obtain⟨F,h,hb⟩:=h;obtain⟨a,c,rfl,hl⟩:=h.cap;exact hl
theorem Q9 {x y:Operand}{v z:Value}{n s b k:Nat}(ht:P.underlying t=some (.slice e))(hi:TI P e s z b)(hx:Bk N ρ x=v)(hs:ES v n)(hc:Cx v)(hy:Bk N ρ y=.int .i64 (k:Int))(hk:k≤n)(hu:Up ops N ρ ⟨some d,.slice t x none (some y) none,ty,pos,aft,g⟩)
  (h:LW P ops w0 Q os ks (mk N (Ch ρ d (MB v k))) w):LW P ops w0 Q (⟨some d,.slice t x none (some y) none,ty,pos,aft,g⟩::os) (0::ks) (mk N ρ) w:=by
 obtain⟨a,cap,rfl,_⟩:=hs;obtain⟨inf,h1,_,h3,_⟩:=hi.get;refine D2 (by decide) rfl hu _ (fun w' _=>?_) h;have hl:n≤cap:=hc;have hl':k≤cap:=by omega
 have hmap:∀a:Option Addr,a.map (·.add 0)=a:=fun a=>by cases a <;> simp[M3]
 simp[execOp,hx,hy,Instr.sliceAt,Instr.slice,Instr.sliceBounds,Instr.sliceBound,asIntOf,run_underlying ht,sizeOf,typeInfo,h1,h3,hl',hmap,MB]
end ops
end
section
def Dt {α:Type}(s:Nat)(E:BS α)(e:TypeId):BL (List α):=fun H v xs F =>
 (v=.slice none 0 0∧xs=[]∧F=[]) ∨
 ∃css g cap cur F',CL E H css xs F'∧v=.slice (some ⟨g,0,none⟩) xs.length cap∧H[g]? = some (.cells cur e (0,0))∧xs.length≤cap∧cap≤maxLen∧cur.size=cap*s∧cur.toList.take (xs.length*s)=css.flatten∧F=g::F'
section Dt
variable {α:Type} {E:BS α} {s:Nat} {e:TypeId} {H H':Array Obj} {v:Value} {xs:List α} {F:List Nat}
theorem Aj (hE:Ct s E):CA (Dt s E e) where
 cells:=by
  rintro H v xs F (⟨rfl,_⟩|⟨us,g,cap,cur,F',_,rfl,_⟩) <;> rfl
 one:=by
  rintro H v xs F (⟨rfl,_⟩|⟨us,g,cap,cur,F',_,rfl,_⟩) <;> rfl
 lt:=by
  rintro H v xs F (⟨rfl,_,rfl⟩|⟨us,g,cap,cur,F',h,rfl,hg,_,_,_,_,rfl⟩) b hb;cases hb;rcases ze.1 hb with rfl|hb;exact getElem?_lt hg;exact h.lt hE b hb
 stable:=by
  rintro H H' v xs F (⟨rfl,h1,h2⟩|⟨us,g,cap,cur,F',h,rfl,hg,r1,r2,r3,r4,rfl⟩) hb;exact .inl ⟨rfl,h1,h2⟩;exact .inr ⟨us,g,cap,cur,F',h.stable hE fun b hh=>hb b<|z3 _ hh,rfl,by rw[hb g (z0 ..)];exact hg,r1,r2,r3,r4,rfl⟩
theorem CL.imp {E':BS α}(hi:∀ {H cs x F},E H cs x F→E' H cs x F):∀ {css:List (List Value)}{xs:List α}{F:List Nat},CL E H css xs F→CL E' H css xs F
 |[],[],_,h=>h
 |_::_,_::_,_,⟨F1,F2,rfl,h1,h2⟩=>⟨F1,F2,rfl,hi h1,CL.imp hi h2⟩
 |[],_::_,_,h=>h.elim
 |_::_,[],_,h=>h.elim
theorem Dt.imp {E':BS α}(hi:∀ {H cs x F},E H cs x F→E' H cs x F)(h:Dt s E e H v xs F):Dt s E' e H v xs F:=by rcases h with h|⟨us,g,cap,cur,F',h,rfl,hg,r1,r2,r3,r4,rfl⟩;exact .inl h;exact .inr ⟨us,g,cap,cur,F',h.imp hi,rfl,hg,r1,r2,r3,r4,rfl⟩
theorem Dt.rd (hE:Ct s E)(h:Dt s E e H v xs F):D7 s E H v xs F:=by rcases h with⟨rfl,rfl,rfl⟩|⟨us,g,cap,cur,F',h,rfl,hg,r1,r2,r3,r4,rfl⟩;exact .inl ⟨none,0,rfl,rfl,rfl⟩;refine .inr ⟨us,g,0,cap,cur,e,(0,0),F',h,rfl,hg,?_,⟨A8 r1 r2,r1⟩,rfl⟩;rw[List.drop_zero];exact r4
theorem Dt.isSl (h:Dt s E e H v xs F):ES v xs.length:=by rcases h with⟨rfl,rfl,_⟩|⟨us,g,cap,cur,F',_,rfl,_⟩;exact⟨none,0,rfl,fun _=>rfl⟩;exact⟨_,_,rfl,fun h=>by cases h⟩
theorem Dt.lenle (h:Dt s E e H v xs F):xs.length≤maxLen:=by rcases h with⟨_,rfl,_⟩|⟨us,g,cap,cur,F',_,_,_,r1,r2,_⟩;simp;exact A8 r1 r2
theorem CL.set:∀ {css:List (List Value)}{xs:List α}{F G:List Nat}{k:Nat}{cs:List Value}{y:α},CL E H css xs F→k<xs.length→F.Nodup→E H cs y G→G.Nodup→(∀b∈G,b∉F) →
  ∃F',CL E H (css.set k cs) (xs.set k y) F'∧F'.Nodup∧∀b∈F',b∈F∨b∈G
 |u0::us,x::xs,_,G,0,u,y,⟨F1,F2,rfl,h1,h2⟩,_,hn,hy,hg,hd=>by
  have hn':=List.nodup_append.1 hn
  refine⟨G++F2,⟨G,F2,rfl,hy,h2⟩,List.nodup_append.2 ⟨hg,hn'.2.1,?_⟩,fun b hb=>(zi.1 hb).elim .inr fun h=>.inl (z1 _ h)⟩
  rintro a ha b hb rfl
  exact hd a ha<|z1 _ hb
 |u0::us,x::xs,_,G,k+1,u,y,⟨F1,F2,rfl,h1,h2⟩,hk,hn,hy,hg,hd=>by
  have hn':=List.nodup_append.1 hn
  obtain⟨F',q1,q2,q3⟩:=CL.set h2 (by simpa using hk) hn'.2.1 hy hg fun b hb hc=>hd b hb (z1 _ hc)
  refine⟨F1++F',⟨F1,F',rfl,h1,q1⟩,List.nodup_append.2 ⟨hn'.1,q2,?_⟩,fun b hb=>?_⟩
  rintro a ha b hb rfl
  rcases q3 a hb with hh|hh
  exact hn'.2.2 a ha a hh rfl
  exact hd a hh<|z8 _ ha
  rcases zi.1 hb with hh|hh
  exact .inl<|z8 _ hh
  rcases q3 b hh with h'|h'
  exact .inl<|z1 _ h'
  exact .inr h'
 |[],[],_,_,_,_,_,_,hk,_,_,_,_=>by simp at hk
 |[],_::_,_,_,_,_,_,h,_,_,_,_,_=>h.elim
 |_::_,[],_,_,_,_,_,h,_,_,_,_,_=>h.elim
end Dt
theorem Rx {s:Nat}{vs:List Value}:∀ {css:List (List Value)}{k:Nat},(∀c∈css,c.length=s)→vs.length=s→k<css.length→css.flatten.take (k*s)++vs++css.flatten.drop (k*s+vs.length)=(css.set k vs).flatten
 |[],_,_,_,hk=>by simp at hk
 |c::css,0,h,hv,_=>by
  have hc:=h c (z0 ..)
  simp[hv,← hc]
 |c::css,k+1,h,hv,hk=>by
  have hc:=h c (z0 ..)
  have ih:=Rx (s:=s) (vs:=vs) (css:=css) (k:=k) (fun c hc=>h c<|z3 _ hc) hv (by simpa using hk)
  have e1:(k+1)*s=c.length+k*s:=by rw[Nat.succ_mul,hc];omega
  have e2:(k+1)*s+vs.length=c.length+(k*s+vs.length):=by omega
  rw[e2,e1,List.set_cons_succ,List.flatten_cons,List.flatten_cons,List.take_length_add_append,List.drop_length_add_append,← ih]
  simp[List.append_assoc]
theorem Px {s:Nat}{u:Value}:∀ {css:List (List Value)}{k c:Nat}{cs:List Value},(∀c∈css,c.length=s)→css[k]? = some cs→c<s→css.flatten.set (k*s+c) u=(css.set k (cs.set c u)).flatten
 |[],_,_,_,_,hk,_=>by simp at hk
 |x::css,0,c,cs,h,hk,hc=>by
  have hx:=h x (z0 ..)
  have:x=cs:=by simpa using hk
  subst this
  rw[Nat.zero_mul,Nat.zero_add,List.flatten_cons,List.set_append,if_pos zO,List.set_cons_zero,List.flatten_cons]
 |x::css,k+1,c,cs,h,hk,hc=>by
  have hx:=h x (z0 ..)
  have ih:=Px (s:=s) (u:=u) (css:=css) (k:=k) (c:=c) (cs:=cs) (fun c hc=>h c<|z3 _ hc) (by simpa using hk) hc
  have e1:(k+1)*s+c=x.length+(k*s+c):=by rw[Nat.succ_mul,hx];omega
  rw[e1,List.flatten_cons,List.set_append,if_neg zO,Nat.add_sub_cancel_left,ih,List.set_cons_succ,List.flatten_cons]
theorem CL.lens {α:Type}{E:BS α}{s:Nat}{H:Array Obj}(hE:Ct s E):∀ {css:List (List Value)}{xs:List α}{F:List Nat},CL E H css xs F→∀c∈css,c.length=s
 |[],[],_,_,c,hc=>by cases hc
 |_::_,_::_,_,⟨F1,F2,rfl,h1,h2⟩,c,hc=>(ze.1 hc).elim (fun h=>by rw[h];exact hE.len h1) (CL.lens hE h2 c)
 |[],_::_,_,h,_,_=>h.elim
 |_::_,[],_,h,_,_=>h.elim
theorem X1 {L vs:List Value}{a M:Nat}(h:a+vs.length≤M)(hM:M≤L.length):(L.take a++vs++L.drop (a+vs.length)).take M=(L.take M).take a++vs++(L.take M).drop (a+vs.length):=by
 have h1:(L.take a++vs).length=a+vs.length:=by rw[z4,List.length_take];omega
 rw[List.take_append,h1,za zO,List.take_take,Nat.min_eq_left zO,List.drop_take]
section ops
variable {P:Program} {ops:Array Oper} {w0:World} {Q:Act→World→Prop} {os:List Oper} {ks:List Nat} {N:Nat} {ρ:Nat→Value} {w:World}
 {d:Nat} {ty:TypeId} {pos:String} {aft:Array Edge} {g:Option (Nat×Bool)} {t e:TypeId} {α:Type} {E:BS α} {s:Nat}
theorem gR {st:TypeId}{x y:Operand}{v:Value}{cs:List Value}{n:α}{xs:List α}{B U B' U' j:Nat}(hE:Ct s E)(hst:E0 P st s=true)(hx:Bk N ρ x=BJ v j s)(hy:Bk N ρ y=.agg cs.toArray)
  (hv:Fr (Dt s E e) B U w.heap v xs) (hn:∃G,E w.heap cs n G∧G.Nodup∧∀b∈G,B'≤b∧b<U') (hU:U≤B') (hBB:B≤B') (hj:j<xs.length) (hu:Up ops N ρ ⟨none,.store st x y,ty,pos,aft,g⟩)
  (h:∀w1 F,AF F w w1→w1.heap.size=w.heap.size→(∀c∈F,B≤c∧c<U)→Fr (Dt s E e) B w1.heap.size w1.heap v (xs.set j n)→LW P ops w0 Q os ks (mk N ρ) w1) :
  LW P ops w0 Q (⟨none,.store st x y,ty,pos,aft,g⟩::os) (4::ks) (mk N ρ) w:=by
 obtain⟨F,h1,h2,h3⟩:=hv;obtain⟨G,n1,n2,n3⟩:=hn;rcases h1 with⟨rfl,rfl,rfl⟩|⟨css,b,cap,cur,F0,hels,rfl,hgc,r1,r2,r3,r4,rfl⟩;simp at hj;have hn':=List.nodup_cons.1 h2;obtain⟨F',q1,q2,q3⟩:=hels.set hj hn'.2 n1 n2 fun c hc hm=>by have:=n3 c hc;have:=h3 c (z3 _ hm);omega
 have hbF':b∉F':=fun hm=>(q3 b hm).elim hn'.1 fun h=>by have:=n3 b h;have:=h3 b (z0 ..);omega
 have hlen:=hels.lens hE;have hcl:cs.length=s:=hE.len n1;have hfl:=hels.flen hE;have hjs:j*s+s≤xs.length*s:=by rw[← Nat.succ_mul];exact Nat.mul_le_mul_right s hj
 have hcs:xs.length*s≤cur.size:=by rw[r3];exact Nat.mul_le_mul_right s r1
 have hst1:=run_storeCells_at (P:=P) b (j*s) e cs 0 cur w hgc zO fun u hu=>(hE.one n1 u hu).2;rw[Nat.add_zero]at hst1;have htk:(cur.toList.take (j*s)++cs++cur.toList.drop (j*s+cs.length)).take (xs.length*s)=(css.set j cs).flatten:=by
  rw[X1 zO (by rw[Array.length_toList];omega),r4,Rx hlen hcl (by rw[hels.length];exact hj)]
 unfold E0 at hst;simp only[z7]at hst;obtain⟨_,p2⟩:=hst;split at p2;rename_i inf hin;have hs:inf.size=s:=by simpa using p2
 have hr:(Instr.storeAt st (.pointer (some ⟨b,j*s,none⟩)) (.agg cs.toArray)).run P w=.ok () (w.setRow b (cur.toList.take (j*s)++cs++cur.toList.drop (j*s+cs.length)).toArray):=by
  simp[Instr.storeAt,Instr.sureAddr,storeVar,sizeOf,typeInfo,hin,Value.cells,hcl,hs,hst1]
 have hgn:=setRow_heap w b cur (cur.toList.take (j*s)++cs++cur.toList.drop (j*s+cs.length)).toArray e (0,0) hgc;refine Q4 rfl hu _ (EI (by rw[hx,Nv,Nat.zero_add]) hy hr)<|h _ [b] ⟨rfl,rfl,rfl,by simp,fun k _ hk=>setRow_other w b k _ (by simpa using hk)⟩ (by simp) (fun c hc=>by rw[A9 hc];exact h3 b (z0 ..)) ⟨b::F',.inr ⟨css.set j cs,b,cap,_,F',q1.stable hE fun c hc=>setRow_other w b c _ fun he=>hbF' (he ▸ hc),by simp,hgn,by rw[z6];exact r1,r2,by rw[← r3,List.size_toArray];simp only[z4,List.length_take,List.length_drop,Array.length_toList];omega,by rw[z6];exact htk,rfl⟩,List.nodup_cons.2 ⟨hbF',q2⟩,fun c hc=>?_⟩;rcases ze.1 hc with rfl|hc;exact⟨(h3 c (z0 ..)).1,by rw[show(w.setRow c (cur.toList.take (j*s)++cs++cur.toList.drop (j*s+cs.length)).toArray).heap.size=w.heap.size from by simp];exact getElem?_lt hgc⟩;have hlt:=q1.lt hE c hc;rcases q3 c hc with hh|hh;exact⟨(h3 c (z3 _ hh)).1,by simpa using hlt⟩;exact⟨by have:=n3 c hh;omega,by simpa using hlt⟩;cases p2
end ops
end
section
theorem D7.imp {α:Type}{E E':BS α}{s:Nat}{H:Array Obj}{v:Value}{xs:List α}{F:List Nat}(hi:∀ {H cs x F},E H cs x F→E' H cs x F)(h:D7 s E H v xs F):D7 s E' H v xs F:=by rcases h with h|⟨css,g,off,cap,cur,e,fr,F',h1,h2⟩;exact .inl h;exact .inr ⟨css,g,off,cap,cur,e,fr,F',h1.imp hi,h2⟩
def P4 (e:TypeId):Nat→BS Ex
 |0=>fun _ _ _ _=>False
 |d+1=>fun H cs x F=>∃v,cs=Rt x v∧aO x∧Dt 5 (P4 e d) e H v x.kids F
theorem B7 (e:TypeId):∀d,Ct 5 (P4 e d)
 |0=>⟨fun h=>h.elim,fun h=>h.elim,fun h=>h.elim,fun h=>h.elim⟩
 |d+1=>by
  have ih:=B7 e d
  refine⟨?_,?_,?_,?_⟩
  rintro H cs e F ⟨v,rfl,_,_⟩;rfl
  rintro H cs e F ⟨v,rfl,_,h⟩ u hu
  unfold Rt at hu
  simp only[ze,z2,or_false]at hu
  rcases hu with rfl|rfl|rfl|rfl|rfl
  exact⟨rfl,rfl⟩
  exact⟨rfl,rfl⟩
  exact⟨rfl,rfl⟩
  exact⟨rfl,rfl⟩
  exact⟨(Aj ih).cells h,(Aj ih).one h⟩
  rintro H cs e F ⟨v,rfl,_,h⟩ b hb
  exact (Aj ih).lt h b hb
  rintro H H' cs e F ⟨v,rfl,hr,h⟩ hb
  exact⟨v,rfl,hr,(Aj ih).stable h hb⟩
theorem XC (e:TypeId):∀ {d:Nat}{H:Array Obj}{cs:List Value}{x:Ex}{F:List Nat},P4 e d H cs x F→N1 d H cs x F
 |0,_,_,_,_,h=>h.elim
 |d+1,_,_,_,_,⟨v,h1,h2,h3⟩=>⟨v,h1,h2,(h3.rd (B7 e d)).imp fun h=>XC e h⟩
def XD (e:TypeId)(d:Nat):BS Fn:=fun H cs f F=>∃v,cs=T6 f v∧Bw f.params∧Dt 5 (P4 e d) e H v f.outs F
theorem AQ (e:TypeId)(d:Nat):Ct 3 (XD e d):=by have ih:=Aj (e:=e)<|B7 e d;refine⟨?_,?_,?_,?_⟩;rintro H cs e F ⟨v,rfl,_,_⟩;rfl;rintro H cs e F ⟨v,rfl,_,h⟩ u hu;unfold T6 at hu;simp only[ze,z2,or_false]at hu;rcases hu with rfl|rfl|rfl;exact⟨rfl,rfl⟩;exact⟨rfl,rfl⟩;exact⟨ih.cells h,ih.one h⟩;rintro H cs e F ⟨v,rfl,_,h⟩ b hb;exact ih.lt h b hb;rintro H H' cs e F ⟨v,rfl,hr,h⟩ hb;exact⟨v,rfl,hr,ih.stable h hb⟩
theorem XE (e:TypeId){d:Nat}{H:Array Obj}{cs:List Value}{x:Fn}{F:List Nat}(h:XD e d H cs x F):aV d H cs x F:=by obtain⟨v,h1,h2,h3⟩:=h;exact⟨v,h1,h2,(h3.rd (B7 e d)).imp fun h=>XC e h⟩
section ops
variable {P:Program} {ops:Array Oper} {w0:World} {Q:Act→World→Prop} {os:List Oper} {ks:List Nat} {N:Nat} {ρ:Nat→Value} {w:World}
 {d:Nat} {ty:TypeId} {pos:String} {aft:Array Edge} {g:Option (Nat×Bool)} {t e:TypeId} {α:Type} {E:BS α} {s:Nat}
theorem gS {st:TypeId}{x y:Operand}{v u:Value}{xs:List α}{F:List Nat}{k c:Nat}(hE:Ct s E)(hst:(P.info? st).map (·.size)=some 1)(hx:Bk N ρ x=BV (BJ v k s) c)(hy:Bk N ρ y=u)(hu1:u.cells=#[u]∧u.oneCell'=true)
  (hv:Dt s E e w.heap v xs F) (hn:F.Nodup) (hk:k<xs.length) (hc:c<s) (hEc:∀ {H cs x G},E H cs x G→E H (cs.set c u) x G) (hu:Up ops N ρ ⟨none,.store st x y,ty,pos,aft,g⟩)
  (h:∀w1,AF F w w1→w1.heap.size=w.heap.size→Dt s E e w1.heap v xs F→LW P ops w0 Q os ks (mk N ρ) w1) :
  LW P ops w0 Q (⟨none,.store st x y,ty,pos,aft,g⟩::os) (4::ks) (mk N ρ) w:=by
 rcases hv with⟨rfl,rfl,rfl⟩|⟨css,b,cap,cur,F',hels,rfl,hg,r1,r2,r3,r4,rfl⟩;simp at hk;have hn':=List.nodup_cons.1 hn;have hfl:=hels.flen hE;have hlen:=hels.lens hE;have hkl:k<css.length:=by rw[hels.length];exact hk
 have hcs:xs.length*s≤cur.size:=by rw[r3];exact Nat.mul_le_mul_right s r1
 have hjs:k*s+s≤xs.length*s:=by rw[← Nat.succ_mul];exact Nat.mul_le_mul_right s hk
 have hel:∀ {css:List (List Value)} {xs:List α} {F:List Nat} {k:Nat},CL E w.heap css xs F→∀cs,css[k]? = some cs→CL E w.heap (css.set k (cs.set c u)) xs F:=by
  intro css
  induction css with
  |nil=>intro xs F k h cs hk;simp at hk
  |cons a css ih =>
   intro xs F k h cs hk;cases xs with
   |nil=>exact h.elim
   |cons x xs =>
    obtain⟨A,C,rfl,q1,q2⟩:=h;cases k with
    |zero =>
     have:a=cs:=by simpa using hk
     subst this;exact⟨A,C,rfl,hEc q1,q2⟩
    |succ k=>exact⟨A,C,rfl,q1,ih q2 cs (by simpa using hk)⟩
 have hq:=List.getElem?_eq_getElem hkl;have h2:=hel hels _ hq;refine Q4 rfl hu _ (EI (p:=.pointer<|some ⟨b,k*s+c,none⟩) (by rw[hx,Nv,Nat.zero_add];rfl) hy<|Kw hst hg zO hu1.1 hu1.2)<|h _ ((Q7 w b (k*s+c) u).sub fun x hx=>by rw[A9 hx];exact z0 ..) (by simp[World.setCell])<|.inr ⟨css.set k<|css[k].set c u,b,cap,_,F',?_,rfl,Nt hg,r1,r2,by simpa using r3,?_,rfl⟩;exact h2.stable hE fun z hz=>Below.heap_setCell _ _ _ _ fun he=>by
  simp only at he;subst he;exact hn'.1 hz
 rw[Array.toList_setIfInBounds,List.take_set,r4];exact Px hlen hq hc
end ops
theorem Dt.isPtr {α:Type}{E:BS α}{s k:Nat}{e:TypeId}{H:Array Obj}{v:Value}{xs:List α}{F:List Nat}(h:Dt s E e H v xs F)(hk:k<xs.length):∃b o,BJ v k s=.pointer (some ⟨b,o,none⟩):=by rcases h with⟨rfl,rfl,rfl⟩|⟨css,g,cap,cur,F',h,rfl,hg,r1,r2,r3,r4,rfl⟩;simp at hk;exact⟨_,_,Nv ..⟩
end
section
def KD (a:Int)(xs:List Int):List Int:=if a∈xs then xs else xs++[a]
def HU (H:Array Obj)(g:Nat)(xs:List Int):Prop :=
 ∃es clock,H[g]? = some (.map es clock)∧es.toList.map (·.key)=xs.map (Value.int .i64)∧(∀x∈es.toList,x.born<clock)∧(es.toList.map (·.born)).Nodup∧(∀x∈xs,Bw x)
def aX (H:Array Obj)(g:Nat)(xs:List Int)(st:Nat):Prop :=
 ∃es clock,H[g]? = some (.map es clock)∧es.toList.map (·.key)=xs.map (Value.int .i64)∧(∀x∈es.toList,x.born<clock)∧(es.toList.map (·.born)).Nodup∧(∀x∈xs,Bw x)∧∃e0∈es.toList,e0.born=st
section
variable {H:Array Obj} {w w':World} {g st:Nat} {xs:List Int} {F:List Nat}
theorem HU.lt (h:HU H g xs):g<H.size:=by obtain⟨_,_,h,_⟩:=h;exact getElem?_lt h
theorem HU.chg (h:HU w.heap g xs)(c:AF F w w')(hg:g∉F):HU w'.heap g xs:=by have hl:=h.lt;obtain⟨es,k,h1,h2⟩:=h;exact⟨es,k,by rw[c.block g hl hg];exact h1,h2⟩
theorem HU.ext (h:HU w.heap g xs)(c:AI w w'):HU w'.heap g xs:=by have hl:=h.lt;obtain⟨es,k,h1,h2⟩:=h;exact⟨es,k,by rw[c.heap hl];exact h1,h2⟩
theorem eE {a:Int}(h:Bw a):(Lit.int .i64 a).wf=true:=by unfold Bw at h;simp only[Lit.wf,z7,decide_eq_true_eq];exact⟨by show(-2 ^ 63:Int)≤a;omega,by show a≤(2 ^ 63-1:Int);omega⟩
variable {P:Program} {t k e:TypeId} {z val:Value} {a:Int}
theorem Qa {es:Array MapEntry}{clock:Nat}(hb:w.heap[g]? = some (.map es clock))(o:Obj):AF [g] w (ChangeMaps.setBlock w g o) :=
 ⟨rfl,rfl,rfl,by simp[ChangeMaps.setBlock],fun k _ hk=>ChangeMaps.heap_setBlock_other hb o (by simpa using hk)⟩
theorem XF (ht:P.underlying t=some (.map k e))(hk:P.underlying k=some (.int .i64))(hz:∀u:World,(zeroValue e).run P u=.ok z u)(h:HU w.heap g xs)(ha:Bw a) :
  ∃(v0:Value) (st:Nat) (w':World),(Instr.mapEntry t (.map (some g)) (.int .i64 a)).run P w=.ok (.tuple #[v0,.int .i64 ((st:Nat):Int)]) w'∧AF [g] w w'∧w'.heap.size=w.heap.size∧aX w'.heap g (KD a xs) st:=by
 obtain⟨es,clock,hb,h2,h3,h4,h5⟩:=h;have K:=Maps.int_keyed hk;have hkey:=Maps.keyOf_int_mk hk<|eE ha;have hall:∀x∈es.toList,∃l,keyOf P k x.key=some l:=fun x hx=>by
  have hm:x.key∈es.toList.map (·.key):=List.mem_map.2 ⟨x,hx,rfl⟩;rw[h2]at hm;obtain⟨y,hy,e⟩:=List.mem_map.1 hm;exact⟨_,by rw[← e];exact Maps.keyOf_int_mk hk (eE (h5 y hy))⟩
 have hlt:=getElem?_lt hb;rcases K.find w hkey es.toList hall with⟨f1,f2⟩|⟨j,e0,f1,f2,f3⟩;have hn:a∉xs:=fun hm=>by
  have:Value.int .i64 a∈es.toList.map (·.key):=by rw[h2];exact List.mem_map.2 ⟨a,hm,rfl⟩
  obtain⟨x,hx,e⟩:=List.mem_map.1 this;exact f2 x hx e
 refine⟨z,clock,ChangeMaps.setBlock w g (.map (es.push ⟨.int .i64 a,z,clock⟩) (clock+1)),?_,?_,?_,es.push ⟨.int .i64 a,z,clock⟩,clock+1,?_,?_,?_,?_,?_,⟨.int .i64 a,z,clock⟩,by simp,rfl⟩;simp[Instr.mapEntry,run_underlying ht,MapKept.run_getObj_map hb,K.check w false hkey,f1,hz,MapKept.run_setObj_map _ hb,Result.andThen,ChangeMaps.setBlock,goInt];exact Qa hb _;simp[ChangeMaps.setBlock];exact ChangeMaps.heap_setBlock_same hb _;unfold KD;rw[if_neg hn];simp[h2]
 intro x hx;simp only[Array.toList_push,zi,List.mem_singleton]at hx;rcases hx with hx|rfl;have:=h3 x hx;omega;exact Nat.lt_succ_self _;simp only[Array.toList_push,List.map_append,zf,zh];refine List.nodup_append.2 ⟨h4,by simp,fun b hb' c hc e1=>?_⟩;simp only[List.mem_singleton]at hc;obtain⟨x,hx,rfl⟩:=List.mem_map.1 hb';have:=h3 x hx;omega;unfold KD;rw[if_neg hn]
 intro x hx;rcases zi.1 hx with hx|hx;exact h5 x hx;rw[A9 hx];exact ha;have hj:es[j]? = some e0:=by simpa using f2
 have hm:a∈xs:=by
  have:e0.key∈es.toList.map (·.key):=List.mem_map.2 ⟨e0,List.mem_of_getElem? f2,rfl⟩;rw[h2,f3]at this;obtain⟨y,hy,e⟩:=List.mem_map.1 this
  injection e with _ e;rw[← e];exact hy
 have hsame:es.modify j (fun e=>{ e with key:=.int .i64 a })=es:=by
  apply Array.ext';rw[Array.toList_modify,ChangeMaps.modify_eq_set _ _ _ _ f2];have:({ e0 with key:=.int .i64 a }:MapEntry)=e0:=by rw[← f3]
  rw[this];exact WideElems.set_self _ _ _ f2
 refine⟨e0.val,e0.born,ChangeMaps.setBlock w g (.map es clock),?_,Qa hb _,by simp[ChangeMaps.setBlock],es,clock,ChangeMaps.heap_setBlock_same hb _,?_,h3,h4,?_,e0,List.mem_of_getElem? f2,rfl⟩;simp[Instr.mapEntry,run_underlying ht,MapKept.run_getObj_map hb,K.check w false hkey,f1,hj,f3,K.stays w hkey,hsame,MapKept.run_setObj_map _ hb,Result.andThen,ChangeMaps.setBlock,goInt];unfold KD;rw[if_pos hm];exact h2;unfold KD;rw[if_pos hm];exact h5
theorem XG (h:aX w.heap g xs st):∃w',(Instr.entryStore t (.map (some g)) (.int .i64 ((st:Nat):Int)) val).run P w=.ok () w'∧AF [g] w w'∧w'.heap.size=w.heap.size∧HU w'.heap g xs:=by
 obtain⟨es,clock,hb,h2,h3,h4,h5,e0,he,hs⟩:=h;obtain⟨j,hj⟩:=List.getElem?_of_mem he;have hidx:es.findIdx? (fun e=>((e.born:Nat):Int) == ((st:Nat):Int))=some j:=by
  rw[← hs,WideElems.findIdx_arr];exact WideElems.findIdx_born h4 hj
 have hl:(es.modify j (fun e=>{ e with val:=val })).toList=es.toList.set j { e0 with val:=val }:=by
  rw[Array.toList_modify,ChangeMaps.modify_eq_set _ _ _ _ hj]
 refine⟨ChangeMaps.setBlock w g (.map (es.modify j (fun e=>{ e with val:=val })) clock),?_,Qa hb _,by simp[ChangeMaps.setBlock],_,clock,ChangeMaps.heap_setBlock_same hb _,?_,fun x hx=>?_,?_,h5⟩;simp[Instr.entryStore,MapKept.run_getObj_map hb,asInt,asIntOf,hidx,MapKept.run_setObj_map _ hb,Result.andThen,ChangeMaps.setBlock];rw[hl,List.map_set,← h2];exact WideElems.set_self _ _ _ (by rw[List.getElem?_map,hj];rfl);rw[hl]at hx;rcases List.mem_or_eq_of_mem_set hx with hx|rfl;exact h3 x hx;exact h3 e0 he;rw[hl,List.map_set];rw[WideElems.set_self (es.toList.map (·.born)) j e0.born (by rw[List.getElem?_map,hj];rfl)];exact h4
end
section ops
variable {P:Program} {ops:Array Oper} {w0:World} {Q:Act→World→Prop} {os:List Oper} {ks:List Nat} {N:Nat} {ρ:Nat→Value} {w:World}
 {d:Nat} {ty:TypeId} {pos:String} {aft:Array Edge} {gd:Option (Nat×Bool)} {t k e:TypeId} {z:Value} {g st:Nat} {xs:List Int} {a:Int}
theorem gT {x y:Operand}(ht:P.underlying t=some (.map k e))(hk:P.underlying k=some (.int .i64))(hz:∀u:World,(zeroValue e).run P u=.ok z u)(hx:Bk N ρ x=.map (some g))(hy:Bk N ρ y=.int .i64 a)(hm:HU w.heap g xs)(ha:Bw a)
  (hu:Up ops N ρ ⟨some d,.mapEntry t x y,ty,pos,aft,gd⟩)
  (h:∀v0 st w1,AF [g] w w1→w1.heap.size=w.heap.size→aX w1.heap g (KD a xs) st→LW P ops w0 Q os ks (mk N (Ch ρ d (.tuple #[v0,.int .i64 ((st:Nat):Int)]))) w1) :
  LW P ops w0 Q (⟨some d,.mapEntry t x y,ty,pos,aft,gd⟩::os) (4::ks) (mk N ρ) w:=by
 obtain⟨v0,st,w1,h1,h2,h3,h4⟩:=XF (P:=P) ht hk hz hm ha;exact IV rfl hu _ w1 (by simp only[execOp,hx,hy,Sem.run_bind,h1,Result.andThen_ok,Sem.run_pure])<|h v0 st w1 h2 h3 h4
theorem gU {x s y:Operand}(hx:Bk N ρ x=.map (some g))(hs:Bk N ρ s=.int .i64 ((st:Nat):Int))(hm:aX w.heap g xs st)(hu:Up ops N ρ ⟨none,.entryStore t x s y,ty,pos,aft,gd⟩)
  (h:∀w1,AF [g] w w1→w1.heap.size=w.heap.size→HU w1.heap g xs→LW P ops w0 Q os ks (mk N ρ) w1) :
  LW P ops w0 Q (⟨none,.entryStore t x s y,ty,pos,aft,gd⟩::os) (4::ks) (mk N ρ) w:=by
 obtain⟨w1,h1,h2,h3,h4⟩:=XG (P:=P) (t:=t) (val:=Bk N ρ y) hm;exact Q4 rfl hu w1 (by simp only[execOp,hx,hs,Sem.run_bind,h1,Result.andThen_ok,Sem.run_pure])<|h w1 h2 h3 h4
theorem lW (hu:Up ops N ρ ⟨some d,.makeMap t none,ty,pos,aft,gd⟩)
  (h:∀w1,AI w w1→w1.heap.size=w.heap.size+1→HU w1.heap w.heap.size []→LW P ops w0 Q os ks (mk N (Ch ρ d (.map (some w.heap.size)))) w1) :
  LW P ops w0 Q (⟨some d,.makeMap t none,ty,pos,aft,gd⟩::os) (3::ks) (mk N ρ) w:=by
 have hrun:(execOp (Bk N ρ) ⟨some d,.makeMap t none,ty,pos,aft,gd⟩).run P w=.ok (.value (.map (some w.heap.size))) (w.alloc (.map #[] 0)):=by
  simp only[execOp,Option.map_none,Sem.run_bind,run_makeMap,Result.andThen_ok,Sem.run_pure]
 exact II rfl hu _ _ hrun (BM _ _)<|h _ (BM _ _) (by simp) ⟨#[],0,heap_alloc_new _ _,rfl,fun x hx=>(by simp at hx),zk,fun x hx=>(by cases hx)⟩
theorem gV {x:Operand}(ht:P.underlying t=some (.map k e))(hx:Bk N ρ x=.map (some g))(hm:HU w.heap g xs)(hu:Up ops N ρ ⟨some d,.call ⟨.builtin .len,#[x],#[t]⟩,ty,pos,aft,gd⟩)
  (h:LW P ops w0 Q os ks (mk N (Ch ρ d (.int .i64 ((xs.length:Nat):Int)))) w) :
  LW P ops w0 Q (⟨some d,.call ⟨.builtin .len,#[x],#[t]⟩,ty,pos,aft,gd⟩::os) (2::ks) (mk N ρ) w:=by
 refine D2 (by decide) rfl hu _ (fun w' hcl=>?_) h;have hcl:AI w w':=hcl;obtain⟨es,clock,hb,h2,_⟩:=hm.ext hcl;have hl:es.size=xs.length:=by have:=congrArg List.length h2;simpa using this
 simp[execOp,resolve,invoke,builtin,hx,Builtin.len_,run_underlying ht,MapKept.run_getObj_map hb,goInt,Result.andThen,hl]
end ops
end
section
structure Av where
 kind:Int
 arg:Int
deriving DecidableEq
def Av.zero:Av:=⟨0,0⟩
def Gd (a:Av):Prop:=(a.kind=1∧1≤a.arg∧a.arg≤40)∨((a.kind=2∨a.kind=3)∧0≤a.arg∧a.arg≤7)∨(a.kind=4∧a.arg=0)
instance (a:Av):Decidable (Gd a):=by unfold Gd;infer_instance
structure Cn where
 at_:Int
 left:Int
 slots:List Int
def Cw (c:Cn)(a:Av):Bool :=
 if a.kind=1 then decide (c.at_+a.arg<c.left)
 else if a.kind=2 then decide (a.arg<((c.slots.length:Nat):Int))
 else if a.kind=3 then decide (a.arg<((c.slots.length:Nat):Int)) && decide (0≤c.slots.getD a.arg.toNat 0)
 else decide (c.at_=c.left-1)
def CC (c:Cn)(a:Av):Cn :=
 if a.kind=1 then⟨c.at_+a.arg,c.left,c.slots⟩
 else if a.kind=2 then⟨c.at_,c.left,c.slots.set a.arg.toNat c.at_⟩
 else if a.kind=3 then⟨c.slots.getD a.arg.toNat 0,c.left,c.slots⟩
 else⟨c.at_,c.at_,c.slots⟩
def aY:List Av→Cn→Option Cn
 |[],c=>some c
 |a::l,c=>if Cw c a=true then aY l (CC c a)else none
def FN (n:Int)(slots:Nat):Cn:=⟨0,n,List.replicate slots (-1)⟩
def GB:List Av→Cn→Int→Int
 |[],c,i=>if 0<c.left then i else -1
 |a::l,c,i=>if Cw c a=true then GB l (CC c a) (i+1)else i
structure T7 (n:Int)(c:Cn):Prop where
 at0:0≤c.at_
 atn:c.at_≤n
 l0:0≤c.left
 ln:c.left≤n
 sl:∀k,k<c.slots.length→-1≤c.slots.getD k 0∧c.slots.getD k 0≤n
section
variable {n:Int} {c c' e:Cn} {a:Av} {l r:List Av} {i d:Nat}
theorem M6 {xs:List Int}{i j:Nat}{x:Int}(hi:i<xs.length):(xs.set i x).getD j 0=if j=i then x else xs.getD j 0:=by simp only[List.getD_eq_getElem?_getD,List.getElem?_set];by_cases h:i=j;subst h;simp[hi];rw[if_neg h,if_neg (fun h9=>h h9.symm)]
theorem Ny (hn:0≤n)(s:Nat):T7 n (FN n s):=by
 refine⟨Int.le_refl _,hn,hn,Int.le_refl _,fun k hk=>?_⟩;have hk':k<s:=by simpa [FN]using hk
 have e:(FN n s).slots.getD k 0 = -1:=by simp[FN,List.getD_eq_getElem?_getD,hk']
 rw[e];omega
theorem T7.act (h:T7 n c)(ha:Gd a)(hp:Cw c a=true):T7 n (CC c a):=by obtain⟨h1,h2,h3,h4,h5⟩:=h;unfold Cw at hp;unfold CC;unfold Gd at ha;by_cases k1:a.kind=1;rw[if_pos k1]at hp ⊢;have:=of_decide_eq_true hp;exact⟨by show 0≤c.at_+a.arg;omega,by show c.at_+a.arg≤n;omega,h3,h4,h5⟩;rw[if_neg k1]at hp ⊢;by_cases k2:a.kind=2;rw[if_pos k2]at hp ⊢;have hlt:=of_decide_eq_true hp;refine⟨h1,h2,h3,h4,fun k hk=>?_⟩;simp only[z6]at hk;show -1≤(c.slots.set a.arg.toNat c.at_).getD k 0∧_;rw[M6 (by omega)];split;omega;exact h5 k hk;rw[if_neg k2]at hp ⊢;by_cases k3:a.kind=3;rw[if_pos k3]at hp ⊢;have hb:=Bool.and_eq_true_iff.1 hp;have hlt:=of_decide_eq_true hb.1;have h0:=of_decide_eq_true hb.2;have:=h5 a.arg.toNat zO;exact⟨h0,by show c.slots.getD a.arg.toNat 0≤n;omega,h3,h4,h5⟩;rw[if_neg k3]at hp ⊢;have:=of_decide_eq_true hp;exact⟨h1,h2,h1,h2,h5⟩
theorem Qb:(CC c a).slots.length=c.slots.length:=by unfold CC;split;rfl;split;simp;split <;> rfl
theorem XH (h:aY (a::l) c=some e):Cw c a=true∧aY l (CC c a)=some e:=by unfold aY at h;split at h;rename_i h1;exact⟨h1,h⟩;cases h
theorem XI (l:List Av):∀(c:Cn)(i:Int),0≤i→((GB l c i = -1↔∃e,aY l c=some e∧e.left≤0)∧(GB l c i = -1∨(i≤GB l c i∧GB l c i≤i+((l.length:Nat):Int)))):=by
 induction l with
 |nil =>
  intro c i hi;unfold GB aY;refine⟨⟨fun h=>⟨c,rfl,?_⟩,fun⟨e,h,h1⟩=>?_⟩,?_⟩;split at h <;> omega;cases h;rw[if_neg (by omega)];split;right;simp;left;rfl
 |cons a l ih =>
  intro c i hi;unfold GB aY;by_cases h:Cw c a=true;rw[if_pos h,if_pos h];have:=ih (CC c a) (i+1) zO;refine⟨this.1,?_⟩;rcases this.2 with h9|h9;exact .inl h9;right;rw[z9];omega;rw[if_neg h,if_neg h];refine⟨⟨fun h9=>by omega,fun⟨e,h9,_⟩=>by cases h9⟩,?_⟩;right;rw[z9];omega
def C3 (k:Int):List Av→Int
 |[]=>0
 |a::l=>(if a.kind=k then 1 else 0)+C3 k l
def P5 (w:List Int)(at_:Nat):Nat→Int
 |0=>0
 |k+1=>P5 w at_ k+w.getD (at_+k) 0
end
section
variable {n:Int} {c e:Cn} {l:List Av} {i:Nat} {w:List Int}
theorem UA (k:Int):∀l:List Av,0≤C3 k l
 |[]=>Int.le_refl _
 |a::l=>by have:=UA k l;unfold C3;split <;> omega
end
end
section
structure Us where
 cost:Int
 adv:Int
 st:Int
 ld:Int
 sl:Int
def Us.zero:Us:=⟨0,0,0,0,0⟩
structure CS where
 c:Cn
 ov:List Int
 us:List Int
 u:Us
def Py (ov:List Int)(a:Nat):Nat→List Int
 |0=>ov
 |k+1=>(Py ov a k).set (a+k) ((Py ov a k).getD (a+k) 0+1)
def Xn (s:CS)(a:Av):List Int:=if a.kind=1 then Py s.ov s.c.at_.toNat a.arg.toNat else s.ov
def gW (s:CS)(a:Av):List Int:=if a.kind=2 then KD a.arg s.us else s.us
def Nz (u:Us)(a:Av):Us:=if a.kind=1 then { u with adv:=u.adv+a.arg }else if a.kind=2 then { u with st:=u.st+1 }else if a.kind=3 then { u with ld:=u.ld+1 }else u
def FB (s:CS)(a:Av):CS:=⟨CC s.c a,Xn s a,gW s a,Nz s.u a⟩
def Pz (l:List Av)(s:CS):CS:=l.foldl FB s
def PB (n:Nat)(slots:Nat):CS:=⟨FN n slots,List.replicate n 0,[],Us.zero⟩
structure aZ (n:Int)(m:Nat)(s:CS):Prop where
 k:T7 n s.c
 len:s.ov.length=n.toNat
 ov:∀k,0≤s.ov.getD k 0∧s.ov.getD k 0≤m
 adv:0≤s.u.adv∧s.u.adv≤40*m
 st:0≤s.u.st∧s.u.st≤m
 ld:0≤s.u.ld∧s.u.ld≤m
 z:s.u.cost=0∧s.u.sl=0
section
variable {n:Int} {m:Nat} {s:CS} {a:Av} {l:List Av} {ov:List Int} {i j:Nat}
@[simp] theorem N3 (k:Nat):(Py ov i k).length=ov.length:=by
 induction k with
 |zero=>rfl
 |succ k ih=>show((Py ov i k).set _ _).length=_;rw[z6,ih]
theorem UB (k:Nat)(h:i+k≤ov.length):(Py ov i k).getD j 0=if i≤j∧j<i+k then ov.getD j 0+1 else ov.getD j 0:=by
 induction k with
 |zero=>rw[if_neg (by omega)];rfl
 |succ k ih =>
  have ih:=ih zO;show((Py ov i k).set (i+k) _).getD j 0=_;rw[M6 (by rw[N3];omega)];by_cases e:j=i+k;subst e;rw[if_pos rfl,if_pos zO,ih,if_neg (by omega)];rw[if_neg e,ih];by_cases h1:i≤j∧j<i+k;rw[if_pos h1,if_pos (by omega)];rw[if_neg h1,if_neg (by omega)]
theorem lX (hn:0≤n)(sl:Nat)(hm:n=((m:Nat):Int)):aZ n 0 (PB m sl):=by
 subst hm;refine⟨Ny hn sl,by simp[PB],fun k=>?_,⟨Int.le_refl _,Int.le_refl _⟩,⟨Int.le_refl _,Int.le_refl _⟩,⟨Int.le_refl _,Int.le_refl _⟩,rfl,rfl⟩;show 0≤(List.replicate m (0:Int)).getD k 0∧(List.replicate m (0:Int)).getD k 0≤((0:Nat):Int);have:(List.replicate m (0:Int)).getD k 0=0:=by
  simp only[List.getD_eq_getElem?_getD,List.getElem?_replicate];split <;> rfl
 omega
theorem aZ.stpS (h:aZ n m s)(ha:Gd a)(hp:Cw s.c a=true):aZ n (m+1) (FB s a):=by
 have hk:=h.k.act ha hp;have h1:=h.adv;have h2:=h.st;have h3:=h.ld;have h4:=h.z;have h5:=h.k;have h6:=h.len;have ha':=ha;unfold Gd at ha';have hat:a.kind=1→s.c.at_+a.arg<s.c.left:=fun k1=>by
  unfold Cw at hp;rw[if_pos k1]at hp;exact of_decide_eq_true hp
 have h7:=h5.at0;have h8:=h5.ln;refine⟨hk,?_,fun k=>?_,?_,?_,?_,?_⟩;show(Xn s a).length=_;unfold Xn;split;rw[N3];exact h6;exact h6;show 0≤(Xn s a).getD k 0∧(Xn s a).getD k 0≤((m+1:Nat):Int);have h9:=h.ov k;unfold Xn;split;rename_i k1;have:=hat k1;show 0≤(Py s.ov s.c.at_.toNat a.arg.toNat).getD k 0∧(Py s.ov s.c.at_.toNat a.arg.toNat).getD k 0≤((m+1:Nat):Int);rw[UB _ (by omega)];split <;> omega;omega;show 0≤(Nz s.u a).adv∧(Nz s.u a).adv≤_;unfold Nz;split;show 0≤s.u.adv+a.arg∧s.u.adv+a.arg≤_;omega;split;show 0≤s.u.adv∧s.u.adv≤_;omega;split <;> (show 0≤s.u.adv∧s.u.adv≤_;omega);show 0≤(Nz s.u a).st∧(Nz s.u a).st≤_;unfold Nz;split;show 0≤s.u.st∧s.u.st≤_;omega;split;show 0≤s.u.st+1∧s.u.st+1≤_;omega;split <;> (show 0≤s.u.st∧s.u.st≤_;omega);show 0≤(Nz s.u a).ld∧(Nz s.u a).ld≤_;unfold Nz;split;show 0≤s.u.ld∧s.u.ld≤_;omega;split;show 0≤s.u.ld∧s.u.ld≤_;omega;split;show 0≤s.u.ld+1∧s.u.ld+1≤_;omega;show 0≤s.u.ld∧s.u.ld≤_;omega;show(Nz s.u a).cost=0∧(Nz s.u a).sl=0;unfold Nz;split;exact h4;split;exact h4;split <;> exact h4
theorem XJ (l:List Av)(a:Av):Pz (l++[a]) s=FB (Pz l s) a:=by unfold Pz;rw[List.foldl_append];rfl
def Em (ov w:List Int):Nat→Int
 |0=>0
 |k+1=>Em ov w k+ov.getD k 0*w.getD k 0
theorem Ry {ov w:List Int}{q:Nat}(hq:q<ov.length):∀k,Em (ov.set q (ov.getD q 0+1)) w k=Em ov w k+(if q<k then w.getD q 0 else 0)
 |0=>by rw[if_neg (by omega)];rfl
 |k+1=>by
  have ih:=Ry (w:=w) hq k
  show Em (ov.set q (ov.getD q 0+1)) w k+(ov.set q (ov.getD q 0+1)).getD k 0*w.getD k 0=Em ov w k+ov.getD k 0*w.getD k 0+_
  rw[ih,M6 hq]
  by_cases e:k=q
  subst e
  rw[if_pos rfl,if_neg zO,if_pos zO,Int.add_mul,Int.one_mul];omega
  rw[if_neg e]
  by_cases h:q<k
  rw[if_pos h,if_pos (by omega)];omega
  rw[if_neg h,if_neg (by omega)];omega
theorem Rz {ov w:List Int}{i:Nat}:∀k,i+k≤ov.length→Em (Py ov i k) w ov.length=Em ov w ov.length+P5 w i k
 |0,_=>by show Em ov w _=_+0;omega
 |k+1,h=>by
  have ih:=Rz (w:=w) k (by omega:i+k≤ov.length)
  show Em ((Py ov i k).set (i+k) ((Py ov i k).getD (i+k) 0+1)) w ov.length=Em ov w ov.length+(P5 w i k+w.getD (i+k) 0)
  rw[Ry (by rw[N3];omega),ih,if_pos (by omega)];omega
end
def ZL (g gm:Nat)(Fs Fo:List Nat):List Nat:=g::gm::(Fs++Fo)
structure sh (g gm:Nat)(Fs Fo:List Nat):Prop where
 gm_:g≠gm
 gs:g∉Fs
 go:g∉Fo
 ms:gm∉Fs
 mo:gm∉Fo
 so:∀b∈Fs,b∉Fo
structure Li (e:TypeId)(H:Array Obj)(g gm:Nat)(vs vo:Value)(Fs Fo:List Nat)(s:CS):Prop where
 bx:BX H g [.int .i64 s.c.left,.int .i64 s.c.at_,vs,vo,.int .i64 s.u.cost,.int .i64 s.u.adv,.int .i64 s.u.st,.int .i64 s.u.ld,.int .i64 s.u.sl,.map (some gm)]
 sl:By rI e H vs s.c.slots Fs
 sn:Fs.Nodup
 ov:By rI e H vo s.ov Fo
 on:Fo.Nodup
 mp:HU H gm s.us
 d:sh g gm Fs Fo
section
variable {e:TypeId} {H:Array Obj} {w w':World} {g gm:Nat} {vs vo:Value} {Fs Fo F:List Nat} {s:CS} {v:Value} {xs:List Int}
theorem NA:∀x∈[g],x∈ZL g gm Fs Fo:=fun x hx=>by rw[A9 hx];exact z0 ..
theorem bA:∀x∈[gm],x∈ZL g gm Fs Fo:=fun x hx=>by rw[A9 hx];exact z3 _ (z0 ..)
theorem gX:∀x∈Fs,x∈ZL g gm Fs Fo:=fun x hx=>z3 _ (z3 _ (z8 _ hx))
theorem lY:∀x∈Fo,x∈ZL g gm Fs Fo:=fun x hx=>z3 _ (z3 _ (z1 _ hx))
theorem XK (c:AF Fs w w'):AF (gm::Fs) w w':=c.sub fun x hx=>z3 _ hx
theorem P6 (c:AF [gm] w w'):AF (gm::Fs) w w':=c.sub fun x hx=>by rw[A9 hx];exact z0 ..
theorem Li.lt (h:Li e H g gm vs vo Fs Fo s):∀b∈ZL g gm Fs Fo,b<H.size:=fun b hb=>by
 rcases ze.1 hb with rfl|hb
 exact h.bx.lt
 rcases ze.1 hb with rfl|hb
 exact h.mp.lt
 rcases zi.1 hb with hb|hb
 exact (B3 Ay).lt h.sl b hb
 exact (B3 Ay).lt h.ov b hb
theorem Ce (h:By rI e w.heap v xs F){G:List Nat}(c:AF G w w')(hd:∀b∈F,b∉G):By rI e w'.heap v xs F :=
 (B3 Ay).stable h fun b hb=>c.block b ((B3 Ay).lt h b hb) (hd b hb)
theorem Qc (h:By rI e w.heap v xs F)(c:AI w w'):By rI e w'.heap v xs F :=
 (B3 Ay).stable h fun b hb=>c.heap ((B3 Ay).lt h b hb)
theorem Li.ext (h:Li e w.heap g gm vs vo Fs Fo s)(c:AI w w'):Li e w'.heap g gm vs vo Fs Fo s :=
 ⟨h.bx.ext c,Qc h.sl c,h.sn,Qc h.ov c,h.on,h.mp.ext c,h.d⟩
end
theorem lZ {P:Program}{e:TypeId}{z:Value}{b:Nat}(h:TI P e 1 z b):∀u:World,(zeroValue e).run P u=.ok z u:=fun u=>by
 obtain⟨inf,h1,h2,_⟩:=h.get
 simp[zeroValue,typeInfo,h1,h2]
def XL (z:CS)(k:Nat):CS:=⟨⟨z.c.at_+((k:Nat):Int),z.c.left,z.c.slots⟩,Py z.ov z.c.at_.toNat k,z.us,⟨z.u.cost,z.u.adv+((k:Nat):Int),z.u.st,z.u.ld,z.u.sl⟩⟩
theorem gY (z:CS):XL z 0=z:=by unfold XL;simp only[Int.natCast_zero,Int.add_zero];rfl
section FB
variable {z:CS} {a:Av}
theorem mq (h:a.kind=1)(k:Nat)(hk:((k:Nat):Int)=a.arg):XL z k=FB z a:=by unfold FB CC Xn gW Nz XL;rw[if_pos h,if_pos h,if_neg zO,if_pos h,← hk];rfl
theorem mr (h:a.kind=2):(⟨⟨z.c.at_,z.c.left,z.c.slots.set a.arg.toNat z.c.at_⟩,z.ov,KD a.arg z.us,⟨z.u.cost,z.u.adv,z.u.st+1,z.u.ld,z.u.sl⟩⟩:CS)=FB z a:=by unfold FB CC Xn gW Nz;rw[if_neg zO,if_pos h,if_neg zO,if_pos h,if_neg zO,if_pos h]
theorem mt (h:a.kind=3):(⟨⟨z.c.slots.getD a.arg.toNat 0,z.c.left,z.c.slots⟩,z.ov,z.us,⟨z.u.cost,z.u.adv,z.u.st,z.u.ld+1,z.u.sl⟩⟩:CS)=FB z a:=by unfold FB CC Xn gW Nz;rw[if_neg zO,if_neg zO,if_pos h,if_neg zO,if_neg zO,if_neg zO,if_neg zO,if_pos h]
theorem mu (h:a.kind=4)(hp:z.c.at_=z.c.left-1):(⟨⟨z.c.at_,z.c.left-1,z.c.slots⟩,z.ov,z.us,⟨z.u.cost,z.u.adv,z.u.st,z.u.ld,z.u.sl⟩⟩:CS)=FB z a:=by unfold FB CC Xn gW Nz;rw[if_neg zO,if_neg zO,if_neg zO,if_neg zO,if_neg zO,if_neg zO,if_neg zO,if_neg zO,← hp]
theorem mv (h:a.kind=1):Cw z.c a=decide (z.c.at_+a.arg<z.c.left):=by unfold Cw;rw[if_pos h]
theorem mw (h:a.kind=2):Cw z.c a=decide (a.arg<((z.c.slots.length:Nat):Int)):=by unfold Cw;rw[if_neg zO,if_pos h]
theorem mx (h:a.kind=3):Cw z.c a=(decide (a.arg<((z.c.slots.length:Nat):Int)) && decide (0≤z.c.slots.getD a.arg.toNat 0)):=by unfold Cw;rw[if_neg zO,if_neg zO,if_pos h]
theorem my (h:a.kind=4):Cw z.c a=decide (z.c.at_=z.c.left-1):=by unfold Cw;rw[if_neg zO,if_neg zO,if_neg (by omega)]
end FB
def mz (a:Av):List Value:=[.int .i64 a.kind,.int .i64 a.arg]
@[simp] theorem qj (a:Av):(mz a).length=2:=rfl
def mC (a:Av):Prop:=Bw a.kind∧Bw a.arg
def Kj:BS Av:=fun _ cs x F=>cs=mz x∧mC x∧F=[]
theorem AA:Ct 2 Kj where
 len:=by rintro H cs x F ⟨rfl,_⟩;rfl
 one:=by
  rintro H cs x F ⟨rfl,_⟩ u hu;unfold mz at hu;simp only[ze,z2,or_false]at hu;rcases hu with rfl|rfl <;> exact⟨rfl,rfl⟩
 lt:=by rintro H cs x F ⟨_,_,rfl⟩ b hb;cases hb
 stable:=by rintro H H' cs x F ⟨h1,h2,h3⟩ _;exact⟨h1,h2,h3⟩
theorem Kk {S:List Nat}{H:Array Obj}{cs:List Value}{x:Av}(h:RN S Kj H cs x):cs=mz x∧mC x:=by obtain⟨F,h,_⟩:=h;exact⟨h.1,h.2.1⟩
section new
variable {e:TypeId} {H:Array Obj} {g gm B B1 U1 B2 U2:Nat} {vs vo:Value} {at_ left:Int} {sl ov us:List Int} {u:Us}
theorem Qd:Fr (By rI e) B1 U1 H (.slice none 0 0) []:=⟨[],.inl ⟨rfl,rfl,rfl⟩,zk,fun b hb=>by cases hb⟩
theorem bB (hb:BX H g [.int .i64 left,.int .i64 at_,vs,vo,.int .i64 u.cost,.int .i64 u.adv,.int .i64 u.st,.int .i64 u.ld,.int .i64 u.sl,.map (some gm)])(ho:Fr (By rI e) B1 U1 H vo ov)(hs:Fr (By rI e) B2 U2 H vs sl)(hm:HU H gm us)
  (h1:U1≤gm) (h2:gm<g) (h3:g<B2) (hB:B≤B1) (hU:B1≤U1):∃Fs Fo,Li e H g gm vs vo Fs Fo ⟨⟨at_,left,sl⟩,ov,us,u⟩∧∀b∈ZL g gm Fs Fo,B≤b:=by
 obtain⟨Fo,o1,o2,o3⟩:=ho;obtain⟨Fs,s1,s2,s3⟩:=hs;refine⟨Fs,Fo,⟨hb,s1,s2,o1,o2,hm,⟨zO,fun h=>by have:=s3 _ h;omega,fun h=>by have:=o3 _ h;omega,fun h=>by have:=s3 _ h;omega,fun h=>by have:=o3 _ h;omega,fun b h h'=>by have:=s3 _ h;have:=o3 _ h';omega⟩⟩,fun b hb=>?_⟩;unfold ZL at hb;rcases ze.1 hb with rfl|hb;omega;rcases ze.1 hb with rfl|hb;omega;rcases zi.1 hb with hb|hb;have:=s3 _ hb;omega;have:=o3 _ hb;omega
end new
section fb
variable {n:Int} {c:Cn} {s:CS} {l:List Av} {i:Nat} {k m:Nat}
theorem N4 (hi:i<l.length)(hp:Cw c (l.getD i Av.zero)=false)(j:Int):GB (l.drop i) c j=j:=by
 rw[List.drop_eq_getElem_cons hi];have e:l[i]=l.getD i Av.zero:=by simp[List.getD_eq_getElem?_getD,hi]
 unfold GB;rw[e,hp];rfl
theorem Qe (hi:i<l.length)(hp:Cw c (l.getD i Av.zero)=true)(j:Int):GB (l.drop i) c j=GB (l.drop (i+1)) (CC c (l.getD i Av.zero)) (j+1):=by
 rw[List.drop_eq_getElem_cons hi];have e:l[i]=l.getD i Av.zero:=by simp[List.getD_eq_getElem?_getD,hi]
 rw[e];show(if Cw c (l.getD i Av.zero)=true then _ else _)=_;rw[if_pos hp]
theorem Qf (hi:l.length≤i)(j:Int):GB (l.drop i) c j=if 0<c.left then j else -1:=by rw[List.drop_eq_nil_of_le hi];rfl
theorem RA (hi:i<l.length):Pz (l.take (i+1)) s=FB (Pz (l.take i) s) (l.getD i Av.zero):=by rw[List.take_succ_eq_append_getElem hi,XJ];simp[List.getD_eq_getElem?_getD,hi]
end fb
end
end Go.Proofs.YtemfgblmfahllaaGreat
