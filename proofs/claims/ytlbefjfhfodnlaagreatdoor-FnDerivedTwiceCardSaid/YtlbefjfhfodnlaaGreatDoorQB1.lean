/- FwA, FwB, FwC, FwD, FwE, FwF, FwG, FwH, FwK, FwM, FwP, FwQ, FwI, FwO, FwR, FwN, FwS, FwT, FwU, FwV, FwW, FwX, FwY, Gc, Ma, Mb, Na, Mc, Md, Me, Ml, Mh, Mo, Mq, Nb, Nc, Nd, Ne: texts of this claim, joined; what the claim does not come to is left out. -/
import Derived.Test.YtlbefjfhfodnlaaGreatDoorProg
import Derived.Still
import Derived.Below
import Derived.WalkKit
import Derived.IntWalk
import Derived.Laws.CopyRow
import Derived.ProofKit
import Derived.Carry
import Derived.Deep.Matrix
set_option linter.unusedVariables false
set_option linter.unusedSimpArgs false
namespace Go.Proofs.YtlbefjfhfodnlaaGreatDoor
open Go Go.RowKit
theorem zK{p:Prop}(h:p:=by kernel_rfl):p:=h
theorem zV{p:Prop}(h:p:=by assumption):p:=h
theorem zz{v:Value}{p q:Prop}(h:p)(k:q):∃u,Ending.returned v=.returned u∧p∧q:=⟨_,rfl,h,k⟩

abbrev zI (x:Int):Value:=.int .i64 x
abbrev zP (g:Nat):Value:=.pointer (some ⟨g,0,none⟩)
abbrev zN:Value:=.slice none 0 0
theorem zA{c g B U:Nat}(h:c∈[g])(o:g<B∨U≤g:=by omega):c<B∨U≤c:=by rw[List.mem_singleton.1 h];exact o
theorem zE{c g B:Nat}(h:c∈[g])(o:B≤g:=by omega):B≤c:=by rw[List.mem_singleton.1 h];exact o
theorem zB{a g:Nat}(h:a∈[g])(o:a≠g:=by omega):False:=o (List.mem_singleton.1 h)
theorem zR{p:Prop}(h:p:=by repeat(first|exact trivial|exact rfl|refine ⟨rfl,?_⟩)):p:=h
theorem zD{p:Prop}(h:p:=by first|omega|(dsimp only;omega)):p:=h
theorem zW{a b:Bool}(h:a=b):Value.bool a=Value.bool b:=by rw[h]
theorem zO{p:Prop}(h:p:=by omega):p:=h
theorem zH{p q:Prop}(h:p)(o:p→q:=by intro h;omega):q:=o h
theorem z0:type_of% @List.mem_cons_self:=@List.mem_cons_self
theorem z1:type_of% @List.mem_append_right:=@List.mem_append_right
theorem z2:type_of% @List.not_mem_nil:=@List.not_mem_nil
theorem z3:type_of% @List.mem_cons_of_mem:=@List.mem_cons_of_mem
theorem z4:type_of% @List.length_append:=@List.length_append
theorem z5:type_of% @List.length_replicate:=@List.length_replicate
theorem z6:type_of% @List.length_set:=@List.length_set
theorem z7:type_of% @Bool.and_eq_true:=@Bool.and_eq_true
theorem z8:type_of% @List.mem_append_left:=@List.mem_append_left
theorem z9:type_of% @List.length_cons:=@List.length_cons
theorem za:type_of% @List.take_of_length_le:=@List.take_of_length_le
theorem zb:type_of% @List.length_nil:=@List.length_nil
theorem zc:type_of% @List.map_toArray:=@List.map_toArray
theorem zd:type_of% @List.length_singleton:=@List.length_singleton
theorem ze:type_of% @List.mem_cons:=@List.mem_cons
theorem zf:type_of% @List.map_cons:=@List.map_cons
theorem zg:type_of% @List.length_map:=@List.length_map
theorem zh:type_of% @List.map_nil:=@List.map_nil
theorem zi:type_of% @List.mem_append:=@List.mem_append
theorem zj:type_of% @List.mem_of_mem_take:=@List.mem_of_mem_take
theorem zk:type_of% @List.nodup_nil:=@List.nodup_nil
theorem zl:type_of% @List.nil_append:=@List.nil_append
theorem zm:type_of% @List.all_eq_true:=@List.all_eq_true
abbrev A0:=@wp_seq
abbrev A1:=@wp_ret
abbrev A2:=@wp_skip
abbrev A3:=@wp_block
abbrev A4:=@wp_exit
abbrev A5:=@decide_eq_true
abbrev A6:=@decide_eq_false
abbrev A7:=@Nat.le_refl
abbrev A8:=@Nat.le_trans
theorem A9 {α:Type}{a b:α}(h:a ∈ [b]):a=b:=List.mem_singleton.1 h
theorem R {α:Sort _}{a:α}:a=a:=rfl
section
def AB (w w':World):Prop:=Below w.heap.size w w'
theorem AB.refl (w:World):AB w w:=Below.refl _ _
theorem AB.trans {a b c:World}(h:AB a b)(k:AB b c):AB a c:=Below.trans h (k.mono h.size)
section
variable {P:Program} {ops:Array Oper} {md:Region.Mode}
def YR (P:Program)(r:Result Next)(w:World)(v:Value):Prop :=
 r=.ok (.value v) w∨(r=.ok .skip w∧v=undef)∨∃f args,r=.ok (.enter f args) w∧Calls P f args w (fun e w'=>e=.returned v∧w'=w)
def YA (P:Program)(o:Oper)(a:Act)(w:World)(v:Value):Prop:=YR P ((execOp a.eval o).run P w) w v
def Fx (P:Program):Frame:={ fn:=P.funcs.size,tmps:=#[undef],todo:=[.inRegion #[⟨some 0,.move (.tmp 0),0,"",#[],none⟩] [0]],defers:=[],mode:=.returning,kind:=.report }
theorem IP (P:Program) (v:Value) (w:World):∃ o,step P (lone ((Fx P).finish v) [] w) = .ended o w:=by
 have hf:P.funcs[P.funcs.size]? = none:=by simp
 refine ⟨.stuck "report: Error or String returned no string" "",step_lone_ended ?_⟩;simp [stepG,unwind,doReturn,Fx,Frame.finish]
theorem IQ {P:Program}{n k:Nat}{m x y:Machine}{o:Outcome}{w:World}(hx:runN P n m=.next x)(hy:runN P (n+k) m=.next y)(he:step P x=.ended o w):x=y:=by
 rw[runN_add,hx]at hy;cases k with
 |zero=>simp only[runN]at hy;injection hy
 |succ k=>simp only[runN,he]at hy;cases hy
theorem MN {P:Program}{f:FuncId}{args:Array Value}{w:World}{v u:Value}(h:Calls P f args w (fun e w'=>e=.returned v∧w'=w))(k:Calls P f args w (fun e w'=>e=.returned u∧w'=w)):v=u:=by
 have go:∀ {x:Value},Calls P f args w (fun e w'=>e=.returned x∧w'=w)→Steps P (lone (Frame.enter P f args .normal) [Fx P] w) (lone ((Fx P).finish x) [] w):=by
  intro x hx;obtain⟨e,w',fr,⟨rfl,rfl⟩,hs,_,hl⟩:=hx [Fx P];exact Steps.trans hs<|Steps.one<|step_leave_returned hl
 obtain⟨n,hn⟩:=go h;obtain⟨m,hm⟩:=go k;obtain⟨o1,e1⟩:=IP P v w;obtain⟨o2,e2⟩:=IP P u w;have he:lone ((Fx P).finish v) [] w=lone ((Fx P).finish u) [] w:=by
  rcases Nat.le_total n m with hle|hle;obtain⟨k,rfl⟩:=Nat.le.dest hle;exact IQ hn hm e1;obtain⟨k,rfl⟩:=Nat.le.dest hle;exact (IQ hm hn e2).symm
 simpa [lone,Fx,Frame.finish]using he
theorem YA.unique {o:Oper}{a:Act}{w:World}{v u:Value}(h:YA P o a w v)(k:YA P o a w u):v=u:=by
 unfold YA at h k;rcases h with h|⟨h,rfl⟩|⟨f,args,h,hc⟩ <;> rcases k with k|⟨k,rfl⟩|⟨f',args',k,kc⟩ <;> rw[h]at k
 injection k with k _;injection k
 injection k with k _;cases k
 injection k with k _;cases k
 injection k with k _;cases k
 injection k with k _;cases k
 injection k with k _;cases k
 injection k with k _;cases k
 injection k with k _
 injection k with k1 k2;subst k1;subst k2;exact MN hc kc
def NQ (Q:Act→World→Prop):Exit→Act→World→Prop
 |.normal,a,w=>Q a w
 |_,_,_=>False
def Cl (w0 w:World):Nat→World→Prop
 |0,_=>True
 |1,w'=>AB w0 w'
 |_,w'=>AB w w'
def By (P:Program)(w0:World)(o:Oper)(k:Nat)(a:Act)(w:World)(K:Act→World→Prop):Prop :=
 if k≤2 then ∃v,(∀w',Cl w0 w k w'→YA P o a w' v)∧K (a.put o.dst v) w
 else if k=3 then o.wp P a w (fun a' w'=>AB w w'∧K a' w') (NQ fun _ _=>False)
 else o.wp P a w K (NQ fun _ _=>False)
def LW (P:Program)(ops:Array Oper)(w0:World)(Q:Act→World→Prop):List Oper→List Nat→Act→World→Prop
 |[],_,a,w=>Q a w
 |_::_,[],_,_=>False
 |o::os,k::ks,a,w =>
  if Region.wanted o (yielded ops a.tmps)=true then By P w0 o k a w (LW P ops w0 Q os ks)else LW P ops w0 Q os ks (a.put o.dst undef) w
theorem By.mono {w0:World}{o:Oper}{k:Nat}{a:Act}{w:World}{K K':Act→World→Prop}(h:∀a w,K a w→K' a w)
  (hh:By P w0 o k a w K):By P w0 o k a w K':=by
 unfold By at *;split;rename_i hk;rw[if_pos hk]at hh;obtain⟨v,h1,h2⟩:=hh;exact⟨v,h1,h _ _ h2⟩;rename_i hk;rw[if_neg hk]at hh;split;rename_i h3;rw[if_pos h3]at hh;exact Oper.wp_mono (fun a w hx=>⟨hx.1,h _ _ hx.2⟩) hh;rename_i h3;rw[if_neg h3]at hh;exact Oper.wp_mono h hh
theorem KF {o:Oper}{a:Act}{w:World}{K:Act→World→Prop}(h:o.wp P a w K (NQ fun _ _=>False)):∃v w',K (a.put o.dst v) w'∨∃d,K ({ a with defers:=d::a.defers }.put o.dst v) w':=by
 unfold Oper.wp at h;generalize (execOp a.eval o).run P w=r at h;cases r with
 |ok n w' =>
  cases n <;> simp only[Oper.upon]at h;case value v=>exact⟨v,w',.inl h⟩
  case skip=>exact⟨undef,w',.inl h⟩
  case defer d=>exact⟨undef,w',.inr ⟨d,h⟩⟩
  case enter f args =>
   obtain⟨e,w1,fr,hR,_⟩:=h [];cases e with
   |returned v=>exact⟨v,w1,.inl hR⟩
   |panicked c=>exact hR.elim
   |outgrown=>obtain⟨a1,w2,hf⟩:=hR;exact hf.elim
  case row row args =>
   obtain⟨v,w1,hR,_⟩:=h default [];exact⟨v,w1,.inl hR⟩
 |halt x w'=>cases x <;> simp only[Oper.upon]at h;exact h.elim
theorem FU {o:Oper}(hs:∀cs b,o.op≠.select cs b){a:Act}{d:Option Tmp}{v:Value}{w:World}{K:Act→World→Prop}{Q:Act→World→Prop}
  (h1:∀x,d=some x→x∉o.looksAt ops) (h2:∀x,d=some x→o.dst≠some x)
  (h:o.wp P (a.put d v) w K (NQ Q)):o.wp P a w (fun a' w'=>K (a'.put d v) w') (NQ fun _ _=>False):=by
 unfold Oper.wp at *;rw[execOp_put (ops:=ops) o hs a d v h1]at h;generalize (execOp a.eval o).run P w=r at *;have hc:∀u,(a.put d v).put o.dst u=(a.put o.dst u).put d v:=fun u=>Act.put_comm a v u h2;cases r with
 |ok n w' =>
  cases n <;> simp only[Oper.upon]at h ⊢;case value u=>rw[← hc];exact h
  case skip=>rw[← hc];exact h
  case defer dd =>
   rw[Act.put_defers]at h;have:=Act.put_comm ({ a with defers:=dd::a.defers }:Act) v undef h2;rw[← this];exact h
  case enter f args =>
   refine Calls.mono h fun e w'' he=>?_;cases e with
   |returned u=>show K _ _;rw[← hc];exact he
   |panicked c=>exact he
   |outgrown=>obtain⟨_,_,hf⟩:=he;exact hf.elim
  case row row args=>exact Rows.mono h (fun u w'' he=>by show K _ _;rw[← hc];exact he)
 |halt x w'=>cases x <;> simp only[Oper.upon]at h ⊢;exact h
theorem H6 {o:Oper}(hs:∀cs b,o.op≠.select cs b){a:Act}{d:Option Tmp}{v:Value}{w:World}{K:Act→World→Prop}
  (h1:∀x,d=some x→x∉o.looksAt ops) (h2:∀x,d=some x→o.dst≠some x)
  (h:o.wp P a w (fun a' w'=>K (a'.put d v) w') (NQ fun _ _=>False)):o.wp P (a.put d v) w K (NQ fun _ _=>False):=by
 unfold Oper.wp at *;rw[execOp_put (ops:=ops) o hs a d v h1];generalize (execOp a.eval o).run P w=r at *;have hc:∀u,(a.put d v).put o.dst u=(a.put o.dst u).put d v:=fun u=>Act.put_comm a v u h2;cases r with
 |ok n w' =>
  cases n <;> simp only[Oper.upon]at h ⊢;case value u=>rw[hc];exact h
  case skip=>rw[hc];exact h
  case defer dd =>
   rw[Act.put_defers];have:=Act.put_comm ({ a with defers:=dd::a.defers }:Act) v undef h2;rw[this];exact h
  case enter f args =>
   refine Calls.mono h fun e w'' he=>?_;cases e with
   |returned u=>show K _ _;rw[hc];exact he
   |panicked c=>exact he
   |outgrown=>obtain⟨_,_,hf⟩:=he;exact hf.elim
  case row row args=>exact Rows.mono h (fun u w'' he=>by show K _ _;rw[hc];exact he)
 |halt x w'=>cases x <;> simp only[Oper.upon]at h ⊢;exact h
theorem YA.apart {o:Oper}(hs:∀cs b,o.op≠.select cs b){a:Act}{d:Option Tmp}{v u:Value}{w:World}
  (h1:∀x,d=some x→x∉o.looksAt ops):YA P o (a.put d v) w u↔YA P o a w u:=by
 unfold YA;rw[execOp_put (ops:=ops) o hs a d v h1]
variable (P ops) in
def LI (kd:Nat→Nat)(w0:World)(Q:Act→World→Prop):List Nat→Act→World→Prop
 |[],a,w=>Q a w
 |i::l,a,w =>
  match ops[i]? with
  |none=>False
  |some o=>if Region.wanted o (yielded ops a.tmps)=true then By P w0 o (kd i) a w (LI kd w0 Q l)else LI kd w0 Q l (a.put o.dst undef) w
def Dh (ki kj:Nat):Bool :=
 (ki≤2 && kj≤2) || (ki≤2 && kj == 3) || (ki == 0 && kj == 4) || (ki == 3 && kj≤1) || (ki == 4 && kj == 0)
def VA (ops:Array Oper)(kd:Nat→Nat)(bs:Nat→Nat):Prop :=
 ∀i j oi oj,i<j→ops[i]? = some oi→ops[j]? = some oj→(bs j).testBit i=true∨(oi.apart ops oj=true∧Dh (kd i) (kd j)=true)
def HQ (md:Region.Mode)(ops:Array Oper)(bs:Nat→Nat):Prop :=
 ∀j oj,ops[j]? = some oj→∀i,(bs j).testBit i=true→∃e∈oj.after,Region.binds md e=true∧(i=e.on∨(bs e.on).testBit i=true)
def Nr (kd:Nat→Nat)(w0 w:World)(l:List Nat):Prop:=(∃j∈l,kd j=1)→AB w0 w
def Ns (kd:Nat→Nat)(l:List Nat):Prop:=∀l1 i l2,l=l1++i::l2→4≤kd i→∀j∈l2,kd j≠1
theorem Ns.erase {kd:Nat→Nat}{l1 l2:List Nat}{i:Nat}(h:Ns kd (l1++i::l2)):Ns kd (l1++l2):=by
 intro m1 j m2 e hj x hx;by_cases hlt:m1.length<l1.length;have e1:l1=m1++j::(m2.take (l1.length-m1.length-1)):=by
  have:=congrArg (List.take l1.length) e;rw[List.take_left,List.take_append,za (by omega)]at this;rw[this];congr 1;obtain⟨n,hn⟩:∃n,l1.length-m1.length=n+1:=⟨l1.length-m1.length-1,zO⟩;rw[hn];simp
 have e2:l2=m2.drop (l1.length-m1.length-1):=by
  have:=congrArg (List.drop l1.length) e;rw[List.drop_left,List.drop_append]at this;rw[this,List.drop_of_length_le zO,zl];obtain⟨n,hn⟩:∃n,l1.length-m1.length=n+1:=⟨l1.length-m1.length-1,zO⟩;rw[hn];simp
 refine h m1 j (m2.take (l1.length-m1.length-1)++i::l2) (by rw[e1];simp[List.append_assoc]) hj x ?_;have hx':x∈m2.take (l1.length-m1.length-1)++m2.drop (l1.length-m1.length-1):=by rw[List.take_append_drop];exact hx
 rw[← e2]at hx';simp only[zi,ze]at hx' ⊢;rcases hx' with hx'|hx';exact .inl hx';exact .inr<|.inr hx';have e2:l2=m1.drop l1.length++j::m2:=by
  have:=congrArg (List.drop l1.length) e;rw[List.drop_left,List.drop_append_of_le_length (by omega)]at this;exact this
 exact h (l1++i::m1.drop l1.length) j m2 (by rw[e2];simp) hj x hx
def Yv (P:Program)(ops:Array Oper)(w0:World)(k:Nat)(o:Oper)(a:Act)(w:World)(v:Value):Prop :=
 (Region.wanted o (yielded ops a.tmps)=true∧∀w',Cl w0 w k w'→YA P o a w' v)∨(Region.wanted o (yielded ops a.tmps)=false∧v=undef)
theorem Cl.self {w0 w:World}{k:Nat}(h:k=1→AB w0 w):Cl w0 w k w:=by
 match k,h with
 |0,_=>exact trivial
 |1,h=>exact h rfl
 |_+2,_=>exact AB.refl w
theorem Yv.unique {w0 w:World}{k:Nat}{o:Oper}{a:Act}{v u:Value}(hk:k=1→AB w0 w)(h:Yv P ops w0 k o a w v)(h':Yv P ops w0 k o a w u):v=u:=by rcases h with⟨h1,h2⟩|⟨h1,h2⟩ <;> rcases h' with⟨g1,g2⟩|⟨g1,g2⟩;exact (h2 w<|Cl.self hk).unique<|g2 w<|Cl.self hk;rw[h1]at g1;cases g1;rw[h1]at g1;cases g1;rw[h2,g2]
theorem Yv.apart {w0 w:World}{k:Nat}{o:Oper}(hs:∀cs b,o.op≠.select cs b){a:Act}{d:Option Tmp}{u v:Value}
  (h1:∀x,d=some x→x∉o.looksAt ops):Yv P ops w0 k o (a.put d u) w v↔Yv P ops w0 k o a w v:=by
 unfold Yv;rw[wanted_put (ops:=ops) o a d u h1];simp only[YA.apart (ops:=ops) (P:=P) hs h1]
theorem Yv.defers {w0 w:World}{k:Nat}{o:Oper}{a:Act}{l:List Deferred}{v:Value}:Yv P ops w0 k o { a with defers:=l } w v↔Yv P ops w0 k o a w v:=by
 have he:Act.eval { a with defers:=l }=Act.eval a:=funext fun x=>by cases x <;> rfl
 unfold Yv YA;rw[he]
def Kg (a:Act)(d:Option Tmp)(a':Act):Prop:=∃u,a'=a.put d u∨∃x,a'=({ a with defers:=x::a.defers }:Act).put d u
theorem Ed {o:Oper}{a:Act}{w:World}{K:Act→World→Prop}{Q:Exit→Act→World→Prop}(h:o.wp P a w K Q) :
  o.wp P a w (fun a' w'=>K a' w'∧Kg a o.dst a') Q:=by
 unfold Oper.wp at *;generalize (execOp a.eval o).run P w=r at *;cases r with
 |ok n w' =>
  cases n <;> simp only[Oper.upon]at h ⊢;case value u=>exact⟨h,u,.inl rfl⟩
  case skip=>exact⟨h,undef,.inl rfl⟩
  case defer dd=>exact⟨h,undef,.inr ⟨dd,rfl⟩⟩
  case enter f args =>
   refine Calls.mono h fun e w'' he=>?_;cases e with
   |returned u=>exact⟨he,u,.inl rfl⟩
   |panicked c=>exact he
   |outgrown=>exact he
  case row row args=>exact Rows.mono h (fun u w'' he=>⟨he,u,.inl rfl⟩)
 |halt x w'=>cases x <;> simp only[Oper.upon]at h ⊢;exact h
theorem Yv.shape {w0 w:World}{k:Nat}{o:Oper}(hs:∀cs b,o.op≠.select cs b){a a':Act}{d:Option Tmp}{v:Value}
  (h1:∀x,d=some x→x∉o.looksAt ops) (h:Kg a d a'):Yv P ops w0 k o a' w v↔Yv P ops w0 k o a w v:=by
 obtain⟨u,rfl|⟨x,rfl⟩⟩:=h;exact Yv.apart hs h1;rw[Yv.apart hs h1];exact Yv.defers
theorem E2 {o:Oper}{a a':Act}{d:Option Tmp}(h1:∀x,d=some x→x∉o.looksAt ops)(h:Kg a d a') :
  Region.wanted o (yielded ops a'.tmps)=Region.wanted o (yielded ops a.tmps):=by
 obtain⟨u,rfl|⟨x,rfl⟩⟩:=h;exact wanted_put o a d u h1;rw[wanted_put o _ d u h1]
section main
variable {kd bs:Nat→Nat} {w0:World} {Q:Act→World→Prop}
theorem bP {ki kj:Nat}(h:Dh ki kj=true)(hk:ki=3):kj≤1:=by simp[Dh]at h;omega
theorem bQ {ki kj:Nat}(h:Dh ki kj=true)(hk:4≤ki):kj=0:=by simp[Dh]at h;omega
theorem Zu {ki kj:Nat}(h:Dh ki kj=true)(hk:3≤kj):ki≤2∧(4≤kj→ki=0):=by simp[Dh]at h;omega
theorem HR (hsel:∀(j:Nat)(o:Oper) cs b,ops[j]? = some o→o.op≠.select cs b){j:Nat}{oj:Oper}(hj:ops[j]? = some oj)(hk:kd j≤2) :
  ∀(l1 l2:List Nat) (a:Act) (w:World),(∀i∈l1,∀oi,ops[i]? = some oi→oi.apart ops oj=true∧Dh (kd i) (kd j)=true)→(kd j=1→AB w0 w) →
   LI P ops kd w0 Q (l1++j::l2) a w→∃v,Yv P ops w0 (kd j) oj a w v∧LI P ops kd w0 Q (l1++l2) (a.put oj.dst v) w
 |[],l2,a,w,_,_,h=>by
  simp only[zl,LI,hj]at h ⊢
  split at h
  rename_i hw
  unfold By at h
  rw[if_pos hk]at h
  obtain⟨v,h1,h2⟩:=h
  exact⟨v,.inl ⟨hw,h1⟩,h2⟩
  rename_i hw
  exact⟨undef,.inr ⟨by simpa using hw,rfl⟩,h⟩
 |i::l1,l2,a,w,hl,hx,h=>by
  have hi:=hl i (z0 ..)
  have hl':∀x∈l1,∀ox,ops[x]? = some ox→ox.apart ops oj=true∧Dh (kd x) (kd j)=true:=fun x hx=>hl x (z3 _ hx)
  simp only[List.cons_append,LI]at h ⊢
  cases hoi:ops[i]? with
  |none=>rw[hoi]at h;exact h.elim
  |some oi =>
   rw[hoi]at h
   simp only at h ⊢
   obtain⟨hap,hok⟩:=hi oi hoi
   obtain⟨p1,p2,p3⟩:=Oper.apart_spec hap
   have p2':∀d,oj.dst=some d→oi.dst≠some d:=fun d hd he=>p2 d he hd
   have si:=fun cs b=>hsel i oi cs b hoi
   have sj:=fun cs b=>hsel j oj cs b hj
   by_cases hw:Region.wanted oi (yielded ops a.tmps)=true
   rw[if_pos hw]at h
   unfold By at h
   by_cases hki:kd i≤2
   rw[if_pos hki]at h
   obtain⟨vi,hy,h⟩:=h
   obtain⟨v,h1,h2⟩:=HR hsel hj hk l1 l2 (a.put oi.dst vi) w hl' hx h
   refine⟨v,(Yv.apart sj p1).1 h1,?_⟩
   rw[wanted_put oi a oj.dst v p3,if_pos hw]
   unfold By
   rw[if_pos hki]
   refine⟨vi,fun w' hc=>(YA.apart (ops:=ops) si p3).2 (hy w' hc),?_⟩
   rw[Act.put_comm a v vi p2']
   exact h2
   rw[if_neg hki]at h
   have gen:∀(G:World→Prop),(∀w',G w'→kd j=1→AB w0 w')→(kd j=2→False) →
     oi.wp P a w (fun a' w'=>G w'∧LI P ops kd w0 Q (l1++j::l2) a' w') (NQ fun _ _=>False) →
     ∃v,Yv P ops w0 (kd j) oj a w v∧oi.wp P (a.put oj.dst v) w (fun a' w'=>G w'∧LI P ops kd w0 Q (l1++l2) a' w') (NQ fun _ _=>False):=by
    intro G hG hn2 hh;have hcl:∀w1 w2,Cl w0 w1 (kd j) w2→Cl w0 w (kd j) w2:=by
     intro w1 w2 hc;match hkj:kd j,hk,hn2 with
     |0,_,_=>trivial
     |1,_,_=>rw[hkj]at hc;exact hc
     |2,_,hn=>exact(hn rfl).elim
     |_+3,hle,_=>omega
    have hcl':∀w1 w2,Cl w0 w (kd j) w2→Cl w0 w1 (kd j) w2:=by
     intro w1 w2 hc;match hkj:kd j,hk,hn2 with
     |0,_,_=>trivial
     |1,_,_=>rw[hkj]at hc;exact hc
     |2,_,hn=>exact(hn rfl).elim
     |_+3,hle,_=>omega
    have hs:=Ed hh;have step:∀a' w',((G w'∧LI P ops kd w0 Q (l1++j::l2) a' w')∧Kg a oi.dst a') →
      ∃v,Yv P ops w0 (kd j) oj a w v∧LI P ops kd w0 Q (l1++l2) (a'.put oj.dst v) w':=by
     rintro a' w' ⟨⟨hg,hL⟩,hsh⟩;obtain⟨v,h1,h2⟩:=HR hsel hj hk l1 l2 a' w' hl' (hG w' hg) hL;have h1':=(Yv.shape sj p1 hsh).1 h1;refine⟨v,?_,h2⟩;rcases h1' with⟨q1,q2⟩|⟨q1,q2⟩;exact .inl ⟨q1,fun w2 hc=>q2 w2<|hcl' w' w2 hc⟩;exact .inr ⟨q1,q2⟩
    obtain⟨v,hv⟩:∃v,Yv P ops w0 (kd j) oj a w v:=by
     obtain⟨u,w',hK|⟨d,hK⟩⟩:=KF hs;obtain⟨v,h1,_⟩:=step _ _ hK;exact⟨v,h1⟩;obtain⟨v,h1,_⟩:=step _ _ hK;exact⟨v,h1⟩
    refine⟨v,hv,H6 (ops:=ops) si p3 p2' ?_⟩;refine Oper.wp_mono (fun a' w' hK=>?_) hs;obtain⟨v',h1,h2⟩:=step a' w' hK;have:v'=v:=h1.unique hx hv;subst this;exact⟨hK.1.1,h2⟩
   by_cases h3:kd i=3;rw[if_pos h3]at h;have hj1:=bP hok h3;obtain⟨v,hv,hwp⟩:=gen (fun w'=>AB w w') (fun w' hg h1=>(hx h1).trans hg) (fun h2=>by omega) h;refine⟨v,hv,?_⟩;rw[wanted_put oi a oj.dst v p3,if_pos hw];unfold By;rw[if_neg hki,if_pos h3];exact hwp;rw[if_neg h3]at h;have hj0:=bQ hok zO;obtain⟨v,hv,hwp⟩:=gen (fun _=>True) (fun w' _ h1=>by omega) (fun h2=>by omega) (Oper.wp_mono (fun a w hh=>⟨trivial,hh⟩) h);refine⟨v,hv,?_⟩;rw[wanted_put oi a oj.dst v p3,if_pos hw];unfold By;rw[if_neg hki,if_neg h3];exact Oper.wp_mono (fun a w hh=>hh.2) hwp;rw[if_neg hw]at h;obtain⟨v,h1,h2⟩:=HR hsel hj hk l1 l2 (a.put oi.dst undef) w hl' hx h;refine⟨v,(Yv.apart sj p1).1 h1,?_⟩;rw[wanted_put oi a oj.dst v p3,if_neg hw,Act.put_comm a v undef p2'];exact h2
theorem Jk (hsel:∀(j:Nat)(o:Oper) cs b,ops[j]? = some o→o.op≠.select cs b){j:Nat}{oj:Oper}(hj:ops[j]? = some oj)(hk:3≤kd j) :
  ∀(l1 l2:List Nat) (a:Act) (w:World),(∀i∈l1,∀oi,ops[i]? = some oi→oi.apart ops oj=true∧Dh (kd i) (kd j)=true)→LI P ops kd w0 Q (l1++j::l2) a w →
   (Region.wanted oj (yielded ops a.tmps)=true→oj.wp P a w (fun a' w'=>(kd j=3→AB w w')∧LI P ops kd w0 Q (l1++l2) a' w') (NQ fun _ _=>False)) ∧
   (Region.wanted oj (yielded ops a.tmps)=false→LI P ops kd w0 Q (l1++l2) (a.put oj.dst undef) w)
 |[],l2,a,w,_,h=>by
  simp only[zl,LI,hj]at h ⊢
  refine⟨fun hw=>?_,fun hw=>?_⟩
  rw[if_pos hw]at h
  unfold By at h
  rw[if_neg (by omega)]at h
  split at h
  exact Oper.wp_mono (fun _ _ hh=>⟨fun _=>hh.1,hh.2⟩) h
  rename_i h3;exact Oper.wp_mono (fun _ _ hh=>⟨fun h'=>(h3 h').elim,hh⟩) h
  rw[if_neg (by simp[hw])]at h;exact h
 |i::l1,l2,a,w,hl,h=>by
  have hi:=hl i (z0 ..)
  have hl':∀x∈l1,∀ox,ops[x]? = some ox→ox.apart ops oj=true∧Dh (kd x) (kd j)=true:=fun x hx=>hl x (z3 _ hx)
  simp only[List.cons_append,LI]at h ⊢
  cases hoi:ops[i]? with
  |none=>rw[hoi]at h;exact h.elim
  |some oi =>
   rw[hoi]at h
   simp only at h ⊢
   obtain⟨hap,hok⟩:=hi oi hoi
   obtain⟨p1,p2,p3⟩:=Oper.apart_spec hap
   have p2':∀d,oj.dst=some d→oi.dst≠some d:=fun d hd he=>p2 d he hd
   have si:=fun cs b=>hsel i oi cs b hoi
   have sj:=fun cs b=>hsel j oj cs b hj
   obtain⟨hki,hk4⟩:=Zu hok hk
   by_cases hw:Region.wanted oi (yielded ops a.tmps)=true
   rw[if_pos hw]at h
   unfold By at h
   rw[if_pos hki]at h
   obtain⟨vi,hy,h⟩:=h
   obtain⟨g1,g2⟩:=Jk hsel hj hk l1 l2 (a.put oi.dst vi) w hl' h
   rw[wanted_put oj a oi.dst vi p1]at g1 g2
   refine⟨fun hwj=>?_,fun hwj=>?_⟩
   have g:=FU (ops:=ops) (Q:=fun _ _=>False) sj p1 p2<|g1 hwj
   refine Oper.wp_mono (fun a' w' hK=>?_)<|Ed g
   obtain⟨⟨hE,hL⟩,hsh⟩:=hK
   refine⟨hE,?_⟩
   rw[E2 p3 hsh,if_pos hw]
   unfold By
   rw[if_pos hki]
   refine⟨vi,fun w'' hc=>?_,hL⟩
   have hya:YA P oi a w'' vi:=by
    refine hy w'' ?_;match hki':kd i,hki,hk4 with
    |0,_,_=>trivial
    |1,_,_=>rw[hki']at hc;exact hc
    |2,_,h4=>rw[hki']at hc;exact(hE (by have:¬4≤kd j:=(fun hh=>by have:=h4 hh;omega);omega)).trans hc
    |_+3,hle,_=>omega
   have he:∀b,YA P oi b w'' vi↔YR P ((execOp b.eval oi).run P w'') w'' vi:=fun _=>Iff.rfl;obtain⟨u,rfl|⟨x,rfl⟩⟩:=hsh;exact (YA.apart (ops:=ops) si p3).2 hya;refine (YA.apart (ops:=ops) si p3).2 ?_;have hee:Act.eval { a with defers:=x::a.defers }=Act.eval a:=funext fun y=>by cases y <;> rfl
   rw[he,hee,← he];exact hya;rw[wanted_put oi a oj.dst undef p3,if_pos hw];unfold By;rw[if_pos hki];refine⟨vi,fun w' hc=>(YA.apart (ops:=ops) si p3).2 (hy w' hc),?_⟩;rw[Act.put_comm a undef vi p2'];exact g2 hwj;rw[if_neg hw]at h;obtain⟨g1,g2⟩:=Jk hsel hj hk l1 l2 (a.put oi.dst undef) w hl' h;rw[wanted_put oj a oi.dst undef p1]at g1 g2;refine⟨fun hwj=>?_,fun hwj=>?_⟩;have g:=FU (ops:=ops) (Q:=fun _ _=>False) sj p1 p2<|g1 hwj;refine Oper.wp_mono (fun a' w' hK=>?_)<|Ed g;obtain⟨⟨hE,hL⟩,hsh⟩:=hK;refine⟨hE,?_⟩;rw[E2 p3 hsh,if_neg hw];exact hL;rw[wanted_put oi a oj.dst undef p3,if_neg hw,Act.put_comm a undef undef p2'];exact g2 hwj
end main
end
end
section
section
variable {P:Program} {ops:Array Oper} {md:Region.Mode} {kd bs:Nat→Nat} {w0:World} {Q:Act→World→Prop}
theorem Gn {o:Oper}{a:Act}{w:World}{K:Act→World→Prop}{Q':Exit→Act→World→Prop}(h:o.wp P a w K (NQ fun _ _=>False)):o.wp P a w K Q':=by
 unfold Oper.wp at *;generalize (execOp a.eval o).run P w=r at *;cases r with
 |ok n w' =>
  cases n <;> simp only[Oper.upon]at h ⊢ <;> try exact h
  case enter f args =>
   refine Calls.mono h fun e w'' he=>?_;cases e with
   |returned u=>exact he
   |panicked c=>exact he.elim
   |outgrown=>obtain⟨_,_,hf⟩:=he;exact hf.elim
 |halt x w'=>cases x <;> simp only[Oper.upon]at h ⊢;exact h.elim
theorem GN {o:Oper}{a:Act}{w:World}{v:Value}{K:Act→World→Prop}{Q':Exit→Act→World→Prop}(h:YA P o a w v)(hK:K (a.put o.dst v) w):o.wp P a w K Q':=by
 unfold Oper.wp;unfold YA at h;rcases h with h|⟨h,rfl⟩|⟨f,args,h,hc⟩ <;> rw[h];exact hK;exact hK;exact Calls.mono hc fun e w' he=>by
  obtain⟨rfl,rfl⟩:=he;exact hK
def IZ (bs:Nat→Nat)(listed:Array Bool):Prop:=∀i,listed.getD i false=true→∀j,(bs i).testBit j=true→listed.getD j false=true
theorem CQ {l:Array Bool}{i:Nat}(h:l.getD i true=false):l.getD i false=false:=by by_cases hi:i<l.size;simpa [hi]using h;simp[hi]at h
def DB (md:Region.Mode)(ops:Array Oper)(kd bs:Nat→Nat)(x y:Nat):Prop :=
 (∀ox oy,ops[x]? = some ox→ops[y]? = some oy→(bs y).testBit x=true∨(ox.apart ops oy=true∧Dh (kd x) (kd y)=true)) ∧
 (∀ox,ops[x]? = some ox→∀e∈ox.after,Region.binds md e=true→e.on≠y)
section lists
variable {l1 l2:List Nat} {i:Nat} {listed:Array Bool}
theorem FV (hz:listed.size=ops.size){l:List Nat}(hm:∀x,x∈i::l↔listed.getD x true=false)(hself:∀x ox,ops[x]? = some ox→∀e∈ox.after,Region.binds md e=true→e.on<x)
  (hs:∀y∈l,∀ox,ops[i]? = some ox→∀e∈ox.after,Region.binds md e=true→e.on≠y):i∈Region.ready md ops listed:=by
 have hil:=(hm i).1 (z0 ..);have hlt:i<ops.size:=by
  rw[← hz];rcases Nat.lt_or_ge i listed.size with h'|h';exact h';simp[Array.getElem?_eq_none h']at hil
 refine mem_ready.2 ⟨hil,ops[i],by simp[hlt],fun e he hb=>?_⟩;have hlt':=hself i ops[i] (by simp[hlt]) e he hb;have hnot:e.on∉i::l:=by
  intro hmem;rcases ze.1 hmem with hh|hh;omega;exact hs _ hh ops[i] (by simp[hlt]) e he hb rfl
 have:listed.getD e.on true=true:=by
  cases hb':listed.getD e.on true with
  |true=>rfl
  |false=>exact absurd ((hm e.on).2 hb') hnot
 have hlt2:e.on<listed.size:=by omega
 simpa [hlt2]using this
theorem Ff (hm:∀x,x∈l1++i::l2↔listed.getD x true=false)(hnd:i∉l1++l2)(hsz:i<listed.size):∀x,x∈l1++l2↔(listed.setIfInBounds i true).getD x true=false:=by
 intro x;by_cases hxi:x=i;subst hxi;constructor;exact fun hh=>absurd hh hnd
 intro hh;simp[hsz]at hh;rw[getD_set_ne true (Ne.symm hxi),← hm x];simp only[zi,ze];constructor;exact fun hh=>hh.elim .inl fun y=>.inr<|.inr y
 exact fun hh=>hh.elim .inl fun y=>y.elim (fun z=>absurd z hxi) .inr
theorem Ej (hc:IZ bs listed)(hbits:∀j,(bs i).testBit j=true→listed.getD j false=true):IZ bs (listed.setIfInBounds i true):=by intro x hx j hj;by_cases hxi:x=i;subst hxi;exact getD_set_true (hbits j hj);rw[getD_set_ne false (Ne.symm hxi)]at hx;exact getD_set_true (hc x hx j hj)
theorem D5 (hS:HQ md ops bs)(hc:IZ bs listed){oi:Oper}(hoi:ops[i]? = some oi)(hall:∀e∈oi.after,Region.binds md e=true→listed.getD e.on false=true):∀j,(bs i).testBit j=true→listed.getD j false=true:=by intro j hj;obtain⟨e,he,hb,hh⟩:=hS i oi hoi j hj;have hl:=hall e he hb;rcases hh with rfl|hh;exact hl;exact hc e.on hl j hh
theorem Ep {oi:Oper}(hoi:ops[i]? = some oi)(hp:∀x∈l1,(∀ox oy,ops[x]? = some ox→ops[i]? = some oy→(bs i).testBit x=true∨(ox.apart ops oy=true∧Dh (kd x) (kd i)=true)))
  (hm:∀x∈l1,listed.getD x true=false) (hbits:∀j,(bs i).testBit j=true→listed.getD j false=true):∀x∈l1,∀ox,ops[x]? = some ox→ox.apart ops oi=true∧Dh (kd x) (kd i)=true:=by
 intro x hx ox hox;rcases hp x hx ox oi hox hoi with hb|hb;have h1:=hbits x hb;have h2:=CQ<|hm x hx;rw[h1]at h2;cases h2;exact hb
theorem BQ (h:listed.getD i true=false):i<listed.size:=by rcases Nat.lt_or_ge i listed.size with h'|h';exact h';simp[Array.getElem?_eq_none h']at h
end lists
theorem FS (hsel:∀(j:Nat)(o:Oper) cs b,ops[j]? = some o→o.op≠.select cs b)(hS:HQ md ops bs)
  (hlex:∀j oj,ops[j]? = some oj→∀e∈oj.after,Region.binds md e=true→e.on<j) :
  ∀(n:Nat) (l:List Nat) (listed:Array Bool) (a:Act) (w:World),l.length=n→l.Pairwise (DB md ops kd bs)→l.Nodup→listed.size=ops.size →
   (∀i,i∈l↔listed.getD i true=false)→IZ bs listed→Ns kd l→Nr kd w0 w l→LI P ops kd w0 Q l a w→wpAny P md ops (NQ Q) n listed a w
 |0,l,listed,a,w,hn,_,_,_,hm,_,_,_,h=>by
  have hl:l=[]:=List.eq_nil_of_length_eq_zero hn
  subst hl
  refine⟨?_,h⟩
  cases hr:Region.ready md ops listed with
  |nil=>rfl
  |cons x xs =>
   have:=(mem_ready.1 (by rw[hr];exact z0 ..:x∈Region.ready md ops listed)).1
   exact absurd ((hm x).2 this) (by simp)
 |n+1,l,listed,a,w,hn,hs,hd,hz,hm,hc,h14,hi1,h=>by
  refine⟨fun h0=>?_,fun i hi=>?_⟩
  exfalso
  match l,hn with
  |i::l,hn =>
   have hready:=FV (md:=md) hz hm hlex fun y hy ox hox=>((List.pairwise_cons.1 hs).1 y hy).2 ox hox
   rw[h0]at hready
   cases hready
  obtain⟨hun,oi,hoi,hall⟩:=mem_ready.1 hi
  obtain⟨l1,l2,rfl⟩:=List.append_of_mem ((hm i).2 hun)
  have hbits:=D5 hS hc hoi hall
  have hpi:∀x∈l1,DB md ops kd bs x i:=fun x hx=>(List.pairwise_append.1 hs).2.2 x hx i (z0 ..)
  have hfree:=Ep (kd:=kd) (l1:=l1) hoi (fun x hx=>(hpi x hx).1) (fun x hx=>(hm x).1 (z8 _ hx)) hbits
  have hsz:=BQ hun
  have hsub0:(l1++l2).Sublist (l1++i::l2):=List.Sublist.append_left (List.sublist_cons_self _ _) _
  have hnd:i∉l1++l2:=by
   have h1:=List.nodup_append.1 hd
   intro hmem;rcases zi.1 hmem with hh|hh;exact h1.2.2 i hh i (z0 ..) rfl;exact (List.nodup_cons.1 h1.2.1).1 hh
  have hn':(l1++l2).length=n:=by simp at hn ⊢;omega
  have rec_:∀a' w',Nr kd w0 w' (l1++l2)→LI P ops kd w0 Q (l1++l2) a' w'→wpAny P md ops (NQ Q) n (listed.setIfInBounds i true) a' w':=fun a' w' hi' hL =>
   FS hsel hS hlex n (l1++l2) _ a' w' hn' (hs.sublist hsub0) (hd.sublist hsub0) (by simpa using hz) (Ff hm hnd hsz) (Ej hc hbits) (Ns.erase h14) hi' hL
  have hsub:Nr kd w0 w (l1++l2):=fun⟨j,hj,hk⟩=>hi1 ⟨j,hsub0.subset hj,hk⟩;by_cases hk:kd i≤2;obtain⟨v,hv,hL⟩:=HR hsel hoi hk l1 l2 a w hfree (fun h1=>hi1 ⟨i,by simp,h1⟩) h;unfold wpOp;rw[hoi];rcases hv with⟨hw,hy⟩|⟨hw,rfl⟩;simp only[hw,if_true];exact .inl<|GN (hy w (Cl.self fun h1=>hi1 ⟨i,by simp,h1⟩))<|rec_ _ _ hsub hL;simp only[hw,Bool.false_eq_true,if_false];exact rec_ _ _ hsub hL;obtain⟨g1,g2⟩:=Jk hsel hoi zO l1 l2 a w hfree h;unfold wpOp;rw[hoi];by_cases hw:Region.wanted oi (yielded ops a.tmps)=true;simp only[hw,if_true];refine .inl<|Oper.wp_mono (fun a' w' hK=>rec_ a' w' ?_ hK.2)<|Gn<|g1 hw;rintro⟨j,hj,hkj⟩;by_cases h3:kd i=3;exact (hsub ⟨j,hj,hkj⟩).trans<|hK.1 h3;exfalso;rcases zi.1 hj with hh|hh;obtain⟨oj,hoj⟩:∃oj,ops[j]? = some oj:=by
   have:=BQ ((hm j).1 (z8 _ hh));exact⟨ops[j]'(by omega),by simp[show j<ops.size by omega]⟩
  have:=(Zu (hfree j hh oj hoj).2 zO).2 zO;omega;exact h14 l1 i l2 rfl zO j hh hkj;simp only[hw,Bool.false_eq_true,if_false];exact rec_ _ _ hsub<|g2 (by simpa using hw)
def cO (i j:Nat)(l1 l2:List Nat):Prop:=∃A M C,l1=A++i::(M++j::C)∧l2=A++(M++j::i::C)
theorem HS (ks:List Nat):∀(os:List Oper)(k:Nat)(a:Act)(w:World),(∀j,os[j]? = ops[k+j]?) →
  LW P ops w0 Q os (ks.drop k) a w→LI P ops (fun i=>ks.getD i 0) w0 Q (List.range' k os.length) a w
 |[],_,_,_,_,h=>by simpa [LI,LW]using h
 |o::os,k,a,w,ho,h=>by
  have h0:ops[k]? = some o:=by simpa using (ho 0).symm
  have hr:∀a w,LW P ops w0 Q os (ks.drop (k+1)) a w→LI P ops (fun i=>ks.getD i 0) w0 Q (List.range' (k+1) os.length) a w:=fun a w hh =>
   HS ks os (k+1) a w (fun j=>by have:=ho (j+1);simpa [Nat.add_assoc,Nat.add_comm 1 j]using this) hh
  have hlt:k<ks.length:=by
   rcases Nat.lt_or_ge k ks.length with hh|hh;exact hh;rw[List.drop_of_length_le hh]at h;exact h.elim
  have hd:ks.drop k=ks[k]::ks.drop (k+1):=List.drop_eq_getElem_cons hlt;rw[hd]at h;simp only[z9,List.range'_succ,LI,h0,LW]at h ⊢;have hg:ks.getD k 0=ks[k]:=by simp[hlt]
  split;rename_i hw;rw[if_pos hw]at h;rw[hg];exact h.mono hr;rename_i hw;rw[if_neg hw]at h;exact hr _ _ h
def Zv (ops:Array Oper)(ks:List Nat):Bool :=
  let b:=(Region.before ops).toList
  let os:=ops.toList
  Region.noSelect ops &&
  (os.zipIdx.all fun(o,j) =>
    (o.after.all fun e=>!Region.binds .any e || decide (e.on<j)) &&
    (let m:=o.after.foldl (fun s e=>if Region.binds .any e then s ||| 2 ^ e.on ||| b.getD e.on 0 else s) 0
     (b.getD j 0 == m)) &&
    (os.zipIdx.all fun(p,i)=>!(decide (i<j)) || (b.getD j 0).testBit i || (p.apart ops o && Dh (ks.getD i 0) (ks.getD j 0)))) &&
  (os.zipIdx.all fun(_,i)=>!(decide (4≤ks.getD i 0)) || os.zipIdx.all fun(_,j)=>!(decide (i<j)) || ks.getD j 0 != 1)
theorem Fg (f:Edge→Nat):∀(l:List Edge)(s:Nat)(i:Nat),(l.foldl (fun s e=>if Region.binds .any e then s ||| 2 ^ e.on ||| f e else s) s).testBit i=true →
  s.testBit i=true∨∃e∈l,Region.binds .any e=true∧(i=e.on∨(f e).testBit i=true)
 |[],s,i,h=>.inl h
 |e::l,s,i,h=>by
  rcases Fg f l _ i h with h|⟨x,hx,hb⟩
  dsimp only at h
  split at h
  rename_i hb
  simp only[Nat.testBit_or,Bool.or_eq_true]at h
  rcases h with(h|h)|h
  exact .inl h
  refine .inr ⟨e,z0 ..,hb,.inl ?_⟩
  simp[Nat.testBit_two_pow]at h
  exact h.symm
  exact .inr ⟨e,z0 ..,hb,.inr h⟩
  exact .inl h
  exact .inr ⟨x,z3 _ hx,hb⟩
theorem FW {os:List Oper}{Q:Exit→Act→World→Prop}:∀(n:Nat)(listed:Array Bool)(a:Act)(w:World),wpAny P .any os.toArray (NQ fun a w=>Q .normal a w) n listed a w→wpAny P .any os.toArray Q n listed a w:=by
 intro n
 induction n with
 |zero=>exact fun listed a w h=>h
 |succ n ih =>
  intro listed a w h;refine⟨h.1,fun i hi=>?_⟩;have:=wpOp_mono (fun a w=>ih _ a w) (h.2 i hi);unfold wpOp at this ⊢;split;rename_i ho;rw[ho]at this;exact this
  ·rename_i o ho;rw[ho]at this;split
   ·rename_i hw;simp only[hw,if_true]at this;rcases this with this|⟨_,_,_,hf⟩
    ·left;unfold Oper.wp at *;generalize (execOp a.eval o).run P w=r at *;cases r with
     |ok m w' =>
      cases m <;> simp only[Oper.upon]at this ⊢ <;> try exact this
      case enter f args =>
       refine Calls.mono this fun e w'' he=>?_;cases e with
       |returned u=>exact he
       |panicked c=>exact he.elim
       |outgrown=>obtain⟨_,_,hf⟩:=he;exact hf.elim
     |halt x w'=>cases x <;> simp only[Oper.upon]at this ⊢;exact this.elim
    exact hf.elim
   rename_i hw;simp only[hw]at this;exact this
theorem Jl {md:Region.Mode}(hF:VA ops kd bs)(hlex:∀j oj,ops[j]? = some oj→∀e∈oj.after,Region.binds md e=true→e.on<j){l:List Nat}(h:l.Pairwise (· < ·)):l.Pairwise (DB md ops kd bs) :=
 h.imp fun {x y} hxy=>⟨fun ox oy hox hoy=>hF x y ox oy hxy hox hoy,fun ox hox e he hb=>by have:=hlex x ox hox e he hb;omega⟩
theorem AU {id:Nat}{Q:Exit→Act→World→Prop}{a:Act}{w:World}(os:List Oper)(ks:List Nat)(hm:P.follows .mixedOrders=true)(hB:Zv os.toArray ks=true)
  (h:LW P os.toArray w.drew (fun a w=>Q .normal a w) os ks a w.drew):(Code.region id os.toArray true).wp P Q a w:=by
 refine wp_region_any hm ?_;simp only[Zv,z7]at hB;obtain⟨⟨hsel,hpl⟩,h14⟩:=hB;have hz:∀ {j:Nat} {o:Oper},os.toArray[j]? = some o→(o,j)∈os.toArray.toList.zipIdx:=by
  intro j o ho;rw[List.mem_zipIdx_iff_getElem?];simpa using ho
 have hall:∀j oj,os.toArray[j]? = some oj→_:=fun j oj hj=>zm.1 hpl _ (hz hj);have hF:VA os.toArray (fun i=>ks.getD i 0) (fun j=>(Region.before os.toArray).toList.getD j 0):=by
  intro i j oi oj hij hi hj;have h3:=(z7 _ _ ▸ hall j oj hj:_∧_).2;have h4:=zm.1 h3 _<|hz hi;simp only[Bool.or_eq_true,Bool.not_eq_true',decide_eq_false_iff_not,z7]at h4;rcases h4 with(h4|h4)|h4;exact absurd hij h4;exact .inl h4;exact .inr h4
 have hlex:∀j oj,os.toArray[j]? = some oj→∀e∈oj.after,Region.binds .any e=true→e.on<j:=by
  intro j oj hj e he hb;have h1:=(z7 _ _ ▸ (z7 _ _ ▸ hall j oj hj:_∧_).1:_∧_).1;have h2:=(Array.all_eq_true_iff_forall_mem.1 h1) e he;simpa [hb]using h2
 have key:=FS (P:=P) (ops:=os.toArray) (md:=.any) (kd:=fun i=>ks.getD i 0) (bs:=fun j=>(Region.before os.toArray).toList.getD j 0) (w0:=w.drew) (Q:=fun a w=>Q .normal a w)
  (Region.noSelect_spec hsel) ?_ ?_ os.length (List.range' 0 os.length) (Array.replicate os.length false) a w.drew (by simp) ?_ List.nodup_range' (by simp) ?_ ?_ ?_ (fun _=>AB.refl _) ?_
 have:=FW _ _ _ _ key;simpa using this
 intro j oj hj i hb;have h3:=(z7 _ _ ▸ (z7 _ _ ▸ hall j oj hj:_∧_).1:_∧_).2;have h5:(Region.before os.toArray).toList.getD j 0=oj.after.foldl (fun s e=>if Region.binds .any e then s ||| 2 ^ e.on ||| (Region.before os.toArray).toList.getD e.on 0 else s) 0:=by simpa using h3
 dsimp only at hb;rw[h5,← Array.foldl_toList]at hb;rcases Fg _ _ _ _ hb with hb|⟨e,he,hbb,hh⟩;simp at hb;exact⟨e,Array.mem_toList_iff.1 he,hbb,hh⟩;exact hlex;exact Jl hF hlex List.pairwise_lt_range'
 intro i;simp only[List.mem_range',Nat.zero_add,Nat.one_mul];constructor;rintro⟨x,hx,rfl⟩;simp[hx]
 intro hh;rcases Nat.lt_or_ge i os.length with h'|h';exact⟨i,h',rfl⟩;simp[Array.getElem?_eq_none (show(Array.replicate os.length false).size≤i by simpa using h')]at hh
 intro i hi;rcases Nat.lt_or_ge i os.length with h'|h';simp[h']at hi;simp[Array.getElem?_eq_none (show(Array.replicate os.length false).size≤i by simpa using h')]at hi
 intro l1 i l2 hl hk j hj;have hs:(l1++i::l2).Pairwise (· < ·):=hl ▸ List.pairwise_lt_range';have hij:i<j:=List.rel_of_pairwise_cons (List.pairwise_append.1 hs).2.1 hj;have mem:∀x∈l1++i::l2,x<os.length:=by
  intro x hx;rw[← hl]at hx;simp only[List.mem_range',Nat.zero_add,Nat.one_mul]at hx;obtain⟨y,hy,rfl⟩:=hx;exact hy
 have hi:=mem i (by simp);have hj':=mem j (by simp[hj]);have h1:=zm.1 h14 _<|hz (j:=i) (o:=os[i]) (by simp[hi]);simp only[Bool.or_eq_true,Bool.not_eq_true',decide_eq_false_iff_not]at h1;rcases h1 with h1|h1;exact absurd hk h1;have h2:=zm.1 h1 _<|hz (j:=j) (o:=os[j]) (by simp[hj']);simp only[Bool.or_eq_true,Bool.not_eq_true',decide_eq_false_iff_not]at h2;rcases h2 with h2|h2;exact absurd hij h2;simpa using h2;exact HS ks os 0 a w.drew (by simp) (by simpa using h)
def Mt (ops:Array Oper)(kd:Nat→Nat):List Nat→List Oper→List Nat→Prop
 |[],[],_=>True
 |x::l,o::os,k::ks=>ops[x]? = some o∧kd x=k∧Mt ops kd l os ks
 |_,_,_=>False
theorem E3:∀(l:List Nat)(os:List Oper)(ks:List Nat)(a:Act)(w:World),Mt ops kd l os ks→LW P ops w0 Q os ks a w→LI P ops kd w0 Q l a w
 |[],[],_,_,_,_,h=>by simpa [LI,LW]using h
 |x::l,o::os,k::ks,a,w,⟨h0,hk,hM⟩,h=>by
  have hr:∀a w,LW P ops w0 Q os ks a w→LI P ops kd w0 Q l a w:=fun a w hh=>E3 l os ks a w hM hh
  simp only[LI,h0,LW]at h ⊢
  split
  rename_i hw
  rw[if_pos hw]at h
  rw[hk]
  exact h.mono hr
  rename_i hw
  rw[if_neg hw]at h
  exact hr _ _ h
 |[],_::_,_,_,_,h,_=>h.elim
 |_::_,[],_,_,_,h,_=>h.elim
 |_::_,_::_,[],_,_,h,_=>h.elim
def FL (ops:Array Oper)(ks b:List Nat)(x y:Nat):Bool :=
 match ops[x]?,ops[y]? with
 |some ox,some oy=>((b.getD y 0).testBit x || (ox.apart ops oy && Dh (ks.getD x 0) (ks.getD y 0))) && ox.after.all fun e=>!Region.binds .any e || e.on != y
 |_,_=>false
def No (f:Nat→Nat→Bool):List Nat→Bool
 |[]=>true
 |x::l=>l.all (f x) && No f l
theorem Ez {f:Nat→Nat→Bool}{R:Nat→Nat→Prop}(hR:∀x y,f x y=true→R x y):∀ {l:List Nat},No f l=true→l.Pairwise R
 |[],_=>List.Pairwise.nil
 |x::l,h=>by
  simp only[No,z7,zm]at h
  exact List.pairwise_cons.2 ⟨fun y hy=>hR x y<|h.1 y hy,Ez hR h.2⟩
theorem D6 {ks b:List Nat}{x y:Nat}(h:FL ops ks b x y=true):DB .any ops (fun i=>ks.getD i 0) (fun j=>b.getD j 0) x y:=by unfold FL at h;split at h;rename_i ox oy hx hy;simp only[z7,Bool.or_eq_true]at h;refine⟨fun ox' oy' hx' hy'=>?_,fun ox' hx' e he hb=>?_⟩;rw[hx]at hx';rw[hy]at hy';cases hx';cases hy';exact h.1;rw[hx]at hx';cases hx';have:=(Array.all_eq_true_iff_forall_mem.1 h.2) e he;simpa [hb]using this;cases h
theorem GO:∀(rest:List Oper)(ks:List Nat)(a:Act)(w:World)(Q:Exit→Act→World→Prop),(∀k∈ks,k≠1)→LW P ops w0 (fun a w=>Q .normal a w) rest ks a w→wpList P ops Q rest a w
 |[],_,_,_,_,_,h=>h
 |_::_,[],_,_,_,_,h=>h.elim
 |o::os,k::ks,a,w,Q,hk,h=>by
  have hk':∀x∈ks,x≠1:=fun x hx=>hk x (z3 _ hx)
  have hk1:=hk k (z0 ..)
  refine wpList_step fun K hK=>?_
  simp only[LW]at h
  split
  rename_i hw
  rw[if_pos hw]at h
  unfold By at h
  split at h
  obtain⟨v,h1,h2⟩:=h
  exact GN (h1 w (Cl.self fun hh=>absurd hh hk1))<|hK _ _<|GO os ks _ _ Q hk' h2
  split at h
  exact Oper.wp_mono (fun a w hh=>hK _ _<|GO os ks _ _ Q hk' hh.2)<|Gn h
  exact Oper.wp_mono (fun a w hh=>hK _ _<|GO os ks _ _ Q hk' hh)<|Gn h
  rename_i hw
  rw[if_neg hw]at h
  exact hK _ _<|GO os ks _ _ Q hk' h
theorem Ab {id:Nat}{Q:Exit→Act→World→Prop}{a:Act}{w:World}(os:List Oper)(ks:List Nat)(hk:ks.all (· != 1)=true)
  (h:LW P os.toArray w (fun a w=>Q .normal a w) os ks a w):(Code.region id os.toArray false).wp P Q a w :=
 wp_region_lit (GO os ks a w Q (fun k hh=>by simpa using zm.1 hk k hh) h)
end
end
section
def CP (ρ:Nat→Value)(d:Nat)(v:Value):Nat→Value:=fun i=>cond (Nat.beq i d) v (ρ i)
def Zw (l:List Value):Nat→Value:=fun i=>l.getD i undef
def mk (N:Nat) (ρ:Nat→Value):Act:=⟨((List.range N).map ρ).toArray,[]⟩
def Bz (N:Nat) (ρ:Nat→Value):Operand→Value
 |.tmp t=>cond (Nat.blt t N) (ρ t) undef
 |.const v=>v
 |.global g=>.pointer (some ⟨g,0,none⟩)
 |.func f=>.func (.func f) #[] #[]
theorem Nt (ρ:Nat→Value)(d:Nat)(v:Value):CP ρ d v d=v:=by simp[CP]
theorem QQ (ρ:Nat→Value){d i:Nat}(v:Value)(h:i≠d):CP ρ d v i=ρ i:=by
 have:Nat.beq i d=false:=by
  cases hb:Nat.beq i d with
  |false=>rfl
  |true=>exact absurd (Nat.eq_of_beq_eq_true hb) h
 simp[CP,this]
theorem Dm (N:Nat) (ρ:Nat→Value):(mk N ρ).eval=Bz N ρ:=by
 funext x;cases x with
 |tmp t =>
  simp only[Act.eval,Bz,mk];by_cases h:t<N;have:Nat.blt t N=true:=by simpa using h
  simp[h,this];have:Nat.blt t N=false:=by
   cases hb:Nat.blt t N with
   |false=>rfl
   |true=>exact absurd (by simpa using hb) h
  simp[this,Nat.not_lt.1 h]
 |_=>rfl
theorem EA (N:Nat) (ρ:Nat→Value)(d:Nat)(v:Value):(mk N ρ).put (some d) v=mk N (CP ρ d v):=by
 simp only[Act.put,mk,Act.mk.injEq,and_true];apply Array.ext;simp
 intro i h1 h2;simp at h1;by_cases hi:i=d;subst hi;simp[Nt];simp[Ne.symm hi,QQ _ _ hi]
theorem Ay {P:Program}{f:FuncId}{fn:Func}{c:Code}{w:World}{R:Ending→World→Prop}(args:List Value)(N:Nat)
  (hf:P.funcs[f]? = some fn) (hb:fn.body=some c) (hN:fn.ntmps=N) (hl:args.length≤N)
  (h:c.wp P (bodyPost P fn R) (mk N (Zw args)) w):Calls P f args.toArray w R:=by
 refine calls_of_wp hf hb ?_;have:(mk N (Zw args)) = { tmps:=args.toArray++Array.replicate (fn.ntmps-args.toArray.size) undef,defers:=[] }:=by
  simp only[mk,Act.mk.injEq,and_true];apply Array.ext;simp;omega
  intro i h1 h2;simp at h1;by_cases hi:i<args.length;simp[Zw,hi];simp[Zw,hi,Array.getElem_append]
 rw[← this];exact h
def XK (N:Nat) (ρ:Nat→Value):List Nat→Value
 |[t]=>Bz N ρ (.tmp t)
 |ts=>.tuple (ts.map fun t=>Bz N ρ (.tmp t)).toArray
theorem KG (N:Nat) (ρ:Nat→Value)(t:Nat):(mk N ρ).tmps.getD t undef=Bz N ρ (.tmp t):=by rw[← Dm];rfl
theorem Nu {P:Program}{fn:Func}{N:Nat} {ρ:Nat→Value}{w:World}(ts:List Nat)(hr:fn.results=(ts.map ResultVar.tmp).toArray) :
  (results fn (mk N ρ).tmps).run P w=.ok (XK N ρ ts) w:=by
 have key:∀(l:List Nat),(((l.map ResultVar.tmp).mapM (m:=Sem) fun
  |.tmp t=>pure ((mk N ρ).tmps.getD t undef)
  |.cell a t=>do loadVar t (← asAddr ((mk N ρ).tmps.getD a undef)))).run P w=.ok (l.map fun t=>Bz N ρ (.tmp t)) w:=by
  intro l
  induction l with
  |nil=>rfl
  |cons t l ih =>
   simp only[zf,List.mapM_cons,Sem.run_bind,Sem.run_pure,Result.andThen_ok,KG]at ih ⊢;rw[ih];rfl
 unfold results;rw[hr];simp only[List.mapM_toArray,Sem.run_bind,Sem.run_map];refine (congrArg (fun r=>(Result.andThen (Result.andThen r fun a w'=>Result.ok a.toArray w') fun a w'=>Result.ok (if h:a.size=1 then a[0]else Value.tuple a) w'))<|key ts).trans ?_;simp only[Result.andThen_ok];match ts with
 |[]=>rfl
 |[t]=>rfl
 |_::_::_=>rfl
theorem Ak {P:Program}{fn:Func}{N:Nat} {ρ:Nat→Value}{w:World}{R:Ending→World→Prop}(ts:List Nat)(hr:fn.results=(ts.map ResultVar.tmp).toArray)(v:Value)(hv:XK N ρ ts=v)
  (h:R (.returned v) w):bodyPost P fn R .ret (mk N ρ) w:=⟨rfl,v,by rw[← hv];exact Nu ts hr,h⟩
section code
variable {P:Program} {N:Nat} {ρ:Nat→Value} {Q:Exit→Act→World→Prop} {w:World}
theorem Ah {c:Operand}{x y:Code}(hc:Bz N ρ c=.bool true)(h:x.wp P Q (mk N ρ) w):(Code.cond c x y).wp P Q (mk N ρ) w :=
 wp_cond_true (by rw[Dm];exact hc) h
theorem Ai {c:Operand}{x y:Code}(hc:Bz N ρ c=.bool false)(h:y.wp P Q (mk N ρ) w):(Code.cond c x y).wp P Q (mk N ρ) w :=
 wp_cond_false (by rw[Dm];exact hc) h
theorem AD {id:Nat}{a:Act}(h:Q .normal a w):Exit.inBlock id Q (.exit id) a w:=by simpa [Exit.inBlock]using h
theorem AH {id:Nat}{a:Act}{K:Act→World→Prop}(h:Q (.exit id) a w):Exit.then K Q (.exit id) a w:=h
theorem Aw {a:Act}{K:Act→World→Prop}(h:Q .ret a w):Exit.then K Q .ret a w:=h
theorem AN {id:Nat}{a:Act}(h:Q .ret a w):Exit.inBlock id Q .ret a w:=h
def QR:List (Nat×Value)→(Nat→Value)→Nat→Value
 |[],ρ=>ρ
 |(i,v)::l,ρ=>CP (QR l ρ) i v
def JT (ρ:Nat→Value):List (Nat×Value)→Prop
 |[]=>True
 |(i,v)::l=>ρ i=v∧JT ρ l
theorem FX {ρ:Nat→Value}:∀ {l:List (Nat×Value)},JT ρ l→QR l ρ=ρ
 |[],_=>rfl
 |(i,v)::l,h=>by
  simp only[QR,FX h.2]
  funext j
  by_cases hj:j=i
  subst hj;rw[Nt];exact h.1.symm
  rw[QQ _ _ hj]
theorem B4 {S:Type}(fr:S→List (Nat×Value))(I:S→World→Prop)(m:S→Nat)(s0:S){body:Code}(hfr:JT ρ (fr s0))(h0:I s0 w)
  (round:∀s ρ w,I s w→body.wp P (Exit.then (fun a' w'=>∃s' ρ',a'=mk N ρ'∧JT ρ' (fr s')∧I s' w'∧m s'<m s) Q) (mk N (QR (fr s) ρ)) w) :
  (Code.loop body).wp P Q (mk N ρ) w:=by
 intro b k cs;have key:∀n s ρ w,m s=n→JT ρ (fr s)→I s w→∃e a' w',Q e a' w'∧Arrives P (lone (b.at (mk N ρ) (.code body :: .inLoop body::k)) cs w) b k cs e a' w':=by
  intro n
  induction n using Nat.strongRecOn with
  |_ n ih =>
   intro s ρ w hn hfr hI;have hr:=round s ρ w hI;rw[FX hfr]at hr;obtain⟨e,a₁,w₁,hq,harr⟩:=hr b (.inLoop body::k) cs;cases e with
   |normal =>
    obtain⟨s',ρ',rfl,hfr',hI',hlt⟩:=hq;obtain⟨e₂,a₂,w₂,hq₂,harr₂⟩:=ih (m s') (hn ▸ hlt) s' ρ' w₁ rfl hfr' hI';exact⟨e₂,a₂,w₂,hq₂,.of_steps (Steps.trans harr (.one step_inLoop)) harr₂⟩
   |exit id=>exact⟨_,a₁,w₁,hq,.pass (x:=.inLoop body) rfl (fun _ _=>.inl (by simp)) harr⟩
   |goto l=>exact⟨_,a₁,w₁,hq,.pass (x:=.inLoop body) rfl (fun _ _=>.inl (by simp)) harr⟩
   |ret=>exact⟨_,a₁,w₁,hq,.pass (x:=.inLoop body) rfl (fun _ _=>.inl (by simp)) harr⟩
   |panic ch=>exact⟨_,a₁,w₁,hq,.pass (x:=.inLoop body) rfl (fun _ _=>.inl (by simp)) harr⟩
   |outgrown=>exact⟨_,a₁,w₁,hq,.pass (x:=.inLoop body) rfl (fun _ _=>.inl (by simp)) harr⟩
 obtain⟨e,a',w',hq,harr⟩:=key _ s0 ρ w rfl hfr h0;exact⟨e,a',w',hq,.of_steps (.one step_loop) harr⟩
theorem Kh {S:Type}(fr:S→List (Nat×Value))(I:S→World→Prop){c:Code}{K:Act→World→Prop}{Q':Exit→Act→World→Prop}
  (h:c.wp P (Exit.then (fun a' w'=>∃s' ρ',a'=mk N ρ'∧JT ρ' (fr s')∧I s' w') Q') (mk N ρ) w)
  (hn:∀s ρ w,I s w→K (mk N (QR (fr s) ρ)) w):c.wp P (Exit.then K Q') (mk N ρ) w:=by
 refine wp_mono h ?_
 intro e a w hh;cases e with
 |normal =>
  obtain⟨s,ρ',rfl,h1,h2⟩:=hh;have:=hn s ρ' w h2;rw[FX h1]at this;exact this
 |_=>exact hh
end code
section ops
variable {P:Program} {ops:Array Oper} {w0:World} {Q:Act→World→Prop} {os:List Oper} {ks:List Nat} {N:Nat} {ρ:Nat→Value} {w:World}
abbrev Up (ops:Array Oper)(N:Nat) (ρ:Nat→Value)(o:Oper):Prop:=Region.wanted o (yielded ops (mk N ρ).tmps)=true
theorem Aa {d:Option Tmp}{op:Op}{ty:TypeId}{pos:String}{aft:Array Edge}:Up ops N ρ ⟨d,op,ty,pos,aft,none⟩:=rfl
theorem Om {j d:Nat}{b:Bool}(hd:(ops[j]?).bind (·.dst)=some d)(hlt:Nat.blt d N=true)(hv:ρ d=.bool b):yielded ops (mk N ρ).tmps j=some b:=by
 have h:d<N:=by simpa using hlt
 unfold yielded;rw[hd];simp[mk,h,hv]
theorem Al {d:Option Tmp}{op:Op}{ty:TypeId}{pos:String}{aft:Array Edge}{j e:Nat}{b:Bool}(hd:(ops[j]?).bind (·.dst)=some e)(hlt:Nat.blt e N=true)(hv:ρ e=.bool b) :
  Up ops N ρ ⟨d,op,ty,pos,aft,some (j,b)⟩:=by
 unfold Up Region.wanted;simp[Om hd hlt hv]
theorem CY {o:Oper}{k d:Nat}(hk:k≤2)(hd:o.dst=some d)(hu:Up ops N ρ o)(v:Value)(hr:∀w',Cl w0 w k w'→(execOp (Bz N ρ) o).run P w'=.ok (.value v) w')
  (h:LW P ops w0 Q os ks (mk N (CP ρ d v)) w):LW P ops w0 Q (o::os) (k::ks) (mk N ρ) w:=by
 simp only[LW];rw[if_pos hu];unfold By;rw[if_pos hk];refine⟨v,fun w' hc=>.inl ?_,?_⟩;rw[Dm];exact hr w' hc;rw[hd,EA];exact h
theorem Gt {o:Oper}{d:Nat}(hd:o.dst=some d)(hu:Up ops N ρ o)
  (v:Value) (w1:World) (hr:(execOp (Bz N ρ) o).run P w=.ok (.value v) w1) (hE:AB w w1) (h:LW P ops w0 Q os ks (mk N (CP ρ d v)) w1):LW P ops w0 Q (o::os) (3::ks) (mk N ρ) w:=by
 simp only[LW];rw[if_pos hu];unfold By;rw[if_neg (by decide),if_pos rfl];unfold Oper.wp;rw[Dm,hr];show AB w w1∧LW P ops w0 Q os ks ((mk N ρ).put o.dst v) w1;rw[hd,EA];exact⟨hE,h⟩
theorem MO {o:Oper}{d:Nat}(hd:o.dst=some d)(hu:Up ops N ρ o)
  (v:Value) (w1:World) (hr:(execOp (Bz N ρ) o).run P w=.ok (.value v) w1) (h:LW P ops w0 Q os ks (mk N (CP ρ d v)) w1):LW P ops w0 Q (o::os) (4::ks) (mk N ρ) w:=by
 simp only[LW];rw[if_pos hu];unfold By;rw[if_neg (by decide),if_neg (by decide)];unfold Oper.wp;rw[Dm,hr];show LW P ops w0 Q os ks ((mk N ρ).put o.dst v) w1;rw[hd,EA];exact h
theorem VB {o:Oper}(hd:o.dst=none)(hu:Up ops N ρ o)
  (w1:World) (hr:(execOp (Bz N ρ) o).run P w=.ok .skip w1) (h:LW P ops w0 Q os ks (mk N ρ) w1):LW P ops w0 Q (o::os) (4::ks) (mk N ρ) w:=by
 simp only[LW];rw[if_pos hu];unfold By;rw[if_neg (by decide),if_neg (by decide)];unfold Oper.wp;rw[Dm,hr];show LW P ops w0 Q os ks ((mk N ρ).put o.dst undef) w1;rw[hd];exact h
theorem An {d:Nat} {x:Operand} {xs:Array Operand} {ats:Array TypeId} {ty:TypeId} {pos:String} {aft:Array Edge} {g:Option (Nat × Bool)} (f:FuncId) (first cap:List Value) (args:List Value)
  (hx:Bz N ρ x = .func (.func f) first.toArray cap.toArray) (hxs:first++(xs.toList.map (Bz N ρ))++cap = args) (hf:((P.funcs[f]?).map fun fn=>(fn.name != "runtime.NumGoroutine") && fn.body.isSome) = some true)
  (hu:Up ops N ρ ⟨some d,.call ⟨.value x,xs,ats⟩,ty,pos,aft,g⟩) {R:Ending→World→Prop} (hc:Calls P f args.toArray w R)
  (h:∀ e w1,R e w1→∃ v,e = .returned v∧AB w w1∧LW P ops w0 Q os ks (mk N (CP ρ d v)) w1) :
  LW P ops w0 Q (⟨some d,.call ⟨.value x,xs,ats⟩,ty,pos,aft,g⟩ :: os) (3 :: ks) (mk N ρ) w:=by
 simp only [LW];rw [if_pos hu];unfold By;rw [if_neg (by decide),if_pos rfl];unfold Oper.wp;rw [Dm];have hrun:(execOp (Bz N ρ) ⟨some d,.call ⟨.value x,xs,ats⟩,ty,pos,aft,g⟩).run P w = .ok (.enter f args.toArray) w:=by
  obtain ⟨fn,hfn,hb⟩:=Option.map_eq_some_iff.1 hf;simp only [z7,bne_iff_ne,ne_eq] at hb;have hargs:first.toArray++xs.map (Bz N ρ)++cap.toArray = args.toArray:=by
   rw [← hxs]; apply Array.ext'; simp
  obtain ⟨c,hbc⟩:=Option.isSome_iff_exists.1 hb.2;have hcf:(callFunc f args.toArray).run P w = .ok (.enter f args.toArray) w:=by
   simp [callFunc,hfn,hb.1,hbc]
  simp [execOp,resolve,hargs,hx,Deferred.ofValue,invoke,hcf]
 rw [hrun];refine Calls.mono hc (fun e w1 he=>?_);obtain ⟨v,rfl,hE,hL⟩:=h e w1 he;show AB w w1∧LW P ops w0 Q os ks ((mk N ρ).put (some d) v) w1;rw [EA];exact ⟨hE,hL⟩
theorem AP {d:Nat} {x:Operand} {xs:Array Operand} {ats:Array TypeId} {ty:TypeId} {pos:String} {aft:Array Edge} {g:Option (Nat × Bool)} (f:FuncId) (first cap:List Value) (args:List Value)
  (hx:Bz N ρ x = .func (.func f) first.toArray cap.toArray) (hxs:first++(xs.toList.map (Bz N ρ))++cap = args) (hf:((P.funcs[f]?).map fun fn=>(fn.name != "runtime.NumGoroutine") && fn.body.isSome) = some true)
  (hu:Up ops N ρ ⟨some d,.call ⟨.value x,xs,ats⟩,ty,pos,aft,g⟩) (v:Value) (hc:∀ w',Calls P f args.toArray w' (fun e w''=>e = .returned v∧w'' = w'))
  (h:LW P ops w0 Q os ks (mk N (CP ρ d v)) w) :
  LW P ops w0 Q (⟨some d,.call ⟨.value x,xs,ats⟩,ty,pos,aft,g⟩ :: os) (0 :: ks) (mk N ρ) w:=by
 simp only [LW];rw [if_pos hu];unfold By;rw [if_pos (by decide)];have hrun:∀ w,(execOp (Bz N ρ) ⟨some d,.call ⟨.value x,xs,ats⟩,ty,pos,aft,g⟩).run P w = .ok (.enter f args.toArray) w:=by
  intro w;obtain ⟨fn,hfn,hb⟩:=Option.map_eq_some_iff.1 hf;simp only [z7,bne_iff_ne,ne_eq] at hb;have hargs:first.toArray++xs.map (Bz N ρ)++cap.toArray = args.toArray:=by
   rw [← hxs]; apply Array.ext'; simp
  obtain ⟨c,hbc⟩:=Option.isSome_iff_exists.1 hb.2;have hcf:(callFunc f args.toArray).run P w = .ok (.enter f args.toArray) w:=by
   simp [callFunc,hfn,hb.1,hbc]
  simp [execOp,resolve,hargs,hx,Deferred.ofValue,invoke,hcf]
 refine ⟨v,fun w' _=>.inr (.inr ⟨f,args.toArray,?_,hc w'⟩),?_⟩;rw [Dm]; exact hrun w';show LW P ops w0 Q os ks ((mk N ρ).put (some d) v) w;rw [EA]; exact h
end ops
def it {σ:Type}(f:Nat→σ→σ):Nat→σ→σ
 |0,s=>s
 |k+1,s=>f k (it f k s)
def wr (x:Int):Int:=IntKind.i64.wrap x
theorem On (x:Int):-9223372036854775808≤wr x∧wr x≤9223372036854775807:=by unfold wr;rw[IntKind.wrap_i64];omega
end
section
theorem Du {x:Int}(h:-9223372036854775808≤x)(h':x≤9223372036854775807):IntKind.i64.wrap x=x:=IntWalk.i64_in x ⟨h,h'⟩
theorem Bs {x:Int}{n:Nat}(h:x=(n:Int))(h':x≤9223372036854775807):IntKind.i64.wrap x=(n:Int):=by rw[Du zO h',h]
def TI (P:Program)(e:TypeId)(s:Nat)(z:Value)(b:Nat):Prop:=(P.info? e).map (fun i=>(i.zero,i.size,i.bytes))=some (some z,s,b)
theorem TI.get {P:Program}{e:TypeId}{s:Nat}{z:Value}{b:Nat}(h:TI P e s z b):∃i,P.info? e=some i∧i.zero=some z∧i.size=s∧i.bytes=b:=by obtain⟨i,hi,hh⟩:=Option.map_eq_some_iff.1 h;simp only[Prod.mk.injEq]at hh;exact⟨i,hi,hh⟩
def CH (v:Value)(n:Nat):Prop:=∃a c,v=.slice a n c∧(a=none→n=0)
def AF (v:Value)(i s:Nat):Value :=
 match v with
 |.slice (some a) _ _=>.pointer (some (a.add (i*s)))
 |_=>undef
def CB (H:Array Obj)(g o:Nat):Option Value :=
 match H[g]? with
 |some (.cells c _ _)=>c[o]?
 |_=>none
theorem BT (w:World)(g o:Nat):w.cell? ⟨g,o,none⟩=CB w.heap g o:=by
 unfold World.cell? CB;cases w.heap[g]? with
 |none=>rfl
 |some o=>cases o <;> rfl
def JU (H:Array Obj)(p:Value):Option Value :=
 match p with
 |.pointer (some ⟨g,o,none⟩)=>CB H g o
 |_=>none
theorem AB.heap {w w':World}(h:AB w w'){k:Nat}(hk:k<w.heap.size):w'.heap[k]? = w.heap[k]?:=Below.block h k hk
theorem QS {H:Array Obj}{g o:Nat}{v:Value}(h:CB H g o=some v):g<H.size:=by unfold CB at h;rcases Nat.lt_or_ge g H.size with hh|hh;exact hh;simp[Array.getElem?_eq_none hh]at h
theorem Qw {w w':World}(h:AB w w'){g o:Nat}{v:Value}(hc:CB w.heap g o=some v):CB w'.heap g o=some v:=by have:=h.heap (QS hc);unfold CB at *;rw[this];exact hc
theorem Bq {w w':World}(h:AB w w'){p v:Value}(hc:JU w.heap p=some v):JU w'.heap p=some v:=by unfold JU at *;split at hc;exact Qw h hc;cases hc
def CR (P:Program)(t:TypeId):Prop:=((P.underlying t).map fun d=>match d with|.struct _=>false|.array _ _=>false|_=>true)=some true
theorem Mj {P:Program}{t:TypeId}(ht:CR P t){p v:Value}{w:World}(h:JU w.heap p=some v):(Instr.loadAt t p).run P w=.ok v w:=by
 unfold JU at h;split at h;rename_i g o;rw[← BT]at h;obtain⟨d,hd,hh⟩:=Option.map_eq_some_iff.1 ht;have hag:(isAgg t).run P w=.ok false w:=by
  unfold isAgg;simp only[Sem.run_bind,run_underlying hd,Result.andThen_ok];cases d <;> first|rfl|simp at hh
 simp[Instr.loadAt,Instr.sureAddr,loadVar,hag,h];cases h
section ops
variable {P:Program} {ops:Array Oper} {w0:World} {Q:Act→World→Prop} {os:List Oper} {ks:List Nat} {N:Nat} {ρ:Nat→Value} {w:World}
 {d:Nat} {ty:TypeId} {pos:String} {aft:Array Edge} {g:Option (Nat×Bool)}
theorem VC {x:Operand}(v:Value)(hx:Bz N ρ x=v)(hu:Up ops N ρ ⟨some d,.move x,ty,pos,aft,g⟩)(h:LW P ops w0 Q os ks (mk N (CP ρ d v)) w) :
  LW P ops w0 Q (⟨some d,.move x,ty,pos,aft,g⟩::os) (0::ks) (mk N ρ) w :=
 CY (by decide) rfl hu v (fun w' _=>by simp[execOp,hx]) h
theorem QT {x:Operand}(v:Value)(hx:Bz N ρ x=v)(hu:Up ops N ρ ⟨some d,.assign x,ty,pos,aft,g⟩)(h:LW P ops w0 Q os ks (mk N (CP ρ d v)) w) :
  LW P ops w0 Q (⟨some d,.assign x,ty,pos,aft,g⟩::os) (0::ks) (mk N ρ) w :=
 CY (by decide) rfl hu v (fun w' _=>by simp[execOp,hx]) h
section bin
variable {xt yt:TypeId} {x y:Operand} {k:IntKind} {a b:Int}
theorem EB {op:BinOp}{w:World}:(eqGuard op xt x y (.int k a) (.int k b)).run P w=.ok () w:=by unfold eqGuard;cases op <;> rfl
theorem AS (c:Int)(hx:Bz N ρ x=.int k a)(hy:Bz N ρ y=.int k b)(hc:k.wrap (a+b)=c)(hu:Up ops N ρ ⟨some d,.binOp .add xt x y yt,ty,pos,aft,g⟩)
  (h:LW P ops w0 Q os ks (mk N (CP ρ d (.int k c))) w):LW P ops w0 Q (⟨some d,.binOp .add xt x y yt,ty,pos,aft,g⟩::os) (0::ks) (mk N ρ) w :=
 CY (by decide) rfl hu _ (fun w' _=>by simp[execOp,hx,hy,EB,binOp,Op.intArith,hc]) h
theorem Dv (c:Int)(hx:Bz N ρ x=.int k a)(hy:Bz N ρ y=.int k b)(hc:k.wrap (a-b)=c)(hu:Up ops N ρ ⟨some d,.binOp .sub xt x y yt,ty,pos,aft,g⟩)
  (h:LW P ops w0 Q os ks (mk N (CP ρ d (.int k c))) w):LW P ops w0 Q (⟨some d,.binOp .sub xt x y yt,ty,pos,aft,g⟩::os) (0::ks) (mk N ρ) w :=
 CY (by decide) rfl hu _ (fun w' _=>by simp[execOp,hx,hy,EB,binOp,Op.intArith,hc]) h
theorem DL (c:Int)(hx:Bz N ρ x=.int k a)(hy:Bz N ρ y=.int k b)(hc:k.wrap (a*b)=c)(hu:Up ops N ρ ⟨some d,.binOp .mul xt x y yt,ty,pos,aft,g⟩)
  (h:LW P ops w0 Q os ks (mk N (CP ρ d (.int k c))) w):LW P ops w0 Q (⟨some d,.binOp .mul xt x y yt,ty,pos,aft,g⟩::os) (0::ks) (mk N ρ) w :=
 CY (by decide) rfl hu _ (fun w' _=>by simp[execOp,hx,hy,EB,binOp,Op.intArith,hc]) h
theorem E5 (c:Int)(hx:Bz N ρ x=.int k a)(hy:Bz N ρ y=.int k b)(hb:b≠0)(hc:a.tmod b=c)(hu:Up ops N ρ ⟨some d,.binOp .rem xt x y yt,ty,pos,aft,g⟩)
  (h:LW P ops w0 Q os ks (mk N (CP ρ d (.int k c))) w):LW P ops w0 Q (⟨some d,.binOp .rem xt x y yt,ty,pos,aft,g⟩::os) (0::ks) (mk N ρ) w :=
 CY (by decide) rfl hu _ (fun w' _=>by simp[execOp,hx,hy,EB,binOp,Op.intDiv,hb,hc]) h
theorem Nv (c:Int)(hx:Bz N ρ x=.int k a)(hy:Bz N ρ y=.int k b)(hb:b≠0)(hc:k.wrap (a.tdiv b)=c)(hu:Up ops N ρ ⟨some d,.binOp .quo xt x y yt,ty,pos,aft,g⟩)
  (h:LW P ops w0 Q os ks (mk N (CP ρ d (.int k c))) w):LW P ops w0 Q (⟨some d,.binOp .quo xt x y yt,ty,pos,aft,g⟩::os) (0::ks) (mk N ρ) w :=
 CY (by decide) rfl hu _ (fun w' _=>by simp[execOp,hx,hy,EB,binOp,Op.intDiv,hb,hc]) h
theorem AJ (c:Bool)(hx:Bz N ρ x=.int k a)(hy:Bz N ρ y=.int k b)(hc:decide (a<b)=c)(hu:Up ops N ρ ⟨some d,.binOp .lss xt x y yt,ty,pos,aft,g⟩)
  (h:LW P ops w0 Q os ks (mk N (CP ρ d (.bool c))) w):LW P ops w0 Q (⟨some d,.binOp .lss xt x y yt,ty,pos,aft,g⟩::os) (0::ks) (mk N ρ) w :=
 CY (by decide) rfl hu _ (fun w' _=>by simp[execOp,hx,hy,EB,binOp,Op.intCmp,← hc]) h
theorem EC (c:Bool)(hx:Bz N ρ x=.int k a)(hy:Bz N ρ y=.int k b)(hc:decide (a≤b)=c)(hu:Up ops N ρ ⟨some d,.binOp .leq xt x y yt,ty,pos,aft,g⟩)
  (h:LW P ops w0 Q os ks (mk N (CP ρ d (.bool c))) w):LW P ops w0 Q (⟨some d,.binOp .leq xt x y yt,ty,pos,aft,g⟩::os) (0::ks) (mk N ρ) w :=
 CY (by decide) rfl hu _ (fun w' _=>by simp[execOp,hx,hy,EB,binOp,Op.intCmp,← hc]) h
theorem Cv (c:Bool)(hx:Bz N ρ x=.int k a)(hy:Bz N ρ y=.int k b)(hc:decide (b<a)=c)(hu:Up ops N ρ ⟨some d,.binOp .gtr xt x y yt,ty,pos,aft,g⟩)
  (h:LW P ops w0 Q os ks (mk N (CP ρ d (.bool c))) w):LW P ops w0 Q (⟨some d,.binOp .gtr xt x y yt,ty,pos,aft,g⟩::os) (0::ks) (mk N ρ) w :=
 CY (by decide) rfl hu _ (fun w' _=>by simp[execOp,hx,hy,EB,binOp,Op.intCmp,← hc]) h
theorem Ht (c:Bool)(hx:Bz N ρ x=.int k a)(hy:Bz N ρ y=.int k b)(hc:decide (b≤a)=c)(hu:Up ops N ρ ⟨some d,.binOp .geq xt x y yt,ty,pos,aft,g⟩)
  (h:LW P ops w0 Q os ks (mk N (CP ρ d (.bool c))) w):LW P ops w0 Q (⟨some d,.binOp .geq xt x y yt,ty,pos,aft,g⟩::os) (0::ks) (mk N ρ) w :=
 CY (by decide) rfl hu _ (fun w' _=>by simp[execOp,hx,hy,EB,binOp,Op.intCmp,← hc]) h
theorem Au (c:Bool)(hx:Bz N ρ x=.int k a)(hy:Bz N ρ y=.int k b)(hc:decide (a=b)=c)(hu:Up ops N ρ ⟨some d,.binOp .eql xt x y yt,ty,pos,aft,g⟩)
  (h:LW P ops w0 Q os ks (mk N (CP ρ d (.bool c))) w):LW P ops w0 Q (⟨some d,.binOp .eql xt x y yt,ty,pos,aft,g⟩::os) (0::ks) (mk N ρ) w :=
 CY (by decide) rfl hu _ (fun w' _=>by
  have:(a == b)=c:=by rw[← hc];rfl
  simp[execOp,hx,hy,EB,binOp,Op.intCmp,this]) h
theorem Bp (c:Bool)(hx:Bz N ρ x=.int k a)(hy:Bz N ρ y=.int k b)(hc:decide (a≠b)=c)(hu:Up ops N ρ ⟨some d,.binOp .neq xt x y yt,ty,pos,aft,g⟩)
  (h:LW P ops w0 Q os ks (mk N (CP ρ d (.bool c))) w):LW P ops w0 Q (⟨some d,.binOp .neq xt x y yt,ty,pos,aft,g⟩::os) (0::ks) (mk N ρ) w :=
 CY (by decide) rfl hu _ (fun w' _=>by
  have:(a != b)=c:=by rw[← hc];simp[bne,BEq.beq]
  simp[execOp,hx,hy,EB,binOp,Op.intCmp,this]) h
end bin
theorem C4 {xt:TypeId}{x:Operand}{a:Bool}(c:Bool)(hx:Bz N ρ x=.bool a)(hc:(!a)=c)(hu:Up ops N ρ ⟨some d,.unOp .not xt x,ty,pos,aft,g⟩)
  (h:LW P ops w0 Q os ks (mk N (CP ρ d (.bool c))) w):LW P ops w0 Q (⟨some d,.unOp .not xt x,ty,pos,aft,g⟩::os) (0::ks) (mk N ρ) w :=
 CY (by decide) rfl hu _ (fun w' _=>by simp[execOp,hx,Op.unary,← hc]) h
theorem AZ {t e:TypeId}{x:Operand}{v:Value}{n:Nat}(ht:P.underlying t=some (.slice e))(hx:Bz N ρ x=v)(hs:CH v n)(hu:Up ops N ρ ⟨some d,.call ⟨.builtin .len,#[x],#[t]⟩,ty,pos,aft,g⟩)
  (h:LW P ops w0 Q os ks (mk N (CP ρ d (.int .i64 (n:Int)))) w):LW P ops w0 Q (⟨some d,.call ⟨.builtin .len,#[x],#[t]⟩,ty,pos,aft,g⟩::os) (0::ks) (mk N ρ) w :=
 CY (by decide) rfl hu _ (fun w' _=>by
  obtain⟨a,c,rfl,_⟩:=hs
  simp[execOp,resolve,invoke,builtin,hx,Builtin.len_,run_underlying ht,goInt]) h
theorem L6 {t:TypeId}{x:Operand}{s:ByteArray}(ht:P.underlying t=some .string)(hx:Bz N ρ x=.string s)(hu:Up ops N ρ ⟨some d,.call ⟨.builtin .len,#[x],#[t]⟩,ty,pos,aft,g⟩)
  (h:LW P ops w0 Q os ks (mk N (CP ρ d (.int .i64 (s.size:Int)))) w):LW P ops w0 Q (⟨some d,.call ⟨.builtin .len,#[x],#[t]⟩,ty,pos,aft,g⟩::os) (0::ks) (mk N ρ) w :=
 CY (by decide) rfl hu _ (fun w' _=>by
  simp[execOp,resolve,invoke,builtin,hx,Builtin.len_,run_underlying ht,goInt]) h
theorem AM {t e:TypeId}{x y:Operand}{v:Value}{n s:Nat}{k:IntKind}{i:Int}(j:Nat)(ht:P.underlying t=some (.slice e)){z:Value}{b:Nat}(hi:TI P e s z b)(hx:Bz N ρ x=v)(hy:Bz N ρ y=.int k i)
  (hs:CH v n) (hj:i=(j:Int)) (hlt:j<n) (hu:Up ops N ρ ⟨some d,.indexAddr t x y,ty,pos,aft,g⟩)
  (h:LW P ops w0 Q os ks (mk N (CP ρ d (AF v j s))) w):LW P ops w0 Q (⟨some d,.indexAddr t x y,ty,pos,aft,g⟩::os) (0::ks) (mk N ρ) w :=
 CY (by decide) rfl hu _ (fun w' _=>by
  obtain⟨a,c,rfl,ha⟩:=hs
  obtain⟨inf,h1,_,h3,_⟩:=hi.get
  subst hj
  cases a with
  |none=>have:=ha rfl;omega
  |some a =>
   have hlt':(j:Int)<(n:Int):=by omega
   simp[execOp,hx,hy,Instr.indexAt,asIntOf,run_underlying ht,sizeOf,typeInfo,h1,h3,AF,hlt]) h
theorem Aj {k:Nat}(hk:k=1∨k=2){t:TypeId}{x:Operand}{p:Value}(u:Value)(ht:CR P t)(hx:Bz N ρ x=p)(hc:JU (if k=1 then w0.heap else w.heap) p=some u)(hu:Up ops N ρ ⟨some d,.load t x,ty,pos,aft,g⟩)
  (h:LW P ops w0 Q os ks (mk N (CP ρ d u)) w):LW P ops w0 Q (⟨some d,.load t x,ty,pos,aft,g⟩::os) (k::ks) (mk N ρ) w :=
 CY zO rfl hu _ (fun w' hcl=>by
  have hl:JU w'.heap p=some u:=by
   rcases hk with rfl|rfl;exact Bq (w:=w0) hcl hc;exact Bq (w:=w) hcl hc
  simp[execOp,hx,Mj ht hl]) h
theorem B0 {x:Operand}{vs:List Value}{i:Nat}(v:Value)(hx:Bz N ρ x=.tuple vs.toArray)(hv:vs[i]? = some v)(hu:Up ops N ρ ⟨some d,.extract x i,ty,pos,aft,g⟩)
  (h:LW P ops w0 Q os ks (mk N (CP ρ d v)) w):LW P ops w0 Q (⟨some d,.extract x i,ty,pos,aft,g⟩::os) (0::ks) (mk N ρ) w :=
 CY (by decide) rfl hu _ (fun w' _=>by simp[execOp,hx,Instr.extract,hv]) h
theorem HT {st dt:TypeId}{x:Operand}{k k':IntKind}{a:Int}(c:Int){sd:TypeDesc}(hst:P.underlying st=some sd)(hdt:P.underlying dt=some (.int k'))(hx:Bz N ρ x=.int k a)(hc:k'.wrap a=c)(hu:Up ops N ρ ⟨some d,.convert st dt x,ty,pos,aft,g⟩)
  (h:LW P ops w0 Q os ks (mk N (CP ρ d (.int k' c))) w):LW P ops w0 Q (⟨some d,.convert st dt x,ty,pos,aft,g⟩::os) (0::ks) (mk N ρ) w :=
 CY (by decide) rfl hu _ (fun w' _=>by
  simp[execOp,hx,convert,run_underlying hst,run_underlying hdt,Conv.intToInt,hc]) h
theorem H7 {fn:Fn}{first cap:Array Operand}(fs cs:List Value)(h1:first.toList.map (Bz N ρ)=fs)(h2:cap.toList.map (Bz N ρ)=cs)(hu:Up ops N ρ ⟨some d,.makeFunc fn first cap,ty,pos,aft,g⟩)
  (h:LW P ops w0 Q os ks (mk N (CP ρ d (.func fn fs.toArray cs.toArray))) w):LW P ops w0 Q (⟨some d,.makeFunc fn first cap,ty,pos,aft,g⟩::os) (0::ks) (mk N ρ) w :=
 CY (by decide) rfl hu _ (fun w' _=>by
  have e1:first.map (Bz N ρ)=fs.toArray:=by rw[← h1];apply Array.ext';simp
  have e2:cap.map (Bz N ρ)=cs.toArray:=by rw[← h2];apply Array.ext';simp
  simp[execOp,Instr.makeFunc,e1,e2]) h
end ops
end
section
abbrev BI (α:Type):=Array Obj→Value→α→List Nat→Prop
structure CC {α:Type}(E:BI α):Prop where
 cells:∀ {H v x F},E H v x F→v.cells=#[v]
 one:∀ {H v x F},E H v x F→v.oneCell'=true
 lt:∀ {H v x F},E H v x F→∀b∈F,b<H.size
 stable:∀ {H H' v x F},E H v x F→(∀b∈F,H'[b]? = H[b]?)→E H' v x F
def els {α:Type}(E:BI α)(H:Array Obj):List Value→List α→List Nat→Prop
 |[],[],F=>F=[]
 |u::us,x::xs,F=>∃F1 F2,F=F1++F2∧E H u x F1∧els E H us xs F2
 |_,_,_=>False
section els
variable {α:Type} {E:BI α} {H H':Array Obj}
theorem els.length:∀ {us:List Value}{xs:List α}{F:List Nat},els E H us xs F→us.length=xs.length
 |[],[],_,_=>rfl
 |_::_,_::_,_,⟨_,_,_,_,h⟩=>by simp[els.length h]
 |[],_::_,_,h=>h.elim
 |_::_,[],_,h=>h.elim
theorem els.stable (hE:CC E):∀ {us:List Value}{xs:List α}{F:List Nat},els E H us xs F→(∀b∈F,H'[b]? = H[b]?)→els E H' us xs F
 |[],[],_,h,_=>h
 |_::_,_::_,_,⟨F1,F2,rfl,h1,h2⟩,hb =>
  ⟨F1,F2,rfl,hE.stable h1 fun b hh=>hb b (z8 _ hh),els.stable hE h2 fun b hh=>hb b (z1 _ hh)⟩
 |[],_::_,_,h,_=>h.elim
 |_::_,[],_,h,_=>h.elim
theorem els.lt (hE:CC E):∀ {us:List Value}{xs:List α}{F:List Nat},els E H us xs F→∀b∈F,b<H.size
 |[],[],_,h,b,hb=>by rw[show _=[]from h]at hb;cases hb
 |_::_,_::_,_,⟨F1,F2,rfl,h1,h2⟩,b,hb=>(zi.1 hb).elim (hE.lt h1 b) (els.lt hE h2 b)
 |[],_::_,_,h,_,_=>h.elim
 |_::_,[],_,h,_,_=>h.elim
theorem els.get:∀ {us:List Value}{xs:List α}{F:List Nat}{k:Nat}(d:α),els E H us xs F→k<xs.length →
  ∃u F1,us[k]? = some u∧E H u (xs.getD k d) F1∧∀b∈F1,b∈F
 |u::us,x::xs,_,0,d,⟨F1,F2,rfl,h1,h2⟩,_=>⟨u,F1,rfl,h1,fun b hb=>z8 _ hb⟩
 |u::us,x::xs,_,k+1,d,⟨F1,F2,rfl,h1,h2⟩,hk=>by
  obtain⟨u',G,hu,hx,hb⟩:=els.get d h2 (by simpa using hk)
  exact⟨u',G,by simpa using hu,by simpa using hx,fun b hh=>z1 _ (hb b hh)⟩
 |[],[],_,_,_,_,hk=>by simp at hk
 |[],_::_,_,_,_,h,_=>h.elim
theorem els.append:∀ {us vs:List Value}{xs ys:List α}{F G:List Nat},els E H us xs F→els E H vs ys G→els E H (us++vs) (xs++ys) (F++G)
 |[],_,[],_,_,_,h,k=>by rw[show _=[]from h];exact k
 |_::_,_,_::_,_,_,_,⟨F1,F2,rfl,h1,h2⟩,k=>⟨F1,_,by rw[List.append_assoc],h1,els.append h2 k⟩
 |[],_,_::_,_,_,_,h,_=>h.elim
 |_::_,_,[],_,_,_,h,_=>h.elim
theorem els.imp {E':BI α}(h:∀ {H v x F},E H v x F→E' H v x F):∀ {us:List Value}{xs:List α}{F:List Nat},els E H us xs F→els E' H us xs F
 |[],[],_,hh=>hh
 |_::_,_::_,_,⟨F1,F2,e,h1,h2⟩=>⟨F1,F2,e,h h1,els.imp h h2⟩
 |[],_::_,_,hh=>hh.elim
 |_::_,[],_,hh=>hh.elim
theorem els.one (hE:CC E):∀ {us:List Value}{xs:List α}{F:List Nat},els E H us xs F→∀u∈us,u.oneCell'=true
 |[],[],_,_,u,hu=>by cases hu
 |_::_,_::_,_,⟨F1,F2,rfl,h1,h2⟩,v,hv=>(ze.1 hv).elim (fun e=>e ▸ hE.one h1) (els.one hE h2 v)
 |[],_::_,_,h,_,_=>h.elim
 |_::_,[],_,h,_,_=>h.elim
end els
def rI:BI Int:=fun _ v x F=>v=.int .i64 x∧F=[]∧-9223372036854775808≤x∧x≤9223372036854775807
def rU:BI UInt8:=fun _ v x F=>v=.int .u8 (x.toNat:Int)∧F=[]
theorem B1:CC rI:=⟨fun h=>by rw[h.1];rfl,fun h=>by rw[h.1];rfl,fun h b hb=>(by rw[h.2.1]at hb;cases hb),fun h _=>h⟩
theorem Tx:CC rU:=⟨fun h=>by rw[h.1];rfl,fun h=>by rw[h.1];rfl,fun h b hb=>(by rw[h.2]at hb;cases hb),fun h _=>h⟩
def B8 {α:Type}(E:BI α):BI (List α):=fun H v xs F =>
 (∃a cap,v=.slice a 0 cap∧xs=[]∧F=[]) ∨
 ∃us g off cap cur e fr F',els E H us xs F'∧v=.slice (some ⟨g,off,none⟩) xs.length cap∧H[g]? = some (.cells cur e fr)∧(cur.toList.drop off).take xs.length=us∧xs.length≤maxLen∧F=g::F'
def BG {α:Type}(E:BI α)(e:TypeId):BI (List α):=fun H v xs F =>
 (v=.slice none 0 0∧xs=[]∧F=[]) ∨
 ∃us g cap cur F',els E H us xs F'∧v=.slice (some ⟨g,0,none⟩) xs.length cap∧H[g]? = some (.cells cur e (0,0))∧xs.length≤cap∧cap≤maxLen∧cur.size=cap∧cur.toList.take xs.length=us∧F=g::F'
theorem getElem?_lt {H:Array Obj}{g:Nat}{o:Obj}(h:H[g]? = some o):g<H.size:=(Array.getElem?_eq_some_iff.1 h).1
section lists
variable {α:Type} {E:BI α} {e:TypeId} {H:Array Obj} {v:Value} {xs:List α} {F:List Nat}
theorem HU (hE:CC E):CC (B8 E) where
 cells:=by
  rintro H v xs F (⟨a,cap,rfl,_⟩|⟨us,g,off,cap,cur,e,fr,F',_,rfl,_⟩) <;> rfl
 one:=by
  rintro H v xs F (⟨a,cap,rfl,_⟩|⟨us,g,off,cap,cur,e,fr,F',_,rfl,_⟩) <;> rfl
 lt:=by
  rintro H v xs F (⟨a,cap,rfl,_,rfl⟩|⟨us,g,off,cap,cur,e,fr,F',h,rfl,hg,_,_,rfl⟩) b hb;cases hb;rcases ze.1 hb with rfl|hb;exact getElem?_lt hg;exact h.lt hE b hb
 stable:=by
  rintro H H' v xs F (⟨a,cap,rfl,h1,h2⟩|⟨us,g,off,cap,cur,e,fr,F',h,rfl,hg,hw,hml,rfl⟩) hb;exact .inl ⟨a,cap,rfl,h1,h2⟩;exact .inr ⟨us,g,off,cap,cur,e,fr,F',h.stable hE fun b hh=>hb b<|z3 _ hh,rfl,by rw[hb g (z0 ..)];exact hg,hw,hml,rfl⟩
theorem DM (hE:CC E):CC (BG E e) where
 cells:=by
  rintro H v xs F (⟨rfl,_⟩|⟨us,g,cap,cur,F',_,rfl,_⟩) <;> rfl
 one:=by
  rintro H v xs F (⟨rfl,_⟩|⟨us,g,cap,cur,F',_,rfl,_⟩) <;> rfl
 lt:=by
  rintro H v xs F (⟨rfl,_,rfl⟩|⟨us,g,cap,cur,F',h,rfl,hg,_,_,_,_,rfl⟩) b hb;cases hb;rcases ze.1 hb with rfl|hb;exact getElem?_lt hg;exact h.lt hE b hb
 stable:=by
  rintro H H' v xs F (⟨rfl,h1,h2⟩|⟨us,g,cap,cur,F',h,rfl,hg,r1,r2,r3,r4,rfl⟩) hb;exact .inl ⟨rfl,h1,h2⟩;exact .inr ⟨us,g,cap,cur,F',h.stable hE fun b hh=>hb b<|z3 _ hh,rfl,by rw[hb g (z0 ..)];exact hg,r1,r2,r3,r4,rfl⟩
theorem BG.rd {E':BI α}(hi:∀ {H v x F},E H v x F→E' H v x F)(h:BG E e H v xs F):B8 E' H v xs F:=by rcases h with⟨rfl,rfl,rfl⟩|⟨us,g,cap,cur,F',h,rfl,hg,r1,r2,r3,r4,rfl⟩;exact .inl ⟨none,0,rfl,rfl,rfl⟩;exact .inr ⟨us,g,0,cap,cur,e,(0,0),F',h.imp hi,rfl,hg,by simpa using r4,zO,rfl⟩
theorem B8.isSl (h:B8 E H v xs F):CH v xs.length:=by rcases h with⟨a,cap,rfl,rfl,_⟩|⟨us,g,off,cap,cur,e,fr,F',_,rfl,_⟩;exact⟨a,cap,rfl,fun _=>rfl⟩;exact⟨_,cap,rfl,fun h=>by cases h⟩
theorem MP (g off n cap k:Nat):AF (.slice (some ⟨g,off,none⟩) n cap) k 1=.pointer (some ⟨g,off+k,none⟩):=by unfold AF Addr.add;simp only[Nat.mul_one];split;rename_i h;subst h;rfl;rfl
theorem B8.get (d:α){k:Nat}(h:B8 E H v xs F)(hk:k<xs.length):∃u F1,JU H (AF v k 1)=some u∧E H u (xs.getD k d) F1∧∀b∈F1,b∈F:=by rcases h with⟨a,cap,rfl,rfl,_⟩|⟨us,g,off,cap,cur,e,fr,F',h,rfl,hg,hw,_,rfl⟩;simp at hk;obtain⟨u,F1,hu,hx,hb⟩:=h.get d hk;refine⟨u,F1,?_,hx,fun b hh=>z3 _ (hb b hh)⟩;rw[MP];simp only[JU,CB,hg];rw[← hw,List.getElem?_take,if_pos hk,List.getElem?_drop]at hu;simpa using hu
theorem B8.lenle (h:B8 E H v xs F):xs.length≤maxLen:=by rcases h with⟨a,cap,_,rfl,_⟩|⟨us,g,off,cap,cur,e,fr,F',_,_,_,_,h,_⟩;simp;exact h
end lists
structure AG (F:List Nat)(w w':World):Prop where
 os:w'.os=w.os
 tape:w'.tape=w.tape
 output:w'.output=w.output
 size:w.heap.size≤w'.heap.size
 block:∀k,k<w.heap.size→k∉F→w'.heap[k]? = w.heap[k]?
theorem AG.below {F:List Nat}{w0 w w':World}{B:Nat}(h:Below B w0 w)(c:AG F w w')(hF:∀b∈F,B≤b)(hB:B≤w.heap.size):Below B w0 w' :=
 h.trans ⟨c.os,c.tape,c.output,c.size,fun k hk=>c.block k zO fun hm=>by have:=hF k hm;omega⟩
theorem AB.drew {w w':World}(h:AB w w'):AB w w'.drew:=⟨h.os,h.tape,h.output,h.size,h.block⟩
theorem AB.of_drew {w w':World}(h:AB w.drew w'):AB w w':=⟨h.os,h.tape,h.output,h.size,h.block⟩
def Fr {α:Type}(E:BI α)(B U:Nat)(H:Array Obj)(v:Value)(x:α):Prop:=∃F,E H v x F∧F.Nodup∧∀b∈F,B≤b∧b<U
def Rd {α:Type}(E:BI α)(H:Array Obj)(v:Value)(x:α):Prop:=∃F,E H v x F
section
variable {α:Type} {E:BI α} {B U:Nat} {v:Value} {x:α} {w w':World}
theorem Fr.ext (hE:CC E)(h:Fr E B U w.heap v x)(k:AB w w'):Fr E B U w'.heap v x:=by obtain⟨F,h1,h2,h3⟩:=h;exact⟨F,hE.stable h1 fun b hb=>k.heap (hE.lt h1 b hb),h2,h3⟩
theorem Fr.up (hE:CC E){H:Array Obj}(h:Fr E B U H v x):Fr E B H.size H v x:=by obtain⟨F,h1,h2,h3⟩:=h;exact⟨F,h1,h2,fun b hb=>⟨(h3 b hb).1,hE.lt h1 b hb⟩⟩
theorem Fr.low {H:Array Obj}{B':Nat}(h:Fr E B U H v x)(hB:B'≤B):Fr E B' U H v x:=by obtain⟨F,h1,h2,h3⟩:=h;exact⟨F,h1,h2,fun b hb=>⟨A8 hB (h3 b hb).1,(h3 b hb).2⟩⟩
theorem Fr.chg (hE:CC E){F:List Nat}(h:Fr E B U w.heap v x)(c:AG F w w')(hF:∀b∈F,b<B∨U≤b):Fr E B U w'.heap v x:=by obtain⟨G,h1,h2,h3⟩:=h;refine⟨G,hE.stable h1 fun b hb=>c.block b (hE.lt h1 b hb) fun hm=>?_,h2,h3⟩;have:=h3 b hb;have:=hF b hm;omega
theorem Rd.ext (hE:CC E)(h:Rd E w.heap v x)(k:AB w w'):Rd E w'.heap v x:=by obtain⟨F,h1⟩:=h;exact⟨F,hE.stable h1 fun b hb=>k.heap (hE.lt h1 b hb)⟩
end
section
variable {α:Type} {E:BI α} {e:TypeId} {B U:Nat} {H:Array Obj} {v:Value} {xs:List α}
theorem Rd.lenle (h:Rd (B8 E) H v xs):xs.length≤9223372036854775807:=by obtain⟨F,h⟩:=h;have:=B8.lenle h;simp only[maxLen]at this;omega
theorem Rd.isSl (h:Rd (B8 E) H v xs):CH v xs.length:=by obtain⟨F,h⟩:=h;exact B8.isSl h
theorem Rd.get (d:α){k:Nat}(h:Rd (B8 E) H v xs)(hk:k<xs.length):∃u,JU H (AF v k 1)=some u∧Rd E H u (xs.getD k d):=by obtain⟨F,h⟩:=h;obtain⟨u,F1,h1,h2,_⟩:=B8.get d h hk;exact⟨u,h1,F1,h2⟩
theorem Rd.getI {xs:List Int}{k:Nat}(h:Rd (B8 rI) H v xs)(hk:k<xs.length):JU H (AF v k 1)=some (.int .i64 (xs.getD k 0))∧-9223372036854775808≤xs.getD k 0∧xs.getD k 0≤9223372036854775807:=by obtain⟨u,h1,F,h2,_,h3,h4⟩:=Rd.get (0:Int) h hk;rw[h1,h2];exact⟨rfl,h3,h4⟩
theorem Fr.rd {E':BI α}(hi:∀ {H v x F},E H v x F→E' H v x F)(h:Fr (BG E e) B U H v xs):Rd (B8 E') H v xs:=by obtain⟨F,h,_⟩:=h;exact⟨F,h.rd hi⟩
theorem Fr.rd1 {xs:List Int}(h:Fr (BG rI e) B U H v xs):Rd (B8 rI) H v xs:=h.rd id
theorem Fr.rd2 {e':TypeId}{xs:List (List Int)}(h:Fr (BG (BG rI e) e') B U H v xs):Rd (B8 (B8 rI)) H v xs:=h.rd fun h=>h.rd id
theorem Fr.isSl (h:Fr (BG E e) B U H v xs):CH v xs.length:=by obtain⟨F,h,_⟩:=h;exact(h.rd id:B8 E H v xs F).isSl
end
theorem Jm {α:Type}{E:BI α}{e:TypeId}(B U:Nat)(H:Array Obj):Fr (BG E e) B U H (.slice none 0 0) []:=⟨[],.inl ⟨rfl,rfl,rfl⟩,zk,fun c hc=>(by cases hc)⟩
theorem Rd.getU {H:Array Obj}{v:Value}{xs:List UInt8}{k:Nat}(h:Rd (B8 rU) H v xs)(hk:k<xs.length):JU H (AF v k 1)=some (.int .u8 ((xs.getD k 0).toNat:Int))∧0≤k:=by obtain⟨u,h1,F,h2,_⟩:=Rd.get (0:UInt8) h hk;rw[h1,h2];exact⟨rfl,Nat.zero_le _⟩
theorem Bf {a b:Int}(h:a=b):Ending.returned (.int .i64 a)=.returned (.int .i64 b):=by rw[h]
theorem AX {a b:Bool}(h:a=b):Ending.returned (.bool a)=.returned (.bool b):=by rw[h]
theorem DN:CC (B8 rU):=HU Tx
theorem g1:CC (B8 rI):=HU B1
theorem g2:CC (B8 (B8 rI)):=HU g1
theorem g3:CC (B8 (B8 (B8 rI))):=HU g2
theorem o1 {e:TypeId}:CC (BG rI e):=DM B1
theorem o2 {e e':TypeId}:CC (BG (BG rI e) e'):=DM o1
theorem o3 {e e' e'':TypeId}:CC (BG (BG (BG rI e) e') e''):=DM o2
end
section
theorem BA (w:World)(o:Obj):AB w (w.alloc o):=(Below.refl _ _).alloc (A7 _) o
theorem H8 {α:Type}{E:BI α}(hE:CC E){e:TypeId}{w:World}{us:List Value}{xs:List α}{F:List Nat}{cur:Array Value}(h:els E w.heap us xs F)(hm:cur.size≤maxLen)
  (hc:cur.toList.take xs.length=us) (hl:xs.length≤cur.size) :
  BG E e (w.alloc (.cells cur e)).heap (.slice (some ⟨w.heap.size,0,none⟩) xs.length cur.size) xs (w.heap.size::F):=by
 refine .inr ⟨us,w.heap.size,cur.size,cur,F,h.stable hE fun b hb=>?_,rfl,?_,hl,hm,rfl,hc,rfl⟩;exact Below.heap_alloc _ _ _<|h.lt hE b hb;show(w.heap.push _)[w.heap.size]? = _;simp
theorem GP {f:Nat→Value}(n:Nat):Array.map f (Array.range n)=((List.range n).map f).toArray:=by apply Array.ext';simp
section run
variable {P:Program} {w:World}
theorem Ty {t e:TypeId}{s b:Nat}{z:Value}(ht:P.underlying t=some (.slice e))(hi:TI P e s z b) :
  (Instr.buildSlice t 0 #[]).run P w=.ok (.slice (some ⟨w.heap.size,0,none⟩) 0 0) (w.alloc (.cells #[] e)):=by
 obtain⟨i,h1,h2,h3,h4⟩:=hi.get;simp[Instr.buildSlice,run_underlying ht,sizeOf,typeInfo,h1,Instr.fill,newRow,GP]
theorem P9 {t e:TypeId}{b:Nat}{z u:Value}(ht:P.underlying t=some (.slice e))(hi:TI P e 1 z b)(hu:u.cells=#[u])(hz:z.cells=#[z]) :
  (Instr.buildSlice t 1 #[(0,u)]).run P w=.ok (.slice (some ⟨w.heap.size,0,none⟩) 1 1) (w.alloc (.cells #[u] e)):=by
 obtain⟨i,h1,h2,h3,h4⟩:=hi.get;simp[Instr.buildSlice,run_underlying ht,sizeOf,typeInfo,zeroValue,h1,h2,h3,Instr.fill,newRow,hu,hz,GP,List.range_succ]
theorem Tz {t e:TypeId}{b:Nat}{z u v:Value}(ht:P.underlying t=some (.slice e))(hi:TI P e 1 z b)(hu:u.cells=#[u])(hv:v.cells=#[v])(hz:z.cells=#[z]) :
  (Instr.buildSlice t 2 #[(0,u),(1,v)]).run P w=.ok (.slice (some ⟨w.heap.size,0,none⟩) 2 2) (w.alloc (.cells #[u,v] e)):=by
 obtain⟨i,h1,h2,h3,h4⟩:=hi.get;simp[Instr.buildSlice,run_underlying ht,sizeOf,typeInfo,zeroValue,h1,h2,h3,Instr.fill,newRow,hu,hv,hz,GP,List.range_succ]
end run
section append
variable {P:Program} {w:World} {α:Type} {E:BI α} {t ty e:TypeId} {b:Nat} {z:Value}
theorem KH (hE:CC E) (ht:P.underlying t = some (.slice e)) (hi:TI P e 1 z b) (hz:z.cells = #[z]) {v:Value} {xs:List α} {F:List Nat} (hv:BG E e w.heap v xs F) (hn:F.Nodup)
  {a:Value} {ys:List α} {G us:List Nat} (ha:B8 E w.heap a ys G) (hus:us = G.drop 1) (hbytes:(xs.length + ys.length) * b≤140737488355328) (hmx:xs.length + ys.length≤maxLen)
  (hdis:∀ c∈us,c∉F) (hnu:us.Nodup) :
  ∃ v' w' F',(Builtin.append_ #[t,t] ty #[v,a]).run P w = .ok v' w'∧BG E e w'.heap v' (xs++ys) F'∧F'.Nodup∧(∀ c∈F',c∈F∨c∈us∨c = w.heap.size)∧AG (F.take 1) w w':=by
 obtain ⟨i,h1,h2,h3,h4⟩:=hi.get;subst h4;have hsmall:xs.length + ys.length≤9223372036854775807:=by simp only [maxLen] at hmx; omega
 rcases ha with ⟨a0,cap0,rfl,rfl,rfl⟩ | ⟨asq,g,off,cap,cur,e',fr,G',hels,rfl,hg,hw,_,rfl⟩;-- nothing is appended
 have hle:BG E e w.heap v xs F:=hv;have hsl:∃ b0 c0,v = .slice b0 xs.length c0∧xs.length≤c0∧(b0 = none→xs.length = 0):=by
  rcases hv with ⟨rfl,rfl,_⟩ | ⟨_,g,cap,cur,F',_,rfl,_,hh,_⟩;exact ⟨none,0,rfl,by simp,fun _=>rfl⟩;exact ⟨_,cap,rfl,hh,fun h=>by cases h⟩
 obtain ⟨b0,c0,rfl,hc0,hb0⟩:=hsl;refine ⟨_,w,F,?_,by simpa using hle,hn,fun c hc=>.inl hc,⟨rfl,rfl,rfl,A7 _,fun _ _ _=>rfl⟩⟩;have hf:(Builtin.firstCells 1 0 (.slice a0 0 cap0)).run P w = .ok #[] w:=by
  cases a0 <;> simp [Builtin.firstCells,loadCells,loadCellsFrom]
 cases b0 with
 | none=>simp [Builtin.append_,run_underlying ht,sizeOf,typeInfo,h1,h3,Builtin.lenOf,hc0,hf]
 | some a1=>simp [Builtin.append_,run_underlying ht,sizeOf,typeInfo,h1,h3,Builtin.lenOf,hc0,hf,storeCells]
 simp only [List.drop_succ_cons,List.drop_zero] at hus;subst hus;have hasl:asq.length = ys.length:=hels.length;have hnews:∀ j u,asq[j]? = some u→w.cell? ((⟨g,off,none⟩:Addr).add j) = some u:=by
  intro j u hj;have e1:(⟨g,off,none⟩:Addr).add j = ⟨g,off + j,none⟩:=by
   unfold Addr.add;split;rename_i hh; subst hh; rfl;rfl
  rw [e1,BT];simp only [CB,hg];rw [← hw,List.getElem?_take] at hj;split at hj;rw [List.getElem?_drop] at hj; simpa using hj;cases hj
 have h1c:∀ u∈asq,u.oneCell' = true:=hels.one hE;have hl1:asq.length = ys.length * i.size:=by rw [h3,hasl]; omega
 -- the new block
 have made:∀ (w1:World) (ous:List Value) (F0:List Nat) (rest:Nat),w1.heap = w.heap→w1.os = w.os→w1.tape = w.tape→w1.output = w.output→els E w.heap ous xs F0→(∀ c∈F0,c∈F)→F0.Nodup →
   (xs.length + ys.length + rest)≤maxLen→∀ (ow:List Nat),
   ∃ F',BG E e (w1.alloc (.cells (ous.toArray++asq.toArray++Builtin.zeroCells z.cells rest) e)).heap (.slice (some ⟨w.heap.size,0,none⟩) (xs.length + ys.length) (xs.length + ys.length + rest)) (xs++ys) F'∧F'.Nodup ∧
    (∀ c∈F',c∈F∨c∈us∨c = w.heap.size)∧AG ow w (w1.alloc (.cells (ous.toArray++asq.toArray++Builtin.zeroCells z.cells rest) e)):=by
  intro w1 ous F0 rest hh ho htp hop hou hsub hnd hmax ow;have happ:=hou.append hels;have hzc:(Builtin.zeroCells z.cells rest).size = rest:=by simp [Builtin.zeroCells,hz]
  have hsz:(ous.toArray++asq.toArray++Builtin.zeroCells z.cells rest).size = xs.length + ys.length + rest:=by
   simp only [Array.size_append,List.size_toArray,hzc,hasl,hou.length]
  have hnew:=H8 (e:=e) (w:=w1) hE (us:=ous++asq) (xs:=xs++ys) (F:=F0++us) (cur:=ous.toArray++asq.toArray++Builtin.zeroCells z.cells rest)
   (by rw [hh]; exact happ) (by rw [hsz]; exact hmax) (by
    rw [Array.toList_append,Array.toList_append];rw [show (xs++ys).length = (ous++asq).length from by simp [hou.length,hasl]];exact List.take_left) (by rw [hsz,z4]; omega)
  rw [hh,hsz,z4] at hnew;refine ⟨_,hnew,?_,?_,?_⟩;rw [List.nodup_cons];refine ⟨fun hm=>?_,?_⟩;have:=happ.lt hE _ hm; omega;rw [List.nodup_append];refine ⟨hnd,hnu,?_⟩;rintro x hx y hy rfl;exact hdis x hy<|hsub x hx
  intro c hc;rcases ze.1 hc with rfl | hc;exact .inr<|.inr rfl;rcases zi.1 hc with hc | hc;exact .inl<|hsub c hc;exact .inr<|.inl hc;refine ⟨ho,htp,hop,?_,fun k hk _=>?_⟩;show w.heap.size≤(w1.heap.push _).size;rw [hh]; simp;have:=Below.heap_alloc w1 (.cells (ous.toArray++asq.toArray++Builtin.zeroCells z.cells rest) e) k (by rw [hh]; exact hk);rw [this,hh]
 rcases hv with ⟨rfl,rfl,rfl⟩ | ⟨ous,gv,capv,curv,F0,hels0,rfl,hgv,hle,hcm,hcs,htk,rfl⟩;-- nil
 by_cases hy:ys.length = 0;have hy0:ys = []:=List.eq_nil_of_length_eq_zero hy;subst hy0;have has0:asq = []:=List.eq_nil_of_length_eq_zero hasl;subst has0;rw [show us = [] from hels];refine ⟨.slice none 0 0,w,[],?_,.inl ⟨rfl,rfl,rfl⟩,zk,fun c hc=>(by cases hc),⟨rfl,rfl,rfl,A7 _,fun _ _ _=>rfl⟩⟩;simp [Builtin.append_,run_underlying ht,sizeOf,typeInfo,h1,Builtin.lenOf,Builtin.firstCells,loadCells,loadCellsFrom];have hr:=run_append_nil (P:=P) w t ty e i z ht h1 h2 ⟨g,off,none⟩ ys.length cap asq hl1 hnews zO (by simp at hsmall; omega) (by simp only [zb,Nat.zero_add] at hbytes; omega);have hge:=grownCap_ge w ys.length 0 e;have hgm:=grownCap_le_maxLen w ys.length 0 e (by simpa using hmx);obtain ⟨F',q1,q2,q3,q4⟩:=made w.drew [] [] (grownCap w ys.length 0 e - ys.length) rfl rfl rfl rfl rfl (fun c hc=>by cases hc) zk (by simp; omega) (List.take 1 []);refine ⟨_,_,F',hr,?_,q2,q3,?_⟩;have ea:(([]:List α).length + ys.length + (grownCap w ys.length 0 e - ys.length)) = grownCap w ys.length 0 e:=by simp; omega
 rw [ea] at q1;simpa using q1;simpa using q4;by_cases hroom:xs.length + ys.length≤capv;-- room
 have hr:=run_append_room (P:=P) w t ty e i ht h1 gv xs.length capv curv hgv ⟨g,off,none⟩ ys.length cap asq hl1 hnews h1c hroom (by rw [h3,hasl,hcs]; omega);rw [h3] at hr;refine ⟨_,_,gv :: (F0++us),hr,?_,?_,?_,?_⟩;have hgF:gv∉F0:=(List.nodup_cons.1 hn).1;have hgU:gv∉us:=fun hm=>hdis gv hm (z0 ..);refine .inr ⟨ous++asq,gv,capv,_,F0++us,?_,by rw [z4],setRow_heap w gv curv _ e _ hgv,by rw [z4]; exact hroom,hcm,?_,?_,rfl⟩;refine (hels0.append hels).stable hE fun c hc=>setRow_other w gv c _ fun hcg=>?_;subst hcg;rcases zi.1 hc with hc | hc;exact hgF hc;exact hgU hc;simp only [List.size_toArray,z4,List.length_take,List.length_drop,Array.length_toList];omega;rw [z4];simp only [Nat.mul_one];rw [htk,show xs.length + ys.length = (ous++asq).length from by simp [hels0.length,hasl]];exact List.take_left;rw [List.nodup_cons,List.nodup_append];have hn':=List.nodup_cons.1 hn;refine ⟨?_,hn'.2,hnu,?_⟩
 intro hm;rcases zi.1 hm with hm | hm;exact hn'.1 hm;exact hdis gv hm (z0 ..);rintro x hx y hy rfl;exact hdis x hy<|z3 _ hx
 intro c hc;rcases ze.1 hc with rfl | hc;exact .inl (z0 ..);rcases zi.1 hc with hc | hc;exact .inl<|z3 _ hc;exact .inr<|.inl hc;refine ⟨rfl,rfl,rfl,by simp,fun k _ hk=>setRow_other w gv k _ fun hh=>hk (by simp [hh])⟩;-- grown
 have holds:∀ j u,ous[j]? = some u→w.cell? ((⟨gv,0,none⟩:Addr).add j) = some u:=by
  intro j u hj;have e1:(⟨gv,0,none⟩:Addr).add j = ⟨gv,j,none⟩:=by
   unfold Addr.add;split;rename_i hh; subst hh; rfl;simp
  rw [e1,BT];simp only [CB,hgv];rw [← htk,List.getElem?_take] at hj;split at hj;simpa using hj;cases hj
 have hr:=run_append_grow (P:=P) w t ty e i z ht h1 h2 ⟨gv,0,none⟩ xs.length capv ous (by rw [h3,hels0.length]; omega) holds ⟨g,off,none⟩ ys.length cap asq hl1 hnews zO zO<|growslice_fits zO hbytes;have hge:=grownCap_ge w (xs.length + ys.length) capv e;have hgm:=grownCap_le_maxLen w (xs.length + ys.length) capv e hmx;obtain ⟨F',q1,q2,q3,q4⟩:=made w.drew ous F0 (grownCap w (xs.length + ys.length) capv e - (xs.length + ys.length)) rfl rfl rfl rfl hels0 (fun c hc=>z3 _ hc) (List.nodup_cons.1 hn).2 zO (List.take 1 (gv :: F0));refine ⟨_,_,F',hr,?_,q2,q3,q4⟩;have ea:(xs.length + ys.length + (grownCap w (xs.length + ys.length) capv e - (xs.length + ys.length))) = grownCap w (xs.length + ys.length) capv e:=by omega
 rw [ea] at q1;exact q1
theorem QU (ht:P.underlying t=some (.slice e))(hi:TI P e 1 z b)(hz:z.cells=#[z]){v:Value}{xs:List Int}{B U:Nat}(hv:Fr (BG rI e) B U w.heap v xs)(hB:B≤w.heap.size)
  {a:Value} {ys:List Int} (ha:Rd (B8 rI) w.heap a ys) (hbytes:(xs.length+ys.length)*b≤140737488355328) (hmx:xs.length+ys.length≤maxLen) :
  ∃v' w' F,(Builtin.append_ #[t,t] ty #[v,a]).run P w=.ok v' w'∧Fr (BG rI e) B w'.heap.size w'.heap v' (xs++ys)∧AG F w w'∧∀c∈F,B≤c∧c<U:=by
 obtain⟨F,h1,h2,h3⟩:=hv;obtain⟨G,hG⟩:=ha;have hGe:G.drop 1=[]:=by
  rcases hG with⟨_,_,_,_,rfl⟩|⟨us,g,off,cap,cur,e',fr,F',hels,_,_,_,_,rfl⟩;rfl;show F'=[];have:∀ {us:List Value} {xs:List Int} {F:List Nat},els rI w.heap us xs F→F=[]:=by
   intro us xs
   induction us generalizing xs with
   |nil=>intro F h;cases xs with
    |nil=>exact h
    |cons=>exact h.elim
   |cons u us ih =>
    intro F h;cases xs with
    |nil=>exact h.elim
    |cons x xs =>
     obtain⟨F1,F2,rfl,q1,q2⟩:=h;rw[q1.2.1,ih q2];rfl
  exact this hels
 obtain⟨v',w',F',r1,r2,r3,r4,r5⟩:=KH (P:=P) (ty:=ty) B1 ht hi hz h1 h2 hG rfl hbytes hmx (by rw[hGe];intro c hc;cases hc) (by rw[hGe];exact zk);refine⟨v',w',F.take 1,r1,⟨F',r2,r3,fun c hc=>?_⟩,r5,fun c hc=>h3 c (zj hc)⟩;have hlt:=o1.lt r2 c hc;refine⟨?_,hlt⟩;rcases r4 c hc with hh|hh|hh;exact (h3 c hh).1;rw[hGe]at hh;cases hh;omega
theorem QV (hE:CC E)(ht:P.underlying t=some (.slice e))(hi:TI P e 1 z b)(hz:z.cells=#[z]){v:Value}{xs:List α}{B U:Nat}(hv:Fr (BG E e) B U w.heap v xs)(hB:B≤w.heap.size)
  {a:Value} {ys:List α} {B' U':Nat} (ha:Fr (BG E e) B' U' w.heap a ys) (hU:U≤B') (hBB:B≤B') (hbytes:(xs.length+ys.length)*b≤140737488355328) (hmx:xs.length+ys.length≤maxLen) :
  ∃v' w' F,(Builtin.append_ #[t,t] ty #[v,a]).run P w=.ok v' w'∧Fr (BG E e) B w'.heap.size w'.heap v' (xs++ys)∧AG F w w'∧∀c∈F,B≤c∧c<U:=by
 obtain⟨F,h1,h2,h3⟩:=hv;obtain⟨G,g1,g2,g3⟩:=ha;have gd:∀c∈G.drop 1,c∈G:=fun c hc=>List.mem_of_mem_drop hc;obtain⟨v',w',F',r1,r2,r3,r4,r5⟩:=KH (P:=P) (ty:=ty) hE ht hi hz h1 h2 (g1.rd id) rfl hbytes hmx (fun c hc hF=>by have:=g3 c (gd c hc);have:=h3 c hF;omega)
  ((List.drop_sublist 1 G).nodup g2)
 refine⟨v',w',F.take 1,r1,⟨F',r2,r3,fun c hc=>?_⟩,r5,fun c hc=>h3 c (zj hc)⟩;have hlt:=(DM hE).lt r2 c hc;refine⟨?_,hlt⟩;rcases r4 c hc with hh|hh|hh;exact (h3 c hh).1;have:=g3 c (gd c hh);omega;omega
end append
section ops
variable {P:Program} {ops:Array Oper} {w0:World} {Q:Act→World→Prop} {os:List Oper} {ks:List Nat} {N:Nat} {ρ:Nat→Value} {w:World}
 {d:Nat} {ty:TypeId} {pos:String} {aft:Array Edge} {g:Option (Nat×Bool)} {t e:TypeId} {z:Value} {b:Nat}
theorem DG {α:Type}(E:BI α)(hE:CC E){s:Nat}(ht:P.underlying t=some (.slice e))(hi:TI P e s z b)(hu:Up ops N ρ ⟨some d,.buildSlice t 0 #[],ty,pos,aft,g⟩)
  (h:∀v w1,AB w w1→w1.heap.size=w.heap.size+1→Fr (BG E e) w.heap.size w1.heap.size w1.heap v ([]:List α)→LW P ops w0 Q os ks (mk N (CP ρ d v)) w1) :
  LW P ops w0 Q (⟨some d,.buildSlice t 0 #[],ty,pos,aft,g⟩::os) (3::ks) (mk N ρ) w:=by
 have hrun:(execOp (Bz N ρ) ⟨some d,.buildSlice t 0 #[],ty,pos,aft,g⟩).run P w=.ok (.value (.slice (some ⟨w.heap.size,0,none⟩) 0 0)) (w.alloc (.cells #[] e)):=by
  simp only[execOp,zc,zh,Sem.run_bind,Ty ht hi,Result.andThen_ok,Sem.run_pure]
 refine Gt rfl hu _ _ hrun (BA _ _)<|h _ _ (BA _ _) (by simp) ?_;refine⟨_,H8 (e:=e) (w:=w) hE (us:=[]) (xs:=([]:List α)) (F:=[]) (cur:=#[]) rfl (by simp) rfl (by simp),by simp,fun c hc=>?_⟩;simp at hc;subst hc;simp
theorem BJ {α:Type}{E:BI α}(hE:CC E){x:Operand}{u:Value}{y:α}{B U:Nat}(ht:P.underlying t=some (.slice e))(hi:TI P e 1 z b)(hz:z.cells=#[z])(hx:Bz N ρ x=u)(hy:Fr E B U w.heap u y)(hB:B≤w.heap.size)
  (hu:Up ops N ρ ⟨some d,.buildSlice t 1 #[(0,x)],ty,pos,aft,g⟩)
  (h:∀v w1,AB w w1→w1.heap.size=w.heap.size+1→Fr (BG E e) B w1.heap.size w1.heap v [y]→LW P ops w0 Q os ks (mk N (CP ρ d v)) w1) :
  LW P ops w0 Q (⟨some d,.buildSlice t 1 #[(0,x)],ty,pos,aft,g⟩::os) (3::ks) (mk N ρ) w:=by
 obtain⟨F,h1,h2,h3⟩:=hy;have hr:=P9 (P:=P) (w:=w) ht hi (hE.cells h1) hz;have hrun:(execOp (Bz N ρ) ⟨some d,.buildSlice t 1 #[(0,x)],ty,pos,aft,g⟩).run P w=.ok (.value (.slice (some ⟨w.heap.size,0,none⟩) 1 1)) (w.alloc (.cells #[u] e)):=by
  simp only[execOp,zc,zf,zh,Sem.run_bind,hx,hr,Result.andThen_ok,Sem.run_pure]
 refine Gt rfl hu _ _ hrun (BA _ _)<|h _ _ (BA _ _) (by simp) ?_;have hn:=H8 (e:=e) (w:=w) hE (us:=[u]) (xs:=[y]) (F:=F++[]) (cur:=#[u]) ⟨F,[],rfl,h1,rfl⟩ (by simp[maxLen]) rfl (by simp);refine⟨_,hn,?_,fun c hc=>?_⟩;rw[List.append_nil,List.nodup_cons];exact⟨fun hm=>by have:=hE.lt h1 _ hm;omega,h2⟩;have hlt:=(DM hE).lt hn c hc;refine⟨?_,hlt⟩;rcases ze.1 hc with rfl|hc;exact hB;exact (h3 c (by simpa using hc)).1
theorem Hu (B U:Nat)(H:Array Obj)(x:Int)(h:-9223372036854775808≤x∧x≤9223372036854775807):Fr rI B U H (.int .i64 x) x:=⟨[],⟨rfl,rfl,h.1,h.2⟩,zk,fun c hc=>by cases hc⟩
theorem HV {x y:Operand}{n:Nat}{c:Int}(ht:P.underlying t=some (.slice e))(hi:TI P e 1 (.int .i64 0) 8)(hx:Bz N ρ x=.int .i64 c)(hy:Bz N ρ y=.int .i64 c)(hc:c=(n:Int))(hn:n≤35184372088832)
  (hu:Up ops N ρ ⟨some d,.makeSlice t x y,ty,pos,aft,g⟩)
  (h:∀v w1,AB w w1→w1.heap.size=w.heap.size+1→Fr (BG rI e) w.heap.size w1.heap.size w1.heap v (List.replicate n 0)→LW P ops w0 Q os ks (mk N (CP ρ d v)) w1) :
  LW P ops w0 Q (⟨some d,.makeSlice t x y,ty,pos,aft,g⟩::os) (3::ks) (mk N ρ) w:=by
 subst hc;obtain⟨i,h1,h2,h3,h4⟩:=hi.get;have hr:=run_make (P:=P) w t e i _ ht h1 h2 .i64 .i64 n n zO zO (by rw[h4];omega) zO;have hrun:(execOp (Bz N ρ) ⟨some d,.makeSlice t x y,ty,pos,aft,g⟩).run P w=.ok (.value (.slice (some ⟨w.heap.size,0,none⟩) n n)) (w.alloc (.cells (madeCells (Value.int .i64 0).cells ((n:Int).toNat*i.size)) e)):=by
  simp only[execOp,Sem.run_bind,hx,hy,hr,Result.andThen_ok,Sem.run_pure,Int.toNat_natCast]
 refine Gt rfl hu _ _ hrun (BA _ _)<|h _ _ (BA _ _) (by simp) ?_;have hels:∀n,els rI w.heap (List.replicate n (.int .i64 0)) (List.replicate n (0:Int)) []:=by
  intro n
  induction n with
  |zero=>rfl
  |succ n ih=>exact⟨[],[],rfl,⟨rfl,rfl,zO,zO⟩,ih⟩
 have hmc:(madeCells (Value.int .i64 0).cells ((n:Int).toNat*i.size)).toList=List.replicate n (.int .i64 0):=by
  rw[h3];simp only[Int.toNat_natCast,Nat.mul_one,madeCells,Value.cells];apply List.ext_getElem;simp
  intro j q1 q2;simp[Nat.mod_one]
 have hcs:(madeCells (Value.int .i64 0).cells ((n:Int).toNat*i.size)).size=n:=by rw[size_madeCells,h3];simp
 have hn':=H8 (e:=e) (w:=w) B1 (us:=List.replicate n (.int .i64 0)) (xs:=List.replicate n (0:Int)) (F:=[]) (cur:=madeCells (Value.int .i64 0).cells ((n:Int).toNat*i.size)) (hels n) (by rw[hcs];simp only[maxLen];omega)
  (by rw[hmc,z5];exact za (by simp)) (by rw[hcs];simp)
 rw[hcs]at hn';simp only[z5]at hn';refine⟨_,by simpa using hn',by simp,fun c hc=>?_⟩;simp at hc;subst hc;simp
theorem C7 {x y:Operand}{v a:Value}{xs ys:List Int}{B U:Nat}(ht:P.underlying t=some (.slice e))(hi:TI P e 1 z b)(hz:z.cells=#[z])(hx:Bz N ρ x=v)(hy:Bz N ρ y=a)(hv:Fr (BG rI e) B U w.heap v xs)(hB:B≤w.heap.size)
  (ha:Rd (B8 rI) w.heap a ys) (hbytes:(xs.length+ys.length)*b≤140737488355328) (hmx:xs.length+ys.length≤maxLen) (hu:Up ops N ρ ⟨some d,.call ⟨.builtin .append,#[x,y],#[t,t]⟩,ty,pos,aft,g⟩)
  (h:∀v1 w1 F,AG F w w1→(∀c∈F,B≤c∧c<U)→Fr (BG rI e) B w1.heap.size w1.heap v1 (xs++ys)→LW P ops w0 Q os ks (mk N (CP ρ d v1)) w1) :
  LW P ops w0 Q (⟨some d,.call ⟨.builtin .append,#[x,y],#[t,t]⟩,ty,pos,aft,g⟩::os) (4::ks) (mk N ρ) w:=by
 obtain⟨v1,w1,F,r1,r2,r3,r4⟩:=QU (P:=P) (ty:=ty) ht hi hz hv hB ha hbytes hmx;exact MO rfl hu v1 w1 (by simp only[execOp,resolve,invoke,builtin,zc,zf,zh,Sem.run_bind,Sem.run_pure,Result.andThen_ok,hx,hy,r1])<|h v1 w1 F r3 r4 r2
theorem JV {α:Type}{E:BI α}(hE:CC E){x y:Operand}{v a:Value}{xs ys:List α}{B U B' U':Nat}(ht:P.underlying t=some (.slice e))(hi:TI P e 1 z b)(hz:z.cells=#[z])(hx:Bz N ρ x=v)(hy:Bz N ρ y=a)(hv:Fr (BG E e) B U w.heap v xs)(hB:B≤w.heap.size)
  (ha:Fr (BG E e) B' U' w.heap a ys) (hU:U≤B') (hBB:B≤B') (hbytes:(xs.length+ys.length)*b≤140737488355328) (hmx:xs.length+ys.length≤maxLen) (hu:Up ops N ρ ⟨some d,.call ⟨.builtin .append,#[x,y],#[t,t]⟩,ty,pos,aft,g⟩)
  (h:∀v1 w1 F,AG F w w1→(∀c∈F,B≤c∧c<U)→Fr (BG E e) B w1.heap.size w1.heap v1 (xs++ys)→LW P ops w0 Q os ks (mk N (CP ρ d v1)) w1) :
  LW P ops w0 Q (⟨some d,.call ⟨.builtin .append,#[x,y],#[t,t]⟩,ty,pos,aft,g⟩::os) (4::ks) (mk N ρ) w:=by
 obtain⟨v1,w1,F,r1,r2,r3,r4⟩:=QV (P:=P) (ty:=ty) hE ht hi hz hv hB ha hU hBB hbytes hmx;exact MO rfl hu v1 w1 (by simp only[execOp,resolve,invoke,builtin,zc,zf,zh,Sem.run_bind,Sem.run_pure,Result.andThen_ok,hx,hy,r1])<|h v1 w1 F r3 r4 r2
theorem H9 {st:TypeId}{x y:Operand}{v:Value}{n:Int}{xs:List Int}{B U j:Nat}(hst:(P.info? st).map (·.size)=some 1)(hx:Bz N ρ x=AF v j 1)(hy:Bz N ρ y=.int .i64 n)(hn:-9223372036854775808≤n∧n≤9223372036854775807)
  (hv:Fr (BG rI e) B U w.heap v xs) (hj:j<xs.length) (hu:Up ops N ρ ⟨none,.store st x y,ty,pos,aft,g⟩)
  (h:∀w1 F,AG F w w1→w1.heap.size=w.heap.size→(∀c∈F,B≤c∧c<U)→Fr (BG rI e) B U w1.heap v (xs.set j n)→LW P ops w0 Q os ks (mk N ρ) w1) :
  LW P ops w0 Q (⟨none,.store st x y,ty,pos,aft,g⟩::os) (4::ks) (mk N ρ) w:=by
 obtain⟨F,h1,h2,h3⟩:=hv;rcases h1 with⟨rfl,rfl,rfl⟩|⟨us,gb,cap,cur,F',hels,rfl,hg,r1,r2,r3,r4,rfl⟩;simp at hj;obtain⟨i,hi1,hi2⟩:=Option.map_eq_some_iff.1 hst;rw[MP]at hx;have hsz:j<cur.size:=by omega
 have hcell:w.cell? ⟨gb,j,none⟩=some cur[j]:=by
  rw[BT];simp[CB,hg,hsz]
 have hfz:w.frozen? ⟨gb,j,none⟩=false:=by
  simp only[World.frozen?,hg];simp
 have hrun:(Instr.storeAt st (.pointer (some ⟨gb,0+j,none⟩)) (.int .i64 n)).run P w=.ok () (w.setCell ⟨gb,j,none⟩ (.int .i64 n)):=by
  have hadd:(⟨gb,j,none⟩:Addr).add 0=⟨gb,j,none⟩:=rfl;rw[Nat.zero_add];simp only[Instr.storeAt,Instr.sureAddr,Sem.run_bind,Sem.run_pure,Result.andThen_ok,storeVar,sizeOf,typeInfo,run_program,hi1,hi2,Value.cells];have hst1:(store ⟨gb,j,none⟩ (.int .i64 n)).run P w=.ok () (w.setCell ⟨gb,j,none⟩ (.int .i64 n)):=by
   rw[run_store P w _ _ _ rfl,hcell];simp only[hfz];rfl
  simp[storeCells,hadd,hst1]
 have hrun2:(execOp (Bz N ρ) ⟨none,.store st x y,ty,pos,aft,g⟩).run P w=.ok .skip (w.setCell ⟨gb,j,none⟩ (.int .i64 n)):=by
  simp only[execOp,hx,hy,Sem.run_bind,hrun,Result.andThen_ok,Sem.run_pure]
 refine VB rfl hu _ hrun2<|h _ [gb] ?_ (by simp[World.setCell]) (fun c hc=>by simp at hc;subst hc;exact h3 _ (z0 ..)) ?_;refine⟨rfl,rfl,rfl,by simp[World.setCell],fun k hk hne=>Below.heap_setCell _ _ _ _ (by simpa using hne)⟩;have hheap:(w.setCell ⟨gb,j,none⟩ (.int .i64 n)).heap[gb]? = some (.cells (cur.setIfInBounds j (.int .i64 n)) e (0,0)):=by
  simp only[World.setCell,Array.getElem?_modify];simp[hg]
 have hset:∀ {us:List Value} {xs:List Int} {F:List Nat} {k:Nat} {H:Array Obj},els rI H us xs F→k<xs.length→els rI H (us.set k (.int .i64 n)) (xs.set k n) F:=by
  intro us
  induction us with
  |nil=>intro xs F k H hh hk;cases xs with
   |nil=>simp at hk
   |cons=>exact hh.elim
  |cons u us ih =>
   intro xs F k H hh hk;cases xs with
   |nil=>exact hh.elim
   |cons x xs =>
    obtain⟨F1,F2,rfl,q1,q2⟩:=hh;cases k with
    |zero=>exact⟨F1,F2,rfl,⟨rfl,q1.2.1,hn.1,hn.2⟩,q2⟩
    |succ k=>exact⟨F1,F2,rfl,q1,ih q2 (by simpa using hk)⟩
 refine⟨gb::F',.inr ⟨us.set j (.int .i64 n),gb,cap,_,F',?_,by simp,hheap,by simpa using r1,r2,by simpa using r3,?_,rfl⟩,h2,h3⟩;exact(hset hels hj).stable B1 fun c hc=>Below.heap_setCell _ _ _ _ fun he=>by
  simp only at he;subst he;exact (List.nodup_cons.1 h2).1 hc
 rw[z6,Array.toList_setIfInBounds,List.take_set,r4]
end ops
end
section
def rV:BI Value:=fun _ v x F=>v=x∧F=[]∧v.cells=#[v]∧v.oneCell'=true
theorem CL:CC rV:=⟨fun h=>h.2.2.1,fun h=>h.2.2.2,fun h b hb=>(by rw[h.2.1]at hb;cases hb),fun h _=>h⟩
section run
variable {P:Program} {w:World}
theorem Oo {st:TypeId}(hst:(P.info? st).map (·.size)=some 1){g j:Nat}{cur:Array Value}{e:TypeId}(hg:w.heap[g]? = some (.cells cur e (0,0)))(hj:j<cur.size){u:Value}(hc:u.cells=#[u])(h1:u.oneCell'=true) :
  (Instr.storeAt st (.pointer (some ⟨g,j,none⟩)) u).run P w=.ok () (w.setCell ⟨g,j,none⟩ u):=by
 obtain⟨i,hi1,hi2⟩:=Option.map_eq_some_iff.1 hst;have hcell:w.cell? ⟨g,j,none⟩=some cur[j]:=by
  rw[BT];simp[CB,hg,hj]
 have hfz:w.frozen? ⟨g,j,none⟩=false:=by
  simp only[World.frozen?,hg];simp
 have hadd:(⟨g,j,none⟩:Addr).add 0=⟨g,j,none⟩:=rfl;have hst1:(store ⟨g,j,none⟩ u).run P w=.ok () (w.setCell ⟨g,j,none⟩ u):=by
  rw[run_store P w _ _ _ h1,hcell];simp only[hfz];rfl
 simp only[Instr.storeAt,Instr.sureAddr,Sem.run_bind,Sem.run_pure,Result.andThen_ok,storeVar,sizeOf,typeInfo,run_program,hi1,hi2,hc];simp[storeCells,hadd,hst1]
theorem TA (w:World)(g j:Nat)(u:Value):AG [g] w (w.setCell ⟨g,j,none⟩ u) :=
 ⟨rfl,rfl,rfl,by simp[World.setCell],fun k hk hne=>Below.heap_setCell _ _ _ _ (by simpa using hne)⟩
theorem QW {w:World}{g j:Nat}{u:Value}{cur:Array Value}{e:TypeId}(hg:w.heap[g]? = some (.cells cur e (0,0))):(w.setCell ⟨g,j,none⟩ u).heap[g]? = some (.cells (cur.setIfInBounds j u) e (0,0)):=by simp only[World.setCell,Array.getElem?_modify];simp[hg]
end run
section opn
variable {α:Type} {E:BI α} {e:TypeId} {B U:Nat} {v:Value}
theorem QX {H:Array Obj}:∀ {us:List Value},(∀u∈us,u.cells=#[u]∧u.oneCell'=true)→els rV H us us []
 |[],_=>rfl
 |u::_,h=>⟨[],[],rfl,⟨rfl,rfl,h u (z0 ..)⟩,QX fun x hx=>h x (z3 _ hx)⟩
theorem els.cells1 (hE:CC E){H:Array Obj}:∀ {us:List Value}{xs:List α}{F:List Nat},els E H us xs F→∀u∈us,u.cells=#[u]∧u.oneCell'=true
 |[],[],_,_,u,hu=>by cases hu
 |_::_,_::_,_,⟨F1,F2,rfl,h1,h2⟩,v,hv=>(ze.1 hv).elim (fun e=>e ▸ ⟨hE.cells h1,hE.one h1⟩) (els.cells1 hE h2 v)
 |[],_::_,_,h,_,_=>h.elim
 |_::_,[],_,h,_,_=>h.elim
end opn
theorem Oq {v:Value}{n:Nat}(h:CH v n):v.cells=#[v]∧v.oneCell'=true:=by obtain⟨a,c,rfl,_⟩:=h;exact⟨rfl,rfl⟩
section ops
variable {P:Program} {ops:Array Oper} {w0:World} {Q:Act→World→Prop} {os:List Oper} {ks:List Nat} {N:Nat} {ρ:Nat→Value} {w:World}
 {d:Nat} {ty:TypeId} {pos:String} {aft:Array Edge} {g:Option (Nat×Bool)} {t e:TypeId} {z:Value} {b:Nat}
theorem L7 {st:TypeId}{x y:Operand}{p u:Value}{w1:World}(hx:Bz N ρ x=p)(hy:Bz N ρ y=u)(hr:(Instr.storeAt st p u).run P w=.ok () w1) :
  (execOp (Bz N ρ) ⟨none,.store st x y,ty,pos,aft,g⟩).run P w=.ok .skip w1:=by
 simp only[execOp,hx,hy,Sem.run_bind,hr,Result.andThen_ok,Sem.run_pure]
theorem AW {x:Operand} {xs:Array Operand} {ats:Array TypeId} (f:FuncId) (first cap:List Value) (args:List Value)
  (hx:Bz N ρ x = .func (.func f) first.toArray cap.toArray) (hxs:first++(xs.toList.map (Bz N ρ))++cap = args) (hf:((P.funcs[f]?).map fun fn=>(fn.name != "runtime.NumGoroutine") && fn.body.isSome) = some true)
  (hu:Up ops N ρ ⟨some d,.call ⟨.value x,xs,ats⟩,ty,pos,aft,g⟩) {R:Ending→World→Prop} (hc:Calls P f args.toArray w R)
  (h:∀ e w1,R e w1→∃ v,e = .returned v∧LW P ops w0 Q os ks (mk N (CP ρ d v)) w1) :
  LW P ops w0 Q (⟨some d,.call ⟨.value x,xs,ats⟩,ty,pos,aft,g⟩ :: os) (4 :: ks) (mk N ρ) w:=by
 simp only [LW];rw [if_pos hu];unfold By;rw [if_neg (by decide),if_neg (by decide)];unfold Oper.wp;rw [Dm];have hrun:(execOp (Bz N ρ) ⟨some d,.call ⟨.value x,xs,ats⟩,ty,pos,aft,g⟩).run P w = .ok (.enter f args.toArray) w:=by
  obtain ⟨fn,hfn,hb⟩:=Option.map_eq_some_iff.1 hf;simp only [z7,bne_iff_ne,ne_eq] at hb;have hargs:first.toArray++xs.map (Bz N ρ)++cap.toArray = args.toArray:=by
   rw [← hxs]; apply Array.ext'; simp
  obtain ⟨c,hbc⟩:=Option.isSome_iff_exists.1 hb.2;have hcf:(callFunc f args.toArray).run P w = .ok (.enter f args.toArray) w:=by
   simp [callFunc,hfn,hb.1,hbc]
  simp [execOp,resolve,hargs,hx,Deferred.ofValue,invoke,hcf]
 rw [hrun];refine Calls.mono hc (fun e w1 he=>?_);obtain ⟨v,rfl,hL⟩:=h e w1 he;show LW P ops w0 Q os ks ((mk N ρ).put (some d) v) w1;rw [EA];exact hL
def Or:Value→Bool
 |.slice none _ _=>true
 |_=>false
theorem QY {x y:Operand}{xt yt:TypeId}{v:Value}{n:Nat}(c:Bool)(ht:P.underlying xt=some (.slice e))(hx:Bz N ρ x=v)(hy:Bz N ρ y=.slice none 0 0)(hs:CH v n)(hc:Or v=c)(hu:Up ops N ρ ⟨some d,.binOp .eql xt x y yt,ty,pos,aft,g⟩)
  (h:LW P ops w0 Q os ks (mk N (CP ρ d (.bool c))) w):LW P ops w0 Q (⟨some d,.binOp .eql xt x y yt,ty,pos,aft,g⟩::os) (0::ks) (mk N ρ) w :=
 CY (by decide) rfl hu _ (fun w' _=>by
  obtain⟨a,cp,rfl,_⟩:=hs
  subst hc
  have he:(eqGuard .eql xt x y (.slice a n cp) (.slice none 0 0)).run P w'=.ok () w':=rfl
  have hq:∀k,(Op.equalIn (k+1) xt (.slice a n cp) (.slice none 0 0)).run P w'=.ok a.isNone w':=by
   intro k;cases a <;> simp only[Op.equalIn,Sem.run_bind,run_underlying ht,Result.andThen_ok,Sem.run_pure] <;> rfl
  simp only[execOp,hx,hy,Sem.run_bind,he,Result.andThen_ok,binOp,Op.equal];rw[show Op.maxDepth=9999+1 from rfl,hq];cases a <;> rfl) h
end ops
end
section
theorem oM {p:Prop}(h:p:=by omega):p:=h
theorem sM {p:Prop}(h:p:=by simp):p:=h
theorem sD {p:Prop}(h:p:=by first|omega|assumption|(simp only[zb,z9,z4,z6,z5];omega)|(simp[zb,z9,z4,z6,z5];done)|(simp[zb,z9,z4,z6,z5];omega)):p:=h
theorem AG.refl (F:List Nat)(w:World):AG F w w:=⟨rfl,rfl,rfl,A7 _,fun _ _ _=>rfl⟩
theorem AG.ext {F:List Nat}{a b c:World}(h:AG F a b)(k:AB b c):AG F a c :=
 ⟨k.os.trans h.os,k.tape.trans h.tape,k.output.trans h.output,A8 h.size k.size,fun i hi hm=>(k.heap (Nat.lt_of_lt_of_le hi h.size)).trans (h.block i hi hm)⟩
theorem AG.trans {F:List Nat}{a b c:World}(h:AG F a b)(k:AG F b c):AG F a c :=
 ⟨k.os.trans h.os,k.tape.trans h.tape,k.output.trans h.output,A8 h.size k.size,fun i hi hm=>(k.block i (Nat.lt_of_lt_of_le hi h.size) hm).trans (h.block i hi hm)⟩
theorem AG.drew {F:List Nat}{a b:World}(h:AG F a b):AG F a b.drew:=⟨h.os,h.tape,h.output,h.size,h.block⟩
theorem AG.of_drew {F:List Nat}{a b:World}(h:AG F a.drew b):AG F a b:=⟨h.os,h.tape,h.output,h.size,h.block⟩
theorem AG.sub {F G:List Nat}{a b:World}(h:AG F a b)(hs:∀x∈F,x∈G):AG G a b:=⟨h.os,h.tape,h.output,h.size,fun k hk hm=>h.block k hk fun hh=>hm (hs k hh)⟩
theorem AB.chg {F:List Nat}{a b:World}(h:AB a b):AG F a b:=⟨h.os,h.tape,h.output,h.size,fun _ hi _=>h.heap hi⟩
theorem TB {α:Type}{E:BI α}(hE:CC E){w w':World}{v:Value}{x:α}{F:List Nat}(h:E w.heap v x F)(k:AB w w'):E w'.heap v x F:=hE.stable h fun b hb=>k.heap (hE.lt h b hb)
theorem L8:∀ {us:List Value}{xs:List Int}{F:List Nat}{H:Array Obj},els rI H us xs F→F=[]:=by
 intro us
 induction us with
 |nil=>intro xs F H h;cases xs with
  |nil=>exact h
  |cons=>exact h.elim
 |cons u us ih =>
  intro xs F H h;cases xs with
  |nil=>exact h.elim
  |cons x xs=>obtain⟨A,C,rfl,p1,p2⟩:=h;rw[p1.2.1,ih p2];rfl
theorem Rd.nil_of {α:Type}{E:BI α}{H:Array Obj}{v:Value}{xs:List α}(h:Rd (B8 E) H v xs)(hv:Or v=true):xs=[]:=by obtain⟨F,⟨a,cap,rfl,hx,_⟩|⟨us,g,off,cap,cur,e,fr,F',_,rfl,_⟩⟩:=h;exact hx;cases hv
section ops
variable {P:Program} {ops:Array Oper} {w0:World} {Q:Act→World→Prop} {os:List Oper} {ks:List Nat} {N:Nat} {ρ:Nat→Value} {w:World}
 {d:Nat} {ty:TypeId} {pos:String} {aft:Array Edge} {g:Option (Nat×Bool)} {t e:TypeId} {z:Value} {b:Nat}
theorem Ad {a:Act}(h:Q a w):LW P ops w0 Q [] ks a w:=h
def yv (ops:Array Oper)(N:Nat) (ρ:Nat→Value)(j:Nat):Option Bool:=match (ops[j]?).bind (·.dst)with
 |some e=>match cond (Nat.blt e N) (ρ e) undef with
  |.bool c=>some c
  |_=>none
 |none=>none
theorem XL (ops:Array Oper)(N:Nat) (ρ:Nat→Value)(j:Nat):yielded ops (mk N ρ).tmps j=yv ops N ρ j:=by
 unfold yv yielded;cases(ops[j]?).bind (·.dst)with
 |none=>rfl
 |some e =>
  by_cases h:e<N;have hb:Nat.blt e N=true:=by simpa using h
  simp only[mk,hb,cond_true];have e1:((List.range N).map ρ).toArray[e]? = some (ρ e):=by simp[h]
  show(match ((List.range N).map ρ).toArray[e]? with|some (.bool b)=>some b|_=>none)=_;rw[e1];cases ρ e <;> rfl;have hb:Nat.blt e N=false:=by
   cases hb:Nat.blt e N with
   |false=>rfl
   |true=>exact absurd (by simpa using hb) h
  simp[mk,Nat.not_lt.1 h,hb,undef]
def Zx (ops:Array Oper)(N:Nat) (ρ:Nat→Value):Option (Nat×Bool)→Bool
 |none=>true
 |some (j,b)=>match yv ops N ρ j with
  |some c=>cond b c (!c)
  |none=>false
theorem VD (ops:Array Oper)(N:Nat) (ρ:Nat→Value)(o:Oper):Region.wanted o (yielded ops (mk N ρ).tmps)=Zx ops N ρ o.guard:=by
 unfold Region.wanted Zx;cases o.guard with
 |none=>rfl
 |some x =>
  obtain⟨j,b⟩:=x;simp only[XL];cases yv ops N ρ j with
  |none=>rfl
  |some c=>cases c <;> cases b <;> rfl
def bR (N:Nat) (ρ:Nat→Value)(d:Nat)(x:Operand):Nat→Value:=fun i=>cond (Nat.beq i d) (Bz N ρ x) (ρ i)
def cH (ρ:Nat→Value)(d:Nat):Nat→Value:=fun i=>cond (Nat.beq i d) undef (ρ i)
def cI (N:Nat) (ρ:Nat→Value)(d:Nat)(c x y:Operand):Nat→Value:=fun i=>cond (Nat.beq i d) (match Bz N ρ c with
 |.bool true=>Bz N ρ x
 |_=>Bz N ρ y) (ρ i)
def Zy (ops:Array Oper)(N:Nat)(o:Oper)(k:Nat) (ρ:Nat→Value):Option (Nat→Value) :=
 cond (Zx ops N ρ o.guard)
  (cond (Nat.ble k 2)
   (match o.dst with
   |none=>none
   |some d=>match o.op with
    |.move x=>some (bR N ρ d x)
    |.assign x=>some (bR N ρ d x)
    |.pick c x y=>match Bz N ρ c with
     |.bool _=>some (cI N ρ d c x y)
     |_=>none
    |_=>none) none)
  (match o.dst with
  |none=>some ρ
  |some d=>some (cH ρ d))
def tv (ops:Array Oper)(N:Nat):Nat→List Oper→List Nat→(Nat→Value)→Option (List Oper×List Nat×(Nat→Value))
 |0,os,ks,ρ=>some (os,ks,ρ)
 |n+1,o::os,k::ks,ρ=>match Zy ops N o k ρ with
  |some ρ'=>tv ops N n os ks ρ'
  |none=>none
 |_+1,_,_,_=>none
theorem VE {o:Oper}{k:Nat} {ρ':Nat→Value}(h:Zy ops N o k ρ=some ρ')(hn:LW P ops w0 Q os ks (mk N ρ') w):LW P ops w0 Q (o::os) (k::ks) (mk N ρ) w:=by
 simp only[LW];rw[VD];unfold Zy at h;cases hg:Zx ops N ρ o.guard with
 |false =>
  rw[hg]at h;rw[if_neg (by simp)];cases hd:o.dst with
  |none=>rw[hd]at h;cases h;exact hn
  |some d=>rw[hd]at h;injection h with h;rw[EA,show CP ρ d undef=ρ' from h];exact hn
 |true =>
  rw[hg]at h;rw[if_pos rfl];cases hk:Nat.ble k 2 with
  |false=>rw[hk]at h;cases h
  |true =>
   rw[hk]at h;have hk2:k≤2:=by simpa using hk
   unfold By;rw[if_pos hk2];cases hd:o.dst with
   |none=>rw[hd]at h;cases h
   |some d =>
    rw[hd]at h;have key:∀v,ρ'=CP ρ d v→(∀w',(execOp (Bz N ρ) o).run P w'=.ok (.value v) w')→∃v,(∀w',Cl w0 w k w'→YA P o (mk N ρ) w' v)∧LW P ops w0 Q os ks ((mk N ρ).put (some d) v) w:=fun v hv hr =>
     ⟨v,fun w' _=>.inl (by rw[Dm];exact hr w'),by rw[EA,← hv];exact hn⟩
    obtain⟨od,oop,oty,opos,oaft,og⟩:=o;dsimp only at h;cases oop with
    |move x=>injection h with h;exact key (Bz N ρ x) h.symm fun w'=>by simp[execOp]
    |assign x=>injection h with h;exact key (Bz N ρ x) h.symm fun w'=>by simp[execOp]
    |pick c x y =>
     dsimp only at h;split at h;rename_i bb hc;injection h with h;refine key (match Bz N ρ c with
      |.bool true=>Bz N ρ x
      |_=>Bz N ρ y) h.symm fun w'=>?_
     rw[hc];cases bb <;> simp[execOp,hc,asBool];cases h
    |_=>cases h
theorem Af {os':List Oper}{ks':List Nat} {ρ':Nat→Value}(n:Nat)(h:tv ops N n os ks ρ=some (os',ks',ρ'))(hn:LW P ops w0 Q os' ks' (mk N ρ') w):LW P ops w0 Q os ks (mk N ρ) w:=by
 induction n generalizing os ks ρ with
 |zero =>
  have h':(os,ks,ρ)=(os',ks',ρ'):=by injection h
  cases h';exact hn
 |succ n ih =>
  cases os with
  |nil=>cases ks <;> cases h
  |cons o os =>
   cases ks with
   |nil=>cases h
   |cons k ks =>
    have h':(match Zy ops N o k ρ with|some ρ'=>tv ops N n os ks ρ'|none=>none)=some (os',ks',ρ'):=h;split at h';rename_i r hr;exact VE hr (ih h');cases h'
theorem Ac {ks':List Nat} {ρ':Nat→Value}(n:Nat)(h:tv ops N n os ks ρ=some ([],ks',ρ'))(hn:Q (mk N ρ') w):LW P ops w0 Q os ks (mk N ρ) w :=
 Af n h (show LW P ops w0 Q [] ks' (mk N ρ') w from hn)
end ops
theorem bS {P : Program}{y : Code}{id : Nat}{Q : Exit → Act → World → Prop}{a : Act}{w : World}{os : List Oper}(ks : List Nat)(hk : ks.all (· != 1)=true)(h : LW P os.toArray w (fun a w => y.wp P Q a w) os ks a w) : (Code.seq (Code.region id os.toArray false) y).wp P Q a w := A0 (Ab os ks hk h)
theorem bT {P : Program}{y : Code}{id : Nat}{Q : Exit → Act → World → Prop}{w : World}{o : Oper}{N : Nat} {ρ ρ' : Nat → Value}{ks' : List Nat}(h : tv #[o] N 1 [o] [0] ρ=some ([], ks', ρ'))(hn : y.wp P Q (mk N ρ') w) : (Code.seq (Code.region id #[o] false) y).wp P Q (mk N ρ) w := A0 (Ab [o] [0] rfl (Ac 1 h hn))
theorem bU {P : Program}{ops : Array Oper}{w0 : World}{Q : Act → World → Prop}{os : List Oper}{ks : List Nat}{N : Nat} {ρ : Nat → Value}{w : World}{ks' : List Nat} {ρ' : Nat → Value}(h : tv ops N 1 os ks ρ=some ([], ks', ρ'))(hn : Q (mk N ρ') w) : LW P ops w0 Q os ks (mk N ρ) w := Ac 1 h hn
theorem bV {P : Program}{ops : Array Oper}{w0 : World}{Q : Act → World → Prop}{os : List Oper}{ks : List Nat}{N : Nat} {ρ : Nat → Value}{w : World}{os' : List Oper}{ks' : List Nat} {ρ' : Nat → Value}(h : tv ops N 1 os ks ρ=some (os', ks', ρ'))(hn : LW P ops w0 Q os' ks' (mk N ρ') w) : LW P ops w0 Q os ks (mk N ρ) w := Af 1 h hn
end
section
theorem TC (B U:Nat)(H:Array Obj){u:Value}(h:u.cells=#[u]∧u.oneCell'=true):Fr rV B U H u u:=⟨[],⟨rfl,rfl,h.1,h.2⟩,zk,fun c hc=>by cases hc⟩
theorem oV {e:TypeId}:CC (BG rV e):=DM CL
section rd
variable {e e':TypeId} {B U:Nat} {H:Array Obj} {v:Value}
theorem Fr.rdV1 {us:List Value}(h:Fr (BG rV e) B U H v us):Rd (B8 rV) H v us:=h.rd id
theorem Rd.getV {us:List Value}{k:Nat}(h:Rd (B8 rV) H v us)(hk:k<us.length):JU H (AF v k 1)=some (us.getD k undef)∧(us.getD k undef).cells=#[us.getD k undef]∧(us.getD k undef).oneCell'=true:=by obtain⟨u,h1,F,h2,_,h3,h4⟩:=Rd.get undef h hk;rw[← h2];exact⟨h1,h3,h4⟩
end rd
theorem Qy {α:Type}{E:BI α}(hE:CC E){w w':World}{v:Value}{x:α}{X G:List Nat}(h:E w.heap v x X)(c:AG G w w')(hG:∀b∈G,b∉X):E w'.heap v x X :=
 hE.stable h fun b hb=>c.block b (hE.lt h b hb) fun hm=>hG b hm hb
end
section
def bW (P:Program)(s:TypeId)(i off:Nat):Bool :=
 match P.underlying s with
 |some (.struct fs) =>
  match fs[i]? with
  |some f=>(f.offset == off) && (match P.info? f.type with|some inf=>inf.size != 0|none=>false)
  |none=>false
 |_=>false
def BX (H:Array Obj)(g:Nat)(cs:List Value):Prop:=∃e,H[g]? = some (.cells cs.toArray e (0,0))
theorem BX.lt {H:Array Obj}{g:Nat}{cs:List Value}(h:BX H g cs):g<H.size:=by obtain⟨e,h⟩:=h;exact getElem?_lt h
theorem BX.ext {w w':World}{g:Nat}{cs:List Value}(h:BX w.heap g cs)(k:AB w w'):BX w'.heap g cs:=by have hl:=h.lt;obtain⟨e,h⟩:=h;exact⟨e,by rw[k.heap hl];exact h⟩
theorem BX.chg {w w':World}{g:Nat}{cs:List Value}{F:List Nat}(h:BX w.heap g cs)(k:AG F w w')(hg:g∉F):BX w'.heap g cs:=by have hl:=h.lt;obtain⟨e,h⟩:=h;exact⟨e,by rw[k.block g hl hg];exact h⟩
theorem BX.ld {H:Array Obj}{g k:Nat}{cs:List Value}(h:BX H g cs)(hk:k<cs.length):JU H (.pointer (some ⟨g,k,none⟩))=some (cs.getD k undef):=by obtain⟨e,h⟩:=h;simp only[JU,CB,h];simp[hk]
theorem AG.fresh {F G:List Nat}{a b c:World}(h:AG F a b)(k:AG G b c)(hG:∀x∈G,a.heap.size≤x):AG F a c :=
 ⟨k.os.trans h.os,k.tape.trans h.tape,k.output.trans h.output,A8 h.size k.size,fun i hi hm=>(k.block i (Nat.lt_of_lt_of_le hi h.size) fun hg=>by have:=hG i hg;omega).trans (h.block i hi hm)⟩
def FG (H:Array Obj)(g:Nat)(v:Value)(cs:List UInt8)(n:Nat):Prop:=∃sd:Int,BX H g [v,.int .i64 ((n:Nat):Int),.int .u64 sd]∧∃F,B8 rU H v cs F∧∀b∈F,b<g
theorem FG.lt {H:Array Obj}{g n:Nat}{v:Value}{cs:List UInt8}(h:FG H g v cs n):g<H.size:=by obtain⟨sd,h,_⟩:=h;exact h.lt
theorem FG.ext {w w':World}{g n:Nat}{v:Value}{cs:List UInt8}(h:FG w.heap g v cs n)(k:AB w w'):FG w'.heap g v cs n:=by obtain⟨sd,h,F,h1,h2⟩:=h;exact⟨sd,h.ext k,F,DN.stable h1 fun b hb=>k.heap (DN.lt h1 b hb),h2⟩
theorem FG.chg {w w':World}{g n:Nat}{v:Value}{cs:List UInt8}{G:List Nat}(h:FG w.heap g v cs n)(k:AG G w w')(hG:∀b∈G,g<b):FG w'.heap g v cs n:=by obtain⟨sd,h,F,h1,h2⟩:=h;exact⟨sd,h.chg k fun hm=>by have:=hG g hm;omega,F,DN.stable h1 fun b hb=>k.block b (DN.lt h1 b hb) fun hm=>by have:=hG b hm;have:=h2 b hb;omega,h2⟩
theorem FG.parts {w:World}{g n:Nat}{v:Value}{cs:List UInt8}(h:FG w.heap g v cs n):∃sd:Int,BX w.heap g [v,.int .i64 ((n:Nat):Int),.int .u64 sd]∧∀w',AG [g] w w'→Rd (B8 rU) w'.heap v cs:=by
 obtain⟨sd,h,F,h1,h2⟩:=h;refine⟨sd,h,fun w' k=>⟨F,DN.stable h1 fun b hb=>k.block b (DN.lt h1 b hb) fun hm=>?_⟩⟩;have:b=g:=by simpa using hm
 have:=h2 b hb;omega
theorem FG.close {w w':World}{g n n':Nat}{v:Value}{cs:List UInt8}{sd:Int}(h:FG w.heap g v cs n)(k:AG [g] w w')(hb:BX w'.heap g [v,.int .i64 ((n':Nat):Int),.int .u64 sd]):FG w'.heap g v cs n':=by
 obtain⟨sd0,h,F,h1,h2⟩:=h;refine⟨sd,hb,F,DN.stable h1 fun b hb=>k.block b (DN.lt h1 b hb) fun hm=>?_,h2⟩;have:b=g:=by simpa using hm
 have:=h2 b hb;omega
theorem FG.new {w w':World}{g:Nat}{v:Value}{cs:List UInt8}(h:Rd (B8 rU) w.heap v cs)(k:AB w w')(hb:BX w'.heap g [v,.int .i64 0,.int .u64 0])(hg:w.heap.size≤g):FG w'.heap g v cs 0:=by obtain⟨F,h⟩:=h;exact⟨0,hb,F,DN.stable h fun b hb=>k.heap (DN.lt h b hb),fun b hb=>by have:=DN.lt h b hb;omega⟩
theorem bX (x:UInt8):-9223372036854775808≤((x.toNat:Nat):Int)∧((x.toNat:Nat):Int)≤9223372036854775807:=by have:=x.toNat_lt;omega
theorem w8 (x:UInt8):IntKind.i64.wrap ((x.toNat:Nat):Int)=((x.toNat:Nat):Int):=Du (bX x).1 (bX x).2
theorem Pa (x:UInt8):x.toNat<256:=x.toNat_lt
section ops
variable {P:Program} {ops:Array Oper} {w0:World} {Q:Act→World→Prop} {os:List Oper} {ks:List Nat} {N:Nat} {ρ:Nat→Value} {w:World}
 {d:Nat} {ty:TypeId} {pos:String} {aft:Array Edge} {g:Option (Nat×Bool)} {t e:TypeId}
theorem BB {x:Operand}{a:Addr}(hx:Bz N ρ x=.pointer (some a))(hu:Up ops N ρ ⟨some d,.nilCheck x,ty,pos,aft,g⟩)
  (h:LW P ops w0 Q os ks (mk N (CP ρ d (.pointer (some a)))) w):LW P ops w0 Q (⟨some d,.nilCheck x,ty,pos,aft,g⟩::os) (0::ks) (mk N ρ) w :=
 CY (by decide) rfl hu _ (fun w' _=>by simp[execOp,hx]) h
theorem EX {s:TypeId}{x:Operand}{b i:Nat}(off:Nat)(hf:bW P s i off=true)(hx:Bz N ρ x=.pointer (some ⟨b,0,none⟩))(hu:Up ops N ρ ⟨some d,.fieldAddr s x i,ty,pos,aft,g⟩)
  (h:LW P ops w0 Q os ks (mk N (CP ρ d (.pointer (some ⟨b,off,none⟩)))) w):LW P ops w0 Q (⟨some d,.fieldAddr s x i,ty,pos,aft,g⟩::os) (0::ks) (mk N ρ) w :=
 CY (by decide) rfl hu _ (fun w' _=>by
  unfold bW at hf
  split at hf
  rename_i fs hfs
  split at hf
  rename_i f hff
  simp only[z7,beq_iff_eq]at hf
  obtain⟨rfl,hf2⟩:=hf
  split at hf2
  rename_i inf hin
  have hne:inf.size≠0:=by simpa using hf2
  have ha:(⟨b,0,none⟩:Addr).add f.offset=⟨b,f.offset,none⟩:=by
   unfold Addr.add;split;rename_i h0;rw[h0];simp
  simp[execOp,Instr.fieldAt,Instr.sureAddr,run_underlying hfs,hff,hx,fieldPlace,sizeOf,typeInfo,hin,hne,ha];cases hf2;cases hf;cases hf) h
theorem UB {xt yt:TypeId}{x y:Operand}{k k':IntKind}{a b:Int}(c:Int)(hx:Bz N ρ x=.int k a)(hy:Bz N ρ y=.int k' b)(hb:0≤b)(hc:a.fdiv (2 ^ (min b.toNat k.bits))=c)(hu:Up ops N ρ ⟨some d,.binOp .shr xt x y yt,ty,pos,aft,g⟩)
  (h:LW P ops w0 Q os ks (mk N (CP ρ d (.int k c))) w):LW P ops w0 Q (⟨some d,.binOp .shr xt x y yt,ty,pos,aft,g⟩::os) (0::ks) (mk N ρ) w :=
 CY (by decide) rfl hu _ (fun w' _=>by
  have he:(eqGuard .shr xt x y (.int k a) (.int k' b)).run P w'=.ok () w':=rfl
  simp[execOp,hx,hy,he,binOp,Op.shift,Int.not_lt.2 hb,hc]) h
def J0 (k:IntKind)(a b:Int):Int:=k.wrap ((BitVec.ofInt k.bits a &&& BitVec.ofInt k.bits b).toNat:Int)
theorem Pb (a:Int):0≤J0 .u64 a 255∧J0 .u64 a 255≤255:=by
 have h:(BitVec.ofInt 64 a &&& BitVec.ofInt 64 255).toNat≤255:=by
  rw[BitVec.toNat_and];exact A8 Nat.and_le_right (by decide)
 have hw:∀m:Nat,m≤255→IntKind.u64.wrap (m:Int)=(m:Int):=fun m hm=>IntWalk.u64_in _ zO;have e:J0 .u64 a 255=(((BitVec.ofInt 64 a &&& BitVec.ofInt 64 255).toNat:Nat):Int):=hw _ h;rw[e];generalize (BitVec.ofInt 64 a &&& BitVec.ofInt 64 255).toNat=m at h;omega
theorem UC (a:Int):-9223372036854775808≤J0 .u64 a 255∧J0 .u64 a 255≤9223372036854775807:=by have:=Pb a;omega
theorem XM (a:Int):IntKind.i64.wrap (J0 .u64 a 255)=J0 .u64 a 255:=Du (UC a).1 (UC a).2
theorem UD {xt yt:TypeId}{x y:Operand}{k:IntKind}{a b:Int}(hx:Bz N ρ x=.int k a)(hy:Bz N ρ y=.int k b)(hu:Up ops N ρ ⟨some d,.binOp .and xt x y yt,ty,pos,aft,g⟩)
  (h:LW P ops w0 Q os ks (mk N (CP ρ d (.int k (J0 k a b)))) w):LW P ops w0 Q (⟨some d,.binOp .and xt x y yt,ty,pos,aft,g⟩::os) (0::ks) (mk N ρ) w :=
 CY (by decide) rfl hu _ (fun w' _=>by
  have he:(eqGuard .and xt x y (.int k a) (.int k b)).run P w'=.ok () w':=rfl
  simp[execOp,hx,hy,he,binOp,Op.intBits,J0]) h
theorem Bk {st:TypeId}{x y:Operand}{b k:Nat}{u:Value}{cs:List Value}(hst:(P.info? st).map (·.size)=some 1)(hx:Bz N ρ x=.pointer (some ⟨b,k,none⟩))(hy:Bz N ρ y=u)(hc:u.cells=#[u]∧u.oneCell'=true)
  (hb:BX w.heap b cs) (hk:k<cs.length) (hu:Up ops N ρ ⟨none,.store st x y,ty,pos,aft,g⟩)
  (h:∀w1,AG [b] w w1→w1.heap.size=w.heap.size→BX w1.heap b (cs.set k u)→LW P ops w0 Q os ks (mk N ρ) w1) :
  LW P ops w0 Q (⟨none,.store st x y,ty,pos,aft,g⟩::os) (4::ks) (mk N ρ) w:=by
 obtain⟨e,hb⟩:=hb;have hr:=Oo (P:=P) hst hb (j:=k) (by simpa using hk) hc.1 hc.2;refine VB rfl hu _ (L7 hx hy hr)<|h _ (TA _ _ _ _) (by simp[World.setCell]) ⟨e,?_⟩;rw[QW hb];simp
theorem Bg {parts:Array (Nat×Operand)}{ps:Array (Nat×Value)}(u:Value)(hp:(parts.map fun(i,x)=>(i,Bz N ρ x))=ps)(hr:∀w',(Instr.build t ps).run P w'=.ok u w')(hu:Up ops N ρ ⟨some d,.build t parts,ty,pos,aft,g⟩)
  (h:LW P ops w0 Q os ks (mk N (CP ρ d u)) w):LW P ops w0 Q (⟨some d,.build t parts,ty,pos,aft,g⟩::os) (0::ks) (mk N ρ) w :=
 CY (by decide) rfl hu _ (fun w' _=>by subst hp;simp[execOp,hr w']) h
theorem Br {x:Operand}{cs:Array Value}(hx:Bz N ρ x=.agg cs)(hu:Up ops N ρ ⟨some d,.box t x,ty,pos,aft,g⟩)
  (h:∀w1,AB w w1→w1.heap.size=w.heap.size+1→BX w1.heap w.heap.size cs.toList→LW P ops w0 Q os ks (mk N (CP ρ d (.pointer (some ⟨w.heap.size,0,none⟩)))) w1) :
  LW P ops w0 Q (⟨some d,.box t x,ty,pos,aft,g⟩::os) (3::ks) (mk N ρ) w:=by
 have hrun:(execOp (Bz N ρ) ⟨some d,.box t x,ty,pos,aft,g⟩).run P w=.ok (.value (.pointer (some ⟨w.heap.size,0,none⟩))) (w.alloc (.cells cs t)):=by
  simp[execOp,Instr.box,newVar,newRow,hx,Value.cells]
 refine Gt rfl hu _ _ hrun (BA _ _)<|h _ (BA _ _) (by simp) ⟨t,?_⟩;have:=heap_alloc_new w (.cells cs t);simpa using this
end ops
end
section
abbrev Ci (α:Type):=Array Obj→List Value→α→List Nat→Prop
structure Db {α:Type}(s:Nat)(E:Ci α):Prop where
 len:∀ {H cs x F},E H cs x F→cs.length=s
 one:∀ {H cs x F},E H cs x F→∀u∈cs,u.cells=#[u]∧u.oneCell'=true
 lt:∀ {H cs x F},E H cs x F→∀b∈F,b<H.size
 stable:∀ {H H' cs x F},E H cs x F→(∀b∈F,H'[b]? = H[b]?)→E H' cs x F
def DI {α:Type}(E:Ci α)(H:Array Obj):List (List Value)→List α→List Nat→Prop
 |[],[],F=>F=[]
 |c::css,x::xs,F=>∃F1 F2,F=F1++F2∧E H c x F1∧DI E H css xs F2
 |_,_,_=>False
section DI
variable {α:Type} {E:Ci α} {s:Nat} {H H':Array Obj}
theorem DI.stable (hE:Db s E):∀ {css:List (List Value)}{xs:List α}{F:List Nat},DI E H css xs F→(∀b∈F,H'[b]? = H[b]?)→DI E H' css xs F
 |[],[],_,h,_=>h
 |_::_,_::_,_,⟨F1,F2,rfl,h1,h2⟩,hb =>
  ⟨F1,F2,rfl,hE.stable h1 fun b hh=>hb b (z8 _ hh),DI.stable hE h2 fun b hh=>hb b (z1 _ hh)⟩
 |[],_::_,_,h,_=>h.elim
 |_::_,[],_,h,_=>h.elim
theorem DI.lt (hE:Db s E):∀ {css:List (List Value)}{xs:List α}{F:List Nat},DI E H css xs F→∀b∈F,b<H.size
 |[],[],_,h,b,hb=>by rw[show _=[]from h]at hb;cases hb
 |_::_,_::_,_,⟨F1,F2,rfl,h1,h2⟩,b,hb=>(zi.1 hb).elim (hE.lt h1 b) (DI.lt hE h2 b)
 |[],_::_,_,h,_,_=>h.elim
 |_::_,[],_,h,_,_=>h.elim
theorem DI.get (hE:Db s E):∀ {css:List (List Value)}{xs:List α}{F:List Nat}{k:Nat}(d:α),DI E H css xs F→k<xs.length →
  ∃cs F1,E H cs (xs.getD k d) F1∧(∀b∈F1,b∈F)∧∀i,i<s→css.flatten[k*s+i]? = some (cs.getD i undef)
 |c::css,x::xs,_,0,d,⟨F1,F2,rfl,h1,h2⟩,_=>⟨c,F1,h1,fun b hb=>z8 _ hb,fun i hi=>by
   have hl:=hE.len h1
   rw[List.flatten_cons,Nat.zero_mul,Nat.zero_add,List.getElem?_append_left (by omega)]
   simp[hl,hi]⟩
 |c::css,x::xs,_,k+1,d,⟨F1,F2,rfl,h1,h2⟩,hk=>by
  obtain⟨cs,G,q1,q2,q3⟩:=DI.get hE d h2 (by simpa using hk)
  refine⟨cs,G,by simpa using q1,fun b hh=>z1 _ (q2 b hh),fun i hi=>?_⟩
  have hl:=hE.len h1
  have e:(k+1)*s+i=c.length+(k*s+i):=by rw[Nat.succ_mul,hl];omega
  rw[List.flatten_cons,e,List.getElem?_append_right zO,Nat.add_sub_cancel_left]
  exact q3 i hi
 |[],[],_,_,_,_,hk=>by simp at hk
 |[],_::_,_,_,_,h,_=>h.elim
theorem DI.append:∀ {us vs:List (List Value)}{xs ys:List α}{F G:List Nat},DI E H us xs F→DI E H vs ys G→DI E H (us++vs) (xs++ys) (F++G)
 |[],_,[],_,_,_,h,k=>by rw[show _=[]from h];exact k
 |_::_,_,_::_,_,_,_,⟨F1,F2,rfl,h1,h2⟩,k=>⟨F1,_,by rw[List.append_assoc],h1,DI.append h2 k⟩
 |[],_,_::_,_,_,_,h,_=>h.elim
 |_::_,_,[],_,_,_,h,_=>h.elim
theorem DI.flen (hE:Db s E):∀ {css:List (List Value)}{xs:List α}{F:List Nat},DI E H css xs F→css.flatten.length=xs.length*s
 |[],[],_,_=>by simp
 |c::css,x::xs,_,⟨F1,F2,rfl,h1,h2⟩=>by
  rw[List.flatten_cons,z4,hE.len h1,DI.flen hE h2,z9,Nat.succ_mul];omega
 |[],_::_,_,h=>h.elim
 |_::_,[],_,h=>h.elim
theorem DI.one (hE:Db s E):∀ {css:List (List Value)}{xs:List α}{F:List Nat},DI E H css xs F→∀u∈css.flatten,u.cells=#[u]∧u.oneCell'=true
 |[],[],_,_,u,hu=>by cases hu
 |_::_,_::_,_,⟨F1,F2,rfl,h1,h2⟩,v,hv=>by
  rw[List.flatten_cons]at hv
  exact (zi.1 hv).elim (hE.one h1 v)<|DI.one hE h2 v
 |[],_::_,_,h,_,_=>h.elim
 |_::_,[],_,h,_,_=>h.elim
end DI
def HW {α:Type}(s:Nat)(E:Ci α):BI (List α):=fun H v xs F =>
 (∃a cap,v=.slice a 0 cap∧xs=[]∧F=[]) ∨
 ∃css g off cap cur e fr F',DI E H css xs F'∧v=.slice (some ⟨g,off,none⟩) xs.length cap∧H[g]? = some (.cells cur e fr)∧(cur.toList.drop off).take (xs.length*s)=css.flatten∧(xs.length≤maxLen∧xs.length≤cap)∧F=g::F'
def LD (H:Array Obj)(p:Value)(cs:List Value):Prop:=∃g o,p=.pointer (some ⟨g,o,none⟩)∧∀i,i<cs.length→CB H g (o+i)=some (cs.getD i undef)
def Ax (p:Value)(k:Nat):Value :=
 match p with
 |.pointer (some ⟨g,o,none⟩)=>.pointer (some ⟨g,o+k,none⟩)
 |_=>undef
theorem LD.ld {H:Array Obj}{p:Value}{cs:List Value}(h:LD H p cs){i:Nat}(hi:i<cs.length):JU H (Ax p i)=some (cs.getD i undef):=by obtain⟨g,o,rfl,h⟩:=h;exact h i hi
theorem QZ (g off n cap k s:Nat):AF (.slice (some ⟨g,off,none⟩) n cap) k s=.pointer (some ⟨g,off+k*s,none⟩):=by unfold AF Addr.add;simp only;split;rename_i h;rw[h];rfl;rfl
section HW
variable {α:Type} {E:Ci α} {s:Nat} {H H':Array Obj} {v:Value} {xs:List α} {F:List Nat}
theorem As (hE:Db s E):CC (HW s E) where
 cells:=by
  rintro H v xs F (⟨a,cap,rfl,_⟩|⟨us,g,off,cap,cur,e,fr,F',_,rfl,_⟩) <;> rfl
 one:=by
  rintro H v xs F (⟨a,cap,rfl,_⟩|⟨us,g,off,cap,cur,e,fr,F',_,rfl,_⟩) <;> rfl
 lt:=by
  rintro H v xs F (⟨a,cap,rfl,_,rfl⟩|⟨us,g,off,cap,cur,e,fr,F',h,rfl,hg,_,_,rfl⟩) b hb;cases hb;rcases ze.1 hb with rfl|hb;exact getElem?_lt hg;exact h.lt hE b hb
 stable:=by
  rintro H H' v xs F (⟨a,cap,rfl,h1,h2⟩|⟨us,g,off,cap,cur,e,fr,F',h,rfl,hg,hw,hml,rfl⟩) hb;exact .inl ⟨a,cap,rfl,h1,h2⟩;exact .inr ⟨us,g,off,cap,cur,e,fr,F',h.stable hE fun b hh=>hb b<|z3 _ hh,rfl,by rw[hb g (z0 ..)];exact hg,hw,hml,rfl⟩
theorem HW.isSl (h:HW s E H v xs F):CH v xs.length:=by rcases h with⟨a,cap,rfl,rfl,_⟩|⟨us,g,off,cap,cur,e,fr,F',_,rfl,_⟩;exact⟨a,cap,rfl,fun _=>rfl⟩;exact⟨_,cap,rfl,fun h=>by cases h⟩
theorem HW.lenle (h:HW s E H v xs F):xs.length≤maxLen:=by rcases h with⟨a,cap,_,rfl,_⟩|⟨us,g,off,cap,cur,e,fr,F',_,_,_,_,h,_⟩;simp;exact h.1
theorem HW.cap (h:HW s E H v xs F):∃a c,v=.slice a xs.length c∧xs.length≤c:=by rcases h with⟨a,cap,rfl,rfl,_⟩|⟨us,g,off,cap,cur,e,fr,F',_,rfl,_,_,h,_⟩;exact⟨a,cap,rfl,Nat.zero_le _⟩;exact⟨_,cap,rfl,h.2⟩
theorem Mk (hE:Db s E):∀ {css:List (List Value)}{xs:List α}{F:List Nat}(k:Nat),DI E H css xs F→∃G,DI E H (css.take k) (xs.take k) G∧∀b∈G,b∈F
 |[],[],F,k,h=>⟨[],by simp[DI],fun b hb=>by cases hb⟩
 |c::css,x::xs,F,0,h=>⟨[],by simp[DI],fun b hb=>by cases hb⟩
 |c::css,x::xs,_,k+1,⟨F1,F2,rfl,h1,h2⟩=>by
  obtain⟨G,g1,g2⟩:=Mk hE k h2
  exact⟨F1++G,⟨F1,G,rfl,h1,g1⟩,fun b hb=>(zi.1 hb).elim (fun h=>z8 _ h) (fun h=>z1 _ (g2 b h))⟩
 |[],_::_,_,_,h=>h.elim
 |_::_,[],_,_,h=>h.elim
theorem HW.take (hE:Db s E){k:Nat}{a:Option Addr}{n c:Nat}(h:HW s E H (.slice a n c) xs F)(hk:k≤xs.length):∃G,HW s E H (.slice a k c) (xs.take k) G∧∀b∈G,b∈F:=by
 rcases h with⟨a',cap,hv,rfl,_⟩|⟨us,g,off,cap,cur,e,fr,F',h,hv,hg,hw,hl,rfl⟩;have:k=0:=by simpa using hk
 subst this;exact⟨[],.inl ⟨a,c,rfl,by simp,rfl⟩,fun b hb=>by cases hb⟩
 injection hv with h1 h2 h3;subst h1;subst h2;subst h3;obtain⟨G,g1,g2⟩:=Mk hE k h;have hkl:(xs.take k).length=k:=by rw[List.length_take];omega
 refine⟨g::G,.inr ⟨us.take k,g,off,c,cur,e,fr,G,g1,by rw[hkl],hg,?_,by rw[hkl];omega,rfl⟩,fun b hb=>?_⟩;have hf:=h.flen hE;have ht:=g1.flen hE;rw[hkl]at ht;rw[hkl];have e1:us.flatten=(us.take k).flatten++(us.drop k).flatten:=by rw[← List.flatten_append,List.take_append_drop]
 have e2:(cur.toList.drop off).take (k*s)=((cur.toList.drop off).take (xs.length*s)).take (k*s):=by
  rw[List.take_take,Nat.min_eq_left (Nat.mul_le_mul_right s hk)]
 rw[e2,hw,e1,← ht,List.take_left];rcases ze.1 hb with rfl|hb;exact z0 ..;exact z3 _<|g2 b hb
theorem HW.get (hE:Db s E)(d:α){k:Nat}(h:HW s E H v xs F)(hk:k<xs.length) :
  ∃cs F1,E H cs (xs.getD k d) F1∧(∀b∈F1,b∈F)∧∀H':Array Obj,(∀b∈F,H'[b]? = H[b]?)→LD H' (AF v k s) cs:=by
 rcases h with⟨a,cap,rfl,rfl,_⟩|⟨css,g,off,cap,cur,e,fr,F',h,rfl,hg,hw,_,rfl⟩;simp at hk;obtain⟨cs,F1,q1,q2,q3⟩:=h.get hE d hk;refine⟨cs,F1,q1,fun b hb=>z3 _ (q2 b hb),fun H' hH=>⟨g,off+k*s,QZ ..,fun i hi=>?_⟩⟩;rw[hE.len q1]at hi;have h1:=q3 i hi;have hlt:k*s+i<xs.length*s:=by
  have:(k+1)*s≤xs.length*s:=Nat.mul_le_mul_right s hk;rw[Nat.succ_mul]at this;omega
 rw[← hw,List.getElem?_take,if_pos hlt,List.getElem?_drop]at h1;simp only[CB,hH g (z0 ..),hg];rw[Nat.add_assoc];simpa using h1
end HW
def RN {β α:Type}(S:List Nat)(E:Array Obj→β→α→List Nat→Prop)(H:Array Obj)(v:β)(x:α):Prop:=∃F,E H v x F∧∀b∈F,b∉S
section rn
variable {α:Type} {S:List Nat} {w w':World} {s:Nat} {E:Ci α} {v:Value} {xs:List α} {cs:List Value} {x:α}
theorem RN.chg {E:BI α}(hE:CC E)(h:RN S E w.heap v x)(c:AG S w w'):RN S E w'.heap v x:=by obtain⟨F,h,hb⟩:=h;exact⟨F,hE.stable h fun b hm=>c.block b (hE.lt h b hm) (hb b hm),hb⟩
theorem RN.ext {E:BI α}(hE:CC E)(h:RN S E w.heap v x)(c:AB w w'):RN S E w'.heap v x:=by obtain⟨F,h,hb⟩:=h;exact⟨F,hE.stable h fun b hm=>c.heap (hE.lt h b hm),hb⟩
theorem RN.rd {E:BI α}{H:Array Obj}(h:RN S E H v x):Rd E H v x:=by obtain⟨F,h,_⟩:=h;exact⟨F,h⟩
theorem RN.isSl {H:Array Obj}(h:RN S (HW s E) H v xs):CH v xs.length:=by obtain⟨F,h,_⟩:=h;exact h.isSl
theorem RN.lenle {H:Array Obj}(h:RN S (HW s E) H v xs):xs.length≤maxLen:=by obtain⟨F,h,_⟩:=h;exact h.lenle
theorem RN.get (hE:Db s E)(d:α){k:Nat}(h:RN S (HW s E) w.heap v xs)(hk:k<xs.length) :
  ∃cs,RN S E w.heap cs (xs.getD k d)∧∀w',AG S w w'→LD w'.heap (AF v k s) cs:=by
 obtain⟨F,h,hb⟩:=h;have hlt:=(As hE).lt h;obtain⟨cs,F1,q1,q2,q3⟩:=HW.get hE d h hk;exact⟨cs,⟨F1,q1,fun b hm=>hb b (q2 b hm)⟩,fun w' c=>q3 _ fun b hm=>c.block b (hlt b hm) (hb b hm)⟩
end rn
theorem AG.of_ext {w w':World}(S:List Nat)(h:AB w w'):AG S w w':=⟨h.os,h.tape,h.output,h.size,fun k hk _=>h.heap hk⟩
def Fy (P:Program)(t:TypeId)(s:Nat):Bool :=
 (match P.underlying t with|some (.struct _)=>true|_=>false) && (match P.info? t with|some i=>i.size == s|none=>false)
def HE (P:Program)(s:TypeId)(i off:Nat):Bool :=
 match P.underlying s with
 |some (.struct fs) =>
  match fs[i]? with
  |some f=>(f.offset == off) && (match P.info? f.type with|some inf=>inf.size != 0|none=>false)
  |none=>false
 |_=>false
section ops
variable {P:Program} {ops:Array Oper} {w0:World} {Q:Act→World→Prop} {os:List Oper} {ks:List Nat} {N:Nat} {ρ:Nat→Value} {w:World}
 {d:Nat} {ty:TypeId} {pos:String} {aft:Array Edge} {g:Option (Nat×Bool)} {t e:TypeId}
theorem FH (b o k:Nat):(⟨b,o,none⟩:Addr).add k=⟨b,o+k,none⟩:=by unfold Addr.add;split;rename_i h;rw[h];rfl;rfl
theorem Ao {s:TypeId}{x:Operand}{i:Nat}{p:Value}{b o:Nat}(off:Nat)(hf:HE P s i off=true)(hx:Bz N ρ x=p)(hp:p=.pointer (some ⟨b,o,none⟩))(hu:Up ops N ρ ⟨some d,.fieldAddr s x i,ty,pos,aft,g⟩)
  (h:LW P ops w0 Q os ks (mk N (CP ρ d (Ax p off))) w):LW P ops w0 Q (⟨some d,.fieldAddr s x i,ty,pos,aft,g⟩::os) (0::ks) (mk N ρ) w :=
 CY (by decide) rfl hu _ (fun w' _=>by
  subst hp
  unfold HE at hf
  split at hf
  rename_i fs hfs
  split at hf
  rename_i f hff
  simp only[z7,beq_iff_eq]at hf
  obtain⟨rfl,hf2⟩:=hf
  split at hf2
  rename_i inf hin
  have hne:inf.size≠0:=by simpa using hf2
  simp[execOp,Instr.fieldAt,Instr.sureAddr,run_underlying hfs,hff,hx,fieldPlace,sizeOf,typeInfo,hin,hne,FH,Ax]
  cases hf2
  cases hf
  cases hf) h
theorem LD.ptr {H:Array Obj}{p:Value}{cs:List Value}(h:LD H p cs):∃b o,p=.pointer (some ⟨b,o,none⟩):=by obtain⟨b,o,h,_⟩:=h;exact⟨b,o,h⟩
theorem AE {s:TypeId}{x:Operand}{i:Nat}{p:Value}{H:Array Obj}{cs:List Value}(off:Nat)(hf:HE P s i off=true)(hx:Bz N ρ x=p)(hp:LD H p cs)(hu:Up ops N ρ ⟨some d,.fieldAddr s x i,ty,pos,aft,g⟩)
  (h:LW P ops w0 Q os ks (mk N (CP ρ d (Ax p off))) w):LW P ops w0 Q (⟨some d,.fieldAddr s x i,ty,pos,aft,g⟩::os) (0::ks) (mk N ρ) w:=by
 obtain⟨b,o,hp⟩:=hp.ptr;exact Ao off hf hx hp hu h
theorem Ml {s:Nat}(ht:Fy P t s=true){p:Value}{cs:List Value}(h:LD w.heap p cs)(hl:cs.length=s):(Instr.loadAt t p).run P w=.ok (.agg cs.toArray) w:=by
 obtain⟨b,o,rfl,h⟩:=h;unfold Fy at ht;simp only[z7]at ht;obtain⟨h1,h2⟩:=ht;split at h1;rename_i fs hfs;split at h2;rename_i inf hin;have hs:inf.size=s:=by simpa using h2
 have hag:(isAgg t).run P w=.ok true w:=by
  unfold isAgg;simp only[Sem.run_bind,run_underlying hfs,Result.andThen_ok];rfl
 have hlc:=run_loadCells_list (P:=P) w ⟨b,o,none⟩ cs (fun j v hj=>by
  rw[FH,BT];have hjl:j<cs.length:=(List.getElem?_eq_some_iff.1 hj).1;rw[h j hjl];simp[List.getD,hj])
 rw[hl,← hs]at hlc;simp[Instr.loadAt,Instr.sureAddr,loadVar,hag,sizeOf,typeInfo,hin,hlc];cases h2;cases h1
theorem AC {k s:Nat}(hk:k=1∨k=2){x:Operand}{p:Value}(cs:List Value)(ht:Fy P t s=true)(hx:Bz N ρ x=p)(hc:∀w',AB (if k=1 then w0 else w) w'→LD w'.heap p cs)(hl:cs.length=s)
  (hu:Up ops N ρ ⟨some d,.load t x,ty,pos,aft,g⟩)
  (h:LW P ops w0 Q os ks (mk N (CP ρ d (.agg cs.toArray))) w):LW P ops w0 Q (⟨some d,.load t x,ty,pos,aft,g⟩::os) (k::ks) (mk N ρ) w :=
 CY zO rfl hu _ (fun w' hcl=>by
  have hld:LD w'.heap p cs:=by
   rcases hk with rfl|rfl;exact hc w' hcl;exact hc w' hcl
  simp[execOp,hx,Ml ht hld hl]) h
theorem LD.of_box {H:Array Obj}{b:Nat}{cs:List Value}(h:BX H b cs):LD H (.pointer (some ⟨b,0,none⟩)) cs:=by obtain⟨e,h⟩:=h;refine⟨b,0,rfl,fun i hi=>?_⟩;simp only[CB,h];simp[hi]
theorem BX.ldp {H:Array Obj}{b:Nat}{cs:List Value}(h:BX H b cs){i:Nat}(hi:i<cs.length):JU H (Ax (.pointer (some ⟨b,0,none⟩)) i)=some (cs.getD i undef):=(LD.of_box h).ld hi
theorem AL {z:Value}(hz:(P.info? t).map (·.zero)=some (some z))(hu:Up ops N ρ ⟨some d,.alloc t,ty,pos,aft,g⟩)
  (h:∀w1,AB w w1→w1.heap.size=w.heap.size+1→BX w1.heap w.heap.size z.cells.toList→LW P ops w0 Q os ks (mk N (CP ρ d (.pointer (some ⟨w.heap.size,0,none⟩)))) w1) :
  LW P ops w0 Q (⟨some d,.alloc t,ty,pos,aft,g⟩::os) (3::ks) (mk N ρ) w:=by
 obtain⟨i,hi1,hi2⟩:=Option.map_eq_some_iff.1 hz;have hrun:(execOp (Bz N ρ) ⟨some d,.alloc t,ty,pos,aft,g⟩).run P w=.ok (.value (.pointer (some ⟨w.heap.size,0,none⟩))) (w.alloc (.cells z.cells t)):=by
  simp[execOp,Instr.alloc,zeroValue,typeInfo,hi1,hi2,newVar,newRow]
 refine Gt rfl hu _ _ hrun (BA _ _)<|h _ (BA _ _) (by simp) ⟨t,?_⟩;have:=heap_alloc_new w (.cells z.cells t);simpa using this
theorem AK {x y:Operand}{b s:Nat}{vs cs:List Value}(ht:Fy P t s=true)(hx:Bz N ρ x=.pointer (some ⟨b,0,none⟩))(hy:Bz N ρ y=.agg vs.toArray)(h1:∀u∈vs,u.cells=#[u]∧u.oneCell'=true)
  (hb:BX w.heap b cs) (hl:vs.length=s) (hl2:cs.length=s) (hu:Up ops N ρ ⟨none,.store t x y,ty,pos,aft,g⟩)
  (h:∀w1,AG [b] w w1→w1.heap.size=w.heap.size→BX w1.heap b vs→LW P ops w0 Q os ks (mk N ρ) w1) :
  LW P ops w0 Q (⟨none,.store t x y,ty,pos,aft,g⟩::os) (4::ks) (mk N ρ) w:=by
 obtain⟨e,hb⟩:=hb;unfold Fy at ht;simp only[z7]at ht;obtain⟨q1,q2⟩:=ht;split at q2;rename_i inf hin;have hs:inf.size=s:=by simpa using q2
 have hst:=run_storeCells_at (P:=P) b 0 e vs 0 cs.toArray w hb (by simp;omega) fun v hv=>(h1 v hv).2;have hcs:(cs.toArray.toList.take (0+0)++vs++cs.toArray.toList.drop (0+0+vs.length))=vs:=by
  simp[List.drop_of_length_le (show cs.length≤vs.length by omega)]
 rw[hcs]at hst;have hr:(Instr.storeAt t (.pointer (some ⟨b,0,none⟩)) (.agg vs.toArray)).run P w=.ok () (w.setRow b vs.toArray):=by
  simp[Instr.storeAt,Instr.sureAddr,storeVar,sizeOf,typeInfo,hin,Value.cells,hl,hs,hst]
 refine VB rfl hu _ (L7 hx hy hr)<|h _ ⟨rfl,rfl,rfl,by simp,fun k _ hk=>setRow_other w b k _ (by simpa using hk)⟩ (by simp) ⟨e,setRow_heap w b _ _ _ _ hb⟩;cases q2
end ops
theorem XN {P : Program}{ops : Array Oper}{w0 : World}{Q : Act → World → Prop}{os : List Oper}{ks : List Nat}{N : Nat} {ρ : Nat → Value}{w : World}{d : Nat}{ty : TypeId}{pos : String}{aft : Array Edge}{g : Option (Nat×Bool)}{t : TypeId}{x : Operand}{b : Nat}{cs : List Value}(i : Nat)(u : Value)(ht : CR P t)(hb : BX w.heap b cs)(hu : Up ops N ρ ⟨some d, .load t x, ty, pos, aft, g⟩)(h : LW P ops w0 Q os ks (mk N (CP ρ d u)) w)(hx : Bz N ρ x=Ax (.pointer (some ⟨b, 0, none⟩)) i := by rfl) (hi : Nat.blt i cs.length=true := by rfl) (he : cs.getD i undef=u := by rfl) : LW P ops w0 Q (⟨some d, .load t x, ty, pos, aft, g⟩::os) (2::ks) (mk N ρ) w := by
 have hi : i<cs.length := by simpa using hi
 have hc := hb.ldp hi;rw[he]at hc;exact Aj (p := Ax (.pointer<|some ⟨b, 0, none⟩) i) (.inr rfl) u ht hx hc hu h
theorem bY {P : Program}{ops : Array Oper}{w0 : World}{Q : Act → World → Prop}{os : List Oper}{ks : List Nat}{N : Nat} {ρ : Nat → Value}{w : World}{d : Nat}{ty : TypeId}{pos : String}{aft : Array Edge}{g : Option (Nat×Bool)}{t : TypeId}{x : Operand}{b : Nat}{cs : List Value}{s : TypeId}{x2 : Operand}{j d2 : Nat}{ty2 : TypeId}{pos2 : String}{aft2 : Array Edge}{g2 : Option (Nat×Bool)}(i : Nat)(hf : HE P s j i=true)(u : Value)(ht : CR P t)(hb : BX w.heap b cs)(hu : Up ops N ρ ⟨some d, .fieldAddr s x j, ty, pos, aft, g⟩)(hu2 : Up ops N (CP ρ d (Ax (.pointer (some ⟨b, 0, none⟩)) i)) ⟨some d2, .load t x2, ty2, pos2, aft2, g2⟩)(h : LW P ops w0 Q os ks (mk N (CP (CP ρ d (Ax (.pointer (some ⟨b, 0, none⟩)) i)) d2 u)) w)(hx : Bz N ρ x=.pointer (some ⟨b, 0, none⟩) := by rfl) (hx2 : Bz N (CP ρ d (Ax (.pointer (some ⟨b, 0, none⟩)) i)) x2=Ax (.pointer (some ⟨b, 0, none⟩)) i := by rfl) (hi : Nat.blt i cs.length=true := by rfl) (he : cs.getD i undef=u := by rfl) : LW P ops w0 Q (⟨some d, .fieldAddr s x j, ty, pos, aft, g⟩::⟨some d2, .load t x2, ty2, pos2, aft2, g2⟩::os) (0::2::ks) (mk N ρ) w :=
 Ao (p := .pointer (some ⟨b, 0, none⟩)) (b := b) (o := 0) i hf hx rfl hu (XN i u ht hb hu2 h hx2 hi he)
theorem XO {P : Program}{ops : Array Oper}{w0 : World}{Q : Act → World → Prop}{os : List Oper}{ks : List Nat}{N : Nat} {ρ : Nat → Value}{w : World}{d : Nat}{ty : TypeId}{pos : String}{aft : Array Edge}{g : Option (Nat×Bool)}{t : TypeId}{x : Operand}{b : Nat}{cs : List Value}(i : Nat)(u : Value)(ht : CR P t)(hb : BX w0.heap b cs)(hu : Up ops N ρ ⟨some d, .load t x, ty, pos, aft, g⟩)(h : LW P ops w0 Q os ks (mk N (CP ρ d u)) w)(hx : Bz N ρ x=Ax (.pointer (some ⟨b, 0, none⟩)) i := by rfl) (hi : Nat.blt i cs.length=true := by rfl) (he : cs.getD i undef=u := by rfl) : LW P ops w0 Q (⟨some d, .load t x, ty, pos, aft, g⟩::os) (1::ks) (mk N ρ) w := by
 have hi : i<cs.length := by simpa using hi
 have hc := hb.ldp hi;rw[he]at hc;exact Aj (p := Ax (.pointer<|some ⟨b, 0, none⟩) i) (.inl rfl) u ht hx hc hu h
theorem bZ {P : Program}{ops : Array Oper}{w0 : World}{Q : Act → World → Prop}{os : List Oper}{ks : List Nat}{N : Nat} {ρ : Nat → Value}{w : World}{d : Nat}{ty : TypeId}{pos : String}{aft : Array Edge}{g : Option (Nat×Bool)}{t : TypeId}{x : Operand}{b : Nat}{cs : List Value}{s : TypeId}{x2 : Operand}{j d2 : Nat}{ty2 : TypeId}{pos2 : String}{aft2 : Array Edge}{g2 : Option (Nat×Bool)}(i : Nat)(hf : HE P s j i=true)(u : Value)(ht : CR P t)(hb : BX w0.heap b cs)(hu : Up ops N ρ ⟨some d, .fieldAddr s x j, ty, pos, aft, g⟩)(hu2 : Up ops N (CP ρ d (Ax (.pointer (some ⟨b, 0, none⟩)) i)) ⟨some d2, .load t x2, ty2, pos2, aft2, g2⟩)(h : LW P ops w0 Q os ks (mk N (CP (CP ρ d (Ax (.pointer (some ⟨b, 0, none⟩)) i)) d2 u)) w)(hx : Bz N ρ x=.pointer (some ⟨b, 0, none⟩) := by rfl) (hx2 : Bz N (CP ρ d (Ax (.pointer (some ⟨b, 0, none⟩)) i)) x2=Ax (.pointer (some ⟨b, 0, none⟩)) i := by rfl) (hi : Nat.blt i cs.length=true := by rfl) (he : cs.getD i undef=u := by rfl) : LW P ops w0 Q (⟨some d, .fieldAddr s x j, ty, pos, aft, g⟩::⟨some d2, .load t x2, ty2, pos2, aft2, g2⟩::os) (0::1::ks) (mk N ρ) w :=
 Ao (p := .pointer (some ⟨b, 0, none⟩)) (b := b) (o := 0) i hf hx rfl hu (XO i u ht hb hu2 h hx2 hi he)
theorem cA {ops : Array Oper}{N : Nat} {ρ : Nat → Value}{d : Option Tmp}{op : Op}{ty : TypeId}{pos : String}{aft : Array Edge}{j : Nat}{b : Bool}(e : Nat)(hd : (ops[j]?).bind (·.dst)=some e := by rfl) (hlt : Nat.blt e N=true := by rfl) (hv : ρ e=.bool b := by rfl) : Up ops N ρ ⟨d, op, ty, pos, aft, some (j, b)⟩ := Al hd hlt hv
end
section
inductive Ex where
 |mk (kind num pick count:Int) (kids:List Ex)
namespace Ex
def kind:Ex→Int|mk k _ _ _ _=>k
def num:Ex→Int|mk _ n _ _ _=>n
def pick:Ex→Int|mk _ _ p _ _=>p
def count:Ex→Int|mk _ _ _ c _=>c
def kids:Ex→List Ex|mk _ _ _ _ l=>l
def zero:Ex:=mk 0 0 0 0 []
end Ex
abbrev CD (x:Int):Prop:=-9223372036854775808≤x∧x≤9223372036854775807
def C8 (e:Ex)(v:Value):List Value:=[.int .i64 e.kind,.int .i64 e.num,.int .i64 e.pick,.int .i64 e.count,v]
structure Eu (e:Ex):Prop where
 kind:CD e.kind
 num:CD e.num
 pick:CD e.pick
 count:CD e.count
def Hv:Nat→Ci Ex
 |0=>fun _ _ _ _=>False
 |d+1=>fun H cs e F=>∃v,cs=C8 e v∧Eu e∧HW 5 (Hv d) H v e.kids F
theorem Aq:∀d,Db 5 (Hv d)
 |0=>⟨fun h=>h.elim,fun h=>h.elim,fun h=>h.elim,fun h=>h.elim⟩
 |d+1=>by
  have ih:=Aq d
  refine⟨?_,?_,?_,?_⟩
  rintro H cs e F ⟨v,rfl,_,_⟩;rfl
  rintro H cs e F ⟨v,rfl,_,h⟩ u hu
  unfold C8 at hu
  simp only[ze,z2,or_false]at hu
  rcases hu with rfl|rfl|rfl|rfl|rfl
  exact⟨rfl,rfl⟩
  exact⟨rfl,rfl⟩
  exact⟨rfl,rfl⟩
  exact⟨rfl,rfl⟩
  exact⟨(As ih).cells h,(As ih).one h⟩
  rintro H cs e F ⟨v,rfl,_,h⟩ b hb
  exact (As ih).lt h b hb
  rintro H H' cs e F ⟨v,rfl,hr,h⟩ hb
  exact⟨v,rfl,hr,(As ih).stable h hb⟩
structure RX (S:List Nat)(d:Nat)(H:Array Obj)(v:Value)(e:Ex):Prop where
 rng:Eu e
 rn:RN S (HW 5 (Hv d)) H v e.kids
theorem RX.of {S:List Nat}{d:Nat}{H:Array Obj}{cs:List Value}{e:Ex}(h:RN S (Hv d) H cs e):∃d' v,d=d'+1∧cs=C8 e v∧RX S d' H v e:=by
 obtain⟨F,h,hb⟩:=h;cases d with
 |zero=>exact h.elim
 |succ d =>
  obtain⟨v,rfl,hr,h⟩:=h;exact⟨d,v,rfl,rfl,hr,F,h,hb⟩
theorem RX.mk' {S:List Nat}{d:Nat}{H:Array Obj}{v:Value}{e:Ex}(h:RX S d H v e):RN S (Hv (d+1)) H (C8 e v) e:=by obtain⟨hr,F,h,hb⟩:=h;exact⟨F,⟨v,rfl,hr,h⟩,hb⟩
section rx
variable {S:List Nat} {d:Nat} {w w':World} {v:Value} {e:Ex}
theorem RX.ext (h:RX S d w.heap v e)(k:AB w w'):RX S d w'.heap v e:=⟨h.rng,h.rn.ext (As (Aq d)) k⟩
theorem RX.ones {H:Array Obj}(h:RX S d H v e):∀u∈C8 e v,u.cells=#[u]∧u.oneCell'=true:=by obtain⟨F,h,_⟩:=h.mk';exact (Aq (d+1)).one h
end rx
structure Fn where
 name:ByteArray
 params:Int
 outs:List Ex
def Fn.zero:Fn:=⟨.empty,0,[]⟩
def GM (f:Fn)(v:Value):List Value:=[.string f.name,.int .i64 f.params,v]
def VF (d:Nat):Ci Fn:=fun H cs f F=>∃v,cs=GM f v∧CD f.params∧HW 5 (Hv d) H v f.outs F
theorem Av (d:Nat):Db 3 (VF d):=by have ih:=As<|Aq d;refine⟨?_,?_,?_,?_⟩;rintro H cs e F ⟨v,rfl,_,_⟩;rfl;rintro H cs e F ⟨v,rfl,_,h⟩ u hu;unfold GM at hu;simp only[ze,z2,or_false]at hu;rcases hu with rfl|rfl|rfl;exact⟨rfl,rfl⟩;exact⟨rfl,rfl⟩;exact⟨ih.cells h,ih.one h⟩;rintro H cs e F ⟨v,rfl,_,h⟩ b hb;exact ih.lt h b hb;rintro H H' cs e F ⟨v,rfl,hr,h⟩ hb;exact⟨v,rfl,hr,ih.stable h hb⟩
structure RF (S:List Nat)(d:Nat)(H:Array Obj)(v:Value)(f:Fn):Prop where
 rng:CD f.params
 rn:RN S (HW 5 (Hv d)) H v f.outs
theorem RF.of {S:List Nat}{d:Nat}{H:Array Obj}{cs:List Value}{f:Fn}(h:RN S (VF d) H cs f):∃v,cs=GM f v∧RF S d H v f:=by obtain⟨F,⟨v,rfl,hr,h⟩,hb⟩:=h;exact⟨v,rfl,hr,F,h,hb⟩
theorem RF.one {S:List Nat}{d:Nat}{H:Array Obj}{v:Value}{f:Fn}(h:RF S d H v f):v.cells=#[v]∧v.oneCell'=true:=by obtain⟨_,F,h,_⟩:=h;exact⟨(As (Aq d)).cells h,(As (Aq d)).one h⟩
theorem RF.ones {S:List Nat}{d:Nat}{H:Array Obj}{v:Value}{f:Fn}(h:RF S d H v f):∀u∈GM f v,u.cells=#[u]∧u.oneCell'=true:=by intro u hu;unfold GM at hu;simp only[ze,z2,or_false]at hu;rcases hu with rfl|rfl|rfl;exact⟨rfl,rfl⟩;exact⟨rfl,rfl⟩;exact h.one
abbrev RP (S:List Nat)(d:Nat)(H:Array Obj)(v:Value)(p:List Fn):Prop:=RN S (HW 3 (VF d)) H v p
theorem Ap {v:Value}{n:Nat}(h:CH v n):v.cells=#[v]∧v.oneCell'=true:=by obtain⟨a,c,rfl,_⟩:=h;exact⟨rfl,rfl⟩
mutual
def Ex.size:Ex→Nat
 |.mk _ _ _ _ l=>1+Ex.sizes l
def Ex.sizes:List Ex→Nat
 |[]=>0
 |e::l=>e.size+Ex.sizes l
end
mutual
def Ex.deep:Ex→Nat
 |.mk _ _ _ _ l=>Ex.deeps l+1
def Ex.deeps:List Ex→Nat
 |[]=>0
 |e::l=>max e.deep (Ex.deeps l)
end
theorem Be (e:Ex):e.size=1+Ex.sizes e.kids:=by cases e;rw[Ex.size];rfl
theorem Er (e:Ex):e.deep=Ex.deeps e.kids+1:=by cases e;rw[Ex.deep];rfl
theorem J1 (l:List Ex)(e:Ex):Ex.sizes (l++[e])=Ex.sizes l+e.size:=by
 induction l with
 |nil=>rw[zl,Ex.sizes,Ex.sizes,Ex.sizes];omega
 |cons x l ih=>rw[List.cons_append,Ex.sizes,Ex.sizes,ih];omega
theorem J2 (l:List Ex)(e:Ex):Ex.deeps (l++[e])=max (Ex.deeps l) e.deep:=by
 induction l with
 |nil=>rw[zl,Ex.deeps,Ex.deeps,Ex.deeps];omega
 |cons x l ih=>rw[List.cons_append,Ex.deeps,Ex.deeps,ih];omega
theorem Ek {l:List Ex}{k:Nat}(hk:k<l.length):Ex.sizes (l.take (k+1))=Ex.sizes (l.take k)+(l.getD k Ex.zero).size:=by rw[List.take_succ_eq_append_getElem hk,J1];simp[hk]
theorem Ha {l:List Ex}{k:Nat}(hk:k<l.length):Ex.deeps (l.take (k+1))=max (Ex.deeps (l.take k)) (l.getD k Ex.zero).deep:=by rw[List.take_succ_eq_append_getElem hk,J2];simp[hk]
theorem DO:∀(l:List Ex)(k:Nat),Ex.sizes (l.take k)≤Ex.sizes l
 |l,0=>by rw[List.take_zero,Ex.sizes];omega
 |[],k+1=>by simp
 |e::l,k+1=>by rw[List.take_succ_cons,Ex.sizes,Ex.sizes];have:=DO l k;omega
theorem Bu {l:List Ex}{k:Nat}(hk:k<l.length):(l.getD k Ex.zero).size≤Ex.sizes l:=by have h1:=Ek hk;have h2:=DO l (k+1);omega
theorem Mm:Ex.sizes []=0:=by rw[Ex.sizes]
theorem Mn:Ex.deeps []=0:=by rw[Ex.deeps]
theorem Mo {l:List Ex}{k:Nat}(hk:l.length≤k):Ex.sizes (l.take k)=Ex.sizes l:=by rw[za hk]
theorem JW {l:List Ex}{k:Nat}(hk:l.length≤k):Ex.deeps (l.take k)=Ex.deeps l:=by rw[za hk]
mutual
theorem Fh:∀e:Ex,e.deep≤e.size
 |.mk _ _ _ _ l=>by rw[Ex.deep,Ex.size];have:=J3 l;omega
theorem J3:∀l:List Ex,Ex.deeps l≤Ex.sizes l
 |[]=>by rw[Ex.deeps,Ex.sizes];omega
 |e::l=>by rw[Ex.deeps,Ex.sizes];have:=Fh e;have:=J3 l;omega
end
section ops
variable {P:Program} {ops:Array Oper} {w0:World} {Q:Act→World→Prop} {os:List Oper} {ks:List Nat} {N:Nat} {ρ:Nat→Value} {w:World}
 {d:Nat} {ty:TypeId} {pos:String} {aft:Array Edge} {g:Option (Nat×Bool)}
theorem XP {t t':TypeId}{x y:Operand}{k:IntKind}{a b:Int}(c:Int)(hc:max a b=c)(hx:Bz N ρ x=.int k a)(hy:Bz N ρ y=.int k b)(hu:Up ops N ρ ⟨some d,.call ⟨.builtin .max,#[x,y],#[t,t']⟩,ty,pos,aft,g⟩)
  (h:LW P ops w0 Q os ks (mk N (CP ρ d (.int k c))) w):LW P ops w0 Q (⟨some d,.call ⟨.builtin .max,#[x,y],#[t,t']⟩,ty,pos,aft,g⟩::os) (0::ks) (mk N ρ) w :=
 CY (by decide) rfl hu _ (fun w' _=>by
  have e:(if b > a then b else a)=c:=by omega
  simp[execOp,resolve,invoke,builtin,hx,hy,Builtin.max_,Builtin.max2,List.foldlM,e]) h
end ops
end
section
open Go Go.ChangeShapes Go.WideShapes Go.RowKit Go.Deep
theorem R0 {α:Type}{E:BI α}{H:Array Obj}(U:Nat→Value)(X:Nat→α):∀(n:Nat),(∀i,i<n→Rd E H (U i) (X i))→∃F,els E H ((List.range n).map U) ((List.range n).map X) F
 |0,_=>⟨[],rfl⟩
 |n+1,h=>by
  obtain⟨F,hF⟩:=R0 U X n fun i hi=>h i zO
  obtain⟨G,hG⟩:=h n zO
  refine⟨F++(G++[]),?_⟩
  rw[List.range_succ,List.map_append,List.map_append]
  exact els.append hF ⟨G,[],rfl,hG,rfl⟩
theorem VG {α:Type}{E:BI α}{W:World}{a:Option Addr}{n cap:Nat}(ha:a=none→n=0)(hm:n≤maxLen)(U:Nat→Value)(X:Nat→α)
  (hc:∀a' i,a=some a'→i<n→W.cell? (a'.add i)=some (U i)) (hE:∀i,i<n→Rd E W.heap (U i) (X i)):Rd (B8 E) W.heap (.slice a n cap) ((List.range n).map X):=by
 by_cases h0:n=0;subst h0;exact⟨[],.inl ⟨a,cap,rfl,rfl,rfl⟩⟩;obtain⟨F,hF⟩:=R0 U X n hE;cases a with
 |none=>exact absurd (ha rfl) h0
 |some a' =>
  obtain⟨g,off,spot⟩:=a';have h1:=hc _ 0 rfl zO;have hs:spot=none:=by simpa [Addr.add]using World.cell?_spot h1
  subst hs;have hcell:∀i,i<n→CB W.heap g (off+i)=some (U i):=fun i hi=>by
   have:=hc _ i rfl hi;rw[add_plain,BT]at this;exact this
  have h2:=hcell 0 zO;unfold CB at h2;cases hg:W.heap[g]? with
  |none=>rw[hg]at h2;cases h2
  |some o =>
   cases o with
   |cells cur e fr =>
    refine⟨g::F,.inr ⟨(List.range n).map U,g,off,cap,cur,e,fr,F,hF,by simp,hg,?_,by simpa using hm,rfl⟩⟩;apply List.ext_getElem?
    intro i;simp only[zg,List.length_range,List.getElem?_take,List.getElem?_drop];by_cases hi:i<n;have:=hcell i hi;unfold CB at this;rw[hg]at this;simp only[Array.getElem?_toList]at *;rw[if_pos hi,this];simp[hi];rw[if_neg hi];simp[hi]
   |_=>rw[hg]at h2;cases h2
section
variable {H:Type} {enc:TypeId × Value→H} {P:Program} {W:World}
theorem AB.trodAll (hl:laidOutB P=true){W':World}(hx:AB W W'):∀ {ts:List TypeId}{vs:List Value}{ds:List (DataW H)}{ps:List MemPlace},(∀t∈ts,P.readableRec t=true∧t<P.types.size)→(∀x∈ps,x.block<W.heap.size) →
  DataW.TrodAll enc P W 0 (fun _=>true) true ts vs ds ps→DataW.TrodAll enc P W' 0 (fun b=>decide (b<W.heap.size)) true ts vs ds ps
 |[],[],[],_,_,_,h=>h
 |t::ts,v::vs,d::ds,ps,hr,hlt,⟨p,q,h1,h2,e⟩=>by
  subst e
  exact⟨p,q,Below.trod hl (hr t (z0 ..)).1 (hr t (z0 ..)).2 h1 hx fun x hx=>hlt x (z8 _ hx),
   AB.trodAll hl hx (fun t ht=>hr t (z3 _ ht)) (fun x hx=>hlt x (z1 _ hx)) h2,rfl⟩
 |[],[],_::_,_,_,_,h=>h.elim
 |[],_::_,_,_,_,_,h=>h.elim
 |_::_,[],_,_,_,_,h=>h.elim
 |_::_,_::_,[],_,_,_,h=>h.elim
theorem R1 {fn:Func}{s:ChangeSpec}{W':World}{args:Array Value}{ds:List (DataW H)}{before:List MemPlace}{tb:TypeId}(hl:laidOutB P=true)
  (hr:∀t∈fn.params.toList,P.readableRec t=true∧t<P.types.size) (hv:s.vars=[]) (hres:fn.resultTypes=#[tb]) (hb:P.underlying tb=some .bool)
  (hW:DataW.Whole enc P fn.params.toList s.vars false W args.toList ds [] before) (he:s.fn H (ds++[]) = { results:=[.lit (.bool true)],args:=ds }) (hx:AB W W') :
  s.post enc P fn false true false false W args (.bool true) W':=by
 have hW':=hW;obtain⟨p,q,hA,hV,rfl,hfz,hnd⟩:=hW;have hlt:∀x∈p++q,x.block<W.heap.size:=fun x hx=>hW'.lt x hx;rw[hv]at hV;obtain⟨_,rfl⟩:=trodVars_none hV;refine⟨ds,[],_,[],p,[],hW',?_,?_,?_,Below.frame hx _,fun h=>by cases h⟩;rw[he,hres];exact trodAll_mk1 (shut_bool hb true);rw[he];exact AB.trodAll hl hx hr (fun x hx=>hlt x (z8 _ hx)) hA;rw[he,hv];rfl
end
end
section
open Go Go.ChangeShapes Go.WideShapes Go.RowKit Go.Deep
section
variable {H:Type} {enc:TypeId × Value→H} {P:Program} {W:World}
theorem TD {z:Int}(h:0≤z∧z≤255):(((UInt8.ofNat z.toNat).toNat:Nat):Int)=z:=by rw[UInt8.toNat_ofNat'];omega
theorem Ot {q:TypeId}{base fuel:Nat}{held:Bool}{u:Value}{x:DataW H×List MemPlace}{t:TypeId}(ht:P.underlying t=some (.slice q))(hq:P.underlying q=some (.int .u8))(cq:P.cellsOf q=1)
  (hf:DataW.trod enc P W base (fun _=>true) held fuel t [u]=some x):∃zsq:List UInt8,Rd (B8 rU) W.heap u zsq:=by
 rcases open_ints ht hq cq hf with⟨hcs,_⟩|⟨a,len,cap,zsq,hcs,_,hl,hm,hz,_,hc,hw⟩;simp only[List.cons.injEq,and_true]at hcs;subst hcs;exact⟨[],[],.inl ⟨none,0,rfl,rfl,rfl⟩⟩;simp only[List.cons.injEq,and_true]at hcs;subst hcs;simp only[if_true]at hz;refine⟨(List.range len).map fun i=>UInt8.ofNat (zsq.getD i 0).toNat,VG (fun h=>by cases h) zO (fun i=>.int .u8 (zsq.getD i 0)) _ (fun a' i ea hi=>by cases ea;exact hc i zO) fun i hi=>⟨[],?_,rfl⟩⟩;have hb:0≤zsq.getD i 0∧zsq.getD i 0≤255:=by
  have h:=hw (zsq.getD i 0) (by
   rw[List.getD_eq_getElem?_getD,List.getElem?_eq_getElem (show i<zsq.length by omega)];exact List.getElem_mem _)
  simp only[Lit.wf,z7,decide_eq_true_eq]at h;exact h
 rw[TD hb]
theorem Nw {t q:TypeId}{base:Nat}{held:Bool}{v:Value}{d:DataW H}{ps:List MemPlace}(ht:P.underlying t=some (.slice q))(hq:P.underlying q=some (.int .u8))(cq:P.cellsOf q=1)
  (hv:∃a len cap,v=.slice a len cap) (h:DataW.Trod enc P W base (fun _=>true) held t v d ps):∃zsq:List UInt8,Rd (B8 rU) W.heap v zsq:=by
 obtain⟨a0,n0,c0,rfl⟩:=hv;obtain⟨fuel,hf⟩:=h;exact Ot ht hq cq hf
end
end
section
def JP (s:ByteArray)(i:Nat):Nat:=((s[i]?).getD 0).toNat
section ops
variable {P:Program} {ops:Array Oper} {w0:World} {Q:Act→World→Prop} {os:List Oper} {ks:List Nat} {N:Nat} {ρ:Nat→Value} {w:World}
 {d:Nat} {ty:TypeId} {pos:String} {aft:Array Edge} {g:Option (Nat×Bool)}
theorem DH {t:TypeId}{x y:Operand}{s:ByteArray}{i:Int}(j:Nat)(ht:P.underlying t=some .string)(hx:Bz N ρ x=.string s)(hy:Bz N ρ y=.int .i64 i)(hj:i=(j:Int))(hlt:j<s.size)(hu:Up ops N ρ ⟨some d,.index t x y,ty,pos,aft,g⟩)
  (h:LW P ops w0 Q os ks (mk N (CP ρ d (.int .u8 ((JP s j:Nat):Int)))) w):LW P ops w0 Q (⟨some d,.index t x y,ty,pos,aft,g⟩::os) (0::ks) (mk N ρ) w :=
 CY (by decide) rfl hu _ (fun w' _=>by
  subst hj
  have e:s[j]? = some s[j]:=getElem?_pos s j hlt
  simp[execOp,hx,hy,Instr.index,asIntOf,run_underlying ht,e,JP]) h
end ops
end
section
structure Ow {α:Type}(E:BI α)(B T:Nat)(H:Array Obj)(v:Value)(x:α)(F:List Nat):Prop where
 own:E H v x F
 nodup:F.Nodup
 low:∀b∈F,B≤b
 high:∀b∈F,b<T
section
variable {α:Type} {E:BI α} {B T U:Nat} {w w':World} {v:Value} {x:α} {F G:List Nat}
theorem Ow.fr (h:Ow E B T w.heap v x F):Fr E B T w.heap v x:=⟨F,h.own,h.nodup,fun b hb=>⟨h.low b hb,h.high b hb⟩⟩
theorem Ow.ext (hE:CC E)(h:Ow E B T w.heap v x F)(k:AB w w'):Ow E B T w'.heap v x F:=⟨TB hE h.own k,h.nodup,h.low,h.high⟩
theorem Ow.keep (hE:CC E)(h:Ow E B T w.heap v x F)(c:AG G w w')(hG:∀b∈G,b∉F):Ow E B T w'.heap v x F:=⟨Qy hE h.own c hG,h.nodup,h.low,h.high⟩
theorem Ow.up {T':Nat}(h:Ow E B T w.heap v x F)(hT:T≤T'):Ow E B T' w.heap v x F:=⟨h.own,h.nodup,h.low,fun b hb=>Nat.lt_of_lt_of_le (h.high b hb) hT⟩
end
end
section
theorem FQ {β:Type}{l r:List β}{k:Nat}{d:β}(h:k<l.length):(l++r).getD k d=l.getD k d:=by rw[List.getD_eq_getElem?_getD,List.getD_eq_getElem?_getD,List.getElem?_append_left h]
theorem J4 {β:Type}{l:List β}{x d:β}{k:Nat}(h:k=l.length):(l++[x]).getD k d=x:=by subst h;rw[List.getD_eq_getElem?_getD,List.getElem?_append_right (A7 _)];simp
theorem B9 {g:Nat}{S:List Nat}(hg:g∈S):∀x∈[g],x∈S:=fun x hx=>by rw[A9 hx];exact hg
theorem M0 {g:Nat}{S F:List Nat}(hg:g∈S):∀x∈[g],x∈S++F:=fun x hx=>z8 _ (B9 hg x hx)
theorem B8.get2 {α:Type}{E:BI α}{H:Array Obj}{v:Value}{xs:List α}{F:List Nat}(d:α){k:Nat}(h:B8 E H v xs F)(hk:k<xs.length) :
  ∃u F1,(∀H':Array Obj,(∀b∈F,H'[b]? = H[b]?)→JU H' (AF v k 1)=some u)∧E H u (xs.getD k d) F1∧∀b∈F1,b∈F:=by
 rcases h with⟨a,cap,rfl,rfl,_⟩|⟨us,g,off,cap,cur,e,fr,F',h,rfl,hg,hw,_,rfl⟩;simp at hk;obtain⟨u,F1,hu,hx,hb⟩:=h.get d hk;refine⟨u,F1,fun H' hH=>?_,hx,fun b hh=>z3 _ (hb b hh)⟩;rw[MP];simp only[JU,CB,hH g (z0 ..),hg];rw[← hw,List.getElem?_take,if_pos hk,List.getElem?_drop]at hu;simpa using hu
section rn
variable {α:Type} {S F:List Nat} {w w':World} {E:BI α} {v:Value} {xs:List α} {x:α} {g:Nat}
theorem RN.run (hE:CC E)(h:RN S E w.heap v x)(hg:g∈S)(c:AG [g] w w'):RN S E w'.heap v x:=h.chg hE (c.sub (B9 hg))
theorem RN.add (hE:CC E)(h:RN S E w.heap v x)(hF:∀b∈F,w.heap.size≤b):RN (S++F) E w.heap v x:=by obtain⟨G,h1,h2⟩:=h;refine⟨G,h1,fun b hb hm=>(zi.1 hm).elim (h2 b hb) fun hf=>?_⟩;have:=hE.lt h1 b hb;have:=hF b hf;omega
theorem RN.getL (hE:CC E)(d:α){k:Nat}(h:RN S (B8 E) w.heap v xs)(hk:k<xs.length) :
  ∃u,(∀w',AG S w w'→JU w'.heap (AF v k 1)=some u)∧RN S E w.heap u (xs.getD k d):=by
 obtain⟨F,h,hb⟩:=h;have hlt:=(HU hE).lt h;obtain⟨u,F1,h1,h2,h3⟩:=B8.get2 d h hk;exact⟨u,fun w' c=>h1 _ fun b hm=>c.block b (hlt b hm) (hb b hm),F1,h2,fun b hm=>hb b (h3 b hm)⟩
theorem RN.getI {xs:List Int}{k:Nat}(h:RN S (B8 rI) w.heap v xs)(hk:k<xs.length) :
  (∀w',AG S w w'→JU w'.heap (AF v k 1)=some (.int .i64 (xs.getD k 0)))∧-9223372036854775808≤xs.getD k 0∧xs.getD k 0≤9223372036854775807:=by
 obtain⟨u,h1,F1,h2,_⟩:=h.getL B1 0 hk;rw[h2.1]at h1;exact⟨h1,h2.2.2⟩
theorem RN.slL {H:Array Obj}(h:RN S (B8 E) H v xs):Go.Proofs.YtlbefjfhfodnlaaGreatDoor.CH v xs.length:=by obtain⟨F,h,_⟩:=h;exact B8.isSl h
theorem RN.lenL {H:Array Obj}(h:RN S (B8 E) H v xs):xs.length≤maxLen:=by obtain⟨F,h,_⟩:=h;exact h.lenle
theorem RN.of_fr1 {e:TypeId}{B U:Nat}{H:Array Obj}{xs:List Int}(h:Fr (BG rI e) B U H v xs)(hS:∀b∈S,b<B):RN S (B8 rI) H v xs:=by obtain⟨F,h1,_,h3⟩:=h;exact⟨F,h1.rd id,fun b hb hm=>by have:=h3 b hb;have:=hS b hm;omega⟩
theorem RN.of_fr2 {e e':TypeId}{B U:Nat}{H:Array Obj}{xs:List (List Int)}(h:Fr (BG (BG rI e) e') B U H v xs)(hS:∀b∈S,b<B):RN S (B8 (B8 rI)) H v xs:=by obtain⟨F,h1,_,h3⟩:=h;exact⟨F,h1.rd fun h=>h.rd id,fun b hb hm=>by have:=h3 b hb;have:=hS b hm;omega⟩
theorem RN.one1 {H:Array Obj}(hE:CC E)(h:RN S E H v x):v.cells=#[v]∧v.oneCell'=true:=by obtain⟨F,h,_⟩:=h;exact⟨hE.cells h,hE.one h⟩
end rn
def rP {α:Type}(E:Ci α):BI α:=fun H v x F=>∃cs F' g o,v=.pointer (some ⟨g,o,none⟩)∧g<H.size∧(∀i,i<cs.length→CB H g (o+i)=some (cs.getD i undef))∧E H cs x F'∧F=g::F'
theorem B2 {α:Type}{s:Nat}{E:Ci α}(hE:Db s E):CC (rP E) where
 cells:=by rintro H v x F ⟨cs,F',g,o,rfl,_⟩;rfl
 one:=by rintro H v x F ⟨cs,F',g,o,rfl,_⟩;rfl
 lt:=by
  rintro H v x F ⟨cs,F',g,o,rfl,hg,hc,he,rfl⟩ b hb;rcases ze.1 hb with rfl|hb;exact hg;exact hE.lt he b hb
 stable:=by
  rintro H H' v x F ⟨cs,F',g,o,rfl,hg,hc,he,rfl⟩ hb;refine⟨cs,F',g,o,rfl,?_,fun i hi=>?_,hE.stable he fun b hm=>hb b (z3 _ hm),rfl⟩;have:=hb g (z0 ..);rcases Nat.lt_or_ge g H'.size with h|h;exact h;rw[Array.getElem?_eq_none h,Array.getElem?_eq_getElem hg]at this;cases this;have:=hc i hi;unfold CB at this ⊢;rw[hb g (z0 ..)];exact this
section rp
variable {α:Type} {S:List Nat} {w w':World} {s:Nat} {E:Ci α} {v p:Value} {xs:List α} {x:α}
theorem RN.ptr (hE:Db s E)(hs:0<s)(d:α){k:Nat}{H:Array Obj}(h:RN S (HW s E) H v xs)(hk:k<xs.length):RN S (rP E) H (AF v k s) (xs.getD k d):=by
 obtain⟨F,h,hb⟩:=h;rcases h with⟨a,cap,rfl,rfl,_⟩|⟨css,g,off,cap,cur,e,fr,F',h,rfl,hg,hw,_,rfl⟩;simp at hk;obtain⟨cs,F1,q1,q2,q3⟩:=h.get hE d hk;rw[QZ];refine⟨g::F1,⟨cs,F1,g,off+k*s,rfl,getElem?_lt hg,fun i hi=>?_,q1,rfl⟩,fun b hm=>?_⟩;rw[hE.len q1]at hi;have h1:=q3 i hi;have hlt:k*s+i<xs.length*s:=by
  have:(k+1)*s≤xs.length*s:=Nat.mul_le_mul_right s hk;rw[Nat.succ_mul]at this;omega
 rw[← hw,List.getElem?_take,if_pos hlt,List.getElem?_drop]at h1;simp only[CB,hg];rw[Nat.add_assoc];simpa using h1;rcases ze.1 hm with rfl|hm;exact hb _ (z0 ..);exact hb b<|z3 _<|q2 b hm
theorem RN.at (hE:Db s E)(h:RN S (rP E) w.heap p x):∃cs,RN S E w.heap cs x∧∀w',AG S w w'→LD w'.heap p cs:=by obtain⟨F,h,hb⟩:=h;have hlt:=(B2 hE).lt h;obtain⟨cs,F',g,o,rfl,hg,hc,he,rfl⟩:=h;refine⟨cs,⟨F',he,fun b hm=>hb b (z3 _ hm)⟩,fun w' c=>⟨g,o,rfl,fun i hi=>?_⟩⟩;have:=hc i hi;unfold CB at this ⊢;rw[c.block g hg (hb g (z0 ..))];exact this
theorem RN.isPtr {H:Array Obj}(h:RN S (rP E) H p x):∃g o,p=.pointer (some ⟨g,o,Option.none⟩):=by obtain⟨F,⟨cs,F',g,o,rfl,_⟩,_⟩:=h;exact⟨g,o,rfl⟩
theorem RN.box {b:Nat}{H:Array Obj}{cs:List Value}(hB:BX H b cs)(h:RN S E H cs x)(hb:b∉S):RN S (rP E) H (.pointer (some ⟨b,0,Option.none⟩)) x:=by have hl:=hB.lt;obtain⟨e,hB⟩:=hB;obtain⟨F,h1,h2⟩:=h;refine⟨b::F,⟨cs,F,b,0,rfl,hl,fun i hi=>?_,h1,rfl⟩,fun c hc=>?_⟩;simp only[CB,hB];simp[hi];rcases ze.1 hc with rfl|hc;exact hb;exact h2 c hc
end rp
def H4 (d:Nat):Ci (List Fn):=fun H cs p F=>∃v,cs=[v]∧HW 3 (VF d) H v p F
theorem AV (d:Nat):Db 1 (H4 d):=by have ih:=As<|Av d;refine⟨?_,?_,?_,?_⟩;rintro H cs e F ⟨v,rfl,_⟩;rfl;rintro H cs e F ⟨v,rfl,h⟩ u hu;rw[A9 hu];exact⟨ih.cells h,ih.one h⟩;rintro H cs e F ⟨v,rfl,h⟩ b hb;exact ih.lt h b hb;rintro H H' cs e F ⟨v,rfl,h⟩ hb;exact⟨v,rfl,ih.stable h hb⟩
theorem RPr.of {S:List Nat}{d:Nat}{H:Array Obj}{cs:List Value}{p:List Fn}(h:RN S (H4 d) H cs p):∃v,cs=[v]∧RP S d H v p:=by obtain⟨F,⟨v,rfl,h⟩,hb⟩:=h;exact⟨v,rfl,F,h,hb⟩
theorem RP.mk' {S:List Nat}{d:Nat}{H:Array Obj}{v:Value}{p:List Fn}(h:RP S d H v p):RN S (H4 d) H [v] p:=by obtain⟨F,h,hb⟩:=h;exact⟨F,⟨v,rfl,h⟩,hb⟩
structure MQ (e:TypeId)(S:List Nat)(B:Nat)(H:Array Obj)(v:Value)(xs:List (List Int))(us:List Value)(F:List Nat):Prop where
 own:BG rV e H v us F
 nd:F.Nodup
 low:∀b∈F,B≤b
 len:us.length=xs.length
 els:∀k,k<xs.length→RN (S++F) (B8 rI) H (us.getD k undef) (xs.getD k [])
def Qz (e:TypeId)(S:List Nat)(B:Nat)(H:Array Obj)(v:Value)(xs:List (List Int)):Prop:=∃us F,MQ e S B H v xs us F
section bld
variable {e:TypeId} {S F:List Nat} {B:Nat} {w w':World} {v:Value} {xs:List (List Int)} {us:List Value} {g:Nat}
theorem MQ.nil {U:Nat}{H:Array Obj}(h:Fr (BG rV e) B U H v []):Qz e S B H v []:=by obtain⟨F,h1,h2,h3⟩:=h;exact⟨[],F,h1,h2,fun b hb=>(h3 b hb).1,rfl,fun k hk=>by simp at hk⟩
theorem MQ.lt {H:Array Obj}(h:MQ e S B H v xs us F):∀b∈F,b<H.size:=(DM CL).lt h.own
theorem MQ.ext (h:MQ e S B w.heap v xs us F)(k:AB w w'):MQ e S B w'.heap v xs us F :=
 ⟨(DM CL).stable h.own fun b hb=>k.heap (h.lt b hb),h.nd,h.low,h.len,fun i hi=>(h.els i hi).ext g1 k⟩
theorem MQ.run (h:MQ e S B w.heap v xs us F)(hg:g∈S)(hgB:g<B)(c:AG [g] w w'):MQ e S B w'.heap v xs us F :=
  ⟨(DM CL).stable h.own fun b hb=>c.block b (h.lt b hb) fun hm=>by have:=h.low b hb;rw[A9 hm]at this;omega,h.nd,h.low,h.len,
   fun i hi=>(h.els i hi).chg g1 (c.sub (M0 hg))⟩
theorem Mp {S:List Nat}{H:Array Obj}:∀ {us:List Value}{xs:List (List Int)},us.length=xs.length→(∀k,k<xs.length→RN S (B8 rI) H (us.getD k undef) (xs.getD k []))→∃G,els (B8 rI) H us xs G∧∀b∈G,b∉S
 |[],[],_,_=>⟨[],rfl,fun b hb=>by cases hb⟩
 |u::us,x::xs,hl,h=>by
  obtain⟨G1,q1,q2⟩:=h 0 (by simp)
  obtain⟨G2,r1,r2⟩:=Mp (us:=us) (xs:=xs) (by simpa using hl) fun k hk=>by
   have:=h (k+1) (by simpa using hk)
   simpa using this
  exact⟨G1++G2,⟨G1,G2,rfl,by simpa using q1,r1⟩,fun b hb=>(zi.1 hb).elim (q2 b) (r2 b)⟩
theorem Hb {H:Array Obj}:∀ {us vs:List Value}{F:List Nat},els rV H us vs F→us=vs∧F=[]
 |[],[],_,h=>⟨rfl,h⟩
 |_::_,_::_,_,⟨F1,F2,rfl,h1,h2⟩=>by
  obtain⟨rfl,rfl⟩:=Hb h2
  rw[h1.1,h1.2.1];exact⟨rfl,rfl⟩
 |[],_::_,_,h=>h.elim
 |_::_,[],_,h=>h.elim
theorem MQ.done {H:Array Obj}(h:MQ e S B H v xs us F)(hS:∀b∈S,b<B):RN S (B8 (B8 rI)) H v xs:=by obtain⟨G,g1,g2⟩:=Mp h.len h.els;have g2':∀b∈G,b∉S:=fun b hb hm=>g2 b hb (z8 _ hm);rcases h.own with⟨rfl,hus,rfl⟩|⟨vs,gb,cap,cur,F',hels,rfl,hg,r1,r2,r3,r4,hF⟩;have:xs=[]:=List.eq_nil_of_length_eq_zero (by rw[← h.len,hus];rfl);subst this;exact⟨[],.inl ⟨none,0,rfl,rfl,rfl⟩,fun b hb=>by cases hb⟩;obtain⟨hv,hF0⟩:=Hb hels;subst hv;have hl:=h.len;refine⟨gb::G,.inr ⟨vs,gb,0,cap,cur,e,(0,0),G,g1,by rw[hl],hg,by simpa [hl]using r4,zO,rfl⟩,fun b hb hm=>?_⟩;rcases ze.1 hb with rfl|hb;have:=h.low b (by rw[hF];exact z0 ..);have:=hS b hm;omega;exact g2' b hb hm
end bld
section ops
variable {P:Program} {ops:Array Oper} {w0:World} {Q:Act→World→Prop} {os:List Oper} {ks:List Nat} {N:Nat} {ρ:Nat→Value} {w:World}
 {d:Nat} {ty:TypeId} {pos:String} {aft:Array Edge} {g:Option (Nat×Bool)} {t e:TypeId} {z:Value} {b:Nat}
theorem L9 {x y:Operand}{v a u:Value}{xs:List (List Int)}{r:List Int}{us:List Value}{S F:List Nat}{B B' U':Nat}(ht:P.underlying t=some (.slice e))(hi:TI P e 1 z b)(hz:z.cells=#[z])(hx:Bz N ρ x=v)(hy:Bz N ρ y=a)
  (hv:MQ e S B w.heap v xs us F) (hB:B≤w.heap.size) (ha:Fr (BG rV e) B' U' w.heap a [u]) (hr:RN (S++F) (B8 rI) w.heap u r) (hbytes:(xs.length+1)*b≤140737488355328) (hmx:xs.length+1≤maxLen)
  (hu:Up ops N ρ ⟨some d,.call ⟨.builtin .append,#[x,y],#[t,t]⟩,ty,pos,aft,g⟩)
  (h:∀v1 w1 F0,AG F0 w w1→(∀c∈F0,c∈F)→Qz e S B w1.heap v1 (xs++[r])→LW P ops w0 Q os ks (mk N (CP ρ d v1)) w1) :
  LW P ops w0 Q (⟨some d,.call ⟨.builtin .append,#[x,y],#[t,t]⟩,ty,pos,aft,g⟩::os) (4::ks) (mk N ρ) w:=by
 obtain⟨G,g1',g2',g3'⟩:=ha;have hG1:G.drop 1=[]:=by
  rcases g1' with⟨_,hc,_⟩|⟨vs,gb,cap,cur,F',hels,_,_,_,_,_,_,rfl⟩;cases hc;rw[(Hb hels).2];rfl
 obtain⟨v',w',F',r1,r2,r3,r4,r5⟩:=KH (P:=P) (ty:=ty) CL ht hi hz hv.own hv.nd (g1'.rd id) rfl (by rw[hv.len];exact hbytes) (by rw[hv.len];exact hmx) (by rw[hG1];intro c hc;cases hc) (by rw[hG1];exact zk);rw[hG1]at r4;refine MO rfl hu v' w' (by simp only[execOp,resolve,invoke,builtin,zc,zf,zh,Sem.run_bind,Sem.run_pure,Result.andThen_ok,hx,hy,r1])<|h v' w' (F.take 1) r5 (fun c hc=>zj hc) ⟨us++[u],F',r2,r3,fun c hc=>?_,by simp[hv.len],fun k hk=>?_⟩;rcases r4 c hc with hh|hh|hh;exact hv.low c hh;cases hh;omega;have key:∀ {v0:Value} {x0:List Int},RN (S++F) (B8 rI) w.heap v0 x0→RN (S++F') (B8 rI) w'.heap v0 x0:=by
  rintro v0 x0 ⟨K,k1,k2⟩;have hlt:=g1.lt k1;refine⟨K,g1.stable k1 fun c hc=>r5.block c (hlt c hc) fun hm=>k2 c hc (z1 _ (zj hm)),fun c hc hm=>?_⟩;rcases zi.1 hm with hm|hm;exact k2 c hc<|z8 _ hm;rcases r4 c hm with hh|hh|hh;exact k2 c hc<|z1 _ hh;cases hh;have:=hlt c hc;omega
 rw[z4,zd]at hk;by_cases hkx:k<xs.length;have h1:=key<|hv.els k hkx;have hku:k<us.length:=by rw[hv.len];exact hkx
 rw[FQ hku,FQ hkx];exact h1;have e1:k=xs.length:=by omega
 have e2:k=us.length:=by rw[hv.len];exact e1
 rw[J4 e2,J4 e1];exact key hr
def Bt:Value→Prop
 |.slice _ n c=>n≤c
 |_=>False
theorem BG.cap {α:Type}{E:BI α}{e:TypeId}{H:Array Obj}{v:Value}{xs:List α}{F:List Nat}(h:BG E e H v xs F):Bt v:=by rcases h with⟨rfl,_⟩|⟨us,g,cap,cur,F',_,rfl,_,h,_⟩;exact A7 _;exact h
theorem Fr.cap {α:Type}{E:BI α}{e:TypeId}{B U:Nat}{H:Array Obj}{v:Value}{xs:List α}(h:Fr (BG E e) B U H v xs):Bt v:=by obtain⟨F,h,_⟩:=h;exact h.cap
theorem MQ.cap {e:TypeId}{S F:List Nat}{B:Nat}{H:Array Obj}{v:Value}{xs:List (List Int)}{us:List Value}(h:MQ e S B H v xs us F):Bt v:=h.own.cap
def E6:Value→Value
 |.slice a n _=>.slice a n n
 |v=>v
theorem VH {x y:Operand} {v a u:Value} {xs:List (List Int)} {r:List Int} {S:List Nat} {B' U':Nat} (ht:P.underlying t = some (.slice e)) (hi:TI P e 1 z b) (hz:z.cells = #[z]) (hx:Bz N ρ x = E6 v) (hy:Bz N ρ y = a)
  (hv:RN S (B8 (B8 rI)) w.heap v xs) (ha:Fr (BG rV e) B' U' w.heap a [u]) (hr:RN S (B8 rI) w.heap u r) (hS:∀ c∈S,c < w.heap.size) (hbytes:(xs.length + 1) * b≤140737488355328) (hmx:xs.length + 1≤maxLen)
  (hu:Up ops N ρ ⟨some d,.call ⟨.builtin .append,#[x,y],#[t,t]⟩,ty,pos,aft,g⟩)
  (h:∀ v1 w1,AB w w1→RN S (B8 (B8 rI)) w1.heap v1 (xs++[r])→Bt v1→LW P ops w0 Q os ks (mk N (CP ρ d v1)) w1) :
  LW P ops w0 Q (⟨some d,.call ⟨.builtin .append,#[x,y],#[t,t]⟩,ty,pos,aft,g⟩ :: os) (4 :: ks) (mk N ρ) w:=by
 obtain ⟨G,g1',g2',g3'⟩:=ha;obtain ⟨K,k1,k2⟩:=hv;obtain ⟨R,r1,r2⟩:=hr;obtain ⟨i,h1,h2,h3,h4⟩:=hi.get;subst h4;have hone:=g1.one r1;rcases g1' with ⟨_,hc,_⟩ | ⟨asq,ga,capa,cura,Fa,helsa,hav,hga,qa1,qa2,qa3,qa4,rfl⟩;cases hc
 ·obtain ⟨hq,hFa⟩:=Hb helsa;subst hq;subst hav;have hnews:∀ j q,[u][j]? = some q→w.cell? ((⟨ga,0,none⟩:Addr).add j) = some q:=by
   intro j q hj;rw [FH,BT];simp only [CB,hga];rw [← qa4,List.getElem?_take] at hj;split at hj;simpa using hj;cases hj
  have made:∀ (w1:World) (ous:List Value) (K0:List Nat) (rest:Nat),w1.heap = w.heap→w1.os = w.os→w1.tape = w.tape→w1.output = w.output→els (B8 rI) w.heap ous xs K0→(∀ c∈K0,c∈K)→xs.length + 1 + rest≤maxLen →
    AB w (w1.alloc (.cells (ous.toArray++[u].toArray++Builtin.zeroCells z.cells rest) e))∧RN S (B8 (B8 rI)) (w1.alloc (.cells (ous.toArray++[u].toArray++Builtin.zeroCells z.cells rest) e)).heap (.slice (some ⟨w.heap.size,0,none⟩) (xs.length + 1) (xs.length + 1 + rest)) (xs++[r]):=by
   intro w1 ous K0 rest hh ho htp hop hou hsub hmax;have hE:AB w (w1.alloc (.cells (ous.toArray++[u].toArray++Builtin.zeroCells z.cells rest) e)):=by
    refine ⟨ho,htp,hop,?_,fun k hk=>?_⟩;show w.heap.size≤(w1.heap.push _).size;rw [hh]; simp;have:=Below.heap_alloc w1 (.cells (ous.toArray++[u].toArray++Builtin.zeroCells z.cells rest) e) k (by rw [hh]; exact hk);rw [this,hh]
   refine ⟨hE,w.heap.size :: (K0++R),.inr ⟨ous++[u],w.heap.size,0,xs.length + 1 + rest,(ous.toArray++[u].toArray++Builtin.zeroCells z.cells rest),e,(0,0),K0++R,?_,by simp,?_,?_,by simp; omega,rfl⟩,?_⟩;refine els.stable g1 (hou.append (show els (B8 rI) w.heap [u] [r] R from ⟨R,[],by simp,r1,rfl⟩)) fun c hc=>hE.heap ?_;exact (hou.append (show els (B8 rI) w.heap [u] [r] R from ⟨R,[],by simp,r1,rfl⟩)).lt g1 c hc;have:=heap_alloc_new w1 (.cells (ous.toArray++[u].toArray++Builtin.zeroCells z.cells rest) e);rw [hh] at this; exact this;have hl:=hou.length;simp only [Array.toList_append,List.drop_zero];rw [show (xs++[r]).length = (ous++[u]).length from by simp [hl]];exact List.take_left
   intro c hc hm;rcases ze.1 hc with rfl | hc;have:=hS _ hm; omega;rcases zi.1 hc with hc | hc;exact k2 c (hsub c hc) hm;exact r2 c hc hm
  have hone1:[u].length = [u].length * i.size:=by rw [h3,Nat.mul_one]
  rcases k1 with ⟨a0,cap0,rfl,rfl,rfl⟩ | ⟨ous,gv,off,cap,cur,e',fr,K',hels,rfl,hg,hw,_,rfl⟩
  ·-- nothing so far
   cases a0 with
   | none =>
    have hrr:=run_append_nil (P:=P) w t ty e i z ht h1 h2 ⟨ga,0,none⟩ 1 capa [u] hone1 hnews (by decide) (by decide) (by simp at hbytes; omega);have hge:=grownCap_ge w 1 0 e;have hgm:=grownCap_le_maxLen w 1 0 e (by simpa using hmx);obtain ⟨q1,q2⟩:=made w.drew [] [] (grownCap w 1 0 e - 1) rfl rfl rfl rfl rfl (fun c hc=>by cases hc) (by simp; omega);refine MO rfl hu _ _ (by simp only [execOp,resolve,invoke,builtin,zc,zf,zh,Sem.run_bind,Sem.run_pure,Result.andThen_ok,hx,hy,E6]; rw [show [u].length = 1 from rfl,hrr]; rfl)<|h _ _ ?_ ?_ ?_;simpa using q1;have ea:(([]:List (List Int)).length + 1 + (grownCap w 1 0 e - 1)) = grownCap w 1 0 e:=by simp; omega
    rw [ea] at q2;simpa using q2;exact hge
   | some a1 =>
    have hrr:=run_append_grow (P:=P) w t ty e i z ht h1 h2 a1 0 0 [] (by rw [h3]; rfl) (by intro j q hj; cases hj) ⟨ga,0,none⟩ 1 capa [u] hone1 hnews zO (by decide)<|growslice_fits zO (by simpa using hbytes);have hge:=grownCap_ge w (0 + 1) 0 e;have hgm:=grownCap_le_maxLen w (0 + 1) 0 e (by simpa using hmx);obtain ⟨q1,q2⟩:=made w.drew [] [] (grownCap w (0 + 1) 0 e - (0 + 1)) rfl rfl rfl rfl rfl (fun c hc=>by cases hc) (by show 0 + 1 + (grownCap w (0 + 1) 0 e - (0 + 1))≤maxLen; omega);refine MO rfl hu _ _ (by simp only [execOp,resolve,invoke,builtin,zc,zf,zh,Sem.run_bind,Sem.run_pure,Result.andThen_ok,hx,hy,E6]; rw [show [u].length = 1 from rfl,hrr]; rfl)<|h _ _ q1 ?_ ?_;rotate_left;exact hge;have ea:(([]:List (List Int)).length + 1 + (grownCap w (0 + 1) 0 e - (0 + 1))) = grownCap w (0 + 1) 0 e:=by show 0 + 1 + (grownCap w (0 + 1) 0 e - (0 + 1)) = _; omega
    rw [ea] at q2;simpa using q2
  ·have holds:∀ j q,ous[j]? = some q→w.cell? ((⟨gv,off,none⟩:Addr).add j) = some q:=by
    intro j q hj;rw [FH,BT];simp only [CB,hg];rw [← hw,List.getElem?_take] at hj;split at hj;rw [List.getElem?_drop] at hj; simpa using hj;cases hj
   have hrr:=run_append_grow (P:=P) w t ty e i z ht h1 h2 ⟨gv,off,none⟩ xs.length xs.length ous (by rw [h3,hels.length]; omega) holds ⟨ga,0,none⟩ 1 capa [u] hone1 hnews zO (by simp only [maxLen] at hmx; omega)<|growslice_fits zO hbytes;have hge:=grownCap_ge w (xs.length + 1) xs.length e;have hgm:=grownCap_le_maxLen w (xs.length + 1) xs.length e hmx;obtain ⟨q1,q2⟩:=made w.drew ous K' (grownCap w (xs.length + 1) xs.length e - (xs.length + 1)) rfl rfl rfl rfl hels (fun c hc=>z3 _ hc) zO;refine MO rfl hu _ _ (by simp only [execOp,resolve,invoke,builtin,zc,zf,zh,Sem.run_bind,Sem.run_pure,Result.andThen_ok,hx,hy,E6]; rw [show [u].length = 1 from rfl,hrr]; rfl)<|h _ _ q1 ?_ ?_;rotate_left;exact hge;have ea:(xs.length + 1 + (grownCap w (xs.length + 1) xs.length e - (xs.length + 1))) = grownCap w (xs.length + 1) xs.length e:=by omega
   rw [ea] at q2;exact q2
end ops
end
section
set_option linter.unusedSectionVars false
class JR where
 rel:World→World→Prop
 refl:∀w,rel w w
 trans:∀ {a b c},rel a b→rel b c→rel a c
 ext:∀ {a b},AB a b→rel a b
@[reducible] def VI (F:List Nat):JR:=⟨AG F,AG.refl F,AG.trans,AG.of_ext F⟩
namespace Jx
variable [J:JR]
def AB (w w':World):Prop:=J.rel w w'
theorem AB.refl (w:World):AB w w:=J.refl w
theorem AB.trans {a b c:World}(h:AB a b)(k:AB b c):AB a c:=J.trans h k
section
variable {P:Program} {ops:Array Oper} {md:Region.Mode}
def Cl (w0 w:World):Nat→World→Prop
 |0,_=>True
 |1,w'=>AB w0 w'
 |_,w'=>AB w w'
def By (P:Program)(w0:World)(o:Oper)(k:Nat)(a:Act)(w:World)(K:Act→World→Prop):Prop :=
 if k≤2 then ∃v,(∀w',Cl w0 w k w'→YA P o a w' v)∧K (a.put o.dst v) w
 else if k=3 then o.wp P a w (fun a' w'=>AB w w'∧K a' w') (NQ fun _ _=>False)
 else o.wp P a w K (NQ fun _ _=>False)
def LW (P:Program)(ops:Array Oper)(w0:World)(Q:Act→World→Prop):List Oper→List Nat→Act→World→Prop
 |[],_,a,w=>Q a w
 |_::_,[],_,_=>False
 |o::os,k::ks,a,w =>
  if Region.wanted o (yielded ops a.tmps)=true then By P w0 o k a w (LW P ops w0 Q os ks)else LW P ops w0 Q os ks (a.put o.dst undef) w
theorem By.mono {w0:World}{o:Oper}{k:Nat}{a:Act}{w:World}{K K':Act→World→Prop}(h:∀a w,K a w→K' a w)
  (hh:By P w0 o k a w K):By P w0 o k a w K':=by
 unfold By at *;split;rename_i hk;rw[if_pos hk]at hh;obtain⟨v,h1,h2⟩:=hh;exact⟨v,h1,h _ _ h2⟩;rename_i hk;rw[if_neg hk]at hh;split;rename_i h3;rw[if_pos h3]at hh;exact Oper.wp_mono (fun a w hx=>⟨hx.1,h _ _ hx.2⟩) hh;rename_i h3;rw[if_neg h3]at hh;exact Oper.wp_mono h hh
variable (P ops) in
def LI (kd:Nat→Nat)(w0:World)(Q:Act→World→Prop):List Nat→Act→World→Prop
 |[],a,w=>Q a w
 |i::l,a,w =>
  match ops[i]? with
  |none=>False
  |some o=>if Region.wanted o (yielded ops a.tmps)=true then By P w0 o (kd i) a w (LI kd w0 Q l)else LI kd w0 Q l (a.put o.dst undef) w
def Nr (kd:Nat→Nat)(w0 w:World)(l:List Nat):Prop:=(∃j∈l,kd j=1)→AB w0 w
def Yv (P:Program)(ops:Array Oper)(w0:World)(k:Nat)(o:Oper)(a:Act)(w:World)(v:Value):Prop :=
 (Region.wanted o (yielded ops a.tmps)=true∧∀w',Cl w0 w k w'→YA P o a w' v)∨(Region.wanted o (yielded ops a.tmps)=false∧v=undef)
theorem Cl.self {w0 w:World}{k:Nat}(h:k=1→AB w0 w):Cl w0 w k w:=by
 match k,h with
 |0,_=>exact trivial
 |1,h=>exact h rfl
 |_+2,_=>exact AB.refl w
theorem Yv.unique {w0 w:World}{k:Nat}{o:Oper}{a:Act}{v u:Value}(hk:k=1→AB w0 w)(h:Yv P ops w0 k o a w v)(h':Yv P ops w0 k o a w u):v=u:=by rcases h with⟨h1,h2⟩|⟨h1,h2⟩ <;> rcases h' with⟨g1,g2⟩|⟨g1,g2⟩;exact (h2 w<|Cl.self hk).unique<|g2 w<|Cl.self hk;rw[h1]at g1;cases g1;rw[h1]at g1;cases g1;rw[h2,g2]
theorem Yv.apart {w0 w:World}{k:Nat}{o:Oper}(hs:∀cs b,o.op≠.select cs b){a:Act}{d:Option Tmp}{u v:Value}
  (h1:∀x,d=some x→x∉o.looksAt ops):Yv P ops w0 k o (a.put d u) w v↔Yv P ops w0 k o a w v:=by
 unfold Yv;rw[wanted_put (ops:=ops) o a d u h1];simp only[YA.apart (ops:=ops) (P:=P) hs h1]
theorem Yv.defers {w0 w:World}{k:Nat}{o:Oper}{a:Act}{l:List Deferred}{v:Value}:Yv P ops w0 k o { a with defers:=l } w v↔Yv P ops w0 k o a w v:=by
 have he:Act.eval { a with defers:=l }=Act.eval a:=funext fun x=>by cases x <;> rfl
 unfold Yv YA;rw[he]
theorem Yv.shape {w0 w:World}{k:Nat}{o:Oper}(hs:∀cs b,o.op≠.select cs b){a a':Act}{d:Option Tmp}{v:Value}
  (h1:∀x,d=some x→x∉o.looksAt ops) (h:Kg a d a'):Yv P ops w0 k o a' w v↔Yv P ops w0 k o a w v:=by
 obtain⟨u,rfl|⟨x,rfl⟩⟩:=h;exact Yv.apart hs h1;rw[Yv.apart hs h1];exact Yv.defers
section main
variable {kd bs:Nat→Nat} {w0:World} {Q:Act→World→Prop}
theorem HR (hsel:∀(j:Nat)(o:Oper) cs b,ops[j]? = some o→o.op≠.select cs b){j:Nat}{oj:Oper}(hj:ops[j]? = some oj)(hk:kd j≤2) :
  ∀(l1 l2:List Nat) (a:Act) (w:World),(∀i∈l1,∀oi,ops[i]? = some oi→oi.apart ops oj=true∧Dh (kd i) (kd j)=true)→(kd j=1→AB w0 w) →
   LI P ops kd w0 Q (l1++j::l2) a w→∃v,Yv P ops w0 (kd j) oj a w v∧LI P ops kd w0 Q (l1++l2) (a.put oj.dst v) w
 |[],l2,a,w,_,_,h=>by
  simp only[zl,LI,hj]at h ⊢
  split at h
  rename_i hw
  unfold By at h
  rw[if_pos hk]at h
  obtain⟨v,h1,h2⟩:=h
  exact⟨v,.inl ⟨hw,h1⟩,h2⟩
  rename_i hw
  exact⟨undef,.inr ⟨by simpa using hw,rfl⟩,h⟩
 |i::l1,l2,a,w,hl,hx,h=>by
  have hi:=hl i (z0 ..)
  have hl':∀x∈l1,∀ox,ops[x]? = some ox→ox.apart ops oj=true∧Dh (kd x) (kd j)=true:=fun x hx=>hl x (z3 _ hx)
  simp only[List.cons_append,LI]at h ⊢
  cases hoi:ops[i]? with
  |none=>rw[hoi]at h;exact h.elim
  |some oi =>
   rw[hoi]at h
   simp only at h ⊢
   obtain⟨hap,hok⟩:=hi oi hoi
   obtain⟨p1,p2,p3⟩:=Oper.apart_spec hap
   have p2':∀d,oj.dst=some d→oi.dst≠some d:=fun d hd he=>p2 d he hd
   have si:=fun cs b=>hsel i oi cs b hoi
   have sj:=fun cs b=>hsel j oj cs b hj
   by_cases hw:Region.wanted oi (yielded ops a.tmps)=true
   rw[if_pos hw]at h
   unfold By at h
   by_cases hki:kd i≤2
   rw[if_pos hki]at h
   obtain⟨vi,hy,h⟩:=h
   obtain⟨v,h1,h2⟩:=HR hsel hj hk l1 l2 (a.put oi.dst vi) w hl' hx h
   refine⟨v,(Yv.apart sj p1).1 h1,?_⟩
   rw[wanted_put oi a oj.dst v p3,if_pos hw]
   unfold By
   rw[if_pos hki]
   refine⟨vi,fun w' hc=>(YA.apart (ops:=ops) si p3).2 (hy w' hc),?_⟩
   rw[Act.put_comm a v vi p2']
   exact h2
   rw[if_neg hki]at h
   have gen:∀(G:World→Prop),(∀w',G w'→kd j=1→AB w0 w')→(kd j=2→False) →
     oi.wp P a w (fun a' w'=>G w'∧LI P ops kd w0 Q (l1++j::l2) a' w') (NQ fun _ _=>False) →
     ∃v,Yv P ops w0 (kd j) oj a w v∧oi.wp P (a.put oj.dst v) w (fun a' w'=>G w'∧LI P ops kd w0 Q (l1++l2) a' w') (NQ fun _ _=>False):=by
    intro G hG hn2 hh;have hcl:∀w1 w2,Cl w0 w1 (kd j) w2→Cl w0 w (kd j) w2:=by
     intro w1 w2 hc;match hkj:kd j,hk,hn2 with
     |0,_,_=>trivial
     |1,_,_=>rw[hkj]at hc;exact hc
     |2,_,hn=>exact(hn rfl).elim
     |_+3,hle,_=>omega
    have hcl':∀w1 w2,Cl w0 w (kd j) w2→Cl w0 w1 (kd j) w2:=by
     intro w1 w2 hc;match hkj:kd j,hk,hn2 with
     |0,_,_=>trivial
     |1,_,_=>rw[hkj]at hc;exact hc
     |2,_,hn=>exact(hn rfl).elim
     |_+3,hle,_=>omega
    have hs:=Ed hh;have step:∀a' w',((G w'∧LI P ops kd w0 Q (l1++j::l2) a' w')∧Kg a oi.dst a') →
      ∃v,Yv P ops w0 (kd j) oj a w v∧LI P ops kd w0 Q (l1++l2) (a'.put oj.dst v) w':=by
     rintro a' w' ⟨⟨hg,hL⟩,hsh⟩;obtain⟨v,h1,h2⟩:=HR hsel hj hk l1 l2 a' w' hl' (hG w' hg) hL;have h1':=(Yv.shape sj p1 hsh).1 h1;refine⟨v,?_,h2⟩;rcases h1' with⟨q1,q2⟩|⟨q1,q2⟩;exact .inl ⟨q1,fun w2 hc=>q2 w2<|hcl' w' w2 hc⟩;exact .inr ⟨q1,q2⟩
    obtain⟨v,hv⟩:∃v,Yv P ops w0 (kd j) oj a w v:=by
     obtain⟨u,w',hK|⟨d,hK⟩⟩:=KF hs;obtain⟨v,h1,_⟩:=step _ _ hK;exact⟨v,h1⟩;obtain⟨v,h1,_⟩:=step _ _ hK;exact⟨v,h1⟩
    refine⟨v,hv,H6 (ops:=ops) si p3 p2' ?_⟩;refine Oper.wp_mono (fun a' w' hK=>?_) hs;obtain⟨v',h1,h2⟩:=step a' w' hK;have:v'=v:=h1.unique hx hv;subst this;exact⟨hK.1.1,h2⟩
   by_cases h3:kd i=3;rw[if_pos h3]at h;have hj1:=bP hok h3;obtain⟨v,hv,hwp⟩:=gen (fun w'=>AB w w') (fun w' hg h1=>(hx h1).trans hg) (fun h2=>by omega) h;refine⟨v,hv,?_⟩;rw[wanted_put oi a oj.dst v p3,if_pos hw];unfold By;rw[if_neg hki,if_pos h3];exact hwp;rw[if_neg h3]at h;have hj0:=bQ hok zO;obtain⟨v,hv,hwp⟩:=gen (fun _=>True) (fun w' _ h1=>by omega) (fun h2=>by omega) (Oper.wp_mono (fun a w hh=>⟨trivial,hh⟩) h);refine⟨v,hv,?_⟩;rw[wanted_put oi a oj.dst v p3,if_pos hw];unfold By;rw[if_neg hki,if_neg h3];exact Oper.wp_mono (fun a w hh=>hh.2) hwp;rw[if_neg hw]at h;obtain⟨v,h1,h2⟩:=HR hsel hj hk l1 l2 (a.put oi.dst undef) w hl' hx h;refine⟨v,(Yv.apart sj p1).1 h1,?_⟩;rw[wanted_put oi a oj.dst v p3,if_neg hw,Act.put_comm a v undef p2'];exact h2
theorem Jk (hsel:∀(j:Nat)(o:Oper) cs b,ops[j]? = some o→o.op≠.select cs b){j:Nat}{oj:Oper}(hj:ops[j]? = some oj)(hk:3≤kd j) :
  ∀(l1 l2:List Nat) (a:Act) (w:World),(∀i∈l1,∀oi,ops[i]? = some oi→oi.apart ops oj=true∧Dh (kd i) (kd j)=true)→LI P ops kd w0 Q (l1++j::l2) a w →
   (Region.wanted oj (yielded ops a.tmps)=true→oj.wp P a w (fun a' w'=>(kd j=3→AB w w')∧LI P ops kd w0 Q (l1++l2) a' w') (NQ fun _ _=>False)) ∧
   (Region.wanted oj (yielded ops a.tmps)=false→LI P ops kd w0 Q (l1++l2) (a.put oj.dst undef) w)
 |[],l2,a,w,_,h=>by
  simp only[zl,LI,hj]at h ⊢
  refine⟨fun hw=>?_,fun hw=>?_⟩
  rw[if_pos hw]at h
  unfold By at h
  rw[if_neg (by omega)]at h
  split at h
  exact Oper.wp_mono (fun _ _ hh=>⟨fun _=>hh.1,hh.2⟩) h
  rename_i h3;exact Oper.wp_mono (fun _ _ hh=>⟨fun h'=>(h3 h').elim,hh⟩) h
  rw[if_neg (by simp[hw])]at h;exact h
 |i::l1,l2,a,w,hl,h=>by
  have hi:=hl i (z0 ..)
  have hl':∀x∈l1,∀ox,ops[x]? = some ox→ox.apart ops oj=true∧Dh (kd x) (kd j)=true:=fun x hx=>hl x (z3 _ hx)
  simp only[List.cons_append,LI]at h ⊢
  cases hoi:ops[i]? with
  |none=>rw[hoi]at h;exact h.elim
  |some oi =>
   rw[hoi]at h
   simp only at h ⊢
   obtain⟨hap,hok⟩:=hi oi hoi
   obtain⟨p1,p2,p3⟩:=Oper.apart_spec hap
   have p2':∀d,oj.dst=some d→oi.dst≠some d:=fun d hd he=>p2 d he hd
   have si:=fun cs b=>hsel i oi cs b hoi
   have sj:=fun cs b=>hsel j oj cs b hj
   obtain⟨hki,hk4⟩:=Zu hok hk
   by_cases hw:Region.wanted oi (yielded ops a.tmps)=true
   rw[if_pos hw]at h
   unfold By at h
   rw[if_pos hki]at h
   obtain⟨vi,hy,h⟩:=h
   obtain⟨g1,g2⟩:=Jk hsel hj hk l1 l2 (a.put oi.dst vi) w hl' h
   rw[wanted_put oj a oi.dst vi p1]at g1 g2
   refine⟨fun hwj=>?_,fun hwj=>?_⟩
   have g:=FU (ops:=ops) (Q:=fun _ _=>False) sj p1 p2<|g1 hwj
   refine Oper.wp_mono (fun a' w' hK=>?_)<|Ed g
   obtain⟨⟨hE,hL⟩,hsh⟩:=hK
   refine⟨hE,?_⟩
   rw[E2 p3 hsh,if_pos hw]
   unfold By
   rw[if_pos hki]
   refine⟨vi,fun w'' hc=>?_,hL⟩
   have hya:YA P oi a w'' vi:=by
    refine hy w'' ?_;match hki':kd i,hki,hk4 with
    |0,_,_=>trivial
    |1,_,_=>rw[hki']at hc;exact hc
    |2,_,h4=>rw[hki']at hc;exact(hE (by have:¬4≤kd j:=(fun hh=>by have:=h4 hh;omega);omega)).trans hc
    |_+3,hle,_=>omega
   have he:∀b,YA P oi b w'' vi↔YR P ((execOp b.eval oi).run P w'') w'' vi:=fun _=>Iff.rfl;obtain⟨u,rfl|⟨x,rfl⟩⟩:=hsh;exact (YA.apart (ops:=ops) si p3).2 hya;refine (YA.apart (ops:=ops) si p3).2 ?_;have hee:Act.eval { a with defers:=x::a.defers }=Act.eval a:=funext fun y=>by cases y <;> rfl
   rw[he,hee,← he];exact hya;rw[wanted_put oi a oj.dst undef p3,if_pos hw];unfold By;rw[if_pos hki];refine⟨vi,fun w' hc=>(YA.apart (ops:=ops) si p3).2 (hy w' hc),?_⟩;rw[Act.put_comm a undef vi p2'];exact g2 hwj;rw[if_neg hw]at h;obtain⟨g1,g2⟩:=Jk hsel hj hk l1 l2 (a.put oi.dst undef) w hl' h;rw[wanted_put oj a oi.dst undef p1]at g1 g2;refine⟨fun hwj=>?_,fun hwj=>?_⟩;have g:=FU (ops:=ops) (Q:=fun _ _=>False) sj p1 p2<|g1 hwj;refine Oper.wp_mono (fun a' w' hK=>?_)<|Ed g;obtain⟨⟨hE,hL⟩,hsh⟩:=hK;refine⟨hE,?_⟩;rw[E2 p3 hsh,if_neg hw];exact hL;rw[wanted_put oi a oj.dst undef p3,if_neg hw,Act.put_comm a undef undef p2'];exact g2 hwj
end main
end
section
variable {P:Program} {ops:Array Oper} {md:Region.Mode} {kd bs:Nat→Nat} {w0:World} {Q:Act→World→Prop}
theorem FS (hsel:∀(j:Nat)(o:Oper) cs b,ops[j]? = some o→o.op≠.select cs b)(hS:HQ md ops bs)
  (hlex:∀j oj,ops[j]? = some oj→∀e∈oj.after,Region.binds md e=true→e.on<j) :
  ∀(n:Nat) (l:List Nat) (listed:Array Bool) (a:Act) (w:World),l.length=n→l.Pairwise (DB md ops kd bs)→l.Nodup→listed.size=ops.size →
   (∀i,i∈l↔listed.getD i true=false)→IZ bs listed→Ns kd l→Nr kd w0 w l→LI P ops kd w0 Q l a w→wpAny P md ops (NQ Q) n listed a w
 |0,l,listed,a,w,hn,_,_,_,hm,_,_,_,h=>by
  have hl:l=[]:=List.eq_nil_of_length_eq_zero hn
  subst hl
  refine⟨?_,h⟩
  cases hr:Region.ready md ops listed with
  |nil=>rfl
  |cons x xs =>
   have:=(mem_ready.1 (by rw[hr];exact z0 ..:x∈Region.ready md ops listed)).1
   exact absurd ((hm x).2 this) (by simp)
 |n+1,l,listed,a,w,hn,hs,hd,hz,hm,hc,h14,hi1,h=>by
  refine⟨fun h0=>?_,fun i hi=>?_⟩
  exfalso
  match l,hn with
  |i::l,hn =>
   have hready:=FV (md:=md) hz hm hlex fun y hy ox hox=>((List.pairwise_cons.1 hs).1 y hy).2 ox hox
   rw[h0]at hready
   cases hready
  obtain⟨hun,oi,hoi,hall⟩:=mem_ready.1 hi
  obtain⟨l1,l2,rfl⟩:=List.append_of_mem ((hm i).2 hun)
  have hbits:=D5 hS hc hoi hall
  have hpi:∀x∈l1,DB md ops kd bs x i:=fun x hx=>(List.pairwise_append.1 hs).2.2 x hx i (z0 ..)
  have hfree:=Ep (kd:=kd) (l1:=l1) hoi (fun x hx=>(hpi x hx).1) (fun x hx=>(hm x).1 (z8 _ hx)) hbits
  have hsz:=BQ hun
  have hsub0:(l1++l2).Sublist (l1++i::l2):=List.Sublist.append_left (List.sublist_cons_self _ _) _
  have hnd:i∉l1++l2:=by
   have h1:=List.nodup_append.1 hd
   intro hmem;rcases zi.1 hmem with hh|hh;exact h1.2.2 i hh i (z0 ..) rfl;exact (List.nodup_cons.1 h1.2.1).1 hh
  have hn':(l1++l2).length=n:=by simp at hn ⊢;omega
  have rec_:∀a' w',Nr kd w0 w' (l1++l2)→LI P ops kd w0 Q (l1++l2) a' w'→wpAny P md ops (NQ Q) n (listed.setIfInBounds i true) a' w':=fun a' w' hi' hL =>
   FS hsel hS hlex n (l1++l2) _ a' w' hn' (hs.sublist hsub0) (hd.sublist hsub0) (by simpa using hz) (Ff hm hnd hsz) (Ej hc hbits) (Ns.erase h14) hi' hL
  have hsub:Nr kd w0 w (l1++l2):=fun⟨j,hj,hk⟩=>hi1 ⟨j,hsub0.subset hj,hk⟩;by_cases hk:kd i≤2;obtain⟨v,hv,hL⟩:=HR hsel hoi hk l1 l2 a w hfree (fun h1=>hi1 ⟨i,by simp,h1⟩) h;unfold wpOp;rw[hoi];rcases hv with⟨hw,hy⟩|⟨hw,rfl⟩;simp only[hw,if_true];exact .inl<|GN (hy w (Cl.self fun h1=>hi1 ⟨i,by simp,h1⟩))<|rec_ _ _ hsub hL;simp only[hw,Bool.false_eq_true,if_false];exact rec_ _ _ hsub hL;obtain⟨g1,g2⟩:=Jk hsel hoi zO l1 l2 a w hfree h;unfold wpOp;rw[hoi];by_cases hw:Region.wanted oi (yielded ops a.tmps)=true;simp only[hw,if_true];refine .inl<|Oper.wp_mono (fun a' w' hK=>rec_ a' w' ?_ hK.2)<|Gn<|g1 hw;rintro⟨j,hj,hkj⟩;by_cases h3:kd i=3;exact (hsub ⟨j,hj,hkj⟩).trans<|hK.1 h3;exfalso;rcases zi.1 hj with hh|hh;obtain⟨oj,hoj⟩:∃oj,ops[j]? = some oj:=by
   have:=BQ ((hm j).1 (z8 _ hh));exact⟨ops[j]'(by omega),by simp[show j<ops.size by omega]⟩
  have:=(Zu (hfree j hh oj hoj).2 zO).2 zO;omega;exact h14 l1 i l2 rfl zO j hh hkj;simp only[hw,Bool.false_eq_true,if_false];exact rec_ _ _ hsub<|g2 (by simpa using hw)
theorem HS (ks:List Nat):∀(os:List Oper)(k:Nat)(a:Act)(w:World),(∀j,os[j]? = ops[k+j]?) →
  LW P ops w0 Q os (ks.drop k) a w→LI P ops (fun i=>ks.getD i 0) w0 Q (List.range' k os.length) a w
 |[],_,_,_,_,h=>by simpa [LI,LW]using h
 |o::os,k,a,w,ho,h=>by
  have h0:ops[k]? = some o:=by simpa using (ho 0).symm
  have hr:∀a w,LW P ops w0 Q os (ks.drop (k+1)) a w→LI P ops (fun i=>ks.getD i 0) w0 Q (List.range' (k+1) os.length) a w:=fun a w hh =>
   HS ks os (k+1) a w (fun j=>by have:=ho (j+1);simpa [Nat.add_assoc,Nat.add_comm 1 j]using this) hh
  have hlt:k<ks.length:=by
   rcases Nat.lt_or_ge k ks.length with hh|hh;exact hh;rw[List.drop_of_length_le hh]at h;exact h.elim
  have hd:ks.drop k=ks[k]::ks.drop (k+1):=List.drop_eq_getElem_cons hlt;rw[hd]at h;simp only[z9,List.range'_succ,LI,h0,LW]at h ⊢;have hg:ks.getD k 0=ks[k]:=by simp[hlt]
  split;rename_i hw;rw[if_pos hw]at h;rw[hg];exact h.mono hr;rename_i hw;rw[if_neg hw]at h;exact hr _ _ h
theorem AU {id:Nat}{Q:Exit→Act→World→Prop}{a:Act}{w:World}(os:List Oper)(ks:List Nat)(hm:P.follows .mixedOrders=true)(hB:Zv os.toArray ks=true)
  (h:LW P os.toArray w.drew (fun a w=>Q .normal a w) os ks a w.drew):(Code.region id os.toArray true).wp P Q a w:=by
 refine wp_region_any hm ?_;simp only[Zv,z7]at hB;obtain⟨⟨hsel,hpl⟩,h14⟩:=hB;have hz:∀ {j:Nat} {o:Oper},os.toArray[j]? = some o→(o,j)∈os.toArray.toList.zipIdx:=by
  intro j o ho;rw[List.mem_zipIdx_iff_getElem?];simpa using ho
 have hall:∀j oj,os.toArray[j]? = some oj→_:=fun j oj hj=>zm.1 hpl _ (hz hj);have hF:VA os.toArray (fun i=>ks.getD i 0) (fun j=>(Region.before os.toArray).toList.getD j 0):=by
  intro i j oi oj hij hi hj;have h3:=(z7 _ _ ▸ hall j oj hj:_∧_).2;have h4:=zm.1 h3 _<|hz hi;simp only[Bool.or_eq_true,Bool.not_eq_true',decide_eq_false_iff_not,z7]at h4;rcases h4 with(h4|h4)|h4;exact absurd hij h4;exact .inl h4;exact .inr h4
 have hlex:∀j oj,os.toArray[j]? = some oj→∀e∈oj.after,Region.binds .any e=true→e.on<j:=by
  intro j oj hj e he hb;have h1:=(z7 _ _ ▸ (z7 _ _ ▸ hall j oj hj:_∧_).1:_∧_).1;have h2:=(Array.all_eq_true_iff_forall_mem.1 h1) e he;simpa [hb]using h2
 have key:=FS (P:=P) (ops:=os.toArray) (md:=.any) (kd:=fun i=>ks.getD i 0) (bs:=fun j=>(Region.before os.toArray).toList.getD j 0) (w0:=w.drew) (Q:=fun a w=>Q .normal a w)
  (Region.noSelect_spec hsel) ?_ ?_ os.length (List.range' 0 os.length) (Array.replicate os.length false) a w.drew (by simp) ?_ List.nodup_range' (by simp) ?_ ?_ ?_ (fun _=>AB.refl _) ?_
 have:=FW _ _ _ _ key;simpa using this
 intro j oj hj i hb;have h3:=(z7 _ _ ▸ (z7 _ _ ▸ hall j oj hj:_∧_).1:_∧_).2;have h5:(Region.before os.toArray).toList.getD j 0=oj.after.foldl (fun s e=>if Region.binds .any e then s ||| 2 ^ e.on ||| (Region.before os.toArray).toList.getD e.on 0 else s) 0:=by simpa using h3
 dsimp only at hb;rw[h5,← Array.foldl_toList]at hb;rcases Fg _ _ _ _ hb with hb|⟨e,he,hbb,hh⟩;simp at hb;exact⟨e,Array.mem_toList_iff.1 he,hbb,hh⟩;exact hlex;exact Jl hF hlex List.pairwise_lt_range'
 intro i;simp only[List.mem_range',Nat.zero_add,Nat.one_mul];constructor;rintro⟨x,hx,rfl⟩;simp[hx]
 intro hh;rcases Nat.lt_or_ge i os.length with h'|h';exact⟨i,h',rfl⟩;simp[Array.getElem?_eq_none (show(Array.replicate os.length false).size≤i by simpa using h')]at hh
 intro i hi;rcases Nat.lt_or_ge i os.length with h'|h';simp[h']at hi;simp[Array.getElem?_eq_none (show(Array.replicate os.length false).size≤i by simpa using h')]at hi
 intro l1 i l2 hl hk j hj;have hs:(l1++i::l2).Pairwise (· < ·):=hl ▸ List.pairwise_lt_range';have hij:i<j:=List.rel_of_pairwise_cons (List.pairwise_append.1 hs).2.1 hj;have mem:∀x∈l1++i::l2,x<os.length:=by
  intro x hx;rw[← hl]at hx;simp only[List.mem_range',Nat.zero_add,Nat.one_mul]at hx;obtain⟨y,hy,rfl⟩:=hx;exact hy
 have hi:=mem i (by simp);have hj':=mem j (by simp[hj]);have h1:=zm.1 h14 _<|hz (j:=i) (o:=os[i]) (by simp[hi]);simp only[Bool.or_eq_true,Bool.not_eq_true',decide_eq_false_iff_not]at h1;rcases h1 with h1|h1;exact absurd hk h1;have h2:=zm.1 h1 _<|hz (j:=j) (o:=os[j]) (by simp[hj']);simp only[Bool.or_eq_true,Bool.not_eq_true',decide_eq_false_iff_not]at h2;rcases h2 with h2|h2;exact absurd hij h2;simpa using h2;exact HS ks os 0 a w.drew (by simp) (by simpa using h)
end
section
variable {P:Program} {ops:Array Oper} {w0:World} {Q:Act→World→Prop} {os:List Oper} {ks:List Nat} {N:Nat} {ρ:Nat→Value} {w:World}
theorem Ad {a:Act}(h:Q a w):LW P ops w0 Q [] ks a w:=h
theorem CY {o:Oper}{k d:Nat}(hk:k≤2)(hd:o.dst=some d)(hu:Up ops N ρ o)(v:Value)(hr:∀w',Cl w0 w k w'→(execOp (Bz N ρ) o).run P w'=.ok (.value v) w')
  (h:LW P ops w0 Q os ks (mk N (CP ρ d v)) w):LW P ops w0 Q (o::os) (k::ks) (mk N ρ) w:=by
 simp only[LW];rw[if_pos hu];unfold By;rw[if_pos hk];refine⟨v,fun w' hc=>.inl ?_,?_⟩;rw[Dm];exact hr w' hc;rw[hd,EA];exact h
theorem Gt {o:Oper}{d:Nat}(hd:o.dst=some d)(hu:Up ops N ρ o)
  (v:Value) (w1:World) (hr:(execOp (Bz N ρ) o).run P w=.ok (.value v) w1) (hE:AB w w1) (h:LW P ops w0 Q os ks (mk N (CP ρ d v)) w1):LW P ops w0 Q (o::os) (3::ks) (mk N ρ) w:=by
 simp only[LW];rw[if_pos hu];unfold By;rw[if_neg (by decide),if_pos rfl];unfold Oper.wp;rw[Dm,hr];show AB w w1∧LW P ops w0 Q os ks ((mk N ρ).put o.dst v) w1;rw[hd,EA];exact⟨hE,h⟩
theorem An {d:Nat} {x:Operand} {xs:Array Operand} {ats:Array TypeId} {ty:TypeId} {pos:String} {aft:Array Edge} {g:Option (Nat × Bool)} (f:FuncId) (first cap:List Value) (args:List Value)
  (hx:Bz N ρ x = .func (.func f) first.toArray cap.toArray) (hxs:first++(xs.toList.map (Bz N ρ))++cap = args) (hf:((P.funcs[f]?).map fun fn=>(fn.name != "runtime.NumGoroutine") && fn.body.isSome) = some true)
  (hu:Up ops N ρ ⟨some d,.call ⟨.value x,xs,ats⟩,ty,pos,aft,g⟩) {R:Ending→World→Prop} (hc:Calls P f args.toArray w R)
  (h:∀ e w1,R e w1→∃ v,e = .returned v∧AB w w1∧LW P ops w0 Q os ks (mk N (CP ρ d v)) w1) :
  LW P ops w0 Q (⟨some d,.call ⟨.value x,xs,ats⟩,ty,pos,aft,g⟩ :: os) (3 :: ks) (mk N ρ) w:=by
 simp only [LW];rw [if_pos hu];unfold By;rw [if_neg (by decide),if_pos rfl];unfold Oper.wp;rw [Dm];have hrun:(execOp (Bz N ρ) ⟨some d,.call ⟨.value x,xs,ats⟩,ty,pos,aft,g⟩).run P w = .ok (.enter f args.toArray) w:=by
  obtain ⟨fn,hfn,hb⟩:=Option.map_eq_some_iff.1 hf;simp only [z7,bne_iff_ne,ne_eq] at hb;have hargs:first.toArray++xs.map (Bz N ρ)++cap.toArray = args.toArray:=by
   rw [← hxs]; apply Array.ext'; simp
  obtain ⟨c,hbc⟩:=Option.isSome_iff_exists.1 hb.2;have hcf:(callFunc f args.toArray).run P w = .ok (.enter f args.toArray) w:=by
   simp [callFunc,hfn,hb.1,hbc]
  simp [execOp,resolve,hargs,hx,Deferred.ofValue,invoke,hcf]
 rw [hrun];refine Calls.mono hc (fun e w1 he=>?_);obtain ⟨v,rfl,hE,hL⟩:=h e w1 he;show AB w w1∧LW P ops w0 Q os ks ((mk N ρ).put (some d) v) w1;rw [EA];exact ⟨hE,hL⟩
theorem AP {d:Nat} {x:Operand} {xs:Array Operand} {ats:Array TypeId} {ty:TypeId} {pos:String} {aft:Array Edge} {g:Option (Nat × Bool)} (f:FuncId) (first cap:List Value) (args:List Value)
  (hx:Bz N ρ x = .func (.func f) first.toArray cap.toArray) (hxs:first++(xs.toList.map (Bz N ρ))++cap = args) (hf:((P.funcs[f]?).map fun fn=>(fn.name != "runtime.NumGoroutine") && fn.body.isSome) = some true)
  (hu:Up ops N ρ ⟨some d,.call ⟨.value x,xs,ats⟩,ty,pos,aft,g⟩) (v:Value) (hc:∀ w',Calls P f args.toArray w' (fun e w''=>e = .returned v∧w'' = w'))
  (h:LW P ops w0 Q os ks (mk N (CP ρ d v)) w) :
  LW P ops w0 Q (⟨some d,.call ⟨.value x,xs,ats⟩,ty,pos,aft,g⟩ :: os) (0 :: ks) (mk N ρ) w:=by
 simp only [LW];rw [if_pos hu];unfold By;rw [if_pos (by decide)];have hrun:∀ w,(execOp (Bz N ρ) ⟨some d,.call ⟨.value x,xs,ats⟩,ty,pos,aft,g⟩).run P w = .ok (.enter f args.toArray) w:=by
  intro w;obtain ⟨fn,hfn,hb⟩:=Option.map_eq_some_iff.1 hf;simp only [z7,bne_iff_ne,ne_eq] at hb;have hargs:first.toArray++xs.map (Bz N ρ)++cap.toArray = args.toArray:=by
   rw [← hxs]; apply Array.ext'; simp
  obtain ⟨c,hbc⟩:=Option.isSome_iff_exists.1 hb.2;have hcf:(callFunc f args.toArray).run P w = .ok (.enter f args.toArray) w:=by
   simp [callFunc,hfn,hb.1,hbc]
  simp [execOp,resolve,hargs,hx,Deferred.ofValue,invoke,hcf]
 refine ⟨v,fun w' _=>.inr (.inr ⟨f,args.toArray,?_,hc w'⟩),?_⟩;rw [Dm]; exact hrun w';show LW P ops w0 Q os ks ((mk N ρ).put (some d) v) w;rw [EA]; exact h
end
section
variable {P:Program} {ops:Array Oper} {w0:World} {Q:Act→World→Prop} {os:List Oper} {ks:List Nat} {N:Nat} {ρ:Nat→Value} {w:World}
 {d:Nat} {ty:TypeId} {pos:String} {aft:Array Edge} {g:Option (Nat×Bool)} {t e:TypeId}
theorem VC {x:Operand}(v:Value)(hx:Bz N ρ x=v)(hu:Up ops N ρ ⟨some d,.move x,ty,pos,aft,g⟩)(h:LW P ops w0 Q os ks (mk N (CP ρ d v)) w) :
  LW P ops w0 Q (⟨some d,.move x,ty,pos,aft,g⟩::os) (0::ks) (mk N ρ) w :=
 CY (by decide) rfl hu v (fun w' _=>by simp[execOp,hx]) h
theorem QT {x:Operand}(v:Value)(hx:Bz N ρ x=v)(hu:Up ops N ρ ⟨some d,.assign x,ty,pos,aft,g⟩)(h:LW P ops w0 Q os ks (mk N (CP ρ d v)) w) :
  LW P ops w0 Q (⟨some d,.assign x,ty,pos,aft,g⟩::os) (0::ks) (mk N ρ) w :=
 CY (by decide) rfl hu v (fun w' _=>by simp[execOp,hx]) h
theorem AM {t e:TypeId}{x y:Operand}{v:Value}{n s:Nat}{k:IntKind}{i:Int}(j:Nat)(ht:P.underlying t=some (.slice e)){z:Value}{b:Nat}(hi:TI P e s z b)(hx:Bz N ρ x=v)(hy:Bz N ρ y=.int k i)
  (hs:CH v n) (hj:i=(j:Int)) (hlt:j<n) (hu:Up ops N ρ ⟨some d,.indexAddr t x y,ty,pos,aft,g⟩)
  (h:LW P ops w0 Q os ks (mk N (CP ρ d (AF v j s))) w):LW P ops w0 Q (⟨some d,.indexAddr t x y,ty,pos,aft,g⟩::os) (0::ks) (mk N ρ) w :=
 CY (by decide) rfl hu _ (fun w' _=>by
  obtain⟨a,c,rfl,ha⟩:=hs
  obtain⟨inf,h1,_,h3,_⟩:=hi.get
  subst hj
  cases a with
  |none=>have:=ha rfl;omega
  |some a =>
   have hlt':(j:Int)<(n:Int):=by omega
   simp[execOp,hx,hy,Instr.indexAt,asIntOf,run_underlying ht,sizeOf,typeInfo,h1,h3,AF,hlt]) h
theorem Ao {s:TypeId}{x:Operand}{i:Nat}{p:Value}{b o:Nat}(off:Nat)(hf:HE P s i off=true)(hx:Bz N ρ x=p)(hp:p=.pointer (some ⟨b,o,none⟩))(hu:Up ops N ρ ⟨some d,.fieldAddr s x i,ty,pos,aft,g⟩)
  (h:LW P ops w0 Q os ks (mk N (CP ρ d (Ax p off))) w):LW P ops w0 Q (⟨some d,.fieldAddr s x i,ty,pos,aft,g⟩::os) (0::ks) (mk N ρ) w :=
 CY (by decide) rfl hu _ (fun w' _=>by
  subst hp
  unfold HE at hf
  split at hf
  rename_i fs hfs
  split at hf
  rename_i f hff
  simp only[z7,beq_iff_eq]at hf
  obtain⟨rfl,hf2⟩:=hf
  split at hf2
  rename_i inf hin
  have hne:inf.size≠0:=by simpa using hf2
  simp[execOp,Instr.fieldAt,Instr.sureAddr,run_underlying hfs,hff,hx,fieldPlace,sizeOf,typeInfo,hin,hne,FH,Ax]
  cases hf2
  cases hf
  cases hf) h
theorem Zz {x:Operand}{p:Value}(u:Value)(ht:CR P t)(hx:Bz N ρ x=p)(hc:∀w',AB w0 w'→JU w'.heap p=some u)(hu:Up ops N ρ ⟨some d,.load t x,ty,pos,aft,g⟩)
  (h:LW P ops w0 Q os ks (mk N (CP ρ d u)) w):LW P ops w0 Q (⟨some d,.load t x,ty,pos,aft,g⟩::os) (1::ks) (mk N ρ) w :=
 CY (by decide) rfl hu _ (fun w' hcl=>by simp[execOp,hx,Mj ht (hc w' hcl)]) h
theorem XQ {s:Nat}{x:Operand}{p:Value}(cs:List Value)(ht:Fy P t s=true)(hx:Bz N ρ x=p)(hc:∀w',AB w0 w'→LD w'.heap p cs)(hl:cs.length=s)
  (hu:Up ops N ρ ⟨some d,.load t x,ty,pos,aft,g⟩)
  (h:LW P ops w0 Q os ks (mk N (CP ρ d (.agg cs.toArray))) w):LW P ops w0 Q (⟨some d,.load t x,ty,pos,aft,g⟩::os) (1::ks) (mk N ρ) w :=
 CY (by decide) rfl hu _ (fun w' hcl=>by simp[execOp,hx,Ml ht (hc w' hcl) hl]) h
end
section
variable {P:Program} {ops:Array Oper} {w0:World} {Q:Act→World→Prop} {os:List Oper} {ks:List Nat} {N:Nat} {ρ:Nat→Value} {w:World}
 {d:Nat} {ty:TypeId} {pos:String} {aft:Array Edge} {g:Option (Nat×Bool)} {t e:TypeId} {z:Value} {b:Nat}
theorem BJ {α:Type}{E:BI α}(hE:CC E){x:Operand}{u:Value}{y:α}{B U:Nat}(ht:P.underlying t=some (.slice e))(hi:TI P e 1 z b)(hz:z.cells=#[z])(hx:Bz N ρ x=u)(hy:Fr E B U w.heap u y)(hB:B≤w.heap.size)
  (hu:Up ops N ρ ⟨some d,.buildSlice t 1 #[(0,x)],ty,pos,aft,g⟩)
  (h:∀v w1,_root_.Go.Proofs.YtlbefjfhfodnlaaGreatDoor.AB w w1→w1.heap.size=w.heap.size+1→Fr (BG E e) B w1.heap.size w1.heap v [y]→LW P ops w0 Q os ks (mk N (CP ρ d v)) w1) :
  LW P ops w0 Q (⟨some d,.buildSlice t 1 #[(0,x)],ty,pos,aft,g⟩::os) (3::ks) (mk N ρ) w:=by
 obtain⟨F,h1,h2,h3⟩:=hy;have hr:=P9 (P:=P) (w:=w) ht hi (hE.cells h1) hz;have hrun:(execOp (Bz N ρ) ⟨some d,.buildSlice t 1 #[(0,x)],ty,pos,aft,g⟩).run P w=.ok (.value (.slice (some ⟨w.heap.size,0,none⟩) 1 1)) (w.alloc (.cells #[u] e)):=by
  simp only[execOp,zc,zf,zh,Sem.run_bind,hx,hr,Result.andThen_ok,Sem.run_pure]
 refine Gt rfl hu _ _ hrun (J.ext<|BA _ _)<|h _ _ (BA _ _) (by simp) ?_;have hn:=H8 (e:=e) (w:=w) hE (us:=[u]) (xs:=[y]) (F:=F++[]) (cur:=#[u]) ⟨F,[],rfl,h1,rfl⟩ (by simp[maxLen]) rfl (by simp);refine⟨_,hn,?_,fun c hc=>?_⟩;rw[List.append_nil,List.nodup_cons];exact⟨fun hm=>by have:=hE.lt h1 _ hm;omega,h2⟩;have hlt:=(DM hE).lt hn c hc;refine⟨?_,hlt⟩;rcases ze.1 hc with rfl|hc;exact hB;exact (h3 c (by simpa using hc)).1
theorem VH {x y:Operand} {v a u:Value} {xs:List (List Int)} {r:List Int} {S:List Nat} {B' U':Nat} (ht:P.underlying t = some (.slice e)) (hi:TI P e 1 z b) (hz:z.cells = #[z]) (hx:Bz N ρ x = E6 v) (hy:Bz N ρ y = a)
  (hv:RN S (B8 (B8 rI)) w.heap v xs) (ha:Fr (BG rV e) B' U' w.heap a [u]) (hr:RN S (B8 rI) w.heap u r) (hS:∀ c∈S,c < w.heap.size) (hbytes:(xs.length + 1) * b≤140737488355328) (hmx:xs.length + 1≤maxLen)
  (hu:Up ops N ρ ⟨some d,.call ⟨.builtin .append,#[x,y],#[t,t]⟩,ty,pos,aft,g⟩)
  (h:∀ v1 w1,_root_.Go.Proofs.YtlbefjfhfodnlaaGreatDoor.AB w w1→RN S (B8 (B8 rI)) w1.heap v1 (xs++[r])→Bt v1→LW P ops w0 Q os ks (mk N (CP ρ d v1)) w1) :
  LW P ops w0 Q (⟨some d,.call ⟨.builtin .append,#[x,y],#[t,t]⟩,ty,pos,aft,g⟩ :: os) (3 :: ks) (mk N ρ) w:=by
 obtain ⟨G,g1',g2',g3'⟩:=ha;obtain ⟨K,k1,k2⟩:=hv;obtain ⟨R,r1,r2⟩:=hr;obtain ⟨i,h1,h2,h3,h4⟩:=hi.get;subst h4;have hone:=g1.one r1;rcases g1' with ⟨_,hc,_⟩ | ⟨asq,ga,capa,cura,Fa,helsa,hav,hga,qa1,qa2,qa3,qa4,rfl⟩;cases hc
 ·obtain ⟨hq,hFa⟩:=Hb helsa;subst hq;subst hav;have hnews:∀ j q,[u][j]? = some q→w.cell? ((⟨ga,0,none⟩:Addr).add j) = some q:=by
   intro j q hj;rw [FH,BT];simp only [CB,hga];rw [← qa4,List.getElem?_take] at hj;split at hj;simpa using hj;cases hj
  have made:∀ (w1:World) (ous:List Value) (K0:List Nat) (rest:Nat),w1.heap = w.heap→w1.os = w.os→w1.tape = w.tape→w1.output = w.output→els (B8 rI) w.heap ous xs K0→(∀ c∈K0,c∈K)→xs.length + 1 + rest≤maxLen →
    _root_.Go.Proofs.YtlbefjfhfodnlaaGreatDoor.AB w (w1.alloc (.cells (ous.toArray++[u].toArray++Builtin.zeroCells z.cells rest) e))∧RN S (B8 (B8 rI)) (w1.alloc (.cells (ous.toArray++[u].toArray++Builtin.zeroCells z.cells rest) e)).heap (.slice (some ⟨w.heap.size,0,none⟩) (xs.length + 1) (xs.length + 1 + rest)) (xs++[r]):=by
   intro w1 ous K0 rest hh ho htp hop hou hsub hmax;have hE:_root_.Go.Proofs.YtlbefjfhfodnlaaGreatDoor.AB w (w1.alloc (.cells (ous.toArray++[u].toArray++Builtin.zeroCells z.cells rest) e)):=by
    refine ⟨ho,htp,hop,?_,fun k hk=>?_⟩;show w.heap.size≤(w1.heap.push _).size;rw [hh]; simp;have:=Below.heap_alloc w1 (.cells (ous.toArray++[u].toArray++Builtin.zeroCells z.cells rest) e) k (by rw [hh]; exact hk);rw [this,hh]
   refine ⟨hE,w.heap.size :: (K0++R),.inr ⟨ous++[u],w.heap.size,0,xs.length + 1 + rest,(ous.toArray++[u].toArray++Builtin.zeroCells z.cells rest),e,(0,0),K0++R,?_,by simp,?_,?_,by simp; omega,rfl⟩,?_⟩;refine els.stable g1 (hou.append (show els (B8 rI) w.heap [u] [r] R from ⟨R,[],by simp,r1,rfl⟩)) fun c hc=>hE.heap ?_;exact (hou.append (show els (B8 rI) w.heap [u] [r] R from ⟨R,[],by simp,r1,rfl⟩)).lt g1 c hc;have:=heap_alloc_new w1 (.cells (ous.toArray++[u].toArray++Builtin.zeroCells z.cells rest) e);rw [hh] at this; exact this;have hl:=hou.length;simp only [Array.toList_append,List.drop_zero];rw [show (xs++[r]).length = (ous++[u]).length from by simp [hl]];exact List.take_left
   intro c hc hm;rcases ze.1 hc with rfl | hc;have:=hS _ hm; omega;rcases zi.1 hc with hc | hc;exact k2 c (hsub c hc) hm;exact r2 c hc hm
  have hone1:[u].length = [u].length * i.size:=by rw [h3,Nat.mul_one]
  rcases k1 with ⟨a0,cap0,rfl,rfl,rfl⟩ | ⟨ous,gv,off,cap,cur,e',fr,K',hels,rfl,hg,hw,_,rfl⟩
  ·-- nothing so far
   cases a0 with
   | none =>
    have hrr:=run_append_nil (P:=P) w t ty e i z ht h1 h2 ⟨ga,0,none⟩ 1 capa [u] hone1 hnews (by decide) (by decide) (by simp at hbytes; omega);have hge:=grownCap_ge w 1 0 e;have hgm:=grownCap_le_maxLen w 1 0 e (by simpa using hmx);obtain ⟨q1,q2⟩:=made w.drew [] [] (grownCap w 1 0 e - 1) rfl rfl rfl rfl rfl (fun c hc=>by cases hc) (by simp; omega);refine Gt rfl hu _ _ (by simp only [execOp,resolve,invoke,builtin,zc,zf,zh,Sem.run_bind,Sem.run_pure,Result.andThen_ok,hx,hy,E6]; rw [show [u].length = 1 from rfl,hrr]; rfl) (J.ext (by simpa using q1))<|h _ _ ?_ ?_ ?_;simpa using q1;have ea:(([]:List (List Int)).length + 1 + (grownCap w 1 0 e - 1)) = grownCap w 1 0 e:=by simp; omega
    rw [ea] at q2;simpa using q2;exact hge
   | some a1 =>
    have hrr:=run_append_grow (P:=P) w t ty e i z ht h1 h2 a1 0 0 [] (by rw [h3]; rfl) (by intro j q hj; cases hj) ⟨ga,0,none⟩ 1 capa [u] hone1 hnews zO (by decide)<|growslice_fits zO (by simpa using hbytes);have hge:=grownCap_ge w (0 + 1) 0 e;have hgm:=grownCap_le_maxLen w (0 + 1) 0 e (by simpa using hmx);obtain ⟨q1,q2⟩:=made w.drew [] [] (grownCap w (0 + 1) 0 e - (0 + 1)) rfl rfl rfl rfl rfl (fun c hc=>by cases hc) (by show 0 + 1 + (grownCap w (0 + 1) 0 e - (0 + 1))≤maxLen; omega);refine Gt rfl hu _ _ (by simp only [execOp,resolve,invoke,builtin,zc,zf,zh,Sem.run_bind,Sem.run_pure,Result.andThen_ok,hx,hy,E6]; rw [show [u].length = 1 from rfl,hrr]; rfl) (J.ext (by simpa using q1))<|h _ _ q1 ?_ ?_;rotate_left;exact hge;have ea:(([]:List (List Int)).length + 1 + (grownCap w (0 + 1) 0 e - (0 + 1))) = grownCap w (0 + 1) 0 e:=by show 0 + 1 + (grownCap w (0 + 1) 0 e - (0 + 1)) = _; omega
    rw [ea] at q2;simpa using q2
  ·have holds:∀ j q,ous[j]? = some q→w.cell? ((⟨gv,off,none⟩:Addr).add j) = some q:=by
    intro j q hj;rw [FH,BT];simp only [CB,hg];rw [← hw,List.getElem?_take] at hj;split at hj;rw [List.getElem?_drop] at hj; simpa using hj;cases hj
   have hrr:=run_append_grow (P:=P) w t ty e i z ht h1 h2 ⟨gv,off,none⟩ xs.length xs.length ous (by rw [h3,hels.length]; omega) holds ⟨ga,0,none⟩ 1 capa [u] hone1 hnews zO (by simp only [maxLen] at hmx; omega)<|growslice_fits zO hbytes;have hge:=grownCap_ge w (xs.length + 1) xs.length e;have hgm:=grownCap_le_maxLen w (xs.length + 1) xs.length e hmx;obtain ⟨q1,q2⟩:=made w.drew ous K' (grownCap w (xs.length + 1) xs.length e - (xs.length + 1)) rfl rfl rfl rfl hels (fun c hc=>z3 _ hc) zO;refine Gt rfl hu _ _ (by simp only [execOp,resolve,invoke,builtin,zc,zf,zh,Sem.run_bind,Sem.run_pure,Result.andThen_ok,hx,hy,E6]; rw [show [u].length = 1 from rfl,hrr]; rfl) (J.ext (by simpa using q1))<|h _ _ q1 ?_ ?_;rotate_left;exact hge;have ea:(xs.length + 1 + (grownCap w (xs.length + 1) xs.length e - (xs.length + 1))) = grownCap w (xs.length + 1) xs.length e:=by omega
   rw [ea] at q2;exact q2
end
end Jx
end
section
def RT {α:Type}(T:Nat)(E:BI α)(H:Array Obj)(v:Value)(x:α):Prop:=∃F,E H v x F∧∀b∈F,b<T
section rt
variable {α:Type} {E:BI α} {T:Nat} {w w':World} {v:Value} {x:α} {xs:List α} {F S:List Nat}
theorem RN.rt (hE:CC E)(h:RN S E w.heap v x):RT w.heap.size E w.heap v x:=by obtain⟨F,h,_⟩:=h;exact⟨F,h,hE.lt h⟩
theorem RT.ext (hE:CC E)(h:RT T E w.heap v x)(k:AB w w'):RT T E w'.heap v x:=by obtain⟨F,h,hb⟩:=h;exact⟨F,hE.stable h fun b hm=>k.heap (hE.lt h b hm),hb⟩
theorem RT.chg (hE:CC E)(h:RT T E w.heap v x)(c:AG F w w')(hF:∀b∈F,T≤b):RT T E w'.heap v x:=by obtain⟨G,h,hb⟩:=h;exact⟨G,hE.stable h fun b hm=>c.block b (hE.lt h b hm) fun hf=>by have:=hF b hf;have:=hb b hm;omega,hb⟩
theorem RT.rd {H:Array Obj}(h:RT T E H v x):Rd E H v x:=by obtain⟨F,h,_⟩:=h;exact⟨F,h⟩
theorem RT.rn {H:Array Obj}(h:RT T E H v x):RN [] E H v x:=by obtain⟨F,h,_⟩:=h;exact⟨F,h,fun b _ hm=>by cases hm⟩
theorem RT.slL {H:Array Obj}(h:RT T (B8 E) H v xs):Go.Proofs.YtlbefjfhfodnlaaGreatDoor.CH v xs.length:=h.rn.slL
theorem RT.lenL {H:Array Obj}(h:RT T (B8 E) H v xs):xs.length≤maxLen:=h.rn.lenL
theorem RT.getL {H:Array Obj}(hE:CC E)(d:α){k:Nat}(h:RT T (B8 E) H v xs)(hk:k<xs.length):∃u,JU H (AF v k 1)=some u∧RT T E H u (xs.getD k d):=by obtain⟨F,h,hb⟩:=h;obtain⟨u,F1,h1,h2,h3⟩:=B8.get2 d h hk;exact⟨u,h1 _ fun _ _=>rfl,F1,h2,fun b hm=>hb b (h3 b hm)⟩
theorem RT.getI {H:Array Obj}{xs:List Int}{k:Nat}(h:RT T (B8 rI) H v xs)(hk:k<xs.length):JU H (AF v k 1)=some (.int .i64 (xs.getD k 0))∧-9223372036854775808≤xs.getD k 0∧xs.getD k 0≤9223372036854775807:=h.rd.getI hk
end rt
section ops
variable {P:Program} {ops:Array Oper} {w0:World} {Q:Act→World→Prop} {os:List Oper} {ks:List Nat} {N:Nat} {ρ:Nat→Value} {w:World}
 {d:Nat} {ty:TypeId} {pos:String} {aft:Array Edge} {g:Option (Nat×Bool)} {t e:TypeId}
theorem AI {x:Operand}{p:Value}(hp:∃g o,p=.pointer (some ⟨g,o,none⟩))(hx:Bz N ρ x=p)(hu:Up ops N ρ ⟨some d,.nilCheck x,ty,pos,aft,g⟩)
  (h:LW P ops w0 Q os ks (mk N (CP ρ d p)) w):LW P ops w0 Q (⟨some d,.nilCheck x,ty,pos,aft,g⟩::os) (0::ks) (mk N ρ) w:=by
 obtain⟨b,o,rfl⟩:=hp;exact CY (by decide) rfl hu _ (fun w' _=>by simp[execOp,hx]) h
theorem Mq (a:Addr):a.add 0=a:=by obtain⟨b,o,s⟩:=a;unfold Addr.add;simp
theorem R2 {x y z:Operand}{v u:Value}{n s b:Nat}(ht:P.underlying t=some (.slice e))(hi:TI P e s u b)(hx:Bz N ρ x=v)(hs:CH v n)(hy:Bz N ρ y=.int .i64 (n:Int))(hz:Bz N ρ z=.int .i64 (n:Int))(hc:Bt v)
  (hu:Up ops N ρ ⟨some d,.slice t x none (some y) (some z),ty,pos,aft,g⟩)
  (h:LW P ops w0 Q os ks (mk N (CP ρ d (E6 v))) w):LW P ops w0 Q (⟨some d,.slice t x none (some y) (some z),ty,pos,aft,g⟩::os) (0::ks) (mk N ρ) w:=by
 obtain⟨a,cap,rfl,_⟩:=hs;obtain⟨inf,h1,_,h3,_⟩:=hi.get;refine CY (by decide) rfl hu _ (fun w' _=>?_) h;have hl':n≤cap:=hc;have hmap:∀a:Option Addr,a.map (·.add 0)=a:=fun a=>by cases a <;> simp[Mq]
 simp[execOp,hx,hy,hz,Instr.sliceAt,Instr.slice,Instr.sliceBounds,Instr.sliceBound,asIntOf,run_underlying ht,sizeOf,typeInfo,h1,h3,E6,hl',hmap]
end ops
end
section
def FA (a b:ByteArray):Bool:=a.toList == b.toList
section ops
variable {P:Program} {ops:Array Oper} {w0:World} {Q:Act→World→Prop} {os:List Oper} {ks:List Nat} {N:Nat} {ρ:Nat→Value} {w:World}
 {d:Nat} {ty:TypeId} {pos:String} {aft:Array Edge} {g:Option (Nat×Bool)} {t e:TypeId}
theorem JX {xt yt:TypeId}{x y:Operand}{a b:ByteArray}(c:Bool)(ht:P.underlying xt=some .string)(hx:Bz N ρ x=.string a)(hy:Bz N ρ y=.string b)(hc:FA a b=c)(hu:Up ops N ρ ⟨some d,.binOp .eql xt x y yt,ty,pos,aft,g⟩)
  (h:LW P ops w0 Q os ks (mk N (CP ρ d (.bool c))) w):LW P ops w0 Q (⟨some d,.binOp .eql xt x y yt,ty,pos,aft,g⟩::os) (0::ks) (mk N ρ) w :=
 CY (by decide) rfl hu _ (fun w' _=>by
  have he:(eqGuard .eql xt x y (.string a) (.string b)).run P w'=.ok () w':=rfl
  have hr:(binOp .eql xt (.string a) (.string b)).run P w'=.ok (.bool (FA a b)) w':=by simp[binOp,Op.stringOp,FA]
  simp only[execOp,hx,hy,Sem.run_bind,he,Result.andThen_ok,hr,hc,Sem.run_pure]) h
def Nx:Value→Nat→Value
 |.slice a _ c,k=>.slice a k c
 |v,_=>v
theorem RN.pref {α:Type}{S:List Nat}{s:Nat}{E:Ci α}{H:Array Obj}{v:Value}{xs:List α}(hE:Db s E){k:Nat}(h:RN S (HW s E) H v xs)(hk:k≤xs.length):RN S (HW s E) H (Nx v k) (xs.take k):=by obtain⟨F,h,hb⟩:=h;obtain⟨a,c,rfl,_⟩:=h.cap;obtain⟨G,g1,g2⟩:=h.take hE hk;exact⟨G,g1,fun b hm=>hb b (g2 b hm)⟩
theorem RN.capS {α:Type}{S:List Nat}{s:Nat}{E:Ci α}{H:Array Obj}{v:Value}{xs:List α}(h:RN S (HW s E) H v xs):Bt v:=by obtain⟨F,h,hb⟩:=h;obtain⟨a,c,rfl,hl⟩:=h.cap;exact hl
theorem VJ {x y:Operand}{v z:Value}{n s b k:Nat}(ht:P.underlying t=some (.slice e))(hi:TI P e s z b)(hx:Bz N ρ x=v)(hs:CH v n)(hc:Bt v)(hy:Bz N ρ y=.int .i64 (k:Int))(hk:k≤n)(hu:Up ops N ρ ⟨some d,.slice t x none (some y) none,ty,pos,aft,g⟩)
  (h:LW P ops w0 Q os ks (mk N (CP ρ d (Nx v k))) w):LW P ops w0 Q (⟨some d,.slice t x none (some y) none,ty,pos,aft,g⟩::os) (0::ks) (mk N ρ) w:=by
 obtain⟨a,cap,rfl,_⟩:=hs;obtain⟨inf,h1,_,h3,_⟩:=hi.get;refine CY (by decide) rfl hu _ (fun w' _=>?_) h;have hl:n≤cap:=hc;have hl':k≤cap:=by omega
 have hmap:∀a:Option Addr,a.map (·.add 0)=a:=fun a=>by cases a <;> simp[Mq]
 simp[execOp,hx,hy,Instr.sliceAt,Instr.slice,Instr.sliceBounds,Instr.sliceBound,asIntOf,run_underlying ht,sizeOf,typeInfo,h1,h3,hl',hmap,Nx]
end ops
end
section
def BP {α:Type}(s:Nat)(E:Ci α)(e:TypeId):BI (List α):=fun H v xs F =>
 (v=.slice none 0 0∧xs=[]∧F=[]) ∨
 ∃css g cap cur F',DI E H css xs F'∧v=.slice (some ⟨g,0,none⟩) xs.length cap∧H[g]? = some (.cells cur e (0,0))∧xs.length≤cap∧cap≤maxLen∧cur.size=cap*s∧cur.toList.take (xs.length*s)=css.flatten∧F=g::F'
section BP
variable {α:Type} {E:Ci α} {s:Nat} {e:TypeId} {H H':Array Obj} {v:Value} {xs:List α} {F:List Nat}
theorem Ae (hE:Db s E):CC (BP s E e) where
 cells:=by
  rintro H v xs F (⟨rfl,_⟩|⟨us,g,cap,cur,F',_,rfl,_⟩) <;> rfl
 one:=by
  rintro H v xs F (⟨rfl,_⟩|⟨us,g,cap,cur,F',_,rfl,_⟩) <;> rfl
 lt:=by
  rintro H v xs F (⟨rfl,_,rfl⟩|⟨us,g,cap,cur,F',h,rfl,hg,_,_,_,_,rfl⟩) b hb;cases hb;rcases ze.1 hb with rfl|hb;exact getElem?_lt hg;exact h.lt hE b hb
 stable:=by
  rintro H H' v xs F (⟨rfl,h1,h2⟩|⟨us,g,cap,cur,F',h,rfl,hg,r1,r2,r3,r4,rfl⟩) hb;exact .inl ⟨rfl,h1,h2⟩;exact .inr ⟨us,g,cap,cur,F',h.stable hE fun b hh=>hb b<|z3 _ hh,rfl,by rw[hb g (z0 ..)];exact hg,r1,r2,r3,r4,rfl⟩
theorem DI.imp {E':Ci α}(hi:∀ {H cs x F},E H cs x F→E' H cs x F):∀ {css:List (List Value)}{xs:List α}{F:List Nat},DI E H css xs F→DI E' H css xs F
 |[],[],_,h=>h
 |_::_,_::_,_,⟨F1,F2,rfl,h1,h2⟩=>⟨F1,F2,rfl,hi h1,DI.imp hi h2⟩
 |[],_::_,_,h=>h.elim
 |_::_,[],_,h=>h.elim
theorem BP.imp {E':Ci α}(hi:∀ {H cs x F},E H cs x F→E' H cs x F)(h:BP s E e H v xs F):BP s E' e H v xs F:=by rcases h with h|⟨us,g,cap,cur,F',h,rfl,hg,r1,r2,r3,r4,rfl⟩;exact .inl h;exact .inr ⟨us,g,cap,cur,F',h.imp hi,rfl,hg,r1,r2,r3,r4,rfl⟩
theorem BP.rd (hE:Db s E)(h:BP s E e H v xs F):HW s E H v xs F:=by rcases h with⟨rfl,rfl,rfl⟩|⟨us,g,cap,cur,F',h,rfl,hg,r1,r2,r3,r4,rfl⟩;exact .inl ⟨none,0,rfl,rfl,rfl⟩;refine .inr ⟨us,g,0,cap,cur,e,(0,0),F',h,rfl,hg,?_,⟨A8 r1 r2,r1⟩,rfl⟩;rw[List.drop_zero];exact r4
theorem BP.isSl (h:BP s E e H v xs F):CH v xs.length:=by rcases h with⟨rfl,rfl,_⟩|⟨us,g,cap,cur,F',_,rfl,_⟩;exact⟨none,0,rfl,fun _=>rfl⟩;exact⟨_,_,rfl,fun h=>by cases h⟩
end BP
end
theorem HW.imp {α:Type}{E E':Ci α}{s:Nat}{H:Array Obj}{v:Value}{xs:List α}{F:List Nat}(hi:∀ {H cs x F},E H cs x F→E' H cs x F)(h:HW s E H v xs F):HW s E' H v xs F:=by rcases h with h|⟨css,g,off,cap,cur,e,fr,F',h1,h2⟩;exact .inl h;exact .inr ⟨css,g,off,cap,cur,e,fr,F',h1.imp hi,h2⟩
def C6 (e:TypeId):Nat→Ci Ex
 |0=>fun _ _ _ _=>False
 |d+1=>fun H cs x F=>∃v,cs=C8 x v∧Eu x∧BP 5 (C6 e d) e H v x.kids F
theorem Ag (e:TypeId):∀d,Db 5 (C6 e d)
 |0=>⟨fun h=>h.elim,fun h=>h.elim,fun h=>h.elim,fun h=>h.elim⟩
 |d+1=>by
  have ih:=Ag e d
  refine⟨?_,?_,?_,?_⟩
  rintro H cs e F ⟨v,rfl,_,_⟩;rfl
  rintro H cs e F ⟨v,rfl,_,h⟩ u hu
  unfold C8 at hu
  simp only[ze,z2,or_false]at hu
  rcases hu with rfl|rfl|rfl|rfl|rfl
  exact⟨rfl,rfl⟩
  exact⟨rfl,rfl⟩
  exact⟨rfl,rfl⟩
  exact⟨rfl,rfl⟩
  exact⟨(Ae ih).cells h,(Ae ih).one h⟩
  rintro H cs e F ⟨v,rfl,_,h⟩ b hb
  exact (Ae ih).lt h b hb
  rintro H H' cs e F ⟨v,rfl,hr,h⟩ hb
  exact⟨v,rfl,hr,(Ae ih).stable h hb⟩
theorem R3 (e:TypeId):∀ {d:Nat}{H:Array Obj}{cs:List Value}{x:Ex}{F:List Nat},C6 e d H cs x F→Hv d H cs x F
 |0,_,_,_,_,h=>h.elim
 |d+1,_,_,_,_,⟨v,h1,h2,h3⟩=>⟨v,h1,h2,(h3.rd (Ag e d)).imp fun h=>R3 e h⟩
def JQ (e:TypeId)(d:Nat):Ci Fn:=fun H cs f F=>∃v,cs=GM f v∧CD f.params∧BP 5 (C6 e d) e H v f.outs F
theorem AA (e:TypeId)(d:Nat):Db 3 (JQ e d):=by have ih:=Ae (e:=e)<|Ag e d;refine⟨?_,?_,?_,?_⟩;rintro H cs e F ⟨v,rfl,_,_⟩;rfl;rintro H cs e F ⟨v,rfl,_,h⟩ u hu;unfold GM at hu;simp only[ze,z2,or_false]at hu;rcases hu with rfl|rfl|rfl;exact⟨rfl,rfl⟩;exact⟨rfl,rfl⟩;exact⟨ih.cells h,ih.one h⟩;rintro H cs e F ⟨v,rfl,_,h⟩ b hb;exact ih.lt h b hb;rintro H H' cs e F ⟨v,rfl,hr,h⟩ hb;exact⟨v,rfl,hr,ih.stable h hb⟩
theorem R4 (e:TypeId){d:Nat}{H:Array Obj}{cs:List Value}{x:Fn}{F:List Nat}(h:JQ e d H cs x F):VF d H cs x F:=by obtain⟨v,h1,h2,h3⟩:=h;exact⟨v,h1,h2,(h3.rd (Ag e d)).imp fun h=>R3 e h⟩
section
section res
variable {P:Program} {N:Nat} {ρ:Nat→Value} {w:World} {t:TypeId}
theorem Jn {s b o:Nat}(ht:Fy P t s=true){cs:List Value}(h:LD w.heap (.pointer (some ⟨b,o,none⟩)) cs)(hl:cs.length=s):(loadVar t ⟨b,o,none⟩).run P w=.ok (.agg cs.toArray) w:=by
 obtain⟨b',o',he,h⟩:=h
 injection he with he
 injection he with he
 injection he with hb ho _;subst hb;subst ho;unfold Fy at ht;simp only[z7]at ht;obtain⟨h1,h2⟩:=ht;split at h1;rename_i fs hfs;split at h2;rename_i inf hin;have hs:inf.size=s:=by simpa using h2
 have hag:(isAgg t).run P w=.ok true w:=by
  unfold isAgg;simp only[Sem.run_bind,run_underlying hfs,Result.andThen_ok];rfl
 have hlc:=run_loadCells_list (P:=P) w ⟨b,o,none⟩ cs (fun j v hj=>by
  rw[FH,BT];have hjl:j<cs.length:=(List.getElem?_eq_some_iff.1 hj).1;rw[h j hjl];simp[List.getD,hj])
 rw[hl,← hs]at hlc;simp[loadVar,hag,sizeOf,typeInfo,hin,hlc];cases h2;cases h1
theorem AO {fn:Func}{R:Ending→World→Prop}{k s b:Nat}{ty:TypeId}{cs:List Value}(hr:fn.results=#[.cell k ty])(ha:Fy P ty s=true)(hv:Bz N ρ (.tmp k)=.pointer (some ⟨b,0,none⟩))(hb:BX w.heap b cs)(hl:cs.length=s)
  (h:R (.returned (.agg cs.toArray)) w):bodyPost P fn R .ret (mk N ρ) w:=by
 refine⟨rfl,_,?_,h⟩;have hld:=Jn (P:=P) ha (LD.of_box hb) hl;have hg:(mk N ρ).tmps.getD k undef=.pointer (some ⟨b,0,none⟩):=by rw[KG,hv]
 have hi:(asAddr (.pointer (some ⟨b,0,none⟩))).run P w=.ok ⟨b,0,none⟩ w:=rfl;unfold results;rw[hr];have hg':(mk N ρ).tmps[k]?.getD undef=.pointer (some ⟨b,0,none⟩):=by simpa using hg
 simp[Sem.run_bind,hg',hi,hld,Result.andThen]
end res
section fr
variable {α:Type} {E:Ci α} {s:Nat} {e e':TypeId} {B U d:Nat} {H:Array Obj} {v:Value}
theorem Fr.isSlS {xs:List α}(h:Fr (BP s E e) B U H v xs):Go.Proofs.YtlbefjfhfodnlaaGreatDoor.CH v xs.length:=by obtain⟨F,h,_⟩:=h;exact h.isSl
theorem RN.of_frF {S:List Nat}{xs:List Fn}(h:Fr (BP 3 (JQ e d) e') B U H v xs)(hS:∀b∈S,b<B):RP S d H v xs:=by obtain⟨F,h1,_,h3⟩:=h;exact⟨F,(h1.rd (AA e d)).imp fun h=>R4 e h,fun b hb hm=>by have:=h3 b hb;have:=hS b hm;omega⟩
end fr
section str
variable {P:Program} {ops:Array Oper} {w0:World} {Q:Act→World→Prop} {os:List Oper} {ks:List Nat} {N:Nat} {ρ:Nat→Value} {w:World}
 {d:Nat} {ty:TypeId} {pos:String} {aft:Array Edge} {g:Option (Nat×Bool)} {t e:TypeId}
theorem La {xt yt:TypeId}{x y:Operand}{a b:ByteArray}(hx:Bz N ρ x=.string a)(hy:Bz N ρ y=.string b)(hl:a.size+b.size≤9223372036854775807)(hu:Up ops N ρ ⟨some d,.binOp .add xt x y yt,ty,pos,aft,g⟩)
  (h:LW P ops w0 Q os ks (mk N (CP ρ d (.string (a++b)))) w):LW P ops w0 Q (⟨some d,.binOp .add xt x y yt,ty,pos,aft,g⟩::os) (0::ks) (mk N ρ) w :=
 CY (by decide) rfl hu _ (fun w' _=>by
  have he:(eqGuard .add xt x y (.string a) (.string b)).run P w'=.ok () w':=rfl
  have hr:(binOp .add xt (.string a) (.string b)).run P w'=.ok (.string (a++b)) w':=by
   have h2:=run_string_add_sum (P:=P) w' a b hl;simpa [binOp]using h2
  simp only[execOp,hx,hy,Sem.run_bind,he,Result.andThen_ok,hr,Sem.run_pure]) h
end str
end
section
theorem Ny:∀(cs:List Value)(k:Nat)(A:Array Value),k+cs.length≤A.size→((cs.zipIdx k).foldl (fun A p=>A.setIfInBounds (0+p.2) p.1) A).toList=A.toList.take k++cs++A.toList.drop (k+cs.length)
 |[],k,A,_=>by simp
 |c::cs,k,A,h=>by
  rw[z9]at h
  rw[List.zipIdx_cons,List.foldl_cons,Ny cs (k+1) _ (by simp;omega)]
  simp only[Array.toList_setIfInBounds,Nat.zero_add]
  have h1:(A.toList.set k c).take (k+1)=A.toList.take k++[c]:=by
   rw[List.take_succ_eq_append_getElem (by simp;omega),List.take_set,List.set_eq_of_length_le (by simp;omega)];simp
  have h2:(A.toList.set k c).drop (k+1+cs.length)=A.toList.drop (k+(c::cs).length):=by
   rw[List.drop_set_of_lt zO,z9,show k+1+cs.length=k+(cs.length+1)from by omega]
  rw[h1,h2,List.append_assoc (A.toList.take k)];simp
theorem R5 {cs:List Value}{A:Array Value}(h:A.size=cs.length):cs.zipIdx.foldl (fun A p=>A.setIfInBounds p.2 p.1) A=cs.toArray:=by apply Array.ext';have:=Ny cs 0 A zO;simp only[List.take_zero,zl,Nat.zero_add]at this;rw[List.drop_of_length_le (by rw[Array.length_toList];omega),List.append_nil]at this;simpa using this
section run
variable {P:Program} {w:World} {α:Type} {E:Ci α} {s:Nat} {t ty e:TypeId} {b:Nat} {z:Value}
theorem Pc {cs:List Value}(ht:P.underlying t=some (.slice e))(hi:TI P e s z b)(hs:0<s)(hs2:s≤1000)(hz:z.cells.size=s)(hc:cs.length=s) :
  (Instr.buildSlice t 1 #[(0,.agg cs.toArray)]).run P w=.ok (.slice (some ⟨w.heap.size,0,none⟩) 1 1) (w.alloc (.cells cs.toArray e)):=by
 obtain⟨i,h1,h2,h3,h4⟩:=hi.get;have h0:¬(s=0):=by omega
 have hA:((Array.range s).map (fun x=>z.cells[x % s]!)).size=cs.length:=by simp[hc]
 have hf:=R5 hA;have hbig:¬(s > 2 ^ 24):=by omega
 simp only[Instr.buildSlice,Sem.run_bind,run_underlying ht,Result.andThen_ok,sizeOf,typeInfo,zeroValue,h1,h2,h3,Nat.one_mul,Instr.fill,hz,Sem.run_pure];have hag:(Value.agg cs.toArray).cells=cs.toArray:=rfl;simp[h0,hbig,hag,hc,newRow,hz,h1,h2,h3,Instr.fill,run_underlying ht,typeInfo];rw[hf]
def Cp (E:Ci α)(B U:Nat)(H:Array Obj)(cs:List Value)(x:α):Prop:=∃G,E H cs x G∧G.Nodup∧∀b∈G,B≤b∧b<U
theorem Jo (hE:Db s E){css:List (List Value)}{xs:List α}{F:List Nat}{cur:Array Value}{cap:Nat}(h:DI E w.heap css xs F)(hl:xs.length≤cap)(hm:cap≤maxLen)(hsz:cur.size=cap*s)(hc:cur.toList.take (xs.length*s)=css.flatten) :
  BP s E e (w.alloc (.cells cur e)).heap (.slice (some ⟨w.heap.size,0,none⟩) xs.length cap) xs (w.heap.size::F):=by
 refine .inr ⟨css,w.heap.size,cap,cur,F,h.stable hE fun b hb=>?_,rfl,?_,hl,hm,hsz,hc,rfl⟩;exact Below.heap_alloc _ _ _<|h.lt hE b hb;show(w.heap.push _)[w.heap.size]? = _;simp
def Bo {α β:Type}(E:Array Obj→β→α→List Nat→Prop)(S:Nat→Prop)(H:Array Obj)(v:β)(x:α):Prop:=∃F,E H v x F∧F.Nodup∧∀b∈F,S b
theorem Bo.chg {α:Type}{E:BI α}(hE:CC E){S:Nat→Prop}{w w':World}{v:Value}{x:α}{F:List Nat}(h:Bo E S w.heap v x)(c:AG F w w')(hF:∀b∈F,¬S b):Bo E S w'.heap v x:=by obtain⟨G,h1,h2,h3⟩:=h;exact⟨G,hE.stable h1 fun b hb=>c.block b (hE.lt h1 b hb) fun hm=>hF b hm (h3 b hb),h2,h3⟩
theorem Bo.isSlS {α:Type}{E:Ci α}{s:Nat}{e:TypeId}{S:Nat→Prop}{H:Array Obj}{v:Value}{xs:List α}(h:Bo (BP s E e) S H v xs):Go.Proofs.YtlbefjfhfodnlaaGreatDoor.CH v xs.length:=by obtain⟨F,h,_⟩:=h;exact h.isSl
theorem Bo.fr {α:Type}{E:BI α}(hE:CC E){S:Nat→Prop}{w:World}{v:Value}{x:α}{B:Nat}(h:Bo E S w.heap v x)(hB:∀b,S b→B≤b):Fr E B w.heap.size w.heap v x:=by obtain⟨G,h1,h2,h3⟩:=h;exact⟨G,h1,h2,fun b hb=>⟨hB b (h3 b hb),hE.lt h1 b hb⟩⟩
theorem Nz (hE:Db s E)(ht:P.underlying t=some (.slice e))(hi:TI P e s z b)(hz:z.cells.size=s)(hs:0<s){v:Value}{xs:List α}{S T:Nat→Prop}(hv:Bo (BP s E e) S w.heap v xs)
  {a:Value} {y:α} (ha:Bo (BP s E e) T w.heap a [y]) (hST:∀b,S b→T b→False) (hbytes:(xs.length+1)*b≤140737488355328) (hmx:xs.length+1≤maxLen) :
  ∃v' w' F,(Builtin.append_ #[t,t] ty #[v,a]).run P w=.ok v' w'∧Bo (BP s E e) (fun b=>S b∨T b∨b=w.heap.size) w'.heap v' (xs++[y])∧AG F w w'∧∀c∈F,S c:=by
 obtain⟨F,hv1,hn,hF⟩:=hv;obtain⟨G,ha1,hnG,hG⟩:=ha;obtain⟨i,h1,h2,h3,h4⟩:=hi.get;subst h4;have hsmall:xs.length+1≤9223372036854775807:=by simp only[maxLen]at hmx;omega
 rcases ha1 with⟨_,h0,_⟩|⟨cas,ga,capa,cura,G',hels,rfl,hga,a1,a2,a3,a4,rfl⟩;cases h0;have hnG':=List.nodup_cons.1 hnG;have hfl:cas.flatten.length=s:=by have:=hels.flen hE;simpa using this
 simp only[zd,Nat.one_mul]at a4 a1;have hnews:∀j u,cas.flatten[j]? = some u→w.cell? ((⟨ga,0,none⟩:Addr).add j)=some u:=by
  intro j u hj;have e1:(⟨ga,0,none⟩:Addr).add j=⟨ga,j,none⟩:=by
   unfold Addr.add;split;rename_i hh;subst hh;rfl;simp
  rw[e1,BT];simp only[CB,hga];rw[← a4,List.getElem?_take]at hj;split at hj;simpa using hj;cases hj
 have h1c:∀u∈cas.flatten,u.oneCell'=true:=fun u hu=>(hels.one hE u hu).2;have hl1:cas.flatten.length=1*i.size:=by rw[h3,hfl,Nat.one_mul]
 have made:∀(w1:World) (ous:List (List Value)) (F0:List Nat) (rest:Nat),w1.heap=w.heap→w1.os=w.os→w1.tape=w.tape→w1.output=w.output→DI E w.heap ous xs F0→(∀c∈F0,c∈F)→F0.Nodup →
   (xs.length+1+rest)≤maxLen →
   Bo (BP s E e) (fun b=>S b∨T b∨b=w.heap.size) (w1.alloc (.cells (ous.flatten.toArray++cas.flatten.toArray++Builtin.zeroCells z.cells rest) e)).heap (.slice (some ⟨w.heap.size,0,none⟩) (xs.length+1) (xs.length+1+rest)) (xs++[y]) ∧
    AG ([]:List Nat) w (w1.alloc (.cells (ous.flatten.toArray++cas.flatten.toArray++Builtin.zeroCells z.cells rest) e)):=by
  intro w1 ous F0 rest hh ho htp hop hou hsub hnd hmax;have happ:=hou.append hels;have hofl:=hou.flen hE;have hzc:(Builtin.zeroCells z.cells rest).size=rest*s:=by simp[Builtin.zeroCells,hz]
  have hsz:(ous.flatten.toArray++cas.flatten.toArray++Builtin.zeroCells z.cells rest).size=(xs.length+1+rest)*s:=by
   rw[Nat.add_mul,Nat.add_mul,Nat.one_mul];simp only[Array.size_append,List.size_toArray,hzc,hfl,hofl]
  have hlen:(xs++[y]).length=xs.length+1:=by simp
  have hnew:=Jo (e:=e) (w:=w1) hE (css:=ous++cas) (xs:=xs++[y]) (F:=F0++G') (cur:=ous.flatten.toArray++cas.flatten.toArray++Builtin.zeroCells z.cells rest) (cap:=xs.length+1+rest)
   (by rw[hh];exact happ) (by rw[hlen];omega) hmax hsz (by
    rw[hlen,Array.toList_append,Array.toList_append,List.flatten_append];have e1:(xs.length+1)*s=(ous.flatten++cas.flatten).length:=by rw[z4,hofl,hfl,Nat.add_mul,Nat.one_mul]
    rw[e1];exact List.take_left)
  rw[hh,hlen]at hnew;have hnn:(w.heap.size::(F0++G')).Nodup:=by
   rw[List.nodup_cons];refine⟨fun hm=>?_,?_⟩;have:=happ.lt hE _ hm;omega;rw[List.nodup_append];refine⟨hnd,hnG'.2,?_⟩;rintro x hx y hy rfl;exact hST _ (hF x<|hsub x hx)<|hG x<|z3 _ hy
  refine⟨⟨_,hnew,hnn,fun c hc=>?_⟩,ho,htp,hop,?_,fun k hk _=>?_⟩;rcases ze.1 hc with rfl|hc;exact .inr<|.inr rfl;rcases zi.1 hc with hc|hc;exact .inl<|hF c<|hsub c hc;exact .inr<|.inl<|hG c<|z3 _ hc;show w.heap.size≤(w1.heap.push _).size;rw[hh];simp;have:=Below.heap_alloc w1 (.cells (ous.flatten.toArray++cas.flatten.toArray++Builtin.zeroCells z.cells rest) e) k (by rw[hh];exact hk);rw[this,hh]
 rcases hv1 with⟨rfl,rfl,rfl⟩|⟨ous,gv,capv,curv,F0,hels0,rfl,hgv,r1,r2,r3,r4,rfl⟩;have hr:=run_append_nil (P:=P) w t ty e i z ht h1 h2 ⟨ga,0,none⟩ 1 capa cas.flatten hl1 hnews (by decide) (by decide) (by simp at hbytes ⊢;omega);have hge:=grownCap_ge w 1 0 e;have hgm:=grownCap_le_maxLen w 1 0 e (by simpa using hmx);obtain⟨q1,q2⟩:=made w.drew [] [] (grownCap w 1 0 e-1) rfl rfl rfl rfl rfl (fun c hc=>by cases hc) zk (by simp;omega);refine⟨_,_,[],hr,?_,?_,fun c hc=>by cases hc⟩;have ea:(([]:List α).length+1+(grownCap w 1 0 e-1))=grownCap w 1 0 e:=by simp;omega
 rw[ea]at q1;simpa using q1;simpa using q2;have hn':=List.nodup_cons.1 hn;have hofl:=hels0.flen hE;by_cases hroom:xs.length+1≤capv;have hbnd:xs.length*s+s≤curv.size:=by rw[r3,← Nat.succ_mul];exact Nat.mul_le_mul_right s hroom
 have hr:=run_append_room (P:=P) w t ty e i ht h1 gv xs.length capv curv hgv ⟨ga,0,none⟩ 1 capa cas.flatten hl1 hnews h1c hroom (by rw[h3,hfl];exact hbnd);rw[h3]at hr;have hgF:gv∉F0:=hn'.1;have hgG:gv∉G':=fun hm=>hST _ (hF gv (z0 ..)) (hG gv (z3 _ hm));refine⟨_,_,[gv],hr,⟨gv::(F0++G'),.inr ⟨ous++cas,gv,capv,_,F0++G',?_,by rw[z4,zd],setRow_heap w gv curv _ e _ hgv,by rw[z4,zd];exact hroom,r2,?_,?_,rfl⟩,?_,fun c hc=>?_⟩,⟨rfl,rfl,rfl,by simp,fun k _ hk=>setRow_other w gv k _ fun hh=>hk (by simp[hh])⟩,fun c hc=>by rw[A9 hc];exact hF gv (z0 ..)⟩;refine (hels0.append hels).stable hE fun c hc=>setRow_other w gv c _ fun hcg=>?_;subst hcg;rcases zi.1 hc with hc|hc;exact hgF hc;exact hgG hc;rw[← r3];simp only[List.size_toArray,z4,List.length_take,List.length_drop,Array.length_toList];omega;rw[z4,zd];simp only[List.flatten_append];rw[r4];have e1:(xs.length+1)*s=(ous.flatten++cas.flatten).length:=by rw[z4,hofl,hfl,Nat.add_mul,Nat.one_mul]
 rw[e1];exact List.take_left;rw[List.nodup_cons,List.nodup_append];refine⟨fun hm=>?_,hn'.2,hnG'.2,?_⟩;rcases zi.1 hm with hm|hm;exact hgF hm;exact hgG hm;rintro x hx y hy rfl;exact hST _ (hF x<|z3 _ hx)<|hG x<|z3 _ hy;rcases ze.1 hc with rfl|hc;exact .inl<|hF c (z0 ..);rcases zi.1 hc with hc|hc;exact .inl<|hF c<|z3 _ hc;exact .inr<|.inl<|hG c<|z3 _ hc;have holds:∀j u,ous.flatten[j]? = some u→w.cell? ((⟨gv,0,none⟩:Addr).add j)=some u:=by
  intro j u hj;have e1:(⟨gv,0,none⟩:Addr).add j=⟨gv,j,none⟩:=by
   unfold Addr.add;split;rename_i hh;subst hh;rfl;simp
  rw[e1,BT];simp only[CB,hgv];rw[← r4,List.getElem?_take]at hj;split at hj;simpa using hj;cases hj
 have hr:=run_append_grow (P:=P) w t ty e i z ht h1 h2 ⟨gv,0,none⟩ xs.length capv ous.flatten (by rw[h3,hofl]) holds ⟨ga,0,none⟩ 1 capa cas.flatten hl1 hnews zO zO<|growslice_fits zO hbytes;have hge:=grownCap_ge w (xs.length+1) capv e;have hgm:=grownCap_le_maxLen w (xs.length+1) capv e hmx;obtain⟨q1,q2⟩:=made w.drew ous F0 (grownCap w (xs.length+1) capv e-(xs.length+1)) rfl rfl rfl rfl hels0 (fun c hc=>z3 _ hc) hn'.2 zO;refine⟨_,_,[],hr,?_,q2,fun c hc=>by cases hc⟩;have ea:(xs.length+1+(grownCap w (xs.length+1) capv e-(xs.length+1)))=grownCap w (xs.length+1) capv e:=by omega
 rw[ea]at q1;exact q1
theorem R6 (hE:Db s E)(ht:P.underlying t=some (.slice e))(hi:TI P e s z b)(hz:z.cells.size=s)(hs:0<s){v:Value}{xs:List α}{B U:Nat}(hv:Fr (BP s E e) B U w.heap v xs)(hB:B≤w.heap.size)
  {a:Value} {y:α} {B' U':Nat} (ha:Fr (BP s E e) B' U' w.heap a [y]) (hU:U≤B') (hBB:B≤B') (hbytes:(xs.length+1)*b≤140737488355328) (hmx:xs.length+1≤maxLen) :
  ∃v' w' F,(Builtin.append_ #[t,t] ty #[v,a]).run P w=.ok v' w'∧Fr (BP s E e) B w'.heap.size w'.heap v' (xs++[y])∧AG F w w'∧∀c∈F,B≤c∧c<U:=by
 obtain⟨v',w',F,r1,⟨G,h1,h2,h3⟩,r3,r4⟩:=Nz (P:=P) (ty:=ty) hE ht hi hz hs (S:=fun b=>B≤b∧b<U) (T:=fun b=>B'≤b∧b<U') hv ha (fun b h1 h2=>by omega) hbytes hmx;exact⟨v',w',F,r1,⟨G,h1,h2,fun b hb=>⟨by have:=h3 b hb;omega,(Ae hE).lt h1 b hb⟩⟩,r3,r4⟩
end run
section ops
variable {P:Program} {ops:Array Oper} {w0:World} {Q:Act→World→Prop} {os:List Oper} {ks:List Nat} {N:Nat} {ρ:Nat→Value} {w:World}
 {d:Nat} {ty:TypeId} {pos:String} {aft:Array Edge} {g:Option (Nat×Bool)} {t e:TypeId} {z:Value} {b s:Nat} {α:Type} {E:Ci α}
theorem CJ (hE:Db s E){x:Operand}{cs:List Value}{y:α}{B U:Nat}(ht:P.underlying t=some (.slice e))(hi:TI P e s z b)(hz:z.cells.size=s)(hs:0<s∧s≤1000)(hx:Bz N ρ x=.agg cs.toArray)(hy:Cp E B U w.heap cs y)(hB:B≤w.heap.size)
  (hu:Up ops N ρ ⟨some d,.buildSlice t 1 #[(0,x)],ty,pos,aft,g⟩)
  (h:∀v w1,AB w w1→w1.heap.size=w.heap.size+1→Fr (BP s E e) B w1.heap.size w1.heap v [y]→LW P ops w0 Q os ks (mk N (CP ρ d v)) w1) :
  LW P ops w0 Q (⟨some d,.buildSlice t 1 #[(0,x)],ty,pos,aft,g⟩::os) (3::ks) (mk N ρ) w:=by
 obtain⟨F,h1,h2,h3⟩:=hy;have hl:=hE.len h1;have hr:=Pc (P:=P) (w:=w) ht hi hs.1 hs.2 hz hl;have hrun:(execOp (Bz N ρ) ⟨some d,.buildSlice t 1 #[(0,x)],ty,pos,aft,g⟩).run P w=.ok (.value (.slice (some ⟨w.heap.size,0,none⟩) 1 1)) (w.alloc (.cells cs.toArray e)):=by
  simp only[execOp,zc,zf,zh,Sem.run_bind,hx,hr,Result.andThen_ok,Sem.run_pure]
 refine Gt rfl hu _ _ hrun (BA _ _)<|h _ _ (BA _ _) (by simp) ?_;have hn:=Jo (e:=e) (w:=w) hE (css:=[cs]) (xs:=[y]) (F:=F++[]) (cur:=cs.toArray) (cap:=1) ⟨F,[],rfl,h1,rfl⟩ (by simp) (by simp[maxLen]) (by simp[hl]) (by simp[← hl]);refine⟨_,hn,?_,fun c hc=>?_⟩;rw[List.append_nil,List.nodup_cons];exact⟨fun hm=>by have:=hE.lt h1 _ hm;omega,h2⟩;have hlt:=(Ae hE).lt hn c hc;refine⟨?_,hlt⟩;rcases ze.1 hc with rfl|hc;exact hB;exact (h3 c (by simpa using hc)).1
theorem CS (hE:Db s E){x y:Operand}{v a:Value}{xs:List α}{y0:α}{B U B' U':Nat}(ht:P.underlying t=some (.slice e))(hi:TI P e s z b)(hz:z.cells.size=s)(hs:0<s)(hx:Bz N ρ x=v)(hy:Bz N ρ y=a)(hv:Fr (BP s E e) B U w.heap v xs)(hB:B≤w.heap.size)
  (ha:Fr (BP s E e) B' U' w.heap a [y0]) (hU:U≤B') (hBB:B≤B') (hbytes:(xs.length+1)*b≤140737488355328) (hmx:xs.length+1≤maxLen) (hu:Up ops N ρ ⟨some d,.call ⟨.builtin .append,#[x,y],#[t,t]⟩,ty,pos,aft,g⟩)
  (h:∀v1 w1 F,AG F w w1→(∀c∈F,B≤c∧c<U)→Fr (BP s E e) B w1.heap.size w1.heap v1 (xs++[y0])→LW P ops w0 Q os ks (mk N (CP ρ d v1)) w1) :
  LW P ops w0 Q (⟨some d,.call ⟨.builtin .append,#[x,y],#[t,t]⟩,ty,pos,aft,g⟩::os) (4::ks) (mk N ρ) w:=by
 obtain⟨v1,w1,F,r1,r2,r3,r4⟩:=R6 (P:=P) (ty:=ty) hE ht hi hz hs hv hB ha hU hBB hbytes hmx;exact MO rfl hu v1 w1 (by simp only[execOp,resolve,invoke,builtin,zc,zf,zh,Sem.run_bind,Sem.run_pure,Result.andThen_ok,hx,hy,r1])<|h v1 w1 F r3 r4 r2
end ops
theorem CF {α:Type}{s:Nat}{E:Ci α}{e:TypeId}(B U:Nat)(H:Array Obj):Fr (BP s E e) B U H (.slice none 0 0) ([]:List α):=⟨[],.inl ⟨rfl,rfl,rfl⟩,zk,fun c hc=>by cases hc⟩
end
theorem ZI {p:Prop}(h:p):RowKit.Hid p:=h
def md (x:Int):Int:=x % 1000003
theorem Cx (x:Int):0≤md x:=Int.emod_nonneg x (by decide)
theorem FY (x:Int):md x<1000003:=Int.emod_lt_of_pos x (by decide)
theorem El (x:Int):-9223372036854775808≤md x∧md x≤9223372036854775807:=by have:=Cx x;have:=FY x;omega
theorem Mr {x:Int}(h:0≤x)(h':x<1000003):md x=x:=Int.emod_eq_of_lt h h'
theorem Hw (x:Int):md (md x)=md x:=Mr (Cx x) (FY x)
theorem E8 (a b:Int):md (md a+md b)=md (a+b):=by unfold md;rw[← Int.add_emod]
theorem DP (a b:Int):md (md a*md b)=md (a*b):=by unfold md;rw[← Int.mul_emod]
theorem MR (a b:Int):md (md a-md b)=md (a-b):=by unfold md;rw[← Int.sub_emod]
theorem Jp (a b:Int):md (md a+b)=md (a+b):=by rw[← E8,Hw,E8]
theorem MS (a b:Int):md (a+md b)=md (a+b):=by rw[← E8,Hw,E8]
theorem Hc (a b:Int):md (md a*b)=md (a*b):=by rw[← DP,Hw,DP]
theorem ED (a b:Int):md (a*md b)=md (a*b):=by rw[← DP,Hw,DP]
theorem TE (a b:Int):md (md a-b)=md (a-b):=by rw[← MR,Hw,MR]
theorem Ij (a b:Int):md (a-md b)=md (a-b):=by rw[← MR,Hw,MR]
theorem TF (a:Int):md (a+1000003)=md a:=by unfold md;omega
theorem Ou (a:Int):md (-(md a))=md (-a):=by have:=Ij 0 a;simpa using this
theorem KI {a b:Int}(ha:0≤a)(ha':a<1000003)(hb:0≤b)(hb':b<1000003):0≤a*b∧a*b≤1000004000004:=by refine⟨Int.mul_nonneg ha hb,?_⟩;have h1:a*b≤1000002*b:=Int.mul_le_mul_of_nonneg_right zO hb;have h2:1000002*b≤1000002*1000002:=Int.mul_le_mul_of_nonneg_left zO (by decide);omega
theorem tm (x:Int):x.tmod 1000003=if 0≤x then md x else -(md (-x)):=by unfold md;split;rename_i h;exact Int.tmod_eq_emod_of_nonneg h;rename_i h;have:=Int.tmod_eq_emod_of_nonneg (a:=-x) (b:=1000003) zO;rw[Int.neg_tmod]at this;omega
theorem GQ {x:Int}(h:-9223372036854775808≤x)(h':x≤9223372036854775807):wr x=x:=Du h h'
theorem VK (n:Int):(wr (n.tmod 1000003+((1000003:Nat):Int))).tmod 1000003=md n:=by have h1:=Cx n;have h2:=FY n;have h3:=Cx (-n);have h4:=FY (-n);rw[tm n];split;rw[GQ zO zO,tm,if_pos (by omega)];have:=TF (md n);rw[Hw]at this;simpa using this;rw[GQ zO zO,tm,if_pos (by omega)];have e1:md (-(md (-n))+((1000003:Nat):Int))=md (-(md (-n))):=TF _;rw[e1,Ou];simp
theorem Pd (a b:Int):(wr (md a+md b)).tmod 1000003=md (a+b):=by have h1:=Cx a;have h2:=FY a;have h3:=Cx b;have h4:=FY b;rw[GQ zO zO,tm,if_pos zO,E8]
theorem NA (a b:Int):(wr (md a*md b)).tmod 1000003=md (a*b):=by have:=KI (Cx a) (FY a) (Cx b) (FY b);rw[GQ zO zO,tm,if_pos zO,DP]
theorem R7 (a b:Int):md (a+wr (((1000003:Nat):Int)-md b))=md (a-b):=by have h3:=Cx b;have h4:=FY b;rw[GQ zO zO,show a+(((1000003:Nat):Int)-md b)=(a-md b)+1000003 from by omega,TF,Ij]
theorem Ov (a:Int)(k:Nat):md ((md a) ^ k)=md (a ^ k):=by
 induction k with
 |zero=>rw[Int.pow_zero,Int.pow_zero]
 |succ k ih=>rw[Int.pow_succ,Int.pow_succ,← DP,ih,Hw,DP]
def pw (a n:Int):Int:=if n<0 then 0 else md (a ^ n.toNat)
theorem VL (a n:Int):-9223372036854775808≤pw a n∧pw a n≤9223372036854775807:=by unfold pw;split;omega;exact El _
theorem VM (a n:Int):0≤pw a n∧pw a n<1000003:=by unfold pw;split;omega;exact⟨Cx _,FY _⟩
def inv (a:Int):Int:=pw a ((1000001:Nat):Int)
theorem TG (a:Int):-9223372036854775808≤inv a∧inv a≤9223372036854775807:=VL _ _
theorem TH (a:Int):0≤inv a∧inv a<1000003:=VM _ _
theorem NB (a:Int)(k:Nat):md (((1:Nat):Int)*(md a) ^ k)=md (a ^ k):=by rw[show((1:Nat):Int)*(md a) ^ k=(md a) ^ k from Int.one_mul _,Ov]
theorem VN {x b m R:Int}(h:md (x*b ^ m.toNat)=R)(h0:0<m)(h1:m % 2=1):md (md (x*b)*(md (b*b)) ^ (m / 2).toNat)=R:=by
 rw[← h,← DP,Hw,Ov,DP];congr 1;have e:m.toNat=2*(m / 2).toNat+1:=by omega
 rw[e,Int.pow_succ,Int.pow_mul,show b ^ 2=b*b from by rw[Int.pow_succ,Int.pow_succ,Int.pow_zero,Int.one_mul]];rw[Int.mul_comm ((b*b) ^ (m / 2).toNat) b,Int.mul_assoc]
theorem TJ {x b m R:Int}(h:md (x*b ^ m.toNat)=R)(h0:0<m)(h1:¬m % 2=1):md (x*(md (b*b)) ^ (m / 2).toNat)=R:=by
 rw[← h,← DP,Ov,DP];congr 1;have e:m.toNat=2*(m / 2).toNat:=by omega
 rw[e,Int.pow_mul,show b ^ 2=b*b from by rw[Int.pow_succ,Int.pow_succ,Int.pow_zero,Int.one_mul]]
theorem R8 {x b m a n:Int}(h:md (x*b ^ m.toNat)=md (a ^ n.toNat))(h0:0≤m)(h1:¬((0:Nat):Int)<m)(hn:¬n<((0:Nat):Int))(hx:0≤x∧x<1000003):x=pw a n:=by
 have e:m=0:=by omega
 subst e;unfold pw;rw[if_neg zO,← h];simp only[Int.toNat_zero,Int.pow_zero,Int.mul_one];rw[Mr hx.1 hx.2]
theorem R9 {a n:Int}(h:n<((0:Nat):Int)):((0:Nat):Int)=pw a n:=by unfold pw;rw[if_pos (by omega)];rfl
theorem cB {m:Int}(h:0≤m):m.tmod ((2:Nat):Int)=m % 2:=Int.tmod_eq_emod_of_nonneg h
theorem ZA {m:Int}(h:0≤m)(h':m≤9223372036854775807):IntKind.i64.wrap (m.tdiv ((2:Nat):Int))=m / 2:=by rw[Int.tdiv_eq_ediv_of_nonneg h];exact GQ (x:=m / 2) zO zO
theorem NC {x b:Int}(hx:0≤x∧x<1000003)(hb:0≤b∧b<1000003):(wr (x*b)).tmod ((1000003:Nat):Int)=md (x*b):=by have:=KI hx.1 hx.2 hb.1 hb.2;rw[GQ zO (by omega)];have:=tm (x*b);rw[if_pos (by omega)]at this;exact this
theorem Ct (x:Int):0≤md x∧md x<1000003:=⟨Cx x,FY x⟩
def IJ (n:Int):Bool:=decide (0≤n) && decide (n≤1000002)
theorem Dd {n:Int}:IJ n=true↔0≤n∧n<1000003:=by unfold IJ;simp only[z7,decide_eq_true_eq];omega
def Bj (l:List Int):Bool:=l.all IJ
theorem Ra (f:Int→Bool)(l:List Int):(l.take 0).all f=true:=rfl
theorem Rb {α:Type}{f:α→Bool}{l:List α}{k:Nat}(d:α)(h:(l.take k).all f=true)(hk:k<l.length)(hf:f (l.getD k d)=true):(l.take (k+1)).all f=true:=by
 rw[List.take_succ_eq_append_getElem hk,List.all_append,h];have e:l.getD k d=l[k]:=by simp[hk]
 rw[e]at hf;simp[hf]
theorem Rc {α:Type}{f:α→Bool}{l:List α}{k:Nat}(d:α)(hk:k<l.length)(hf:f (l.getD k d)=false):l.all f=false:=by
 have e:l.getD k d=l[k]:=by simp[hk]
 rw[e]at hf;rw[List.all_eq_false];exact⟨l[k],List.getElem_mem hk,by simp[hf]⟩
theorem Re {α:Type}{f:α→Bool}{l:List α}{k:Nat}(h:(l.take k).all f=true)(hk:l.length≤k):l.all f=true:=by rwa [za hk]at h
theorem Cd {l:List Int}(h:Bj l=true)(k:Nat):0≤l.getD k 0∧l.getD k 0<1000003:=by
 by_cases hk:k<l.length;have e:l.getD k 0=l[k]:=by simp[hk]
 rw[e];exact Dd.1<|zm.1 h _<|List.getElem_mem hk;have e:l.getD k 0=0:=by simp[Nat.not_lt.1 hk]
 rw[e];omega
theorem BK {α:Type}{l:List α}{k:Nat}(d:α)(h:k<l.length):l.take (k+1)=l.take k++[l.getD k d]:=by rw[List.take_succ_eq_append_getElem h];simp[h]
def DK {α:Type}(n:Nat)(f:Nat→α):List α:=(List.range n).map f
@[simp] theorem CZ {α:Type}(n:Nat)(f:Nat→α):(DK n f).length=n:=by simp[DK]
theorem CM {α:Type}{n:Nat}{f:Nat→α}{k:Nat}(d:α)(h:k<n):(DK n f).getD k d=f k:=by simp[DK,h]
theorem FB {α:Type}(n:Nat)(f:Nat→α):DK (n+1) f=DK n f++[f n]:=by simp[DK,List.range_succ]
theorem TK {α:Type}{n:Nat}{f g:Nat→α}(h:∀k,k<n→f k=g k):DK n f=DK n g:=by unfold DK;exact List.map_congr_left fun k hk=>h k<|List.mem_range.1 hk
def HM {α:Type}(k:Nat)(t z:List α):List α:=t.take k++z.drop k
theorem Jq {α:Type}(t z:List α):HM 0 t z=z:=by simp[HM]
theorem KJ {α:Type}{k:Nat}{t z:List α}(h:t.length=z.length)(hk:z.length≤k):HM k t z=t:=by simp[HM,za (show t.length≤k by omega),List.drop_of_length_le hk]
@[simp] theorem Jr {α:Type}(k:Nat)(t z:List α)(h:t.length=z.length):(HM k t z).length=z.length:=by simp[HM];omega
theorem Pe {α:Type}{k:Nat}{t z:List α}(d:α)(h:t.length=z.length)(hk:k<z.length):(HM k t z).set k (t.getD k d)=HM (k+1) t z:=by
 unfold HM;have hl:(t.take k).length=k:=by simp;omega
 rw[BK d zO,List.set_append_right _ _ zO,hl,Nat.sub_self,List.append_assoc];congr 1;rw[List.drop_eq_getElem_cons hk];rfl
theorem VO {α:Type}{k j:Nat}{t z:List α}(d:α)(h:t.length=z.length)(hkj:k≤j)(hj:j<z.length):(HM k t z).getD j d=z.getD j d:=by
 unfold HM;have hl:(t.take k).length=k:=by simp;omega
 rw[List.getD_eq_getElem?_getD,List.getElem?_append_right zO,hl,List.getElem?_drop,List.getD_eq_getElem?_getD];congr 2;omega
theorem VP {α:Type}{k j:Nat}{t z:List α}(d:α)(hkj:j<k)(hj:j<t.length):(HM k t z).getD j d=t.getD j d:=by unfold HM;rw[List.getD_eq_getElem?_getD,List.getElem?_append_left (by simp;omega),List.getElem?_take,if_pos hkj,List.getD_eq_getElem?_getD]
theorem MT {α:Type}{n k:Nat}{f:Nat→α}{z:List α}(hz:z.length=n)(hk:k<n):HM (k+1) (DK n f) z=(HM k (DK n f) z).set k (f k):=by rw[← Pe (f k) (by simp[hz]) zO,CM _ hk]
theorem Pf (l:List Int):(!l.any fun x=>!IJ x)=Bj l:=by unfold Bj;rw[← List.all_eq_not_any_not]
theorem Rf {α:Type}(l:List α)(i j:Nat)(x d:α)(hi:i<l.length):(l.set i x).getD j d=if j=i then x else l.getD j d:=by rw[List.getD_eq_getElem?_getD,List.getElem?_set];by_cases h:i=j;subst h;simp[hi];simp[h,Ne.symm h]
def cJ (a b:List Int)(y:Int):List Int:=DK a.length fun k=>md (a.getD k 0-md (y*b.getD k 0))
theorem Js {n:Nat}{f:Nat→Int}(h:∀k,k<n→0≤f k∧f k<1000003):Bj (DK n f)=true:=by
 unfold Bj DK;rw[zm]
 intro x hx;obtain⟨k,hk,rfl⟩:=List.mem_map.1 hx;exact Dd.2<|h k<|List.mem_range.1 hk
def cK (c:Nat)(rc:List Int)(iv:Int):Nat→List (List Int)→List (List Int):=it fun j M=>M.set (c+1+j) (cJ (M.getD (c+1+j) []) rc (md ((M.getD (c+1+j) []).getD c 0*iv)))
theorem M1 {α:Type}(l:List α){r:Nat}(d:α)(h:r<l.length):l.set r (l.getD r d)=l:=by
 have:l.getD r d=l[r]:=by simp[h]
 rw[this,List.set_getElem_self]
theorem Rg {α:Type}{a b:List α}{d:α}{k:Nat}(h:∀j,j<k→a.getD j d=b.getD j d)(hl:a.length=b.length)(hk:a.length≤k):a=b:=by
 apply List.ext_getElem hl
 intro i h1 h2;have:=h i zO;simpa [h1,h2]using this
def HN (x a b:Int):Bool:=decide (a≤x) && decide (x≤b)
def DQ (e:Ex):Bool:=decide (e.pick=0) && decide (e.count=0)
def H5 (p:List Fn)(funcs vars:Int)(e:Ex):Bool :=
 if e.kind=1 then DQ e && (decide (e.kids.length=0) && IJ e.num)
 else if e.kind=2 then DQ e && (decide (e.kids.length=0) && HN e.num 0 (vars-1))
 else if e.kind=3∨e.kind=4∨e.kind=5∨e.kind=6∨e.kind=9 then DQ e && (decide (e.num=0) && decide (e.kids.length=2))
 else if e.kind=7 then DQ e && (decide (e.num=0) && decide (e.kids.length=1))
 else if e.kind=8 then DQ e && (decide (e.num=0) && decide (e.kids.length=3))
 else if e.kind=10∨e.kind=11 then
  HN e.num 0 (funcs-1) && (decide ((e.kids.length:Int)=(p.getD e.num.toNat Fn.zero).params) && (HN e.pick 0 (((p.getD e.num.toNat Fn.zero).outs.length:Int)-1) &&
   (if e.kind=10 then decide (e.count=0)else decide (((p.getD e.num.toNat Fn.zero).outs.length:Int)=(p.getD e.num.toNat Fn.zero).params) && HN e.count 0 8)))
 else false
mutual
def wf (p:List Fn)(funcs:Int):Ex→Int→Bool
 |.mk k n q c l,vars=>H5 p funcs vars (.mk k n q c l) && Pg p funcs (decide (k=9)) 0 l vars
def Pg (p:List Fn)(funcs:Int)(b:Bool):Nat→List Ex→Int→Bool
 |_,[],_=>true
 |i,e::l,vars=>wf p funcs e (if b=true∧i=1 then vars+1 else vars) && Pg p funcs b (i+1) l vars
end
theorem Ms (p:List Fn)(funcs:Int)(e:Ex)(vars:Int):wf p funcs e vars=(H5 p funcs vars e && Pg p funcs (decide (e.kind=9)) 0 e.kids vars):=by cases e;rw[wf];rfl
theorem KK (p:List Fn)(funcs:Int)(b:Bool)(vars:Int):∀(l:List Ex)(i:Nat),Pg p funcs b i l vars=true↔∀j,j<l.length→wf p funcs (l.getD j Ex.zero) (if b=true∧i+j=1 then vars+1 else vars)=true
 |[],i=>by rw[Pg];simp
 |e::l,i=>by
  rw[Pg,z7,KK p funcs b vars l (i+1)]
  constructor
  rintro⟨h1,h2⟩ j hj
  cases j with
  |zero=>simpa using h1
  |succ j =>
   have:=h2 j (by simpa using hj)
   rw[show i+1+j=i+(j+1)from by omega]at this
   simpa using this
  intro h
  refine⟨by simpa using h 0 (by simp),fun j hj=>?_⟩
  have:=h (j+1) (by simpa using hj)
  rw[show i+(j+1)=i+1+j from by omega]at this
  simpa using this
theorem MU {p:List Fn}{funcs vars:Int}{e:Ex}(h:e.kids.length=0):wf p funcs e vars=H5 p funcs vars e:=by rw[Ms];have:e.kids=[]:=List.eq_nil_of_length_eq_zero h;rw[this,Pg,Bool.and_true]
theorem Rh {p:List Fn}{funcs vars:Int}{e:Ex}(h:H5 p funcs vars e=false):false=wf p funcs e vars:=by rw[Ms,h];rfl
theorem Ri {p:List Fn}{funcs vars own:Int}{e:Ex}{k:Nat}(hk:k<e.kids.length)(ho:own=if e.kind=9∧k=1 then vars+1 else vars)(h:wf p funcs (e.kids.getD k Ex.zero) own=false):false=wf p funcs e vars:=by
 rw[Ms];cases hw:Pg p funcs (decide (e.kind=9)) 0 e.kids vars with
 |false=>rw[Bool.and_false]
 |true =>
  have:=(KK p funcs _ vars e.kids 0).1 hw k hk;rw[Nat.zero_add]at this;simp only[decide_eq_true_eq]at this;rw[← ho,h]at this;cases this
theorem MV {p:List Fn}{funcs vars:Int}{e:Ex}(hn:H5 p funcs vars e=true)(h:∀j,j<e.kids.length→wf p funcs (e.kids.getD j Ex.zero) (if e.kind=9∧j=1 then vars+1 else vars)=true):true=wf p funcs e vars:=by rw[Ms,hn,Bool.true_and];refine ((KK p funcs _ vars e.kids 0).2 fun j hj=>?_).symm;rw[Nat.zero_add];simp only[decide_eq_true_eq];exact h j hj
theorem FM {l:List Ex}{k:Nat}(hk:k<l.length):(l.getD k Ex.zero).deep≤Ex.deeps l:=by
 have h1:=Ha hk;have h2:∀(l:List Ex) (k:Nat),Ex.deeps (l.take k)≤Ex.deeps l:=by
  intro l
  induction l with
  |nil=>intro k;simp
  |cons e l ih =>
   intro k;cases k with
   |zero=>rw[List.take_zero,Ex.deeps];omega
   |succ k=>rw[List.take_succ_cons,Ex.deeps,Ex.deeps];have:=ih k;omega
 have h3:=h2 l (k+1);omega
theorem FZ {α β:Type}{f:α→β}{l:List α}{k:Nat}(d:α)(h:k<l.length):(l.take (k+1)).map f=(l.take k).map f++[f (l.getD k d)]:=by rw[BK d h,List.map_append];rfl
def ND (a b:List Int):Nat→Int
 |0=>0
 |k+1=>md (ND a b k+a.getD k 0*b.getD k 0)
theorem Rj (a b:List Int):∀k,0≤ND a b k∧ND a b k<1000003
 |0=>⟨Int.le_refl _,by unfold ND;decide⟩
 |k+1=>Ct _
def GR (a b:List Int):Int:=ND a b a.length
theorem Rk (a b:List Int):0≤GR a b∧GR a b<1000003:=Rj a b _
theorem Rl (a b:List Int):-9223372036854775808≤GR a b∧GR a b≤9223372036854775807:=by have:=Rk a b;omega
theorem Rm {s x y:Int}(hs:0≤s∧s<1000003)(hx:0≤x∧x<1000003)(hy:0≤y∧y<1000003):(wr (s+wr (x*y))).tmod ((1000003:Nat):Int)=md (s+x*y):=by have h:=KI hx.1 hx.2 hy.1 hy.2;rw[GQ (x:=x*y) zO zO,GQ zO (by omega)];exact Int.tmod_eq_emod_of_nonneg zO
def scl (a:List Int)(y:Int):List Int:=a.map fun x=>md (x*y)
@[simp] theorem KL (a:List Int)(y:Int):(scl a y).length=a.length:=by simp[scl]
def cL (m:List (List Int))(v:List Int):List Int:=m.map fun r=>GR r v
def nw (a:List (List Int))(s:List Int):Nat→List Int
 |0=>s
 |k+1=>scl (cL a (nw a s k)) (inv ((k+1:Nat):Int))
def up (n:Nat)(k:Int):List Int:=DK n fun i=>k+(i:Int)
section
theorem TL {α:Type}{l l':List α}{k:Nat}{d:α}(h:k<l.length):(l++l').getD k d=l.getD k d:=by rw[List.getD_eq_getElem?_getD,List.getElem?_append_left h,List.getD_eq_getElem?_getD]
theorem DR {α:Type}{l l':List α}{k:Nat}{d:α}(h:l.length≤k):(l++l').getD k d=l'.getD (k-l.length) d:=by rw[List.getD_eq_getElem?_getD,List.getElem?_append_right h,List.getD_eq_getElem?_getD]
structure Ar (α:Type) where
 q:α→α→α
 t:α→α→α→α
 z:α→Bool
 d:α
section hom
variable {α β:Type} {R:Ar α} {S:Ar β} {V:α→Prop} {h:α→β} {n m c p:Nat} {M:List (List α)}
theorem BU {row:List α}{k:Nat}{d:α}{d':β}(hk:k<row.length):(row.map h).getD k d'=h (row.getD k d):=by simp[hk]
end hom
def Nm (x:Int):Prop:=0≤x∧x<1000003
end
def NE (a b:List Int)(k:Nat):Nat→Int
 |0=>0
 |i+1=>md (NE a b k i+a.getD i 0*b.getD (k-i) 0)
theorem Ph (a b:List Int)(k:Nat):∀i,0≤NE a b k i∧NE a b k i<1000003
 |0=>by unfold NE;omega
 |i+1=>Ct _
def Dc (a b:List Int):List Int:=DK a.length fun k=>NE a b k (k+1)
@[simp] theorem Lb (a b:List Int):(Dc a b).length=a.length:=by simp[Dc]
theorem Jt (a b:List Int):Bj (Dc a b)=true:=Js fun _ _=>Ph _ _ _ _
def Ox (a b o:List Int)(k:Nat):Nat→Int
 |0=>a.getD k 0
 |i+1=>md (Ox a b o k i-o.getD i 0*b.getD (k-i) 0)
def J5 (a b:List Int):Nat→List Int
 |0=>[]
 |k+1=>J5 a b k++[md (Ox a b (J5 a b k) k k*inv (b.getD 0 0))]
def BV (a b:List Int):List Int:=J5 a b a.length
@[simp] theorem Eh (a b:List Int):∀k,(J5 a b k).length=k
 |0=>rfl
 |k+1=>by simp[J5,Eh a b k]
@[simp] theorem Ju (a b:List Int):(BV a b).length=a.length:=Eh _ _ _
theorem Pi (a b:List Int):∀k,Bj (J5 a b k)=true
 |0=>rfl
 |k+1=>by
  unfold J5 Bj
  rw[List.all_append]
  have h:=Pi a b k
  unfold Bj at h
  simp only[h,List.all_cons,List.all_nil,Bool.and_true,Bool.true_and]
  exact Dd.2<|Ct _
theorem HX (a b:List Int):Bj (BV a b)=true:=Pi _ _ _
theorem Pj (a b:List Int){i:Nat}:∀k m,i<k→k≤m→(J5 a b m).getD i 0=(J5 a b k).getD i 0
 |k,m,h,hm=>by
  induction m with
  |zero=>omega
  |succ m ih =>
   by_cases e:k=m+1
   subst e;rfl
   show(J5 a b m++_).getD i 0=_
   rw[TL (by rw[Eh];omega)]
   exact ih zO
theorem Mu {a b o o':List Int}{k:Nat}:∀i,(∀j,j<i→o.getD j 0=o'.getD j 0)→Ox a b o k i=Ox a b o' k i
 |0,_=>rfl
 |i+1,h=>by unfold Ox;rw[Mu i fun j hj=>h j zO,h i (by omega)]
theorem KM {a b:List Int}{k:Nat}(hk:k<a.length):(BV a b).getD k 0=md (Ox a b (BV a b) k k*inv (b.getD 0 0)):=by unfold BV;rw[Pj a b (k+1) a.length zO (by omega)];show(J5 a b k++[_]).getD k 0=_;rw[DR (by simp),Eh,Nat.sub_self];show md _=_;rw[Mu (o:=J5 a b k) (o':=J5 a b a.length) k fun j hj=>(Pj a b k a.length hj zO).symm]
theorem TM {a b:List Int}{k:Nat}(hk:k<a.length){z:List Int}(hz:z.length=a.length) :
  (HM k (BV a b) z).set k (md (Ox a b (BV a b) k k*inv (b.getD 0 0)))=HM (k+1) (BV a b) z:=by
 rw[← KM hk,Pe 0 (by simp[hz]) (by omega)]
def Do (a b:List Int):List Int:=DK a.length fun k=>md (a.getD k 0+b.getD k 0)
def EE (a:List Int)(n:Int):List Int:=DK a.length fun k=>md (a.getD k 0*n)
def EV (a b:List Int):List Int:=DK a.length fun k=>md (a.getD k 0-b.getD k 0)
@[simp] theorem Lc (a b:List Int):(Do a b).length=a.length:=by simp[Do]
@[simp] theorem Ld (a:List Int)(n:Int):(EE a n).length=a.length:=by simp[EE]
@[simp] theorem Jv (a b:List Int):(EV a b).length=a.length:=by simp[EV]
theorem GS (a b:List Int):Bj (Do a b)=true:=Js fun _ _=>Ct _
theorem HY (a:List Int)(n:Int):Bj (EE a n)=true:=Js fun _ _=>Ct _
theorem Jw (a b:List Int):Bj (EV a b)=true:=Js fun _ _=>Ct _
theorem Rn {a b:List Int}(h:a.length≤b.length):Do a (EE b 1000002)=EV a b:=by unfold Do EV;refine TK fun k hk=>?_;unfold EE;rw[CM _ zO,MS];unfold md;omega
theorem TN {x y:Int}(hx:0≤x∧x<1000003)(hy:0≤y∧y<1000003):(wr (x+y)).tmod ((1000003:Nat):Int)=md (x+y):=by rw[GQ zO (by omega)];exact Int.tmod_eq_emod_of_nonneg zO
theorem Ro {n k:Nat}{T:List Int}(hT:T.length=n)(hk:k<n):(HM k T (List.replicate n 0)).set k 0=HM k T (List.replicate n 0):=by
 have h1:(HM k T (List.replicate n 0)).length=n:=by rw[Jr _ _ _ (by simp[hT])];simp
 have h2:(HM k T (List.replicate n 0)).getD k 0=0:=by rw[VO 0 (by simp[hT]) (A7 _) (by simpa using hk)];simp[hk]
 have h3:=M1 (HM k T<|List.replicate n 0) (r:=k) 0 zO;rw[h2]at h3;exact h3
theorem Rp {a b q:List Int}{k i:Nat}(hq:Bj q=true)(hb:Bj b=true):md (Ox a b q k i-wr (q.getD i 0*b.getD (k-i) 0))=Ox a b q k (i+1):=by have h1:=Cd hq i;have h2:=Cd hb (k-i);have h:=KI h1.1 h1.2 h2.1 h2.2;rw[GQ zO (by omega)];rfl
def DJ (N:Nat)(s:List Int):Prop:=s.length=N∧Bj s=true
def BW (b:List Int):List (List Int):=b.map fun x=>[x]
def cv (f g:Nat→Int):Nat→Int
 |0=>f 0*g 0
 |k+1=>f 0*g (k+1)+cv (fun i=>f (i+1)) g k
def sm (n:Nat)(f:Nat→Int):Int:=match n with
 |0=>0
 |n+1=>sm n f+f n
theorem C5 {f g:Nat→Int}:∀ {n:Nat},(∀i,i<n→f i=g i)→sm n f=sm n g
 |0,_=>rfl
 |n+1,h=>by unfold sm;rw[C5 (n:=n) fun i hi=>h i zO,h n (by omega)]
theorem G0 (f g:Nat→Int):∀n,sm n (fun i=>f i+g i)=sm n f+sm n g
 |0=>rfl
 |n+1=>by unfold sm;rw[G0 f g n];omega
theorem Gu (c:Int)(f:Nat→Int):∀n,sm n (fun i=>c*f i)=c*sm n f
 |0=>by unfold sm;rw[Int.mul_zero]
 |n+1=>by unfold sm;rw[Gu c f n,Int.mul_add]
theorem NF {f g:Nat→Int}:∀ {n:Nat},(∀i,i<n→md (f i)=md (g i))→md (sm n f)=md (sm n g)
 |0,_=>rfl
 |n+1,h=>by
  unfold sm
  rw[← E8,NF (n:=n) fun i hi=>h i zO,h n zO,E8]
theorem HZ (b:List Int):(BW b).length=b.length:=by simp[BW]
section
section sys
variable {N n c p:Nat} {v:Nat→Nat→Int}
theorem NG (r:Nat)(g:Nat→Int):∀m,(sm m fun j=>if r=j then g j else 0)=if r<m then g r else 0
 |0=>by unfold sm;simp
 |m+1=>by
  unfold sm
  rw[NG r g m]
  by_cases h1:r<m
  rw[if_pos h1,if_neg zO,if_pos (by omega)];omega
  by_cases h2:r=m
  subst h2;rw[if_neg h1,if_pos rfl,if_pos (by omega)];omega
  rw[if_neg h1,if_neg h2,if_neg (by omega)];rfl
end sys
end
theorem G3 {α:Type}{l:List α}{j:Nat}{d:α}(h:j<l.length):l.getD j d=l[j]:=by simp[h]
abbrev Sr:=List Int
def cst (n:Nat)(x:Int):Sr:=(List.replicate n 0).set 0 x
inductive Rs (α:Type) where
 |ok (x:α) (s:Nat)
 |err (c:Int)
structure Ca where
 one:Nat→Nat→List Sr→Nat→Rs Sr
 all:Nat→List Sr→Nat→Rs (List Sr)
def Rs.bind {α β:Type}(r:Rs α)(f:α→Nat→Rs β):Rs β:=match r with
 |.ok x s=>f x s
 |.err c=>.err c
theorem Rs.bind_ok {α β:Type}(x:α)(s:Nat)(f:α→Nat→Rs β):(Rs.ok x s).bind f=f x s:=rfl
theorem Rs.bind_err {α β:Type}(c:Int)(f:α→Nat→Rs β):(Rs.err c:Rs α).bind f=.err c:=rfl
theorem Rs.bind_assoc {α β γ:Type}(r:Rs α)(f:α→Nat→Rs β)(h:β→Nat→Rs γ):(r.bind f).bind h=r.bind fun x s=>(f x s).bind h:=by cases r <;> rfl
def FC (f:List Sr→Nat→Rs (List Sr)):Nat→List Sr→Nat→Rs (List Sr)
 |0,a,s=>.ok a s
 |k+1,a,s=>(FC f k a s).bind f
def HO (k:Int)(xs:List Sr)(t:Nat):Rs Sr :=
 if k=3 then .ok (Do (xs.getD 0 []) (xs.getD 1 [])) t
 else if k=4 then .ok (EV (xs.getD 0 []) (xs.getD 1 [])) t
 else if k=5 then .ok (Dc (xs.getD 0 []) (xs.getD 1 [])) t
 else if k=7 then .ok (EE (xs.getD 0 []) 1000002) t
 else if (xs.getD 1 []).getD 0 0=0 then .err 6 else .ok (BV (xs.getD 0 []) (xs.getD 1 [])) t
mutual
def BN (n:Nat)(C:Ca):Ex→List Sr→Nat→Rs Sr
 |.mk k num pick cnt l,env,s =>
  if 3000≤s then .err 7
  else if k=1 then .ok (cst n num) (s+1)
  else if k=2 then .ok (env.getD num.toNat []) (s+1)
  else if k=8 then(EU n C l 0 env (s+1)).bind fun x t=>if x.getD 0 0=0 then EU n C l 1 env t else EU n C l 2 env t
  else if k=9 then(EU n C l 0 env (s+1)).bind fun x t=>EU n C l 1 (env++[x]) t
  else(Cj n C l env (s+1)).bind fun xs t =>
   if k=10 then C.one num.toNat pick.toNat xs t
   else if k=11 then(FC (C.all num.toNat) cnt.toNat xs t).bind fun ys u=>.ok (ys.getD pick.toNat []) u
   else HO k xs t
def EU (n:Nat)(C:Ca):List Ex→Nat→List Sr→Nat→Rs Sr
 |[],_,_,_=>.err 0
 |e::_,0,env,s=>BN n C e env s
 |_::l,j+1,env,s=>EU n C l j env s
def Cj (n:Nat)(C:Ca):List Ex→List Sr→Nat→Rs (List Sr)
 |[],_,s=>.ok [] s
 |e::l,env,s=>(BN n C e env s).bind fun x t=>(Cj n C l env t).bind fun xs u=>.ok (x::xs) u
end
theorem CX (n:Nat)(C:Ca)(env:List Sr)(s:Nat):∀(l:List Ex)(j:Nat),j<l.length→EU n C l j env s=BN n C (l.getD j Ex.zero) env s
 |[],j,h=>by simp at h
 |e::l,0,_=>by rw[EU];rfl
 |e::l,j+1,h=>by rw[EU,CX n C env s l j (by simpa using h)];simp
theorem NH (n:Nat)(C:Ca)(env:List Sr)(e:Ex):∀(l:List Ex)(s:Nat),Cj n C (l++[e]) env s=(Cj n C l env s).bind fun xs t=>(BN n C e env t).bind fun x u=>.ok (xs++[x]) u
 |[],s=>by
  rw[zl,Cj,Cj]
  simp only[Rs.bind_ok]
  cases BN n C e env s <;> simp only[Rs.bind_ok,Rs.bind_err,Cj] <;> rfl
 |a::l,s=>by
  rw[List.cons_append,Cj,Cj]
  cases BN n C a env s with
  |err c=>rfl
  |ok x t =>
   simp only[Rs.bind_ok]
   rw[NH n C env e l t]
   simp only[Rs.bind_assoc]
   cases Cj n C l env t with
   |err c=>rfl
   |ok xs u =>
    simp only[Rs.bind_ok]
    cases BN n C e env u <;> rfl
theorem Rq {n:Nat}{C:Ca}{env:List Sr}{s:Nat}{l:List Ex}{k:Nat}(hk:k<l.length):Cj n C (l.take (k+1)) env s=(Cj n C (l.take k) env s).bind fun xs t=>(BN n C (l.getD k Ex.zero) env t).bind fun x u=>.ok (xs++[x]) u:=by rw[List.take_succ_eq_append_getElem hk,NH];simp[hk]
theorem CT (n:Nat)(C:Ca)(e:Ex)(env:List Sr)(s:Nat):BN n C e env s =
  if 3000≤s then .err 7
  else if e.kind=1 then .ok (cst n e.num) (s+1)
  else if e.kind=2 then .ok (env.getD e.num.toNat []) (s+1)
  else if e.kind=8 then(EU n C e.kids 0 env (s+1)).bind fun x t=>if x.getD 0 0=0 then EU n C e.kids 1 env t else EU n C e.kids 2 env t
  else if e.kind=9 then(EU n C e.kids 0 env (s+1)).bind fun x t=>EU n C e.kids 1 (env++[x]) t
  else(Cj n C e.kids env (s+1)).bind fun xs t =>
   if e.kind=10 then C.one e.num.toNat e.pick.toNat xs t
   else if e.kind=11 then(FC (C.all e.num.toNat) e.count.toNat xs t).bind fun ys u=>.ok (ys.getD e.pick.toNat []) u
   else HO e.kind xs t:=by cases e;rw[BN];rfl
def Co (p:List Fn)(n:Nat):Nat→Ca
 |0=>⟨fun _ _ _ _=>.err 0,fun _ _ _=>.err 0⟩
 |k+1=>⟨fun f j a s=>if f=k then BN n (Co p n k) ((p.getD k Fn.zero).outs.getD j Ex.zero) a s else(Co p n k).one f j a s,
   fun f a s=>if f=k then Cj n (Co p n k) (p.getD k Fn.zero).outs a s else(Co p n k).all f a s⟩
theorem He {p:List Fn}{n f j:Nat}{a:List Sr}{s:Nat}:∀ {F:Nat},f<F→(Co p n F).one f j a s=BN n (Co p n f) ((p.getD f Fn.zero).outs.getD j Ex.zero) a s
 |0,h=>by omega
 |F+1,h=>by
  show(if f=F then _ else _)=_
  split
  rename_i e;rw[e]
  exact He zO
theorem Fl {p:List Fn}{n f:Nat}{a:List Sr}{s:Nat}:∀ {F:Nat},f<F→(Co p n F).all f a s=Cj n (Co p n f) (p.getD f Fn.zero).outs a s
 |0,h=>by omega
 |F+1,h=>by
  show(if f=F then _ else _)=_
  split
  rename_i e;rw[e]
  exact Fl zO
def ev (p:List Fn)(n f:Nat)(a:List Sr):Rs (List Sr):=Cj n (Co p n f) (p.getD f Fn.zero).outs a 0
def go {α:Type}(c:Int)(r:Rs α):Rs α:=if c=0 then r else .err c
theorem G4 {α:Type}(r:Rs α):go 0 r=r:=rfl
theorem FN {α:Type}{c:Int}(h:c≠0)(r:Rs α):go c r=.err c:=if_neg h
def FD (n:Nat)(env:List Sr):Prop:=∀k,k<env.length→DJ n (env.getD k [])
def B5 {α:Type}(r:Rs α)(x:α)(s:Nat)(c:Int):Prop:=match r with
 |.ok y t=>x=y∧s=t∧c=0
 |.err d=>c=d∧d≠0
theorem B5.ok {α:Type}{r:Rs α}{x:α}{s:Nat}(h:B5 r x s 0):r=.ok x s:=by
 cases r with
 |ok y t=>obtain⟨rfl,rfl,_⟩:=h;rfl
 |err d=>exact absurd h.1.symm h.2
theorem B5.err {α:Type}{r:Rs α}{x:α}{s:Nat}{c:Int}(h:B5 r x s c)(hc:c≠0):r=.err c:=by
 cases r with
 |ok y t=>exact absurd h.2.2 hc
 |err d=>rw[h.1]
theorem B5.mk_ok {α:Type}{r:Rs α}{x:α}{s:Nat}(h:r=.ok x s):B5 r x s 0:=by subst h;exact⟨rfl,rfl,rfl⟩
theorem B5.mk_err {α:Type}{r:Rs α}{x:α}{s:Nat}{c:Int}(h:r=.err c)(hc:c≠0):B5 r x s c:=by subst h;exact⟨rfl,hc⟩
theorem B5.bindE {α β:Type}{r:Rs α}{x:α}{s:Nat}{c:Int}(h:B5 r x s c)(hc:c≠0){f:α→Nat→Rs β}:r.bind f=.err c:=by rw[h.err hc];rfl
theorem B5.bindO {α β:Type}{r:Rs α}{x:α}{s:Nat}(h:B5 r x s 0){f:α→Nat→Rs β}:r.bind f=f x s:=by rw[h.ok];rfl
theorem KN (n:Nat)(x:Int):(cst n x).length=n:=by simp[cst]
theorem UE:IJ 0=true:=by decide
theorem Jy (n:Nat):Bj (List.replicate n 0)=true:=by
 unfold Bj;rw[zm]
 intro y hy;rw[List.eq_of_mem_replicate hy];decide
theorem Dp {n:Nat}{x:Int}(h:IJ x=true):DJ n (cst n x):=by
 refine⟨KN n x,?_⟩;unfold cst Bj;rw[zm]
 intro y hy;rcases List.mem_or_eq_of_mem_set hy with hy|rfl;rw[List.eq_of_mem_replicate hy];decide;exact h
theorem FD.snoc {n:Nat}{env:List Sr}{x:Sr}(h:FD n env)(hx:DJ n x):FD n (env++[x]):=by
 intro k hk;rw[z4,zd]at hk;by_cases e:k<env.length;rw[FQ e];exact h k e;have:k=env.length:=by omega
 rw[J4 this];exact hx
section
structure Ik (p:List Fn):Prop where
 par:∀k,k<p.length→0≤(p.getD k Fn.zero).params∧(p.getD k Fn.zero).params≤12
 outs:∀k,k<p.length→1≤(p.getD k Fn.zero).outs.length∧(p.getD k Fn.zero).outs.length≤12
 deep:∀k,k<p.length→∀j,j<(p.getD k Fn.zero).outs.length→((p.getD k Fn.zero).outs.getD j Ex.zero).deep≤60
 wf:∀k,k<p.length→∀j,j<(p.getD k Fn.zero).outs.length→wf p ((k:Nat):Int) ((p.getD k Fn.zero).outs.getD j Ex.zero) (p.getD k Fn.zero).params=true
theorem CI {x a b:Int}:HN x a b=true↔a≤x∧x≤b:=by unfold HN;simp
theorem C0 {p:List Fn}{F vars:Int}{e:Ex}(h:H5 p F vars e=true) :
  (e.kind=1∨e.kind=2∨e.kind=3∨e.kind=4∨e.kind=5∨e.kind=6∨e.kind=7∨e.kind=8∨e.kind=9∨e.kind=10∨e.kind=11) ∧
  (e.kind=2→0≤e.num∧e.num≤vars-1)∧(e.kind=3∨e.kind=4∨e.kind=5∨e.kind=6∨e.kind=9→e.kids.length=2)∧(e.kind=7→e.kids.length=1)∧(e.kind=8→e.kids.length=3) ∧
  (e.kind=10∨e.kind=11→0≤e.num∧e.num≤F-1∧(e.kids.length:Int)=(p.getD e.num.toNat Fn.zero).params∧0≤e.pick∧e.pick≤((p.getD e.num.toNat Fn.zero).outs.length:Int)-1) ∧
  (e.kind=11→((p.getD e.num.toNat Fn.zero).outs.length:Int)=(p.getD e.num.toNat Fn.zero).params∧0≤e.count∧e.count≤8)∧(e.kind=1→0≤e.num∧e.num<1000003):=by
 unfold H5 at h;split at h;simp only[z7,decide_eq_true_eq,Dd]at h;omega;split at h;simp only[z7,decide_eq_true_eq,CI]at h;omega;split at h;simp only[z7,decide_eq_true_eq]at h;omega;split at h;simp only[z7,decide_eq_true_eq]at h;omega;split at h;simp only[z7,decide_eq_true_eq]at h;omega;split at h;simp only[z7,decide_eq_true_eq,CI]at h;obtain⟨h1,h2,h3,h4⟩:=h;split at h4;simp only[decide_eq_true_eq]at h4;omega;simp only[z7,decide_eq_true_eq,CI]at h4;omega;cases h
theorem BS {p:List Fn}{F vars:Int}{e:Ex}(h:wf p F e vars=true):H5 p F vars e=true:=by rw[Ms,z7]at h;exact h.1
theorem UF {p:List Fn}{F vars:Int}{e:Ex}(h:wf p F e vars=true){j:Nat}(hj:j<e.kids.length):wf p F (e.kids.getD j Ex.zero) (if e.kind=9∧j=1 then vars+1 else vars)=true:=by rw[Ms,z7]at h;have:=(KK p F _ vars e.kids 0).1 h.2 j hj;rw[Nat.zero_add]at this;simpa only[decide_eq_true_eq]using this
theorem C9 {p:List Fn}{F vars:Int}{e:Ex}(h:wf p F e vars=true){j:Nat}(hj:j<e.kids.length)(hn:¬(e.kind=9∧j=1)):wf p F (e.kids.getD j Ex.zero) vars=true:=by have:=UF h hj;rwa [if_neg hn]at this
theorem G5 {p:List Fn}{F vars:Int}{e:Ex}(h:wf p F e vars=true)(hj:1<e.kids.length)(hk:e.kind=9):wf p F (e.kids.getD 1 Ex.zero) (vars+1)=true:=by have:=UF h hj;rwa [if_pos ⟨hk,rfl⟩]at this
section
variable {p:List Fn} {F:Nat} {vars:Int} {e:Ex}
theorem Rr (h:wf p ((F:Nat):Int) e vars=true)(hk:e.kind=1):0≤e.num∧e.num<1000003:=(C0 (BS h)).2.2.2.2.2.2.2 hk
theorem Rt (h:wf p ((F:Nat):Int) e vars=true)(hk:e.kind=2):0≤e.num∧e.num≤vars-1:=(C0 (BS h)).2.1 hk
theorem UG (h:wf p ((F:Nat):Int) e vars=true)(hk:e.kind=8):e.kids.length=3:=(C0 (BS h)).2.2.2.2.1 hk
theorem Ru (h:wf p ((F:Nat):Int) e vars=true)(hk:e.kind=9):e.kids.length=2:=(C0 (BS h)).2.2.1 zO
theorem Rv (h:wf p ((F:Nat):Int) e vars=true)(hk:e.kind=7):e.kids.length=1:=(C0 (BS h)).2.2.2.1 hk
theorem Le (h:wf p ((F:Nat):Int) e vars=true)(hk:e.kind=3∨e.kind=4∨e.kind=5∨e.kind=6):e.kids.length=2:=(C0 (BS h)).2.2.1 zO
theorem KO (h:wf p ((F:Nat):Int) e vars=true)(hk:e.kind=10∨e.kind=11):(0≤e.num∧e.num≤((F:Nat):Int)-1)∧(e.kids.length:Int)=(p.getD e.num.toNat Fn.zero).params∧(0≤e.pick∧e.pick≤((p.getD e.num.toNat Fn.zero).outs.length:Int)-1):=by have:=(C0 (BS h)).2.2.2.2.2.1 hk;exact⟨⟨this.1,this.2.1⟩,this.2.2.1,this.2.2.2⟩
theorem Pk (h:wf p ((F:Nat):Int) e vars=true)(hk:e.kind=11):((p.getD e.num.toNat Fn.zero).outs.length:Int)=(p.getD e.num.toNat Fn.zero).params∧(0≤e.count∧e.count≤8):=(C0 (BS h)).2.2.2.2.2.2.1 hk
theorem VQ (h:wf p ((F:Nat):Int) e vars=true)(hk:(e.kind≠1∧e.kind≠2∧e.kind≠8∧e.kind≠9)∧(e.kind≠10∧e.kind≠11∧e.kind≠3∧e.kind≠4∧e.kind≠5∧e.kind≠7)):e.kind=6:=by have:=(C0 (BS h)).1;omega
theorem VR (h:wf p ((F:Nat):Int) e vars=true)(hk:(e.kind≠1∧e.kind≠2∧e.kind≠7∧e.kind≠8)∧(e.kind≠9∧e.kind≠10∧e.kind≠11)):e.kind=3∨e.kind=4∨e.kind=5∨e.kind=6:=by have:=(C0 (BS h)).1;omega
theorem VS (h:wf p ((F:Nat):Int) e vars=true)(hv:Ik p)(hF:F≤p.length):e.kids.length≤12:=by have hq:=C0<|BS h;by_cases h10:e.kind=10∨e.kind=11;have h1:=KO h h10;have:=hv.par e.num.toNat zO;omega;have h1:=hq.1;have h2:=hq.2.2.1;have h3:=hq.2.2.2.1;have h4:=hq.2.2.2.2.1;by_cases hl:e.kind=1∨e.kind=2;have h5:=BS h;unfold H5 at h5;rcases hl with hl|hl;rw[if_pos hl]at h5;simp only[z7,decide_eq_true_eq]at h5;omega;rw[if_neg zO,if_pos hl]at h5;simp only[z7,decide_eq_true_eq]at h5;omega;omega
end
section
variable {n:Nat} {C:Ca} {e:Ex} {env:List Sr} {s s1 s2:Nat} {c c1 c2:Int} {x y:Sr} {xs ys:List Sr}
theorem Ee (hc:c≠0){r:Rs Sr}:B5 (go c r) x s c:=B5.mk_err (FN hc r) hc
theorem D7 (hc:c=0)(hs:s=3000):B5 (go c (BN n C e env s)) x s1 7:=by subst hc;rw[G4,CT,if_pos (by omega)];exact B5.mk_err rfl (by decide)
theorem Fm (hc:c=0)(hs:s+1≤3000)(hk:e.kind=1):B5 (go c (BN n C e env s)) (cst n e.num) (s+1) c:=by subst hc;rw[G4,CT,if_neg zO,if_pos hk];exact B5.mk_ok rfl
theorem Fo (hc:c=0)(hs:s+1≤3000)(hk:e.kind=2):B5 (go c (BN n C e env s)) (env.getD e.num.toNat []) (s+1) c:=by subst hc;rw[G4,CT,if_neg zO,if_neg zO,if_pos hk];exact B5.mk_ok rfl
theorem Fp (hc:c=0)(hs:s+1≤3000)(hk:e.kind=8)(hl:e.kids.length=3)(h1:B5 (go c (BN n C (e.kids.getD 0 Ex.zero) env (s+1))) x s1 c1)(hx:x.getD 0 0=0)
  (h2:B5 (go c1 (BN n C (e.kids.getD 1 Ex.zero) env s1)) y s2 c2):B5 (go c (BN n C e env s)) y s2 c2:=by
 subst hc;rw[G4,CT,if_neg zO,if_neg zO,if_neg zO,if_pos hk,CX _ _ _ _ _ _ (by omega)];rw[G4]at h1;by_cases h0:c1=0;subst h0;rw[h1.bindO,if_pos hx,CX _ _ _ _ _ _ (by omega)];exact h2;rw[h1.bindE h0];rw[FN h0]at h2;exact h2
theorem Fq (hc:c=0)(hs:s+1≤3000)(hk:e.kind=8)(hl:e.kids.length=3)(h1:B5 (go c (BN n C (e.kids.getD 0 Ex.zero) env (s+1))) x s1 c1)(hx:¬x.getD 0 0=0)
  (h2:B5 (go c1 (BN n C (e.kids.getD 2 Ex.zero) env s1)) y s2 c2):B5 (go c (BN n C e env s)) y s2 c2:=by
 subst hc;rw[G4,CT,if_neg zO,if_neg zO,if_neg zO,if_pos hk,CX _ _ _ _ _ _ (by omega)];rw[G4]at h1;by_cases h0:c1=0;subst h0;rw[h1.bindO,if_neg hx,CX _ _ _ _ _ _ (by omega)];exact h2;rw[h1.bindE h0];rw[FN h0]at h2;exact h2
theorem Fs (hc:c=0)(hs:s+1≤3000)(hk:e.kind=9)(hl:e.kids.length=2)(h1:B5 (go c (BN n C (e.kids.getD 0 Ex.zero) env (s+1))) x s1 c1)
  (h2:B5 (go c1 (BN n C (e.kids.getD 1 Ex.zero) (env++[x]) s1)) y s2 c2):B5 (go c (BN n C e env s)) y s2 c2:=by
 subst hc;rw[G4,CT,if_neg zO,if_neg zO,if_neg zO,if_neg zO,if_pos hk,CX _ _ _ _ _ _ (by omega)];rw[G4]at h1;by_cases h0:c1=0;subst h0;rw[h1.bindO,CX _ _ _ _ _ _ (by omega)];exact h2;rw[h1.bindE h0];rw[FN h0]at h2;exact h2
theorem I0 (hs : s + 1 ≤ 3000) (h1 : e.kind ≠ 1) (h2 : e.kind ≠ 2) (h8 : e.kind ≠ 8) (h9 : e.kind ≠ 9) : BN n C e env s = (Cj n C e.kids env (s + 1)).bind fun xs t =>
      if e.kind = 10 then C.one e.num.toNat e.pick.toNat xs t
      else if e.kind = 11 then (FC (C.all e.num.toNat) e.count.toNat xs t).bind fun ys u=>.ok (ys.getD e.pick.toNat []) u
      else HO e.kind xs t:=by
  rw [CT,if_neg zO,if_neg h1,if_neg h2,if_neg h8,if_neg h9]
theorem Dz (hc:c=0)(hs:s+1≤3000)(h1:e.kind≠1)(h2:e.kind≠2)(h8:e.kind≠8)(h9:e.kind≠9)(hr:B5 (go c (Cj n C e.kids env (s+1))) xs s1 c1)(hc1:c1≠0):B5 (go c (BN n C e env s)) x s2 c1:=by subst hc;rw[G4]at hr ⊢;rw[I0 hs h1 h2 h8 h9,hr.bindE hc1];exact B5.mk_err rfl hc1
theorem EF {p:List Fn}{F:Nat}(hc:c=0)(hs:s+1≤3000)(hk:e.kind=10)(hF:e.num.toNat<F)(hr:B5 (go c (Cj n (Co p n F) e.kids env (s+1))) xs s1 c1)(hc1:c1=0)
  (h2:B5 (go c1 (BN n (Co p n e.num.toNat) ((p.getD e.num.toNat Fn.zero).outs.getD e.pick.toNat Ex.zero) xs s1)) y s2 c2):B5 (go c (BN n (Co p n F) e env s)) y s2 c2:=by
 subst hc;subst hc1;rw[G4]at hr h2 ⊢;rw[I0 hs zO zO zO zO,hr.bindO,if_pos hk,He hF];exact h2
theorem EG {p:List Fn}{F:Nat}(hc:c=0)(hs:s+1≤3000)(hk:e.kind=11)(hF:e.num.toNat<F)(hr:B5 (go c (Cj n (Co p n F) e.kids env (s+1))) xs s1 c1)(hc1:c1=0)
  (h2:B5 (FC (fun a t=>Cj n (Co p n e.num.toNat) (p.getD e.num.toNat Fn.zero).outs a t) e.count.toNat xs s1) ys s2 c2):B5 (go c (BN n (Co p n F) e env s)) (ys.getD e.pick.toNat []) s2 c2:=by
 subst hc;subst hc1;rw[G4]at hr ⊢;rw[I0 hs zO zO zO zO,hr.bindO,if_neg zO,if_pos hk];have hl:(Co p n F).all e.num.toNat=fun a t=>Cj n (Co p n e.num.toNat) (p.getD e.num.toNat Fn.zero).outs a t:=funext fun a=>funext fun t=>Fl hF;rw[hl];by_cases h0:c2=0;subst h0;rw[h2.bindO];exact B5.mk_ok rfl;rw[h2.bindE h0];exact B5.mk_err rfl h0
theorem Bn (hc:c=0)(hs:s+1≤3000)(h1:e.kind≠1)(h2:e.kind≠2)(h8:e.kind≠8)(h9:e.kind≠9)(h10:e.kind≠10)(h11:e.kind≠11)(hr:B5 (go c (Cj n C e.kids env (s+1))) xs s1 c1)(hc1:c1=0)
  (h:B5 (HO e.kind xs s1) y s2 c2):B5 (go c (BN n C e env s)) y s2 c2:=by
 subst hc;subst hc1;rw[G4]at hr ⊢;rw[I0 hs h1 h2 h8 h9,hr.bindO,if_neg h10,if_neg h11];exact h
theorem Gv {k:Int}(hk:k=3):B5 (HO k xs s) (Do (xs.getD 0 []) (xs.getD 1 [])) s 0:=by subst hk;exact B5.mk_ok rfl
theorem Gw {k:Int}(hk:k=4):B5 (HO k xs s) (EV (xs.getD 0 []) (xs.getD 1 [])) s 0:=by subst hk;exact B5.mk_ok rfl
theorem Gx {k:Int}(hk:k=5):B5 (HO k xs s) (Dc (xs.getD 0 []) (xs.getD 1 [])) s 0:=by subst hk;exact B5.mk_ok rfl
theorem Gy {k:Int}(hk:k=7):B5 (HO k xs s) (EE (xs.getD 0 []) 1000002) s 0:=by subst hk;exact B5.mk_ok rfl
theorem Ft {k:Int}(hk:k=6)(hz:(xs.getD 1 []).getD 0 0=0):B5 (HO k xs s) x s1 6:=by
 subst hk;have:HO 6 xs s=.err 6:=by
  show(if (xs.getD 1 []).getD 0 0=0 then _ else _)=_;rw[if_pos hz]
 exact B5.mk_err this (by decide)
theorem Gz {k:Int}(hk:k=6)(hz:¬(xs.getD 1 []).getD 0 0=0):B5 (HO k xs s) (BV (xs.getD 0 []) (xs.getD 1 [])) s 0:=by
 subst hk;have:HO 6 xs s=.ok (BV (xs.getD 0 []) (xs.getD 1 [])) s:=by
  show(if (xs.getD 1 []).getD 0 0=0 then _ else _)=_;rw[if_neg hz]
 exact B5.mk_ok this
theorem GT {l:List Ex}{k:Nat}(hk:k<l.length)(h:B5 (go c (Cj n C (l.take k) env s)) xs s1 c1)(h2:B5 (go c1 (BN n C (l.getD k Ex.zero) env s1)) x s2 c2) :
  B5 (go c (Cj n C (l.take (k+1)) env s)) (xs++[x]) s2 c2:=by
 by_cases hc:c=0;subst hc;rw[G4]at h ⊢;rw[Rq hk];by_cases h0:c1=0;subst h0;rw[G4]at h2;rw[h.bindO];by_cases h3:c2=0;subst h3;rw[h2.bindO];exact B5.mk_ok rfl;rw[h2.bindE h3];exact B5.mk_err rfl h3;rw[h.bindE h0];rw[FN h0]at h2;exact B5.mk_err (by rw[h2.1]) (by rw[h2.1];exact h2.2);rw[FN hc]at h ⊢;have hc1:c1≠0:=by rw[h.1];exact hc
 rw[FN hc1]at h2;exact B5.mk_err (by rw[h2.1,h.1]) (by rw[h2.1];exact hc1)
theorem TO {f:List Sr→Nat→Rs (List Sr)}{k:Nat}(h:B5 (FC f k xs s) ys s1 c1)(hc:c1=0){zsq:List Sr}(h2:B5 (go c1 (f ys s1)) zsq s2 c2):B5 (FC f (k+1) xs s) zsq s2 c2:=by subst hc;show B5 ((FC f k xs s).bind f) _ _ _;rw[h.bindO];rw[G4]at h2;exact h2
theorem Pl {f:List Sr→Nat→Rs (List Sr)} {d:Int}:∀ {m k:Nat},FC f k xs s = .err d→k≤m→FC f m xs s = .err d
  | 0, k, h, hk => by have : k = 0 := by omega
                      subst this; exact h
  | m + 1,k,h,hk=>by
    by_cases e:k = m + 1
    subst e; exact h
    show (FC f m xs s).bind f = _
    rw [Pl h (by omega)]; rfl
theorem EH {f:List Sr→Nat→Rs (List Sr)}{k m:Nat}(h:B5 (FC f k xs s) ys s1 c1)(hk:k≤m)(hs:k=m∨c1≠0):B5 (FC f m xs s) ys s1 c1:=by by_cases hc:c1=0;rcases hs with rfl|hh;exact h;exact absurd hc hh;exact B5.mk_err (Pl (h.err hc) hk) hc
end
theorem GU (n:Nat)(C:Ca)(l:List Ex)(env:List Sr)(s:Nat)(c:Int):B5 (go c (Cj n C (l.take 0) env s)) [] s c:=by rw[List.take_zero,Cj];by_cases h:c=0;subst h;exact B5.mk_ok rfl;exact B5.mk_err (FN h _) h
theorem DS {n:Nat}{a b:Sr}(ha:DJ n a):DJ n (Do a b):=⟨by unfold Do;rw[CZ];exact ha.1,GS _ _⟩
theorem DT {n:Nat}{a b:Sr}(ha:DJ n a):DJ n (EV a b):=⟨by rw[Jv];exact ha.1,Jw _ _⟩
theorem Dw {n:Nat}{a b:Sr}(ha:DJ n a):DJ n (Dc a b):=⟨by unfold Dc;rw[CZ];exact ha.1,Jt _ _⟩
theorem DU {n:Nat}{a b:Sr}(ha:DJ n a):DJ n (BV a b):=⟨by rw[Ju];exact ha.1,HX _ _⟩
theorem FE {n:Nat}{a:Sr}{y:Int}(ha:DJ n a):DJ n (EE a y):=⟨by unfold EE;rw[CZ];exact ha.1,HY _ _⟩
end
section
def Oh (p:List Fn)(n f:Nat)(a:List Sr):List Sr:=match ev p n f a with
 |.ok xs _=>xs
 |.err _=>[]
def J6 (p:List Fn)(n f:Nat)(a:List Sr):Nat:=match ev p n f a with
 |.ok _ s=>s
 |.err _=>0
def Gp (p:List Fn)(n f:Nat)(a:List Sr):Int:=match ev p n f a with
 |.ok _ _=>0
 |.err c=>c
section
variable {p:List Fn} {n f s:Nat} {a x:List Sr} {c:Int}
theorem Lf (h:B5 (go 0 (Cj n (Co p n f) (p.getD f Fn.zero).outs a 0)) x s c)(hc:c=0):ev p n f a=.ok x s:=by subst hc;exact h.ok
theorem J7 (h:B5 (go 0 (Cj n (Co p n f) (p.getD f Fn.zero).outs a 0)) x s c)(hc:c≠0):ev p n f a=.err c:=h.err hc
theorem I1 (h:ev p n f a=.ok x s):Oh p n f a=x:=by unfold Oh;rw[h]
theorem Pm (h:ev p n f a=.ok x s):J6 p n f a=s:=by unfold J6;rw[h]
theorem Ki (h:ev p n f a=.ok x s):Gp p n f a=0:=by unfold Gp;rw[h]
theorem NI (h:ev p n f a=.err c):Oh p n f a=[]:=by unfold Oh;rw[h]
theorem Pn (h:ev p n f a=.err c):J6 p n f a=0:=by unfold J6;rw[h]
theorem DV (h:ev p n f a=.err c):Gp p n f a=c:=by unfold Gp;rw[h]
end
structure QN (p:List Fn)(n f:Nat)(a:List Sr):Prop where
 code:0≤Gp p n f a∧Gp p n f a≤9
 steps:J6 p n f a≤3000
 len:Gp p n f a=0→(Oh p n f a).length=(p.getD f Fn.zero).outs.length
 ser:FD n (Oh p n f a)
 non:Gp p n f a≠0→Oh p n f a=[]
theorem QN.mk' {p:List Fn}{n f s:Nat}{a x:List Sr}{c:Int}(h:B5 (go 0 (Cj n (Co p n f) (p.getD f Fn.zero).outs a 0)) x s c)(hc:0≤c∧c≤9)(hs:s≤3000)(hl:x.length=(p.getD f Fn.zero).outs.length)(hx:FD n x):QN p n f a:=by by_cases h0:c=0;have e:=Lf h h0;exact⟨by rw[Ki e];omega,by rw[Pm e];exact hs,fun _=>by rw[I1 e];exact hl,by rw[I1 e];exact hx,fun hh=>absurd (Ki e) hh⟩;have e:=J7 h h0;exact⟨by rw[DV e];exact hc,by rw[Pn e];omega,fun hh=>absurd (by rw[← hh,DV e]) h0,by rw[NI e];intro k hk;simp at hk,fun _=>NI e⟩
end
def UH (s:ByteArray)(i:Nat):Bool:=(decide (97≤JP s i) && decide (JP s i≤122)) || (decide (i≠0) && (decide (48≤JP s i) && decide (JP s i≤57)))
def KP (s:ByteArray):Bool:=(decide (1≤s.size) && decide (s.size≤12)) && (List.range s.size).all (UH s)
def Mv (p:List Fn)(e:Ex)(vars funcs:Int):Bool :=
 HN vars 0 412 && (HN funcs 0 ((p.length:Nat):Int) && (decide (e.size≤400) && (decide (e.deep≤60) && wf p funcs e vars)))
def QA (p:List Fn)(k:Nat):Bool:=!((p.take k).any fun g=>FA g.name (p.getD k Fn.zero).name)
def Kj (p:List Fn)(k:Nat):Bool :=
 (KP (p.getD k Fn.zero).name && QA p k) && ((HN (p.getD k Fn.zero).params 0 12 && HN (((p.getD k Fn.zero).outs.length:Nat):Int) 1 12) &&
  ((List.range (p.getD k Fn.zero).outs.length).all (fun j=>Mv p ((p.getD k Fn.zero).outs.getD j Ex.zero) (p.getD k Fn.zero).params ((k:Nat):Int)) && decide (Ex.sizes (p.getD k Fn.zero).outs≤400)))
def Es (p:List Fn):Bool:=decide (p.length≤16) && (List.range p.length).all (Kj p)
def I2 (p:List Fn):Prop:=∀k,k<p.length→Ex.sizes (p.getD k Fn.zero).outs≤2000000∧(p.getD k Fn.zero).outs.length≤2000000∧(p.getD k Fn.zero).name.size≤2000000
theorem Et {f:Nat→Bool}{k:Nat}(h:(List.range k).all f=true)(hk:f k=true):(List.range (k+1)).all f=true:=by rw[List.range_succ,List.all_append,h];simp[hk]
theorem JY {f:Nat→Bool}{k n:Nat}(hk:k<n)(h:f k=false):(List.range n).all f=false:=by rw[List.all_eq_false];exact⟨k,List.mem_range.2 hk,by simp[h]⟩
theorem Po {f:Nat→Bool}{k n:Nat}(h:(List.range n).all f=true)(hk:k<n):f k=true:=zm.1 h k (List.mem_range.2 hk)
theorem Rw {p:List Fn}(h:Es p=true){k:Nat}(hk:k<p.length):Kj p k=true:=by unfold Es at h;rw[z7]at h;exact Po h.2 hk
theorem Fu {p:List Fn}(h:Es p=true):Ik p:=by
 have h1:∀k,k<p.length→(0≤(p.getD k Fn.zero).params∧(p.getD k Fn.zero).params≤12)∧(1≤(p.getD k Fn.zero).outs.length∧(p.getD k Fn.zero).outs.length≤12) ∧
   ∀j,j<(p.getD k Fn.zero).outs.length→Mv p ((p.getD k Fn.zero).outs.getD j Ex.zero) (p.getD k Fn.zero).params ((k:Nat):Int)=true:=by
  intro k hk;have:=Rw h hk;unfold Kj at this;simp only[z7,CI]at this;exact⟨this.2.1.1,zO,fun j hj=>Po this.2.2.1 hj⟩
 have h2:∀k,k<p.length→∀j,j<(p.getD k Fn.zero).outs.length→((p.getD k Fn.zero).outs.getD j Ex.zero).deep≤60∧wf p ((k:Nat):Int) ((p.getD k Fn.zero).outs.getD j Ex.zero) (p.getD k Fn.zero).params=true:=by
  intro k hk j hj;have:=(h1 k hk).2.2 j hj;unfold Mv at this;simp only[z7,decide_eq_true_eq]at this;exact⟨this.2.2.2.1,this.2.2.2.2⟩
 exact⟨fun k hk=>(h1 k hk).1,fun k hk=>(h1 k hk).2.1,fun k hk j hj=>(h2 k hk j hj).1,fun k hk j hj=>(h2 k hk j hj).2⟩
theorem MW {p:List Fn}(h:Es p=true):p.length≤16:=by unfold Es at h;simp only[z7,decide_eq_true_eq]at h;exact h.1
end Go.Proofs.YtlbefjfhfodnlaaGreatDoor
