/- FwA, FwB, FwC, FwD, FwE, FwF, FwG, FwH, FwJ, FwK, FwM, FwN, FwP, FwQ, FwI, FwO, FwR, FwS, FwT, FwU, FwV, FwW, FwX, FwY: texts of this claim, joined; what the claim does not come to is left out. -/
import Derived.Test.YtbajepcpgncekaaGreatProg
import Derived.Still
import Derived.Below
import Derived.WalkKit
import Derived.IntWalk
import Derived.Laws.CopyRow
import Derived.ProofKit
import Derived.Carry
import Derived.Deep.Matrix
set_option linter.unusedVariables false
set_option linter.unusedSimpArgs false
namespace Go.Proofs.YtbajepcpgncekaaGreat
open Go Go.RowKit
abbrev zI (x:Int):Value:=.int .i64 x
abbrev zP (g:Nat):Value:=.pointer (some ⟨g,0,none⟩)
abbrev zN:Value:=.slice none 0 0
theorem zA{c g B U:Nat}(h:c∈[g])(o:g<B∨U≤g:=by omega):c<B∨U≤c:=by rw[List.mem_singleton.1 h];exact o
theorem zE{c g B:Nat}(h:c∈[g])(o:B≤g:=by omega):B≤c:=by rw[List.mem_singleton.1 h];exact o
theorem zB{a g:Nat}(h:a∈[g])(o:a≠g:=by omega):False:=o (List.mem_singleton.1 h)
theorem zR{p:Prop}(h:p:=by repeat(first|exact trivial|exact rfl|refine ⟨rfl,?_⟩)):p:=h
theorem zD{p:Prop}(h:p:=by first|omega|(dsimp only;omega)):p:=h
theorem zW{a b:Bool}(h:a=b):Value.bool a=Value.bool b:=by rw[h]
theorem zO{p:Prop}(h:p:=by omega):p:=h
theorem zH{p q:Prop}(h:p)(o:p→q:=by intro h;omega):q:=o h
theorem z0:type_of% @List.mem_cons_self:=@List.mem_cons_self
theorem z1:type_of% @List.mem_append_right:=@List.mem_append_right
theorem z2:type_of% @List.not_mem_nil:=@List.not_mem_nil
theorem z3:type_of% @List.mem_cons_of_mem:=@List.mem_cons_of_mem
theorem z4:type_of% @List.length_append:=@List.length_append
theorem z5:type_of% @List.length_replicate:=@List.length_replicate
theorem z6:type_of% @List.length_set:=@List.length_set
theorem z7:type_of% @Bool.and_eq_true:=@Bool.and_eq_true
theorem z8:type_of% @List.mem_append_left:=@List.mem_append_left
theorem z9:type_of% @List.length_cons:=@List.length_cons
theorem za:type_of% @List.take_of_length_le:=@List.take_of_length_le
theorem zb:type_of% @List.length_nil:=@List.length_nil
theorem zc:type_of% @List.map_toArray:=@List.map_toArray
theorem zd:type_of% @List.length_singleton:=@List.length_singleton
theorem ze:type_of% @List.mem_cons:=@List.mem_cons
theorem zf:type_of% @List.map_cons:=@List.map_cons
theorem zg:type_of% @List.length_map:=@List.length_map
theorem zh:type_of% @List.map_nil:=@List.map_nil
theorem zi:type_of% @List.mem_append:=@List.mem_append
theorem zj:type_of% @List.mem_of_mem_take:=@List.mem_of_mem_take
theorem zk:type_of% @List.nodup_nil:=@List.nodup_nil
theorem zl:type_of% @List.nil_append:=@List.nil_append
theorem zm:type_of% @List.all_eq_true:=@List.all_eq_true
abbrev A0:=@wp_seq
abbrev A3:=@wp_ret
abbrev A4:=@wp_skip
abbrev A5:=@wp_block
abbrev A6:=@wp_exit
abbrev A7:=@decide_eq_true
abbrev A8:=@decide_eq_false
abbrev A9:=@Nat.le_refl
abbrev Aa:=@Nat.le_trans
theorem Ab {α:Type}{a b:α}(h:a ∈ [b]):a=b:=List.mem_singleton.1 h
theorem Z {α:Sort _}{a:α}:a=a:=rfl
section
def AB (w w':World):Prop:=Below w.heap.size w w'
theorem AB.refl (w:World):AB w w:=Below.refl _ _
theorem AB.trans {a b c:World}(h:AB a b)(k:AB b c):AB a c:=Below.trans h (k.mono h.size)
section
variable {P:Program} {ops:Array Oper} {md:Region.Mode}
def YR (P:Program)(r:Result Next)(w:World)(v:Value):Prop :=
 r=.ok (.value v) w∨(r=.ok .skip w∧v=undef)∨∃f args,r=.ok (.enter f args) w∧Calls P f args w (fun e w'=>e=.returned v∧w'=w)
def YA (P:Program)(o:Oper)(a:Act)(w:World)(v:Value):Prop:=YR P ((execOp a.eval o).run P w) w v
def FA (P:Program):Frame:={ fn:=P.funcs.size,tmps:=#[undef],todo:=[.inRegion #[⟨some 0,.move (.tmp 0),0,"",#[],none⟩] [0]],defers:=[],mode:=.returning,kind:=.report }
theorem Jr (P:Program) (v:Value) (w:World):∃ o,step P (lone ((FA P).finish v) [] w) = .ended o w:=by
 have hf:P.funcs[P.funcs.size]? = none:=by simp
 refine ⟨.stuck "report: Error or String returned no string" "",step_lone_ended ?_⟩
 simp [stepG,unwind,doReturn,FA,Frame.finish]
theorem Js {P:Program}{n k:Nat}{m x y:Machine}{o:Outcome}{w:World}(hx:runN P n m=.next x)(hy:runN P (n+k) m=.next y)(he:step P x=.ended o w):x=y:=by
 rw[runN_add,hx]at hy
 cases k with
 |zero=>simp only[runN]at hy;injection hy
 |succ k=>simp only[runN,he]at hy;cases hy
theorem P0 {P:Program}{f:FuncId}{args:Array Value}{w:World}{v u:Value}(h:Calls P f args w (fun e w'=>e=.returned v∧w'=w))(k:Calls P f args w (fun e w'=>e=.returned u∧w'=w)):v=u:=by
 have go:∀ {x:Value},Calls P f args w (fun e w'=>e=.returned x∧w'=w)→Steps P (lone (Frame.enter P f args .normal) [FA P] w) (lone ((FA P).finish x) [] w):=by
  intro x hx
  obtain⟨e,w',fr,⟨rfl,rfl⟩,hs,_,hl⟩:=hx [FA P]
  exact Steps.trans hs<|Steps.one<|step_leave_returned hl
 obtain⟨n,hn⟩:=go h
 obtain⟨m,hm⟩:=go k
 obtain⟨o1,e1⟩:=Jr P v w
 obtain⟨o2,e2⟩:=Jr P u w
 have he:lone ((FA P).finish v) [] w=lone ((FA P).finish u) [] w:=by
  rcases Nat.le_total n m with hle|hle
  ·obtain⟨k,rfl⟩:=Nat.le.dest hle
   exact Js hn hm e1
  ·obtain⟨k,rfl⟩:=Nat.le.dest hle
   exact (Js hm hn e2).symm
 simpa [lone,FA,Frame.finish]using he
theorem YA.unique {o:Oper}{a:Act}{w:World}{v u:Value}(h:YA P o a w v)(k:YA P o a w u):v=u:=by
 unfold YA at h k
 rcases h with h|⟨h,rfl⟩|⟨f,args,h,hc⟩ <;> rcases k with k|⟨k,rfl⟩|⟨f',args',k,kc⟩ <;> rw[h]at k
 ·injection k with k _;injection k
 ·injection k with k _;cases k
 ·injection k with k _;cases k
 ·injection k with k _;cases k
 ·injection k with k _;cases k
 ·injection k with k _;cases k
 ·injection k with k _;cases k
 ·injection k with k _
  injection k with k1 k2
  subst k1;subst k2
  exact P0 hc kc
def NQ (Q:Act→World→Prop):Exit→Act→World→Prop
 |.normal,a,w=>Q a w
 |_,_,_=>False
def Cl (w0 w:World):Nat→World→Prop
 |0,_=>True
 |1,w'=>AB w0 w'
 |_,w'=>AB w w'
def BY (P:Program)(w0:World)(o:Oper)(k:Nat)(a:Act)(w:World)(K:Act→World→Prop):Prop :=
 if k≤2 then ∃v,(∀w',Cl w0 w k w'→YA P o a w' v)∧K (a.put o.dst v) w
 else if k=3 then o.wp P a w (fun a' w'=>AB w w'∧K a' w') (NQ fun _ _=>False)
 else o.wp P a w K (NQ fun _ _=>False)
def LW (P:Program)(ops:Array Oper)(w0:World)(Q:Act→World→Prop):List Oper→List Nat→Act→World→Prop
 |[],_,a,w=>Q a w
 |_::_,[],_,_=>False
 |o::os,k::ks,a,w =>
  if Region.wanted o (yielded ops a.tmps)=true then BY P w0 o k a w (LW P ops w0 Q os ks)else LW P ops w0 Q os ks (a.put o.dst undef) w
theorem BY.mono {w0:World}{o:Oper}{k:Nat}{a:Act}{w:World}{K K':Act→World→Prop}(h:∀a w,K a w→K' a w)
  (hh:BY P w0 o k a w K):BY P w0 o k a w K':=by
 unfold BY at *
 split
 ·rename_i hk
  rw[if_pos hk]at hh
  obtain⟨v,h1,h2⟩:=hh
  exact⟨v,h1,h _ _ h2⟩
 ·rename_i hk
  rw[if_neg hk]at hh
  split
  ·rename_i h3
   rw[if_pos h3]at hh
   exact Oper.wp_mono (fun a w hx=>⟨hx.1,h _ _ hx.2⟩) hh
  ·rename_i h3
   rw[if_neg h3]at hh
   exact Oper.wp_mono h hh
theorem SE {o:Oper}{a:Act}{w:World}{K:Act→World→Prop}(h:o.wp P a w K (NQ fun _ _=>False)):∃v w',K (a.put o.dst v) w'∨∃d,K ({ a with defers:=d::a.defers }.put o.dst v) w':=by
 unfold Oper.wp at h
 generalize (execOp a.eval o).run P w=r at h
 cases r with
 |ok n w' =>
  cases n <;> simp only[Oper.upon]at h
  case value v=>exact⟨v,w',.inl h⟩
  case skip=>exact⟨undef,w',.inl h⟩
  case defer d=>exact⟨undef,w',.inr ⟨d,h⟩⟩
  case enter f args =>
   obtain⟨e,w1,fr,hR,_⟩:=h []
   cases e with
   |returned v=>exact⟨v,w1,.inl hR⟩
   |panicked c=>exact hR.elim
   |outgrown=>obtain⟨a1,w2,hf⟩:=hR;exact hf.elim
  case row row args =>
   obtain⟨v,w1,hR,_⟩:=h default []
   exact⟨v,w1,.inl hR⟩
 |halt x w'=>cases x <;> simp only[Oper.upon]at h;exact h.elim
theorem Kl {o:Oper}(hs:∀cs b,o.op≠.select cs b){a:Act}{d:Option Tmp}{v:Value}{w:World}{K:Act→World→Prop}{Q:Act→World→Prop}
  (h1:∀x,d=some x→x∉o.looksAt ops) (h2:∀x,d=some x→o.dst≠some x)
  (h:o.wp P (a.put d v) w K (NQ Q)):o.wp P a w (fun a' w'=>K (a'.put d v) w') (NQ fun _ _=>False):=by
 unfold Oper.wp at *
 rw[execOp_put (ops:=ops) o hs a d v h1]at h
 generalize (execOp a.eval o).run P w=r at *
 have hc:∀u,(a.put d v).put o.dst u=(a.put o.dst u).put d v:=fun u=>Act.put_comm a v u h2
 cases r with
 |ok n w' =>
  cases n <;> simp only[Oper.upon]at h ⊢
  case value u=>rw[← hc];exact h
  case skip=>rw[← hc];exact h
  case defer dd =>
   rw[Act.put_defers]at h
   have:=Act.put_comm ({ a with defers:=dd::a.defers }:Act) v undef h2
   rw[← this];exact h
  case enter f args =>
   refine Calls.mono h fun e w'' he=>?_
   cases e with
   |returned u=>show K _ _;rw[← hc];exact he
   |panicked c=>exact he
   |outgrown=>obtain⟨_,_,hf⟩:=he;exact hf.elim
  case row row args=>exact Rows.mono h (fun u w'' he=>by show K _ _;rw[← hc];exact he)
 |halt x w'=>cases x <;> simp only[Oper.upon]at h ⊢;exact h
theorem MF {o:Oper}(hs:∀cs b,o.op≠.select cs b){a:Act}{d:Option Tmp}{v:Value}{w:World}{K:Act→World→Prop}
  (h1:∀x,d=some x→x∉o.looksAt ops) (h2:∀x,d=some x→o.dst≠some x)
  (h:o.wp P a w (fun a' w'=>K (a'.put d v) w') (NQ fun _ _=>False)):o.wp P (a.put d v) w K (NQ fun _ _=>False):=by
 unfold Oper.wp at *
 rw[execOp_put (ops:=ops) o hs a d v h1]
 generalize (execOp a.eval o).run P w=r at *
 have hc:∀u,(a.put d v).put o.dst u=(a.put o.dst u).put d v:=fun u=>Act.put_comm a v u h2
 cases r with
 |ok n w' =>
  cases n <;> simp only[Oper.upon]at h ⊢
  case value u=>rw[hc];exact h
  case skip=>rw[hc];exact h
  case defer dd =>
   rw[Act.put_defers]
   have:=Act.put_comm ({ a with defers:=dd::a.defers }:Act) v undef h2
   rw[this];exact h
  case enter f args =>
   refine Calls.mono h fun e w'' he=>?_
   cases e with
   |returned u=>show K _ _;rw[hc];exact he
   |panicked c=>exact he
   |outgrown=>obtain⟨_,_,hf⟩:=he;exact hf.elim
  case row row args=>exact Rows.mono h (fun u w'' he=>by show K _ _;rw[hc];exact he)
 |halt x w'=>cases x <;> simp only[Oper.upon]at h ⊢;exact h
theorem YA.apart {o:Oper}(hs:∀cs b,o.op≠.select cs b){a:Act}{d:Option Tmp}{v u:Value}{w:World}
  (h1:∀x,d=some x→x∉o.looksAt ops):YA P o (a.put d v) w u↔YA P o a w u:=by
 unfold YA
 rw[execOp_put (ops:=ops) o hs a d v h1]
variable (P ops) in
def LI (kd:Nat→Nat)(w0:World)(Q:Act→World→Prop):List Nat→Act→World→Prop
 |[],a,w=>Q a w
 |i::l,a,w =>
  match ops[i]? with
  |none=>False
  |some o=>if Region.wanted o (yielded ops a.tmps)=true then BY P w0 o (kd i) a w (LI kd w0 Q l)else LI kd w0 Q l (a.put o.dst undef) w
def D6 (ki kj:Nat):Bool :=
 (ki≤2 && kj≤2) || (ki≤2 && kj == 3) || (ki == 0 && kj == 4) || (ki == 3 && kj≤1) || (ki == 4 && kj == 0)
def f6 (ops:Array Oper)(kd:Nat→Nat)(bs:Nat→Nat):Prop :=
 ∀i j oi oj,i<j→ops[i]? = some oi→ops[j]? = some oj→(bs j).testBit i=true∨(oi.apart ops oj=true∧D6 (kd i) (kd j)=true)
def LP (md:Region.Mode)(ops:Array Oper)(bs:Nat→Nat):Prop :=
 ∀j oj,ops[j]? = some oj→∀i,(bs j).testBit i=true→∃e∈oj.after,Region.binds md e=true∧(i=e.on∨(bs e.on).testBit i=true)
def L8 (kd:Nat→Nat)(w0 w:World)(l:List Nat):Prop:=(∃j∈l,kd j=1)→AB w0 w
def JL (kd:Nat→Nat)(l:List Nat):Prop:=∀l1 i l2,l=l1++i::l2→4≤kd i→∀j∈l2,kd j≠1
theorem JL.erase {kd:Nat→Nat}{l1 l2:List Nat}{i:Nat}(h:JL kd (l1++i::l2)):JL kd (l1++l2):=by
 intro m1 j m2 e hj x hx
 by_cases hlt:m1.length<l1.length
 ·have e1:l1=m1++j::(m2.take (l1.length-m1.length-1)):=by
   have:=congrArg (List.take l1.length) e
   rw[List.take_left,List.take_append,za (by omega)]at this
   rw[this]
   congr 1
   obtain⟨n,hn⟩:∃n,l1.length-m1.length=n+1:=⟨l1.length-m1.length-1,zO⟩
   rw[hn];simp
  have e2:l2=m2.drop (l1.length-m1.length-1):=by
   have:=congrArg (List.drop l1.length) e
   rw[List.drop_left,List.drop_append]at this
   rw[this,List.drop_of_length_le zO,zl]
   obtain⟨n,hn⟩:∃n,l1.length-m1.length=n+1:=⟨l1.length-m1.length-1,zO⟩
   rw[hn];simp
  refine h m1 j (m2.take (l1.length-m1.length-1)++i::l2) (by rw[e1];simp[List.append_assoc]) hj x ?_
  have hx':x∈m2.take (l1.length-m1.length-1)++m2.drop (l1.length-m1.length-1):=by rw[List.take_append_drop];exact hx
  rw[← e2]at hx'
  simp only[zi,ze]at hx' ⊢
  rcases hx' with hx'|hx'
  ·exact .inl hx'
  ·exact .inr<|.inr hx'
 ·have e2:l2=m1.drop l1.length++j::m2:=by
   have:=congrArg (List.drop l1.length) e
   rw[List.drop_left,List.drop_append_of_le_length (by omega)]at this
   exact this
  exact h (l1++i::m1.drop l1.length) j m2 (by rw[e2];simp) hj x hx
def Yv (P:Program)(ops:Array Oper)(w0:World)(k:Nat)(o:Oper)(a:Act)(w:World)(v:Value):Prop :=
 (Region.wanted o (yielded ops a.tmps)=true∧∀w',Cl w0 w k w'→YA P o a w' v)∨(Region.wanted o (yielded ops a.tmps)=false∧v=undef)
theorem Cl.self {w0 w:World}{k:Nat}(h:k=1→AB w0 w):Cl w0 w k w:=by
 match k,h with
 |0,_=>exact trivial
 |1,h=>exact h rfl
 |_+2,_=>exact AB.refl w
theorem Yv.unique {w0 w:World}{k:Nat}{o:Oper}{a:Act}{v u:Value}(hk:k=1→AB w0 w)(h:Yv P ops w0 k o a w v)(h':Yv P ops w0 k o a w u):v=u:=by
 rcases h with⟨h1,h2⟩|⟨h1,h2⟩ <;> rcases h' with⟨g1,g2⟩|⟨g1,g2⟩
 ·exact (h2 w<|Cl.self hk).unique<|g2 w<|Cl.self hk
 ·rw[h1]at g1;cases g1
 ·rw[h1]at g1;cases g1
 ·rw[h2,g2]
theorem Yv.apart {w0 w:World}{k:Nat}{o:Oper}(hs:∀cs b,o.op≠.select cs b){a:Act}{d:Option Tmp}{u v:Value}
  (h1:∀x,d=some x→x∉o.looksAt ops):Yv P ops w0 k o (a.put d u) w v↔Yv P ops w0 k o a w v:=by
 unfold Yv
 rw[wanted_put (ops:=ops) o a d u h1]
 simp only[YA.apart (ops:=ops) (P:=P) hs h1]
theorem Yv.defers {w0 w:World}{k:Nat}{o:Oper}{a:Act}{l:List Deferred}{v:Value}:Yv P ops w0 k o { a with defers:=l } w v↔Yv P ops w0 k o a w v:=by
 have he:Act.eval { a with defers:=l }=Act.eval a:=funext fun x=>by cases x <;> rfl
 unfold Yv YA
 rw[he]
def Or (a:Act)(d:Option Tmp)(a':Act):Prop:=∃u,a'=a.put d u∨∃x,a'=({ a with defers:=x::a.defers }:Act).put d u
theorem He {o:Oper}{a:Act}{w:World}{K:Act→World→Prop}{Q:Exit→Act→World→Prop}(h:o.wp P a w K Q) :
  o.wp P a w (fun a' w'=>K a' w'∧Or a o.dst a') Q:=by
 unfold Oper.wp at *
 generalize (execOp a.eval o).run P w=r at *
 cases r with
 |ok n w' =>
  cases n <;> simp only[Oper.upon]at h ⊢
  case value u=>exact⟨h,u,.inl rfl⟩
  case skip=>exact⟨h,undef,.inl rfl⟩
  case defer dd=>exact⟨h,undef,.inr ⟨dd,rfl⟩⟩
  case enter f args =>
   refine Calls.mono h fun e w'' he=>?_
   cases e with
   |returned u=>exact⟨he,u,.inl rfl⟩
   |panicked c=>exact he
   |outgrown=>exact he
  case row row args=>exact Rows.mono h (fun u w'' he=>⟨he,u,.inl rfl⟩)
 |halt x w'=>cases x <;> simp only[Oper.upon]at h ⊢;exact h
theorem Yv.shape {w0 w:World}{k:Nat}{o:Oper}(hs:∀cs b,o.op≠.select cs b){a a':Act}{d:Option Tmp}{v:Value}
  (h1:∀x,d=some x→x∉o.looksAt ops) (h:Or a d a'):Yv P ops w0 k o a' w v↔Yv P ops w0 k o a w v:=by
 obtain⟨u,rfl|⟨x,rfl⟩⟩:=h
 ·exact Yv.apart hs h1
 ·rw[Yv.apart hs h1];exact Yv.defers
theorem FY {o:Oper}{a a':Act}{d:Option Tmp}(h1:∀x,d=some x→x∉o.looksAt ops)(h:Or a d a') :
  Region.wanted o (yielded ops a'.tmps)=Region.wanted o (yielded ops a.tmps):=by
 obtain⟨u,rfl|⟨x,rfl⟩⟩:=h
 ·exact wanted_put o a d u h1
 ·rw[wanted_put o _ d u h1]
section main
variable {kd bs:Nat→Nat} {w0:World} {Q:Act→World→Prop}
theorem qP {ki kj:Nat}(h:D6 ki kj=true)(hk:ki=3):kj≤1:=by simp[D6]at h;omega
theorem qQ {ki kj:Nat}(h:D6 ki kj=true)(hk:4≤ki):kj=0:=by simp[D6]at h;omega
theorem nL {ki kj:Nat}(h:D6 ki kj=true)(hk:3≤kj):ki≤2∧(4≤kj→ki=0):=by simp[D6]at h;omega
theorem Ia (hsel:∀(j:Nat)(o:Oper) cs b,ops[j]? = some o→o.op≠.select cs b){j:Nat}{oj:Oper}(hj:ops[j]? = some oj)(hk:kd j≤2) :
  ∀(l1 l2:List Nat) (a:Act) (w:World),(∀i∈l1,∀oi,ops[i]? = some oi→oi.apart ops oj=true∧D6 (kd i) (kd j)=true)→(kd j=1→AB w0 w) →
   LI P ops kd w0 Q (l1++j::l2) a w→∃v,Yv P ops w0 (kd j) oj a w v∧LI P ops kd w0 Q (l1++l2) (a.put oj.dst v) w
 |[],l2,a,w,_,_,h=>by
  simp only[zl,LI,hj]at h ⊢
  split at h
  ·rename_i hw
   unfold BY at h
   rw[if_pos hk]at h
   obtain⟨v,h1,h2⟩:=h
   exact⟨v,.inl ⟨hw,h1⟩,h2⟩
  ·rename_i hw
   exact⟨undef,.inr ⟨by simpa using hw,rfl⟩,h⟩
 |i::l1,l2,a,w,hl,hx,h=>by
  have hi:=hl i (z0 ..)
  have hl':∀x∈l1,∀ox,ops[x]? = some ox→ox.apart ops oj=true∧D6 (kd x) (kd j)=true:=fun x hx=>hl x (z3 _ hx)
  simp only[List.cons_append,LI]at h ⊢
  cases hoi:ops[i]? with
  |none=>rw[hoi]at h;exact h.elim
  |some oi =>
   rw[hoi]at h
   simp only at h ⊢
   obtain⟨hap,hok⟩:=hi oi hoi
   obtain⟨p1,p2,p3⟩:=Oper.apart_spec hap
   have p2':∀d,oj.dst=some d→oi.dst≠some d:=fun d hd he=>p2 d he hd
   have si:=fun cs b=>hsel i oi cs b hoi
   have sj:=fun cs b=>hsel j oj cs b hj
   by_cases hw:Region.wanted oi (yielded ops a.tmps)=true
   ·rw[if_pos hw]at h
    unfold BY at h
    by_cases hki:kd i≤2
    ·rw[if_pos hki]at h
     obtain⟨vi,hy,h⟩:=h
     obtain⟨v,h1,h2⟩:=Ia hsel hj hk l1 l2 (a.put oi.dst vi) w hl' hx h
     refine⟨v,(Yv.apart sj p1).1 h1,?_⟩
     rw[wanted_put oi a oj.dst v p3,if_pos hw]
     unfold BY
     rw[if_pos hki]
     refine⟨vi,fun w' hc=>(YA.apart (ops:=ops) si p3).2 (hy w' hc),?_⟩
     rw[Act.put_comm a v vi p2']
     exact h2
    ·rw[if_neg hki]at h
     have gen:∀(G:World→Prop),(∀w',G w'→kd j=1→AB w0 w')→(kd j=2→False) →
       oi.wp P a w (fun a' w'=>G w'∧LI P ops kd w0 Q (l1++j::l2) a' w') (NQ fun _ _=>False) →
       ∃v,Yv P ops w0 (kd j) oj a w v∧oi.wp P (a.put oj.dst v) w (fun a' w'=>G w'∧LI P ops kd w0 Q (l1++l2) a' w') (NQ fun _ _=>False):=by
      intro G hG hn2 hh
      have hcl:∀w1 w2,Cl w0 w1 (kd j) w2→Cl w0 w (kd j) w2:=by
       intro w1 w2 hc
       match hkj:kd j,hk,hn2 with
       |0,_,_=>trivial
       |1,_,_=>rw[hkj]at hc;exact hc
       |2,_,hn=>exact(hn rfl).elim
       |_+3,hle,_=>omega
      have hcl':∀w1 w2,Cl w0 w (kd j) w2→Cl w0 w1 (kd j) w2:=by
       intro w1 w2 hc
       match hkj:kd j,hk,hn2 with
       |0,_,_=>trivial
       |1,_,_=>rw[hkj]at hc;exact hc
       |2,_,hn=>exact(hn rfl).elim
       |_+3,hle,_=>omega
      have hs:=He hh
      have step:∀a' w',((G w'∧LI P ops kd w0 Q (l1++j::l2) a' w')∧Or a oi.dst a') →
        ∃v,Yv P ops w0 (kd j) oj a w v∧LI P ops kd w0 Q (l1++l2) (a'.put oj.dst v) w':=by
       rintro a' w' ⟨⟨hg,hL⟩,hsh⟩
       obtain⟨v,h1,h2⟩:=Ia hsel hj hk l1 l2 a' w' hl' (hG w' hg) hL
       have h1':=(Yv.shape sj p1 hsh).1 h1
       refine⟨v,?_,h2⟩
       rcases h1' with⟨q1,q2⟩|⟨q1,q2⟩
       ·exact .inl ⟨q1,fun w2 hc=>q2 w2<|hcl' w' w2 hc⟩
       ·exact .inr ⟨q1,q2⟩
      obtain⟨v,hv⟩:∃v,Yv P ops w0 (kd j) oj a w v:=by
       obtain⟨u,w',hK|⟨d,hK⟩⟩:=SE hs
       ·obtain⟨v,h1,_⟩:=step _ _ hK;exact⟨v,h1⟩
       ·obtain⟨v,h1,_⟩:=step _ _ hK;exact⟨v,h1⟩
      refine⟨v,hv,MF (ops:=ops) si p3 p2' ?_⟩
      refine Oper.wp_mono (fun a' w' hK=>?_) hs
      obtain⟨v',h1,h2⟩:=step a' w' hK
      have:v'=v:=h1.unique hx hv
      subst this
      exact⟨hK.1.1,h2⟩
     by_cases h3:kd i=3
     ·rw[if_pos h3]at h
      have hj1:=qP hok h3
      obtain⟨v,hv,hwp⟩:=gen (fun w'=>AB w w') (fun w' hg h1=>(hx h1).trans hg) (fun h2=>by omega) h
      refine⟨v,hv,?_⟩
      rw[wanted_put oi a oj.dst v p3,if_pos hw]
      unfold BY
      rw[if_neg hki,if_pos h3]
      exact hwp
     ·rw[if_neg h3]at h
      have hj0:=qQ hok zO
      obtain⟨v,hv,hwp⟩:=gen (fun _=>True) (fun w' _ h1=>by omega) (fun h2=>by omega) (Oper.wp_mono (fun a w hh=>⟨trivial,hh⟩) h)
      refine⟨v,hv,?_⟩
      rw[wanted_put oi a oj.dst v p3,if_pos hw]
      unfold BY
      rw[if_neg hki,if_neg h3]
      exact Oper.wp_mono (fun a w hh=>hh.2) hwp
   ·rw[if_neg hw]at h
    obtain⟨v,h1,h2⟩:=Ia hsel hj hk l1 l2 (a.put oi.dst undef) w hl' hx h
    refine⟨v,(Yv.apart sj p1).1 h1,?_⟩
    rw[wanted_put oi a oj.dst v p3,if_neg hw,Act.put_comm a v undef p2']
    exact h2
theorem Jt (hsel:∀(j:Nat)(o:Oper) cs b,ops[j]? = some o→o.op≠.select cs b){j:Nat}{oj:Oper}(hj:ops[j]? = some oj)(hk:3≤kd j) :
  ∀(l1 l2:List Nat) (a:Act) (w:World),(∀i∈l1,∀oi,ops[i]? = some oi→oi.apart ops oj=true∧D6 (kd i) (kd j)=true)→LI P ops kd w0 Q (l1++j::l2) a w →
   (Region.wanted oj (yielded ops a.tmps)=true→oj.wp P a w (fun a' w'=>(kd j=3→AB w w')∧LI P ops kd w0 Q (l1++l2) a' w') (NQ fun _ _=>False)) ∧
   (Region.wanted oj (yielded ops a.tmps)=false→LI P ops kd w0 Q (l1++l2) (a.put oj.dst undef) w)
 |[],l2,a,w,_,h=>by
  simp only[zl,LI,hj]at h ⊢
  refine⟨fun hw=>?_,fun hw=>?_⟩
  ·rw[if_pos hw]at h
   unfold BY at h
   rw[if_neg (by omega)]at h
   split at h
   ·exact Oper.wp_mono (fun _ _ hh=>⟨fun _=>hh.1,hh.2⟩) h
   ·rename_i h3;exact Oper.wp_mono (fun _ _ hh=>⟨fun h'=>(h3 h').elim,hh⟩) h
  ·rw[if_neg (by simp[hw])]at h;exact h
 |i::l1,l2,a,w,hl,h=>by
  have hi:=hl i (z0 ..)
  have hl':∀x∈l1,∀ox,ops[x]? = some ox→ox.apart ops oj=true∧D6 (kd x) (kd j)=true:=fun x hx=>hl x (z3 _ hx)
  simp only[List.cons_append,LI]at h ⊢
  cases hoi:ops[i]? with
  |none=>rw[hoi]at h;exact h.elim
  |some oi =>
   rw[hoi]at h
   simp only at h ⊢
   obtain⟨hap,hok⟩:=hi oi hoi
   obtain⟨p1,p2,p3⟩:=Oper.apart_spec hap
   have p2':∀d,oj.dst=some d→oi.dst≠some d:=fun d hd he=>p2 d he hd
   have si:=fun cs b=>hsel i oi cs b hoi
   have sj:=fun cs b=>hsel j oj cs b hj
   obtain⟨hki,hk4⟩:=nL hok hk
   by_cases hw:Region.wanted oi (yielded ops a.tmps)=true
   ·rw[if_pos hw]at h
    unfold BY at h
    rw[if_pos hki]at h
    obtain⟨vi,hy,h⟩:=h
    obtain⟨g1,g2⟩:=Jt hsel hj hk l1 l2 (a.put oi.dst vi) w hl' h
    rw[wanted_put oj a oi.dst vi p1]at g1 g2
    refine⟨fun hwj=>?_,fun hwj=>?_⟩
    ·have g:=Kl (ops:=ops) (Q:=fun _ _=>False) sj p1 p2<|g1 hwj
     refine Oper.wp_mono (fun a' w' hK=>?_)<|He g
     obtain⟨⟨hE,hL⟩,hsh⟩:=hK
     refine⟨hE,?_⟩
     rw[FY p3 hsh,if_pos hw]
     unfold BY
     rw[if_pos hki]
     refine⟨vi,fun w'' hc=>?_,hL⟩
     have hya:YA P oi a w'' vi:=by
      refine hy w'' ?_
      match hki':kd i,hki,hk4 with
      |0,_,_=>trivial
      |1,_,_=>rw[hki']at hc;exact hc
      |2,_,h4=>rw[hki']at hc;exact(hE (by have:¬4≤kd j:=(fun hh=>by have:=h4 hh;omega);omega)).trans hc
      |_+3,hle,_=>omega
     have he:∀b,YA P oi b w'' vi↔YR P ((execOp b.eval oi).run P w'') w'' vi:=fun _=>Iff.rfl
     obtain⟨u,rfl|⟨x,rfl⟩⟩:=hsh
     ·exact (YA.apart (ops:=ops) si p3).2 hya
     ·refine (YA.apart (ops:=ops) si p3).2 ?_
      have hee:Act.eval { a with defers:=x::a.defers }=Act.eval a:=funext fun y=>by cases y <;> rfl
      rw[he,hee,← he];exact hya
    ·rw[wanted_put oi a oj.dst undef p3,if_pos hw]
     unfold BY
     rw[if_pos hki]
     refine⟨vi,fun w' hc=>(YA.apart (ops:=ops) si p3).2 (hy w' hc),?_⟩
     rw[Act.put_comm a undef vi p2']
     exact g2 hwj
   ·rw[if_neg hw]at h
    obtain⟨g1,g2⟩:=Jt hsel hj hk l1 l2 (a.put oi.dst undef) w hl' h
    rw[wanted_put oj a oi.dst undef p1]at g1 g2
    refine⟨fun hwj=>?_,fun hwj=>?_⟩
    ·have g:=Kl (ops:=ops) (Q:=fun _ _=>False) sj p1 p2<|g1 hwj
     refine Oper.wp_mono (fun a' w' hK=>?_)<|He g
     obtain⟨⟨hE,hL⟩,hsh⟩:=hK
     refine⟨hE,?_⟩
     rw[FY p3 hsh,if_neg hw]
     exact hL
    ·rw[wanted_put oi a oj.dst undef p3,if_neg hw,Act.put_comm a undef undef p2']
     exact g2 hwj
end main
end
end
section
section
variable {P:Program} {ops:Array Oper} {md:Region.Mode} {kd bs:Nat→Nat} {w0:World} {Q:Act→World→Prop}
theorem HI {o:Oper}{a:Act}{w:World}{K:Act→World→Prop}{Q':Exit→Act→World→Prop}(h:o.wp P a w K (NQ fun _ _=>False)):o.wp P a w K Q':=by
 unfold Oper.wp at *
 generalize (execOp a.eval o).run P w=r at *
 cases r with
 |ok n w' =>
  cases n <;> simp only[Oper.upon]at h ⊢ <;> try exact h
  case enter f args =>
   refine Calls.mono h fun e w'' he=>?_
   cases e with
   |returned u=>exact he
   |panicked c=>exact he.elim
   |outgrown=>obtain⟨_,_,hf⟩:=he;exact hf.elim
 |halt x w'=>cases x <;> simp only[Oper.upon]at h ⊢;exact h.elim
theorem Iv {o:Oper}{a:Act}{w:World}{v:Value}{K:Act→World→Prop}{Q':Exit→Act→World→Prop}(h:YA P o a w v)(hK:K (a.put o.dst v) w):o.wp P a w K Q':=by
 unfold Oper.wp
 unfold YA at h
 rcases h with h|⟨h,rfl⟩|⟨f,args,h,hc⟩ <;> rw[h]
 ·exact hK
 ·exact hK
 ·exact Calls.mono hc fun e w' he=>by
   obtain⟨rfl,rfl⟩:=he
   exact hK
def JM (bs:Nat→Nat)(listed:Array Bool):Prop:=∀i,listed.getD i false=true→∀j,(bs i).testBit j=true→listed.getD j false=true
theorem Df {l:Array Bool}{i:Nat}(h:l.getD i true=false):l.getD i false=false:=by
 by_cases hi:i<l.size
 ·simpa [hi]using h
 ·simp[hi]at h
def CZ (md:Region.Mode)(ops:Array Oper)(kd bs:Nat→Nat)(x y:Nat):Prop :=
 (∀ox oy,ops[x]? = some ox→ops[y]? = some oy→(bs y).testBit x=true∨(ox.apart ops oy=true∧D6 (kd x) (kd y)=true)) ∧
 (∀ox,ops[x]? = some ox→∀e∈ox.after,Region.binds md e=true→e.on≠y)
section lists
variable {l1 l2:List Nat} {i:Nat} {listed:Array Bool}
theorem HJ (hz:listed.size=ops.size){l:List Nat}(hm:∀x,x∈i::l↔listed.getD x true=false)(hself:∀x ox,ops[x]? = some ox→∀e∈ox.after,Region.binds md e=true→e.on<x)
  (hs:∀y∈l,∀ox,ops[i]? = some ox→∀e∈ox.after,Region.binds md e=true→e.on≠y):i∈Region.ready md ops listed:=by
 have hil:=(hm i).1 (z0 ..)
 have hlt:i<ops.size:=by
  rw[← hz]
  rcases Nat.lt_or_ge i listed.size with h'|h'
  ·exact h'
  ·simp[Array.getElem?_eq_none h']at hil
 refine mem_ready.2 ⟨hil,ops[i],by simp[hlt],fun e he hb=>?_⟩
 have hlt':=hself i ops[i] (by simp[hlt]) e he hb
 have hnot:e.on∉i::l:=by
  intro hmem
  rcases ze.1 hmem with hh|hh
  ·omega
  ·exact hs _ hh ops[i] (by simp[hlt]) e he hb rfl
 have:listed.getD e.on true=true:=by
  cases hb':listed.getD e.on true with
  |true=>rfl
  |false=>exact absurd ((hm e.on).2 hb') hnot
 have hlt2:e.on<listed.size:=by omega
 simpa [hlt2]using this
theorem EU (hm:∀x,x∈l1++i::l2↔listed.getD x true=false)(hnd:i∉l1++l2)(hsz:i<listed.size):∀x,x∈l1++l2↔(listed.setIfInBounds i true).getD x true=false:=by
 intro x
 by_cases hxi:x=i
 ·subst hxi
  constructor
  ·exact fun hh=>absurd hh hnd
  ·intro hh;simp[hsz]at hh
 ·rw[getD_set_ne true (Ne.symm hxi),← hm x]
  simp only[zi,ze]
  constructor
  ·exact fun hh=>hh.elim .inl fun y=>.inr<|.inr y
  ·exact fun hh=>hh.elim .inl fun y=>y.elim (fun z=>absurd z hxi) .inr
theorem Ef (hc:JM bs listed)(hbits:∀j,(bs i).testBit j=true→listed.getD j false=true):JM bs (listed.setIfInBounds i true):=by
 intro x hx j hj
 by_cases hxi:x=i
 ·subst hxi;exact getD_set_true (hbits j hj)
 ·rw[getD_set_ne false (Ne.symm hxi)]at hx;exact getD_set_true (hc x hx j hj)
theorem E4 (hS:LP md ops bs)(hc:JM bs listed){oi:Oper}(hoi:ops[i]? = some oi)(hall:∀e∈oi.after,Region.binds md e=true→listed.getD e.on false=true):∀j,(bs i).testBit j=true→listed.getD j false=true:=by
 intro j hj
 obtain⟨e,he,hb,hh⟩:=hS i oi hoi j hj
 have hl:=hall e he hb
 rcases hh with rfl|hh
 ·exact hl
 ·exact hc e.on hl j hh
theorem De {oi:Oper}(hoi:ops[i]? = some oi)(hp:∀x∈l1,(∀ox oy,ops[x]? = some ox→ops[i]? = some oy→(bs i).testBit x=true∨(ox.apart ops oy=true∧D6 (kd x) (kd i)=true)))
  (hm:∀x∈l1,listed.getD x true=false) (hbits:∀j,(bs i).testBit j=true→listed.getD j false=true):∀x∈l1,∀ox,ops[x]? = some ox→ox.apart ops oi=true∧D6 (kd x) (kd i)=true:=by
 intro x hx ox hox
 rcases hp x hx ox oi hox hoi with hb|hb
 ·have h1:=hbits x hb
  have h2:=Df<|hm x hx
  rw[h1]at h2;cases h2
 ·exact hb
theorem CJ (h:listed.getD i true=false):i<listed.size:=by
 rcases Nat.lt_or_ge i listed.size with h'|h'
 ·exact h'
 ·simp[Array.getElem?_eq_none h']at h
end lists
theorem Em (hsel:∀(j:Nat)(o:Oper) cs b,ops[j]? = some o→o.op≠.select cs b)(hS:LP md ops bs)
  (hlex:∀j oj,ops[j]? = some oj→∀e∈oj.after,Region.binds md e=true→e.on<j) :
  ∀(n:Nat) (l:List Nat) (listed:Array Bool) (a:Act) (w:World),l.length=n→l.Pairwise (CZ md ops kd bs)→l.Nodup→listed.size=ops.size →
   (∀i,i∈l↔listed.getD i true=false)→JM bs listed→JL kd l→L8 kd w0 w l→LI P ops kd w0 Q l a w→wpAny P md ops (NQ Q) n listed a w
 |0,l,listed,a,w,hn,_,_,_,hm,_,_,_,h=>by
  have hl:l=[]:=List.eq_nil_of_length_eq_zero hn
  subst hl
  refine⟨?_,h⟩
  cases hr:Region.ready md ops listed with
  |nil=>rfl
  |cons x xs =>
   have:=(mem_ready.1 (by rw[hr];exact z0 ..:x∈Region.ready md ops listed)).1
   exact absurd ((hm x).2 this) (by simp)
 |n+1,l,listed,a,w,hn,hs,hd,hz,hm,hc,h14,hi1,h=>by
  refine⟨fun h0=>?_,fun i hi=>?_⟩
  ·exfalso
   match l,hn with
   |i::l,hn =>
    have hready:=HJ (md:=md) hz hm hlex fun y hy ox hox=>((List.pairwise_cons.1 hs).1 y hy).2 ox hox
    rw[h0]at hready
    cases hready
  ·obtain⟨hun,oi,hoi,hall⟩:=mem_ready.1 hi
   obtain⟨l1,l2,rfl⟩:=List.append_of_mem ((hm i).2 hun)
   have hbits:=E4 hS hc hoi hall
   have hpi:∀x∈l1,CZ md ops kd bs x i:=fun x hx=>(List.pairwise_append.1 hs).2.2 x hx i (z0 ..)
   have hfree:=De (kd:=kd) (l1:=l1) hoi (fun x hx=>(hpi x hx).1) (fun x hx=>(hm x).1 (z8 _ hx)) hbits
   have hsz:=CJ hun
   have hsub0:(l1++l2).Sublist (l1++i::l2):=List.Sublist.append_left (List.sublist_cons_self _ _) _
   have hnd:i∉l1++l2:=by
    have h1:=List.nodup_append.1 hd
    intro hmem
    rcases zi.1 hmem with hh|hh
    ·exact h1.2.2 i hh i (z0 ..) rfl
    ·exact (List.nodup_cons.1 h1.2.1).1 hh
   have hn':(l1++l2).length=n:=by simp at hn ⊢;omega
   have rec_:∀a' w',L8 kd w0 w' (l1++l2)→LI P ops kd w0 Q (l1++l2) a' w'→wpAny P md ops (NQ Q) n (listed.setIfInBounds i true) a' w':=fun a' w' hi' hL =>
    Em hsel hS hlex n (l1++l2) _ a' w' hn' (hs.sublist hsub0) (hd.sublist hsub0) (by simpa using hz) (EU hm hnd hsz) (Ef hc hbits) (JL.erase h14) hi' hL
   have hsub:L8 kd w0 w (l1++l2):=fun⟨j,hj,hk⟩=>hi1 ⟨j,hsub0.subset hj,hk⟩
   by_cases hk:kd i≤2
   ·obtain⟨v,hv,hL⟩:=Ia hsel hoi hk l1 l2 a w hfree (fun h1=>hi1 ⟨i,by simp,h1⟩) h
    unfold wpOp
    rw[hoi]
    rcases hv with⟨hw,hy⟩|⟨hw,rfl⟩
    ·simp only[hw,if_true]
     exact .inl<|Iv (hy w (Cl.self fun h1=>hi1 ⟨i,by simp,h1⟩))<|rec_ _ _ hsub hL
    ·simp only[hw,Bool.false_eq_true,if_false]
     exact rec_ _ _ hsub hL
   ·obtain⟨g1,g2⟩:=Jt hsel hoi zO l1 l2 a w hfree h
    unfold wpOp
    rw[hoi]
    by_cases hw:Region.wanted oi (yielded ops a.tmps)=true
    ·simp only[hw,if_true]
     refine .inl<|Oper.wp_mono (fun a' w' hK=>rec_ a' w' ?_ hK.2)<|HI<|g1 hw
     rintro⟨j,hj,hkj⟩
     by_cases h3:kd i=3
     ·exact (hsub ⟨j,hj,hkj⟩).trans<|hK.1 h3
     ·exfalso
      rcases zi.1 hj with hh|hh
      ·obtain⟨oj,hoj⟩:∃oj,ops[j]? = some oj:=by
        have:=CJ ((hm j).1 (z8 _ hh))
        exact⟨ops[j]'(by omega),by simp[show j<ops.size by omega]⟩
       have:=(nL (hfree j hh oj hoj).2 zO).2 zO
       omega
      ·exact h14 l1 i l2 rfl zO j hh hkj
    ·simp only[hw,Bool.false_eq_true,if_false]
     exact rec_ _ _ hsub<|g2 (by simpa using hw)
def Zm (i j:Nat)(l1 l2:List Nat):Prop:=∃A M C,l1=A++i::(M++j::C)∧l2=A++(M++j::i::C)
theorem Zm.split {i j x:Nat}{l1 l2:List Nat}(h:Zm i j l1 l2)(hx:x∈l1)(hi:x≠i)(hj:x≠j):∃P1 S1 P2 S2,l1=P1++x::S1∧l2=P2++x::S2∧Zm i j (P1++S1) (P2++S2):=by
 obtain⟨A,M,C,rfl,rfl⟩:=h
 simp only[zi,ze]at hx
 rcases hx with hx|hx|hx|hx|hx
 ·obtain⟨A1,A2,rfl⟩:=List.append_of_mem hx
  exact⟨A1,A2++i::(M++j::C),A1,A2++(M++j::i::C),by simp,by simp,A1++A2,M,C,by simp,by simp⟩
 ·exact absurd hx hi
 ·obtain⟨M1,M2,rfl⟩:=List.append_of_mem hx
  exact⟨A++i::M1,M2++j::C,A++M1,M2++j::i::C,by simp,by simp,A,M1++M2,C,by simp,by simp⟩
 ·exact absurd hx hj
 ·obtain⟨C1,C2,rfl⟩:=List.append_of_mem hx
  exact⟨A++i::(M++j::C1),C2,A++(M++j::i::C1),C2,by simp,by simp,A,M,C1++C2,by simp,by simp⟩
theorem Zm.mem {i j x:Nat}{l1 l2:List Nat}(h:Zm i j l1 l2):x∈l2↔x∈l1:=by
 obtain⟨A,M,C,rfl,rfl⟩:=h
 simp only[zi,ze]
 constructor
 ·rintro(h|h|h|h|h)
  ·exact .inl h
  ·exact .inr<|.inr<|.inl h
  ·exact .inr<|.inr<|.inr<|.inl h
  ·exact .inr<|.inl h
  ·exact .inr<|.inr<|.inr<|.inr h
 ·rintro(h|h|h|h|h)
  ·exact .inl h
  ·exact .inr<|.inr<|.inr<|.inl h
  ·exact .inr<|.inl h
  ·exact .inr<|.inr<|.inl h
  ·exact .inr<|.inr<|.inr<|.inr h
theorem Zm.nodup {i j:Nat}{l1 l2:List Nat}(h:Zm i j l1 l2)(hd:l1.Nodup):l2.Nodup:=by
 obtain⟨A,M,C,rfl,rfl⟩:=h
 refine (List.Perm.nodup_iff<|List.Perm.append_left A ?_).1 hd
 have h1:List.Perm (i::(M++j::C)) (M++i::j::C):=List.perm_middle.symm
 exact h1.trans<|List.Perm.append_left M (List.Perm.swap ..)
theorem FZ {i:Nat}{l1 l2:List Nat}(hd:(l1++i::l2).Nodup):i∉l1++l2:=by
 have h1:=List.nodup_append.1 hd
 intro hmem
 rcases zi.1 hmem with hh|hh
 ·exact h1.2.2 i hh i (z0 ..) rfl
 ·exact (List.nodup_cons.1 h1.2.1).1 hh
theorem MG (hsel:∀(j:Nat)(o:Oper) cs b,ops[j]? = some o→o.op≠.select cs b)(hS:LP md ops bs)
  (hlex:∀j oj,ops[j]? = some oj→∀e∈oj.after,Region.binds md e=true→e.on<j) {i j:Nat} (hij:i<j) (hki:kd i=3) (hkj:kd j=3) :
  ∀(n:Nat) (l1 l2:List Nat) (listed:Array Bool) (a:Act) (w:World),Zm i j l1 l2→l1.length=n→l1.Pairwise (fun x y=>(x=i∧y=j)∨CZ md ops kd bs x y)→l2.Pairwise (fun x y=>(x=j∧y=i)∨CZ md ops kd bs x y)→l1.Nodup→listed.size=ops.size →
   (∀x,x∈l1↔listed.getD x true=false)→JM bs listed→(∀x∈l1,3≤kd x→x=i∨x=j∨(bs x).testBit i=true)→JL kd l1→JL kd l2→L8 kd w0 w l1→LI P ops kd w0 Q l1 a w→LI P ops kd w0 Q l2 a w→wpAny P md ops (NQ Q) n listed a w
 |0,l1,l2,listed,a,w,hT,hn,_,_,_,_,_,_,_,_,_,_,_,_=>by
  obtain⟨A,M,C,rfl,_⟩:=hT
  simp at hn
 |n+1,l1,l2,listed,a,w,hT,hn,hs1,hs2,hd,hz,hm,hc,hwt,h14,h14',hi1,h1,h2=>by
  refine⟨fun h0=>?_,fun x hx=>?_⟩
  ·exfalso
   match l1,hn with
   |y::l,hn =>
    have hready:=HJ (md:=md) hz hm hlex (fun z hz' ox hox e he hb=>by
     rcases(List.pairwise_cons.1 hs1).1 z hz' with⟨rfl,rfl⟩|hh
     ·have:=hlex y ox hox e he hb;omega
     ·exact hh.2 ox hox e he hb)
    rw[h0]at hready
    cases hready
  ·obtain⟨hun,ox,hox,hall⟩:=mem_ready.1 hx
   have hxm:=(hm x).2 hun
   have hbits:=E4 hS hc hox hall
   have hsz:=CJ hun
   have hd2:=hT.nodup hd
   have hm2:∀y,y∈l2↔listed.getD y true=false:=fun y=>hT.mem.trans (hm y)
   unfold wpOp
   rw[hox]
   by_cases hxi:x=i
   ·subst hxi
    obtain⟨A,M,C,rfl,_⟩:=hT
    have hnd:=FZ hd
    have hp:∀y∈A,CZ md ops kd bs y x:=fun y hy=>by
     rcases(List.pairwise_append.1 hs1).2.2 y hy x (z0 ..)with⟨rfl,_⟩|hh
     ·exact absurd (z8 _ hy) hnd
     ·exact hh
    have hfree:=De (kd:=kd) (l1:=A) hox (fun y hy=>(hp y hy).1) (fun y hy=>(hm y).1 (z8 _ hy)) hbits
    have hsub0:(A++(M++j::C)).Sublist (A++x::(M++j::C)):=List.Sublist.append_left (List.sublist_cons_self _ _) _
    have hpw:(A++(M++j::C)).Pairwise (CZ md ops kd bs):=(hs1.sublist hsub0).imp_of_mem fun {y z} hy hz' hh=>hh.elim (fun e=>absurd (e.1 ▸ hy) hnd) id
    have rec_:∀a' w',L8 kd w0 w' (A++(M++j::C))→LI P ops kd w0 Q (A++(M++j::C)) a' w'→wpAny P md ops (NQ Q) n (listed.setIfInBounds x true) a' w':=fun a' w' hi' hL =>
     Em hsel hS hlex n _ _ a' w' (by simp at hn ⊢;omega) hpw (hd.sublist hsub0) (by simpa using hz) (EU hm hnd hsz) (Ef hc hbits) (JL.erase h14) hi' hL
    have hsub:L8 kd w0 w (A++(M++j::C)):=fun⟨y,hy,hk⟩=>hi1 ⟨y,hsub0.subset hy,hk⟩
    obtain⟨g1,g2⟩:=Jt hsel hox zO A (M++j::C) a w hfree h1
    by_cases hw:Region.wanted ox (yielded ops a.tmps)=true
    ·simp only[hw,if_true]
     exact .inl<|Oper.wp_mono (fun a' w' hK=>rec_ a' w' (fun hh=>(hsub hh).trans<|hK.1 hki) hK.2)<|HI<|g1 hw
    ·simp only[hw,Bool.false_eq_true,if_false]
     exact rec_ _ _ hsub<|g2 (by simpa using hw)
   ·by_cases hxj:x=j
    ·subst hxj
     obtain⟨A,M,C,hl1,rfl⟩:=hT
     have el2:A++(M++x::i::C)=(A++M)++x::(i::C):=by simp
     rw[el2]at hs2 hd2 hm2 h14' h2
     have hnd:=FZ hd2
     have hp:∀y∈A++M,CZ md ops kd bs y x:=fun y hy=>by
      rcases(List.pairwise_append.1 hs2).2.2 y hy x (z0 ..)with⟨rfl,_⟩|hh
      ·exact absurd (z8 _ hy) hnd
      ·exact hh
     have hfree:=De (kd:=kd) (l1:=A++M) hox (fun y hy=>(hp y hy).1) (fun y hy=>(hm2 y).1 (z8 _ hy)) hbits
     have hsub0:((A++M)++(i::C)).Sublist ((A++M)++x::(i::C)):=List.Sublist.append_left (List.sublist_cons_self _ _) _
     have hpw:((A++M)++(i::C)).Pairwise (CZ md ops kd bs):=(hs2.sublist hsub0).imp_of_mem fun {y z} hy hz' hh=>hh.elim (fun e=>absurd (e.1 ▸ hy) hnd) id
     have rec_:∀a' w',L8 kd w0 w' ((A++M)++(i::C))→LI P ops kd w0 Q ((A++M)++(i::C)) a' w'→wpAny P md ops (NQ Q) n (listed.setIfInBounds x true) a' w':=fun a' w' hi' hL =>
      Em hsel hS hlex n _ _ a' w' (by rw[hl1]at hn;simp at hn ⊢;omega) hpw (hd2.sublist hsub0) (by simpa using hz) (EU hm2 hnd hsz) (Ef hc hbits) (JL.erase h14') hi' hL
     have hsub:L8 kd w0 w ((A++M)++(i::C)):=fun⟨y,hy,hk⟩=>hi1 ⟨y,(hm y).2 ((hm2 y).1 (hsub0.subset hy)),hk⟩
     obtain⟨g1,g2⟩:=Jt hsel hox zO (A++M) (i::C) a w hfree h2
     by_cases hw:Region.wanted ox (yielded ops a.tmps)=true
     ·simp only[hw,if_true]
      exact .inl<|Oper.wp_mono (fun a' w' hK=>rec_ a' w' (fun hh=>(hsub hh).trans<|hK.1 hkj) hK.2)<|HI<|g1 hw
     ·simp only[hw,Bool.false_eq_true,if_false]
      exact rec_ _ _ hsub<|g2 (by simpa using hw)
    ·have hk:kd x≤2:=by
      rcases Nat.lt_or_ge (kd x) 3 with hh|hh
      ·omega
      ·exfalso
       rcases hwt x hxm hh with hh|hh|hh
       ·exact hxi hh
       ·exact hxj hh
       ·have e1:=hbits i hh
        have e2:i∈l1:=by obtain⟨A,M,C,rfl,_⟩:=hT;simp
        have e3:=Df ((hm i).1 e2)
        rw[e1]at e3;cases e3
     obtain⟨P1,S1,P2,S2,rfl,rfl,hT'⟩:=hT.split hxm hxi hxj
     have hnd1:=FZ hd
     have hnd2:=FZ hd2
     have hp1:∀y∈P1,CZ md ops kd bs y x:=fun y hy=>by
      rcases(List.pairwise_append.1 hs1).2.2 y hy x (z0 ..)with⟨_,e⟩|hh
      ·exact absurd e hxj
      ·exact hh
     have hp2:∀y∈P2,CZ md ops kd bs y x:=fun y hy=>by
      rcases(List.pairwise_append.1 hs2).2.2 y hy x (z0 ..)with⟨_,e⟩|hh
      ·exact absurd e hxi
      ·exact hh
     have hf1:=De (kd:=kd) (l1:=P1) hox (fun y hy=>(hp1 y hy).1) (fun y hy=>(hm y).1 (z8 _ hy)) hbits
     have hf2:=De (kd:=kd) (l1:=P2) hox (fun y hy=>(hp2 y hy).1) (fun y hy=>(hm2 y).1 (z8 _ hy)) hbits
     have hcl:kd x=1→AB w0 w:=fun h1=>hi1 ⟨x,by simp,h1⟩
     obtain⟨v,hv,hL1⟩:=Ia hsel hox hk P1 S1 a w hf1 hcl h1
     obtain⟨v',hv',hL2⟩:=Ia hsel hox hk P2 S2 a w hf2 hcl h2
     have hvv:v'=v:=Yv.unique hcl hv' hv
     subst hvv
     have hsb1:(P1++S1).Sublist (P1++x::S1):=List.Sublist.append_left (List.sublist_cons_self _ _) _
     have hsb2:(P2++S2).Sublist (P2++x::S2):=List.Sublist.append_left (List.sublist_cons_self _ _) _
     have hfin:=MG hsel hS hlex hij hki hkj n (P1++S1) (P2++S2) (listed.setIfInBounds x true) (a.put ox.dst v') w hT' (by simp at hn ⊢;omega) (hs1.sublist hsb1) (hs2.sublist hsb2) (hd.sublist hsb1) (by simpa using hz)
      (EU hm hnd1 hsz) (Ef hc hbits) (fun y hy=>hwt y (hsb1.subset hy)) (JL.erase h14) (JL.erase h14') (fun⟨y,hy,hk⟩=>hi1 ⟨y,hsb1.subset hy,hk⟩) hL1 hL2
     rcases hv with⟨hw,hy⟩|⟨hw,rfl⟩
     ·simp only[hw,if_true]
      exact .inl<|Iv (hy w<|Cl.self hcl) hfin
     ·simp only[hw,Bool.false_eq_true,if_false]
      exact hfin
theorem Hf (ks:List Nat):∀(os:List Oper)(k:Nat)(a:Act)(w:World),(∀j,os[j]? = ops[k+j]?) →
  LW P ops w0 Q os (ks.drop k) a w→LI P ops (fun i=>ks.getD i 0) w0 Q (List.range' k os.length) a w
 |[],_,_,_,_,h=>by simpa [LI,LW]using h
 |o::os,k,a,w,ho,h=>by
  have h0:ops[k]? = some o:=by simpa using (ho 0).symm
  have hr:∀a w,LW P ops w0 Q os (ks.drop (k+1)) a w→LI P ops (fun i=>ks.getD i 0) w0 Q (List.range' (k+1) os.length) a w:=fun a w hh =>
   Hf ks os (k+1) a w (fun j=>by have:=ho (j+1);simpa [Nat.add_assoc,Nat.add_comm 1 j]using this) hh
  have hlt:k<ks.length:=by
   rcases Nat.lt_or_ge k ks.length with hh|hh
   ·exact hh
   ·rw[List.drop_of_length_le hh]at h;exact h.elim
  have hd:ks.drop k=ks[k]::ks.drop (k+1):=List.drop_eq_getElem_cons hlt
  rw[hd]at h
  simp only[z9,List.range'_succ,LI,h0,LW]at h ⊢
  have hg:ks.getD k 0=ks[k]:=by simp[hlt]
  split
  ·rename_i hw
   rw[if_pos hw]at h
   rw[hg]
   exact h.mono hr
  ·rename_i hw
   rw[if_neg hw]at h
   exact hr _ _ h
def nM (ops:Array Oper)(ks:List Nat):Bool :=
  let b:=(Region.before ops).toList
  let os:=ops.toList
  Region.noSelect ops &&
  (os.zipIdx.all fun(o,j) =>
    (o.after.all fun e=>!Region.binds .any e || decide (e.on<j)) &&
    (let m:=o.after.foldl (fun s e=>if Region.binds .any e then s ||| 2 ^ e.on ||| b.getD e.on 0 else s) 0
     (b.getD j 0 == m)) &&
    (os.zipIdx.all fun(p,i)=>!(decide (i<j)) || (b.getD j 0).testBit i || (p.apart ops o && D6 (ks.getD i 0) (ks.getD j 0)))) &&
  (os.zipIdx.all fun(_,i)=>!(decide (4≤ks.getD i 0)) || os.zipIdx.all fun(_,j)=>!(decide (i<j)) || ks.getD j 0 != 1)
theorem Gh (f:Edge→Nat):∀(l:List Edge)(s:Nat)(i:Nat),(l.foldl (fun s e=>if Region.binds .any e then s ||| 2 ^ e.on ||| f e else s) s).testBit i=true →
  s.testBit i=true∨∃e∈l,Region.binds .any e=true∧(i=e.on∨(f e).testBit i=true)
 |[],s,i,h=>.inl h
 |e::l,s,i,h=>by
  rcases Gh f l _ i h with h|⟨x,hx,hb⟩
  ·dsimp only at h
   split at h
   ·rename_i hb
    simp only[Nat.testBit_or,Bool.or_eq_true]at h
    rcases h with(h|h)|h
    ·exact .inl h
    ·refine .inr ⟨e,z0 ..,hb,.inl ?_⟩
     simp[Nat.testBit_two_pow]at h
     exact h.symm
    ·exact .inr ⟨e,z0 ..,hb,.inr h⟩
   ·exact .inl h
  ·exact .inr ⟨x,z3 _ hx,hb⟩
theorem HK {os:List Oper}{Q:Exit→Act→World→Prop}:∀(n:Nat)(listed:Array Bool)(a:Act)(w:World),wpAny P .any os.toArray (NQ fun a w=>Q .normal a w) n listed a w→wpAny P .any os.toArray Q n listed a w:=by
 intro n
 induction n with
 |zero=>exact fun listed a w h=>h
 |succ n ih =>
  intro listed a w h
  refine⟨h.1,fun i hi=>?_⟩
  have:=wpOp_mono (fun a w=>ih _ a w) (h.2 i hi)
  unfold wpOp at this ⊢
  split
  ·rename_i ho;rw[ho]at this;exact this
  ·rename_i o ho
   rw[ho]at this
   split
   ·rename_i hw
    simp only[hw,if_true]at this
    rcases this with this|⟨_,_,_,hf⟩
    ·left
     unfold Oper.wp at *
     generalize (execOp a.eval o).run P w=r at *
     cases r with
     |ok m w' =>
      cases m <;> simp only[Oper.upon]at this ⊢ <;> try exact this
      case enter f args =>
       refine Calls.mono this fun e w'' he=>?_
       cases e with
       |returned u=>exact he
       |panicked c=>exact he.elim
       |outgrown=>obtain⟨_,_,hf⟩:=he;exact hf.elim
     |halt x w'=>cases x <;> simp only[Oper.upon]at this ⊢;exact this.elim
    ·exact hf.elim
   ·rename_i hw
    simp only[hw]at this
    exact this
theorem Km {md:Region.Mode}(hF:f6 ops kd bs)(hlex:∀j oj,ops[j]? = some oj→∀e∈oj.after,Region.binds md e=true→e.on<j){l:List Nat}(h:l.Pairwise (· < ·)):l.Pairwise (CZ md ops kd bs) :=
 h.imp fun {x y} hxy=>⟨fun ox oy hox hoy=>hF x y ox oy hxy hox hoy,fun ox hox e he hb=>by have:=hlex x ox hox e he hb;omega⟩
theorem AW {id:Nat}{Q:Exit→Act→World→Prop}{a:Act}{w:World}(os:List Oper)(ks:List Nat)(hm:P.follows .mixedOrders=true)(hB:nM os.toArray ks=true)
  (h:LW P os.toArray w.drew (fun a w=>Q .normal a w) os ks a w.drew):(Code.region id os.toArray true).wp P Q a w:=by
 refine wp_region_any hm ?_
 simp only[nM,z7]at hB
 obtain⟨⟨hsel,hpl⟩,h14⟩:=hB
 have hz:∀ {j:Nat} {o:Oper},os.toArray[j]? = some o→(o,j)∈os.toArray.toList.zipIdx:=by
  intro j o ho
  rw[List.mem_zipIdx_iff_getElem?]
  simpa using ho
 have hall:∀j oj,os.toArray[j]? = some oj→_:=fun j oj hj=>zm.1 hpl _ (hz hj)
 have hF:f6 os.toArray (fun i=>ks.getD i 0) (fun j=>(Region.before os.toArray).toList.getD j 0):=by
  intro i j oi oj hij hi hj
  have h3:=(z7 _ _ ▸ hall j oj hj:_∧_).2
  have h4:=zm.1 h3 _<|hz hi
  simp only[Bool.or_eq_true,Bool.not_eq_true',decide_eq_false_iff_not,z7]at h4
  rcases h4 with(h4|h4)|h4
  ·exact absurd hij h4
  ·exact .inl h4
  ·exact .inr h4
 have hlex:∀j oj,os.toArray[j]? = some oj→∀e∈oj.after,Region.binds .any e=true→e.on<j:=by
  intro j oj hj e he hb
  have h1:=(z7 _ _ ▸ (z7 _ _ ▸ hall j oj hj:_∧_).1:_∧_).1
  have h2:=(Array.all_eq_true_iff_forall_mem.1 h1) e he
  simpa [hb]using h2
 have key:=Em (P:=P) (ops:=os.toArray) (md:=.any) (kd:=fun i=>ks.getD i 0) (bs:=fun j=>(Region.before os.toArray).toList.getD j 0) (w0:=w.drew) (Q:=fun a w=>Q .normal a w)
  (Region.noSelect_spec hsel) ?_ ?_ os.length (List.range' 0 os.length) (Array.replicate os.length false) a w.drew (by simp) ?_ List.nodup_range' (by simp) ?_ ?_ ?_ (fun _=>AB.refl _) ?_
 ·have:=HK _ _ _ _ key
  simpa using this
 ·intro j oj hj i hb
  have h3:=(z7 _ _ ▸ (z7 _ _ ▸ hall j oj hj:_∧_).1:_∧_).2
  have h5:(Region.before os.toArray).toList.getD j 0=oj.after.foldl (fun s e=>if Region.binds .any e then s ||| 2 ^ e.on ||| (Region.before os.toArray).toList.getD e.on 0 else s) 0:=by simpa using h3
  dsimp only at hb
  rw[h5,← Array.foldl_toList]at hb
  rcases Gh _ _ _ _ hb with hb|⟨e,he,hbb,hh⟩
  ·simp at hb
  ·exact⟨e,Array.mem_toList_iff.1 he,hbb,hh⟩
 ·exact hlex
 ·exact Km hF hlex List.pairwise_lt_range'
 ·intro i
  simp only[List.mem_range',Nat.zero_add,Nat.one_mul]
  constructor
  ·rintro⟨x,hx,rfl⟩;simp[hx]
  ·intro hh
   rcases Nat.lt_or_ge i os.length with h'|h'
   ·exact⟨i,h',rfl⟩
   ·simp[Array.getElem?_eq_none (show(Array.replicate os.length false).size≤i by simpa using h')]at hh
 ·intro i hi
  rcases Nat.lt_or_ge i os.length with h'|h'
  ·simp[h']at hi
  ·simp[Array.getElem?_eq_none (show(Array.replicate os.length false).size≤i by simpa using h')]at hi
 ·intro l1 i l2 hl hk j hj
  have hs:(l1++i::l2).Pairwise (· < ·):=hl ▸ List.pairwise_lt_range'
  have hij:i<j:=List.rel_of_pairwise_cons (List.pairwise_append.1 hs).2.1 hj
  have mem:∀x∈l1++i::l2,x<os.length:=by
   intro x hx
   rw[← hl]at hx
   simp only[List.mem_range',Nat.zero_add,Nat.one_mul]at hx
   obtain⟨y,hy,rfl⟩:=hx
   exact hy
  have hi:=mem i (by simp)
  have hj':=mem j (by simp[hj])
  have h1:=zm.1 h14 _<|hz (j:=i) (o:=os[i]) (by simp[hi])
  simp only[Bool.or_eq_true,Bool.not_eq_true',decide_eq_false_iff_not]at h1
  rcases h1 with h1|h1
  ·exact absurd hk h1
  ·have h2:=zm.1 h1 _<|hz (j:=j) (o:=os[j]) (by simp[hj'])
   simp only[Bool.or_eq_true,Bool.not_eq_true',decide_eq_false_iff_not]at h2
   rcases h2 with h2|h2
   ·exact absurd hij h2
   ·simpa using h2
 ·exact Hf ks os 0 a w.drew (by simp) (by simpa using h)
def Mt (ops:Array Oper)(kd:Nat→Nat):List Nat→List Oper→List Nat→Prop
 |[],[],_=>True
 |x::l,o::os,k::ks=>ops[x]? = some o∧kd x=k∧Mt ops kd l os ks
 |_,_,_=>False
theorem DQ:∀(l:List Nat)(os:List Oper)(ks:List Nat)(a:Act)(w:World),Mt ops kd l os ks→LW P ops w0 Q os ks a w→LI P ops kd w0 Q l a w
 |[],[],_,_,_,_,h=>by simpa [LI,LW]using h
 |x::l,o::os,k::ks,a,w,⟨h0,hk,hM⟩,h=>by
  have hr:∀a w,LW P ops w0 Q os ks a w→LI P ops kd w0 Q l a w:=fun a w hh=>DQ l os ks a w hM hh
  simp only[LI,h0,LW]at h ⊢
  split
  ·rename_i hw
   rw[if_pos hw]at h
   rw[hk]
   exact h.mono hr
  ·rename_i hw
   rw[if_neg hw]at h
   exact hr _ _ h
 |[],_::_,_,_,_,h,_=>h.elim
 |_::_,[],_,_,_,h,_=>h.elim
 |_::_,_::_,[],_,_,h,_=>h.elim
def Hg (ops:Array Oper)(ks b:List Nat)(x y:Nat):Bool :=
 match ops[x]?,ops[y]? with
 |some ox,some oy=>((b.getD y 0).testBit x || (ox.apart ops oy && D6 (ks.getD x 0) (ks.getD y 0))) && ox.after.all fun e=>!Region.binds .any e || e.on != y
 |_,_=>false
def Qd (f:Nat→Nat→Bool):List Nat→Bool
 |[]=>true
 |x::l=>l.all (f x) && Qd f l
theorem Gj {f:Nat→Nat→Bool}{R:Nat→Nat→Prop}(hR:∀x y,f x y=true→R x y):∀ {l:List Nat},Qd f l=true→l.Pairwise R
 |[],_=>List.Pairwise.nil
 |x::l,h=>by
  simp only[Qd,z7,zm]at h
  exact List.pairwise_cons.2 ⟨fun y hy=>hR x y<|h.1 y hy,Gj hR h.2⟩
theorem Eg {ks b:List Nat}{x y:Nat}(h:Hg ops ks b x y=true):CZ .any ops (fun i=>ks.getD i 0) (fun j=>b.getD j 0) x y:=by
 unfold Hg at h
 split at h
 ·rename_i ox oy hx hy
  simp only[z7,Bool.or_eq_true]at h
  refine⟨fun ox' oy' hx' hy'=>?_,fun ox' hx' e he hb=>?_⟩
  ·rw[hx]at hx';rw[hy]at hy';cases hx';cases hy'
   exact h.1
  ·rw[hx]at hx';cases hx'
   have:=(Array.all_eq_true_iff_forall_mem.1 h.2) e he
   simpa [hb]using this
 ·cases h
theorem SF {ks:List Nat}{l:List Nat}(h:Qd (fun x y=>!(decide (4≤ks.getD x 0)) || ks.getD y 0 != 1) l=true):JL (fun i=>ks.getD i 0) l:=by
 have hp:=Gj (R:=fun x y=>4≤ks.getD x 0→ks.getD y 0≠1) (fun x y hxy h4=>by
  rcases Bool.or_eq_true_iff.1 hxy with hh|hh
  ·simp only[Bool.not_eq_true',decide_eq_false_iff_not]at hh;exact absurd h4 hh
  ·simpa using hh) h
 intro l1 i l2 hl hk j hj
 subst hl
 exact List.rel_of_pairwise_cons (List.pairwise_append.1 hp).2.1 hj hk
def Zn (i j n:Nat):List Nat:=List.range' 0 i++(List.range' (i+1) (j-i-1)++j::i::List.range' (j+1) (n-j-1))
theorem Ui {i j n:Nat}(hij:i<j)(hj:j<n):Zm i j (List.range' 0 n) (Zn i j n):=by
 refine⟨List.range' 0 i,List.range' (i+1) (j-i-1),List.range' (j+1) (n-j-1),?_,rfl⟩
 have e1:List.range' 0 n=List.range' 0 i++List.range' i (n-i):=by
  have:=List.range'_append_1 (s:=0) (m:=i) (n:=n-i)
  rw[Nat.zero_add]at this
  rw[this];congr 1;omega
 have e2:List.range' i (n-i)=i::List.range' (i+1) (n-i-1):=by
  rw[show n-i=(n-i-1)+1 from by omega,List.range'_succ];rfl
 have e3:List.range' (i+1) (n-i-1)=List.range' (i+1) (j-i-1)++List.range' j (n-j):=by
  have:=List.range'_append_1 (s:=i+1) (m:=j-i-1) (n:=n-j)
  rw[show i+1+(j-i-1)=j from by omega]at this
  rw[this];congr 1;omega
 have e4:List.range' j (n-j)=j::List.range' (j+1) (n-j-1):=by
  rw[show n-j=(n-j-1)+1 from by omega,List.range'_succ];rfl
 rw[e1,e2,e3,e4]
def jC (os:List Oper)(ks:List Nat)(i j:Nat):Bool :=
  let ops:=os.toArray
  let b:=(Region.before ops).toList
  let l1:=List.range' 0 os.length
  let l2:=Zn i j os.length
  Region.noSelect ops &&
  (os.zipIdx.all fun(o,j) =>
    (o.after.all fun e=>!Region.binds .any e || decide (e.on<j)) &&
    (let m:=o.after.foldl (fun s e=>if Region.binds .any e then s ||| 2 ^ e.on ||| b.getD e.on 0 else s) 0
     (b.getD j 0 == m))) &&
  Qd (fun x y=>(decide (x=i) && decide (y=j)) || Hg ops ks b x y) l1 &&
  Qd (fun x y=>(decide (x=j) && decide (y=i)) || Hg ops ks b x y) l2 &&
  (l1.all fun x=>!(decide (3≤ks.getD x 0)) || (decide (x=i) || (decide (x=j) || (b.getD x 0).testBit i))) &&
  Qd (fun x y=>!(decide (4≤ks.getD x 0)) || ks.getD y 0 != 1) l1 &&
  Qd (fun x y=>!(decide (4≤ks.getD x 0)) || ks.getD y 0 != 1) l2 &&
  (decide (ks.getD i 0=3) && (decide (ks.getD j 0=3) && (decide (i<j) && decide (j<os.length))))
theorem UX {id:Nat}{Q:Exit→Act→World→Prop}{a:Act}{w:World}(os:List Oper)(ks:List Nat)(i j:Nat)(l2:List Nat)(os2:List Oper)(ks2:List Nat)(hm:P.follows .mixedOrders=true)(hB:jC os ks i j=true)(hl:Zn i j os.length=l2)(hM:Mt os.toArray (fun i=>ks.getD i 0) l2 os2 ks2)
  (h:LW P os.toArray w.drew (fun a w=>Q .normal a w) os ks a w.drew) (h2:LW P os.toArray w.drew (fun a w=>Q .normal a w) os2 ks2 a w.drew):(Code.region id os.toArray true).wp P Q a w:=by
 refine wp_region_any hm ?_
 subst hl
 simp only[jC,z7,decide_eq_true_eq]at hB
 obtain⟨⟨⟨⟨⟨⟨⟨hsel,hpl⟩,hp1⟩,hp2⟩,hwt⟩,h141⟩,h142⟩,hki,hkj,hij,hj⟩:=hB
 have hz:∀ {j:Nat} {o:Oper},os.toArray[j]? = some o→(o,j)∈os.zipIdx:=by
  intro j o ho
  rw[List.mem_zipIdx_iff_getElem?]
  simpa using ho
 have hall:∀j oj,os.toArray[j]? = some oj→_:=fun j oj hj=>zm.1 hpl _ (hz hj)
 have hlex:∀j oj,os.toArray[j]? = some oj→∀e∈oj.after,Region.binds .any e=true→e.on<j:=by
  intro j oj hj e he hb
  have h1:=(z7 _ _ ▸ hall j oj hj:_∧_).1
  have h2:=(Array.all_eq_true_iff_forall_mem.1 h1) e he
  simpa [hb]using h2
 have hS:LP .any os.toArray (fun j=>(Region.before os.toArray).toList.getD j 0):=by
  intro j oj hj i hb
  have h3:=(z7 _ _ ▸ hall j oj hj:_∧_).2
  have h5:(Region.before os.toArray).toList.getD j 0=oj.after.foldl (fun s e=>if Region.binds .any e then s ||| 2 ^ e.on ||| (Region.before os.toArray).toList.getD e.on 0 else s) 0:=by simpa using h3
  dsimp only at hb
  rw[h5,← Array.foldl_toList]at hb
  rcases Gh _ _ _ _ hb with hb|⟨e,he,hbb,hh⟩
  ·simp at hb
  ·exact⟨e,Array.mem_toList_iff.1 he,hbb,hh⟩
 have key:=MG (P:=P) (ops:=os.toArray) (md:=.any) (kd:=fun i=>ks.getD i 0) (bs:=fun j=>(Region.before os.toArray).toList.getD j 0) (w0:=w.drew) (Q:=fun a w=>Q .normal a w)
  (Region.noSelect_spec hsel) hS hlex hij hki hkj os.length (List.range' 0 os.length) (Zn i j os.length) (Array.replicate os.length false) a w.drew (Ui hij hj) (by simp)
  (Gj (fun x y hh=>by
   rcases Bool.or_eq_true_iff.1 hh with hh|hh
   ·simp only[z7,decide_eq_true_eq]at hh;exact .inl hh
   ·exact .inr (Eg hh)) hp1)
  (Gj (fun x y hh=>by
   rcases Bool.or_eq_true_iff.1 hh with hh|hh
   ·simp only[z7,decide_eq_true_eq]at hh;exact .inl hh
   ·exact .inr (Eg hh)) hp2)
  List.nodup_range' (by simp) ?_ ?_ ?_ (SF h141) (SF h142) (fun _=>AB.refl _) (Hf ks os 0 a w.drew (by simp) (by simpa using h)) (DQ _ _ _ _ _ hM h2)
 ·have:=HK _ _ _ _ key
  simpa using this
 ·intro i
  simp only[List.mem_range',Nat.zero_add,Nat.one_mul]
  constructor
  ·rintro⟨x,hx,rfl⟩;simp[hx]
  ·intro hh
   rcases Nat.lt_or_ge i os.length with h'|h'
   ·exact⟨i,h',rfl⟩
   ·simp[Array.getElem?_eq_none (show(Array.replicate os.length false).size≤i by simpa using h')]at hh
 ·intro i hi
  rcases Nat.lt_or_ge i os.length with h'|h'
  ·simp[h']at hi
  ·simp[Array.getElem?_eq_none (show(Array.replicate os.length false).size≤i by simpa using h')]at hi
 ·intro x hx h3
  have:=zm.1 hwt x hx
  simp only[Bool.or_eq_true,Bool.not_eq_true',decide_eq_false_iff_not,decide_eq_true_eq]at this
  rcases this with hh|hh|hh|hh
  ·exact absurd h3 hh
  ·exact .inl hh
  ·exact .inr<|.inl hh
  ·exact .inr<|.inr hh
theorem Hh:∀(rest:List Oper)(ks:List Nat)(a:Act)(w:World)(Q:Exit→Act→World→Prop),(∀k∈ks,k≠1)→LW P ops w0 (fun a w=>Q .normal a w) rest ks a w→wpList P ops Q rest a w
 |[],_,_,_,_,_,h=>h
 |_::_,[],_,_,_,_,h=>h.elim
 |o::os,k::ks,a,w,Q,hk,h=>by
  have hk':∀x∈ks,x≠1:=fun x hx=>hk x (z3 _ hx)
  have hk1:=hk k (z0 ..)
  refine wpList_step fun K hK=>?_
  simp only[LW]at h
  split
  ·rename_i hw
   rw[if_pos hw]at h
   unfold BY at h
   split at h
   ·obtain⟨v,h1,h2⟩:=h
    exact Iv (h1 w (Cl.self fun hh=>absurd hh hk1))<|hK _ _<|Hh os ks _ _ Q hk' h2
   ·split at h
    ·exact Oper.wp_mono (fun a w hh=>hK _ _<|Hh os ks _ _ Q hk' hh.2)<|HI h
    ·exact Oper.wp_mono (fun a w hh=>hK _ _<|Hh os ks _ _ Q hk' hh)<|HI h
  ·rename_i hw
   rw[if_neg hw]at h
   exact hK _ _<|Hh os ks _ _ Q hk' h
theorem Ad {id:Nat}{Q:Exit→Act→World→Prop}{a:Act}{w:World}(os:List Oper)(ks:List Nat)(hk:ks.all (· != 1)=true)
  (h:LW P os.toArray w (fun a w=>Q .normal a w) os ks a w):(Code.region id os.toArray false).wp P Q a w :=
 wp_region_lit (Hh os ks a w Q (fun k hh=>by simpa using zm.1 hk k hh) h)
end
end
section
def D3 (ρ:Nat→Value)(d:Nat)(v:Value):Nat→Value:=fun i=>cond (Nat.beq i d) v (ρ i)
def nN (l:List Value):Nat→Value:=fun i=>l.getD i undef
def mk (N:Nat) (ρ:Nat→Value):Act:=⟨((List.range N).map ρ).toArray,[]⟩
def Bw (N:Nat) (ρ:Nat→Value):Operand→Value
 |.tmp t=>cond (Nat.blt t N) (ρ t) undef
 |.const v=>v
 |.global g=>.pointer (some ⟨g,0,none⟩)
 |.func f=>.func (.func f) #[] #[]
theorem Qh (ρ:Nat→Value)(d:Nat)(v:Value):D3 ρ d v d=v:=by simp[D3]
theorem UY (ρ:Nat→Value){d i:Nat}(v:Value)(h:i≠d):D3 ρ d v i=ρ i:=by
 have:Nat.beq i d=false:=by
  cases hb:Nat.beq i d with
  |false=>rfl
  |true=>exact absurd (Nat.eq_of_beq_eq_true hb) h
 simp[D3,this]
theorem Dg (N:Nat) (ρ:Nat→Value):(mk N ρ).eval=Bw N ρ:=by
 funext x
 cases x with
 |tmp t =>
  simp only[Act.eval,Bw,mk]
  by_cases h:t<N
  ·have:Nat.blt t N=true:=by simpa using h
   simp[h,this]
  ·have:Nat.blt t N=false:=by
    cases hb:Nat.blt t N with
    |false=>rfl
    |true=>exact absurd (by simpa using hb) h
   simp[this,Nat.not_lt.1 h]
 |_=>rfl
theorem FL (N:Nat) (ρ:Nat→Value)(d:Nat)(v:Value):(mk N ρ).put (some d) v=mk N (D3 ρ d v):=by
 simp only[Act.put,mk,Act.mk.injEq,and_true]
 apply Array.ext
 ·simp
 ·intro i h1 h2
  simp at h1
  by_cases hi:i=d
  ·subst hi;simp[Qh]
  ·simp[Ne.symm hi,UY _ _ hi]
theorem At {P:Program}{f:FuncId}{fn:Func}{c:Code}{w:World}{R:Ending→World→Prop}(args:List Value)(N:Nat)
  (hf:P.funcs[f]? = some fn) (hb:fn.body=some c) (hN:fn.ntmps=N) (hl:args.length≤N)
  (h:c.wp P (bodyPost P fn R) (mk N (nN args)) w):Calls P f args.toArray w R:=by
 refine calls_of_wp hf hb ?_
 have:(mk N (nN args)) = { tmps:=args.toArray++Array.replicate (fn.ntmps-args.toArray.size) undef,defers:=[] }:=by
  simp only[mk,Act.mk.injEq,and_true]
  apply Array.ext
  ·simp;omega
  ·intro i h1 h2
   simp at h1
   by_cases hi:i<args.length
   ·simp[nN,hi]
   ·simp[nN,hi,Array.getElem_append]
 rw[← this];exact h
def f7 (N:Nat) (ρ:Nat→Value):List Nat→Value
 |[t]=>Bw N ρ (.tmp t)
 |ts=>.tuple (ts.map fun t=>Bw N ρ (.tmp t)).toArray
theorem Me (N:Nat) (ρ:Nat→Value)(t:Nat):(mk N ρ).tmps.getD t undef=Bw N ρ (.tmp t):=by
 rw[← Dg];rfl
theorem LQ {P:Program}{fn:Func}{N:Nat} {ρ:Nat→Value}{w:World}(ts:List Nat)(hr:fn.results=(ts.map ResultVar.tmp).toArray) :
  (results fn (mk N ρ).tmps).run P w=.ok (f7 N ρ ts) w:=by
 have key:∀(l:List Nat),(((l.map ResultVar.tmp).mapM (m:=Sem) fun
  |.tmp t=>pure ((mk N ρ).tmps.getD t undef)
  |.cell a t=>do loadVar t (← asAddr ((mk N ρ).tmps.getD a undef)))).run P w=.ok (l.map fun t=>Bw N ρ (.tmp t)) w:=by
  intro l
  induction l with
  |nil=>rfl
  |cons t l ih =>
   simp only[zf,List.mapM_cons,Sem.run_bind,Sem.run_pure,Result.andThen_ok,Me]at ih ⊢
   rw[ih]
   rfl
 unfold results
 rw[hr]
 simp only[List.mapM_toArray,Sem.run_bind,Sem.run_map]
 refine (congrArg (fun r=>(Result.andThen (Result.andThen r fun a w'=>Result.ok a.toArray w') fun a w'=>Result.ok (if h:a.size=1 then a[0]else Value.tuple a) w'))<|key ts).trans ?_
 simp only[Result.andThen_ok]
 match ts with
 |[]=>rfl
 |[t]=>rfl
 |_::_::_=>rfl
theorem Ah {P:Program}{fn:Func}{N:Nat} {ρ:Nat→Value}{w:World}{R:Ending→World→Prop}(ts:List Nat)(hr:fn.results=(ts.map ResultVar.tmp).toArray)(v:Value)(hv:f7 N ρ ts=v)
  (h:R (.returned v) w):bodyPost P fn R .ret (mk N ρ) w:=⟨rfl,v,by rw[← hv];exact LQ ts hr,h⟩
theorem Iw {P:Program}{fn:Func}{N:Nat} {ρ:Nat→Value}{w:World}{R:Ending→World→Prop}(ts:List Nat)(hr:fn.results=(ts.map ResultVar.tmp).toArray)(v:Value)(hv:f7 N ρ ts=v)
  (h:R (.returned v) w):bodyPost P fn R .normal (mk N ρ) w:=⟨rfl,v,by rw[← hv];exact LQ ts hr,h⟩
section code
variable {P:Program} {N:Nat} {ρ:Nat→Value} {Q:Exit→Act→World→Prop} {w:World}
theorem Ag {c:Operand}{x y:Code}(hc:Bw N ρ c=.bool true)(h:x.wp P Q (mk N ρ) w):(Code.cond c x y).wp P Q (mk N ρ) w :=
 wp_cond_true (by rw[Dg];exact hc) h
theorem Aj {c:Operand}{x y:Code}(hc:Bw N ρ c=.bool false)(h:y.wp P Q (mk N ρ) w):(Code.cond c x y).wp P Q (mk N ρ) w :=
 wp_cond_false (by rw[Dg];exact hc) h
theorem An {id:Nat}{a:Act}(h:Q .normal a w):Exit.inBlock id Q (.exit id) a w:=by
 simpa [Exit.inBlock]using h
theorem Au {id:Nat}{a:Act}{K:Act→World→Prop}(h:Q (.exit id) a w):Exit.then K Q (.exit id) a w:=h
theorem Ap {a:Act}{K:Act→World→Prop}(h:Q .ret a w):Exit.then K Q .ret a w:=h
theorem AK {id:Nat}{a:Act}(h:Q .ret a w):Exit.inBlock id Q .ret a w:=h
def UZ:List (Nat×Value)→(Nat→Value)→Nat→Value
 |[],ρ=>ρ
 |(i,v)::l,ρ=>D3 (UZ l ρ) i v
def L9 (ρ:Nat→Value):List (Nat×Value)→Prop
 |[]=>True
 |(i,v)::l=>ρ i=v∧L9 ρ l
theorem Gk {ρ:Nat→Value}:∀ {l:List (Nat×Value)},L9 ρ l→UZ l ρ=ρ
 |[],_=>rfl
 |(i,v)::l,h=>by
  simp only[UZ,Gk h.2]
  funext j
  by_cases hj:j=i
  ·subst hj;rw[Qh];exact h.1.symm
  ·rw[UY _ _ hj]
theorem AQ {S:Type}(fr:S→List (Nat×Value))(I:S→World→Prop)(m:S→Nat)(s0:S){body:Code}(hfr:L9 ρ (fr s0))(h0:I s0 w)
  (round:∀s ρ w,I s w→body.wp P (Exit.then (fun a' w'=>∃s' ρ',a'=mk N ρ'∧L9 ρ' (fr s')∧I s' w'∧m s'<m s) Q) (mk N (UZ (fr s) ρ)) w) :
  (Code.loop body).wp P Q (mk N ρ) w:=by
 intro b k cs
 have key:∀n s ρ w,m s=n→L9 ρ (fr s)→I s w→∃e a' w',Q e a' w'∧Arrives P (lone (b.at (mk N ρ) (.code body :: .inLoop body::k)) cs w) b k cs e a' w':=by
  intro n
  induction n using Nat.strongRecOn with
  |_ n ih =>
   intro s ρ w hn hfr hI
   have hr:=round s ρ w hI
   rw[Gk hfr]at hr
   obtain⟨e,a₁,w₁,hq,harr⟩:=hr b (.inLoop body::k) cs
   cases e with
   |normal =>
    obtain⟨s',ρ',rfl,hfr',hI',hlt⟩:=hq
    obtain⟨e₂,a₂,w₂,hq₂,harr₂⟩:=ih (m s') (hn ▸ hlt) s' ρ' w₁ rfl hfr' hI'
    exact⟨e₂,a₂,w₂,hq₂,.of_steps (Steps.trans harr (.one step_inLoop)) harr₂⟩
   |exit id=>exact⟨_,a₁,w₁,hq,.pass (x:=.inLoop body) rfl (fun _ _=>.inl (by simp)) harr⟩
   |goto l=>exact⟨_,a₁,w₁,hq,.pass (x:=.inLoop body) rfl (fun _ _=>.inl (by simp)) harr⟩
   |ret=>exact⟨_,a₁,w₁,hq,.pass (x:=.inLoop body) rfl (fun _ _=>.inl (by simp)) harr⟩
   |panic ch=>exact⟨_,a₁,w₁,hq,.pass (x:=.inLoop body) rfl (fun _ _=>.inl (by simp)) harr⟩
   |outgrown=>exact⟨_,a₁,w₁,hq,.pass (x:=.inLoop body) rfl (fun _ _=>.inl (by simp)) harr⟩
 obtain⟨e,a',w',hq,harr⟩:=key _ s0 ρ w rfl hfr h0
 exact⟨e,a',w',hq,.of_steps (.one step_loop) harr⟩
theorem Ib {S:Type}(fr:S→List (Nat×Value))(I:S→World→Prop){c:Code}{K:Act→World→Prop}{Q':Exit→Act→World→Prop}
  (h:c.wp P (Exit.then (fun a' w'=>∃s' ρ',a'=mk N ρ'∧L9 ρ' (fr s')∧I s' w') Q') (mk N ρ) w)
  (hn:∀s ρ w,I s w→K (mk N (UZ (fr s) ρ)) w):c.wp P (Exit.then K Q') (mk N ρ) w:=by
 refine wp_mono h ?_
 intro e a w hh
 cases e with
 |normal =>
  obtain⟨s,ρ',rfl,h1,h2⟩:=hh
  have:=hn s ρ' w h2
  rw[Gk h1]at this
  exact this
 |_=>exact hh
end code
section ops
variable {P:Program} {ops:Array Oper} {w0:World} {Q:Act→World→Prop} {os:List Oper} {ks:List Nat} {N:Nat} {ρ:Nat→Value} {w:World}
abbrev Up (ops:Array Oper)(N:Nat) (ρ:Nat→Value)(o:Oper):Prop:=Region.wanted o (yielded ops (mk N ρ).tmps)=true
theorem Ac {d:Option Tmp}{op:Op}{ty:TypeId}{pos:String}{aft:Array Edge}:Up ops N ρ ⟨d,op,ty,pos,aft,none⟩:=rfl
theorem Rm {j d:Nat}{b:Bool}(hd:(ops[j]?).bind (·.dst)=some d)(hlt:Nat.blt d N=true)(hv:ρ d=.bool b):yielded ops (mk N ρ).tmps j=some b:=by
 have h:d<N:=by simpa using hlt
 unfold yielded
 rw[hd]
 simp[mk,h,hv]
theorem Ak {d:Option Tmp}{op:Op}{ty:TypeId}{pos:String}{aft:Array Edge}{j e:Nat}{b:Bool}(hd:(ops[j]?).bind (·.dst)=some e)(hlt:Nat.blt e N=true)(hv:ρ e=.bool b) :
  Up ops N ρ ⟨d,op,ty,pos,aft,some (j,b)⟩:=by
 unfold Up Region.wanted
 simp[Rm hd hlt hv]
theorem CP {o:Oper}{k d:Nat}(hk:k≤2)(hd:o.dst=some d)(hu:Up ops N ρ o)(v:Value)(hr:∀w',Cl w0 w k w'→(execOp (Bw N ρ) o).run P w'=.ok (.value v) w')
  (h:LW P ops w0 Q os ks (mk N (D3 ρ d v)) w):LW P ops w0 Q (o::os) (k::ks) (mk N ρ) w:=by
 simp only[LW]
 rw[if_pos hu]
 unfold BY
 rw[if_pos hk]
 refine⟨v,fun w' hc=>.inl ?_,?_⟩
 ·rw[Dg];exact hr w' hc
 ·rw[hd,FL];exact h
theorem MH {o:Oper}{d:Nat}(hd:o.dst=some d)(hu:Up ops N ρ o)
  (v:Value) (w1:World) (hr:(execOp (Bw N ρ) o).run P w=.ok (.value v) w1) (hE:AB w w1) (h:LW P ops w0 Q os ks (mk N (D3 ρ d v)) w1):LW P ops w0 Q (o::os) (3::ks) (mk N ρ) w:=by
 simp only[LW]
 rw[if_pos hu]
 unfold BY
 rw[if_neg (by decide),if_pos rfl]
 unfold Oper.wp
 rw[Dg,hr]
 show AB w w1∧LW P ops w0 Q os ks ((mk N ρ).put o.dst v) w1
 rw[hd,FL]
 exact⟨hE,h⟩
theorem Kn {o:Oper}{d:Nat}(hd:o.dst=some d)(hu:Up ops N ρ o)
  (v:Value) (w1:World) (hr:(execOp (Bw N ρ) o).run P w=.ok (.value v) w1) (h:LW P ops w0 Q os ks (mk N (D3 ρ d v)) w1):LW P ops w0 Q (o::os) (4::ks) (mk N ρ) w:=by
 simp only[LW]
 rw[if_pos hu]
 unfold BY
 rw[if_neg (by decide),if_neg (by decide)]
 unfold Oper.wp
 rw[Dg,hr]
 show LW P ops w0 Q os ks ((mk N ρ).put o.dst v) w1
 rw[hd,FL]
 exact h
theorem MI {o:Oper}(hd:o.dst=none)(hu:Up ops N ρ o)
  (w1:World) (hr:(execOp (Bw N ρ) o).run P w=.ok .skip w1) (h:LW P ops w0 Q os ks (mk N ρ) w1):LW P ops w0 Q (o::os) (4::ks) (mk N ρ) w:=by
 simp only[LW]
 rw[if_pos hu]
 unfold BY
 rw[if_neg (by decide),if_neg (by decide)]
 unfold Oper.wp
 rw[Dg,hr]
 show LW P ops w0 Q os ks ((mk N ρ).put o.dst undef) w1
 rw[hd]
 exact h
theorem As {d:Nat} {x:Operand} {xs:Array Operand} {ats:Array TypeId} {ty:TypeId} {pos:String} {aft:Array Edge} {g:Option (Nat × Bool)} (f:FuncId) (first cap:List Value) (args:List Value)
  (hx:Bw N ρ x = .func (.func f) first.toArray cap.toArray) (hxs:first++(xs.toList.map (Bw N ρ))++cap = args) (hf:((P.funcs[f]?).map fun fn=>(fn.name != "runtime.NumGoroutine") && fn.body.isSome) = some true)
  (hu:Up ops N ρ ⟨some d,.call ⟨.value x,xs,ats⟩,ty,pos,aft,g⟩) {R:Ending→World→Prop} (hc:Calls P f args.toArray w R)
  (h:∀ e w1,R e w1→∃ v,e = .returned v∧AB w w1∧LW P ops w0 Q os ks (mk N (D3 ρ d v)) w1) :
  LW P ops w0 Q (⟨some d,.call ⟨.value x,xs,ats⟩,ty,pos,aft,g⟩ :: os) (3 :: ks) (mk N ρ) w:=by
 simp only [LW]
 rw [if_pos hu]
 unfold BY
 rw [if_neg (by decide),if_pos rfl]
 unfold Oper.wp
 rw [Dg]
 have hrun:(execOp (Bw N ρ) ⟨some d,.call ⟨.value x,xs,ats⟩,ty,pos,aft,g⟩).run P w = .ok (.enter f args.toArray) w:=by
  obtain ⟨fn,hfn,hb⟩:=Option.map_eq_some_iff.1 hf
  simp only [z7,bne_iff_ne,ne_eq] at hb
  have hargs:first.toArray++xs.map (Bw N ρ)++cap.toArray = args.toArray:=by
   rw [← hxs]; apply Array.ext'; simp
  obtain ⟨c,hbc⟩:=Option.isSome_iff_exists.1 hb.2
  have hcf:(callFunc f args.toArray).run P w = .ok (.enter f args.toArray) w:=by
   simp [callFunc,hfn,hb.1,hbc]
  simp [execOp,resolve,hargs,hx,Deferred.ofValue,invoke,hcf]
 rw [hrun]
 refine Calls.mono hc (fun e w1 he=>?_)
 obtain ⟨v,rfl,hE,hL⟩:=h e w1 he
 show AB w w1∧LW P ops w0 Q os ks ((mk N ρ).put (some d) v) w1
 rw [FL]
 exact ⟨hE,hL⟩
theorem AD {d:Nat} {x:Operand} {xs:Array Operand} {ats:Array TypeId} {ty:TypeId} {pos:String} {aft:Array Edge} {g:Option (Nat × Bool)} (f:FuncId) (first cap:List Value) (args:List Value)
  (hx:Bw N ρ x = .func (.func f) first.toArray cap.toArray) (hxs:first++(xs.toList.map (Bw N ρ))++cap = args) (hf:((P.funcs[f]?).map fun fn=>(fn.name != "runtime.NumGoroutine") && fn.body.isSome) = some true)
  (hu:Up ops N ρ ⟨some d,.call ⟨.value x,xs,ats⟩,ty,pos,aft,g⟩) (v:Value) (hc:∀ w',Calls P f args.toArray w' (fun e w''=>e = .returned v∧w'' = w'))
  (h:LW P ops w0 Q os ks (mk N (D3 ρ d v)) w) :
  LW P ops w0 Q (⟨some d,.call ⟨.value x,xs,ats⟩,ty,pos,aft,g⟩ :: os) (0 :: ks) (mk N ρ) w:=by
 simp only [LW]
 rw [if_pos hu]
 unfold BY
 rw [if_pos (by decide)]
 have hrun:∀ w,(execOp (Bw N ρ) ⟨some d,.call ⟨.value x,xs,ats⟩,ty,pos,aft,g⟩).run P w = .ok (.enter f args.toArray) w:=by
  intro w
  obtain ⟨fn,hfn,hb⟩:=Option.map_eq_some_iff.1 hf
  simp only [z7,bne_iff_ne,ne_eq] at hb
  have hargs:first.toArray++xs.map (Bw N ρ)++cap.toArray = args.toArray:=by
   rw [← hxs]; apply Array.ext'; simp
  obtain ⟨c,hbc⟩:=Option.isSome_iff_exists.1 hb.2
  have hcf:(callFunc f args.toArray).run P w = .ok (.enter f args.toArray) w:=by
   simp [callFunc,hfn,hb.1,hbc]
  simp [execOp,resolve,hargs,hx,Deferred.ofValue,invoke,hcf]
 refine ⟨v,fun w' _=>.inr (.inr ⟨f,args.toArray,?_,hc w'⟩),?_⟩
 ·rw [Dg]; exact hrun w'
 ·show LW P ops w0 Q os ks ((mk N ρ).put (some d) v) w
  rw [FL]; exact h
end ops
def it {σ:Type}(f:Nat→σ→σ):Nat→σ→σ
 |0,s=>s
 |k+1,s=>f k (it f k s)
def wr (x:Int):Int:=IntKind.i64.wrap x
theorem P3 (x:Int):-9223372036854775808≤wr x∧wr x≤9223372036854775807:=by
 unfold wr;rw[IntKind.wrap_i64];omega
end
section
theorem Dh {x:Int}(h:-9223372036854775808≤x)(h':x≤9223372036854775807):IntKind.i64.wrap x=x:=IntWalk.i64_in x ⟨h,h'⟩
theorem Bd {x:Int}{n:Nat}(h:x=(n:Int))(h':x≤9223372036854775807):IntKind.i64.wrap x=(n:Int):=by rw[Dh zO h',h]
theorem nY {x y:Int}(h:x=y)(h0:-9223372036854775808≤y)(h':y≤9223372036854775807):IntKind.i64.wrap x=y:=by rw[h];exact Dh h0 h'
def TI (P:Program)(e:TypeId)(s:Nat)(z:Value)(b:Nat):Prop:=(P.info? e).map (fun i=>(i.zero,i.size,i.bytes))=some (some z,s,b)
theorem TI.get {P:Program}{e:TypeId}{s:Nat}{z:Value}{b:Nat}(h:TI P e s z b):∃i,P.info? e=some i∧i.zero=some z∧i.size=s∧i.bytes=b:=by
 obtain⟨i,hi,hh⟩:=Option.map_eq_some_iff.1 h
 simp only[Prod.mk.injEq]at hh
 exact⟨i,hi,hh⟩
def Er (v:Value)(n:Nat):Prop:=∃a c,v=.slice a n c∧(a=none→n=0)
def Ax (v:Value)(i s:Nat):Value :=
 match v with
 |.slice (some a) _ _=>.pointer (some (a.add (i*s)))
 |_=>undef
def Ch (H:Array Obj)(g o:Nat):Option Value :=
 match H[g]? with
 |some (.cells c _ _)=>c[o]?
 |_=>none
theorem Cu (w:World)(g o:Nat):w.cell? ⟨g,o,none⟩=Ch w.heap g o:=by
 unfold World.cell? Ch
 cases w.heap[g]? with
 |none=>rfl
 |some o=>cases o <;> rfl
def Fj (H:Array Obj)(p:Value):Option Value :=
 match p with
 |.pointer (some ⟨g,o,none⟩)=>Ch H g o
 |_=>none
theorem AB.heap {w w':World}(h:AB w w'){k:Nat}(hk:k<w.heap.size):w'.heap[k]? = w.heap[k]?:=Below.block h k hk
theorem V2 {H:Array Obj}{g o:Nat}{v:Value}(h:Ch H g o=some v):g<H.size:=by
 unfold Ch at h
 rcases Nat.lt_or_ge g H.size with hh|hh
 ·exact hh
 ·simp[Array.getElem?_eq_none hh]at h
theorem Ot {w w':World}(h:AB w w'){g o:Nat}{v:Value}(hc:Ch w.heap g o=some v):Ch w'.heap g o=some v:=by
 have:=h.heap (V2 hc)
 unfold Ch at *
 rw[this];exact hc
theorem AR {w w':World}(h:AB w w'){p v:Value}(hc:Fj w.heap p=some v):Fj w'.heap p=some v:=by
 unfold Fj at *
 split at hc
 ·exact Ot h hc
 ·cases hc
def CD (P:Program)(t:TypeId):Prop:=((P.underlying t).map fun d=>match d with|.struct _=>false|.array _ _=>false|_=>true)=some true
theorem Ou {P:Program}{t:TypeId}(ht:CD P t){p v:Value}{w:World}(h:Fj w.heap p=some v):(Instr.loadAt t p).run P w=.ok v w:=by
 unfold Fj at h
 split at h
 ·rename_i g o
  rw[← Cu]at h
  obtain⟨d,hd,hh⟩:=Option.map_eq_some_iff.1 ht
  have hag:(isAgg t).run P w=.ok false w:=by
   unfold isAgg
   simp only[Sem.run_bind,run_underlying hd,Result.andThen_ok]
   cases d <;> first|rfl|simp at hh
  simp[Instr.loadAt,Instr.sureAddr,loadVar,hag,h]
 ·cases h
section ops
variable {P:Program} {ops:Array Oper} {w0:World} {Q:Act→World→Prop} {os:List Oper} {ks:List Nat} {N:Nat} {ρ:Nat→Value} {w:World}
 {d:Nat} {ty:TypeId} {pos:String} {aft:Array Edge} {g:Option (Nat×Bool)}
theorem f8 {x:Operand}(v:Value)(hx:Bw N ρ x=v)(hu:Up ops N ρ ⟨some d,.move x,ty,pos,aft,g⟩)(h:LW P ops w0 Q os ks (mk N (D3 ρ d v)) w) :
  LW P ops w0 Q (⟨some d,.move x,ty,pos,aft,g⟩::os) (0::ks) (mk N ρ) w :=
 CP (by decide) rfl hu v (fun w' _=>by simp[execOp,hx]) h
theorem V3 {x:Operand}(v:Value)(hx:Bw N ρ x=v)(hu:Up ops N ρ ⟨some d,.assign x,ty,pos,aft,g⟩)(h:LW P ops w0 Q os ks (mk N (D3 ρ d v)) w) :
  LW P ops w0 Q (⟨some d,.assign x,ty,pos,aft,g⟩::os) (0::ks) (mk N ρ) w :=
 CP (by decide) rfl hu v (fun w' _=>by simp[execOp,hx]) h
section bin
variable {xt yt:TypeId} {x y:Operand} {k:IntKind} {a b:Int}
theorem Ev {op:BinOp}{w:World}:(eqGuard op xt x y (.int k a) (.int k b)).run P w=.ok () w:=by
 unfold eqGuard
 cases op <;> rfl
theorem AG (c:Int)(hx:Bw N ρ x=.int k a)(hy:Bw N ρ y=.int k b)(hc:k.wrap (a+b)=c)(hu:Up ops N ρ ⟨some d,.binOp .add xt x y yt,ty,pos,aft,g⟩)
  (h:LW P ops w0 Q os ks (mk N (D3 ρ d (.int k c))) w):LW P ops w0 Q (⟨some d,.binOp .add xt x y yt,ty,pos,aft,g⟩::os) (0::ks) (mk N ρ) w :=
 CP (by decide) rfl hu _ (fun w' _=>by simp[execOp,hx,hy,Ev,binOp,Op.intArith,hc]) h
theorem Cb (c:Int)(hx:Bw N ρ x=.int k a)(hy:Bw N ρ y=.int k b)(hc:k.wrap (a-b)=c)(hu:Up ops N ρ ⟨some d,.binOp .sub xt x y yt,ty,pos,aft,g⟩)
  (h:LW P ops w0 Q os ks (mk N (D3 ρ d (.int k c))) w):LW P ops w0 Q (⟨some d,.binOp .sub xt x y yt,ty,pos,aft,g⟩::os) (0::ks) (mk N ρ) w :=
 CP (by decide) rfl hu _ (fun w' _=>by simp[execOp,hx,hy,Ev,binOp,Op.intArith,hc]) h
theorem Gl (c:Int)(hx:Bw N ρ x=.int k a)(hy:Bw N ρ y=.int k b)(hc:k.wrap (a*b)=c)(hu:Up ops N ρ ⟨some d,.binOp .mul xt x y yt,ty,pos,aft,g⟩)
  (h:LW P ops w0 Q os ks (mk N (D3 ρ d (.int k c))) w):LW P ops w0 Q (⟨some d,.binOp .mul xt x y yt,ty,pos,aft,g⟩::os) (0::ks) (mk N ρ) w :=
 CP (by decide) rfl hu _ (fun w' _=>by simp[execOp,hx,hy,Ev,binOp,Op.intArith,hc]) h
theorem E5 (c:Int)(hx:Bw N ρ x=.int k a)(hy:Bw N ρ y=.int k b)(hb:b≠0)(hc:a.tmod b=c)(hu:Up ops N ρ ⟨some d,.binOp .rem xt x y yt,ty,pos,aft,g⟩)
  (h:LW P ops w0 Q os ks (mk N (D3 ρ d (.int k c))) w):LW P ops w0 Q (⟨some d,.binOp .rem xt x y yt,ty,pos,aft,g⟩::os) (0::ks) (mk N ρ) w :=
 CP (by decide) rfl hu _ (fun w' _=>by simp[execOp,hx,hy,Ev,binOp,Op.intDiv,hb,hc]) h
theorem SG (c:Int)(hx:Bw N ρ x=.int k a)(hy:Bw N ρ y=.int k b)(hb:b≠0)(hc:k.wrap (a.tdiv b)=c)(hu:Up ops N ρ ⟨some d,.binOp .quo xt x y yt,ty,pos,aft,g⟩)
  (h:LW P ops w0 Q os ks (mk N (D3 ρ d (.int k c))) w):LW P ops w0 Q (⟨some d,.binOp .quo xt x y yt,ty,pos,aft,g⟩::os) (0::ks) (mk N ρ) w :=
 CP (by decide) rfl hu _ (fun w' _=>by simp[execOp,hx,hy,Ev,binOp,Op.intDiv,hb,hc]) h
theorem Ay (c:Bool)(hx:Bw N ρ x=.int k a)(hy:Bw N ρ y=.int k b)(hc:decide (a<b)=c)(hu:Up ops N ρ ⟨some d,.binOp .lss xt x y yt,ty,pos,aft,g⟩)
  (h:LW P ops w0 Q os ks (mk N (D3 ρ d (.bool c))) w):LW P ops w0 Q (⟨some d,.binOp .lss xt x y yt,ty,pos,aft,g⟩::os) (0::ks) (mk N ρ) w :=
 CP (by decide) rfl hu _ (fun w' _=>by simp[execOp,hx,hy,Ev,binOp,Op.intCmp,← hc]) h
theorem DF (c:Bool)(hx:Bw N ρ x=.int k a)(hy:Bw N ρ y=.int k b)(hc:decide (a≤b)=c)(hu:Up ops N ρ ⟨some d,.binOp .leq xt x y yt,ty,pos,aft,g⟩)
  (h:LW P ops w0 Q os ks (mk N (D3 ρ d (.bool c))) w):LW P ops w0 Q (⟨some d,.binOp .leq xt x y yt,ty,pos,aft,g⟩::os) (0::ks) (mk N ρ) w :=
 CP (by decide) rfl hu _ (fun w' _=>by simp[execOp,hx,hy,Ev,binOp,Op.intCmp,← hc]) h
theorem C9 (c:Bool)(hx:Bw N ρ x=.int k a)(hy:Bw N ρ y=.int k b)(hc:decide (b<a)=c)(hu:Up ops N ρ ⟨some d,.binOp .gtr xt x y yt,ty,pos,aft,g⟩)
  (h:LW P ops w0 Q os ks (mk N (D3 ρ d (.bool c))) w):LW P ops w0 Q (⟨some d,.binOp .gtr xt x y yt,ty,pos,aft,g⟩::os) (0::ks) (mk N ρ) w :=
 CP (by decide) rfl hu _ (fun w' _=>by simp[execOp,hx,hy,Ev,binOp,Op.intCmp,← hc]) h
theorem FB (c:Bool)(hx:Bw N ρ x=.int k a)(hy:Bw N ρ y=.int k b)(hc:decide (b≤a)=c)(hu:Up ops N ρ ⟨some d,.binOp .geq xt x y yt,ty,pos,aft,g⟩)
  (h:LW P ops w0 Q os ks (mk N (D3 ρ d (.bool c))) w):LW P ops w0 Q (⟨some d,.binOp .geq xt x y yt,ty,pos,aft,g⟩::os) (0::ks) (mk N ρ) w :=
 CP (by decide) rfl hu _ (fun w' _=>by simp[execOp,hx,hy,Ev,binOp,Op.intCmp,← hc]) h
theorem Av (c:Bool)(hx:Bw N ρ x=.int k a)(hy:Bw N ρ y=.int k b)(hc:decide (a=b)=c)(hu:Up ops N ρ ⟨some d,.binOp .eql xt x y yt,ty,pos,aft,g⟩)
  (h:LW P ops w0 Q os ks (mk N (D3 ρ d (.bool c))) w):LW P ops w0 Q (⟨some d,.binOp .eql xt x y yt,ty,pos,aft,g⟩::os) (0::ks) (mk N ρ) w :=
 CP (by decide) rfl hu _ (fun w' _=>by
  have:(a == b)=c:=by rw[← hc];rfl
  simp[execOp,hx,hy,Ev,binOp,Op.intCmp,this]) h
theorem B4 (c:Bool)(hx:Bw N ρ x=.int k a)(hy:Bw N ρ y=.int k b)(hc:decide (a≠b)=c)(hu:Up ops N ρ ⟨some d,.binOp .neq xt x y yt,ty,pos,aft,g⟩)
  (h:LW P ops w0 Q os ks (mk N (D3 ρ d (.bool c))) w):LW P ops w0 Q (⟨some d,.binOp .neq xt x y yt,ty,pos,aft,g⟩::os) (0::ks) (mk N ρ) w :=
 CP (by decide) rfl hu _ (fun w' _=>by
  have:(a != b)=c:=by rw[← hc];simp[bne,BEq.beq]
  simp[execOp,hx,hy,Ev,binOp,Op.intCmp,this]) h
end bin
theorem BH {xt:TypeId}{x:Operand}{a:Bool}(c:Bool)(hx:Bw N ρ x=.bool a)(hc:(!a)=c)(hu:Up ops N ρ ⟨some d,.unOp .not xt x,ty,pos,aft,g⟩)
  (h:LW P ops w0 Q os ks (mk N (D3 ρ d (.bool c))) w):LW P ops w0 Q (⟨some d,.unOp .not xt x,ty,pos,aft,g⟩::os) (0::ks) (mk N ρ) w :=
 CP (by decide) rfl hu _ (fun w' _=>by simp[execOp,hx,Op.unary,← hc]) h
theorem jD {xt:TypeId}{x:Operand}{k:IntKind}{a:Int}(c:Int)(hx:Bw N ρ x=.int k a)(hc:k.wrap (-a)=c)(hu:Up ops N ρ ⟨some d,.unOp .neg xt x,ty,pos,aft,g⟩)
  (h:LW P ops w0 Q os ks (mk N (D3 ρ d (.int k c))) w):LW P ops w0 Q (⟨some d,.unOp .neg xt x,ty,pos,aft,g⟩::os) (0::ks) (mk N ρ) w :=
 CP (by decide) rfl hu _ (fun w' _=>by simp[execOp,hx,Op.unary,Op.intArith,hc]) h
theorem AN {t e:TypeId}{x:Operand}{v:Value}{n:Nat}(ht:P.underlying t=some (.slice e))(hx:Bw N ρ x=v)(hs:Er v n)(hu:Up ops N ρ ⟨some d,.call ⟨.builtin .len,#[x],#[t]⟩,ty,pos,aft,g⟩)
  (h:LW P ops w0 Q os ks (mk N (D3 ρ d (.int .i64 (n:Int)))) w):LW P ops w0 Q (⟨some d,.call ⟨.builtin .len,#[x],#[t]⟩,ty,pos,aft,g⟩::os) (0::ks) (mk N ρ) w :=
 CP (by decide) rfl hu _ (fun w' _=>by
  obtain⟨a,c,rfl,_⟩:=hs
  simp[execOp,resolve,invoke,builtin,hx,Builtin.len_,run_underlying ht,goInt]) h
theorem MJ {t:TypeId}{x:Operand}{s:ByteArray}(ht:P.underlying t=some .string)(hx:Bw N ρ x=.string s)(hu:Up ops N ρ ⟨some d,.call ⟨.builtin .len,#[x],#[t]⟩,ty,pos,aft,g⟩)
  (h:LW P ops w0 Q os ks (mk N (D3 ρ d (.int .i64 (s.size:Int)))) w):LW P ops w0 Q (⟨some d,.call ⟨.builtin .len,#[x],#[t]⟩,ty,pos,aft,g⟩::os) (0::ks) (mk N ρ) w :=
 CP (by decide) rfl hu _ (fun w' _=>by
  simp[execOp,resolve,invoke,builtin,hx,Builtin.len_,run_underlying ht,goInt]) h
theorem Aw {t e:TypeId}{x y:Operand}{v:Value}{n s:Nat}{k:IntKind}{i:Int}(j:Nat)(ht:P.underlying t=some (.slice e)){z:Value}{b:Nat}(hi:TI P e s z b)(hx:Bw N ρ x=v)(hy:Bw N ρ y=.int k i)
  (hs:Er v n) (hj:i=(j:Int)) (hlt:j<n) (hu:Up ops N ρ ⟨some d,.indexAddr t x y,ty,pos,aft,g⟩)
  (h:LW P ops w0 Q os ks (mk N (D3 ρ d (Ax v j s))) w):LW P ops w0 Q (⟨some d,.indexAddr t x y,ty,pos,aft,g⟩::os) (0::ks) (mk N ρ) w :=
 CP (by decide) rfl hu _ (fun w' _=>by
  obtain⟨a,c,rfl,ha⟩:=hs
  obtain⟨inf,h1,_,h3,_⟩:=hi.get
  subst hj
  cases a with
  |none=>have:=ha rfl;omega
  |some a =>
   have hlt':(j:Int)<(n:Int):=by omega
   simp[execOp,hx,hy,Instr.indexAt,asIntOf,run_underlying ht,sizeOf,typeInfo,h1,h3,Ax,hlt]) h
theorem Al {k:Nat}(hk:k=1∨k=2){t:TypeId}{x:Operand}{p:Value}(u:Value)(ht:CD P t)(hx:Bw N ρ x=p)(hc:Fj (if k=1 then w0.heap else w.heap) p=some u)(hu:Up ops N ρ ⟨some d,.load t x,ty,pos,aft,g⟩)
  (h:LW P ops w0 Q os ks (mk N (D3 ρ d u)) w):LW P ops w0 Q (⟨some d,.load t x,ty,pos,aft,g⟩::os) (k::ks) (mk N ρ) w :=
 CP zO rfl hu _ (fun w' hcl=>by
  have hl:Fj w'.heap p=some u:=by
   rcases hk with rfl|rfl
   ·exact AR (w:=w0) hcl hc
   ·exact AR (w:=w) hcl hc
  simp[execOp,hx,Ou ht hl]) h
theorem AI {x:Operand}{vs:List Value}{i:Nat}(v:Value)(hx:Bw N ρ x=.tuple vs.toArray)(hv:vs[i]? = some v)(hu:Up ops N ρ ⟨some d,.extract x i,ty,pos,aft,g⟩)
  (h:LW P ops w0 Q os ks (mk N (D3 ρ d v)) w):LW P ops w0 Q (⟨some d,.extract x i,ty,pos,aft,g⟩::os) (0::ks) (mk N ρ) w :=
 CP (by decide) rfl hu _ (fun w' _=>by simp[execOp,hx,Instr.extract,hv]) h
theorem JN {st dt:TypeId}{x:Operand}{k k':IntKind}{a:Int}(c:Int){sd:TypeDesc}(hst:P.underlying st=some sd)(hdt:P.underlying dt=some (.int k'))(hx:Bw N ρ x=.int k a)(hc:k'.wrap a=c)(hu:Up ops N ρ ⟨some d,.convert st dt x,ty,pos,aft,g⟩)
  (h:LW P ops w0 Q os ks (mk N (D3 ρ d (.int k' c))) w):LW P ops w0 Q (⟨some d,.convert st dt x,ty,pos,aft,g⟩::os) (0::ks) (mk N ρ) w :=
 CP (by decide) rfl hu _ (fun w' _=>by
  simp[execOp,hx,convert,run_underlying hst,run_underlying hdt,Conv.intToInt,hc]) h
theorem P4 {fn:Fn}{first cap:Array Operand}(fs cs:List Value)(h1:first.toList.map (Bw N ρ)=fs)(h2:cap.toList.map (Bw N ρ)=cs)(hu:Up ops N ρ ⟨some d,.makeFunc fn first cap,ty,pos,aft,g⟩)
  (h:LW P ops w0 Q os ks (mk N (D3 ρ d (.func fn fs.toArray cs.toArray))) w):LW P ops w0 Q (⟨some d,.makeFunc fn first cap,ty,pos,aft,g⟩::os) (0::ks) (mk N ρ) w :=
 CP (by decide) rfl hu _ (fun w' _=>by
  have e1:first.map (Bw N ρ)=fs.toArray:=by rw[← h1];apply Array.ext';simp
  have e2:cap.map (Bw N ρ)=cs.toArray:=by rw[← h2];apply Array.ext';simp
  simp[execOp,Instr.makeFunc,e1,e2]) h
end ops
end
section
abbrev Bk (α:Type):=Array Obj→Value→α→List Nat→Prop
structure BT {α:Type}(E:Bk α):Prop where
 cells:∀ {H v x F},E H v x F→v.cells=#[v]
 one:∀ {H v x F},E H v x F→v.oneCell'=true
 lt:∀ {H v x F},E H v x F→∀b∈F,b<H.size
 stable:∀ {H H' v x F},E H v x F→(∀b∈F,H'[b]? = H[b]?)→E H' v x F
def els {α:Type}(E:Bk α)(H:Array Obj):List Value→List α→List Nat→Prop
 |[],[],F=>F=[]
 |u::us,x::xs,F=>∃F1 F2,F=F1++F2∧E H u x F1∧els E H us xs F2
 |_,_,_=>False
section els
variable {α:Type} {E:Bk α} {H H':Array Obj}
theorem els.length:∀ {us:List Value}{xs:List α}{F:List Nat},els E H us xs F→us.length=xs.length
 |[],[],_,_=>rfl
 |_::_,_::_,_,⟨_,_,_,_,h⟩=>by simp[els.length h]
 |[],_::_,_,h=>h.elim
 |_::_,[],_,h=>h.elim
theorem els.stable (hE:BT E):∀ {us:List Value}{xs:List α}{F:List Nat},els E H us xs F→(∀b∈F,H'[b]? = H[b]?)→els E H' us xs F
 |[],[],_,h,_=>h
 |_::_,_::_,_,⟨F1,F2,rfl,h1,h2⟩,hb =>
  ⟨F1,F2,rfl,hE.stable h1 fun b hh=>hb b (z8 _ hh),els.stable hE h2 fun b hh=>hb b (z1 _ hh)⟩
 |[],_::_,_,h,_=>h.elim
 |_::_,[],_,h,_=>h.elim
theorem els.lt (hE:BT E):∀ {us:List Value}{xs:List α}{F:List Nat},els E H us xs F→∀b∈F,b<H.size
 |[],[],_,h,b,hb=>by rw[show _=[]from h]at hb;cases hb
 |_::_,_::_,_,⟨F1,F2,rfl,h1,h2⟩,b,hb=>(zi.1 hb).elim (hE.lt h1 b) (els.lt hE h2 b)
 |[],_::_,_,h,_,_=>h.elim
 |_::_,[],_,h,_,_=>h.elim
theorem els.get:∀ {us:List Value}{xs:List α}{F:List Nat}{k:Nat}(d:α),els E H us xs F→k<xs.length →
  ∃u F1,us[k]? = some u∧E H u (xs.getD k d) F1∧∀b∈F1,b∈F
 |u::us,x::xs,_,0,d,⟨F1,F2,rfl,h1,h2⟩,_=>⟨u,F1,rfl,h1,fun b hb=>z8 _ hb⟩
 |u::us,x::xs,_,k+1,d,⟨F1,F2,rfl,h1,h2⟩,hk=>by
  obtain⟨u',G,hu,hx,hb⟩:=els.get d h2 (by simpa using hk)
  exact⟨u',G,by simpa using hu,by simpa using hx,fun b hh=>z1 _ (hb b hh)⟩
 |[],[],_,_,_,_,hk=>by simp at hk
 |[],_::_,_,_,_,h,_=>h.elim
theorem els.append:∀ {us vs:List Value}{xs ys:List α}{F G:List Nat},els E H us xs F→els E H vs ys G→els E H (us++vs) (xs++ys) (F++G)
 |[],_,[],_,_,_,h,k=>by rw[show _=[]from h];exact k
 |_::_,_,_::_,_,_,_,⟨F1,F2,rfl,h1,h2⟩,k=>⟨F1,_,by rw[List.append_assoc],h1,els.append h2 k⟩
 |[],_,_::_,_,_,_,h,_=>h.elim
 |_::_,_,[],_,_,_,h,_=>h.elim
theorem els.imp {E':Bk α}(h:∀ {H v x F},E H v x F→E' H v x F):∀ {us:List Value}{xs:List α}{F:List Nat},els E H us xs F→els E' H us xs F
 |[],[],_,hh=>hh
 |_::_,_::_,_,⟨F1,F2,e,h1,h2⟩=>⟨F1,F2,e,h h1,els.imp h h2⟩
 |[],_::_,_,hh=>hh.elim
 |_::_,[],_,hh=>hh.elim
theorem els.one (hE:BT E):∀ {us:List Value}{xs:List α}{F:List Nat},els E H us xs F→∀u∈us,u.oneCell'=true
 |[],[],_,_,u,hu=>by cases hu
 |_::_,_::_,_,⟨F1,F2,rfl,h1,h2⟩,v,hv=>(ze.1 hv).elim (fun e=>e ▸ hE.one h1) (els.one hE h2 v)
 |[],_::_,_,h,_,_=>h.elim
 |_::_,[],_,h,_,_=>h.elim
end els
def rI:Bk Int:=fun _ v x F=>v=.int .i64 x∧F=[]∧-9223372036854775808≤x∧x≤9223372036854775807
def rU:Bk UInt8:=fun _ v x F=>v=.int .u8 (x.toNat:Int)∧F=[]
theorem AS:BT rI:=⟨fun h=>by rw[h.1];rfl,fun h=>by rw[h.1];rfl,fun h b hb=>(by rw[h.2.1]at hb;cases hb),fun h _=>h⟩
theorem Zo:BT rU:=⟨fun h=>by rw[h.1];rfl,fun h=>by rw[h.1];rfl,fun h b hb=>(by rw[h.2]at hb;cases hb),fun h _=>h⟩
def B3 {α:Type}(E:Bk α):Bk (List α):=fun H v xs F =>
 (∃a cap,v=.slice a 0 cap∧xs=[]∧F=[]) ∨
 ∃us g off cap cur e fr F',els E H us xs F'∧v=.slice (some ⟨g,off,none⟩) xs.length cap∧H[g]? = some (.cells cur e fr)∧(cur.toList.drop off).take xs.length=us∧xs.length≤maxLen∧F=g::F'
def AY {α:Type}(E:Bk α)(e:TypeId):Bk (List α):=fun H v xs F =>
 (v=.slice none 0 0∧xs=[]∧F=[]) ∨
 ∃us g cap cur F',els E H us xs F'∧v=.slice (some ⟨g,0,none⟩) xs.length cap∧H[g]? = some (.cells cur e (0,0))∧xs.length≤cap∧cap≤maxLen∧cur.size=cap∧cur.toList.take xs.length=us∧F=g::F'
theorem getElem?_lt {H:Array Obj}{g:Nat}{o:Obj}(h:H[g]? = some o):g<H.size:=(Array.getElem?_eq_some_iff.1 h).1
section lists
variable {α:Type} {E:Bk α} {e:TypeId} {H:Array Obj} {v:Value} {xs:List α} {F:List Nat}
theorem DG (hE:BT E):BT (B3 E) where
 cells:=by
  rintro H v xs F (⟨a,cap,rfl,_⟩|⟨us,g,off,cap,cur,e,fr,F',_,rfl,_⟩) <;> rfl
 one:=by
  rintro H v xs F (⟨a,cap,rfl,_⟩|⟨us,g,off,cap,cur,e,fr,F',_,rfl,_⟩) <;> rfl
 lt:=by
  rintro H v xs F (⟨a,cap,rfl,_,rfl⟩|⟨us,g,off,cap,cur,e,fr,F',h,rfl,hg,_,_,rfl⟩) b hb
  ·cases hb
  ·rcases ze.1 hb with rfl|hb
   ·exact getElem?_lt hg
   ·exact h.lt hE b hb
 stable:=by
  rintro H H' v xs F (⟨a,cap,rfl,h1,h2⟩|⟨us,g,off,cap,cur,e,fr,F',h,rfl,hg,hw,hml,rfl⟩) hb
  ·exact .inl ⟨a,cap,rfl,h1,h2⟩
  ·exact .inr ⟨us,g,off,cap,cur,e,fr,F',h.stable hE fun b hh=>hb b<|z3 _ hh,rfl,by rw[hb g (z0 ..)];exact hg,hw,hml,rfl⟩
theorem Bj (hE:BT E):BT (AY E e) where
 cells:=by
  rintro H v xs F (⟨rfl,_⟩|⟨us,g,cap,cur,F',_,rfl,_⟩) <;> rfl
 one:=by
  rintro H v xs F (⟨rfl,_⟩|⟨us,g,cap,cur,F',_,rfl,_⟩) <;> rfl
 lt:=by
  rintro H v xs F (⟨rfl,_,rfl⟩|⟨us,g,cap,cur,F',h,rfl,hg,_,_,_,_,rfl⟩) b hb
  ·cases hb
  ·rcases ze.1 hb with rfl|hb
   ·exact getElem?_lt hg
   ·exact h.lt hE b hb
 stable:=by
  rintro H H' v xs F (⟨rfl,h1,h2⟩|⟨us,g,cap,cur,F',h,rfl,hg,r1,r2,r3,r4,rfl⟩) hb
  ·exact .inl ⟨rfl,h1,h2⟩
  ·exact .inr ⟨us,g,cap,cur,F',h.stable hE fun b hh=>hb b<|z3 _ hh,rfl,by rw[hb g (z0 ..)];exact hg,r1,r2,r3,r4,rfl⟩
theorem AY.rd {E':Bk α}(hi:∀ {H v x F},E H v x F→E' H v x F)(h:AY E e H v xs F):B3 E' H v xs F:=by
 rcases h with⟨rfl,rfl,rfl⟩|⟨us,g,cap,cur,F',h,rfl,hg,r1,r2,r3,r4,rfl⟩
 ·exact .inl ⟨none,0,rfl,rfl,rfl⟩
 ·exact .inr ⟨us,g,0,cap,cur,e,(0,0),F',h.imp hi,rfl,hg,by simpa using r4,zO,rfl⟩
theorem B3.isSl (h:B3 E H v xs F):Er v xs.length:=by
 rcases h with⟨a,cap,rfl,rfl,_⟩|⟨us,g,off,cap,cur,e,fr,F',_,rfl,_⟩
 ·exact⟨a,cap,rfl,fun _=>rfl⟩
 ·exact⟨_,cap,rfl,fun h=>by cases h⟩
theorem Ew (g off n cap k:Nat):Ax (.slice (some ⟨g,off,none⟩) n cap) k 1=.pointer (some ⟨g,off+k,none⟩):=by
 unfold Ax Addr.add
 simp only[Nat.mul_one]
 split
 ·rename_i h;subst h;rfl
 ·rfl
theorem B3.get (d:α){k:Nat}(h:B3 E H v xs F)(hk:k<xs.length):∃u F1,Fj H (Ax v k 1)=some u∧E H u (xs.getD k d) F1∧∀b∈F1,b∈F:=by
 rcases h with⟨a,cap,rfl,rfl,_⟩|⟨us,g,off,cap,cur,e,fr,F',h,rfl,hg,hw,_,rfl⟩
 ·simp at hk
 ·obtain⟨u,F1,hu,hx,hb⟩:=h.get d hk
  refine⟨u,F1,?_,hx,fun b hh=>z3 _ (hb b hh)⟩
  rw[Ew]
  simp only[Fj,Ch,hg]
  rw[← hw,List.getElem?_take,if_pos hk,List.getElem?_drop]at hu
  simpa using hu
theorem B3.lenle (h:B3 E H v xs F):xs.length≤maxLen:=by
 rcases h with⟨a,cap,_,rfl,_⟩|⟨us,g,off,cap,cur,e,fr,F',_,_,_,_,h,_⟩
 ·simp
 ·exact h
theorem AY.lenle (h:AY E e H v xs F):xs.length≤maxLen:=by
 rcases h with⟨_,rfl,_⟩|⟨us,g,cap,cur,F',_,_,_,r1,r2,_⟩
 ·simp
 ·omega
end lists
structure Az (F:List Nat)(w w':World):Prop where
 os:w'.os=w.os
 tape:w'.tape=w.tape
 output:w'.output=w.output
 size:w.heap.size≤w'.heap.size
 block:∀k,k<w.heap.size→k∉F→w'.heap[k]? = w.heap[k]?
theorem Az.below {F:List Nat}{w0 w w':World}{B:Nat}(h:Below B w0 w)(c:Az F w w')(hF:∀b∈F,B≤b)(hB:B≤w.heap.size):Below B w0 w' :=
 h.trans ⟨c.os,c.tape,c.output,c.size,fun k hk=>c.block k zO fun hm=>by have:=hF k hm;omega⟩
theorem AB.drew {w w':World}(h:AB w w'):AB w w'.drew:=⟨h.os,h.tape,h.output,h.size,h.block⟩
theorem AB.of_drew {w w':World}(h:AB w.drew w'):AB w w':=⟨h.os,h.tape,h.output,h.size,h.block⟩
def Fr {α:Type}(E:Bk α)(B U:Nat)(H:Array Obj)(v:Value)(x:α):Prop:=∃F,E H v x F∧F.Nodup∧∀b∈F,B≤b∧b<U
def Rd {α:Type}(E:Bk α)(H:Array Obj)(v:Value)(x:α):Prop:=∃F,E H v x F
section
variable {α:Type} {E:Bk α} {B U:Nat} {v:Value} {x:α} {w w':World}
theorem Fr.ext (hE:BT E)(h:Fr E B U w.heap v x)(k:AB w w'):Fr E B U w'.heap v x:=by
 obtain⟨F,h1,h2,h3⟩:=h
 exact⟨F,hE.stable h1 fun b hb=>k.heap (hE.lt h1 b hb),h2,h3⟩
theorem Fr.up (hE:BT E){H:Array Obj}(h:Fr E B U H v x):Fr E B H.size H v x:=by
 obtain⟨F,h1,h2,h3⟩:=h
 exact⟨F,h1,h2,fun b hb=>⟨(h3 b hb).1,hE.lt h1 b hb⟩⟩
theorem Fr.low {H:Array Obj}{B':Nat}(h:Fr E B U H v x)(hB:B'≤B):Fr E B' U H v x:=by
 obtain⟨F,h1,h2,h3⟩:=h
 exact⟨F,h1,h2,fun b hb=>⟨Aa hB (h3 b hb).1,(h3 b hb).2⟩⟩
theorem Fr.chg (hE:BT E){F:List Nat}(h:Fr E B U w.heap v x)(c:Az F w w')(hF:∀b∈F,b<B∨U≤b):Fr E B U w'.heap v x:=by
 obtain⟨G,h1,h2,h3⟩:=h
 refine⟨G,hE.stable h1 fun b hb=>c.block b (hE.lt h1 b hb) fun hm=>?_,h2,h3⟩
 have:=h3 b hb
 have:=hF b hm
 omega
theorem Rd.ext (hE:BT E)(h:Rd E w.heap v x)(k:AB w w'):Rd E w'.heap v x:=by
 obtain⟨F,h1⟩:=h
 exact⟨F,hE.stable h1 fun b hb=>k.heap (hE.lt h1 b hb)⟩
end
section
variable {α:Type} {E:Bk α} {e:TypeId} {B U:Nat} {H:Array Obj} {v:Value} {xs:List α}
theorem Rd.lenle (h:Rd (B3 E) H v xs):xs.length≤9223372036854775807:=by
 obtain⟨F,h⟩:=h
 have:=B3.lenle h
 simp only[maxLen]at this
 omega
theorem Rd.isSl (h:Rd (B3 E) H v xs):Er v xs.length:=by obtain⟨F,h⟩:=h;exact B3.isSl h
theorem Rd.get (d:α){k:Nat}(h:Rd (B3 E) H v xs)(hk:k<xs.length):∃u,Fj H (Ax v k 1)=some u∧Rd E H u (xs.getD k d):=by
 obtain⟨F,h⟩:=h
 obtain⟨u,F1,h1,h2,_⟩:=B3.get d h hk
 exact⟨u,h1,F1,h2⟩
theorem Rd.getI {xs:List Int}{k:Nat}(h:Rd (B3 rI) H v xs)(hk:k<xs.length):Fj H (Ax v k 1)=some (.int .i64 (xs.getD k 0))∧-9223372036854775808≤xs.getD k 0∧xs.getD k 0≤9223372036854775807:=by
 obtain⟨u,h1,F,h2,_,h3,h4⟩:=Rd.get (0:Int) h hk
 rw[h1,h2]
 exact⟨rfl,h3,h4⟩
theorem Fr.rd {E':Bk α}(hi:∀ {H v x F},E H v x F→E' H v x F)(h:Fr (AY E e) B U H v xs):Rd (B3 E') H v xs:=by
 obtain⟨F,h,_⟩:=h
 exact⟨F,h.rd hi⟩
theorem Fr.rd1 {xs:List Int}(h:Fr (AY rI e) B U H v xs):Rd (B3 rI) H v xs:=h.rd id
theorem Fr.rd2 {e':TypeId}{xs:List (List Int)}(h:Fr (AY (AY rI e) e') B U H v xs):Rd (B3 (B3 rI)) H v xs:=h.rd fun h=>h.rd id
theorem Fr.isSl (h:Fr (AY E e) B U H v xs):Er v xs.length:=by obtain⟨F,h,_⟩:=h;exact(h.rd id:B3 E H v xs F).isSl
end
theorem Ju {α:Type}{E:Bk α}{e:TypeId}(B U:Nat)(H:Array Obj):Fr (AY E e) B U H (.slice none 0 0) []:=⟨[],.inl ⟨rfl,rfl,rfl⟩,zk,fun c hc=>(by cases hc)⟩
theorem Rd.getU {H:Array Obj}{v:Value}{xs:List UInt8}{k:Nat}(h:Rd (B3 rU) H v xs)(hk:k<xs.length):Fj H (Ax v k 1)=some (.int .u8 ((xs.getD k 0).toNat:Int))∧0≤k:=by
 obtain⟨u,h1,F,h2,_⟩:=Rd.get (0:UInt8) h hk
 rw[h1,h2]
 exact⟨rfl,Nat.zero_le _⟩
theorem B5 {a b:Int}(h:a=b):Ending.returned (.int .i64 a)=.returned (.int .i64 b):=by rw[h]
theorem AF {a b:Bool}(h:a=b):Ending.returned (.bool a)=.returned (.bool b):=by rw[h]
theorem Di:BT (B3 rU):=DG Zo
theorem g1:BT (B3 rI):=DG AS
theorem g2:BT (B3 (B3 rI)):=DG g1
theorem g3:BT (B3 (B3 (B3 rI))):=DG g2
theorem o1 {e:TypeId}:BT (AY rI e):=Bj AS
theorem o2 {e e':TypeId}:BT (AY (AY rI e) e'):=Bj o1
theorem o3 {e e' e'':TypeId}:BT (AY (AY (AY rI e) e') e''):=Bj o2
end
section
theorem BZ (w:World)(o:Obj):AB w (w.alloc o):=(Below.refl _ _).alloc (A9 _) o
theorem IY {α:Type}{E:Bk α}(hE:BT E){e:TypeId}{w:World}{us:List Value}{xs:List α}{F:List Nat}{cur:Array Value}(h:els E w.heap us xs F)(hm:cur.size≤maxLen)
  (hc:cur.toList.take xs.length=us) (hl:xs.length≤cur.size) :
  AY E e (w.alloc (.cells cur e)).heap (.slice (some ⟨w.heap.size,0,none⟩) xs.length cur.size) xs (w.heap.size::F):=by
 refine .inr ⟨us,w.heap.size,cur.size,cur,F,h.stable hE fun b hb=>?_,rfl,?_,hl,hm,rfl,hc,rfl⟩
 ·exact Below.heap_alloc _ _ _<|h.lt hE b hb
 ·show(w.heap.push _)[w.heap.size]? = _
  simp
theorem Ko {f:Nat→Value}(n:Nat):Array.map f (Array.range n)=((List.range n).map f).toArray:=by
 apply Array.ext';simp
section run
variable {P:Program} {w:World}
theorem Zp {t e:TypeId}{s b:Nat}{z:Value}(ht:P.underlying t=some (.slice e))(hi:TI P e s z b) :
  (Instr.buildSlice t 0 #[]).run P w=.ok (.slice (some ⟨w.heap.size,0,none⟩) 0 0) (w.alloc (.cells #[] e)):=by
 obtain⟨i,h1,h2,h3,h4⟩:=hi.get
 simp[Instr.buildSlice,run_underlying ht,sizeOf,typeInfo,h1,Instr.fill,newRow,Ko]
theorem SH {t e:TypeId}{b:Nat}{z u:Value}(ht:P.underlying t=some (.slice e))(hi:TI P e 1 z b)(hu:u.cells=#[u])(hz:z.cells=#[z]) :
  (Instr.buildSlice t 1 #[(0,u)]).run P w=.ok (.slice (some ⟨w.heap.size,0,none⟩) 1 1) (w.alloc (.cells #[u] e)):=by
 obtain⟨i,h1,h2,h3,h4⟩:=hi.get
 simp[Instr.buildSlice,run_underlying ht,sizeOf,typeInfo,zeroValue,h1,h2,h3,Instr.fill,newRow,hu,hz,Ko,List.range_succ]
end run
section append
variable {P:Program} {w:World} {α:Type} {E:Bk α} {t ty e:TypeId} {b:Nat} {z:Value}
theorem GN (hE:BT E) (ht:P.underlying t = some (.slice e)) (hi:TI P e 1 z b) (hz:z.cells = #[z]) {v:Value} {xs:List α} {F:List Nat} (hv:AY E e w.heap v xs F) (hn:F.Nodup)
  {a:Value} {ys:List α} {G us:List Nat} (ha:B3 E w.heap a ys G) (hus:us = G.drop 1) (hbytes:(xs.length + ys.length) * b≤140737488355328) (hmx:xs.length + ys.length≤maxLen)
  (hdis:∀ c∈us,c∉F) (hnu:us.Nodup) :
  ∃ v' w' F',(Builtin.append_ #[t,t] ty #[v,a]).run P w = .ok v' w'∧AY E e w'.heap v' (xs++ys) F'∧F'.Nodup∧(∀ c∈F',c∈F∨c∈us∨c = w.heap.size)∧Az (F.take 1) w w':=by
 obtain ⟨i,h1,h2,h3,h4⟩:=hi.get
 subst h4
 have hsmall:xs.length + ys.length≤9223372036854775807:=by simp only [maxLen] at hmx; omega
 rcases ha with ⟨a0,cap0,rfl,rfl,rfl⟩ | ⟨asq,g,off,cap,cur,e',fr,G',hels,rfl,hg,hw,_,rfl⟩
 ·-- nothing is appended
  have hle:AY E e w.heap v xs F:=hv
  have hsl:∃ b0 c0,v = .slice b0 xs.length c0∧xs.length≤c0∧(b0 = none→xs.length = 0):=by
   rcases hv with ⟨rfl,rfl,_⟩ | ⟨_,g,cap,cur,F',_,rfl,_,hh,_⟩
   ·exact ⟨none,0,rfl,by simp,fun _=>rfl⟩
   ·exact ⟨_,cap,rfl,hh,fun h=>by cases h⟩
  obtain ⟨b0,c0,rfl,hc0,hb0⟩:=hsl
  refine ⟨_,w,F,?_,by simpa using hle,hn,fun c hc=>.inl hc,⟨rfl,rfl,rfl,A9 _,fun _ _ _=>rfl⟩⟩
  have hf:(Builtin.firstCells 1 0 (.slice a0 0 cap0)).run P w = .ok #[] w:=by
   cases a0 <;> simp [Builtin.firstCells,loadCells,loadCellsFrom]
  cases b0 with
  | none=>simp [Builtin.append_,run_underlying ht,sizeOf,typeInfo,h1,h3,Builtin.lenOf,hc0,hf]
  | some a1=>simp [Builtin.append_,run_underlying ht,sizeOf,typeInfo,h1,h3,Builtin.lenOf,hc0,hf,storeCells]
 ·simp only [List.drop_succ_cons,List.drop_zero] at hus
  subst hus
  have hasl:asq.length = ys.length:=hels.length
  have hnews:∀ j u,asq[j]? = some u→w.cell? ((⟨g,off,none⟩:Addr).add j) = some u:=by
   intro j u hj
   have e1:(⟨g,off,none⟩:Addr).add j = ⟨g,off + j,none⟩:=by
    unfold Addr.add
    split
    ·rename_i hh; subst hh; rfl
    ·rfl
   rw [e1,Cu]
   simp only [Ch,hg]
   rw [← hw,List.getElem?_take] at hj
   split at hj
   ·rw [List.getElem?_drop] at hj; simpa using hj
   ·cases hj
  have h1c:∀ u∈asq,u.oneCell' = true:=hels.one hE
  have hl1:asq.length = ys.length * i.size:=by rw [h3,hasl]; omega
  -- the new block
  have made:∀ (w1:World) (ous:List Value) (F0:List Nat) (rest:Nat),w1.heap = w.heap→w1.os = w.os→w1.tape = w.tape→w1.output = w.output→els E w.heap ous xs F0→(∀ c∈F0,c∈F)→F0.Nodup →
    (xs.length + ys.length + rest)≤maxLen→∀ (ow:List Nat),
    ∃ F',AY E e (w1.alloc (.cells (ous.toArray++asq.toArray++Builtin.zeroCells z.cells rest) e)).heap (.slice (some ⟨w.heap.size,0,none⟩) (xs.length + ys.length) (xs.length + ys.length + rest)) (xs++ys) F'∧F'.Nodup ∧
     (∀ c∈F',c∈F∨c∈us∨c = w.heap.size)∧Az ow w (w1.alloc (.cells (ous.toArray++asq.toArray++Builtin.zeroCells z.cells rest) e)):=by
   intro w1 ous F0 rest hh ho htp hop hou hsub hnd hmax ow
   have happ:=hou.append hels
   have hzc:(Builtin.zeroCells z.cells rest).size = rest:=by simp [Builtin.zeroCells,hz]
   have hsz:(ous.toArray++asq.toArray++Builtin.zeroCells z.cells rest).size = xs.length + ys.length + rest:=by
    simp only [Array.size_append,List.size_toArray,hzc,hasl,hou.length]
   have hnew:=IY (e:=e) (w:=w1) hE (us:=ous++asq) (xs:=xs++ys) (F:=F0++us) (cur:=ous.toArray++asq.toArray++Builtin.zeroCells z.cells rest)
    (by rw [hh]; exact happ) (by rw [hsz]; exact hmax) (by
     rw [Array.toList_append,Array.toList_append]
     rw [show (xs++ys).length = (ous++asq).length from by simp [hou.length,hasl]]
     exact List.take_left) (by rw [hsz,z4]; omega)
   rw [hh,hsz,z4] at hnew
   refine ⟨_,hnew,?_,?_,?_⟩
   ·rw [List.nodup_cons]
    refine ⟨fun hm=>?_,?_⟩
    ·have:=happ.lt hE _ hm; omega
    ·rw [List.nodup_append]
     refine ⟨hnd,hnu,?_⟩
     rintro x hx y hy rfl
     exact hdis x hy<|hsub x hx
   ·intro c hc
    rcases ze.1 hc with rfl | hc
    ·exact .inr<|.inr rfl
    ·rcases zi.1 hc with hc | hc
     ·exact .inl<|hsub c hc
     ·exact .inr<|.inl hc
   ·refine ⟨ho,htp,hop,?_,fun k hk _=>?_⟩
    ·show w.heap.size≤(w1.heap.push _).size
     rw [hh]; simp
    ·have:=Below.heap_alloc w1 (.cells (ous.toArray++asq.toArray++Builtin.zeroCells z.cells rest) e) k (by rw [hh]; exact hk)
     rw [this,hh]
  rcases hv with ⟨rfl,rfl,rfl⟩ | ⟨ous,gv,capv,curv,F0,hels0,rfl,hgv,hle,hcm,hcs,htk,rfl⟩
  ·-- nil
   by_cases hy:ys.length = 0
   ·have hy0:ys = []:=List.eq_nil_of_length_eq_zero hy
    subst hy0
    have has0:asq = []:=List.eq_nil_of_length_eq_zero hasl
    subst has0
    rw [show us = [] from hels]
    refine ⟨.slice none 0 0,w,[],?_,.inl ⟨rfl,rfl,rfl⟩,zk,fun c hc=>(by cases hc),⟨rfl,rfl,rfl,A9 _,fun _ _ _=>rfl⟩⟩
    simp [Builtin.append_,run_underlying ht,sizeOf,typeInfo,h1,Builtin.lenOf,Builtin.firstCells,loadCells,loadCellsFrom]
   ·have hr:=run_append_nil (P:=P) w t ty e i z ht h1 h2 ⟨g,off,none⟩ ys.length cap asq hl1 hnews zO (by simp at hsmall; omega) (by simp only [zb,Nat.zero_add] at hbytes; omega)
    have hge:=grownCap_ge w ys.length 0 e
    have hgm:=grownCap_le_maxLen w ys.length 0 e (by simpa using hmx)
    obtain ⟨F',q1,q2,q3,q4⟩:=made w.drew [] [] (grownCap w ys.length 0 e - ys.length) rfl rfl rfl rfl rfl (fun c hc=>by cases hc) zk (by simp; omega) (List.take 1 [])
    refine ⟨_,_,F',hr,?_,q2,q3,?_⟩
    ·have ea:(([]:List α).length + ys.length + (grownCap w ys.length 0 e - ys.length)) = grownCap w ys.length 0 e:=by simp; omega
     rw [ea] at q1
     simpa using q1
    ·simpa using q4
  ·by_cases hroom:xs.length + ys.length≤capv
   ·-- room
    have hr:=run_append_room (P:=P) w t ty e i ht h1 gv xs.length capv curv hgv ⟨g,off,none⟩ ys.length cap asq hl1 hnews h1c hroom (by rw [h3,hasl,hcs]; omega)
    rw [h3] at hr
    refine ⟨_,_,gv :: (F0++us),hr,?_,?_,?_,?_⟩
    ·have hgF:gv∉F0:=(List.nodup_cons.1 hn).1
     have hgU:gv∉us:=fun hm=>hdis gv hm (z0 ..)
     refine .inr ⟨ous++asq,gv,capv,_,F0++us,?_,by rw [z4],setRow_heap w gv curv _ e _ hgv,by rw [z4]; exact hroom,hcm,?_,?_,rfl⟩
     ·refine (hels0.append hels).stable hE fun c hc=>setRow_other w gv c _ fun hcg=>?_
      subst hcg
      rcases zi.1 hc with hc | hc
      ·exact hgF hc
      ·exact hgU hc
     ·simp only [List.size_toArray,z4,List.length_take,List.length_drop,Array.length_toList]
      omega
     ·rw [z4]
      simp only [Nat.mul_one]
      rw [htk,show xs.length + ys.length = (ous++asq).length from by simp [hels0.length,hasl]]
      exact List.take_left
    ·rw [List.nodup_cons,List.nodup_append]
     have hn':=List.nodup_cons.1 hn
     refine ⟨?_,hn'.2,hnu,?_⟩
     ·intro hm
      rcases zi.1 hm with hm | hm
      ·exact hn'.1 hm
      ·exact hdis gv hm (z0 ..)
     ·rintro x hx y hy rfl
      exact hdis x hy<|z3 _ hx
    ·intro c hc
     rcases ze.1 hc with rfl | hc
     ·exact .inl (z0 ..)
     ·rcases zi.1 hc with hc | hc
      ·exact .inl<|z3 _ hc
      ·exact .inr<|.inl hc
    ·refine ⟨rfl,rfl,rfl,by simp,fun k _ hk=>setRow_other w gv k _ fun hh=>hk (by simp [hh])⟩
   ·-- grown
    have holds:∀ j u,ous[j]? = some u→w.cell? ((⟨gv,0,none⟩:Addr).add j) = some u:=by
     intro j u hj
     have e1:(⟨gv,0,none⟩:Addr).add j = ⟨gv,j,none⟩:=by
      unfold Addr.add
      split
      ·rename_i hh; subst hh; rfl
      ·simp
     rw [e1,Cu]
     simp only [Ch,hgv]
     rw [← htk,List.getElem?_take] at hj
     split at hj
     ·simpa using hj
     ·cases hj
    have hr:=run_append_grow (P:=P) w t ty e i z ht h1 h2 ⟨gv,0,none⟩ xs.length capv ous (by rw [h3,hels0.length]; omega) holds ⟨g,off,none⟩ ys.length cap asq hl1 hnews zO zO<|growslice_fits zO hbytes
    have hge:=grownCap_ge w (xs.length + ys.length) capv e
    have hgm:=grownCap_le_maxLen w (xs.length + ys.length) capv e hmx
    obtain ⟨F',q1,q2,q3,q4⟩:=made w.drew ous F0 (grownCap w (xs.length + ys.length) capv e - (xs.length + ys.length)) rfl rfl rfl rfl hels0 (fun c hc=>z3 _ hc) (List.nodup_cons.1 hn).2 zO (List.take 1 (gv :: F0))
    refine ⟨_,_,F',hr,?_,q2,q3,q4⟩
    have ea:(xs.length + ys.length + (grownCap w (xs.length + ys.length) capv e - (xs.length + ys.length))) = grownCap w (xs.length + ys.length) capv e:=by omega
    rw [ea] at q1
    exact q1
theorem V4 (ht:P.underlying t=some (.slice e))(hi:TI P e 1 z b)(hz:z.cells=#[z]){v:Value}{xs:List Int}{B U:Nat}(hv:Fr (AY rI e) B U w.heap v xs)(hB:B≤w.heap.size)
  {a:Value} {ys:List Int} (ha:Rd (B3 rI) w.heap a ys) (hbytes:(xs.length+ys.length)*b≤140737488355328) (hmx:xs.length+ys.length≤maxLen) :
  ∃v' w' F,(Builtin.append_ #[t,t] ty #[v,a]).run P w=.ok v' w'∧Fr (AY rI e) B w'.heap.size w'.heap v' (xs++ys)∧Az F w w'∧∀c∈F,B≤c∧c<U:=by
 obtain⟨F,h1,h2,h3⟩:=hv
 obtain⟨G,hG⟩:=ha
 have hGe:G.drop 1=[]:=by
  rcases hG with⟨_,_,_,_,rfl⟩|⟨us,g,off,cap,cur,e',fr,F',hels,_,_,_,_,rfl⟩
  ·rfl
  ·show F'=[]
   have:∀ {us:List Value} {xs:List Int} {F:List Nat},els rI w.heap us xs F→F=[]:=by
    intro us xs
    induction us generalizing xs with
    |nil=>intro F h;cases xs with
     |nil=>exact h
     |cons=>exact h.elim
    |cons u us ih =>
     intro F h
     cases xs with
     |nil=>exact h.elim
     |cons x xs =>
      obtain⟨F1,F2,rfl,q1,q2⟩:=h
      rw[q1.2.1,ih q2];rfl
   exact this hels
 obtain⟨v',w',F',r1,r2,r3,r4,r5⟩:=GN (P:=P) (ty:=ty) AS ht hi hz h1 h2 hG rfl hbytes hmx (by rw[hGe];intro c hc;cases hc) (by rw[hGe];exact zk)
 refine⟨v',w',F.take 1,r1,⟨F',r2,r3,fun c hc=>?_⟩,r5,fun c hc=>h3 c (zj hc)⟩
 have hlt:=o1.lt r2 c hc
 refine⟨?_,hlt⟩
 rcases r4 c hc with hh|hh|hh
 ·exact (h3 c hh).1
 ·rw[hGe]at hh;cases hh
 ·omega
theorem V5 (hE:BT E)(ht:P.underlying t=some (.slice e))(hi:TI P e 1 z b)(hz:z.cells=#[z]){v:Value}{xs:List α}{B U:Nat}(hv:Fr (AY E e) B U w.heap v xs)(hB:B≤w.heap.size)
  {a:Value} {ys:List α} {B' U':Nat} (ha:Fr (AY E e) B' U' w.heap a ys) (hU:U≤B') (hBB:B≤B') (hbytes:(xs.length+ys.length)*b≤140737488355328) (hmx:xs.length+ys.length≤maxLen) :
  ∃v' w' F,(Builtin.append_ #[t,t] ty #[v,a]).run P w=.ok v' w'∧Fr (AY E e) B w'.heap.size w'.heap v' (xs++ys)∧Az F w w'∧∀c∈F,B≤c∧c<U:=by
 obtain⟨F,h1,h2,h3⟩:=hv
 obtain⟨G,g1,g2,g3⟩:=ha
 have gd:∀c∈G.drop 1,c∈G:=fun c hc=>List.mem_of_mem_drop hc
 obtain⟨v',w',F',r1,r2,r3,r4,r5⟩:=GN (P:=P) (ty:=ty) hE ht hi hz h1 h2 (g1.rd id) rfl hbytes hmx (fun c hc hF=>by have:=g3 c (gd c hc);have:=h3 c hF;omega)
  ((List.drop_sublist 1 G).nodup g2)
 refine⟨v',w',F.take 1,r1,⟨F',r2,r3,fun c hc=>?_⟩,r5,fun c hc=>h3 c (zj hc)⟩
 have hlt:=(Bj hE).lt r2 c hc
 refine⟨?_,hlt⟩
 rcases r4 c hc with hh|hh|hh
 ·exact (h3 c hh).1
 ·have:=g3 c (gd c hh);omega
 ·omega
end append
section ops
variable {P:Program} {ops:Array Oper} {w0:World} {Q:Act→World→Prop} {os:List Oper} {ks:List Nat} {N:Nat} {ρ:Nat→Value} {w:World}
 {d:Nat} {ty:TypeId} {pos:String} {aft:Array Edge} {g:Option (Nat×Bool)} {t e:TypeId} {z:Value} {b:Nat}
theorem BS {α:Type}(E:Bk α)(hE:BT E){s:Nat}(ht:P.underlying t=some (.slice e))(hi:TI P e s z b)(hu:Up ops N ρ ⟨some d,.buildSlice t 0 #[],ty,pos,aft,g⟩)
  (h:∀v w1,AB w w1→w1.heap.size=w.heap.size+1→Fr (AY E e) w.heap.size w1.heap.size w1.heap v ([]:List α)→LW P ops w0 Q os ks (mk N (D3 ρ d v)) w1) :
  LW P ops w0 Q (⟨some d,.buildSlice t 0 #[],ty,pos,aft,g⟩::os) (3::ks) (mk N ρ) w:=by
 have hrun:(execOp (Bw N ρ) ⟨some d,.buildSlice t 0 #[],ty,pos,aft,g⟩).run P w=.ok (.value (.slice (some ⟨w.heap.size,0,none⟩) 0 0)) (w.alloc (.cells #[] e)):=by
  simp only[execOp,zc,zh,Sem.run_bind,Zp ht hi,Result.andThen_ok,Sem.run_pure]
 refine MH rfl hu _ _ hrun (BZ _ _)<|h _ _ (BZ _ _) (by simp) ?_
 refine⟨_,IY (e:=e) (w:=w) hE (us:=[]) (xs:=([]:List α)) (F:=[]) (cur:=#[]) rfl (by simp) rfl (by simp),by simp,fun c hc=>?_⟩
 simp at hc
 subst hc
 simp
theorem Bs {α:Type}{E:Bk α}(hE:BT E){x:Operand}{u:Value}{y:α}{B U:Nat}(ht:P.underlying t=some (.slice e))(hi:TI P e 1 z b)(hz:z.cells=#[z])(hx:Bw N ρ x=u)(hy:Fr E B U w.heap u y)(hB:B≤w.heap.size)
  (hu:Up ops N ρ ⟨some d,.buildSlice t 1 #[(0,x)],ty,pos,aft,g⟩)
  (h:∀v w1,AB w w1→w1.heap.size=w.heap.size+1→Fr (AY E e) B w1.heap.size w1.heap v [y]→LW P ops w0 Q os ks (mk N (D3 ρ d v)) w1) :
  LW P ops w0 Q (⟨some d,.buildSlice t 1 #[(0,x)],ty,pos,aft,g⟩::os) (3::ks) (mk N ρ) w:=by
 obtain⟨F,h1,h2,h3⟩:=hy
 have hr:=SH (P:=P) (w:=w) ht hi (hE.cells h1) hz
 have hrun:(execOp (Bw N ρ) ⟨some d,.buildSlice t 1 #[(0,x)],ty,pos,aft,g⟩).run P w=.ok (.value (.slice (some ⟨w.heap.size,0,none⟩) 1 1)) (w.alloc (.cells #[u] e)):=by
  simp only[execOp,zc,zf,zh,Sem.run_bind,hx,hr,Result.andThen_ok,Sem.run_pure]
 refine MH rfl hu _ _ hrun (BZ _ _)<|h _ _ (BZ _ _) (by simp) ?_
 have hn:=IY (e:=e) (w:=w) hE (us:=[u]) (xs:=[y]) (F:=F++[]) (cur:=#[u]) ⟨F,[],rfl,h1,rfl⟩ (by simp[maxLen]) rfl (by simp)
 refine⟨_,hn,?_,fun c hc=>?_⟩
 ·rw[List.append_nil,List.nodup_cons]
  exact⟨fun hm=>by have:=hE.lt h1 _ hm;omega,h2⟩
 ·have hlt:=(Bj hE).lt hn c hc
  refine⟨?_,hlt⟩
  rcases ze.1 hc with rfl|hc
  ·exact hB
  ·exact (h3 c (by simpa using hc)).1
theorem Mf (B U:Nat)(H:Array Obj)(x:Int)(h:-9223372036854775808≤x∧x≤9223372036854775807):Fr rI B U H (.int .i64 x) x:=⟨[],⟨rfl,rfl,h.1,h.2⟩,zk,fun c hc=>by cases hc⟩
theorem FM {x y:Operand}{n:Nat}{c:Int}(ht:P.underlying t=some (.slice e))(hi:TI P e 1 (.int .i64 0) 8)(hx:Bw N ρ x=.int .i64 c)(hy:Bw N ρ y=.int .i64 c)(hc:c=(n:Int))(hn:n≤35184372088832)
  (hu:Up ops N ρ ⟨some d,.makeSlice t x y,ty,pos,aft,g⟩)
  (h:∀v w1,AB w w1→w1.heap.size=w.heap.size+1→Fr (AY rI e) w.heap.size w1.heap.size w1.heap v (List.replicate n 0)→LW P ops w0 Q os ks (mk N (D3 ρ d v)) w1) :
  LW P ops w0 Q (⟨some d,.makeSlice t x y,ty,pos,aft,g⟩::os) (3::ks) (mk N ρ) w:=by
 subst hc
 obtain⟨i,h1,h2,h3,h4⟩:=hi.get
 have hr:=run_make (P:=P) w t e i _ ht h1 h2 .i64 .i64 n n zO zO (by rw[h4];omega) zO
 have hrun:(execOp (Bw N ρ) ⟨some d,.makeSlice t x y,ty,pos,aft,g⟩).run P w=.ok (.value (.slice (some ⟨w.heap.size,0,none⟩) n n)) (w.alloc (.cells (madeCells (Value.int .i64 0).cells ((n:Int).toNat*i.size)) e)):=by
  simp only[execOp,Sem.run_bind,hx,hy,hr,Result.andThen_ok,Sem.run_pure,Int.toNat_natCast]
 refine MH rfl hu _ _ hrun (BZ _ _)<|h _ _ (BZ _ _) (by simp) ?_
 have hels:∀n,els rI w.heap (List.replicate n (.int .i64 0)) (List.replicate n (0:Int)) []:=by
  intro n
  induction n with
  |zero=>rfl
  |succ n ih=>exact⟨[],[],rfl,⟨rfl,rfl,zO,zO⟩,ih⟩
 have hmc:(madeCells (Value.int .i64 0).cells ((n:Int).toNat*i.size)).toList=List.replicate n (.int .i64 0):=by
  rw[h3]
  simp only[Int.toNat_natCast,Nat.mul_one,madeCells,Value.cells]
  apply List.ext_getElem
  ·simp
  ·intro j q1 q2
   simp[Nat.mod_one]
 have hcs:(madeCells (Value.int .i64 0).cells ((n:Int).toNat*i.size)).size=n:=by rw[size_madeCells,h3];simp
 have hn':=IY (e:=e) (w:=w) AS (us:=List.replicate n (.int .i64 0)) (xs:=List.replicate n (0:Int)) (F:=[]) (cur:=madeCells (Value.int .i64 0).cells ((n:Int).toNat*i.size)) (hels n) (by rw[hcs];simp only[maxLen];omega)
  (by rw[hmc,z5];exact za (by simp)) (by rw[hcs];simp)
 rw[hcs]at hn'
 simp only[z5]at hn'
 refine⟨_,by simpa using hn',by simp,fun c hc=>?_⟩
 simp at hc
 subst hc
 simp
theorem Ey {x y:Operand}{v a:Value}{xs ys:List Int}{B U:Nat}(ht:P.underlying t=some (.slice e))(hi:TI P e 1 z b)(hz:z.cells=#[z])(hx:Bw N ρ x=v)(hy:Bw N ρ y=a)(hv:Fr (AY rI e) B U w.heap v xs)(hB:B≤w.heap.size)
  (ha:Rd (B3 rI) w.heap a ys) (hbytes:(xs.length+ys.length)*b≤140737488355328) (hmx:xs.length+ys.length≤maxLen) (hu:Up ops N ρ ⟨some d,.call ⟨.builtin .append,#[x,y],#[t,t]⟩,ty,pos,aft,g⟩)
  (h:∀v1 w1 F,Az F w w1→(∀c∈F,B≤c∧c<U)→Fr (AY rI e) B w1.heap.size w1.heap v1 (xs++ys)→LW P ops w0 Q os ks (mk N (D3 ρ d v1)) w1) :
  LW P ops w0 Q (⟨some d,.call ⟨.builtin .append,#[x,y],#[t,t]⟩,ty,pos,aft,g⟩::os) (4::ks) (mk N ρ) w:=by
 obtain⟨v1,w1,F,r1,r2,r3,r4⟩:=V4 (P:=P) (ty:=ty) ht hi hz hv hB ha hbytes hmx
 exact Kn rfl hu v1 w1 (by simp only[execOp,resolve,invoke,builtin,zc,zf,zh,Sem.run_bind,Sem.run_pure,Result.andThen_ok,hx,hy,r1])<|h v1 w1 F r3 r4 r2
theorem Ez {α:Type}{E:Bk α}(hE:BT E){x y:Operand}{v a:Value}{xs ys:List α}{B U B' U':Nat}(ht:P.underlying t=some (.slice e))(hi:TI P e 1 z b)(hz:z.cells=#[z])(hx:Bw N ρ x=v)(hy:Bw N ρ y=a)(hv:Fr (AY E e) B U w.heap v xs)(hB:B≤w.heap.size)
  (ha:Fr (AY E e) B' U' w.heap a ys) (hU:U≤B') (hBB:B≤B') (hbytes:(xs.length+ys.length)*b≤140737488355328) (hmx:xs.length+ys.length≤maxLen) (hu:Up ops N ρ ⟨some d,.call ⟨.builtin .append,#[x,y],#[t,t]⟩,ty,pos,aft,g⟩)
  (h:∀v1 w1 F,Az F w w1→(∀c∈F,B≤c∧c<U)→Fr (AY E e) B w1.heap.size w1.heap v1 (xs++ys)→LW P ops w0 Q os ks (mk N (D3 ρ d v1)) w1) :
  LW P ops w0 Q (⟨some d,.call ⟨.builtin .append,#[x,y],#[t,t]⟩,ty,pos,aft,g⟩::os) (4::ks) (mk N ρ) w:=by
 obtain⟨v1,w1,F,r1,r2,r3,r4⟩:=V5 (P:=P) (ty:=ty) hE ht hi hz hv hB ha hU hBB hbytes hmx
 exact Kn rfl hu v1 w1 (by simp only[execOp,resolve,invoke,builtin,zc,zf,zh,Sem.run_bind,Sem.run_pure,Result.andThen_ok,hx,hy,r1])<|h v1 w1 F r3 r4 r2
theorem EV {st:TypeId}{x y:Operand}{v:Value}{n:Int}{xs:List Int}{B U j:Nat}(hst:(P.info? st).map (·.size)=some 1)(hx:Bw N ρ x=Ax v j 1)(hy:Bw N ρ y=.int .i64 n)(hn:-9223372036854775808≤n∧n≤9223372036854775807)
  (hv:Fr (AY rI e) B U w.heap v xs) (hj:j<xs.length) (hu:Up ops N ρ ⟨none,.store st x y,ty,pos,aft,g⟩)
  (h:∀w1 F,Az F w w1→w1.heap.size=w.heap.size→(∀c∈F,B≤c∧c<U)→Fr (AY rI e) B U w1.heap v (xs.set j n)→LW P ops w0 Q os ks (mk N ρ) w1) :
  LW P ops w0 Q (⟨none,.store st x y,ty,pos,aft,g⟩::os) (4::ks) (mk N ρ) w:=by
 obtain⟨F,h1,h2,h3⟩:=hv
 rcases h1 with⟨rfl,rfl,rfl⟩|⟨us,gb,cap,cur,F',hels,rfl,hg,r1,r2,r3,r4,rfl⟩
 ·simp at hj
 ·obtain⟨i,hi1,hi2⟩:=Option.map_eq_some_iff.1 hst
  rw[Ew]at hx
  have hsz:j<cur.size:=by omega
  have hcell:w.cell? ⟨gb,j,none⟩=some cur[j]:=by
   rw[Cu];simp[Ch,hg,hsz]
  have hfz:w.frozen? ⟨gb,j,none⟩=false:=by
   simp only[World.frozen?,hg];simp
  have hrun:(Instr.storeAt st (.pointer (some ⟨gb,0+j,none⟩)) (.int .i64 n)).run P w=.ok () (w.setCell ⟨gb,j,none⟩ (.int .i64 n)):=by
   have hadd:(⟨gb,j,none⟩:Addr).add 0=⟨gb,j,none⟩:=rfl
   rw[Nat.zero_add]
   simp only[Instr.storeAt,Instr.sureAddr,Sem.run_bind,Sem.run_pure,Result.andThen_ok,storeVar,sizeOf,typeInfo,run_program,hi1,hi2,Value.cells]
   have hst1:(store ⟨gb,j,none⟩ (.int .i64 n)).run P w=.ok () (w.setCell ⟨gb,j,none⟩ (.int .i64 n)):=by
    rw[run_store P w _ _ _ rfl,hcell]
    simp only[hfz]
    rfl
   simp[storeCells,hadd,hst1]
  have hrun2:(execOp (Bw N ρ) ⟨none,.store st x y,ty,pos,aft,g⟩).run P w=.ok .skip (w.setCell ⟨gb,j,none⟩ (.int .i64 n)):=by
   simp only[execOp,hx,hy,Sem.run_bind,hrun,Result.andThen_ok,Sem.run_pure]
  refine MI rfl hu _ hrun2<|h _ [gb] ?_ (by simp[World.setCell]) (fun c hc=>by simp at hc;subst hc;exact h3 _ (z0 ..)) ?_
  ·refine⟨rfl,rfl,rfl,by simp[World.setCell],fun k hk hne=>Below.heap_setCell _ _ _ _ (by simpa using hne)⟩
  ·have hheap:(w.setCell ⟨gb,j,none⟩ (.int .i64 n)).heap[gb]? = some (.cells (cur.setIfInBounds j (.int .i64 n)) e (0,0)):=by
    simp only[World.setCell,Array.getElem?_modify]
    simp[hg]
   have hset:∀ {us:List Value} {xs:List Int} {F:List Nat} {k:Nat} {H:Array Obj},els rI H us xs F→k<xs.length→els rI H (us.set k (.int .i64 n)) (xs.set k n) F:=by
    intro us
    induction us with
    |nil=>intro xs F k H hh hk;cases xs with
     |nil=>simp at hk
     |cons=>exact hh.elim
    |cons u us ih =>
     intro xs F k H hh hk
     cases xs with
     |nil=>exact hh.elim
     |cons x xs =>
      obtain⟨F1,F2,rfl,q1,q2⟩:=hh
      cases k with
      |zero=>exact⟨F1,F2,rfl,⟨rfl,q1.2.1,hn.1,hn.2⟩,q2⟩
      |succ k=>exact⟨F1,F2,rfl,q1,ih q2 (by simpa using hk)⟩
   refine⟨gb::F',.inr ⟨us.set j (.int .i64 n),gb,cap,_,F',?_,by simp,hheap,by simpa using r1,r2,by simpa using r3,?_,rfl⟩,h2,h3⟩
   ·exact(hset hels hj).stable AS fun c hc=>Below.heap_setCell _ _ _ _ fun he=>by
     simp only at he
     subst he
     exact (List.nodup_cons.1 h2).1 hc
   ·rw[z6,Array.toList_setIfInBounds,List.take_set,r4]
end ops
end
section
section els
variable {α:Type} {E:Bk α} {H:Array Obj}
theorem els.at_:∀ {us:List Value}{xs:List α}{F:List Nat}{k:Nat}(d:α),els E H us xs F→k<xs.length→F.Nodup →
  ∃u G,us[k]? = some u∧E H u (xs.getD k d) G∧G.Nodup∧(∀b∈G,b∈F) ∧
   (∀ {E':Bk α} {H':Array Obj} {y:α},(∀ {v x C},E H v x C→(∀b∈C,b∈F∧b∉G)→E' H' v x C)→E' H' u y G→els E' H' us (xs.set k y) F)
 |u::us,x::xs,_,0,d,⟨F1,F2,rfl,h1,h2⟩,_,hn=>by
  have hn':=List.nodup_append.1 hn
  refine⟨u,F1,rfl,h1,hn'.1,fun b hb=>z8 _ hb,fun {E' H' y} hE hu=>⟨F1,F2,rfl,hu,?_⟩⟩
  have key:∀ {us:List Value} {xs:List α} {F:List Nat},els E H us xs F→(∀b∈F,b∈F2)→els E' H' us xs F:=by
   intro us
   induction us with
   |nil=>intro xs F h _;cases xs with
    |nil=>exact h
    |cons=>exact h.elim
   |cons u us ih =>
    intro xs F h hs
    cases xs with
    |nil=>exact h.elim
    |cons x xs =>
     obtain⟨A,C,rfl,q1,q2⟩:=h
     exact⟨A,C,rfl,hE q1 fun b hb=>⟨z1 _ (hs b (z8 _ hb)),fun hc=>hn'.2.2 b hc b (hs b (z8 _ hb)) rfl⟩,ih q2 fun b hb=>hs b (z1 _ hb)⟩
  exact key h2 fun b hb=>hb
 |u::us,x::xs,_,k+1,d,⟨F1,F2,rfl,h1,h2⟩,hk,hn=>by
  have hn':=List.nodup_append.1 hn
  obtain⟨u',G,hu,hx,hg,hb,hc⟩:=els.at_ d h2 (by simpa using hk) hn'.2.1
  refine⟨u',G,by simpa using hu,by simpa using hx,hg,fun b hh=>z1 _ (hb b hh),fun hE hy=>⟨F1,F2,rfl,hE h1 fun b hb'=>⟨z8 _ hb',fun hc'=>hn'.2.2 b hb' b (hb b hc') rfl⟩,?_⟩⟩
  exact hc (fun q hs=>hE q fun b hb'=>⟨z1 _ (hs b hb').1,(hs b hb').2⟩) hy
 |[],[],_,_,_,_,hk,_=>by simp at hk
 |[],_::_,_,_,_,h,_,_=>h.elim
 |_::_,[],_,_,_,h,_,_=>h.elim
theorem els.set:∀ {us:List Value}{xs:List α}{F G:List Nat}{k:Nat}{u:Value}{y:α},els E H us xs F→k<xs.length→F.Nodup→E H u y G→G.Nodup→(∀b∈G,b∉F) →
  ∃F',els E H (us.set k u) (xs.set k y) F'∧F'.Nodup∧∀b∈F',b∈F∨b∈G
 |u0::us,x::xs,_,G,0,u,y,⟨F1,F2,rfl,h1,h2⟩,_,hn,hy,hg,hd=>by
  have hn':=List.nodup_append.1 hn
  refine⟨G++F2,⟨G,F2,rfl,hy,h2⟩,List.nodup_append.2 ⟨hg,hn'.2.1,?_⟩,fun b hb=>(zi.1 hb).elim .inr fun h=>.inl (z1 _ h)⟩
  rintro a ha b hb rfl
  exact hd a ha<|z1 _ hb
 |u0::us,x::xs,_,G,k+1,u,y,⟨F1,F2,rfl,h1,h2⟩,hk,hn,hy,hg,hd=>by
  have hn':=List.nodup_append.1 hn
  obtain⟨F',q1,q2,q3⟩:=els.set h2 (by simpa using hk) hn'.2.1 hy hg fun b hb hc=>hd b hb (z1 _ hc)
  refine⟨F1++F',⟨F1,F',rfl,h1,q1⟩,List.nodup_append.2 ⟨hn'.1,q2,?_⟩,fun b hb=>?_⟩
  ·rintro a ha b hb rfl
   rcases q3 a hb with hh|hh
   ·exact hn'.2.2 a ha a hh rfl
   ·exact hd a hh<|z8 _ ha
  ·rcases zi.1 hb with hh|hh
   ·exact .inl<|z8 _ hh
   ·rcases q3 b hh with h'|h'
    ·exact .inl<|z1 _ h'
    ·exact .inr h'
 |[],[],_,_,_,_,_,_,hk,_,_,_,_=>by simp at hk
 |[],_::_,_,_,_,_,_,h,_,_,_,_,_=>h.elim
 |_::_,[],_,_,_,_,_,h,_,_,_,_,_=>h.elim
end els
def rV:Bk Value:=fun _ v x F=>v=x∧F=[]∧v.cells=#[v]∧v.oneCell'=true
theorem Bc:BT rV:=⟨fun h=>h.2.2.1,fun h=>h.2.2.2,fun h b hb=>(by rw[h.2.1]at hb;cases hb),fun h _=>h⟩
theorem Fr.row {α:Type}{E:Bk α}{e:TypeId}(hE:BT E){B U:Nat}{w:World}{v:Value}{xs:List α}(d:α)(h:Fr (AY E e) B U w.heap v xs){r:Nat}(hr:r<xs.length) :
  ∃u G,Fj w.heap (Ax v r 1)=some u∧E w.heap u (xs.getD r d) G∧G.Nodup∧(∀b∈G,B≤b∧b<U) ∧
   ∀ {w':World} {y:α},Az G w w'→E w'.heap u y G→Fr (AY E e) B U w'.heap v (xs.set r y):=by
 obtain⟨F,h1,h2,h3⟩:=h
 rcases h1 with⟨rfl,rfl,rfl⟩|⟨us,g,cap,cur,F',hels,rfl,hg,r1,r2,r3,r4,rfl⟩
 ·simp at hr
 ·have hn:=List.nodup_cons.1 h2
  obtain⟨u,G,hu,hx,hgn,hsub,hput⟩:=hels.at_ d hr hn.2
  refine⟨u,G,?_,hx,hgn,fun b hb=>h3 b (z3 _ (hsub b hb)),?_⟩
  ·rw[Ew]
   simp only[Fj,Ch,hg,Nat.zero_add]
   rw[← r4,List.getElem?_take,if_pos hr]at hu
   simpa using hu
  ·intro w' y hc hy
   refine⟨g::F',.inr ⟨us,g,cap,cur,F',?_,by simp,?_,by simpa using r1,r2,r3,by simpa using r4,rfl⟩,h2,h3⟩
   ·exact hput (fun q hs=>hE.stable q fun b hb=>hc.block b (hels.lt hE b (hs b hb).1) (hs b hb).2) hy
   ·rw[hc.block g (getElem?_lt hg) fun hm=>hn.1 (hsub g hm)];exact hg
theorem Fr.row_at {α:Type}{E:Bk α}{e:TypeId}(hE:BT E){B U:Nat}{w:World}{v:Value}{xs:List α}(d:α)(h:Fr (AY E e) B U w.heap v xs){r:Nat}(hr:r<xs.length){u:Value}(hu:Fj w.heap (Ax v r 1)=some u) :
  ∃G,E w.heap u (xs.getD r d) G∧G.Nodup∧(∀b∈G,B≤b∧b<U) ∧
   ∀ {w':World} {y:α},Az G w w'→E w'.heap u y G→Fr (AY E e) B U w'.heap v (xs.set r y):=by
 obtain⟨u',G,q0,q1,q2,q3,q4⟩:=h.row hE d hr
 rw[hu]at q0
 cases q0
 exact⟨G,q1,q2,q3,q4⟩
section run
variable {P:Program} {w:World}
theorem JO {st:TypeId}(hst:(P.info? st).map (·.size)=some 1){g j:Nat}{cur:Array Value}{e:TypeId}(hg:w.heap[g]? = some (.cells cur e (0,0)))(hj:j<cur.size){u:Value}(hc:u.cells=#[u])(h1:u.oneCell'=true) :
  (Instr.storeAt st (.pointer (some ⟨g,j,none⟩)) u).run P w=.ok () (w.setCell ⟨g,j,none⟩ u):=by
 obtain⟨i,hi1,hi2⟩:=Option.map_eq_some_iff.1 hst
 have hcell:w.cell? ⟨g,j,none⟩=some cur[j]:=by
  rw[Cu];simp[Ch,hg,hj]
 have hfz:w.frozen? ⟨g,j,none⟩=false:=by
  simp only[World.frozen?,hg];simp
 have hadd:(⟨g,j,none⟩:Addr).add 0=⟨g,j,none⟩:=rfl
 have hst1:(store ⟨g,j,none⟩ u).run P w=.ok () (w.setCell ⟨g,j,none⟩ u):=by
  rw[run_store P w _ _ _ h1,hcell]
  simp only[hfz]
  rfl
 simp only[Instr.storeAt,Instr.sureAddr,Sem.run_bind,Sem.run_pure,Result.andThen_ok,storeVar,sizeOf,typeInfo,run_program,hi1,hi2,hc]
 simp[storeCells,hadd,hst1]
theorem P5 (w:World)(g j:Nat)(u:Value):Az [g] w (w.setCell ⟨g,j,none⟩ u) :=
 ⟨rfl,rfl,rfl,by simp[World.setCell],fun k hk hne=>Below.heap_setCell _ _ _ _ (by simpa using hne)⟩
theorem ML {w:World}{g j:Nat}{u:Value}{cur:Array Value}{e:TypeId}(hg:w.heap[g]? = some (.cells cur e (0,0))):(w.setCell ⟨g,j,none⟩ u).heap[g]? = some (.cells (cur.setIfInBounds j u) e (0,0)):=by
 simp only[World.setCell,Array.getElem?_modify]
 simp[hg]
theorem Kp {α:Type}{E:Bk α}(hE:BT E){st e:TypeId}(hst:(P.info? st).map (·.size)=some 1){v:Value}{xs:List α}{F:List Nat}(hv:AY E e w.heap v xs F)(hn:F.Nodup){j:Nat}(hj:j<xs.length)
  {u:Value} {y:α} {G:List Nat} (hy:E w.heap u y G) (hg:G.Nodup) (hd:∀b∈G,b∉F) :
  ∃w' F',(Instr.storeAt st (Ax v j 1) u).run P w=.ok () w'∧AY E e w'.heap v (xs.set j y) F'∧F'.Nodup∧(∀b∈F',b∈F∨b∈G)∧Az (F.take 1) w w'∧w'.heap.size=w.heap.size:=by
 rcases hv with⟨rfl,rfl,rfl⟩|⟨us,g,cap,cur,F0,hels,rfl,hgc,r1,r2,r3,r4,rfl⟩
 ·simp at hj
 ·have hn':=List.nodup_cons.1 hn
  obtain⟨F',q1,q2,q3⟩:=hels.set hj hn'.2 hy hg fun b hb hc=>hd b hb (z3 _ hc)
  have hgF':g∉F':=fun hm=>(q3 g hm).elim hn'.1 fun h=>hd g h (z0 ..)
  rw[Ew,Nat.zero_add]
  refine⟨_,g::F',JO hst hgc zO (hE.cells hy) (hE.one hy),.inr ⟨us.set j u,g,cap,_,F',?_,by simp,ML hgc,by simpa using r1,r2,by simpa using r3,?_,rfl⟩,List.nodup_cons.2 ⟨hgF',q2⟩,fun b hb=>?_,P5 _ _ _ _,by simp[World.setCell]⟩
  ·exact q1.stable hE fun c hc=>Below.heap_setCell _ _ _ _ fun he=>by
    simp only at he
    subst he
    exact hgF' hc
  ·rw[z6,Array.toList_setIfInBounds,List.take_set,r4]
  ·rcases ze.1 hb with rfl|hb
   ·exact .inl (z0 ..)
   ·exact (q3 b hb).elim (fun h=>.inl<|z3 _ h) .inr
end run
def SI {α:Type}(E:Bk α)(e:TypeId)(B U:Nat)(H:Array Obj)(v:Value)(us us0:List Value)(xs:List α):Prop :=
 ∃g F,AY rV e H v us [g]∧els E H us0 xs F∧(g::F).Nodup∧∀b∈g::F,B≤b∧b<U
section opn
variable {α:Type} {E:Bk α} {e:TypeId} {B U:Nat} {v:Value}
theorem La {H:Array Obj}:∀ {us:List Value},(∀u∈us,u.cells=#[u]∧u.oneCell'=true)→els rV H us us []
 |[],_=>rfl
 |u::_,h=>⟨[],[],rfl,⟨rfl,rfl,h u (z0 ..)⟩,La fun x hx=>h x (z3 _ hx)⟩
theorem els.cells1 (hE:BT E){H:Array Obj}:∀ {us:List Value}{xs:List α}{F:List Nat},els E H us xs F→∀u∈us,u.cells=#[u]∧u.oneCell'=true
 |[],[],_,_,u,hu=>by cases hu
 |_::_,_::_,_,⟨F1,F2,rfl,h1,h2⟩,v,hv=>(ze.1 hv).elim (fun e=>e ▸ ⟨hE.cells h1,hE.one h1⟩) (els.cells1 hE h2 v)
 |[],_::_,_,h,_,_=>h.elim
 |_::_,[],_,h,_,_=>h.elim
theorem Fr.opn (hE:BT E){H:Array Obj}{xs:List α}(h:Fr (AY E e) B U H v xs)(hne:0<xs.length):∃us,SI E e B U H v us us xs∧us.length=xs.length∧∀j,j<xs.length→∃u,us[j]? = some u∧Fj H (Ax v j 1)=some u:=by
 obtain⟨F,h1,h2,h3⟩:=h
 rcases h1 with⟨rfl,rfl,rfl⟩|⟨us,g,cap,cur,F',hels,rfl,hg,r1,r2,r3,r4,rfl⟩
 ·simp at hne
 ·have hl:=hels.length
  refine⟨us,⟨g,F',.inr ⟨us,g,cap,cur,[],La (hels.cells1 hE),by rw[hl],hg,zO,r2,r3,by rw[hl];exact r4,rfl⟩,hels,h2,h3⟩,hl,fun j hj=>?_⟩
  obtain⟨u,G,hu,_⟩:=hels.at_ (xs[0]'hne) hj (List.nodup_cons.1 h2).2
  refine⟨u,hu,?_⟩
  rw[Ew]
  simp only[Fj,Ch,hg,Nat.zero_add]
  rw[← r4,List.getElem?_take,if_pos hj]at hu
  simpa using hu
theorem SI.ext (hE:BT E){w w':World}{us us0:List Value}{xs:List α}(h:SI E e B U w.heap v us us0 xs)(k:AB w w'):SI E e B U w'.heap v us us0 xs:=by
 obtain⟨g,F,h1,h2,h3,h4⟩:=h
 exact⟨g,F,(Bj Bc).stable h1 fun b hb=>k.heap ((Bj Bc).lt h1 b hb),h2.stable hE fun b hb=>k.heap (h2.lt hE b hb),h3,h4⟩
theorem V6 {P:Program}(hE:BT E){st:TypeId}(hst:(P.info? st).map (·.size)=some 1){w:World}{us us0:List Value}{xs:List α}(h:SI E e B U w.heap v us us0 xs){j:Nat}(hj:j<us.length){u:Value}(hu:u.cells=#[u]∧u.oneCell'=true) :
  ∃w' G,(Instr.storeAt st (Ax v j 1) u).run P w=.ok () w'∧SI E e B U w'.heap v (us.set j u) us0 xs∧Az G w w'∧(∀c∈G,B≤c∧c<U)∧w'.heap.size=w.heap.size:=by
 obtain⟨g,F,h1,h2,h3,h4⟩:=h
 have hn:=List.nodup_cons.1 h3
 obtain⟨w',F',q1,q2,q3,q4,q5,q6⟩:=Kp (P:=P) Bc hst h1 (by simp) hj (u:=u) (y:=u) (G:=[]) ⟨rfl,rfl,hu.1,hu.2⟩ zk (fun b hb=>by cases hb)
 have hF':F'=[g]:=by
  rcases q2 with⟨rfl,hx,rfl⟩|⟨us',g',cap,cur,F1,hels,hv,_,_,_,_,_,rfl⟩
  ·exfalso
   have:=congrArg List.length hx
   rw[z6]at this
   simp only[zb]at this
   omega
  ·have:∀ {us:List Value} {xs:List Value} {F:List Nat},els rV w'.heap us xs F→F=[]:=by
    intro us
    induction us with
    |nil=>intro xs F h;cases xs with
     |nil=>exact h
     |cons=>exact h.elim
    |cons u us ih =>
     intro xs F h
     cases xs with
     |nil=>exact h.elim
     |cons x xs=>obtain⟨A,C,rfl,p1,p2⟩:=h;rw[p1.2.1,ih p2];rfl
   rw[this hels]
   rcases q4 g' (z0 ..)with hh|hh
   ·simp at hh;rw[hh]
   ·cases hh
 subst hF'
 refine⟨w',[g],q1,⟨g,F,q2,h2.stable hE fun b hb=>q5.block b (h2.lt hE b hb) fun hm=>?_,h3,h4⟩,q5,fun c hc=>by simp at hc;subst hc;exact h4 _ (z0 ..),q6⟩
 simp at hm
 subst hm
 exact hn.1 hb
theorem Lb {H:Array Obj}{us:List Value}{g:Nat}(h:AY rV e H v us [g]){xs:List α}{F:List Nat}(hl:xs.length=us.length)(hx:els E H us xs F):AY E e H v xs (g::F):=by
 rcases h with⟨_,_,h⟩|⟨us',g',cap,cur,F1,hels,hv,hg,r1,r2,r3,r4,hF⟩
 ·cases h
 ·simp only[List.cons.injEq]at hF
  obtain⟨rfl,_⟩:=hF
  have:∀ {us us':List Value} {F:List Nat},els rV H us' us F→us'=us:=by
   intro us us'
   induction us' generalizing us with
   |nil=>intro F h;cases us with
    |nil=>rfl
    |cons=>exact h.elim
   |cons u us' ih =>
    intro F h
    cases us with
    |nil=>exact h.elim
    |cons x us=>obtain⟨A,C,rfl,p1,p2⟩:=h;rw[p1.1,ih p2]
  have hus:=this hels
  subst hus
  exact .inr ⟨us',g,cap,cur,F,hx,by rw[hv,hl],hg,zO,r2,r3,by rw[hl];exact r4,rfl⟩
def Bv {β:Type}(l:List β)(i j:Nat)(d:β):List β:=(l.set i (l.getD j d)).set j (l.getD i d)
theorem Cx {β:Type}(l:List β)(i j:Nat)(d:β):(Bv l i j d).length=l.length:=by simp[Bv]
theorem els.perm {H:Array Obj}:∀ {us:List Value}{xs:List α}{F:List Nat},els E H us xs F↔∃Fs:List (List Nat),Fs.length=xs.length∧us.length=xs.length∧F=Fs.flatten∧∀k (h1:k<us.length)(h2:k<xs.length)(h3:k<Fs.length),E H us[k] xs[k] Fs[k]
 |[],[],F=>by
  constructor
  ·intro h;exact⟨[],rfl,rfl,h,fun k h=>by simp at h⟩
  ·rintro⟨Fs,h1,_,rfl,_⟩
   have:Fs=[]:=List.eq_nil_of_length_eq_zero h1
   subst this;rfl
 |u::us,x::xs,F=>by
  constructor
  ·rintro⟨F1,F2,rfl,h1,h2⟩
   obtain⟨Fs,q1,q2,q3,q4⟩:=els.perm.1 h2
   refine⟨F1::Fs,by simp[q1],by simp[q2],by rw[q3];rfl,fun k k1 k2 k3=>?_⟩
   cases k with
   |zero=>exact h1
   |succ k=>exact q4 k (by simpa using k1) (by simpa using k2) (by simpa using k3)
  ·rintro⟨Fs,h1,h2,rfl,h3⟩
   cases Fs with
   |nil=>simp at h1
   |cons F1 Fs =>
    refine⟨F1,Fs.flatten,by simp,h3 0 (by simp) (by simp) (by simp),els.perm.2 ⟨Fs,by simpa using h1,by simpa using h2,rfl,fun k k1 k2 k3=>h3 (k+1) (by simpa using k1) (by simpa using k2) (by simpa using k3)⟩⟩
 |[],_::_,F=>by
  constructor
  ·exact fun h=>h.elim
  ·rintro⟨_,_,h,_⟩;simp at h
 |_::_,[],F=>by
  constructor
  ·exact fun h=>h.elim
  ·rintro⟨_,_,h,_⟩;simp at h
theorem Uj (l:List (List Nat))(i j:Nat)(hi:i<l.length)(hj:j<l.length):List.Perm (Bv l i j []) l:=by
 rw[List.perm_iff_count]
 intro a
 unfold Bv
 have e1:l.getD j []=l[j]:=by simp[hj]
 have e2:l.getD i []=l[i]:=by simp[hi]
 rw[e1,e2,List.count_set (by simpa using hj),List.count_set hi]
 have e3:(l.set i l[j])[j]'(by simpa using hj)=l[j]:=by
  rw[List.getElem_set];split <;> rfl
 rw[e3]
 have h1:(if (l[i] == a)=true then 1 else 0)≤l.count a:=by
  split
  ·rename_i h
   have:l[i]=a:=by simpa using h
   rw[← this]
   exact List.count_pos_iff.2<|List.getElem_mem hi
  ·omega
 omega
theorem Fl {β:Type}(l:List β)(i j:Nat)(d:β)(hi:i<l.length)(hj:j<l.length)(k:Nat)(h:k<(Bv l i j d).length)(h':k<l.length) :
  (Bv l i j d)[k]=if k=j then l[i]else if k=i then l[j]else l[k]:=by
 unfold Bv
 have e1:l.getD j d=l[j]:=by simp[hj]
 have e2:l.getD i d=l[i]:=by simp[hi]
 simp only[e1,e2,List.getElem_set]
 by_cases h1:j=k
 ·simp[h1]
 ·by_cases h2:i=k
  ·simp[h1,h2,Ne.symm h1]
  ·simp[h1,h2,Ne.symm h1,Ne.symm h2]
theorem SI.swap {H:Array Obj}{us us0:List Value}{xs:List α}(d:α){i j:Nat}(h:SI E e B U H v us us0 xs)(hi:i<xs.length)(hj:j<xs.length)(hus:us=Bv us0 i j undef) :
  Fr (AY E e) B U H v (Bv xs i j d):=by
 obtain⟨g,F,h1,h2,h3,h4⟩:=h
 obtain⟨Fs,q1,q2,rfl,q4⟩:=els.perm.1 h2
 have hp:List.Perm ((Bv Fs i j []).flatten) Fs.flatten:=(Uj Fs i j zO zO).flatten
 have hels:els E H us (Bv xs i j d) (Bv Fs i j []).flatten:=by
  subst hus
  refine els.perm.2 ⟨Bv Fs i j [],by simp[Cx,q1],by simp[Cx,q2],rfl,fun k k1 k2 k3=>?_⟩
  simp only[Cx]at k1 k2 k3
  rw[Fl us0 i j undef zO zO k _ k1,Fl xs i j d hi hj k _ k2,Fl Fs i j [] zO zO k _ k3]
  split
  ·exact q4 i _ _ _
  ·split
   ·exact q4 j _ _ _
   ·exact q4 k _ _ _
 refine⟨_,Lb h1 ?_ hels,?_,fun b hb=>?_⟩
 ·subst hus;simp[Cx,q2]
 ·rw[List.nodup_cons]at h3 ⊢
  exact⟨fun hm=>h3.1 (hp.mem_iff.1 hm),hp.nodup_iff.2 h3.2⟩
 ·rcases ze.1 hb with rfl|hb
  ·exact h4 _ (z0 ..)
  ·exact h4 b<|z3 _<|hp.mem_iff.1 hb
end opn
theorem Bl {v:Value}{n:Nat}(h:Er v n):v.cells=#[v]∧v.oneCell'=true:=by
 obtain⟨a,c,rfl,_⟩:=h;exact⟨rfl,rfl⟩
theorem IZ {us:List Value}{j:Nat}{u u':Value}{H:Array Obj}{p:Value}(h:us[j]? = some u)(h1:Fj H p=some u)(h2:Fj H p=some u'):us.getD j undef=u':=by
 rw[h2]at h1
 cases h1
 rw[List.getD_eq_getElem?_getD,h];rfl
theorem MM {β:Type}(l:List β)(i:Nat)(d:β)(hi:i<l.length):Bv l i i d=l:=by
 unfold Bv
 have:l.getD i d=l[i]:=by simp[hi]
 rw[this]
 simp
section ops
variable {P:Program} {ops:Array Oper} {w0:World} {Q:Act→World→Prop} {os:List Oper} {ks:List Nat} {N:Nat} {ρ:Nat→Value} {w:World}
 {d:Nat} {ty:TypeId} {pos:String} {aft:Array Edge} {g:Option (Nat×Bool)} {t e:TypeId} {z:Value} {b:Nat}
theorem D1 {st:TypeId}{x y:Operand}{p u:Value}{w1:World}(hx:Bw N ρ x=p)(hy:Bw N ρ y=u)(hr:(Instr.storeAt st p u).run P w=.ok () w1) :
  (execOp (Bw N ρ) ⟨none,.store st x y,ty,pos,aft,g⟩).run P w=.ok .skip w1:=by
 simp only[execOp,hx,hy,Sem.run_bind,hr,Result.andThen_ok,Sem.run_pure]
theorem Lc {α:Type}{E:Bk α}(hE:BT E){st:TypeId}{x y:Operand}{v u:Value}{us us0:List Value}{xs:List α}{B U j:Nat}(hst:(P.info? st).map (·.size)=some 1)(hx:Bw N ρ x=Ax v j 1)(hy:Bw N ρ y=u)
  (hv:SI E e B U w.heap v us us0 xs) (hc:u.cells=#[u]∧u.oneCell'=true) (hj:j<us.length) (hu:Up ops N ρ ⟨none,.store st x y,ty,pos,aft,g⟩)
  (h:∀w1 F,Az F w w1→w1.heap.size=w.heap.size→(∀c∈F,B≤c∧c<U)→SI E e B U w1.heap v (us.set j u) us0 xs→LW P ops w0 Q os ks (mk N ρ) w1) :
  LW P ops w0 Q (⟨none,.store st x y,ty,pos,aft,g⟩::os) (4::ks) (mk N ρ) w:=by
 obtain⟨w1,F,q1,q2,q3,q4,q5⟩:=V6 (P:=P) hE hst hv hj hc
 exact MI rfl hu w1 (D1 hx hy q1)<|h w1 F q3 q5 q4 q2
theorem f9 {e':TypeId}{st:TypeId}{x y:Operand}{v u:Value}{n:Int}{xs:List (List Int)}{B U r j:Nat}(hst:(P.info? st).map (·.size)=some 1)(hx:Bw N ρ x=Ax u j 1)(hy:Bw N ρ y=.int .i64 n)(hn:-9223372036854775808≤n∧n≤9223372036854775807)
  (hv:Fr (AY (AY rI e) e') B U w.heap v xs) (hr:r<xs.length) (hl:Fj w.heap (Ax v r 1)=some u) (hj:j<(xs.getD r []).length) (hu:Up ops N ρ ⟨none,.store st x y,ty,pos,aft,g⟩)
  (h:∀w1 F,Az F w w1→w1.heap.size=w.heap.size→(∀c∈F,B≤c∧c<U)→Fr (AY (AY rI e) e') B U w1.heap v (xs.set r ((xs.getD r []).set j n))→LW P ops w0 Q os ks (mk N ρ) w1) :
  LW P ops w0 Q (⟨none,.store st x y,ty,pos,aft,g⟩::os) (4::ks) (mk N ρ) w:=by
 obtain⟨G,q1,q2,q3,q4⟩:=hv.row_at o1 [] hr hl
 obtain⟨w1,F',p1,p2,p3,p4,p5,p6⟩:=Kp (P:=P) AS hst q1 q2 hj (u:=.int .i64 n) (y:=n) (G:=[]) ⟨rfl,rfl,hn.1,hn.2⟩ zk (fun b hb=>by cases hb)
 have hF':AY rI e w1.heap u ((xs.getD r []).set j n) G:=by
  have hnil:∀ {us:List Value} {xs:List Int} {F:List Nat} {H:Array Obj},els rI H us xs F→F=[]:=by
   intro us
   induction us with
   |nil=>intro xs F H h;cases xs with
    |nil=>exact h
    |cons=>exact h.elim
   |cons u us ih =>
    intro xs F H h
    cases xs with
    |nil=>exact h.elim
    |cons x xs=>obtain⟨A,C,rfl,p1,p2⟩:=h;rw[p1.2.1,ih p2];rfl
  rcases q1 with⟨rfl,hx0,rfl⟩|⟨us,g1,cap,cur,F1,hels,rfl,_,_,_,_,_,rfl⟩
  ·rw[hx0]at hj;simp at hj
  ·rw[hnil hels]at p4 ⊢
   rcases p2 with⟨hh,_⟩|⟨us2,g2,cap2,cur2,F2,hels2,hv2,r⟩
   ·cases hh
   ·rw[hnil hels2]at hels2
    have:g2=g1:=by injection hv2 with hv2 _ _;injection hv2 with hv2;injection hv2 with hv2 _;exact hv2.symm
    subst this
    exact .inr ⟨us2,g2,cap2,cur2,[],hels2,hv2,r.1,r.2.1,r.2.2.1,r.2.2.2.1,r.2.2.2.2.1,rfl⟩
 have hch:Az G w w1:=⟨p5.os,p5.tape,p5.output,p5.size,fun k hk hm=>p5.block k hk fun hmm=>hm (zj hmm)⟩
 exact MI rfl hu w1 (D1 hx hy p1)<|h w1 G hch p6 q3<|q4 hch hF'
theorem AE {x:Operand} {xs:Array Operand} {ats:Array TypeId} (f:FuncId) (first cap:List Value) (args:List Value)
  (hx:Bw N ρ x = .func (.func f) first.toArray cap.toArray) (hxs:first++(xs.toList.map (Bw N ρ))++cap = args) (hf:((P.funcs[f]?).map fun fn=>(fn.name != "runtime.NumGoroutine") && fn.body.isSome) = some true)
  (hu:Up ops N ρ ⟨some d,.call ⟨.value x,xs,ats⟩,ty,pos,aft,g⟩) {R:Ending→World→Prop} (hc:Calls P f args.toArray w R)
  (h:∀ e w1,R e w1→∃ v,e = .returned v∧LW P ops w0 Q os ks (mk N (D3 ρ d v)) w1) :
  LW P ops w0 Q (⟨some d,.call ⟨.value x,xs,ats⟩,ty,pos,aft,g⟩ :: os) (4 :: ks) (mk N ρ) w:=by
 simp only [LW]
 rw [if_pos hu]
 unfold BY
 rw [if_neg (by decide),if_neg (by decide)]
 unfold Oper.wp
 rw [Dg]
 have hrun:(execOp (Bw N ρ) ⟨some d,.call ⟨.value x,xs,ats⟩,ty,pos,aft,g⟩).run P w = .ok (.enter f args.toArray) w:=by
  obtain ⟨fn,hfn,hb⟩:=Option.map_eq_some_iff.1 hf
  simp only [z7,bne_iff_ne,ne_eq] at hb
  have hargs:first.toArray++xs.map (Bw N ρ)++cap.toArray = args.toArray:=by
   rw [← hxs]; apply Array.ext'; simp
  obtain ⟨c,hbc⟩:=Option.isSome_iff_exists.1 hb.2
  have hcf:(callFunc f args.toArray).run P w = .ok (.enter f args.toArray) w:=by
   simp [callFunc,hfn,hb.1,hbc]
  simp [execOp,resolve,hargs,hx,Deferred.ofValue,invoke,hcf]
 rw [hrun]
 refine Calls.mono hc (fun e w1 he=>?_)
 obtain ⟨v,rfl,hL⟩:=h e w1 he
 show LW P ops w0 Q os ks ((mk N ρ).put (some d) v) w1
 rw [FL]
 exact hL
def Rn:Value→Bool
 |.slice none _ _=>true
 |_=>false
theorem V7 {x y:Operand}{xt yt:TypeId}{v:Value}{n:Nat}(c:Bool)(ht:P.underlying xt=some (.slice e))(hx:Bw N ρ x=v)(hy:Bw N ρ y=.slice none 0 0)(hs:Er v n)(hc:Rn v=c)(hu:Up ops N ρ ⟨some d,.binOp .eql xt x y yt,ty,pos,aft,g⟩)
  (h:LW P ops w0 Q os ks (mk N (D3 ρ d (.bool c))) w):LW P ops w0 Q (⟨some d,.binOp .eql xt x y yt,ty,pos,aft,g⟩::os) (0::ks) (mk N ρ) w :=
 CP (by decide) rfl hu _ (fun w' _=>by
  obtain⟨a,cp,rfl,_⟩:=hs
  subst hc
  have he:(eqGuard .eql xt x y (.slice a n cp) (.slice none 0 0)).run P w'=.ok () w':=rfl
  have hq:∀k,(Op.equalIn (k+1) xt (.slice a n cp) (.slice none 0 0)).run P w'=.ok a.isNone w':=by
   intro k
   cases a <;> simp only[Op.equalIn,Sem.run_bind,run_underlying ht,Result.andThen_ok,Sem.run_pure] <;> rfl
  simp only[execOp,hx,hy,Sem.run_bind,he,Result.andThen_ok,binOp,Op.equal]
  rw[show Op.maxDepth=9999+1 from rfl,hq]
  cases a <;> rfl) h
end ops
end
section
theorem oM {p:Prop}(h:p:=by omega):p:=h
theorem sM {p:Prop}(h:p:=by simp):p:=h
theorem sD {p:Prop}(h:p:=by first|omega|assumption|(simp only[zb,z9,z4,z6,z5];omega)|(simp[zb,z9,z4,z6,z5];done)|(simp[zb,z9,z4,z6,z5];omega)):p:=h
theorem Az.refl (F:List Nat)(w:World):Az F w w:=⟨rfl,rfl,rfl,A9 _,fun _ _ _=>rfl⟩
theorem Az.ext {F:List Nat}{a b c:World}(h:Az F a b)(k:AB b c):Az F a c :=
 ⟨k.os.trans h.os,k.tape.trans h.tape,k.output.trans h.output,Aa h.size k.size,fun i hi hm=>(k.heap (Nat.lt_of_lt_of_le hi h.size)).trans (h.block i hi hm)⟩
theorem Az.trans {F:List Nat}{a b c:World}(h:Az F a b)(k:Az F b c):Az F a c :=
 ⟨k.os.trans h.os,k.tape.trans h.tape,k.output.trans h.output,Aa h.size k.size,fun i hi hm=>(k.block i (Nat.lt_of_lt_of_le hi h.size) hm).trans (h.block i hi hm)⟩
theorem Az.drew {F:List Nat}{a b:World}(h:Az F a b):Az F a b.drew:=⟨h.os,h.tape,h.output,h.size,h.block⟩
theorem Az.of_drew {F:List Nat}{a b:World}(h:Az F a.drew b):Az F a b:=⟨h.os,h.tape,h.output,h.size,h.block⟩
theorem Az.sub {F G:List Nat}{a b:World}(h:Az F a b)(hs:∀x∈F,x∈G):Az G a b:=⟨h.os,h.tape,h.output,h.size,fun k hk hm=>h.block k hk fun hh=>hm (hs k hh)⟩
theorem AB.chg {F:List Nat}{a b:World}(h:AB a b):Az F a b:=⟨h.os,h.tape,h.output,h.size,fun _ hi _=>h.heap hi⟩
theorem P6 {e:TypeId}{H:Array Obj}{v:Value}{xs:List Int}{F:List Nat}(h:AY rI e H v xs F):Rd (B3 rI) H v xs:=⟨F,h.rd id⟩
theorem P7 {α:Type}{E:Bk α}(hE:BT E){w w':World}{v:Value}{x:α}{F:List Nat}(h:E w.heap v x F)(k:AB w w'):E w'.heap v x F:=hE.stable h fun b hb=>k.heap (hE.lt h b hb)
theorem JP:∀ {us:List Value}{xs:List Int}{F:List Nat}{H:Array Obj},els rI H us xs F→F=[]:=by
 intro us
 induction us with
 |nil=>intro xs F H h;cases xs with
  |nil=>exact h
  |cons=>exact h.elim
 |cons u us ih =>
  intro xs F H h
  cases xs with
  |nil=>exact h.elim
  |cons x xs=>obtain⟨A,C,rfl,p1,p2⟩:=h;rw[p1.2.1,ih p2];rfl
theorem Qi {P:Program}{w:World}{st e:TypeId}{u:Value}{n:Int}{xs:List Int}{G:List Nat}{j:Nat}(hst:(P.info? st).map (·.size)=some 1)(q1:AY rI e w.heap u xs G)(q2:G.Nodup)(hj:j<xs.length)(hn:-9223372036854775808≤n∧n≤9223372036854775807) :
  ∃w1,(Instr.storeAt st (Ax u j 1) (.int .i64 n)).run P w=.ok () w1∧AY rI e w1.heap u (xs.set j n) G∧Az G w w1∧w1.heap.size=w.heap.size:=by
 obtain⟨w1,F',p1,p2,p3,p4,p5,p6⟩:=Kp (P:=P) AS hst q1 q2 hj (u:=.int .i64 n) (y:=n) (G:=[]) ⟨rfl,rfl,hn.1,hn.2⟩ zk (fun b hb=>by cases hb)
 refine⟨w1,p1,?_,p5.sub fun x hx=>zj hx,p6⟩
 rcases q1 with⟨rfl,hx0,rfl⟩|⟨us,g1,cap,cur,F1,hels,rfl,_,_,_,_,_,rfl⟩
 ·rw[hx0]at hj;simp at hj
 ·rw[JP hels]
  rcases p2 with⟨hh,_⟩|⟨us2,g2,cap2,cur2,F2,hels2,hv2,r⟩
  ·cases hh
  ·rw[JP hels2]at hels2
   have:g2=g1:=by injection hv2 with hv2 _ _;injection hv2 with hv2;injection hv2 with hv2 _;exact hv2.symm
   subst this
   exact .inr ⟨us2,g2,cap2,cur2,[],hels2,hv2,r.1,r.2.1,r.2.2.1,r.2.2.2.1,r.2.2.2.2.1,rfl⟩
theorem Rd.nil_of {α:Type}{E:Bk α}{H:Array Obj}{v:Value}{xs:List α}(h:Rd (B3 E) H v xs)(hv:Rn v=true):xs=[]:=by
 obtain⟨F,⟨a,cap,rfl,hx,_⟩|⟨us,g,off,cap,cur,e,fr,F',_,rfl,_⟩⟩:=h
 ·exact hx
 ·cases hv
theorem Fr.row_two {α:Type}{E:Bk α}{e:TypeId}(hE:BT E){B U:Nat}{w:World}{v:Value}{xs:List α}(d:α)(h:Fr (AY E e) B U w.heap v xs){r:Nat}(hr:r<xs.length){u:Value}(hu:Fj w.heap (Ax v r 1)=some u) :
  ∃G,E w.heap u (xs.getD r d) G∧G.Nodup∧(∀b∈G,B≤b∧b<U) ∧
   (∀ {w':World} {y:α},Az G w w'→E w'.heap u y G→Fr (AY E e) B U w'.heap v (xs.set r y)) ∧
   ∀c u',c≠r→c<xs.length→Fj w.heap (Ax v c 1)=some u'→∀w',Az G w w'→∃C,E w'.heap u' (xs.getD c d) C:=by
 obtain⟨F,h1,h2,h3⟩:=h
 rcases h1 with⟨rfl,rfl,rfl⟩|⟨us,g,cap,cur,F',hels,rfl,hg,r1,r2,r3,r4,rfl⟩
 ·simp at hr
 ·have hn:=List.nodup_cons.1 h2
  have ld:∀c,c<xs.length→Fj w.heap (Ax (.slice (some ⟨g,0,none⟩) xs.length cap) c 1)=us[c]?:=by
   intro c hc
   rw[Ew]
   simp only[Fj,Ch,hg,Nat.zero_add]
   rw[← r4,List.getElem?_take,if_pos hc]
   simp
  obtain⟨Fs,q1,q2,rfl,q4⟩:=els.perm.1 hels
  have hus:us[r]'(by omega)=u:=by
   rw[ld r hr]at hu
   have:us[r]? = some (us[r]'(by omega)):=by simp
   rw[this]at hu
   exact Option.some.inj hu
  have hget:∀c (hc:c<xs.length),xs.getD c d=xs[c]:=fun c hc=>by simp[hc]
  have hmem:∀c (hc:c<Fs.length),∀b∈Fs[c],b∈Fs.flatten:=fun c hc b hb=>List.mem_flatten.2 ⟨_,List.getElem_mem hc,hb⟩
  have hdis:∀c c' (hc:c<Fs.length) (hc':c'<Fs.length),c≠c'→∀b∈Fs[c],b∉Fs[c']:=by
   intro c c' hc hc' hne b hb hb'
   have hp:=(List.pairwise_flatten.1 hn.2).2
   rcases Nat.lt_or_gt_of_ne hne with hh|hh
   ·exact (List.pairwise_iff_getElem.1 hp c c' hc hc' hh) b hb b hb' rfl
   ·exact (List.pairwise_iff_getElem.1 hp c' c hc' hc hh) b hb' b hb rfl
  refine⟨Fs[r]'(by omega),by rw[← hus,hget r hr];exact q4 r _ _ _,(List.pairwise_flatten.1 hn.2).1 _ (List.getElem_mem _),fun b hb=>h3 b (z3 _ (hmem r zO b hb)),?_,?_⟩
  ·intro w' y hc hy
   refine⟨g::Fs.flatten,.inr ⟨us,g,cap,cur,Fs.flatten,els.perm.2 ⟨Fs,by simpa using q1,by simpa using q2,rfl,fun k k1 k2 k3=>?_⟩,by simp,?_,by simpa using r1,r2,r3,by simpa using r4,rfl⟩,h2,h3⟩
   ·by_cases hk:r=k
    ·subst hk
     simp only[List.getElem_set_self,hus]
     exact hy
    ·simp only[List.getElem_set_ne hk]
     exact hE.stable (q4 k _ (by simpa using k2) k3) fun b hb=>hc.block b (hels.lt hE b<|hmem k k3 b hb)<|hdis k r k3 zO (Ne.symm hk) b hb
   ·rw[hc.block g (getElem?_lt hg) fun hm=>hn.1 (hmem r zO g hm)];exact hg
  ·intro c u' hcr hc hl w' hch
   rw[ld c hc]at hl
   have:us[c]? = some (us[c]'(by omega)):=by simp[q2,hc]
   rw[this]at hl
   have hcu:us[c]'(by omega)=u':=Option.some.inj hl
   refine⟨Fs[c]'(by omega),?_⟩
   rw[← hcu,hget c hc]
   exact hE.stable (q4 c zO hc zO) fun b hb=>hch.block b (hels.lt hE b<|hmem c zO b hb)<|hdis c r zO zO hcr b hb
section ops
variable {P:Program} {ops:Array Oper} {w0:World} {Q:Act→World→Prop} {os:List Oper} {ks:List Nat} {N:Nat} {ρ:Nat→Value} {w:World}
 {d:Nat} {ty:TypeId} {pos:String} {aft:Array Edge} {g:Option (Nat×Bool)} {t e:TypeId} {z:Value} {b:Nat}
theorem fa {st:TypeId}{x y:Operand}{v:Value}{n:Int}{xs:List Int}{F:List Nat}{j:Nat}(hst:(P.info? st).map (·.size)=some 1)(hx:Bw N ρ x=Ax v j 1)(hy:Bw N ρ y=.int .i64 n)(hn:-9223372036854775808≤n∧n≤9223372036854775807)
  (hv:AY rI e w.heap v xs F) (hnd:F.Nodup) (hj:j<xs.length) (hu:Up ops N ρ ⟨none,.store st x y,ty,pos,aft,g⟩)
  (h:∀w1,Az F w w1→w1.heap.size=w.heap.size→AY rI e w1.heap v (xs.set j n) F→LW P ops w0 Q os ks (mk N ρ) w1) :
  LW P ops w0 Q (⟨none,.store st x y,ty,pos,aft,g⟩::os) (4::ks) (mk N ρ) w:=by
 obtain⟨w1,p1,p2,p3,p4⟩:=Qi (P:=P) hst hv hnd hj hn
 exact MI rfl hu w1 (D1 hx hy p1)<|h w1 p3 p4 p2
theorem Ai {a:Act}(h:Q a w):LW P ops w0 Q [] ks a w:=h
def yv (ops:Array Oper)(N:Nat) (ρ:Nat→Value)(j:Nat):Option Bool:=match (ops[j]?).bind (·.dst)with
 |some e=>match cond (Nat.blt e N) (ρ e) undef with
  |.bool c=>some c
  |_=>none
 |none=>none
theorem jE (ops:Array Oper)(N:Nat) (ρ:Nat→Value)(j:Nat):yielded ops (mk N ρ).tmps j=yv ops N ρ j:=by
 unfold yv yielded
 cases(ops[j]?).bind (·.dst)with
 |none=>rfl
 |some e =>
  by_cases h:e<N
  ·have hb:Nat.blt e N=true:=by simpa using h
   simp only[mk,hb,cond_true]
   have e1:((List.range N).map ρ).toArray[e]? = some (ρ e):=by simp[h]
   show(match ((List.range N).map ρ).toArray[e]? with|some (.bool b)=>some b|_=>none)=_
   rw[e1]
   cases ρ e <;> rfl
  ·have hb:Nat.blt e N=false:=by
    cases hb:Nat.blt e N with
    |false=>rfl
    |true=>exact absurd (by simpa using hb) h
   simp[mk,Nat.not_lt.1 h,hb,undef]
def nO (ops:Array Oper)(N:Nat) (ρ:Nat→Value):Option (Nat×Bool)→Bool
 |none=>true
 |some (j,b)=>match yv ops N ρ j with
  |some c=>cond b c (!c)
  |none=>false
theorem fb (ops:Array Oper)(N:Nat) (ρ:Nat→Value)(o:Oper):Region.wanted o (yielded ops (mk N ρ).tmps)=nO ops N ρ o.guard:=by
 unfold Region.wanted nO
 cases o.guard with
 |none=>rfl
 |some x =>
  obtain⟨j,b⟩:=x
  simp only[jE]
  cases yv ops N ρ j with
  |none=>rfl
  |some c=>cases c <;> cases b <;> rfl
def qR (N:Nat) (ρ:Nat→Value)(d:Nat)(x:Operand):Nat→Value:=fun i=>cond (Nat.beq i d) (Bw N ρ x) (ρ i)
def re (ρ:Nat→Value)(d:Nat):Nat→Value:=fun i=>cond (Nat.beq i d) undef (ρ i)
def rf (N:Nat) (ρ:Nat→Value)(d:Nat)(c x y:Operand):Nat→Value:=fun i=>cond (Nat.beq i d) (match Bw N ρ c with
 |.bool true=>Bw N ρ x
 |_=>Bw N ρ y) (ρ i)
def nP (ops:Array Oper)(N:Nat)(o:Oper)(k:Nat) (ρ:Nat→Value):Option (Nat→Value) :=
 cond (nO ops N ρ o.guard)
  (cond (Nat.ble k 2)
   (match o.dst with
   |none=>none
   |some d=>match o.op with
    |.move x=>some (qR N ρ d x)
    |.assign x=>some (qR N ρ d x)
    |.pick c x y=>match Bw N ρ c with
     |.bool _=>some (rf N ρ d c x y)
     |_=>none
    |_=>none) none)
  (match o.dst with
  |none=>some ρ
  |some d=>some (re ρ d))
def tv (ops:Array Oper)(N:Nat):Nat→List Oper→List Nat→(Nat→Value)→Option (List Oper×List Nat×(Nat→Value))
 |0,os,ks,ρ=>some (os,ks,ρ)
 |n+1,o::os,k::ks,ρ=>match nP ops N o k ρ with
  |some ρ'=>tv ops N n os ks ρ'
  |none=>none
 |_+1,_,_,_=>none
theorem fc {o:Oper}{k:Nat} {ρ':Nat→Value}(h:nP ops N o k ρ=some ρ')(hn:LW P ops w0 Q os ks (mk N ρ') w):LW P ops w0 Q (o::os) (k::ks) (mk N ρ) w:=by
 simp only[LW]
 rw[fb]
 unfold nP at h
 cases hg:nO ops N ρ o.guard with
 |false =>
  rw[hg]at h
  rw[if_neg (by simp)]
  cases hd:o.dst with
  |none=>rw[hd]at h;cases h;exact hn
  |some d=>rw[hd]at h;injection h with h;rw[FL,show D3 ρ d undef=ρ' from h];exact hn
 |true =>
  rw[hg]at h
  rw[if_pos rfl]
  cases hk:Nat.ble k 2 with
  |false=>rw[hk]at h;cases h
  |true =>
   rw[hk]at h
   have hk2:k≤2:=by simpa using hk
   unfold BY
   rw[if_pos hk2]
   cases hd:o.dst with
   |none=>rw[hd]at h;cases h
   |some d =>
    rw[hd]at h
    have key:∀v,ρ'=D3 ρ d v→(∀w',(execOp (Bw N ρ) o).run P w'=.ok (.value v) w')→∃v,(∀w',Cl w0 w k w'→YA P o (mk N ρ) w' v)∧LW P ops w0 Q os ks ((mk N ρ).put (some d) v) w:=fun v hv hr =>
     ⟨v,fun w' _=>.inl (by rw[Dg];exact hr w'),by rw[FL,← hv];exact hn⟩
    obtain⟨od,oop,oty,opos,oaft,og⟩:=o
    dsimp only at h
    cases oop with
    |move x=>injection h with h;exact key (Bw N ρ x) h.symm fun w'=>by simp[execOp]
    |assign x=>injection h with h;exact key (Bw N ρ x) h.symm fun w'=>by simp[execOp]
    |pick c x y =>
     dsimp only at h
     split at h
     ·rename_i bb hc;injection h with h
      refine key (match Bw N ρ c with
       |.bool true=>Bw N ρ x
       |_=>Bw N ρ y) h.symm fun w'=>?_
      rw[hc]
      cases bb <;> simp[execOp,hc,asBool]
     ·cases h
    |_=>cases h
theorem Af {os':List Oper}{ks':List Nat} {ρ':Nat→Value}(n:Nat)(h:tv ops N n os ks ρ=some (os',ks',ρ'))(hn:LW P ops w0 Q os' ks' (mk N ρ') w):LW P ops w0 Q os ks (mk N ρ) w:=by
 induction n generalizing os ks ρ with
 |zero =>
  have h':(os,ks,ρ)=(os',ks',ρ'):=by injection h
  cases h';exact hn
 |succ n ih =>
  cases os with
  |nil=>cases ks <;> cases h
  |cons o os =>
   cases ks with
   |nil=>cases h
   |cons k ks =>
    have h':(match nP ops N o k ρ with|some ρ'=>tv ops N n os ks ρ'|none=>none)=some (os',ks',ρ'):=h
    split at h'
    ·rename_i r hr;exact fc hr (ih h')
    ·cases h'
theorem Ae {ks':List Nat} {ρ':Nat→Value}(n:Nat)(h:tv ops N n os ks ρ=some ([],ks',ρ'))(hn:Q (mk N ρ') w):LW P ops w0 Q os ks (mk N ρ) w :=
 Af n h (show LW P ops w0 Q [] ks' (mk N ρ') w from hn)
end ops
theorem qS {P : Program}{y : Code}{id : Nat}{Q : Exit → Act → World → Prop}{a : Act}{w : World}{os : List Oper}(ks : List Nat)(hk : ks.all (· != 1)=true)(h : LW P os.toArray w (fun a w => y.wp P Q a w) os ks a w) : (Code.seq (Code.region id os.toArray false) y).wp P Q a w := A0 (Ad os ks hk h)
theorem qT {P : Program}{y : Code}{id : Nat}{Q : Exit → Act → World → Prop}{w : World}{o : Oper}{N : Nat} {ρ ρ' : Nat → Value}{ks' : List Nat}(h : tv #[o] N 1 [o] [0] ρ=some ([], ks', ρ'))(hn : y.wp P Q (mk N ρ') w) : (Code.seq (Code.region id #[o] false) y).wp P Q (mk N ρ) w := A0 (Ad [o] [0] rfl (Ae 1 h hn))
end
section
theorem MN {e e':TypeId}{H:Array Obj}{v:Value}{xs:List (List Int)}{F:List Nat}(h:AY (AY rI e) e' H v xs F):Rd (B3 (B3 rI)) H v xs:=⟨F,h.rd fun h=>h.rd id⟩
def P8 (e e':TypeId)(B:Nat)(X:List Nat)(H:Array Obj)(v:Value)(M:List (List Int)):Prop:=∃F,AY (AY rI e) e' H v M F∧F.Nodup∧∀b∈F,B≤b∧b∉X
def iZ (e e':TypeId)(B:Nat)(X:List Nat)(H:Array Obj)(v:Value)(r:Nat)(u:Value)(M:List (List Int)):Prop :=
 ∃us g cap cur F,els (AY rI e) H (us.set r u) M F∧r<us.length∧us.length=M.length∧v=.slice (some ⟨g,0,none⟩) M.length cap∧H[g]? = some (.cells cur e' (0,0))∧M.length≤cap∧cap≤maxLen∧cur.size=cap ∧
  cur.toList.take M.length=us∧(g::F).Nodup∧∀b∈g::F,B≤b∧b∉X
theorem Ro {H:Array Obj}{v:Value}{xs:List Int}{G:List Nat}(hG:B3 rI H v xs G):G.drop 1=[]:=by
 rcases hG with⟨_,_,_,_,rfl⟩|⟨us,g,off,cap,cur,e',fr,F',hels,_,_,_,_,rfl⟩
 ·rfl
 ·show F'=[]
  have:∀ {us:List Value} {xs:List Int} {F:List Nat},els rI H us xs F→F=[]:=by
   intro us xs
   induction us generalizing xs with
   |nil=>intro F h;cases xs with
    |nil=>exact h
    |cons=>exact h.elim
   |cons u us ih =>
    intro F h
    cases xs with
    |nil=>exact h.elim
    |cons x xs =>
     obtain⟨F1,F2,rfl,q1,q2⟩:=h
     rw[q1.2.1,ih q2];rfl
  exact this hels
section run
variable {P:Program} {w:World} {e e' t:TypeId} {B:Nat} {X:List Nat} {v u a z:Value} {M:List (List Int)} {ys:List Int} {r b:Nat} {ty:TypeId}
theorem V8 {st:TypeId}(hst:(P.info? st).map (·.size)=some 1)(h:iZ e e' B X w.heap v r u M) :
  ∃w' G,(Instr.storeAt st (Ax v r 1) u).run P w=.ok () w'∧P8 e e' B X w'.heap v M∧Az G w w'∧(∀b∈G,B≤b∧b∉X∧b<w.heap.size)∧w'.heap.size=w.heap.size:=by
 obtain⟨us,g,cap,cur,F,hels,hr,hl,rfl,hgc,r1,r2,r3,r4,hn,hX⟩:=h
 have hn':=List.nodup_cons.1 hn
 obtain⟨Fs,q1,q2,hF,q4⟩:=els.perm.1 hels
 have hE:=q4 r (by simp;omega) zO zO
 simp only[List.getElem_set_self]at hE
 rw[Ew,Nat.zero_add]
 refine⟨_,[g],JO hst hgc zO (o1.cells hE) (o1.one hE),⟨g::F,.inr ⟨us.set r u,g,cap,_,F,?_,rfl,ML hgc,r1,r2,by simpa using r3,?_,rfl⟩,hn,hX⟩,P5 _ _ _ _,?_,by simp[World.setCell]⟩
 ·exact hels.stable o1 fun c hc=>Below.heap_setCell _ _ _ _ fun he=>by
   simp only at he
   subst he
   exact hn'.1 hc
 ·rw[Array.toList_setIfInBounds,List.take_set,r4]
 ·intro c hc
  have:c=g:=by simpa using hc
  subst this
  exact⟨(hX c (z0 ..)).1,(hX c (z0 ..)).2,getElem?_lt hgc⟩
theorem V9 (ht:P.underlying t=some (.slice e))(hi:TI P e 1 z b)(hz:z.cells=#[z])(hx:P8 e e' B X w.heap v M)(hB:B≤w.heap.size)(hXs:∀b∈X,b<w.heap.size)(hr:r<M.length)(hu:Fj w.heap (Ax v r 1)=some u)
  (ha:Rd (B3 rI) w.heap a ys) (hbytes:((M.getD r []).length+ys.length)*b≤140737488355328) (hmx:(M.getD r []).length+ys.length≤maxLen) :
  ∃u' w' G,(Builtin.append_ #[t,t] ty #[u,a]).run P w=.ok u' w'∧iZ e e' B X w'.heap v r u' (M.set r (M.getD r []++ys))∧Az G w w'∧∀b∈G,B≤b∧b∉X∧b<w.heap.size:=by
 obtain⟨F,h1,h2,h3⟩:=hx
 obtain⟨G,hG⟩:=ha
 have hGe:=Ro hG
 rcases h1 with⟨rfl,rfl,rfl⟩|⟨us,g,cap,cur,F',hels,rfl,hg,r1,r2,r3,r4,rfl⟩
 ·simp at hr
 ·have hn:=List.nodup_cons.1 h2
  obtain⟨Fs,q1,q2,rfl,q4⟩:=els.perm.1 hels
  have hus:us[r]'(by omega)=u:=by
   rw[Ew]at hu
   simp only[Fj,Ch,hg,Nat.zero_add]at hu
   have ld:cur[r]? = us[r]?:=by rw[← r4,List.getElem?_take,if_pos hr];simp
   rw[ld]at hu
   have hs:us[r]? = some (us[r]'(by omega)):=by simp
   rw[hs]at hu
   exact Option.some.inj hu
  have hget:M.getD r []=M[r]:=by simp[hr]
  have hrow:=q4 r zO hr zO
  rw[hus]at hrow
  have hpw:=List.pairwise_flatten.1 hn.2
  have hmem:∀c (hc:c<Fs.length),∀b∈Fs[c],b∈Fs.flatten:=fun c hc b hb=>List.mem_flatten.2 ⟨_,List.getElem_mem hc,hb⟩
  have hdis:∀c c' (hc:c<Fs.length) (hc':c'<Fs.length),c≠c'→∀b∈Fs[c],b∉Fs[c']:=by
   intro c c' hc hc' hne b hb hb'
   rcases Nat.lt_or_gt_of_ne hne with hh|hh
   ·exact (List.pairwise_iff_getElem.1 hpw.2 c c' hc hc' hh) b hb b hb' rfl
   ·exact (List.pairwise_iff_getElem.1 hpw.2 c' c hc' hc hh) b hb' b hb rfl
  have hlt:∀c (hc:c<Fs.length),∀b∈Fs[c],b<w.heap.size:=fun c hc b hb=>hels.lt o1 b (hmem c hc b hb)
  obtain⟨u',w',F2,p1,p2,p3,p4,p5⟩:=GN (P:=P) (ty:=ty) AS ht hi hz hrow (hpw.1 _ (List.getElem_mem (show r<Fs.length by omega))) hG rfl (by rw[← hget];exact hbytes) (by rw[← hget];exact hmx) (by rw[hGe];intro c hc;cases hc) (by rw[hGe];exact zk)
  have hF2:∀c∈F2,c∈Fs[r]'(by omega)∨c=w.heap.size:=fun c hc=>by
   rcases p4 c hc with hh|hh|hh
   ·exact .inl hh
   ·rw[hGe]at hh;cases hh
   ·exact .inr hh
  have hgsz:=getElem?_lt hg
  refine⟨u',w',(Fs[r]'(by omega)).take 1,p1,⟨us,g,cap,cur,(Fs.set r F2).flatten,els.perm.2 ⟨Fs.set r F2,by simpa using q1,by simpa using q2,rfl,fun k k1 k2 k3=>?_⟩,zO,by simpa using q2,by simp,?_,by simpa using r1,r2,r3,by simpa using r4,?_,?_⟩,p5,?_⟩
  ·by_cases hk:r=k
   ·subst hk
    simp only[List.getElem_set_self]
    rw[hget];exact p2
   ·simp only[List.getElem_set_ne hk]
    simp only[z6]at k1 k2 k3
    exact o1.stable (q4 k k1 k2 k3) fun b hb=>p5.block b (hlt k k3 b hb) fun hm=>hdis k r k3 zO (Ne.symm hk) b hb<|zj hm
  ·rw[p5.block g hgsz fun hm=>hn.1 (hmem r zO g (zj hm))];exact hg
  ·have hmem2:∀b∈(Fs.set r F2).flatten,b∈Fs.flatten∨b=w.heap.size:=by
    intro b hb
    obtain⟨l,hl,hbl⟩:=List.mem_flatten.1 hb
    rcases List.mem_or_eq_of_mem_set hl with hh|rfl
    ·exact .inl<|List.mem_flatten.2 ⟨l,hh,hbl⟩
    ·exact (hF2 b hbl).imp (hmem r zO b) id
   refine List.nodup_cons.2 ⟨fun hm=>(hmem2 g hm).elim hn.1 fun h=>by omega,List.pairwise_flatten.2 ⟨fun l hl=>?_,List.pairwise_iff_getElem.2 fun i j hi hj hij x hx y hy=>?_⟩⟩
   ·rcases List.mem_or_eq_of_mem_set hl with hh|rfl
    ·exact hpw.1 l hh
    ·exact p3
   ·simp only[z6]at hi hj
    rintro rfl
    by_cases h1:r=i
    ·subst h1
     simp only[List.getElem_set_self,List.getElem_set_ne (show r≠j by omega)]at hx hy
     rcases hF2 _ hx with hh|hh
     ·exact hdis r j hi hj zO _ hh hy
     ·have:=hlt j hj _ hy;omega
    ·by_cases h2:r=j
     ·subst h2
      simp only[List.getElem_set_self,List.getElem_set_ne h1]at hx hy
      rcases hF2 _ hy with hh|hh
      ·exact hdis i r hi hj zO _ hx hh
      ·have:=hlt i hi _ hx;omega
     ·simp only[List.getElem_set_ne h1,List.getElem_set_ne h2]at hx hy
      exact hdis i j hi hj zO _ hx hy
  ·intro b hb
   rcases ze.1 hb with rfl|hb
   ·exact h3 _ (z0 ..)
   ·obtain⟨l,hl,hbl⟩:=List.mem_flatten.1 hb
    rcases List.mem_or_eq_of_mem_set hl with hh|rfl
    ·exact h3 b<|z3 _<|List.mem_flatten.2 ⟨l,hh,hbl⟩
    ·rcases hF2 b hbl with hh|hh
     ·exact h3 b<|z3 _<|hmem r zO b hh
     ·exact⟨zO,fun hm=>by have:=hXs b hm;omega⟩
  ·intro b hb
   have hb':=zj hb
   have:=h3 b (z3 _ (hmem r zO b hb'))
   exact⟨this.1,this.2,hlt r zO b hb'⟩
end run
theorem P8.of {e e':TypeId}{B U B' U':Nat}{H:Array Obj}{v:Value}{M:List (List Int)}{X:List Nat}(h:Fr (AY (AY rI e) e') B U H v M)(hU:U≤B')(hX:∀b∈X,B'≤b∧b<U'):P8 e e' B X H v M:=by
 obtain⟨F,h1,h2,h3⟩:=h
 exact⟨F,h1,h2,fun b hb=>⟨(h3 b hb).1,fun hm=>by have:=(h3 b hb).2;have:=(hX b hm).1;omega⟩⟩
theorem P8.fr {e e':TypeId}{B:Nat}{H:Array Obj}{v:Value}{M:List (List Int)}{X:List Nat}(h:P8 e e' B X H v M):Fr (AY (AY rI e) e') B H.size H v M:=by
 obtain⟨F,h1,h2,h3⟩:=h
 exact⟨F,h1,h2,fun b hb=>⟨(h3 b hb).1,o2.lt h1 b hb⟩⟩
theorem P8.rd2 {e e':TypeId}{B:Nat}{H:Array Obj}{v:Value}{M:List (List Int)}{X:List Nat}(h:P8 e e' B X H v M):Rd (B3 (B3 rI)) H v M:=h.fr.rd2
theorem P8.ext {e e':TypeId}{B:Nat}{w w':World}{v:Value}{M:List (List Int)}{X:List Nat}(_:BT (AY (AY rI e) e'))(h:P8 e e' B X w.heap v M)(k:AB w w'):P8 e e' B X w'.heap v M:=by
 obtain⟨F,h1,h2,h3⟩:=h
 exact⟨F,o2.stable h1 fun b hb=>k.heap (o2.lt h1 b hb),h2,h3⟩
theorem P8.isSl {e e':TypeId}{B:Nat}{H:Array Obj}{v:Value}{M:List (List Int)}{X:List Nat}(h:P8 e e' B X H v M):Er v M.length:=h.fr.isSl
theorem iZ.isSl {e e':TypeId}{B r:Nat}{H:Array Obj}{v u:Value}{M:List (List Int)}{X:List Nat}(h:iZ e e' B X H v r u M):Er v M.length:=by
 obtain⟨us,g,cap,cur,F,_,_,_,rfl,_⟩:=h
 exact⟨_,_,rfl,fun h=>by cases h⟩
theorem Qj {e:TypeId}{w w':World}{v:Value}{xs:List Int}{X G:List Nat}(h:AY rI e w.heap v xs X)(c:Az G w w')(hG:∀b∈G,b∉X):AY rI e w'.heap v xs X :=
 o1.stable h fun b hb=>c.block b (o1.lt h b hb) fun hm=>hG b hm hb
section ops
variable {P:Program} {ops:Array Oper} {w0:World} {Q:Act→World→Prop} {os:List Oper} {ks:List Nat} {N:Nat} {ρ:Nat→Value} {w:World}
 {d:Nat} {ty:TypeId} {pos:String} {aft:Array Edge} {g:Option (Nat×Bool)} {t e e':TypeId} {z v u a:Value} {b B r:Nat} {X:List Nat} {M:List (List Int)} {ys:List Int}
theorem Va {x y:Operand}(ht:P.underlying t=some (.slice e))(hi:TI P e 1 z b)(hz:z.cells=#[z])(hx:Bw N ρ x=u)(hy:Bw N ρ y=a)(hv:P8 e e' B X w.heap v M)(hB:B≤w.heap.size)(hXs:∀b∈X,b<w.heap.size)(hr:r<M.length)
  (hl:Fj w.heap (Ax v r 1)=some u) (ha:Rd (B3 rI) w.heap a ys) (hbytes:((M.getD r []).length+ys.length)*b≤140737488355328) (hmx:(M.getD r []).length+ys.length≤maxLen)
  (hu:Up ops N ρ ⟨some d,.call ⟨.builtin .append,#[x,y],#[t,t]⟩,ty,pos,aft,g⟩)
  (h:∀u1 w1 G,Az G w w1→(∀b∈G,B≤b∧b∉X∧b<w.heap.size)→iZ e e' B X w1.heap v r u1 (M.set r (M.getD r []++ys))→LW P ops w0 Q os ks (mk N (D3 ρ d u1)) w1) :
  LW P ops w0 Q (⟨some d,.call ⟨.builtin .append,#[x,y],#[t,t]⟩,ty,pos,aft,g⟩::os) (4::ks) (mk N ρ) w:=by
 obtain⟨v1,w1,F,r1,r2,r3,r4⟩:=V9 (P:=P) (ty:=ty) ht hi hz hv hB hXs hr hl ha hbytes hmx
 exact Kn rfl hu v1 w1 (by simp only[execOp,resolve,invoke,builtin,zc,zf,zh,Sem.run_bind,Sem.run_pure,Result.andThen_ok,hx,hy,r1])<|h v1 w1 F r3 r4 r2
theorem Vb {st:TypeId}{x y:Operand}(hst:(P.info? st).map (·.size)=some 1)(hx:Bw N ρ x=Ax v r 1)(hy:Bw N ρ y=u)(hv:iZ e e' B X w.heap v r u M)(hu:Up ops N ρ ⟨none,.store st x y,ty,pos,aft,g⟩)
  (h:∀w1 G,Az G w w1→w1.heap.size=w.heap.size→(∀b∈G,B≤b∧b∉X∧b<w.heap.size)→P8 e e' B X w1.heap v M→LW P ops w0 Q os ks (mk N ρ) w1) :
  LW P ops w0 Q (⟨none,.store st x y,ty,pos,aft,g⟩::os) (4::ks) (mk N ρ) w:=by
 obtain⟨w1,F,q1,q2,q3,q4,q5⟩:=V8 (P:=P) hst hv
 exact MI rfl hu w1 (D1 hx hy q1)<|h w1 F q3 q5 q4 q2
end ops
end
section
theorem LR (B U:Nat)(H:Array Obj){u:Value}(h:u.cells=#[u]∧u.oneCell'=true):Fr rV B U H u u:=⟨[],⟨rfl,rfl,h.1,h.2⟩,zk,fun c hc=>by cases hc⟩
theorem gV:BT (B3 rV):=DG Bc
theorem oV {e:TypeId}:BT (AY rV e):=Bj Bc
theorem Qk {e e':TypeId}:BT (AY (AY rV e) e'):=Bj oV
section rd
variable {e e':TypeId} {B U:Nat} {H:Array Obj} {v:Value}
theorem Fr.rdV1 {us:List Value}(h:Fr (AY rV e) B U H v us):Rd (B3 rV) H v us:=h.rd id
theorem Fr.rdV2 {M:List (List Value)}(h:Fr (AY (AY rV e) e') B U H v M):Rd (B3 (B3 rV)) H v M:=h.rd fun h=>h.rd id
theorem HL:∀ {us xs:List Value}{F:List Nat}{H:Array Obj},els rV H us xs F→F=[]:=by
 intro us
 induction us with
 |nil=>intro xs F H h;cases xs with
  |nil=>exact h
  |cons=>exact h.elim
 |cons u us ih =>
  intro xs F H h
  cases xs with
  |nil=>exact h.elim
  |cons x xs=>obtain⟨A,C,rfl,p1,p2⟩:=h;rw[p1.2.1,ih p2];rfl
theorem els.rd_at {α:Type}{E:Bk α}{H:Array Obj}{us:List Value}{xs:List α}{F:List Nat}{k:Nat}(d:α)(h:els E H us xs F)(hk:k<xs.length):Rd E H (us.getD k undef) (xs.getD k d):=by
 obtain⟨u,F1,h1,h2,_⟩:=h.get d hk
 rw[List.getD_eq_getElem?_getD,h1]
 exact⟨F1,h2⟩
theorem Rd.heads {α:Type}{E:Bk α}(hE:BT E)(d:α){xs:List α}(h:Rd (B3 E) H v xs):∃us,Rd (B3 rV) H v us∧us.length=xs.length∧∀k,k<xs.length→Rd E H (us.getD k undef) (xs.getD k d):=by
 obtain⟨F,h⟩:=h
 rcases h with⟨a,cap,rfl,rfl,_⟩|⟨us,g,off,cap,cur,e,fr,F',hels,rfl,hg,hw,hm,rfl⟩
 ·exact⟨[],⟨[],.inl ⟨a,cap,rfl,rfl,rfl⟩⟩,rfl,fun k hk=>by simp at hk⟩
 ·have hl:=hels.length
  exact⟨us,⟨[g],.inr ⟨us,g,off,cap,cur,e,fr,[],La (hels.cells1 hE),by rw[hl],hg,by rw[hl];exact hw,zO,rfl⟩⟩,hl,fun k hk=>hels.rd_at d hk⟩
theorem Rd.getV {us:List Value}{k:Nat}(h:Rd (B3 rV) H v us)(hk:k<us.length):Fj H (Ax v k 1)=some (us.getD k undef)∧(us.getD k undef).cells=#[us.getD k undef]∧(us.getD k undef).oneCell'=true:=by
 obtain⟨u,h1,F,h2,_,h3,h4⟩:=Rd.get undef h hk
 rw[← h2]
 exact⟨h1,h3,h4⟩
end rd
theorem Ld {α:Type}{E:Bk α}(hE:BT E){w w':World}{v:Value}{x:α}{X G:List Nat}(h:E w.heap v x X)(c:Az G w w')(hG:∀b∈G,b∉X):E w'.heap v x X :=
 hE.stable h fun b hb=>c.block b (hE.lt h b hb) fun hm=>hG b hm hb
def UT (B U:Nat)(H:Array Obj)(u:Value)(s:List Int):Prop:=∃F,B3 rI H u s F∧∀b∈F,b<B∨U≤b
section ser
variable {B U:Nat} {w w':World} {H:Array Obj} {u:Value} {s:List Int}
theorem UT.rd (h:UT B U H u s):Rd (B3 rI) H u s:=by obtain⟨F,h,_⟩:=h;exact⟨F,h⟩
theorem UT.ext (h:UT B U w.heap u s)(k:AB w w'):UT B U w'.heap u s:=by
 obtain⟨F,h,hb⟩:=h
 exact⟨F,g1.stable h fun b hb=>k.heap (g1.lt h b hb),hb⟩
theorem UT.chg {G:List Nat}(h:UT B U w.heap u s)(c:Az G w w')(hG:∀b∈G,B≤b∧b<U):UT B U w'.heap u s:=by
 obtain⟨F,h,hb⟩:=h
 exact⟨F,g1.stable h fun b hm=>c.block b (g1.lt h b hm) fun hg=>by have:=hG b hg;have:=hb b hm;omega,hb⟩
end ser
def Il (B U T:Nat)(H:Array Obj)(u:Value)(s:List Int):Prop:=∃F,B3 rI H u s F∧∀b∈F,b<B∨(U≤b∧b<T)
section sert
variable {B U T:Nat} {w w':World} {H:Array Obj} {u:Value} {s:List Int}
theorem Il.ser (h:Il B U T H u s):UT B U H u s:=by
 obtain⟨F,h,hb⟩:=h
 exact⟨F,h,fun b hm=>(hb b hm).imp id And.left⟩
theorem Il.ext (h:Il B U T w.heap u s)(k:AB w w'):Il B U T w'.heap u s:=by
 obtain⟨F,h,hb⟩:=h
 exact⟨F,g1.stable h fun b hb=>k.heap (g1.lt h b hb),hb⟩
theorem Il.keep {G:List Nat}(h:Il B U T w.heap u s)(c:Az G w w')(hG:∀b∈G,b<B∨(U≤b∧b<T)→False):Il B U T w'.heap u s:=by
 obtain⟨F,h,hb⟩:=h
 exact⟨F,g1.stable h fun b hm=>c.block b (g1.lt h b hm) fun hg=>hG b hg (hb b hm),hb⟩
theorem Il.weak {T':Nat}(h:Il B U T H u s)(hT:T≤T'):Il B U T' H u s:=by
 obtain⟨F,h,hb⟩:=h
 exact⟨F,h,fun b hm=>(hb b hm).imp id fun h=>⟨h.1,Nat.lt_of_lt_of_le h.2 hT⟩⟩
theorem Il.old (h:Rd (B3 rI) w.heap u s)(hB:w.heap.size≤B)(k:AB w w'):Il B U T w'.heap u s:=by
 obtain⟨F,h⟩:=h
 exact⟨F,g1.stable h fun b hb=>k.heap (g1.lt h b hb),fun b hb=>by have:=g1.lt h b hb;omega⟩
theorem Il.of_own {e:TypeId}{G:List Nat}(h:AY rI e H u s G)(hb:∀b∈G,U≤b∧b<T):Il B U T H u s:=⟨G,h.rd id,fun b hm=>.inr (hb b hm)⟩
end sert
def nZ (e:TypeId)(n:Nat)(U T:Nat)(S:Nat→Prop)(H:Array Obj)(VM:List (List Value))(M:List (List (List Int)))(G:Nat→List Nat):Prop :=
 ∀r,r<n→S r→AY rI e H ((VM.getD r []).getD n undef) ((M.getD r []).getD n []) (G r)∧(G r).Nodup∧(∀b∈G r,U≤b∧b<T)∧∀r',r'<n→S r'→r'≠r→∀b∈G r,b∉G r'
structure SM (e:TypeId)(n:Nat)(B U T:Nat)(S:Nat→Prop)(H:Array Obj)(VM:List (List Value))(M:List (List (List Int))):Prop where
 len:VM.length=n
 row:∀r,r<n→(VM.getD r []).length=n+1
 len2:M.length=n
 row2:∀r,r<n→(M.getD r []).length=n+1
 srt:∀r k,r<n→k<n+1→Il B U T H ((VM.getD r []).getD k undef) ((M.getD r []).getD k [])
 col:∃G:Nat→List Nat,nZ e n U T S H VM M G
theorem Uk {α:Type}(l:List α)(i j:Nat)(x d:α)(hi:i<l.length):(l.set i x).getD j d=if j=i then x else l.getD j d:=by
 rw[List.getD_eq_getElem?_getD,List.getElem?_set]
 by_cases h:i=j
 ·subst h;simp[hi]
 ·simp[h,Ne.symm h]
theorem bY {α:Type}(l:List α)(i j k:Nat)(d:α)(hi:i<l.length)(hj:j<l.length):(Bv l i j d).getD k d=if k=j then l.getD i d else if k=i then l.getD j d else l.getD k d:=by
 unfold Bv
 rw[Uk _ _ _ _ _ (by simpa using hj),Uk _ _ _ _ _ hi]
section sm
variable {e:TypeId} {n B U T:Nat} {S:Nat→Prop} {w w':World} {VM:List (List Value)} {M:List (List (List Int))}
theorem SM.ext (h:SM e n B U T S w.heap VM M)(k:AB w w'):SM e n B U T S w'.heap VM M:=by
 obtain⟨h1,h2,h3,h4,h5,G,h6⟩:=h
 exact⟨h1,h2,h3,h4,fun r k' hr hk=>(h5 r k' hr hk).ext k,G,fun r hr hs=>⟨P7 o1 (h6 r hr hs).1 k,(h6 r hr hs).2⟩⟩
theorem SM.ser {H:Array Obj}(h:SM e n B U T S H VM M)(r k:Nat)(hr:r<n)(hk:k<n+1):UT B U H ((VM.getD r []).getD k undef) ((M.getD r []).getD k []):=(h.srt r k hr hk).ser
theorem SM.chg2 {F:List Nat}(h:SM e n B U T S w.heap VM M)(c:Az F w w')(hF:∀b∈F,T≤b∧B≤b):SM e n B U T S w'.heap VM M:=by
 obtain⟨h1,h2,h3,h4,h5,G,h6⟩:=h
 exact⟨h1,h2,h3,h4,fun r k' hr hk=>(h5 r k' hr hk).keep c fun b hb hx=>by have:=hF b hb;omega,G,fun r hr hs=>⟨Qj (h6 r hr hs).1 c fun b hb hm=>by have:=hF b hb;have:=(h6 r hr hs).2.2.1 b hm;omega,(h6 r hr hs).2⟩⟩
theorem SM.chg {F:List Nat}(h:SM e n B U T S w.heap VM M)(c:Az F w w')(hF:∀b∈F,B≤b∧b<U):SM e n B U T S w'.heap VM M:=by
 obtain⟨h1,h2,h3,h4,h5,G,h6⟩:=h
 exact⟨h1,h2,h3,h4,fun r k' hr hk=>(h5 r k' hr hk).keep c fun b hb hx=>by have:=hF b hb;omega,G,fun r hr hs=>⟨Qj (h6 r hr hs).1 c fun b hb hm=>by have:=hF b hb;have:=(h6 r hr hs).2.2.1 b hm;omega,(h6 r hr hs).2⟩⟩
theorem SM.weak {H:Array Obj}{S':Nat→Prop}{T':Nat}(h:SM e n B U T S H VM M)(hS:∀r,r<n→S' r→S r)(hT:T≤T'):SM e n B U T' S' H VM M:=by
 obtain⟨h1,h2,h3,h4,h5,G,h6⟩:=h
 refine⟨h1,h2,h3,h4,fun r k hr hk=>(h5 r k hr hk).weak hT,G,fun r hr hs=>?_⟩
 obtain⟨q1,q2,q3,q4⟩:=h6 r hr (hS r hr hs)
 exact⟨q1,q2,fun b hb=>⟨(q3 b hb).1,Nat.lt_of_lt_of_le (q3 b hb).2 hT⟩,fun r' hr' hs'=>q4 r' hr' (hS r' hr' hs')⟩
theorem SM.swap {H:Array Obj}(h:SM e n B U T S H VM M)(hS:∀r r',S r→S r'){c p:Nat}(hc:c<n)(hp:p<n):SM e n B U T S H (Bv VM c p []) (Bv M c p []):=by
 obtain⟨h1,h2,h3,h4,h5,G,h6⟩:=h
 have eV:=fun k=>bY VM c p k [] zO zO
 have eM:=fun k=>bY M c p k [] zO zO
 refine⟨by simp[Cx,h1],fun r hr=>?_,by simp[Cx,h3],fun r hr=>?_,fun r k hr hk=>?_,fun r=>if r=p then G c else if r=c then G p else G r,fun r hr hs=>?_⟩
 ·rw[eV];split
  ·exact h2 c hc
  ·split
   ·exact h2 p hp
   ·exact h2 r hr
 ·rw[eM];split
  ·exact h4 c hc
  ·split
   ·exact h4 p hp
   ·exact h4 r hr
 ·rw[eV,eM];split
  ·exact h5 c k hc hk
  ·split
   ·exact h5 p k hp hk
   ·exact h5 r k hr hk
 ·have key:∀a,a<n→∃b,b<n∧(Bv VM c p []).getD a []=VM.getD b []∧(Bv M c p []).getD a []=M.getD b []∧(if a=p then G c else if a=c then G p else G a)=G b∧b=(if a=p then c else if a=c then p else a):=by
   intro a ha
   rw[eV,eM]
   by_cases x1:a=p
   ·simp only[x1,if_pos];exact⟨c,hc,rfl,rfl,rfl,rfl⟩
   ·by_cases x2:a=c
    ·simp only[x1,x2,if_neg,if_pos,if_false]
     by_cases x3:c=p
     ·exact absurd (x2.trans x3) x1
     ·simp only[x3,if_false,if_true];exact⟨p,hp,rfl,rfl,rfl,rfl⟩
    ·simp only[x1,x2,if_false];exact⟨a,ha,rfl,rfl,rfl,rfl⟩
  obtain⟨b,hb,f1,f2,f3,f4⟩:=key r hr
  obtain⟨q1,q2,q3,q4⟩:=h6 b hb (hS r b hs)
  rw[f1,f2]
  simp only[f3]
  refine⟨q1,q2,q3,fun r' hr' hs' hne=>?_⟩
  obtain⟨b',hb',_,_,f3',f4'⟩:=key r' hr'
  simp only[f3']
  refine q4 b' hb' (hS r' b' hs') ?_
  intro hbb
  apply hne
  rw[f4,f4']at hbb
  repeat' split at hbb
  all_goals omega
theorem SM.put {T' B' U':Nat}{u:Value}{s:List Int}{r k:Nat}(h:SM e n B U T S w.heap VM M)(hr:r<n)(hk:k<n+1)(hu:Fr (AY rI e) B' U' w.heap u s)(hT:T≤B')(hU:U≤B')(hU':U'≤T')(hTT:T≤T') :
  SM e n B U T' (fun r'=>S r'∨(r'=r∧k=n)) w.heap (VM.set r ((VM.getD r []).set k u)) (M.set r ((M.getD r []).set k s)):=by
 obtain⟨h1,h2,h3,h4,h5,G,h6⟩:=h
 obtain⟨F,f1,f2,f3⟩:=hu
 have eV:=fun j=>Uk VM r j ((VM.getD r []).set k u) [] zO
 have eM:=fun j=>Uk M r j ((M.getD r []).set k s) [] zO
 have hv:=h2 r hr
 have hm:=h4 r hr
 have e1:=fun j=>Uk (VM.getD r []) k j u undef zO
 have e2:=fun j=>Uk (M.getD r []) k j s [] zO
 refine⟨by simp[h1],fun a ha=>?_,by simp[h3],fun a ha=>?_,fun a j ha hj=>?_,fun a=>if a=r∧k=n then F else G a,fun a ha hs=>?_⟩
 ·rw[eV];split
  ·rw[z6];exact hv
  ·exact h2 a ha
 ·rw[eM];split
  ·rw[z6];exact hm
  ·exact h4 a ha
 ·rw[eV,eM]
  by_cases hx:a=r
  ·rw[if_pos hx,if_pos hx,e1,e2]
   by_cases hy:j=k
   ·rw[if_pos hy,if_pos hy]
    exact Il.of_own f1 fun b hb=>by have:=f3 b hb;omega
   ·rw[if_neg hy,if_neg hy];exact(h5 r j hr hj).weak hTT
  ·rw[if_neg hx,if_neg hx];exact(h5 a j ha hj).weak hTT
 ·have other:∀a',a'<n→¬(a'=r∧k=n)→((VM.set r ((VM.getD r []).set k u)).getD a' []).getD n undef=(VM.getD a' []).getD n undef∧((M.set r ((M.getD r []).set k s)).getD a' []).getD n []=(M.getD a' []).getD n []:=by
   intro a' ha' hne
   rw[eV,eM]
   by_cases hx:a'=r
   ·rw[if_pos hx,if_pos hx,e1,e2,if_neg zO,if_neg zO,hx];exact⟨rfl,rfl⟩
   ·rw[if_neg hx,if_neg hx];exact⟨rfl,rfl⟩
  by_cases hx:a=r∧k=n
  ·simp only[hx,and_self,if_true]
   obtain⟨rfl,rfl⟩:=hx
   rw[eV,eM,if_pos rfl,if_pos rfl,e1,e2,if_pos rfl,if_pos rfl]
   refine⟨f1,f2,fun b hb=>by have:=f3 b hb;omega,fun r' hr' hs' hne b hb=>?_⟩
   rw[if_neg (by omega)]
   intro hm2
   have hs2:S r':=hs'.elim id fun h=>absurd h.1 hne
   have:=(h6 r' hr' hs2).2.2.1 b hm2
   have:=f3 b hb
   omega
  ·have hsa:S a:=hs.elim id fun h=>absurd h hx
   obtain⟨q1,q2,q3,q4⟩:=h6 a ha hsa
   obtain⟨g1',g2'⟩:=other a ha hx
   simp only[hx,if_false]
   rw[g1',g2']
   refine⟨q1,q2,fun b hb=>by have:=q3 b hb;omega,fun r' hr' hs' hne b hb=>?_⟩
   by_cases hx':r'=r∧k=n
   ·rw[if_pos hx']
    intro hm2
    have:=f3 b hm2
    have:=q3 b hb
    omega
   ·rw[if_neg hx']
    exact q4 r' hr' (hs'.elim id fun h=>absurd h hx') hne b hb
theorem SM.cols {H:Array Obj}(h:SM e n B U T S H VM M)(hS:∀r,r<n→S r) :
  ∃F,els (AY rI e) H (VM.map fun r=>r.getD n undef) (M.map fun r=>r.getD n []) F∧F.Nodup∧∀b∈F,U≤b∧b<T:=by
 obtain⟨h1,h2,h3,h4,h5,G,h6⟩:=h
 have hd:∀ {β:Type} {l:List (List β)} {x:β} {i:Nat} (hi:i<l.length),(l.map fun r=>r.getD n x)[i]'(by simpa using hi)=(l.getD i []).getD n x:=by
  intro β l x i hi
  simp[hi]
 refine⟨((List.range n).map G).flatten,els.perm.2 ⟨(List.range n).map G,by simp[h3],by simp[h1,h3],rfl,fun k k1 k2 k3=>?_⟩,?_,fun b hb=>?_⟩
 ·simp only[zg,List.length_range]at k1 k2 k3
  rw[hd zO,hd zO,List.getElem_map,List.getElem_range]
  exact (h6 k k3<|hS k k3).1
 ·refine List.pairwise_flatten.2 ⟨fun l hl=>?_,List.pairwise_iff_getElem.2 fun i j hi hj hij x hx y hy=>?_⟩
  ·obtain⟨k,hk,rfl⟩:=List.mem_map.1 hl
   have hk:=List.mem_range.1 hk
   exact (h6 k hk<|hS k hk).2.1
  ·simp only[zg,List.length_range]at hi hj
   rw[List.getElem_map,List.getElem_range]at hx hy
   rintro rfl
   exact (h6 i hi<|hS i hi).2.2.2 j hj (hS j hj) zO x hx hy
 ·obtain⟨l,hl,hb⟩:=List.mem_flatten.1 hb
  obtain⟨k,hk,rfl⟩:=List.mem_map.1 hl
  have hk:=List.mem_range.1 hk
  exact (h6 k hk<|hS k hk).2.2.1 b hb
end sm
theorem Vc {e e':TypeId}{B B':Nat}{H:Array Obj}{v:Value}{us:List Value}{xs:List (List Int)}{F:List Nat}(h:Fr (AY rV e') B' H.size H v us)(hx:els (AY rI e) H us xs F)(hn:F.Nodup)(hF:∀b∈F,B≤b∧b<B')(hB:B≤B') :
  Fr (AY (AY rI e) e') B H.size H v xs:=by
 obtain⟨F0,h1,h2,h3⟩:=h
 have hl:=hx.length
 rcases h1 with⟨rfl,rfl,rfl⟩|⟨us',g,cap,cur,F',hels,rfl,hg,r1,r2,r3,r4,rfl⟩
 ·cases xs with
  |nil=>exact Ju _ _ _
  |cons=>simp at hl
 ·have:F'=[]:=HL hels
  subst this
  have hm:=Lb (e:=e') (v:=.slice (some ⟨g,0,none⟩) us.length cap) (us:=us) (g:=g) (H:=H) (.inr ⟨us',g,cap,cur,[],hels,rfl,hg,r1,r2,r3,r4,rfl⟩) hl.symm hx
  refine⟨_,hm,List.nodup_cons.2 ⟨fun hh=>?_,hn⟩,fun b hb=>⟨?_,o2.lt hm b hb⟩⟩
  ·have:=hF g hh;have:=h3 g (z0 ..);omega
  ·rcases ze.1 hb with rfl|hb
   ·have:=h3 b (z0 ..);omega
   ·exact (hF b hb).1
theorem SI.row {α:Type}{E:Bk α}{e:TypeId}{B U:Nat}{H:Array Obj}{v:Value}{us us0:List Value}{xs:List α}(d:α)(h:SI E e B U H v us us0 xs){j:Nat}(hj:j<xs.length){u:Value}(hu:us0.getD j undef=u):Rd E H u (xs.getD j d):=by
 obtain⟨g,F,_,h2,_⟩:=h
 have:=h2.rd_at d hj
 rwa [hu]at this
theorem Zq {e:TypeId}{H:Array Obj}{v:Value}{xs:List Int}(h:Rd (AY rI e) H v xs):Rd (B3 rI) H v xs:=by obtain⟨F,h⟩:=h;exact P6 h
theorem SI.rot {α:Type}{E:Bk α}(hE:BT E){e:TypeId}{B U B' U':Nat}{H:Array Obj}{v:Value}{us us0:List Value}{xs:List α}(d:α){c p:Nat}{u:Value}{y:α}(h:SI E e B U H v us us0 xs)(hc:c<xs.length)(hp:p<xs.length)
  (hus:us=(us0.set p (us0.getD c undef)).set c u) (hy:Fr E B' U' H u y) (hU:U≤B') (hB:B≤B'):Fr (AY E e) B H.size H v ((Bv xs c p d).set c y):=by
 obtain⟨g,F,h1,h2,h3,h4⟩:=h
 obtain⟨G,y1,y2,y3⟩:=hy
 obtain⟨Fs,q1,q2,rfl,q4⟩:=els.perm.1 h2
 have hn:=List.nodup_cons.1 h3
 have hpw:=List.pairwise_flatten.1 hn.2
 have hdis:∀i j (hi:i<Fs.length) (hj:j<Fs.length),i≠j→∀b∈Fs[i],b∉Fs[j]:=by
  intro i j hi hj hne b hb hb'
  rcases Nat.lt_or_gt_of_ne hne with hh|hh
  ·exact (List.pairwise_iff_getElem.1 hpw.2 i j hi hj hh) b hb b hb' rfl
  ·exact (List.pairwise_iff_getElem.1 hpw.2 j i hj hi hh) b hb' b hb rfl
 have hmem:∀i (hi:i<Fs.length),∀b∈Fs[i],b∈Fs.flatten:=fun i hi b hb=>List.mem_flatten.2 ⟨_,List.getElem_mem hi,hb⟩
 have hsw:(Bv xs c p d).length=xs.length:=Cx ..
 let src:Nat→Nat:=fun k=>if k=p then c else k
 have hsrc:∀k,k<xs.length→src k<xs.length:=fun k hk=>by show(if k=p then c else k)<_;split <;> omega
 let Gs:List (List Nat):=(List.range xs.length).map fun k=>if k=c then G else Fs.getD (src k) []
 have hgl:Gs.length=xs.length:=by simp[Gs]
 have hgk:∀k (hk:k<Gs.length),Gs[k]=if k=c then G else Fs.getD (src k) []:=fun k hk=>by simp[Gs]
 have hels:els E H us ((Bv xs c p d).set c y) Gs.flatten:=by
  subst hus
  refine els.perm.2 ⟨Gs,by simp[hgl,hsw],by simp[hsw,q2],rfl,fun k k1 k2 k3=>?_⟩
  rw[hgk k k3]
  have hk:k<xs.length:=by omega
  by_cases hkc:k=c
  ·subst hkc
   simp only[List.getElem_set_self,if_pos]
   exact y1
  ·simp only[List.getElem_set_ne (Ne.symm hkc),if_neg hkc]
   rw[Fl xs c p d hc hp k _ hk]
   by_cases hkp:k=p
   ·subst hkp
    have e0:src k=c:=by show(if k=k then c else k)=c;rw[if_pos rfl]
    rw[e0,if_pos rfl]
    simp only[List.getElem_set_self]
    rw[show us0.getD c undef=us0[c]'(by omega)from by simp[show c<us0.length by omega],show Fs.getD c []=Fs[c]'(by omega)from by simp[show c<Fs.length by omega]]
    exact q4 c _ _ _
   ·have e0:src k=k:=by show(if k=p then c else k)=k;rw[if_neg hkp]
    rw[e0,if_neg hkp,if_neg hkc]
    simp only[List.getElem_set_ne (Ne.symm hkp)]
    rw[show Fs.getD k []=Fs[k]'(by omega)from by simp[show k<Fs.length by omega]]
    exact q4 k _ _ _
 have hm:=Lb h1 (by subst hus;simp[hsw,q2]) hels
 have hfs:∀k (hk:k<xs.length),Fs.getD k []=Fs[k]'(by omega):=fun k hk=>by simp[show k<Fs.length by omega]
 have hin:∀b∈Gs.flatten,b∈Fs.flatten∨b∈G:=by
  intro b hb
  obtain⟨l,hl,hbl⟩:=List.mem_flatten.1 hb
  obtain⟨k,hk,rfl⟩:=List.mem_map.1 hl
  have hk:=List.mem_range.1 hk
  by_cases hkc:k=c
  ·rw[if_pos hkc]at hbl;exact .inr hbl
  ·rw[if_neg hkc,hfs _ (hsrc k hk)]at hbl
   exact .inl<|hmem _ _ b hbl
 refine⟨_,hm,List.nodup_cons.2 ⟨fun hh=>?_,List.pairwise_flatten.2 ⟨fun l hl=>?_,List.pairwise_iff_getElem.2 fun i j hi hj hij x hx z hz=>?_⟩⟩,fun b hb=>⟨?_,(Bj hE).lt hm b hb⟩⟩
 ·rcases hin g hh with hh|hh
  ·exact hn.1 hh
  ·have:=y3 g hh;have:=h4 g (z0 ..);omega
 ·obtain⟨k,hk,rfl⟩:=List.mem_map.1 hl
  have hk:=List.mem_range.1 hk
  by_cases hkc:k=c
  ·rw[if_pos hkc];exact y2
  ·rw[if_neg hkc,hfs _ (hsrc k hk)];exact hpw.1 _ (List.getElem_mem _)
 ·have hi':i<xs.length:=by omega
  have hj':j<xs.length:=by omega
  rw[hgk i hi]at hx
  rw[hgk j hj]at hz
  rintro rfl
  by_cases hic:i=c
  ·rw[if_pos hic]at hx
   rw[if_neg zO,hfs _ (hsrc j hj')]at hz
   have:=y3 x hx
   have:=h4 x (z3 _ (hmem _ _ x hz))
   omega
  ·rw[if_neg hic,hfs _ (hsrc i hi')]at hx
   by_cases hjc:j=c
   ·rw[if_pos hjc]at hz
    have:=y3 x hz
    have:=h4 x (z3 _ (hmem _ _ x hx))
    omega
   ·rw[if_neg hjc,hfs _ (hsrc j hj')]at hz
    refine hdis (src i) (src j) (by have:=hsrc i hi';omega) (by have:=hsrc j hj';omega) ?_ x hx hz
    show(if i=p then c else i)≠(if j=p then c else j)
    split <;> split <;> omega
 ·rcases ze.1 hb with rfl|hb
  ·exact (h4 _ (z0 ..)).1
  ·rcases hin b hb with hh|hh
   ·exact (h4 b<|z3 _ hh).1
   ·have:=y3 b hh;omega
section ops
variable {P:Program} {ops:Array Oper} {w0:World} {Q:Act→World→Prop} {os:List Oper} {ks:List Nat} {N:Nat} {ρ:Nat→Value} {w:World}
 {d:Nat} {ty:TypeId} {pos:String} {aft:Array Edge} {g:Option (Nat×Bool)} {t e:TypeId} {z:Value} {b:Nat}
theorem SJ {e':TypeId}{st:TypeId}{x y:Operand}{v u a:Value}{xs:List (List Value)}{B U r j:Nat}(hst:(P.info? st).map (·.size)=some 1)(hx:Bw N ρ x=Ax u j 1)(hy:Bw N ρ y=a)(ha:a.cells=#[a]∧a.oneCell'=true)
  (hv:Fr (AY (AY rV e) e') B U w.heap v xs) (hr:r<xs.length) (hl:Fj w.heap (Ax v r 1)=some u) (hj:j<(xs.getD r []).length) (hu:Up ops N ρ ⟨none,.store st x y,ty,pos,aft,g⟩)
  (h:∀w1 F,Az F w w1→w1.heap.size=w.heap.size→(∀c∈F,B≤c∧c<U)→Fr (AY (AY rV e) e') B U w1.heap v (xs.set r ((xs.getD r []).set j a))→LW P ops w0 Q os ks (mk N ρ) w1) :
  LW P ops w0 Q (⟨none,.store st x y,ty,pos,aft,g⟩::os) (4::ks) (mk N ρ) w:=by
 obtain⟨G,q1,q2,q3,q4⟩:=hv.row_at oV [] hr hl
 obtain⟨w1,F',p1,p2,p3,p4,p5,p6⟩:=Kp (P:=P) Bc hst q1 q2 hj (u:=a) (y:=a) (G:=[]) ⟨rfl,rfl,ha.1,ha.2⟩ zk (fun b hb=>by cases hb)
 have hF':AY rV e w1.heap u ((xs.getD r []).set j a) G:=by
  rcases q1 with⟨rfl,hx0,rfl⟩|⟨us,g1,cap,cur,F1,hels,rfl,_,_,_,_,_,rfl⟩
  ·rw[hx0]at hj;simp at hj
  ·rw[HL hels]at p4 ⊢
   rcases p2 with⟨hh,_⟩|⟨us2,g2,cap2,cur2,F2,hels2,hv2,r⟩
   ·cases hh
   ·rw[HL hels2]at hels2
    have:g2=g1:=by injection hv2 with hv2 _ _;injection hv2 with hv2;injection hv2 with hv2 _;exact hv2.symm
    subst this
    exact .inr ⟨us2,g2,cap2,cur2,[],hels2,hv2,r.1,r.2.1,r.2.2.1,r.2.2.2.1,r.2.2.2.2.1,rfl⟩
 have hch:Az G w w1:=⟨p5.os,p5.tape,p5.output,p5.size,fun k hk hm=>p5.block k hk fun hmm=>hm (zj hmm)⟩
 exact MI rfl hu w1 (D1 hx hy p1)<|h w1 G hch p6 q3<|q4 hch hF'
theorem Ul {H:Array Obj}{v:Value}{xs:List Value}{G:List Nat}(hG:B3 rV H v xs G):G.drop 1=[]:=by
 rcases hG with⟨_,_,_,_,rfl⟩|⟨us,g,off,cap,cur,e',fr,F',hels,_,_,_,_,rfl⟩
 ·rfl
 ·exact HL hels
theorem MO {x y:Operand}{v a:Value}{xs ys:List Value}{B U:Nat}(ht:P.underlying t=some (.slice e))(hi:TI P e 1 z b)(hz:z.cells=#[z])(hx:Bw N ρ x=v)(hy:Bw N ρ y=a)(hv:Fr (AY rV e) B U w.heap v xs)(hB:B≤w.heap.size)
  (ha:Rd (B3 rV) w.heap a ys) (hbytes:(xs.length+ys.length)*b≤140737488355328) (hmx:xs.length+ys.length≤maxLen) (hu:Up ops N ρ ⟨some d,.call ⟨.builtin .append,#[x,y],#[t,t]⟩,ty,pos,aft,g⟩)
  (h:∀v1 w1 F,Az F w w1→(∀c∈F,B≤c∧c<U)→Fr (AY rV e) B w1.heap.size w1.heap v1 (xs++ys)→LW P ops w0 Q os ks (mk N (D3 ρ d v1)) w1) :
  LW P ops w0 Q (⟨some d,.call ⟨.builtin .append,#[x,y],#[t,t]⟩,ty,pos,aft,g⟩::os) (4::ks) (mk N ρ) w:=by
 obtain⟨F,h1,h2,h3⟩:=hv
 obtain⟨G,hG⟩:=ha
 have hGe:=Ul hG
 obtain⟨v',w',F',r1,r2,r3,r4,r5⟩:=GN (P:=P) (ty:=ty) Bc ht hi hz h1 h2 hG rfl hbytes hmx (by rw[hGe];intro c hc;cases hc) (by rw[hGe];exact zk)
 refine Kn rfl hu v' w' (by simp only[execOp,resolve,invoke,builtin,zc,zf,zh,Sem.run_bind,Sem.run_pure,Result.andThen_ok,hx,hy,r1])<|h v' w' (F.take 1) r5 (fun c hc=>h3 c<|zj hc) ⟨F',r2,r3,fun c hc=>?_⟩
 have hlt:=oV.lt r2 c hc
 refine⟨?_,hlt⟩
 rcases r4 c hc with hh|hh|hh
 ·exact (h3 c hh).1
 ·rw[hGe]at hh;cases hh
 ·omega
end ops
structure Zj (H:Array Obj)(n:Nat)(VM:List (List Value))(M:List (List (List Int)))(k:Nat):Prop where
 len:VM.length=k
 row:∀r,r<k→(VM.getD r []).length=n+1
 rd:∀r j,r<k→j<n+1→Rd (B3 rI) H ((VM.getD r []).getD j undef) ((M.getD r []).getD j [])
theorem Zj.zero (H:Array Obj)(n:Nat)(M:List (List (List Int))):Zj H n [] M 0:=⟨rfl,fun r h=>by omega,fun r j h=>by omega⟩
theorem Ql {α:Type}{l:List α}{x d:α}{r:Nat}:(l++[x]).getD r d=if r=l.length then x else l.getD r d:=by
 rw[List.getD_eq_getElem?_getD,List.getD_eq_getElem?_getD]
 by_cases h:r<l.length
 ·rw[List.getElem?_append_left h,if_neg (by omega)]
 ·rw[List.getElem?_append_right (by omega)]
  by_cases e:r=l.length
  ·subst e;simp
  ·rw[if_neg e]
   have h1:[x][r-l.length]? = none:=List.getElem?_eq_none (by simp;omega)
   have h2:l[r]? = none:=List.getElem?_eq_none zO
   rw[h1,h2]
theorem Zj.snoc {H:Array Obj}{n k:Nat}{VM:List (List Value)}{M:List (List (List Int))}{us:List Value}{u:Value}{a:List (List Int)}{b:List Int}(h:Zj H n VM M k)(hM:M.getD k []=a++[b])(ha:a.length=n)(hul:us.length=a.length)
  (hus:∀j,j<a.length→Rd (B3 rI) H (us.getD j undef) (a.getD j [])) (hu:Rd (B3 rI) H u b):Zj H n (VM++[us++[u]]) M (k+1):=by
 obtain⟨h1,h2,h3⟩:=h
 refine⟨by simp[h1],fun r hr=>?_,fun r j hr hj=>?_⟩
 ·rw[Ql];split
  ·simp[hul,ha]
  ·exact h2 r zO
 ·rw[Ql]
  by_cases e:r=VM.length
  ·rw[if_pos e,show r=k from by omega,hM,Ql,Ql]
   by_cases e2:j=us.length
   ·rw[if_pos e2,if_pos (by omega)];exact hu
   ·rw[if_neg e2,if_neg (by omega)];exact hus j zO
  ·rw[if_neg e];exact h3 r j zO hj
theorem Zj.sm {w w':World}{n U T:Nat}{S:Nat→Prop}{e:TypeId}{VM:List (List Value)}{M:List (List (List Int))}(h:Zj w.heap n VM M n)(hM:M.length=n)(hr:∀r,r<n→(M.getD r []).length=n+1)(hS:∀r,¬S r)(k:AB w w') :
  SM e n w.heap.size U T S w'.heap VM M :=
 ⟨h.len,h.row,hM,hr,fun r j h1 h2=>Il.old (h.rd r j h1 h2) (A9 _) k,fun _=>[],fun r _ hs=>absurd hs (hS r)⟩
end
section
def qU (P:Program)(s:TypeId)(i off:Nat):Bool :=
 match P.underlying s with
 |some (.struct fs) =>
  match fs[i]? with
  |some f=>(f.offset == off) && (match P.info? f.type with|some inf=>inf.size != 0|none=>false)
  |none=>false
 |_=>false
def BX (H:Array Obj)(g:Nat)(cs:List Value):Prop:=∃e,H[g]? = some (.cells cs.toArray e (0,0))
theorem BX.lt {H:Array Obj}{g:Nat}{cs:List Value}(h:BX H g cs):g<H.size:=by obtain⟨e,h⟩:=h;exact getElem?_lt h
theorem BX.ext {w w':World}{g:Nat}{cs:List Value}(h:BX w.heap g cs)(k:AB w w'):BX w'.heap g cs:=by
 have hl:=h.lt
 obtain⟨e,h⟩:=h
 exact⟨e,by rw[k.heap hl];exact h⟩
theorem BX.chg {w w':World}{g:Nat}{cs:List Value}{F:List Nat}(h:BX w.heap g cs)(k:Az F w w')(hg:g∉F):BX w'.heap g cs:=by
 have hl:=h.lt
 obtain⟨e,h⟩:=h
 exact⟨e,by rw[k.block g hl hg];exact h⟩
theorem BX.ld {H:Array Obj}{g k:Nat}{cs:List Value}(h:BX H g cs)(hk:k<cs.length):Fj H (.pointer (some ⟨g,k,none⟩))=some (cs.getD k undef):=by
 obtain⟨e,h⟩:=h
 simp only[Fj,Ch,h]
 simp[hk]
theorem Az.fresh {F G:List Nat}{a b c:World}(h:Az F a b)(k:Az G b c)(hG:∀x∈G,a.heap.size≤x):Az F a c :=
 ⟨k.os.trans h.os,k.tape.trans h.tape,k.output.trans h.output,Aa h.size k.size,fun i hi hm=>(k.block i (Nat.lt_of_lt_of_le hi h.size) fun hg=>by have:=hG i hg;omega).trans (h.block i hi hm)⟩
def FC (H:Array Obj)(g:Nat)(v:Value)(cs:List UInt8)(n:Nat):Prop:=∃sd:Int,BX H g [v,.int .i64 ((n:Nat):Int),.int .u64 sd]∧∃F,B3 rU H v cs F∧∀b∈F,b<g
theorem FC.lt {H:Array Obj}{g n:Nat}{v:Value}{cs:List UInt8}(h:FC H g v cs n):g<H.size:=by obtain⟨sd,h,_⟩:=h;exact h.lt
theorem FC.ext {w w':World}{g n:Nat}{v:Value}{cs:List UInt8}(h:FC w.heap g v cs n)(k:AB w w'):FC w'.heap g v cs n:=by
 obtain⟨sd,h,F,h1,h2⟩:=h
 exact⟨sd,h.ext k,F,Di.stable h1 fun b hb=>k.heap (Di.lt h1 b hb),h2⟩
theorem FC.chg {w w':World}{g n:Nat}{v:Value}{cs:List UInt8}{G:List Nat}(h:FC w.heap g v cs n)(k:Az G w w')(hG:∀b∈G,g<b):FC w'.heap g v cs n:=by
 obtain⟨sd,h,F,h1,h2⟩:=h
 exact⟨sd,h.chg k fun hm=>by have:=hG g hm;omega,F,Di.stable h1 fun b hb=>k.block b (Di.lt h1 b hb) fun hm=>by have:=hG b hm;have:=h2 b hb;omega,h2⟩
theorem FC.parts {w:World}{g n:Nat}{v:Value}{cs:List UInt8}(h:FC w.heap g v cs n):∃sd:Int,BX w.heap g [v,.int .i64 ((n:Nat):Int),.int .u64 sd]∧∀w',Az [g] w w'→Rd (B3 rU) w'.heap v cs:=by
 obtain⟨sd,h,F,h1,h2⟩:=h
 refine⟨sd,h,fun w' k=>⟨F,Di.stable h1 fun b hb=>k.block b (Di.lt h1 b hb) fun hm=>?_⟩⟩
 have:b=g:=by simpa using hm
 have:=h2 b hb
 omega
theorem FC.close {w w':World}{g n n':Nat}{v:Value}{cs:List UInt8}{sd:Int}(h:FC w.heap g v cs n)(k:Az [g] w w')(hb:BX w'.heap g [v,.int .i64 ((n':Nat):Int),.int .u64 sd]):FC w'.heap g v cs n':=by
 obtain⟨sd0,h,F,h1,h2⟩:=h
 refine⟨sd,hb,F,Di.stable h1 fun b hb=>k.block b (Di.lt h1 b hb) fun hm=>?_,h2⟩
 have:b=g:=by simpa using hm
 have:=h2 b hb
 omega
theorem FC.new {w w':World}{g:Nat}{v:Value}{cs:List UInt8}(h:Rd (B3 rU) w.heap v cs)(k:AB w w')(hb:BX w'.heap g [v,.int .i64 0,.int .u64 0])(hg:w.heap.size≤g):FC w'.heap g v cs 0:=by
 obtain⟨F,h⟩:=h
 exact⟨0,hb,F,Di.stable h fun b hb=>k.heap (Di.lt h b hb),fun b hb=>by have:=Di.lt h b hb;omega⟩
theorem qV (x:UInt8):-9223372036854775808≤((x.toNat:Nat):Int)∧((x.toNat:Nat):Int)≤9223372036854775807:=by
 have:=x.toNat_lt;omega
theorem w8 (x:UInt8):IntKind.i64.wrap ((x.toNat:Nat):Int)=((x.toNat:Nat):Int):=Dh (qV x).1 (qV x).2
theorem SK (x:UInt8):x.toNat<256:=x.toNat_lt
section ops
variable {P:Program} {ops:Array Oper} {w0:World} {Q:Act→World→Prop} {os:List Oper} {ks:List Nat} {N:Nat} {ρ:Nat→Value} {w:World}
 {d:Nat} {ty:TypeId} {pos:String} {aft:Array Edge} {g:Option (Nat×Bool)} {t e:TypeId}
theorem Be {x:Operand}{a:Addr}(hx:Bw N ρ x=.pointer (some a))(hu:Up ops N ρ ⟨some d,.nilCheck x,ty,pos,aft,g⟩)
  (h:LW P ops w0 Q os ks (mk N (D3 ρ d (.pointer (some a)))) w):LW P ops w0 Q (⟨some d,.nilCheck x,ty,pos,aft,g⟩::os) (0::ks) (mk N ρ) w :=
 CP (by decide) rfl hu _ (fun w' _=>by simp[execOp,hx]) h
theorem ET {s:TypeId}{x:Operand}{b i:Nat}(off:Nat)(hf:qU P s i off=true)(hx:Bw N ρ x=.pointer (some ⟨b,0,none⟩))(hu:Up ops N ρ ⟨some d,.fieldAddr s x i,ty,pos,aft,g⟩)
  (h:LW P ops w0 Q os ks (mk N (D3 ρ d (.pointer (some ⟨b,off,none⟩)))) w):LW P ops w0 Q (⟨some d,.fieldAddr s x i,ty,pos,aft,g⟩::os) (0::ks) (mk N ρ) w :=
 CP (by decide) rfl hu _ (fun w' _=>by
  unfold qU at hf
  split at hf
  ·rename_i fs hfs
   split at hf
   ·rename_i f hff
    simp only[z7,beq_iff_eq]at hf
    obtain⟨rfl,hf2⟩:=hf
    split at hf2
    ·rename_i inf hin
     have hne:inf.size≠0:=by simpa using hf2
     have ha:(⟨b,0,none⟩:Addr).add f.offset=⟨b,f.offset,none⟩:=by
      unfold Addr.add
      split
      ·rename_i h0;rw[h0]
      ·simp
     simp[execOp,Instr.fieldAt,Instr.sureAddr,run_underlying hfs,hff,hx,fieldPlace,sizeOf,typeInfo,hin,hne,ha]
    ·cases hf2
   ·cases hf
  ·cases hf) h
theorem bZ {xt yt:TypeId}{x y:Operand}{k k':IntKind}{a b:Int}(c:Int)(hx:Bw N ρ x=.int k a)(hy:Bw N ρ y=.int k' b)(hb:0≤b)(hc:a.fdiv (2 ^ (min b.toNat k.bits))=c)(hu:Up ops N ρ ⟨some d,.binOp .shr xt x y yt,ty,pos,aft,g⟩)
  (h:LW P ops w0 Q os ks (mk N (D3 ρ d (.int k c))) w):LW P ops w0 Q (⟨some d,.binOp .shr xt x y yt,ty,pos,aft,g⟩::os) (0::ks) (mk N ρ) w :=
 CP (by decide) rfl hu _ (fun w' _=>by
  have he:(eqGuard .shr xt x y (.int k a) (.int k' b)).run P w'=.ok () w':=rfl
  simp[execOp,hx,hy,he,binOp,Op.shift,Int.not_lt.2 hb,hc]) h
def JQ (k:IntKind)(a b:Int):Int:=k.wrap ((BitVec.ofInt k.bits a &&& BitVec.ofInt k.bits b).toNat:Int)
theorem SL (a:Int):0≤JQ .u64 a 255∧JQ .u64 a 255≤255:=by
 have h:(BitVec.ofInt 64 a &&& BitVec.ofInt 64 255).toNat≤255:=by
  rw[BitVec.toNat_and]
  exact Aa Nat.and_le_right (by decide)
 have hw:∀m:Nat,m≤255→IntKind.u64.wrap (m:Int)=(m:Int):=fun m hm=>IntWalk.u64_in _ zO
 have e:JQ .u64 a 255=(((BitVec.ofInt 64 a &&& BitVec.ofInt 64 255).toNat:Nat):Int):=hw _ h
 rw[e]
 generalize (BitVec.ofInt 64 a &&& BitVec.ofInt 64 255).toNat=m at h
 omega
theorem cA (a:Int):-9223372036854775808≤JQ .u64 a 255∧JQ .u64 a 255≤9223372036854775807:=by have:=SL a;omega
theorem jF (a:Int):IntKind.i64.wrap (JQ .u64 a 255)=JQ .u64 a 255:=Dh (cA a).1 (cA a).2
theorem cB {xt yt:TypeId}{x y:Operand}{k:IntKind}{a b:Int}(hx:Bw N ρ x=.int k a)(hy:Bw N ρ y=.int k b)(hu:Up ops N ρ ⟨some d,.binOp .and xt x y yt,ty,pos,aft,g⟩)
  (h:LW P ops w0 Q os ks (mk N (D3 ρ d (.int k (JQ k a b)))) w):LW P ops w0 Q (⟨some d,.binOp .and xt x y yt,ty,pos,aft,g⟩::os) (0::ks) (mk N ρ) w :=
 CP (by decide) rfl hu _ (fun w' _=>by
  have he:(eqGuard .and xt x y (.int k a) (.int k b)).run P w'=.ok () w':=rfl
  simp[execOp,hx,hy,he,binOp,Op.intBits,JQ]) h
theorem BB {st:TypeId}{x y:Operand}{b k:Nat}{u:Value}{cs:List Value}(hst:(P.info? st).map (·.size)=some 1)(hx:Bw N ρ x=.pointer (some ⟨b,k,none⟩))(hy:Bw N ρ y=u)(hc:u.cells=#[u]∧u.oneCell'=true)
  (hb:BX w.heap b cs) (hk:k<cs.length) (hu:Up ops N ρ ⟨none,.store st x y,ty,pos,aft,g⟩)
  (h:∀w1,Az [b] w w1→w1.heap.size=w.heap.size→BX w1.heap b (cs.set k u)→LW P ops w0 Q os ks (mk N ρ) w1) :
  LW P ops w0 Q (⟨none,.store st x y,ty,pos,aft,g⟩::os) (4::ks) (mk N ρ) w:=by
 obtain⟨e,hb⟩:=hb
 have hr:=JO (P:=P) hst hb (j:=k) (by simpa using hk) hc.1 hc.2
 refine MI rfl hu _ (D1 hx hy hr)<|h _ (P5 _ _ _ _) (by simp[World.setCell]) ⟨e,?_⟩
 rw[ML hb]
 simp
theorem Ce {parts:Array (Nat×Operand)}{ps:Array (Nat×Value)}(u:Value)(hp:(parts.map fun(i,x)=>(i,Bw N ρ x))=ps)(hr:∀w',(Instr.build t ps).run P w'=.ok u w')(hu:Up ops N ρ ⟨some d,.build t parts,ty,pos,aft,g⟩)
  (h:LW P ops w0 Q os ks (mk N (D3 ρ d u)) w):LW P ops w0 Q (⟨some d,.build t parts,ty,pos,aft,g⟩::os) (0::ks) (mk N ρ) w :=
 CP (by decide) rfl hu _ (fun w' _=>by subst hp;simp[execOp,hr w']) h
theorem C8 {x:Operand}{cs:Array Value}(hx:Bw N ρ x=.agg cs)(hu:Up ops N ρ ⟨some d,.box t x,ty,pos,aft,g⟩)
  (h:∀w1,AB w w1→w1.heap.size=w.heap.size+1→BX w1.heap w.heap.size cs.toList→LW P ops w0 Q os ks (mk N (D3 ρ d (.pointer (some ⟨w.heap.size,0,none⟩)))) w1) :
  LW P ops w0 Q (⟨some d,.box t x,ty,pos,aft,g⟩::os) (3::ks) (mk N ρ) w:=by
 have hrun:(execOp (Bw N ρ) ⟨some d,.box t x,ty,pos,aft,g⟩).run P w=.ok (.value (.pointer (some ⟨w.heap.size,0,none⟩))) (w.alloc (.cells cs t)):=by
  simp[execOp,Instr.box,newVar,newRow,hx,Value.cells]
 refine MH rfl hu _ _ hrun (BZ _ _)<|h _ (BZ _ _) (by simp) ⟨t,?_⟩
 have:=heap_alloc_new w (.cells cs t)
 simpa using this
end ops
end
section
structure Ow {α:Type}(E:Bk α)(B T:Nat)(H:Array Obj)(v:Value)(x:α)(F:List Nat):Prop where
 own:E H v x F
 nodup:F.Nodup
 low:∀b∈F,B≤b
 high:∀b∈F,b<T
section
variable {α:Type} {E:Bk α} {B T U:Nat} {w w':World} {v:Value} {x:α} {F G:List Nat}
theorem Ow.of_fr (h:Fr E B U w.heap v x)(hT:U≤T):∃F,Ow E B T w.heap v x F:=by
 obtain⟨F,h1,h2,h3⟩:=h
 exact⟨F,h1,h2,fun b hb=>(h3 b hb).1,fun b hb=>by have:=h3 b hb;omega⟩
theorem Ow.fr (h:Ow E B T w.heap v x F):Fr E B T w.heap v x:=⟨F,h.own,h.nodup,fun b hb=>⟨h.low b hb,h.high b hb⟩⟩
theorem Ow.ext (hE:BT E)(h:Ow E B T w.heap v x F)(k:AB w w'):Ow E B T w'.heap v x F:=⟨P7 hE h.own k,h.nodup,h.low,h.high⟩
theorem Ow.keep (hE:BT E)(h:Ow E B T w.heap v x F)(c:Az G w w')(hG:∀b∈G,b∉F):Ow E B T w'.heap v x F:=⟨Ld hE h.own c hG,h.nodup,h.low,h.high⟩
theorem Ow.up {T':Nat}(h:Ow E B T w.heap v x F)(hT:T≤T'):Ow E B T' w.heap v x F:=⟨h.own,h.nodup,h.low,fun b hb=>Nat.lt_of_lt_of_le (h.high b hb) hT⟩
end
section ops
variable {P:Program} {ops:Array Oper} {w0:World} {Q:Act→World→Prop} {os:List Oper} {ks:List Nat} {N:Nat} {ρ:Nat→Value} {w:World}
 {d:Nat} {ty:TypeId} {pos:String} {aft:Array Edge} {g:Option (Nat×Bool)} {t e:TypeId} {z:Value} {b:Nat}
theorem fd {α:Type}{E:Bk α}(hE:BT E){x y:Operand}{v a:Value}{xs ys:List α}{B T B' U':Nat}{F:List Nat}(ht:P.underlying t=some (.slice e))(hi:TI P e 1 z b)(hz:z.cells=#[z])(hx:Bw N ρ x=v)(hy:Bw N ρ y=a)(hv:Ow (AY E e) B T w.heap v xs F)
  (ha:Fr (AY E e) B' U' w.heap a ys) (hT:T≤B') (hBB:B≤B') (hBw:B'≤w.heap.size) (hbytes:(xs.length+ys.length)*b≤140737488355328) (hmx:xs.length+ys.length≤maxLen) (hu:Up ops N ρ ⟨some d,.call ⟨.builtin .append,#[x,y],#[t,t]⟩,ty,pos,aft,g⟩)
  (h:∀v1 w1 F1,Az (F.take 1) w w1→Ow (AY E e) B w1.heap.size w1.heap v1 (xs++ys) F1→(∀c∈F1,c∈F∨B'≤c)→LW P ops w0 Q os ks (mk N (D3 ρ d v1)) w1) :
  LW P ops w0 Q (⟨some d,.call ⟨.builtin .append,#[x,y],#[t,t]⟩,ty,pos,aft,g⟩::os) (4::ks) (mk N ρ) w:=by
 obtain⟨h1,h2,h3,h4⟩:=hv
 obtain⟨G,g1,g2,g3⟩:=ha
 have gd:∀c∈G.drop 1,c∈G:=fun c hc=>List.mem_of_mem_drop hc
 obtain⟨v',w',F',r1,r2,r3,r4,r5⟩:=GN (P:=P) (ty:=ty) hE ht hi hz h1 h2 (g1.rd id) rfl hbytes hmx (fun c hc hF=>by have:=g3 c (gd c hc);have:=h4 c hF;omega)
  ((List.drop_sublist 1 G).nodup g2)
 refine Kn rfl hu v' w' (by simp only[execOp,resolve,invoke,builtin,zc,zf,zh,Sem.run_bind,Sem.run_pure,Result.andThen_ok,hx,hy,r1]) (h v' w' F' r5 ⟨r2,r3,fun c hc=>?_,fun c hc=>(Bj hE).lt r2 c hc⟩ fun c hc=>?_)
 ·rcases r4 c hc with hh|hh|hh
  ·exact h3 c hh
  ·have:=g3 c (gd c hh);omega
  ·omega
 ·rcases r4 c hc with hh|hh|hh
  ·exact .inl hh
  ·exact .inr (g3 c<|gd c hh).1
  ·exact .inr zO
end ops
end
section
abbrev BW (α:Type):=Array Obj→List Value→α→List Nat→Prop
structure Cw {α:Type}(s:Nat)(E:BW α):Prop where
 len:∀ {H cs x F},E H cs x F→cs.length=s
 one:∀ {H cs x F},E H cs x F→∀u∈cs,u.cells=#[u]∧u.oneCell'=true
 lt:∀ {H cs x F},E H cs x F→∀b∈F,b<H.size
 stable:∀ {H H' cs x F},E H cs x F→(∀b∈F,H'[b]? = H[b]?)→E H' cs x F
def CE {α:Type}(E:BW α)(H:Array Obj):List (List Value)→List α→List Nat→Prop
 |[],[],F=>F=[]
 |c::css,x::xs,F=>∃F1 F2,F=F1++F2∧E H c x F1∧CE E H css xs F2
 |_,_,_=>False
section CE
variable {α:Type} {E:BW α} {s:Nat} {H H':Array Obj}
theorem CE.length:∀ {css:List (List Value)}{xs:List α}{F:List Nat},CE E H css xs F→css.length=xs.length
 |[],[],_,_=>rfl
 |_::_,_::_,_,⟨_,_,_,_,h⟩=>by simp[CE.length h]
 |[],_::_,_,h=>h.elim
 |_::_,[],_,h=>h.elim
theorem CE.stable (hE:Cw s E):∀ {css:List (List Value)}{xs:List α}{F:List Nat},CE E H css xs F→(∀b∈F,H'[b]? = H[b]?)→CE E H' css xs F
 |[],[],_,h,_=>h
 |_::_,_::_,_,⟨F1,F2,rfl,h1,h2⟩,hb =>
  ⟨F1,F2,rfl,hE.stable h1 fun b hh=>hb b (z8 _ hh),CE.stable hE h2 fun b hh=>hb b (z1 _ hh)⟩
 |[],_::_,_,h,_=>h.elim
 |_::_,[],_,h,_=>h.elim
theorem CE.lt (hE:Cw s E):∀ {css:List (List Value)}{xs:List α}{F:List Nat},CE E H css xs F→∀b∈F,b<H.size
 |[],[],_,h,b,hb=>by rw[show _=[]from h]at hb;cases hb
 |_::_,_::_,_,⟨F1,F2,rfl,h1,h2⟩,b,hb=>(zi.1 hb).elim (hE.lt h1 b) (CE.lt hE h2 b)
 |[],_::_,_,h,_,_=>h.elim
 |_::_,[],_,h,_,_=>h.elim
theorem CE.get (hE:Cw s E):∀ {css:List (List Value)}{xs:List α}{F:List Nat}{k:Nat}(d:α),CE E H css xs F→k<xs.length →
  ∃cs F1,E H cs (xs.getD k d) F1∧(∀b∈F1,b∈F)∧∀i,i<s→css.flatten[k*s+i]? = some (cs.getD i undef)
 |c::css,x::xs,_,0,d,⟨F1,F2,rfl,h1,h2⟩,_=>⟨c,F1,h1,fun b hb=>z8 _ hb,fun i hi=>by
   have hl:=hE.len h1
   rw[List.flatten_cons,Nat.zero_mul,Nat.zero_add,List.getElem?_append_left (by omega)]
   simp[hl,hi]⟩
 |c::css,x::xs,_,k+1,d,⟨F1,F2,rfl,h1,h2⟩,hk=>by
  obtain⟨cs,G,q1,q2,q3⟩:=CE.get hE d h2 (by simpa using hk)
  refine⟨cs,G,by simpa using q1,fun b hh=>z1 _ (q2 b hh),fun i hi=>?_⟩
  have hl:=hE.len h1
  have e:(k+1)*s+i=c.length+(k*s+i):=by rw[Nat.succ_mul,hl];omega
  rw[List.flatten_cons,e,List.getElem?_append_right zO,Nat.add_sub_cancel_left]
  exact q3 i hi
 |[],[],_,_,_,_,hk=>by simp at hk
 |[],_::_,_,_,_,h,_=>h.elim
theorem CE.append:∀ {us vs:List (List Value)}{xs ys:List α}{F G:List Nat},CE E H us xs F→CE E H vs ys G→CE E H (us++vs) (xs++ys) (F++G)
 |[],_,[],_,_,_,h,k=>by rw[show _=[]from h];exact k
 |_::_,_,_::_,_,_,_,⟨F1,F2,rfl,h1,h2⟩,k=>⟨F1,_,by rw[List.append_assoc],h1,CE.append h2 k⟩
 |[],_,_::_,_,_,_,h,_=>h.elim
 |_::_,_,[],_,_,_,h,_=>h.elim
theorem CE.flen (hE:Cw s E):∀ {css:List (List Value)}{xs:List α}{F:List Nat},CE E H css xs F→css.flatten.length=xs.length*s
 |[],[],_,_=>by simp
 |c::css,x::xs,_,⟨F1,F2,rfl,h1,h2⟩=>by
  rw[List.flatten_cons,z4,hE.len h1,CE.flen hE h2,z9,Nat.succ_mul];omega
 |[],_::_,_,h=>h.elim
 |_::_,[],_,h=>h.elim
theorem CE.one (hE:Cw s E):∀ {css:List (List Value)}{xs:List α}{F:List Nat},CE E H css xs F→∀u∈css.flatten,u.cells=#[u]∧u.oneCell'=true
 |[],[],_,_,u,hu=>by cases hu
 |_::_,_::_,_,⟨F1,F2,rfl,h1,h2⟩,v,hv=>by
  rw[List.flatten_cons]at hv
  exact (zi.1 hv).elim (hE.one h1 v)<|CE.one hE h2 v
 |[],_::_,_,h,_,_=>h.elim
 |_::_,[],_,h,_,_=>h.elim
end CE
def EQ {α:Type}(s:Nat)(E:BW α):Bk (List α):=fun H v xs F =>
 (∃a cap,v=.slice a 0 cap∧xs=[]∧F=[]) ∨
 ∃css g off cap cur e fr F',CE E H css xs F'∧v=.slice (some ⟨g,off,none⟩) xs.length cap∧H[g]? = some (.cells cur e fr)∧(cur.toList.drop off).take (xs.length*s)=css.flatten∧(xs.length≤maxLen∧xs.length≤cap)∧F=g::F'
def LD (H:Array Obj)(p:Value)(cs:List Value):Prop:=∃g o,p=.pointer (some ⟨g,o,none⟩)∧∀i,i<cs.length→Ch H g (o+i)=some (cs.getD i undef)
def AA (p:Value)(k:Nat):Value :=
 match p with
 |.pointer (some ⟨g,o,none⟩)=>.pointer (some ⟨g,o+k,none⟩)
 |_=>undef
theorem LD.ld {H:Array Obj}{p:Value}{cs:List Value}(h:LD H p cs){i:Nat}(hi:i<cs.length):Fj H (AA p i)=some (cs.getD i undef):=by
 obtain⟨g,o,rfl,h⟩:=h
 exact h i hi
theorem Le (g off n cap k s:Nat):Ax (.slice (some ⟨g,off,none⟩) n cap) k s=.pointer (some ⟨g,off+k*s,none⟩):=by
 unfold Ax Addr.add
 simp only
 split
 ·rename_i h;rw[h];rfl
 ·rfl
section EQ
variable {α:Type} {E:BW α} {s:Nat} {H H':Array Obj} {v:Value} {xs:List α} {F:List Nat}
theorem Am (hE:Cw s E):BT (EQ s E) where
 cells:=by
  rintro H v xs F (⟨a,cap,rfl,_⟩|⟨us,g,off,cap,cur,e,fr,F',_,rfl,_⟩) <;> rfl
 one:=by
  rintro H v xs F (⟨a,cap,rfl,_⟩|⟨us,g,off,cap,cur,e,fr,F',_,rfl,_⟩) <;> rfl
 lt:=by
  rintro H v xs F (⟨a,cap,rfl,_,rfl⟩|⟨us,g,off,cap,cur,e,fr,F',h,rfl,hg,_,_,rfl⟩) b hb
  ·cases hb
  ·rcases ze.1 hb with rfl|hb
   ·exact getElem?_lt hg
   ·exact h.lt hE b hb
 stable:=by
  rintro H H' v xs F (⟨a,cap,rfl,h1,h2⟩|⟨us,g,off,cap,cur,e,fr,F',h,rfl,hg,hw,hml,rfl⟩) hb
  ·exact .inl ⟨a,cap,rfl,h1,h2⟩
  ·exact .inr ⟨us,g,off,cap,cur,e,fr,F',h.stable hE fun b hh=>hb b<|z3 _ hh,rfl,by rw[hb g (z0 ..)];exact hg,hw,hml,rfl⟩
theorem EQ.isSl (h:EQ s E H v xs F):Er v xs.length:=by
 rcases h with⟨a,cap,rfl,rfl,_⟩|⟨us,g,off,cap,cur,e,fr,F',_,rfl,_⟩
 ·exact⟨a,cap,rfl,fun _=>rfl⟩
 ·exact⟨_,cap,rfl,fun h=>by cases h⟩
theorem EQ.lenle (h:EQ s E H v xs F):xs.length≤maxLen:=by
 rcases h with⟨a,cap,_,rfl,_⟩|⟨us,g,off,cap,cur,e,fr,F',_,_,_,_,h,_⟩
 ·simp
 ·exact h.1
theorem EQ.cap (h:EQ s E H v xs F):∃a c,v=.slice a xs.length c∧xs.length≤c:=by
 rcases h with⟨a,cap,rfl,rfl,_⟩|⟨us,g,off,cap,cur,e,fr,F',_,rfl,_,_,h,_⟩
 ·exact⟨a,cap,rfl,Nat.zero_le _⟩
 ·exact⟨_,cap,rfl,h.2⟩
theorem Ov (hE:Cw s E):∀ {css:List (List Value)}{xs:List α}{F:List Nat}(k:Nat),CE E H css xs F→∃G,CE E H (css.take k) (xs.take k) G∧∀b∈G,b∈F
 |[],[],F,k,h=>⟨[],by simp[CE],fun b hb=>by cases hb⟩
 |c::css,x::xs,F,0,h=>⟨[],by simp[CE],fun b hb=>by cases hb⟩
 |c::css,x::xs,_,k+1,⟨F1,F2,rfl,h1,h2⟩=>by
  obtain⟨G,g1,g2⟩:=Ov hE k h2
  exact⟨F1++G,⟨F1,G,rfl,h1,g1⟩,fun b hb=>(zi.1 hb).elim (fun h=>z8 _ h) (fun h=>z1 _ (g2 b h))⟩
 |[],_::_,_,_,h=>h.elim
 |_::_,[],_,_,h=>h.elim
theorem EQ.take (hE:Cw s E){k:Nat}{a:Option Addr}{n c:Nat}(h:EQ s E H (.slice a n c) xs F)(hk:k≤xs.length):∃G,EQ s E H (.slice a k c) (xs.take k) G∧∀b∈G,b∈F:=by
 rcases h with⟨a',cap,hv,rfl,_⟩|⟨us,g,off,cap,cur,e,fr,F',h,hv,hg,hw,hl,rfl⟩
 ·have:k=0:=by simpa using hk
  subst this
  exact⟨[],.inl ⟨a,c,rfl,by simp,rfl⟩,fun b hb=>by cases hb⟩
 ·injection hv with h1 h2 h3
  subst h1;subst h2;subst h3
  obtain⟨G,g1,g2⟩:=Ov hE k h
  have hkl:(xs.take k).length=k:=by rw[List.length_take];omega
  refine⟨g::G,.inr ⟨us.take k,g,off,c,cur,e,fr,G,g1,by rw[hkl],hg,?_,by rw[hkl];omega,rfl⟩,fun b hb=>?_⟩
  ·have hf:=h.flen hE
   have ht:=g1.flen hE
   rw[hkl]at ht
   rw[hkl]
   have e1:us.flatten=(us.take k).flatten++(us.drop k).flatten:=by rw[← List.flatten_append,List.take_append_drop]
   have e2:(cur.toList.drop off).take (k*s)=((cur.toList.drop off).take (xs.length*s)).take (k*s):=by
    rw[List.take_take,Nat.min_eq_left (Nat.mul_le_mul_right s hk)]
   rw[e2,hw,e1,← ht,List.take_left]
  ·rcases ze.1 hb with rfl|hb
   ·exact z0 ..
   ·exact z3 _<|g2 b hb
theorem EQ.get (hE:Cw s E)(d:α){k:Nat}(h:EQ s E H v xs F)(hk:k<xs.length) :
  ∃cs F1,E H cs (xs.getD k d) F1∧(∀b∈F1,b∈F)∧∀H':Array Obj,(∀b∈F,H'[b]? = H[b]?)→LD H' (Ax v k s) cs:=by
 rcases h with⟨a,cap,rfl,rfl,_⟩|⟨css,g,off,cap,cur,e,fr,F',h,rfl,hg,hw,_,rfl⟩
 ·simp at hk
 ·obtain⟨cs,F1,q1,q2,q3⟩:=h.get hE d hk
  refine⟨cs,F1,q1,fun b hb=>z3 _ (q2 b hb),fun H' hH=>⟨g,off+k*s,Le ..,fun i hi=>?_⟩⟩
  rw[hE.len q1]at hi
  have h1:=q3 i hi
  have hlt:k*s+i<xs.length*s:=by
   have:(k+1)*s≤xs.length*s:=Nat.mul_le_mul_right s hk
   rw[Nat.succ_mul]at this;omega
  rw[← hw,List.getElem?_take,if_pos hlt,List.getElem?_drop]at h1
  simp only[Ch,hH g (z0 ..),hg]
  rw[Nat.add_assoc]
  simpa using h1
end EQ
def RN {β α:Type}(S:List Nat)(E:Array Obj→β→α→List Nat→Prop)(H:Array Obj)(v:β)(x:α):Prop:=∃F,E H v x F∧∀b∈F,b∉S
section rn
variable {α:Type} {S:List Nat} {w w':World} {s:Nat} {E:BW α} {v:Value} {xs:List α} {cs:List Value} {x:α}
theorem RN.chg {E:Bk α}(hE:BT E)(h:RN S E w.heap v x)(c:Az S w w'):RN S E w'.heap v x:=by
 obtain⟨F,h,hb⟩:=h
 exact⟨F,hE.stable h fun b hm=>c.block b (hE.lt h b hm) (hb b hm),hb⟩
theorem RN.ext {E:Bk α}(hE:BT E)(h:RN S E w.heap v x)(c:AB w w'):RN S E w'.heap v x:=by
 obtain⟨F,h,hb⟩:=h
 exact⟨F,hE.stable h fun b hm=>c.heap (hE.lt h b hm),hb⟩
theorem RN.none {β:Type}{E:Array Obj→β→α→List Nat→Prop}{H:Array Obj}{v:β}(h:RN S E H v x):RN [] E H v x:=by
 obtain⟨F,h,_⟩:=h
 exact⟨F,h,fun _ _ hm=>by cases hm⟩
theorem RN.rd {E:Bk α}{H:Array Obj}(h:RN S E H v x):Rd E H v x:=by obtain⟨F,h,_⟩:=h;exact⟨F,h⟩
theorem RN.of {E:Bk α}{H:Array Obj}(h:Rd E H v x):RN [] E H v x:=by obtain⟨F,h⟩:=h;exact⟨F,h,fun _ _ hm=>by cases hm⟩
theorem RN.isSl {H:Array Obj}(h:RN S (EQ s E) H v xs):Er v xs.length:=by obtain⟨F,h,_⟩:=h;exact h.isSl
theorem RN.lenle {H:Array Obj}(h:RN S (EQ s E) H v xs):xs.length≤maxLen:=by obtain⟨F,h,_⟩:=h;exact h.lenle
theorem RN.get (hE:Cw s E)(d:α){k:Nat}(h:RN S (EQ s E) w.heap v xs)(hk:k<xs.length) :
  ∃cs,RN S E w.heap cs (xs.getD k d)∧∀w',Az S w w'→LD w'.heap (Ax v k s) cs:=by
 obtain⟨F,h,hb⟩:=h
 have hlt:=(Am hE).lt h
 obtain⟨cs,F1,q1,q2,q3⟩:=EQ.get hE d h hk
 exact⟨cs,⟨F1,q1,fun b hm=>hb b (q2 b hm)⟩,fun w' c=>q3 _ fun b hm=>c.block b (hlt b hm) (hb b hm)⟩
end rn
theorem Az.of_ext {w w':World}(S:List Nat)(h:AB w w'):Az S w w':=⟨h.os,h.tape,h.output,h.size,fun k hk _=>h.heap hk⟩
theorem Az.ext0 {w w':World}(h:Az [] w w'):AB w w':=⟨h.os,h.tape,h.output,h.size,fun k hk=>h.block k hk (by simp)⟩
def EA (P:Program)(t:TypeId)(s:Nat):Bool :=
 (match P.underlying t with|some (.struct _)=>true|_=>false) && (match P.info? t with|some i=>i.size == s|none=>false)
def Im (P:Program)(s:TypeId)(i off:Nat):Bool :=
 match P.underlying s with
 |some (.struct fs) =>
  match fs[i]? with
  |some f=>(f.offset == off) && (match P.info? f.type with|some inf=>inf.size != 0|none=>false)
  |none=>false
 |_=>false
section ops
variable {P:Program} {ops:Array Oper} {w0:World} {Q:Act→World→Prop} {os:List Oper} {ks:List Nat} {N:Nat} {ρ:Nat→Value} {w:World}
 {d:Nat} {ty:TypeId} {pos:String} {aft:Array Edge} {g:Option (Nat×Bool)} {t e:TypeId}
theorem JS (b o k:Nat):(⟨b,o,none⟩:Addr).add k=⟨b,o+k,none⟩:=by
 unfold Addr.add
 split
 ·rename_i h;rw[h];rfl
 ·rfl
theorem Aq {s:TypeId}{x:Operand}{i:Nat}{p:Value}{b o:Nat}(off:Nat)(hf:Im P s i off=true)(hx:Bw N ρ x=p)(hp:p=.pointer (some ⟨b,o,none⟩))(hu:Up ops N ρ ⟨some d,.fieldAddr s x i,ty,pos,aft,g⟩)
  (h:LW P ops w0 Q os ks (mk N (D3 ρ d (AA p off))) w):LW P ops w0 Q (⟨some d,.fieldAddr s x i,ty,pos,aft,g⟩::os) (0::ks) (mk N ρ) w :=
 CP (by decide) rfl hu _ (fun w' _=>by
  subst hp
  unfold Im at hf
  split at hf
  ·rename_i fs hfs
   split at hf
   ·rename_i f hff
    simp only[z7,beq_iff_eq]at hf
    obtain⟨rfl,hf2⟩:=hf
    split at hf2
    ·rename_i inf hin
     have hne:inf.size≠0:=by simpa using hf2
     simp[execOp,Instr.fieldAt,Instr.sureAddr,run_underlying hfs,hff,hx,fieldPlace,sizeOf,typeInfo,hin,hne,JS,AA]
    ·cases hf2
   ·cases hf
  ·cases hf) h
theorem LD.ptr {H:Array Obj}{p:Value}{cs:List Value}(h:LD H p cs):∃b o,p=.pointer (some ⟨b,o,none⟩):=by obtain⟨b,o,h,_⟩:=h;exact⟨b,o,h⟩
theorem AP {s:TypeId}{x:Operand}{i:Nat}{p:Value}{H:Array Obj}{cs:List Value}(off:Nat)(hf:Im P s i off=true)(hx:Bw N ρ x=p)(hp:LD H p cs)(hu:Up ops N ρ ⟨some d,.fieldAddr s x i,ty,pos,aft,g⟩)
  (h:LW P ops w0 Q os ks (mk N (D3 ρ d (AA p off))) w):LW P ops w0 Q (⟨some d,.fieldAddr s x i,ty,pos,aft,g⟩::os) (0::ks) (mk N ρ) w:=by
 obtain⟨b,o,hp⟩:=hp.ptr
 exact Aq off hf hx hp hu h
theorem Ox {s:Nat}(ht:EA P t s=true){p:Value}{cs:List Value}(h:LD w.heap p cs)(hl:cs.length=s):(Instr.loadAt t p).run P w=.ok (.agg cs.toArray) w:=by
 obtain⟨b,o,rfl,h⟩:=h
 unfold EA at ht
 simp only[z7]at ht
 obtain⟨h1,h2⟩:=ht
 split at h1
 ·rename_i fs hfs
  split at h2
  ·rename_i inf hin
   have hs:inf.size=s:=by simpa using h2
   have hag:(isAgg t).run P w=.ok true w:=by
    unfold isAgg
    simp only[Sem.run_bind,run_underlying hfs,Result.andThen_ok]
    rfl
   have hlc:=run_loadCells_list (P:=P) w ⟨b,o,none⟩ cs (fun j v hj=>by
    rw[JS,Cu]
    have hjl:j<cs.length:=(List.getElem?_eq_some_iff.1 hj).1
    rw[h j hjl]
    simp[List.getD,hj])
   rw[hl,← hs]at hlc
   simp[Instr.loadAt,Instr.sureAddr,loadVar,hag,sizeOf,typeInfo,hin,hlc]
  ·cases h2
 ·cases h1
theorem AZ {k s:Nat}(hk:k=1∨k=2){x:Operand}{p:Value}(cs:List Value)(ht:EA P t s=true)(hx:Bw N ρ x=p)(hc:∀w',AB (if k=1 then w0 else w) w'→LD w'.heap p cs)(hl:cs.length=s)
  (hu:Up ops N ρ ⟨some d,.load t x,ty,pos,aft,g⟩)
  (h:LW P ops w0 Q os ks (mk N (D3 ρ d (.agg cs.toArray))) w):LW P ops w0 Q (⟨some d,.load t x,ty,pos,aft,g⟩::os) (k::ks) (mk N ρ) w :=
 CP zO rfl hu _ (fun w' hcl=>by
  have hld:LD w'.heap p cs:=by
   rcases hk with rfl|rfl
   ·exact hc w' hcl
   ·exact hc w' hcl
  simp[execOp,hx,Ox ht hld hl]) h
theorem LD.of_box {H:Array Obj}{b:Nat}{cs:List Value}(h:BX H b cs):LD H (.pointer (some ⟨b,0,none⟩)) cs:=by
 obtain⟨e,h⟩:=h
 refine⟨b,0,rfl,fun i hi=>?_⟩
 simp only[Ch,h]
 simp[hi]
theorem BX.ldp {H:Array Obj}{b:Nat}{cs:List Value}(h:BX H b cs){i:Nat}(hi:i<cs.length):Fj H (AA (.pointer (some ⟨b,0,none⟩)) i)=some (cs.getD i undef):=(LD.of_box h).ld hi
theorem Br {z:Value}(hz:(P.info? t).map (·.zero)=some (some z))(hu:Up ops N ρ ⟨some d,.alloc t,ty,pos,aft,g⟩)
  (h:∀w1,AB w w1→w1.heap.size=w.heap.size+1→BX w1.heap w.heap.size z.cells.toList→LW P ops w0 Q os ks (mk N (D3 ρ d (.pointer (some ⟨w.heap.size,0,none⟩)))) w1) :
  LW P ops w0 Q (⟨some d,.alloc t,ty,pos,aft,g⟩::os) (3::ks) (mk N ρ) w:=by
 obtain⟨i,hi1,hi2⟩:=Option.map_eq_some_iff.1 hz
 have hrun:(execOp (Bw N ρ) ⟨some d,.alloc t,ty,pos,aft,g⟩).run P w=.ok (.value (.pointer (some ⟨w.heap.size,0,none⟩))) (w.alloc (.cells z.cells t)):=by
  simp[execOp,Instr.alloc,zeroValue,typeInfo,hi1,hi2,newVar,newRow]
 refine MH rfl hu _ _ hrun (BZ _ _)<|h _ (BZ _ _) (by simp) ⟨t,?_⟩
 have:=heap_alloc_new w (.cells z.cells t)
 simpa using this
theorem BR {x y:Operand}{b s:Nat}{vs cs:List Value}(ht:EA P t s=true)(hx:Bw N ρ x=.pointer (some ⟨b,0,none⟩))(hy:Bw N ρ y=.agg vs.toArray)(h1:∀u∈vs,u.cells=#[u]∧u.oneCell'=true)
  (hb:BX w.heap b cs) (hl:vs.length=s) (hl2:cs.length=s) (hu:Up ops N ρ ⟨none,.store t x y,ty,pos,aft,g⟩)
  (h:∀w1,Az [b] w w1→w1.heap.size=w.heap.size→BX w1.heap b vs→LW P ops w0 Q os ks (mk N ρ) w1) :
  LW P ops w0 Q (⟨none,.store t x y,ty,pos,aft,g⟩::os) (4::ks) (mk N ρ) w:=by
 obtain⟨e,hb⟩:=hb
 unfold EA at ht
 simp only[z7]at ht
 obtain⟨q1,q2⟩:=ht
 split at q2
 ·rename_i inf hin
  have hs:inf.size=s:=by simpa using q2
  have hst:=run_storeCells_at (P:=P) b 0 e vs 0 cs.toArray w hb (by simp;omega) fun v hv=>(h1 v hv).2
  have hcs:(cs.toArray.toList.take (0+0)++vs++cs.toArray.toList.drop (0+0+vs.length))=vs:=by
   simp[List.drop_of_length_le (show cs.length≤vs.length by omega)]
  rw[hcs]at hst
  have hr:(Instr.storeAt t (.pointer (some ⟨b,0,none⟩)) (.agg vs.toArray)).run P w=.ok () (w.setRow b vs.toArray):=by
   simp[Instr.storeAt,Instr.sureAddr,storeVar,sizeOf,typeInfo,hin,Value.cells,hl,hs,hst]
  refine MI rfl hu _ (D1 hx hy hr)<|h _ ⟨rfl,rfl,rfl,by simp,fun k _ hk=>setRow_other w b k _ (by simpa using hk)⟩ (by simp) ⟨e,setRow_heap w b _ _ _ _ hb⟩
 ·cases q2
end ops
end
section
inductive Ex where
 |mk (kind num pick count:Int) (kids:List Ex)
namespace Ex
def kind:Ex→Int|mk k _ _ _ _=>k
def num:Ex→Int|mk _ n _ _ _=>n
def pick:Ex→Int|mk _ _ p _ _=>p
def count:Ex→Int|mk _ _ _ c _=>c
def kids:Ex→List Ex|mk _ _ _ _ l=>l
def zero:Ex:=mk 0 0 0 0 []
end Ex
abbrev BI (x:Int):Prop:=-9223372036854775808≤x∧x≤9223372036854775807
def Dd (e:Ex)(v:Value):List Value:=[.int .i64 e.kind,.int .i64 e.num,.int .i64 e.pick,.int .i64 e.count,v]
structure Rp (e:Ex):Prop where
 kind:BI e.kind
 num:BI e.num
 pick:BI e.pick
 count:BI e.count
def P9:Nat→BW Ex
 |0=>fun _ _ _ _=>False
 |d+1=>fun H cs e F=>∃v,cs=Dd e v∧Rp e∧EQ 5 (P9 d) H v e.kids F
theorem AL:∀d,Cw 5 (P9 d)
 |0=>⟨fun h=>h.elim,fun h=>h.elim,fun h=>h.elim,fun h=>h.elim⟩
 |d+1=>by
  have ih:=AL d
  refine⟨?_,?_,?_,?_⟩
  ·rintro H cs e F ⟨v,rfl,_,_⟩;rfl
  ·rintro H cs e F ⟨v,rfl,_,h⟩ u hu
   unfold Dd at hu
   simp only[ze,z2,or_false]at hu
   rcases hu with rfl|rfl|rfl|rfl|rfl
   ·exact⟨rfl,rfl⟩
   ·exact⟨rfl,rfl⟩
   ·exact⟨rfl,rfl⟩
   ·exact⟨rfl,rfl⟩
   ·exact⟨(Am ih).cells h,(Am ih).one h⟩
  ·rintro H cs e F ⟨v,rfl,_,h⟩ b hb
   exact (Am ih).lt h b hb
  ·rintro H H' cs e F ⟨v,rfl,hr,h⟩ hb
   exact⟨v,rfl,hr,(Am ih).stable h hb⟩
structure RX (S:List Nat)(d:Nat)(H:Array Obj)(v:Value)(e:Ex):Prop where
 rng:Rp e
 rn:RN S (EQ 5 (P9 d)) H v e.kids
theorem RX.of {S:List Nat}{d:Nat}{H:Array Obj}{cs:List Value}{e:Ex}(h:RN S (P9 d) H cs e):∃d' v,d=d'+1∧cs=Dd e v∧RX S d' H v e:=by
 obtain⟨F,h,hb⟩:=h
 cases d with
 |zero=>exact h.elim
 |succ d =>
  obtain⟨v,rfl,hr,h⟩:=h
  exact⟨d,v,rfl,rfl,hr,F,h,hb⟩
theorem RX.mk' {S:List Nat}{d:Nat}{H:Array Obj}{v:Value}{e:Ex}(h:RX S d H v e):RN S (P9 (d+1)) H (Dd e v) e:=by
 obtain⟨hr,F,h,hb⟩:=h
 exact⟨F,⟨v,rfl,hr,h⟩,hb⟩
section rx
variable {S:List Nat} {d:Nat} {w w':World} {v:Value} {e:Ex}
theorem RX.ext (h:RX S d w.heap v e)(k:AB w w'):RX S d w'.heap v e:=⟨h.rng,h.rn.ext (Am (AL d)) k⟩
theorem RX.ones {H:Array Obj}(h:RX S d H v e):∀u∈Dd e v,u.cells=#[u]∧u.oneCell'=true:=by
 obtain⟨F,h,_⟩:=h.mk'
 exact (AL (d+1)).one h
end rx
structure Fn where
 name:ByteArray
 params:Int
 outs:List Ex
def Fn.zero:Fn:=⟨.empty,0,[]⟩
def FU (f:Fn)(v:Value):List Value:=[.string f.name,.int .i64 f.params,v]
def cC (d:Nat):BW Fn:=fun H cs f F=>∃v,cs=FU f v∧BI f.params∧EQ 5 (P9 d) H v f.outs F
theorem AC (d:Nat):Cw 3 (cC d):=by
 have ih:=Am<|AL d
 refine⟨?_,?_,?_,?_⟩
 ·rintro H cs e F ⟨v,rfl,_,_⟩;rfl
 ·rintro H cs e F ⟨v,rfl,_,h⟩ u hu
  unfold FU at hu
  simp only[ze,z2,or_false]at hu
  rcases hu with rfl|rfl|rfl
  ·exact⟨rfl,rfl⟩
  ·exact⟨rfl,rfl⟩
  ·exact⟨ih.cells h,ih.one h⟩
 ·rintro H cs e F ⟨v,rfl,_,h⟩ b hb
  exact ih.lt h b hb
 ·rintro H H' cs e F ⟨v,rfl,hr,h⟩ hb
  exact⟨v,rfl,hr,ih.stable h hb⟩
structure RF (S:List Nat)(d:Nat)(H:Array Obj)(v:Value)(f:Fn):Prop where
 rng:BI f.params
 rn:RN S (EQ 5 (P9 d)) H v f.outs
theorem RF.of {S:List Nat}{d:Nat}{H:Array Obj}{cs:List Value}{f:Fn}(h:RN S (cC d) H cs f):∃v,cs=FU f v∧RF S d H v f:=by
 obtain⟨F,⟨v,rfl,hr,h⟩,hb⟩:=h
 exact⟨v,rfl,hr,F,h,hb⟩
theorem RF.one {S:List Nat}{d:Nat}{H:Array Obj}{v:Value}{f:Fn}(h:RF S d H v f):v.cells=#[v]∧v.oneCell'=true:=by
 obtain⟨_,F,h,_⟩:=h
 exact⟨(Am (AL d)).cells h,(Am (AL d)).one h⟩
theorem RF.ones {S:List Nat}{d:Nat}{H:Array Obj}{v:Value}{f:Fn}(h:RF S d H v f):∀u∈FU f v,u.cells=#[u]∧u.oneCell'=true:=by
 intro u hu
 unfold FU at hu
 simp only[ze,z2,or_false]at hu
 rcases hu with rfl|rfl|rfl
 ·exact⟨rfl,rfl⟩
 ·exact⟨rfl,rfl⟩
 ·exact h.one
abbrev RP (S:List Nat)(d:Nat)(H:Array Obj)(v:Value)(p:List Fn):Prop:=RN S (EQ 3 (cC d)) H v p
theorem Bo {v:Value}{n:Nat}(h:Er v n):v.cells=#[v]∧v.oneCell'=true:=by
 obtain⟨a,c,rfl,_⟩:=h;exact⟨rfl,rfl⟩
mutual
def Ex.size:Ex→Nat
 |.mk _ _ _ _ l=>1+Ex.sizes l
def Ex.sizes:List Ex→Nat
 |[]=>0
 |e::l=>e.size+Ex.sizes l
end
mutual
def Ex.deep:Ex→Nat
 |.mk _ _ _ _ l=>Ex.deeps l+1
def Ex.deeps:List Ex→Nat
 |[]=>0
 |e::l=>max e.deep (Ex.deeps l)
end
theorem CV (e:Ex):e.size=1+Ex.sizes e.kids:=by cases e;rw[Ex.size];rfl
theorem EW (e:Ex):e.deep=Ex.deeps e.kids+1:=by cases e;rw[Ex.deep];rfl
theorem HM (l:List Ex)(e:Ex):Ex.sizes (l++[e])=Ex.sizes l+e.size:=by
 induction l with
 |nil=>rw[zl,Ex.sizes,Ex.sizes,Ex.sizes];omega
 |cons x l ih=>rw[List.cons_append,Ex.sizes,Ex.sizes,ih];omega
theorem JT (l:List Ex)(e:Ex):Ex.deeps (l++[e])=max (Ex.deeps l) e.deep:=by
 induction l with
 |nil=>rw[zl,Ex.deeps,Ex.deeps,Ex.deeps];omega
 |cons x l ih=>rw[List.cons_append,Ex.deeps,Ex.deeps,ih];omega
theorem Eh {l:List Ex}{k:Nat}(hk:k<l.length):Ex.sizes (l.take (k+1))=Ex.sizes (l.take k)+(l.getD k Ex.zero).size:=by
 rw[List.take_succ_eq_append_getElem hk,HM]
 simp[hk]
theorem HN {l:List Ex}{k:Nat}(hk:k<l.length):Ex.deeps (l.take (k+1))=max (Ex.deeps (l.take k)) (l.getD k Ex.zero).deep:=by
 rw[List.take_succ_eq_append_getElem hk,JT]
 simp[hk]
theorem DH:∀(l:List Ex)(k:Nat),Ex.sizes (l.take k)≤Ex.sizes l
 |l,0=>by rw[List.take_zero,Ex.sizes];omega
 |[],k+1=>by simp
 |e::l,k+1=>by rw[List.take_succ_cons,Ex.sizes,Ex.sizes];have:=DH l k;omega
theorem Qm {l:List Ex}{k:Nat}(hk:k<l.length):(l.getD k Ex.zero).size≤Ex.sizes l:=by
 have h1:=Eh hk
 have h2:=DH l (k+1)
 omega
theorem Oy:Ex.sizes []=0:=by rw[Ex.sizes]
theorem Oz:Ex.deeps []=0:=by rw[Ex.deeps]
theorem OA {l:List Ex}{k:Nat}(hk:l.length≤k):Ex.sizes (l.take k)=Ex.sizes l:=by rw[za hk]
theorem Lf {l:List Ex}{k:Nat}(hk:l.length≤k):Ex.deeps (l.take k)=Ex.deeps l:=by rw[za hk]
mutual
theorem EX:∀e:Ex,e.deep≤e.size
 |.mk _ _ _ _ l=>by rw[Ex.deep,Ex.size];have:=JU l;omega
theorem JU:∀l:List Ex,Ex.deeps l≤Ex.sizes l
 |[]=>by rw[Ex.deeps,Ex.sizes];omega
 |e::l=>by rw[Ex.deeps,Ex.sizes];have:=EX e;have:=JU l;omega
end
section ops
variable {P:Program} {ops:Array Oper} {w0:World} {Q:Act→World→Prop} {os:List Oper} {ks:List Nat} {N:Nat} {ρ:Nat→Value} {w:World}
 {d:Nat} {ty:TypeId} {pos:String} {aft:Array Edge} {g:Option (Nat×Bool)}
theorem jG {t t':TypeId}{x y:Operand}{k:IntKind}{a b:Int}(c:Int)(hc:max a b=c)(hx:Bw N ρ x=.int k a)(hy:Bw N ρ y=.int k b)(hu:Up ops N ρ ⟨some d,.call ⟨.builtin .max,#[x,y],#[t,t']⟩,ty,pos,aft,g⟩)
  (h:LW P ops w0 Q os ks (mk N (D3 ρ d (.int k c))) w):LW P ops w0 Q (⟨some d,.call ⟨.builtin .max,#[x,y],#[t,t']⟩,ty,pos,aft,g⟩::os) (0::ks) (mk N ρ) w :=
 CP (by decide) rfl hu _ (fun w' _=>by
  have e:(if b > a then b else a)=c:=by omega
  simp[execOp,resolve,invoke,builtin,hx,hy,Builtin.max_,Builtin.max2,List.foldlM,e]) h
end ops
end
section
open Go Go.ChangeShapes Go.WideShapes Go.RowKit Go.Deep
theorem Vd {α:Type}{E:Bk α}{H:Array Obj}(U:Nat→Value)(X:Nat→α):∀(n:Nat),(∀i,i<n→Rd E H (U i) (X i))→∃F,els E H ((List.range n).map U) ((List.range n).map X) F
 |0,_=>⟨[],rfl⟩
 |n+1,h=>by
  obtain⟨F,hF⟩:=Vd U X n fun i hi=>h i zO
  obtain⟨G,hG⟩:=h n zO
  refine⟨F++(G++[]),?_⟩
  rw[List.range_succ,List.map_append,List.map_append]
  exact els.append hF ⟨G,[],rfl,hG,rfl⟩
theorem ff {α:Type}{E:Bk α}{W:World}{a:Option Addr}{n cap:Nat}(ha:a=none→n=0)(hm:n≤maxLen)(U:Nat→Value)(X:Nat→α)
  (hc:∀a' i,a=some a'→i<n→W.cell? (a'.add i)=some (U i)) (hE:∀i,i<n→Rd E W.heap (U i) (X i)):Rd (B3 E) W.heap (.slice a n cap) ((List.range n).map X):=by
 by_cases h0:n=0
 ·subst h0
  exact⟨[],.inl ⟨a,cap,rfl,rfl,rfl⟩⟩
 ·obtain⟨F,hF⟩:=Vd U X n hE
  cases a with
  |none=>exact absurd (ha rfl) h0
  |some a' =>
   obtain⟨g,off,spot⟩:=a'
   have h1:=hc _ 0 rfl zO
   have hs:spot=none:=by simpa [Addr.add]using World.cell?_spot h1
   subst hs
   have hcell:∀i,i<n→Ch W.heap g (off+i)=some (U i):=fun i hi=>by
    have:=hc _ i rfl hi
    rw[add_plain,Cu]at this
    exact this
   have h2:=hcell 0 zO
   unfold Ch at h2
   cases hg:W.heap[g]? with
   |none=>rw[hg]at h2;cases h2
   |some o =>
    cases o with
    |cells cur e fr =>
     refine⟨g::F,.inr ⟨(List.range n).map U,g,off,cap,cur,e,fr,F,hF,by simp,hg,?_,by simpa using hm,rfl⟩⟩
     apply List.ext_getElem?
     intro i
     simp only[zg,List.length_range,List.getElem?_take,List.getElem?_drop]
     by_cases hi:i<n
     ·have:=hcell i hi
      unfold Ch at this
      rw[hg]at this
      simp only[Array.getElem?_toList]at *
      rw[if_pos hi,this]
      simp[hi]
     ·rw[if_neg hi]
      simp[hi]
    |_=>rw[hg]at h2;cases h2
section
variable {H:Type} {enc:TypeId × Value→H} {P:Program} {W:World}
theorem AB.trodAll (hl:laidOutB P=true){W':World}(hx:AB W W'):∀ {ts:List TypeId}{vs:List Value}{ds:List (DataW H)}{ps:List MemPlace},(∀t∈ts,P.readableRec t=true∧t<P.types.size)→(∀x∈ps,x.block<W.heap.size) →
  DataW.TrodAll enc P W 0 (fun _=>true) true ts vs ds ps→DataW.TrodAll enc P W' 0 (fun b=>decide (b<W.heap.size)) true ts vs ds ps
 |[],[],[],_,_,_,h=>h
 |t::ts,v::vs,d::ds,ps,hr,hlt,⟨p,q,h1,h2,e⟩=>by
  subst e
  exact⟨p,q,Below.trod hl (hr t (z0 ..)).1 (hr t (z0 ..)).2 h1 hx fun x hx=>hlt x (z8 _ hx),
   AB.trodAll hl hx (fun t ht=>hr t (z3 _ ht)) (fun x hx=>hlt x (z1 _ hx)) h2,rfl⟩
 |[],[],_::_,_,_,_,h=>h.elim
 |[],_::_,_,_,_,_,h=>h.elim
 |_::_,[],_,_,_,_,h=>h.elim
 |_::_,_::_,[],_,_,_,h=>h.elim
theorem Ve {fn:Func}{s:ChangeSpec}{W':World}{args:Array Value}{ds:List (DataW H)}{before:List MemPlace}{tb:TypeId}(hl:laidOutB P=true)
  (hr:∀t∈fn.params.toList,P.readableRec t=true∧t<P.types.size) (hv:s.vars=[]) (hres:fn.resultTypes=#[tb]) (hb:P.underlying tb=some .bool)
  (hW:DataW.Whole enc P fn.params.toList s.vars false W args.toList ds [] before) (he:s.fn H (ds++[]) = { results:=[.lit (.bool true)],args:=ds }) (hx:AB W W') :
  s.post enc P fn false true false false W args (.bool true) W':=by
 have hW':=hW
 obtain⟨p,q,hA,hV,rfl,hfz,hnd⟩:=hW
 have hlt:∀x∈p++q,x.block<W.heap.size:=fun x hx=>hW'.lt x hx
 rw[hv]at hV
 obtain⟨_,rfl⟩:=trodVars_none hV
 refine⟨ds,[],_,[],p,[],hW',?_,?_,?_,Below.frame hx _,fun h=>by cases h⟩
 ·rw[he,hres];exact trodAll_mk1 (shut_bool hb true)
 ·rw[he];exact AB.trodAll hl hx hr (fun x hx=>hlt x (z8 _ hx)) hA
 ·rw[he,hv];rfl
end
end
section
open Go Go.ChangeShapes Go.WideShapes Go.RowKit Go.Deep
section
variable {H:Type} {enc:TypeId × Value→H} {P:Program} {W:World}
theorem Zr {z:Int}(h:0≤z∧z≤255):(((UInt8.ofNat z.toNat).toNat:Nat):Int)=z:=by
 rw[UInt8.toNat_ofNat']
 omega
theorem Rq {q:TypeId}{base fuel:Nat}{held:Bool}{u:Value}{x:DataW H×List MemPlace}{t:TypeId}(ht:P.underlying t=some (.slice q))(hq:P.underlying q=some (.int .u8))(cq:P.cellsOf q=1)
  (hf:DataW.trod enc P W base (fun _=>true) held fuel t [u]=some x):∃zs:List UInt8,Rd (B3 rU) W.heap u zs:=by
 rcases open_ints ht hq cq hf with⟨hcs,_⟩|⟨a,len,cap,zs,hcs,_,hl,hm,hz,_,hc,hw⟩
 ·simp only[List.cons.injEq,and_true]at hcs
  subst hcs
  exact⟨[],[],.inl ⟨none,0,rfl,rfl,rfl⟩⟩
 ·simp only[List.cons.injEq,and_true]at hcs
  subst hcs
  simp only[if_true]at hz
  refine⟨(List.range len).map fun i=>UInt8.ofNat (zs.getD i 0).toNat,ff (fun h=>by cases h) zO (fun i=>.int .u8 (zs.getD i 0)) _ (fun a' i ea hi=>by cases ea;exact hc i zO) fun i hi=>⟨[],?_,rfl⟩⟩
  have hb:0≤zs.getD i 0∧zs.getD i 0≤255:=by
   have h:=hw (zs.getD i 0) (by
    rw[List.getD_eq_getElem?_getD,List.getElem?_eq_getElem (show i<zs.length by omega)]
    exact List.getElem_mem _)
   simp only[Lit.wf,z7,decide_eq_true_eq]at h
   exact h
  rw[Zr hb]
theorem Qn {t q:TypeId}{base:Nat}{held:Bool}{v:Value}{d:DataW H}{ps:List MemPlace}(ht:P.underlying t=some (.slice q))(hq:P.underlying q=some (.int .u8))(cq:P.cellsOf q=1)
  (hv:∃a len cap,v=.slice a len cap) (h:DataW.Trod enc P W base (fun _=>true) held t v d ps):∃zs:List UInt8,Rd (B3 rU) W.heap v zs:=by
 obtain⟨a0,n0,c0,rfl⟩:=hv
 obtain⟨fuel,hf⟩:=h
 exact Rq ht hq cq hf
end
end
section
def L5 (s:ByteArray)(i:Nat):Nat:=((s[i]?).getD 0).toNat
section ops
variable {P:Program} {ops:Array Oper} {w0:World} {Q:Act→World→Prop} {os:List Oper} {ks:List Nat} {N:Nat} {ρ:Nat→Value} {w:World}
 {d:Nat} {ty:TypeId} {pos:String} {aft:Array Edge} {g:Option (Nat×Bool)}
theorem DA {t:TypeId}{x y:Operand}{s:ByteArray}{i:Int}(j:Nat)(ht:P.underlying t=some .string)(hx:Bw N ρ x=.string s)(hy:Bw N ρ y=.int .i64 i)(hj:i=(j:Int))(hlt:j<s.size)(hu:Up ops N ρ ⟨some d,.index t x y,ty,pos,aft,g⟩)
  (h:LW P ops w0 Q os ks (mk N (D3 ρ d (.int .u8 ((L5 s j:Nat):Int)))) w):LW P ops w0 Q (⟨some d,.index t x y,ty,pos,aft,g⟩::os) (0::ks) (mk N ρ) w :=
 CP (by decide) rfl hu _ (fun w' _=>by
  subst hj
  have e:s[j]? = some s[j]:=getElem?_pos s j hlt
  simp[execOp,hx,hy,Instr.index,asIntOf,run_underlying ht,e,L5]) h
end ops
end
section
theorem Hi {β:Type}{l r:List β}{k:Nat}{d:β}(h:k<l.length):(l++r).getD k d=l.getD k d:=by
 rw[List.getD_eq_getElem?_getD,List.getD_eq_getElem?_getD,List.getElem?_append_left h]
theorem GZ {β:Type}{l:List β}{x d:β}{k:Nat}(h:k=l.length):(l++[x]).getD k d=x:=by
 subst h
 rw[List.getD_eq_getElem?_getD,List.getElem?_append_right (A9 _)]
 simp
theorem Bq {g:Nat}{S:List Nat}(hg:g∈S):∀x∈[g],x∈S:=fun x hx=>by rw[Ab hx];exact hg
theorem Rr {g:Nat}{S F:List Nat}(hg:g∈S):∀x∈[g],x∈S++F:=fun x hx=>z8 _ (Bq hg x hx)
theorem B3.get2 {α:Type}{E:Bk α}{H:Array Obj}{v:Value}{xs:List α}{F:List Nat}(d:α){k:Nat}(h:B3 E H v xs F)(hk:k<xs.length) :
  ∃u F1,(∀H':Array Obj,(∀b∈F,H'[b]? = H[b]?)→Fj H' (Ax v k 1)=some u)∧E H u (xs.getD k d) F1∧∀b∈F1,b∈F:=by
 rcases h with⟨a,cap,rfl,rfl,_⟩|⟨us,g,off,cap,cur,e,fr,F',h,rfl,hg,hw,_,rfl⟩
 ·simp at hk
 ·obtain⟨u,F1,hu,hx,hb⟩:=h.get d hk
  refine⟨u,F1,fun H' hH=>?_,hx,fun b hh=>z3 _ (hb b hh)⟩
  rw[Ew]
  simp only[Fj,Ch,hH g (z0 ..),hg]
  rw[← hw,List.getElem?_take,if_pos hk,List.getElem?_drop]at hu
  simpa using hu
section rn
variable {α:Type} {S F:List Nat} {w w':World} {E:Bk α} {v:Value} {xs:List α} {x:α} {g:Nat}
theorem RN.run (hE:BT E)(h:RN S E w.heap v x)(hg:g∈S)(c:Az [g] w w'):RN S E w'.heap v x:=h.chg hE (c.sub (Bq hg))
theorem RN.add (hE:BT E)(h:RN S E w.heap v x)(hF:∀b∈F,w.heap.size≤b):RN (S++F) E w.heap v x:=by
 obtain⟨G,h1,h2⟩:=h
 refine⟨G,h1,fun b hb hm=>(zi.1 hm).elim (h2 b hb) fun hf=>?_⟩
 have:=hE.lt h1 b hb
 have:=hF b hf
 omega
theorem RN.getL (hE:BT E)(d:α){k:Nat}(h:RN S (B3 E) w.heap v xs)(hk:k<xs.length) :
  ∃u,(∀w',Az S w w'→Fj w'.heap (Ax v k 1)=some u)∧RN S E w.heap u (xs.getD k d):=by
 obtain⟨F,h,hb⟩:=h
 have hlt:=(DG hE).lt h
 obtain⟨u,F1,h1,h2,h3⟩:=B3.get2 d h hk
 exact⟨u,fun w' c=>h1 _ fun b hm=>c.block b (hlt b hm) (hb b hm),F1,h2,fun b hm=>hb b (h3 b hm)⟩
theorem RN.getI {xs:List Int}{k:Nat}(h:RN S (B3 rI) w.heap v xs)(hk:k<xs.length) :
  (∀w',Az S w w'→Fj w'.heap (Ax v k 1)=some (.int .i64 (xs.getD k 0)))∧-9223372036854775808≤xs.getD k 0∧xs.getD k 0≤9223372036854775807:=by
 obtain⟨u,h1,F1,h2,_⟩:=h.getL AS 0 hk
 rw[h2.1]at h1
 exact⟨h1,h2.2.2⟩
theorem RN.slL {H:Array Obj}(h:RN S (B3 E) H v xs):Go.Proofs.YtbajepcpgncekaaGreat.Er v xs.length:=by obtain⟨F,h,_⟩:=h;exact B3.isSl h
theorem RN.lenL {H:Array Obj}(h:RN S (B3 E) H v xs):xs.length≤maxLen:=by obtain⟨F,h,_⟩:=h;exact h.lenle
theorem RN.of_fr1 {e:TypeId}{B U:Nat}{H:Array Obj}{xs:List Int}(h:Fr (AY rI e) B U H v xs)(hS:∀b∈S,b<B):RN S (B3 rI) H v xs:=by
 obtain⟨F,h1,_,h3⟩:=h
 exact⟨F,h1.rd id,fun b hb hm=>by have:=h3 b hb;have:=hS b hm;omega⟩
theorem RN.of_fr2 {e e':TypeId}{B U:Nat}{H:Array Obj}{xs:List (List Int)}(h:Fr (AY (AY rI e) e') B U H v xs)(hS:∀b∈S,b<B):RN S (B3 (B3 rI)) H v xs:=by
 obtain⟨F,h1,_,h3⟩:=h
 exact⟨F,h1.rd fun h=>h.rd id,fun b hb hm=>by have:=h3 b hb;have:=hS b hm;omega⟩
theorem RN.one1 {H:Array Obj}(hE:BT E)(h:RN S E H v x):v.cells=#[v]∧v.oneCell'=true:=by obtain⟨F,h,_⟩:=h;exact⟨hE.cells h,hE.one h⟩
end rn
def rP {α:Type}(E:BW α):Bk α:=fun H v x F=>∃cs F' g o,v=.pointer (some ⟨g,o,none⟩)∧g<H.size∧(∀i,i<cs.length→Ch H g (o+i)=some (cs.getD i undef))∧E H cs x F'∧F=g::F'
theorem Bf {α:Type}{s:Nat}{E:BW α}(hE:Cw s E):BT (rP E) where
 cells:=by rintro H v x F ⟨cs,F',g,o,rfl,_⟩;rfl
 one:=by rintro H v x F ⟨cs,F',g,o,rfl,_⟩;rfl
 lt:=by
  rintro H v x F ⟨cs,F',g,o,rfl,hg,hc,he,rfl⟩ b hb
  rcases ze.1 hb with rfl|hb
  ·exact hg
  ·exact hE.lt he b hb
 stable:=by
  rintro H H' v x F ⟨cs,F',g,o,rfl,hg,hc,he,rfl⟩ hb
  refine⟨cs,F',g,o,rfl,?_,fun i hi=>?_,hE.stable he fun b hm=>hb b (z3 _ hm),rfl⟩
  ·have:=hb g (z0 ..)
   rcases Nat.lt_or_ge g H'.size with h|h
   ·exact h
   ·rw[Array.getElem?_eq_none h,Array.getElem?_eq_getElem hg]at this;cases this
  ·have:=hc i hi
   unfold Ch at this ⊢
   rw[hb g (z0 ..)];exact this
section rp
variable {α:Type} {S:List Nat} {w w':World} {s:Nat} {E:BW α} {v p:Value} {xs:List α} {x:α}
theorem RN.ptr (hE:Cw s E)(hs:0<s)(d:α){k:Nat}{H:Array Obj}(h:RN S (EQ s E) H v xs)(hk:k<xs.length):RN S (rP E) H (Ax v k s) (xs.getD k d):=by
 obtain⟨F,h,hb⟩:=h
 rcases h with⟨a,cap,rfl,rfl,_⟩|⟨css,g,off,cap,cur,e,fr,F',h,rfl,hg,hw,_,rfl⟩
 ·simp at hk
 ·obtain⟨cs,F1,q1,q2,q3⟩:=h.get hE d hk
  rw[Le]
  refine⟨g::F1,⟨cs,F1,g,off+k*s,rfl,getElem?_lt hg,fun i hi=>?_,q1,rfl⟩,fun b hm=>?_⟩
  ·rw[hE.len q1]at hi
   have h1:=q3 i hi
   have hlt:k*s+i<xs.length*s:=by
    have:(k+1)*s≤xs.length*s:=Nat.mul_le_mul_right s hk
    rw[Nat.succ_mul]at this;omega
   rw[← hw,List.getElem?_take,if_pos hlt,List.getElem?_drop]at h1
   simp only[Ch,hg]
   rw[Nat.add_assoc]
   simpa using h1
  ·rcases ze.1 hm with rfl|hm
   ·exact hb _ (z0 ..)
   ·exact hb b<|z3 _<|q2 b hm
theorem RN.at (hE:Cw s E)(h:RN S (rP E) w.heap p x):∃cs,RN S E w.heap cs x∧∀w',Az S w w'→LD w'.heap p cs:=by
 obtain⟨F,h,hb⟩:=h
 have hlt:=(Bf hE).lt h
 obtain⟨cs,F',g,o,rfl,hg,hc,he,rfl⟩:=h
 refine⟨cs,⟨F',he,fun b hm=>hb b (z3 _ hm)⟩,fun w' c=>⟨g,o,rfl,fun i hi=>?_⟩⟩
 have:=hc i hi
 unfold Ch at this ⊢
 rw[c.block g hg (hb g (z0 ..))];exact this
theorem RN.isPtr {H:Array Obj}(h:RN S (rP E) H p x):∃g o,p=.pointer (some ⟨g,o,Option.none⟩):=by
 obtain⟨F,⟨cs,F',g,o,rfl,_⟩,_⟩:=h
 exact⟨g,o,rfl⟩
theorem RN.box {b:Nat}{H:Array Obj}{cs:List Value}(hB:BX H b cs)(h:RN S E H cs x)(hb:b∉S):RN S (rP E) H (.pointer (some ⟨b,0,Option.none⟩)) x:=by
 have hl:=hB.lt
 obtain⟨e,hB⟩:=hB
 obtain⟨F,h1,h2⟩:=h
 refine⟨b::F,⟨cs,F,b,0,rfl,hl,fun i hi=>?_,h1,rfl⟩,fun c hc=>?_⟩
 ·simp only[Ch,hB];simp[hi]
 ·rcases ze.1 hc with rfl|hc
  ·exact hb
  ·exact h2 c hc
end rp
def LS (d:Nat):BW (List Fn):=fun H cs p F=>∃v,cs=[v]∧EQ 3 (cC d) H v p F
theorem B2 (d:Nat):Cw 1 (LS d):=by
 have ih:=Am<|AC d
 refine⟨?_,?_,?_,?_⟩
 ·rintro H cs e F ⟨v,rfl,_⟩;rfl
 ·rintro H cs e F ⟨v,rfl,h⟩ u hu
  rw[Ab hu]
  exact⟨ih.cells h,ih.one h⟩
 ·rintro H cs e F ⟨v,rfl,h⟩ b hb
  exact ih.lt h b hb
 ·rintro H H' cs e F ⟨v,rfl,h⟩ hb
  exact⟨v,rfl,ih.stable h hb⟩
theorem RPr.of {S:List Nat}{d:Nat}{H:Array Obj}{cs:List Value}{p:List Fn}(h:RN S (LS d) H cs p):∃v,cs=[v]∧RP S d H v p:=by
 obtain⟨F,⟨v,rfl,h⟩,hb⟩:=h
 exact⟨v,rfl,F,h,hb⟩
theorem RP.mk' {S:List Nat}{d:Nat}{H:Array Obj}{v:Value}{p:List Fn}(h:RP S d H v p):RN S (LS d) H [v] p:=by
 obtain⟨F,h,hb⟩:=h
 exact⟨F,⟨v,rfl,h⟩,hb⟩
structure Ic (e:TypeId)(S:List Nat)(B:Nat)(H:Array Obj)(v:Value)(xs:List (List Int))(us:List Value)(F:List Nat):Prop where
 own:AY rV e H v us F
 nd:F.Nodup
 low:∀b∈F,B≤b
 len:us.length=xs.length
 els:∀k,k<xs.length→RN (S++F) (B3 rI) H (us.getD k undef) (xs.getD k [])
def Pa (e:TypeId)(S:List Nat)(B:Nat)(H:Array Obj)(v:Value)(xs:List (List Int)):Prop:=∃us F,Ic e S B H v xs us F
section bld
variable {e:TypeId} {S F:List Nat} {B:Nat} {w w':World} {v:Value} {xs:List (List Int)} {us:List Value} {g:Nat}
theorem Ic.nil {U:Nat}{H:Array Obj}(h:Fr (AY rV e) B U H v []):Pa e S B H v []:=by
 obtain⟨F,h1,h2,h3⟩:=h
 exact⟨[],F,h1,h2,fun b hb=>(h3 b hb).1,rfl,fun k hk=>by simp at hk⟩
theorem Ic.lt {H:Array Obj}(h:Ic e S B H v xs us F):∀b∈F,b<H.size:=(Bj Bc).lt h.own
theorem Ic.ext (h:Ic e S B w.heap v xs us F)(k:AB w w'):Ic e S B w'.heap v xs us F :=
 ⟨(Bj Bc).stable h.own fun b hb=>k.heap (h.lt b hb),h.nd,h.low,h.len,fun i hi=>(h.els i hi).ext g1 k⟩
theorem Ic.run (h:Ic e S B w.heap v xs us F)(hg:g∈S)(hgB:g<B)(c:Az [g] w w'):Ic e S B w'.heap v xs us F :=
  ⟨(Bj Bc).stable h.own fun b hb=>c.block b (h.lt b hb) fun hm=>by have:=h.low b hb;rw[Ab hm]at this;omega,h.nd,h.low,h.len,
   fun i hi=>(h.els i hi).chg g1 (c.sub (Rr hg))⟩
theorem Lg {S:List Nat}{H:Array Obj}:∀ {us:List Value}{xs:List (List Int)},us.length=xs.length→(∀k,k<xs.length→RN S (B3 rI) H (us.getD k undef) (xs.getD k []))→∃G,els (B3 rI) H us xs G∧∀b∈G,b∉S
 |[],[],_,_=>⟨[],rfl,fun b hb=>by cases hb⟩
 |u::us,x::xs,hl,h=>by
  obtain⟨G1,q1,q2⟩:=h 0 (by simp)
  obtain⟨G2,r1,r2⟩:=Lg (us:=us) (xs:=xs) (by simpa using hl) fun k hk=>by
   have:=h (k+1) (by simpa using hk)
   simpa using this
  exact⟨G1++G2,⟨G1,G2,rfl,by simpa using q1,r1⟩,fun b hb=>(zi.1 hb).elim (q2 b) (r2 b)⟩
theorem G3 {H:Array Obj}:∀ {us vs:List Value}{F:List Nat},els rV H us vs F→us=vs∧F=[]
 |[],[],_,h=>⟨rfl,h⟩
 |_::_,_::_,_,⟨F1,F2,rfl,h1,h2⟩=>by
  obtain⟨rfl,rfl⟩:=G3 h2
  rw[h1.1,h1.2.1];exact⟨rfl,rfl⟩
 |[],_::_,_,h=>h.elim
 |_::_,[],_,h=>h.elim
theorem Ic.done {H:Array Obj}(h:Ic e S B H v xs us F)(hS:∀b∈S,b<B):RN S (B3 (B3 rI)) H v xs:=by
 obtain⟨G,g1,g2⟩:=Lg h.len h.els
 have g2':∀b∈G,b∉S:=fun b hb hm=>g2 b hb (z8 _ hm)
 rcases h.own with⟨rfl,hus,rfl⟩|⟨vs,gb,cap,cur,F',hels,rfl,hg,r1,r2,r3,r4,hF⟩
 ·have:xs=[]:=List.eq_nil_of_length_eq_zero (by rw[← h.len,hus];rfl)
  subst this
  exact⟨[],.inl ⟨none,0,rfl,rfl,rfl⟩,fun b hb=>by cases hb⟩
 ·obtain⟨hv,hF0⟩:=G3 hels
  subst hv
  have hl:=h.len
  refine⟨gb::G,.inr ⟨vs,gb,0,cap,cur,e,(0,0),G,g1,by rw[hl],hg,by simpa [hl]using r4,zO,rfl⟩,fun b hb hm=>?_⟩
  rcases ze.1 hb with rfl|hb
  ·have:=h.low b (by rw[hF];exact z0 ..)
   have:=hS b hm
   omega
  ·exact g2' b hb hm
end bld
section ops
variable {P:Program} {ops:Array Oper} {w0:World} {Q:Act→World→Prop} {os:List Oper} {ks:List Nat} {N:Nat} {ρ:Nat→Value} {w:World}
 {d:Nat} {ty:TypeId} {pos:String} {aft:Array Edge} {g:Option (Nat×Bool)} {t e:TypeId} {z:Value} {b:Nat}
theorem Ei {x y:Operand}{v a u:Value}{xs:List (List Int)}{r:List Int}{us:List Value}{S F:List Nat}{B B' U':Nat}(ht:P.underlying t=some (.slice e))(hi:TI P e 1 z b)(hz:z.cells=#[z])(hx:Bw N ρ x=v)(hy:Bw N ρ y=a)
  (hv:Ic e S B w.heap v xs us F) (hB:B≤w.heap.size) (ha:Fr (AY rV e) B' U' w.heap a [u]) (hr:RN (S++F) (B3 rI) w.heap u r) (hbytes:(xs.length+1)*b≤140737488355328) (hmx:xs.length+1≤maxLen)
  (hu:Up ops N ρ ⟨some d,.call ⟨.builtin .append,#[x,y],#[t,t]⟩,ty,pos,aft,g⟩)
  (h:∀v1 w1 F0,Az F0 w w1→(∀c∈F0,c∈F)→Pa e S B w1.heap v1 (xs++[r])→LW P ops w0 Q os ks (mk N (D3 ρ d v1)) w1) :
  LW P ops w0 Q (⟨some d,.call ⟨.builtin .append,#[x,y],#[t,t]⟩,ty,pos,aft,g⟩::os) (4::ks) (mk N ρ) w:=by
 obtain⟨G,g1',g2',g3'⟩:=ha
 have hG1:G.drop 1=[]:=by
  rcases g1' with⟨_,hc,_⟩|⟨vs,gb,cap,cur,F',hels,_,_,_,_,_,_,rfl⟩
  ·cases hc
  ·rw[(G3 hels).2];rfl
 obtain⟨v',w',F',r1,r2,r3,r4,r5⟩:=GN (P:=P) (ty:=ty) Bc ht hi hz hv.own hv.nd (g1'.rd id) rfl (by rw[hv.len];exact hbytes) (by rw[hv.len];exact hmx) (by rw[hG1];intro c hc;cases hc) (by rw[hG1];exact zk)
 rw[hG1]at r4
 refine Kn rfl hu v' w' (by simp only[execOp,resolve,invoke,builtin,zc,zf,zh,Sem.run_bind,Sem.run_pure,Result.andThen_ok,hx,hy,r1])<|h v' w' (F.take 1) r5 (fun c hc=>zj hc) ⟨us++[u],F',r2,r3,fun c hc=>?_,by simp[hv.len],fun k hk=>?_⟩
 ·rcases r4 c hc with hh|hh|hh
  ·exact hv.low c hh
  ·cases hh
  ·omega
 ·have key:∀ {v0:Value} {x0:List Int},RN (S++F) (B3 rI) w.heap v0 x0→RN (S++F') (B3 rI) w'.heap v0 x0:=by
   rintro v0 x0 ⟨K,k1,k2⟩
   have hlt:=g1.lt k1
   refine⟨K,g1.stable k1 fun c hc=>r5.block c (hlt c hc) fun hm=>k2 c hc (z1 _ (zj hm)),fun c hc hm=>?_⟩
   rcases zi.1 hm with hm|hm
   ·exact k2 c hc<|z8 _ hm
   ·rcases r4 c hm with hh|hh|hh
    ·exact k2 c hc<|z1 _ hh
    ·cases hh
    ·have:=hlt c hc;omega
  rw[z4,zd]at hk
  by_cases hkx:k<xs.length
  ·have h1:=key<|hv.els k hkx
   have hku:k<us.length:=by rw[hv.len];exact hkx
   rw[Hi hku,Hi hkx]
   exact h1
  ·have e1:k=xs.length:=by omega
   have e2:k=us.length:=by rw[hv.len];exact e1
   rw[GZ e2,GZ e1]
   exact key hr
def Cj:Value→Prop
 |.slice _ n c=>n≤c
 |_=>False
theorem AY.cap {α:Type}{E:Bk α}{e:TypeId}{H:Array Obj}{v:Value}{xs:List α}{F:List Nat}(h:AY E e H v xs F):Cj v:=by
 rcases h with⟨rfl,_⟩|⟨us,g,cap,cur,F',_,rfl,_,h,_⟩
 ·exact A9 _
 ·exact h
theorem Fr.cap {α:Type}{E:Bk α}{e:TypeId}{B U:Nat}{H:Array Obj}{v:Value}{xs:List α}(h:Fr (AY E e) B U H v xs):Cj v:=by
 obtain⟨F,h,_⟩:=h;exact h.cap
theorem Ic.cap {e:TypeId}{S F:List Nat}{B:Nat}{H:Array Obj}{v:Value}{xs:List (List Int)}{us:List Value}(h:Ic e S B H v xs us F):Cj v:=h.own.cap
def Kq:Value→Value
 |.slice a n _=>.slice a n n
 |v=>v
end ops
end
section
set_option linter.unusedSectionVars false
class JR where
 rel:World→World→Prop
 refl:∀w,rel w w
 trans:∀ {a b c},rel a b→rel b c→rel a c
 ext:∀ {a b},AB a b→rel a b
@[reducible] def UU (F:List Nat):JR:=⟨Az F,Az.refl F,Az.trans,Az.of_ext F⟩
namespace Jx
variable [J:JR]
def AB (w w':World):Prop:=J.rel w w'
theorem AB.refl (w:World):AB w w:=J.refl w
theorem AB.trans {a b c:World}(h:AB a b)(k:AB b c):AB a c:=J.trans h k
section
variable {P:Program} {ops:Array Oper} {md:Region.Mode}
def Cl (w0 w:World):Nat→World→Prop
 |0,_=>True
 |1,w'=>AB w0 w'
 |_,w'=>AB w w'
def BY (P:Program)(w0:World)(o:Oper)(k:Nat)(a:Act)(w:World)(K:Act→World→Prop):Prop :=
 if k≤2 then ∃v,(∀w',Cl w0 w k w'→YA P o a w' v)∧K (a.put o.dst v) w
 else if k=3 then o.wp P a w (fun a' w'=>AB w w'∧K a' w') (NQ fun _ _=>False)
 else o.wp P a w K (NQ fun _ _=>False)
def LW (P:Program)(ops:Array Oper)(w0:World)(Q:Act→World→Prop):List Oper→List Nat→Act→World→Prop
 |[],_,a,w=>Q a w
 |_::_,[],_,_=>False
 |o::os,k::ks,a,w =>
  if Region.wanted o (yielded ops a.tmps)=true then BY P w0 o k a w (LW P ops w0 Q os ks)else LW P ops w0 Q os ks (a.put o.dst undef) w
theorem BY.mono {w0:World}{o:Oper}{k:Nat}{a:Act}{w:World}{K K':Act→World→Prop}(h:∀a w,K a w→K' a w)
  (hh:BY P w0 o k a w K):BY P w0 o k a w K':=by
 unfold BY at *
 split
 ·rename_i hk
  rw[if_pos hk]at hh
  obtain⟨v,h1,h2⟩:=hh
  exact⟨v,h1,h _ _ h2⟩
 ·rename_i hk
  rw[if_neg hk]at hh
  split
  ·rename_i h3
   rw[if_pos h3]at hh
   exact Oper.wp_mono (fun a w hx=>⟨hx.1,h _ _ hx.2⟩) hh
  ·rename_i h3
   rw[if_neg h3]at hh
   exact Oper.wp_mono h hh
variable (P ops) in
def LI (kd:Nat→Nat)(w0:World)(Q:Act→World→Prop):List Nat→Act→World→Prop
 |[],a,w=>Q a w
 |i::l,a,w =>
  match ops[i]? with
  |none=>False
  |some o=>if Region.wanted o (yielded ops a.tmps)=true then BY P w0 o (kd i) a w (LI kd w0 Q l)else LI kd w0 Q l (a.put o.dst undef) w
def L8 (kd:Nat→Nat)(w0 w:World)(l:List Nat):Prop:=(∃j∈l,kd j=1)→AB w0 w
def Yv (P:Program)(ops:Array Oper)(w0:World)(k:Nat)(o:Oper)(a:Act)(w:World)(v:Value):Prop :=
 (Region.wanted o (yielded ops a.tmps)=true∧∀w',Cl w0 w k w'→YA P o a w' v)∨(Region.wanted o (yielded ops a.tmps)=false∧v=undef)
theorem Cl.self {w0 w:World}{k:Nat}(h:k=1→AB w0 w):Cl w0 w k w:=by
 match k,h with
 |0,_=>exact trivial
 |1,h=>exact h rfl
 |_+2,_=>exact AB.refl w
theorem Yv.unique {w0 w:World}{k:Nat}{o:Oper}{a:Act}{v u:Value}(hk:k=1→AB w0 w)(h:Yv P ops w0 k o a w v)(h':Yv P ops w0 k o a w u):v=u:=by
 rcases h with⟨h1,h2⟩|⟨h1,h2⟩ <;> rcases h' with⟨g1,g2⟩|⟨g1,g2⟩
 ·exact (h2 w<|Cl.self hk).unique<|g2 w<|Cl.self hk
 ·rw[h1]at g1;cases g1
 ·rw[h1]at g1;cases g1
 ·rw[h2,g2]
theorem Yv.apart {w0 w:World}{k:Nat}{o:Oper}(hs:∀cs b,o.op≠.select cs b){a:Act}{d:Option Tmp}{u v:Value}
  (h1:∀x,d=some x→x∉o.looksAt ops):Yv P ops w0 k o (a.put d u) w v↔Yv P ops w0 k o a w v:=by
 unfold Yv
 rw[wanted_put (ops:=ops) o a d u h1]
 simp only[YA.apart (ops:=ops) (P:=P) hs h1]
theorem Yv.defers {w0 w:World}{k:Nat}{o:Oper}{a:Act}{l:List Deferred}{v:Value}:Yv P ops w0 k o { a with defers:=l } w v↔Yv P ops w0 k o a w v:=by
 have he:Act.eval { a with defers:=l }=Act.eval a:=funext fun x=>by cases x <;> rfl
 unfold Yv YA
 rw[he]
theorem Yv.shape {w0 w:World}{k:Nat}{o:Oper}(hs:∀cs b,o.op≠.select cs b){a a':Act}{d:Option Tmp}{v:Value}
  (h1:∀x,d=some x→x∉o.looksAt ops) (h:Or a d a'):Yv P ops w0 k o a' w v↔Yv P ops w0 k o a w v:=by
 obtain⟨u,rfl|⟨x,rfl⟩⟩:=h
 ·exact Yv.apart hs h1
 ·rw[Yv.apart hs h1];exact Yv.defers
section main
variable {kd bs:Nat→Nat} {w0:World} {Q:Act→World→Prop}
theorem Ia (hsel:∀(j:Nat)(o:Oper) cs b,ops[j]? = some o→o.op≠.select cs b){j:Nat}{oj:Oper}(hj:ops[j]? = some oj)(hk:kd j≤2) :
  ∀(l1 l2:List Nat) (a:Act) (w:World),(∀i∈l1,∀oi,ops[i]? = some oi→oi.apart ops oj=true∧D6 (kd i) (kd j)=true)→(kd j=1→AB w0 w) →
   LI P ops kd w0 Q (l1++j::l2) a w→∃v,Yv P ops w0 (kd j) oj a w v∧LI P ops kd w0 Q (l1++l2) (a.put oj.dst v) w
 |[],l2,a,w,_,_,h=>by
  simp only[zl,LI,hj]at h ⊢
  split at h
  ·rename_i hw
   unfold BY at h
   rw[if_pos hk]at h
   obtain⟨v,h1,h2⟩:=h
   exact⟨v,.inl ⟨hw,h1⟩,h2⟩
  ·rename_i hw
   exact⟨undef,.inr ⟨by simpa using hw,rfl⟩,h⟩
 |i::l1,l2,a,w,hl,hx,h=>by
  have hi:=hl i (z0 ..)
  have hl':∀x∈l1,∀ox,ops[x]? = some ox→ox.apart ops oj=true∧D6 (kd x) (kd j)=true:=fun x hx=>hl x (z3 _ hx)
  simp only[List.cons_append,LI]at h ⊢
  cases hoi:ops[i]? with
  |none=>rw[hoi]at h;exact h.elim
  |some oi =>
   rw[hoi]at h
   simp only at h ⊢
   obtain⟨hap,hok⟩:=hi oi hoi
   obtain⟨p1,p2,p3⟩:=Oper.apart_spec hap
   have p2':∀d,oj.dst=some d→oi.dst≠some d:=fun d hd he=>p2 d he hd
   have si:=fun cs b=>hsel i oi cs b hoi
   have sj:=fun cs b=>hsel j oj cs b hj
   by_cases hw:Region.wanted oi (yielded ops a.tmps)=true
   ·rw[if_pos hw]at h
    unfold BY at h
    by_cases hki:kd i≤2
    ·rw[if_pos hki]at h
     obtain⟨vi,hy,h⟩:=h
     obtain⟨v,h1,h2⟩:=Ia hsel hj hk l1 l2 (a.put oi.dst vi) w hl' hx h
     refine⟨v,(Yv.apart sj p1).1 h1,?_⟩
     rw[wanted_put oi a oj.dst v p3,if_pos hw]
     unfold BY
     rw[if_pos hki]
     refine⟨vi,fun w' hc=>(YA.apart (ops:=ops) si p3).2 (hy w' hc),?_⟩
     rw[Act.put_comm a v vi p2']
     exact h2
    ·rw[if_neg hki]at h
     have gen:∀(G:World→Prop),(∀w',G w'→kd j=1→AB w0 w')→(kd j=2→False) →
       oi.wp P a w (fun a' w'=>G w'∧LI P ops kd w0 Q (l1++j::l2) a' w') (NQ fun _ _=>False) →
       ∃v,Yv P ops w0 (kd j) oj a w v∧oi.wp P (a.put oj.dst v) w (fun a' w'=>G w'∧LI P ops kd w0 Q (l1++l2) a' w') (NQ fun _ _=>False):=by
      intro G hG hn2 hh
      have hcl:∀w1 w2,Cl w0 w1 (kd j) w2→Cl w0 w (kd j) w2:=by
       intro w1 w2 hc
       match hkj:kd j,hk,hn2 with
       |0,_,_=>trivial
       |1,_,_=>rw[hkj]at hc;exact hc
       |2,_,hn=>exact(hn rfl).elim
       |_+3,hle,_=>omega
      have hcl':∀w1 w2,Cl w0 w (kd j) w2→Cl w0 w1 (kd j) w2:=by
       intro w1 w2 hc
       match hkj:kd j,hk,hn2 with
       |0,_,_=>trivial
       |1,_,_=>rw[hkj]at hc;exact hc
       |2,_,hn=>exact(hn rfl).elim
       |_+3,hle,_=>omega
      have hs:=He hh
      have step:∀a' w',((G w'∧LI P ops kd w0 Q (l1++j::l2) a' w')∧Or a oi.dst a') →
        ∃v,Yv P ops w0 (kd j) oj a w v∧LI P ops kd w0 Q (l1++l2) (a'.put oj.dst v) w':=by
       rintro a' w' ⟨⟨hg,hL⟩,hsh⟩
       obtain⟨v,h1,h2⟩:=Ia hsel hj hk l1 l2 a' w' hl' (hG w' hg) hL
       have h1':=(Yv.shape sj p1 hsh).1 h1
       refine⟨v,?_,h2⟩
       rcases h1' with⟨q1,q2⟩|⟨q1,q2⟩
       ·exact .inl ⟨q1,fun w2 hc=>q2 w2<|hcl' w' w2 hc⟩
       ·exact .inr ⟨q1,q2⟩
      obtain⟨v,hv⟩:∃v,Yv P ops w0 (kd j) oj a w v:=by
       obtain⟨u,w',hK|⟨d,hK⟩⟩:=SE hs
       ·obtain⟨v,h1,_⟩:=step _ _ hK;exact⟨v,h1⟩
       ·obtain⟨v,h1,_⟩:=step _ _ hK;exact⟨v,h1⟩
      refine⟨v,hv,MF (ops:=ops) si p3 p2' ?_⟩
      refine Oper.wp_mono (fun a' w' hK=>?_) hs
      obtain⟨v',h1,h2⟩:=step a' w' hK
      have:v'=v:=h1.unique hx hv
      subst this
      exact⟨hK.1.1,h2⟩
     by_cases h3:kd i=3
     ·rw[if_pos h3]at h
      have hj1:=qP hok h3
      obtain⟨v,hv,hwp⟩:=gen (fun w'=>AB w w') (fun w' hg h1=>(hx h1).trans hg) (fun h2=>by omega) h
      refine⟨v,hv,?_⟩
      rw[wanted_put oi a oj.dst v p3,if_pos hw]
      unfold BY
      rw[if_neg hki,if_pos h3]
      exact hwp
     ·rw[if_neg h3]at h
      have hj0:=qQ hok zO
      obtain⟨v,hv,hwp⟩:=gen (fun _=>True) (fun w' _ h1=>by omega) (fun h2=>by omega) (Oper.wp_mono (fun a w hh=>⟨trivial,hh⟩) h)
      refine⟨v,hv,?_⟩
      rw[wanted_put oi a oj.dst v p3,if_pos hw]
      unfold BY
      rw[if_neg hki,if_neg h3]
      exact Oper.wp_mono (fun a w hh=>hh.2) hwp
   ·rw[if_neg hw]at h
    obtain⟨v,h1,h2⟩:=Ia hsel hj hk l1 l2 (a.put oi.dst undef) w hl' hx h
    refine⟨v,(Yv.apart sj p1).1 h1,?_⟩
    rw[wanted_put oi a oj.dst v p3,if_neg hw,Act.put_comm a v undef p2']
    exact h2
theorem Jt (hsel:∀(j:Nat)(o:Oper) cs b,ops[j]? = some o→o.op≠.select cs b){j:Nat}{oj:Oper}(hj:ops[j]? = some oj)(hk:3≤kd j) :
  ∀(l1 l2:List Nat) (a:Act) (w:World),(∀i∈l1,∀oi,ops[i]? = some oi→oi.apart ops oj=true∧D6 (kd i) (kd j)=true)→LI P ops kd w0 Q (l1++j::l2) a w →
   (Region.wanted oj (yielded ops a.tmps)=true→oj.wp P a w (fun a' w'=>(kd j=3→AB w w')∧LI P ops kd w0 Q (l1++l2) a' w') (NQ fun _ _=>False)) ∧
   (Region.wanted oj (yielded ops a.tmps)=false→LI P ops kd w0 Q (l1++l2) (a.put oj.dst undef) w)
 |[],l2,a,w,_,h=>by
  simp only[zl,LI,hj]at h ⊢
  refine⟨fun hw=>?_,fun hw=>?_⟩
  ·rw[if_pos hw]at h
   unfold BY at h
   rw[if_neg (by omega)]at h
   split at h
   ·exact Oper.wp_mono (fun _ _ hh=>⟨fun _=>hh.1,hh.2⟩) h
   ·rename_i h3;exact Oper.wp_mono (fun _ _ hh=>⟨fun h'=>(h3 h').elim,hh⟩) h
  ·rw[if_neg (by simp[hw])]at h;exact h
 |i::l1,l2,a,w,hl,h=>by
  have hi:=hl i (z0 ..)
  have hl':∀x∈l1,∀ox,ops[x]? = some ox→ox.apart ops oj=true∧D6 (kd x) (kd j)=true:=fun x hx=>hl x (z3 _ hx)
  simp only[List.cons_append,LI]at h ⊢
  cases hoi:ops[i]? with
  |none=>rw[hoi]at h;exact h.elim
  |some oi =>
   rw[hoi]at h
   simp only at h ⊢
   obtain⟨hap,hok⟩:=hi oi hoi
   obtain⟨p1,p2,p3⟩:=Oper.apart_spec hap
   have p2':∀d,oj.dst=some d→oi.dst≠some d:=fun d hd he=>p2 d he hd
   have si:=fun cs b=>hsel i oi cs b hoi
   have sj:=fun cs b=>hsel j oj cs b hj
   obtain⟨hki,hk4⟩:=nL hok hk
   by_cases hw:Region.wanted oi (yielded ops a.tmps)=true
   ·rw[if_pos hw]at h
    unfold BY at h
    rw[if_pos hki]at h
    obtain⟨vi,hy,h⟩:=h
    obtain⟨g1,g2⟩:=Jt hsel hj hk l1 l2 (a.put oi.dst vi) w hl' h
    rw[wanted_put oj a oi.dst vi p1]at g1 g2
    refine⟨fun hwj=>?_,fun hwj=>?_⟩
    ·have g:=Kl (ops:=ops) (Q:=fun _ _=>False) sj p1 p2<|g1 hwj
     refine Oper.wp_mono (fun a' w' hK=>?_)<|He g
     obtain⟨⟨hE,hL⟩,hsh⟩:=hK
     refine⟨hE,?_⟩
     rw[FY p3 hsh,if_pos hw]
     unfold BY
     rw[if_pos hki]
     refine⟨vi,fun w'' hc=>?_,hL⟩
     have hya:YA P oi a w'' vi:=by
      refine hy w'' ?_
      match hki':kd i,hki,hk4 with
      |0,_,_=>trivial
      |1,_,_=>rw[hki']at hc;exact hc
      |2,_,h4=>rw[hki']at hc;exact(hE (by have:¬4≤kd j:=(fun hh=>by have:=h4 hh;omega);omega)).trans hc
      |_+3,hle,_=>omega
     have he:∀b,YA P oi b w'' vi↔YR P ((execOp b.eval oi).run P w'') w'' vi:=fun _=>Iff.rfl
     obtain⟨u,rfl|⟨x,rfl⟩⟩:=hsh
     ·exact (YA.apart (ops:=ops) si p3).2 hya
     ·refine (YA.apart (ops:=ops) si p3).2 ?_
      have hee:Act.eval { a with defers:=x::a.defers }=Act.eval a:=funext fun y=>by cases y <;> rfl
      rw[he,hee,← he];exact hya
    ·rw[wanted_put oi a oj.dst undef p3,if_pos hw]
     unfold BY
     rw[if_pos hki]
     refine⟨vi,fun w' hc=>(YA.apart (ops:=ops) si p3).2 (hy w' hc),?_⟩
     rw[Act.put_comm a undef vi p2']
     exact g2 hwj
   ·rw[if_neg hw]at h
    obtain⟨g1,g2⟩:=Jt hsel hj hk l1 l2 (a.put oi.dst undef) w hl' h
    rw[wanted_put oj a oi.dst undef p1]at g1 g2
    refine⟨fun hwj=>?_,fun hwj=>?_⟩
    ·have g:=Kl (ops:=ops) (Q:=fun _ _=>False) sj p1 p2<|g1 hwj
     refine Oper.wp_mono (fun a' w' hK=>?_)<|He g
     obtain⟨⟨hE,hL⟩,hsh⟩:=hK
     refine⟨hE,?_⟩
     rw[FY p3 hsh,if_neg hw]
     exact hL
    ·rw[wanted_put oi a oj.dst undef p3,if_neg hw,Act.put_comm a undef undef p2']
     exact g2 hwj
end main
end
section
variable {P:Program} {ops:Array Oper} {md:Region.Mode} {kd bs:Nat→Nat} {w0:World} {Q:Act→World→Prop}
theorem Em (hsel:∀(j:Nat)(o:Oper) cs b,ops[j]? = some o→o.op≠.select cs b)(hS:LP md ops bs)
  (hlex:∀j oj,ops[j]? = some oj→∀e∈oj.after,Region.binds md e=true→e.on<j) :
  ∀(n:Nat) (l:List Nat) (listed:Array Bool) (a:Act) (w:World),l.length=n→l.Pairwise (CZ md ops kd bs)→l.Nodup→listed.size=ops.size →
   (∀i,i∈l↔listed.getD i true=false)→JM bs listed→JL kd l→L8 kd w0 w l→LI P ops kd w0 Q l a w→wpAny P md ops (NQ Q) n listed a w
 |0,l,listed,a,w,hn,_,_,_,hm,_,_,_,h=>by
  have hl:l=[]:=List.eq_nil_of_length_eq_zero hn
  subst hl
  refine⟨?_,h⟩
  cases hr:Region.ready md ops listed with
  |nil=>rfl
  |cons x xs =>
   have:=(mem_ready.1 (by rw[hr];exact z0 ..:x∈Region.ready md ops listed)).1
   exact absurd ((hm x).2 this) (by simp)
 |n+1,l,listed,a,w,hn,hs,hd,hz,hm,hc,h14,hi1,h=>by
  refine⟨fun h0=>?_,fun i hi=>?_⟩
  ·exfalso
   match l,hn with
   |i::l,hn =>
    have hready:=HJ (md:=md) hz hm hlex fun y hy ox hox=>((List.pairwise_cons.1 hs).1 y hy).2 ox hox
    rw[h0]at hready
    cases hready
  ·obtain⟨hun,oi,hoi,hall⟩:=mem_ready.1 hi
   obtain⟨l1,l2,rfl⟩:=List.append_of_mem ((hm i).2 hun)
   have hbits:=E4 hS hc hoi hall
   have hpi:∀x∈l1,CZ md ops kd bs x i:=fun x hx=>(List.pairwise_append.1 hs).2.2 x hx i (z0 ..)
   have hfree:=De (kd:=kd) (l1:=l1) hoi (fun x hx=>(hpi x hx).1) (fun x hx=>(hm x).1 (z8 _ hx)) hbits
   have hsz:=CJ hun
   have hsub0:(l1++l2).Sublist (l1++i::l2):=List.Sublist.append_left (List.sublist_cons_self _ _) _
   have hnd:i∉l1++l2:=by
    have h1:=List.nodup_append.1 hd
    intro hmem
    rcases zi.1 hmem with hh|hh
    ·exact h1.2.2 i hh i (z0 ..) rfl
    ·exact (List.nodup_cons.1 h1.2.1).1 hh
   have hn':(l1++l2).length=n:=by simp at hn ⊢;omega
   have rec_:∀a' w',L8 kd w0 w' (l1++l2)→LI P ops kd w0 Q (l1++l2) a' w'→wpAny P md ops (NQ Q) n (listed.setIfInBounds i true) a' w':=fun a' w' hi' hL =>
    Em hsel hS hlex n (l1++l2) _ a' w' hn' (hs.sublist hsub0) (hd.sublist hsub0) (by simpa using hz) (EU hm hnd hsz) (Ef hc hbits) (JL.erase h14) hi' hL
   have hsub:L8 kd w0 w (l1++l2):=fun⟨j,hj,hk⟩=>hi1 ⟨j,hsub0.subset hj,hk⟩
   by_cases hk:kd i≤2
   ·obtain⟨v,hv,hL⟩:=Ia hsel hoi hk l1 l2 a w hfree (fun h1=>hi1 ⟨i,by simp,h1⟩) h
    unfold wpOp
    rw[hoi]
    rcases hv with⟨hw,hy⟩|⟨hw,rfl⟩
    ·simp only[hw,if_true]
     exact .inl<|Iv (hy w (Cl.self fun h1=>hi1 ⟨i,by simp,h1⟩))<|rec_ _ _ hsub hL
    ·simp only[hw,Bool.false_eq_true,if_false]
     exact rec_ _ _ hsub hL
   ·obtain⟨g1,g2⟩:=Jt hsel hoi zO l1 l2 a w hfree h
    unfold wpOp
    rw[hoi]
    by_cases hw:Region.wanted oi (yielded ops a.tmps)=true
    ·simp only[hw,if_true]
     refine .inl<|Oper.wp_mono (fun a' w' hK=>rec_ a' w' ?_ hK.2)<|HI<|g1 hw
     rintro⟨j,hj,hkj⟩
     by_cases h3:kd i=3
     ·exact (hsub ⟨j,hj,hkj⟩).trans<|hK.1 h3
     ·exfalso
      rcases zi.1 hj with hh|hh
      ·obtain⟨oj,hoj⟩:∃oj,ops[j]? = some oj:=by
        have:=CJ ((hm j).1 (z8 _ hh))
        exact⟨ops[j]'(by omega),by simp[show j<ops.size by omega]⟩
       have:=(nL (hfree j hh oj hoj).2 zO).2 zO
       omega
      ·exact h14 l1 i l2 rfl zO j hh hkj
    ·simp only[hw,Bool.false_eq_true,if_false]
     exact rec_ _ _ hsub<|g2 (by simpa using hw)
theorem Hf (ks:List Nat):∀(os:List Oper)(k:Nat)(a:Act)(w:World),(∀j,os[j]? = ops[k+j]?) →
  LW P ops w0 Q os (ks.drop k) a w→LI P ops (fun i=>ks.getD i 0) w0 Q (List.range' k os.length) a w
 |[],_,_,_,_,h=>by simpa [LI,LW]using h
 |o::os,k,a,w,ho,h=>by
  have h0:ops[k]? = some o:=by simpa using (ho 0).symm
  have hr:∀a w,LW P ops w0 Q os (ks.drop (k+1)) a w→LI P ops (fun i=>ks.getD i 0) w0 Q (List.range' (k+1) os.length) a w:=fun a w hh =>
   Hf ks os (k+1) a w (fun j=>by have:=ho (j+1);simpa [Nat.add_assoc,Nat.add_comm 1 j]using this) hh
  have hlt:k<ks.length:=by
   rcases Nat.lt_or_ge k ks.length with hh|hh
   ·exact hh
   ·rw[List.drop_of_length_le hh]at h;exact h.elim
  have hd:ks.drop k=ks[k]::ks.drop (k+1):=List.drop_eq_getElem_cons hlt
  rw[hd]at h
  simp only[z9,List.range'_succ,LI,h0,LW]at h ⊢
  have hg:ks.getD k 0=ks[k]:=by simp[hlt]
  split
  ·rename_i hw
   rw[if_pos hw]at h
   rw[hg]
   exact h.mono hr
  ·rename_i hw
   rw[if_neg hw]at h
   exact hr _ _ h
theorem AW {id:Nat}{Q:Exit→Act→World→Prop}{a:Act}{w:World}(os:List Oper)(ks:List Nat)(hm:P.follows .mixedOrders=true)(hB:nM os.toArray ks=true)
  (h:LW P os.toArray w.drew (fun a w=>Q .normal a w) os ks a w.drew):(Code.region id os.toArray true).wp P Q a w:=by
 refine wp_region_any hm ?_
 simp only[nM,z7]at hB
 obtain⟨⟨hsel,hpl⟩,h14⟩:=hB
 have hz:∀ {j:Nat} {o:Oper},os.toArray[j]? = some o→(o,j)∈os.toArray.toList.zipIdx:=by
  intro j o ho
  rw[List.mem_zipIdx_iff_getElem?]
  simpa using ho
 have hall:∀j oj,os.toArray[j]? = some oj→_:=fun j oj hj=>zm.1 hpl _ (hz hj)
 have hF:f6 os.toArray (fun i=>ks.getD i 0) (fun j=>(Region.before os.toArray).toList.getD j 0):=by
  intro i j oi oj hij hi hj
  have h3:=(z7 _ _ ▸ hall j oj hj:_∧_).2
  have h4:=zm.1 h3 _<|hz hi
  simp only[Bool.or_eq_true,Bool.not_eq_true',decide_eq_false_iff_not,z7]at h4
  rcases h4 with(h4|h4)|h4
  ·exact absurd hij h4
  ·exact .inl h4
  ·exact .inr h4
 have hlex:∀j oj,os.toArray[j]? = some oj→∀e∈oj.after,Region.binds .any e=true→e.on<j:=by
  intro j oj hj e he hb
  have h1:=(z7 _ _ ▸ (z7 _ _ ▸ hall j oj hj:_∧_).1:_∧_).1
  have h2:=(Array.all_eq_true_iff_forall_mem.1 h1) e he
  simpa [hb]using h2
 have key:=Em (P:=P) (ops:=os.toArray) (md:=.any) (kd:=fun i=>ks.getD i 0) (bs:=fun j=>(Region.before os.toArray).toList.getD j 0) (w0:=w.drew) (Q:=fun a w=>Q .normal a w)
  (Region.noSelect_spec hsel) ?_ ?_ os.length (List.range' 0 os.length) (Array.replicate os.length false) a w.drew (by simp) ?_ List.nodup_range' (by simp) ?_ ?_ ?_ (fun _=>AB.refl _) ?_
 ·have:=HK _ _ _ _ key
  simpa using this
 ·intro j oj hj i hb
  have h3:=(z7 _ _ ▸ (z7 _ _ ▸ hall j oj hj:_∧_).1:_∧_).2
  have h5:(Region.before os.toArray).toList.getD j 0=oj.after.foldl (fun s e=>if Region.binds .any e then s ||| 2 ^ e.on ||| (Region.before os.toArray).toList.getD e.on 0 else s) 0:=by simpa using h3
  dsimp only at hb
  rw[h5,← Array.foldl_toList]at hb
  rcases Gh _ _ _ _ hb with hb|⟨e,he,hbb,hh⟩
  ·simp at hb
  ·exact⟨e,Array.mem_toList_iff.1 he,hbb,hh⟩
 ·exact hlex
 ·exact Km hF hlex List.pairwise_lt_range'
 ·intro i
  simp only[List.mem_range',Nat.zero_add,Nat.one_mul]
  constructor
  ·rintro⟨x,hx,rfl⟩;simp[hx]
  ·intro hh
   rcases Nat.lt_or_ge i os.length with h'|h'
   ·exact⟨i,h',rfl⟩
   ·simp[Array.getElem?_eq_none (show(Array.replicate os.length false).size≤i by simpa using h')]at hh
 ·intro i hi
  rcases Nat.lt_or_ge i os.length with h'|h'
  ·simp[h']at hi
  ·simp[Array.getElem?_eq_none (show(Array.replicate os.length false).size≤i by simpa using h')]at hi
 ·intro l1 i l2 hl hk j hj
  have hs:(l1++i::l2).Pairwise (· < ·):=hl ▸ List.pairwise_lt_range'
  have hij:i<j:=List.rel_of_pairwise_cons (List.pairwise_append.1 hs).2.1 hj
  have mem:∀x∈l1++i::l2,x<os.length:=by
   intro x hx
   rw[← hl]at hx
   simp only[List.mem_range',Nat.zero_add,Nat.one_mul]at hx
   obtain⟨y,hy,rfl⟩:=hx
   exact hy
  have hi:=mem i (by simp)
  have hj':=mem j (by simp[hj])
  have h1:=zm.1 h14 _<|hz (j:=i) (o:=os[i]) (by simp[hi])
  simp only[Bool.or_eq_true,Bool.not_eq_true',decide_eq_false_iff_not]at h1
  rcases h1 with h1|h1
  ·exact absurd hk h1
  ·have h2:=zm.1 h1 _<|hz (j:=j) (o:=os[j]) (by simp[hj'])
   simp only[Bool.or_eq_true,Bool.not_eq_true',decide_eq_false_iff_not]at h2
   rcases h2 with h2|h2
   ·exact absurd hij h2
   ·simpa using h2
 ·exact Hf ks os 0 a w.drew (by simp) (by simpa using h)
end
section
variable {P:Program} {ops:Array Oper} {w0:World} {Q:Act→World→Prop} {os:List Oper} {ks:List Nat} {N:Nat} {ρ:Nat→Value} {w:World}
theorem Ai {a:Act}(h:Q a w):LW P ops w0 Q [] ks a w:=h
theorem CP {o:Oper}{k d:Nat}(hk:k≤2)(hd:o.dst=some d)(hu:Up ops N ρ o)(v:Value)(hr:∀w',Cl w0 w k w'→(execOp (Bw N ρ) o).run P w'=.ok (.value v) w')
  (h:LW P ops w0 Q os ks (mk N (D3 ρ d v)) w):LW P ops w0 Q (o::os) (k::ks) (mk N ρ) w:=by
 simp only[LW]
 rw[if_pos hu]
 unfold BY
 rw[if_pos hk]
 refine⟨v,fun w' hc=>.inl ?_,?_⟩
 ·rw[Dg];exact hr w' hc
 ·rw[hd,FL];exact h
theorem MH {o:Oper}{d:Nat}(hd:o.dst=some d)(hu:Up ops N ρ o)
  (v:Value) (w1:World) (hr:(execOp (Bw N ρ) o).run P w=.ok (.value v) w1) (hE:AB w w1) (h:LW P ops w0 Q os ks (mk N (D3 ρ d v)) w1):LW P ops w0 Q (o::os) (3::ks) (mk N ρ) w:=by
 simp only[LW]
 rw[if_pos hu]
 unfold BY
 rw[if_neg (by decide),if_pos rfl]
 unfold Oper.wp
 rw[Dg,hr]
 show AB w w1∧LW P ops w0 Q os ks ((mk N ρ).put o.dst v) w1
 rw[hd,FL]
 exact⟨hE,h⟩
theorem As {d:Nat} {x:Operand} {xs:Array Operand} {ats:Array TypeId} {ty:TypeId} {pos:String} {aft:Array Edge} {g:Option (Nat × Bool)} (f:FuncId) (first cap:List Value) (args:List Value)
  (hx:Bw N ρ x = .func (.func f) first.toArray cap.toArray) (hxs:first++(xs.toList.map (Bw N ρ))++cap = args) (hf:((P.funcs[f]?).map fun fn=>(fn.name != "runtime.NumGoroutine") && fn.body.isSome) = some true)
  (hu:Up ops N ρ ⟨some d,.call ⟨.value x,xs,ats⟩,ty,pos,aft,g⟩) {R:Ending→World→Prop} (hc:Calls P f args.toArray w R)
  (h:∀ e w1,R e w1→∃ v,e = .returned v∧AB w w1∧LW P ops w0 Q os ks (mk N (D3 ρ d v)) w1) :
  LW P ops w0 Q (⟨some d,.call ⟨.value x,xs,ats⟩,ty,pos,aft,g⟩ :: os) (3 :: ks) (mk N ρ) w:=by
 simp only [LW]
 rw [if_pos hu]
 unfold BY
 rw [if_neg (by decide),if_pos rfl]
 unfold Oper.wp
 rw [Dg]
 have hrun:(execOp (Bw N ρ) ⟨some d,.call ⟨.value x,xs,ats⟩,ty,pos,aft,g⟩).run P w = .ok (.enter f args.toArray) w:=by
  obtain ⟨fn,hfn,hb⟩:=Option.map_eq_some_iff.1 hf
  simp only [z7,bne_iff_ne,ne_eq] at hb
  have hargs:first.toArray++xs.map (Bw N ρ)++cap.toArray = args.toArray:=by
   rw [← hxs]; apply Array.ext'; simp
  obtain ⟨c,hbc⟩:=Option.isSome_iff_exists.1 hb.2
  have hcf:(callFunc f args.toArray).run P w = .ok (.enter f args.toArray) w:=by
   simp [callFunc,hfn,hb.1,hbc]
  simp [execOp,resolve,hargs,hx,Deferred.ofValue,invoke,hcf]
 rw [hrun]
 refine Calls.mono hc (fun e w1 he=>?_)
 obtain ⟨v,rfl,hE,hL⟩:=h e w1 he
 show AB w w1∧LW P ops w0 Q os ks ((mk N ρ).put (some d) v) w1
 rw [FL]
 exact ⟨hE,hL⟩
theorem AD {d:Nat} {x:Operand} {xs:Array Operand} {ats:Array TypeId} {ty:TypeId} {pos:String} {aft:Array Edge} {g:Option (Nat × Bool)} (f:FuncId) (first cap:List Value) (args:List Value)
  (hx:Bw N ρ x = .func (.func f) first.toArray cap.toArray) (hxs:first++(xs.toList.map (Bw N ρ))++cap = args) (hf:((P.funcs[f]?).map fun fn=>(fn.name != "runtime.NumGoroutine") && fn.body.isSome) = some true)
  (hu:Up ops N ρ ⟨some d,.call ⟨.value x,xs,ats⟩,ty,pos,aft,g⟩) (v:Value) (hc:∀ w',Calls P f args.toArray w' (fun e w''=>e = .returned v∧w'' = w'))
  (h:LW P ops w0 Q os ks (mk N (D3 ρ d v)) w) :
  LW P ops w0 Q (⟨some d,.call ⟨.value x,xs,ats⟩,ty,pos,aft,g⟩ :: os) (0 :: ks) (mk N ρ) w:=by
 simp only [LW]
 rw [if_pos hu]
 unfold BY
 rw [if_pos (by decide)]
 have hrun:∀ w,(execOp (Bw N ρ) ⟨some d,.call ⟨.value x,xs,ats⟩,ty,pos,aft,g⟩).run P w = .ok (.enter f args.toArray) w:=by
  intro w
  obtain ⟨fn,hfn,hb⟩:=Option.map_eq_some_iff.1 hf
  simp only [z7,bne_iff_ne,ne_eq] at hb
  have hargs:first.toArray++xs.map (Bw N ρ)++cap.toArray = args.toArray:=by
   rw [← hxs]; apply Array.ext'; simp
  obtain ⟨c,hbc⟩:=Option.isSome_iff_exists.1 hb.2
  have hcf:(callFunc f args.toArray).run P w = .ok (.enter f args.toArray) w:=by
   simp [callFunc,hfn,hb.1,hbc]
  simp [execOp,resolve,hargs,hx,Deferred.ofValue,invoke,hcf]
 refine ⟨v,fun w' _=>.inr (.inr ⟨f,args.toArray,?_,hc w'⟩),?_⟩
 ·rw [Dg]; exact hrun w'
 ·show LW P ops w0 Q os ks ((mk N ρ).put (some d) v) w
  rw [FL]; exact h
end
section
variable {P:Program} {ops:Array Oper} {w0:World} {Q:Act→World→Prop} {os:List Oper} {ks:List Nat} {N:Nat} {ρ:Nat→Value} {w:World}
 {d:Nat} {ty:TypeId} {pos:String} {aft:Array Edge} {g:Option (Nat×Bool)} {t e:TypeId}
theorem f8 {x:Operand}(v:Value)(hx:Bw N ρ x=v)(hu:Up ops N ρ ⟨some d,.move x,ty,pos,aft,g⟩)(h:LW P ops w0 Q os ks (mk N (D3 ρ d v)) w) :
  LW P ops w0 Q (⟨some d,.move x,ty,pos,aft,g⟩::os) (0::ks) (mk N ρ) w :=
 CP (by decide) rfl hu v (fun w' _=>by simp[execOp,hx]) h
theorem V3 {x:Operand}(v:Value)(hx:Bw N ρ x=v)(hu:Up ops N ρ ⟨some d,.assign x,ty,pos,aft,g⟩)(h:LW P ops w0 Q os ks (mk N (D3 ρ d v)) w) :
  LW P ops w0 Q (⟨some d,.assign x,ty,pos,aft,g⟩::os) (0::ks) (mk N ρ) w :=
 CP (by decide) rfl hu v (fun w' _=>by simp[execOp,hx]) h
theorem Aw {t e:TypeId}{x y:Operand}{v:Value}{n s:Nat}{k:IntKind}{i:Int}(j:Nat)(ht:P.underlying t=some (.slice e)){z:Value}{b:Nat}(hi:TI P e s z b)(hx:Bw N ρ x=v)(hy:Bw N ρ y=.int k i)
  (hs:Er v n) (hj:i=(j:Int)) (hlt:j<n) (hu:Up ops N ρ ⟨some d,.indexAddr t x y,ty,pos,aft,g⟩)
  (h:LW P ops w0 Q os ks (mk N (D3 ρ d (Ax v j s))) w):LW P ops w0 Q (⟨some d,.indexAddr t x y,ty,pos,aft,g⟩::os) (0::ks) (mk N ρ) w :=
 CP (by decide) rfl hu _ (fun w' _=>by
  obtain⟨a,c,rfl,ha⟩:=hs
  obtain⟨inf,h1,_,h3,_⟩:=hi.get
  subst hj
  cases a with
  |none=>have:=ha rfl;omega
  |some a =>
   have hlt':(j:Int)<(n:Int):=by omega
   simp[execOp,hx,hy,Instr.indexAt,asIntOf,run_underlying ht,sizeOf,typeInfo,h1,h3,Ax,hlt]) h
theorem Aq {s:TypeId}{x:Operand}{i:Nat}{p:Value}{b o:Nat}(off:Nat)(hf:Im P s i off=true)(hx:Bw N ρ x=p)(hp:p=.pointer (some ⟨b,o,none⟩))(hu:Up ops N ρ ⟨some d,.fieldAddr s x i,ty,pos,aft,g⟩)
  (h:LW P ops w0 Q os ks (mk N (D3 ρ d (AA p off))) w):LW P ops w0 Q (⟨some d,.fieldAddr s x i,ty,pos,aft,g⟩::os) (0::ks) (mk N ρ) w :=
 CP (by decide) rfl hu _ (fun w' _=>by
  subst hp
  unfold Im at hf
  split at hf
  ·rename_i fs hfs
   split at hf
   ·rename_i f hff
    simp only[z7,beq_iff_eq]at hf
    obtain⟨rfl,hf2⟩:=hf
    split at hf2
    ·rename_i inf hin
     have hne:inf.size≠0:=by simpa using hf2
     simp[execOp,Instr.fieldAt,Instr.sureAddr,run_underlying hfs,hff,hx,fieldPlace,sizeOf,typeInfo,hin,hne,JS,AA]
    ·cases hf2
   ·cases hf
  ·cases hf) h
theorem nQ {x:Operand}{p:Value}(u:Value)(ht:CD P t)(hx:Bw N ρ x=p)(hc:∀w',AB w0 w'→Fj w'.heap p=some u)(hu:Up ops N ρ ⟨some d,.load t x,ty,pos,aft,g⟩)
  (h:LW P ops w0 Q os ks (mk N (D3 ρ d u)) w):LW P ops w0 Q (⟨some d,.load t x,ty,pos,aft,g⟩::os) (1::ks) (mk N ρ) w :=
 CP (by decide) rfl hu _ (fun w' hcl=>by simp[execOp,hx,Ou ht (hc w' hcl)]) h
theorem jH {s:Nat}{x:Operand}{p:Value}(cs:List Value)(ht:EA P t s=true)(hx:Bw N ρ x=p)(hc:∀w',AB w0 w'→LD w'.heap p cs)(hl:cs.length=s)
  (hu:Up ops N ρ ⟨some d,.load t x,ty,pos,aft,g⟩)
  (h:LW P ops w0 Q os ks (mk N (D3 ρ d (.agg cs.toArray))) w):LW P ops w0 Q (⟨some d,.load t x,ty,pos,aft,g⟩::os) (1::ks) (mk N ρ) w :=
 CP (by decide) rfl hu _ (fun w' hcl=>by simp[execOp,hx,Ox ht (hc w' hcl) hl]) h
end
section
variable {P:Program} {ops:Array Oper} {w0:World} {Q:Act→World→Prop} {os:List Oper} {ks:List Nat} {N:Nat} {ρ:Nat→Value} {w:World}
 {d:Nat} {ty:TypeId} {pos:String} {aft:Array Edge} {g:Option (Nat×Bool)} {t e:TypeId} {z:Value} {b:Nat}
theorem Bs {α:Type}{E:Bk α}(hE:BT E){x:Operand}{u:Value}{y:α}{B U:Nat}(ht:P.underlying t=some (.slice e))(hi:TI P e 1 z b)(hz:z.cells=#[z])(hx:Bw N ρ x=u)(hy:Fr E B U w.heap u y)(hB:B≤w.heap.size)
  (hu:Up ops N ρ ⟨some d,.buildSlice t 1 #[(0,x)],ty,pos,aft,g⟩)
  (h:∀v w1,_root_.Go.Proofs.YtbajepcpgncekaaGreat.AB w w1→w1.heap.size=w.heap.size+1→Fr (AY E e) B w1.heap.size w1.heap v [y]→LW P ops w0 Q os ks (mk N (D3 ρ d v)) w1) :
  LW P ops w0 Q (⟨some d,.buildSlice t 1 #[(0,x)],ty,pos,aft,g⟩::os) (3::ks) (mk N ρ) w:=by
 obtain⟨F,h1,h2,h3⟩:=hy
 have hr:=SH (P:=P) (w:=w) ht hi (hE.cells h1) hz
 have hrun:(execOp (Bw N ρ) ⟨some d,.buildSlice t 1 #[(0,x)],ty,pos,aft,g⟩).run P w=.ok (.value (.slice (some ⟨w.heap.size,0,none⟩) 1 1)) (w.alloc (.cells #[u] e)):=by
  simp only[execOp,zc,zf,zh,Sem.run_bind,hx,hr,Result.andThen_ok,Sem.run_pure]
 refine MH rfl hu _ _ hrun (J.ext<|BZ _ _)<|h _ _ (BZ _ _) (by simp) ?_
 have hn:=IY (e:=e) (w:=w) hE (us:=[u]) (xs:=[y]) (F:=F++[]) (cur:=#[u]) ⟨F,[],rfl,h1,rfl⟩ (by simp[maxLen]) rfl (by simp)
 refine⟨_,hn,?_,fun c hc=>?_⟩
 ·rw[List.append_nil,List.nodup_cons]
  exact⟨fun hm=>by have:=hE.lt h1 _ hm;omega,h2⟩
 ·have hlt:=(Bj hE).lt hn c hc
  refine⟨?_,hlt⟩
  rcases ze.1 hc with rfl|hc
  ·exact hB
  ·exact (h3 c (by simpa using hc)).1
end
end Jx
end
section
def RT {α:Type}(T:Nat)(E:Bk α)(H:Array Obj)(v:Value)(x:α):Prop:=∃F,E H v x F∧∀b∈F,b<T
section rt
variable {α:Type} {E:Bk α} {T:Nat} {w w':World} {v:Value} {x:α} {xs:List α} {F S:List Nat}
theorem RN.rt (hE:BT E)(h:RN S E w.heap v x):RT w.heap.size E w.heap v x:=by
 obtain⟨F,h,_⟩:=h
 exact⟨F,h,hE.lt h⟩
theorem RT.ext (hE:BT E)(h:RT T E w.heap v x)(k:AB w w'):RT T E w'.heap v x:=by
 obtain⟨F,h,hb⟩:=h
 exact⟨F,hE.stable h fun b hm=>k.heap (hE.lt h b hm),hb⟩
theorem RT.chg (hE:BT E)(h:RT T E w.heap v x)(c:Az F w w')(hF:∀b∈F,T≤b):RT T E w'.heap v x:=by
 obtain⟨G,h,hb⟩:=h
 exact⟨G,hE.stable h fun b hm=>c.block b (hE.lt h b hm) fun hf=>by have:=hF b hf;have:=hb b hm;omega,hb⟩
theorem RT.rd {H:Array Obj}(h:RT T E H v x):Rd E H v x:=by obtain⟨F,h,_⟩:=h;exact⟨F,h⟩
theorem RT.rn {H:Array Obj}(h:RT T E H v x):RN [] E H v x:=by obtain⟨F,h,_⟩:=h;exact⟨F,h,fun b _ hm=>by cases hm⟩
theorem RT.slL {H:Array Obj}(h:RT T (B3 E) H v xs):Go.Proofs.YtbajepcpgncekaaGreat.Er v xs.length:=h.rn.slL
theorem RT.lenL {H:Array Obj}(h:RT T (B3 E) H v xs):xs.length≤maxLen:=h.rn.lenL
theorem RT.getL {H:Array Obj}(hE:BT E)(d:α){k:Nat}(h:RT T (B3 E) H v xs)(hk:k<xs.length):∃u,Fj H (Ax v k 1)=some u∧RT T E H u (xs.getD k d):=by
 obtain⟨F,h,hb⟩:=h
 obtain⟨u,F1,h1,h2,h3⟩:=B3.get2 d h hk
 exact⟨u,h1 _ fun _ _=>rfl,F1,h2,fun b hm=>hb b (h3 b hm)⟩
theorem RT.getI {H:Array Obj}{xs:List Int}{k:Nat}(h:RT T (B3 rI) H v xs)(hk:k<xs.length):Fj H (Ax v k 1)=some (.int .i64 (xs.getD k 0))∧-9223372036854775808≤xs.getD k 0∧xs.getD k 0≤9223372036854775807:=h.rd.getI hk
end rt
section ops
variable {P:Program} {ops:Array Oper} {w0:World} {Q:Act→World→Prop} {os:List Oper} {ks:List Nat} {N:Nat} {ρ:Nat→Value} {w:World}
 {d:Nat} {ty:TypeId} {pos:String} {aft:Array Edge} {g:Option (Nat×Bool)} {t e:TypeId}
theorem AV {x:Operand}{p:Value}(hp:∃g o,p=.pointer (some ⟨g,o,none⟩))(hx:Bw N ρ x=p)(hu:Up ops N ρ ⟨some d,.nilCheck x,ty,pos,aft,g⟩)
  (h:LW P ops w0 Q os ks (mk N (D3 ρ d p)) w):LW P ops w0 Q (⟨some d,.nilCheck x,ty,pos,aft,g⟩::os) (0::ks) (mk N ρ) w:=by
 obtain⟨b,o,rfl⟩:=hp
 exact CP (by decide) rfl hu _ (fun w' _=>by simp[execOp,hx]) h
theorem OB (a:Addr):a.add 0=a:=by
 obtain⟨b,o,s⟩:=a
 unfold Addr.add
 simp
theorem fg {x y z:Operand}{v u:Value}{n s b:Nat}(ht:P.underlying t=some (.slice e))(hi:TI P e s u b)(hx:Bw N ρ x=v)(hs:Er v n)(hy:Bw N ρ y=.int .i64 (n:Int))(hz:Bw N ρ z=.int .i64 (n:Int))(hc:Cj v)
  (hu:Up ops N ρ ⟨some d,.slice t x none (some y) (some z),ty,pos,aft,g⟩)
  (h:LW P ops w0 Q os ks (mk N (D3 ρ d (Kq v))) w):LW P ops w0 Q (⟨some d,.slice t x none (some y) (some z),ty,pos,aft,g⟩::os) (0::ks) (mk N ρ) w:=by
 obtain⟨a,cap,rfl,_⟩:=hs
 obtain⟨inf,h1,_,h3,_⟩:=hi.get
 refine CP (by decide) rfl hu _ (fun w' _=>?_) h
 have hl':n≤cap:=hc
 have hmap:∀a:Option Addr,a.map (·.add 0)=a:=fun a=>by cases a <;> simp[OB]
 simp[execOp,hx,hy,hz,Instr.sliceAt,Instr.slice,Instr.sliceBounds,Instr.sliceBound,asIntOf,run_underlying ht,sizeOf,typeInfo,h1,h3,Kq,hl',hmap]
end ops
end
section
def JV (a b:ByteArray):Bool:=a.toList == b.toList
section ops
variable {P:Program} {ops:Array Oper} {w0:World} {Q:Act→World→Prop} {os:List Oper} {ks:List Nat} {N:Nat} {ρ:Nat→Value} {w:World}
 {d:Nat} {ty:TypeId} {pos:String} {aft:Array Edge} {g:Option (Nat×Bool)} {t e:TypeId}
theorem Rt {xt yt:TypeId}{x y:Operand}{a b:ByteArray}(c:Bool)(ht:P.underlying xt=some .string)(hx:Bw N ρ x=.string a)(hy:Bw N ρ y=.string b)(hc:JV a b=c)(hu:Up ops N ρ ⟨some d,.binOp .eql xt x y yt,ty,pos,aft,g⟩)
  (h:LW P ops w0 Q os ks (mk N (D3 ρ d (.bool c))) w):LW P ops w0 Q (⟨some d,.binOp .eql xt x y yt,ty,pos,aft,g⟩::os) (0::ks) (mk N ρ) w :=
 CP (by decide) rfl hu _ (fun w' _=>by
  have he:(eqGuard .eql xt x y (.string a) (.string b)).run P w'=.ok () w':=rfl
  have hr:(binOp .eql xt (.string a) (.string b)).run P w'=.ok (.bool (JV a b)) w':=by simp[binOp,Op.stringOp,JV]
  simp only[execOp,hx,hy,Sem.run_bind,he,Result.andThen_ok,hr,hc,Sem.run_pure]) h
def MP:Value→Nat→Value
 |.slice a _ c,k=>.slice a k c
 |v,_=>v
theorem RN.pref {α:Type}{S:List Nat}{s:Nat}{E:BW α}{H:Array Obj}{v:Value}{xs:List α}(hE:Cw s E){k:Nat}(h:RN S (EQ s E) H v xs)(hk:k≤xs.length):RN S (EQ s E) H (MP v k) (xs.take k):=by
 obtain⟨F,h,hb⟩:=h
 obtain⟨a,c,rfl,_⟩:=h.cap
 obtain⟨G,g1,g2⟩:=h.take hE hk
 exact⟨G,g1,fun b hm=>hb b (g2 b hm)⟩
theorem RN.capS {α:Type}{S:List Nat}{s:Nat}{E:BW α}{H:Array Obj}{v:Value}{xs:List α}(h:RN S (EQ s E) H v xs):Cj v:=by
 obtain⟨F,h,hb⟩:=h
 obtain⟨a,c,rfl,hl⟩:=h.cap
 exact hl
theorem Vf {x y:Operand}{v z:Value}{n s b k:Nat}(ht:P.underlying t=some (.slice e))(hi:TI P e s z b)(hx:Bw N ρ x=v)(hs:Er v n)(hc:Cj v)(hy:Bw N ρ y=.int .i64 (k:Int))(hk:k≤n)(hu:Up ops N ρ ⟨some d,.slice t x none (some y) none,ty,pos,aft,g⟩)
  (h:LW P ops w0 Q os ks (mk N (D3 ρ d (MP v k))) w):LW P ops w0 Q (⟨some d,.slice t x none (some y) none,ty,pos,aft,g⟩::os) (0::ks) (mk N ρ) w:=by
 obtain⟨a,cap,rfl,_⟩:=hs
 obtain⟨inf,h1,_,h3,_⟩:=hi.get
 refine CP (by decide) rfl hu _ (fun w' _=>?_) h
 have hl:n≤cap:=hc
 have hl':k≤cap:=by omega
 have hmap:∀a:Option Addr,a.map (·.add 0)=a:=fun a=>by cases a <;> simp[OB]
 simp[execOp,hx,hy,Instr.sliceAt,Instr.slice,Instr.sliceBounds,Instr.sliceBound,asIntOf,run_underlying ht,sizeOf,typeInfo,h1,h3,hl',hmap,MP]
end ops
end
section
def D7 {α:Type}(s:Nat)(E:BW α)(e:TypeId):Bk (List α):=fun H v xs F =>
 (v=.slice none 0 0∧xs=[]∧F=[]) ∨
 ∃css g cap cur F',CE E H css xs F'∧v=.slice (some ⟨g,0,none⟩) xs.length cap∧H[g]? = some (.cells cur e (0,0))∧xs.length≤cap∧cap≤maxLen∧cur.size=cap*s∧cur.toList.take (xs.length*s)=css.flatten∧F=g::F'
section D7
variable {α:Type} {E:BW α} {s:Nat} {e:TypeId} {H H':Array Obj} {v:Value} {xs:List α} {F:List Nat}
theorem Ao (hE:Cw s E):BT (D7 s E e) where
 cells:=by
  rintro H v xs F (⟨rfl,_⟩|⟨us,g,cap,cur,F',_,rfl,_⟩) <;> rfl
 one:=by
  rintro H v xs F (⟨rfl,_⟩|⟨us,g,cap,cur,F',_,rfl,_⟩) <;> rfl
 lt:=by
  rintro H v xs F (⟨rfl,_,rfl⟩|⟨us,g,cap,cur,F',h,rfl,hg,_,_,_,_,rfl⟩) b hb
  ·cases hb
  ·rcases ze.1 hb with rfl|hb
   ·exact getElem?_lt hg
   ·exact h.lt hE b hb
 stable:=by
  rintro H H' v xs F (⟨rfl,h1,h2⟩|⟨us,g,cap,cur,F',h,rfl,hg,r1,r2,r3,r4,rfl⟩) hb
  ·exact .inl ⟨rfl,h1,h2⟩
  ·exact .inr ⟨us,g,cap,cur,F',h.stable hE fun b hh=>hb b<|z3 _ hh,rfl,by rw[hb g (z0 ..)];exact hg,r1,r2,r3,r4,rfl⟩
theorem CE.imp {E':BW α}(hi:∀ {H cs x F},E H cs x F→E' H cs x F):∀ {css:List (List Value)}{xs:List α}{F:List Nat},CE E H css xs F→CE E' H css xs F
 |[],[],_,h=>h
 |_::_,_::_,_,⟨F1,F2,rfl,h1,h2⟩=>⟨F1,F2,rfl,hi h1,CE.imp hi h2⟩
 |[],_::_,_,h=>h.elim
 |_::_,[],_,h=>h.elim
theorem D7.imp {E':BW α}(hi:∀ {H cs x F},E H cs x F→E' H cs x F)(h:D7 s E e H v xs F):D7 s E' e H v xs F:=by
 rcases h with h|⟨us,g,cap,cur,F',h,rfl,hg,r1,r2,r3,r4,rfl⟩
 ·exact .inl h
 ·exact .inr ⟨us,g,cap,cur,F',h.imp hi,rfl,hg,r1,r2,r3,r4,rfl⟩
theorem D7.rd (hE:Cw s E)(h:D7 s E e H v xs F):EQ s E H v xs F:=by
 rcases h with⟨rfl,rfl,rfl⟩|⟨us,g,cap,cur,F',h,rfl,hg,r1,r2,r3,r4,rfl⟩
 ·exact .inl ⟨none,0,rfl,rfl,rfl⟩
 ·refine .inr ⟨us,g,0,cap,cur,e,(0,0),F',h,rfl,hg,?_,⟨Aa r1 r2,r1⟩,rfl⟩
  rw[List.drop_zero];exact r4
theorem D7.isSl (h:D7 s E e H v xs F):Er v xs.length:=by
 rcases h with⟨rfl,rfl,_⟩|⟨us,g,cap,cur,F',_,rfl,_⟩
 ·exact⟨none,0,rfl,fun _=>rfl⟩
 ·exact⟨_,_,rfl,fun h=>by cases h⟩
theorem D7.lenle (h:D7 s E e H v xs F):xs.length≤maxLen:=by
 rcases h with⟨_,rfl,_⟩|⟨us,g,cap,cur,F',_,_,_,r1,r2,_⟩
 ·simp
 ·exact Aa r1 r2
end D7
theorem MQ {s:Nat}{vs:List Value}:∀ {css:List (List Value)}{k:Nat},(∀c∈css,c.length=s)→vs.length=s→k<css.length→css.flatten.take (k*s)++vs++css.flatten.drop (k*s+vs.length)=(css.set k vs).flatten
 |[],_,_,_,hk=>by simp at hk
 |c::css,0,h,hv,_=>by
  have hc:=h c (z0 ..)
  simp[hv,← hc]
 |c::css,k+1,h,hv,hk=>by
  have hc:=h c (z0 ..)
  have ih:=MQ (s:=s) (vs:=vs) (css:=css) (k:=k) (fun c hc=>h c<|z3 _ hc) hv (by simpa using hk)
  have e1:(k+1)*s=c.length+k*s:=by rw[Nat.succ_mul,hc];omega
  have e2:(k+1)*s+vs.length=c.length+(k*s+vs.length):=by omega
  rw[e2,e1,List.set_cons_succ,List.flatten_cons,List.flatten_cons,List.take_length_add_append,List.drop_length_add_append,← ih]
  simp[List.append_assoc]
theorem CE.lens {α:Type}{E:BW α}{s:Nat}{H:Array Obj}(hE:Cw s E):∀ {css:List (List Value)}{xs:List α}{F:List Nat},CE E H css xs F→∀c∈css,c.length=s
 |[],[],_,_,c,hc=>by cases hc
 |_::_,_::_,_,⟨F1,F2,rfl,h1,h2⟩,c,hc=>(ze.1 hc).elim (fun h=>by rw[h];exact hE.len h1) (CE.lens hE h2 c)
 |[],_::_,_,h,_,_=>h.elim
 |_::_,[],_,h,_,_=>h.elim
theorem Um {L vs:List Value}{a M:Nat}(h:a+vs.length≤M)(hM:M≤L.length):(L.take a++vs++L.drop (a+vs.length)).take M=(L.take M).take a++vs++(L.take M).drop (a+vs.length):=by
 have h1:(L.take a++vs).length=a+vs.length:=by rw[z4,List.length_take];omega
 rw[List.take_append,h1,za zO,List.take_take,Nat.min_eq_left zO,List.drop_take]
end
theorem EQ.imp {α:Type}{E E':BW α}{s:Nat}{H:Array Obj}{v:Value}{xs:List α}{F:List Nat}(hi:∀ {H cs x F},E H cs x F→E' H cs x F)(h:EQ s E H v xs F):EQ s E' H v xs F:=by
 rcases h with h|⟨css,g,off,cap,cur,e,fr,F',h1,h2⟩
 ·exact .inl h
 ·exact .inr ⟨css,g,off,cap,cur,e,fr,F',h1.imp hi,h2⟩
def FD (e:TypeId):Nat→BW Ex
 |0=>fun _ _ _ _=>False
 |d+1=>fun H cs x F=>∃v,cs=Dd x v∧Rp x∧D7 5 (FD e d) e H v x.kids F
theorem AH (e:TypeId):∀d,Cw 5 (FD e d)
 |0=>⟨fun h=>h.elim,fun h=>h.elim,fun h=>h.elim,fun h=>h.elim⟩
 |d+1=>by
  have ih:=AH e d
  refine⟨?_,?_,?_,?_⟩
  ·rintro H cs e F ⟨v,rfl,_,_⟩;rfl
  ·rintro H cs e F ⟨v,rfl,_,h⟩ u hu
   unfold Dd at hu
   simp only[ze,z2,or_false]at hu
   rcases hu with rfl|rfl|rfl|rfl|rfl
   ·exact⟨rfl,rfl⟩
   ·exact⟨rfl,rfl⟩
   ·exact⟨rfl,rfl⟩
   ·exact⟨rfl,rfl⟩
   ·exact⟨(Ao ih).cells h,(Ao ih).one h⟩
  ·rintro H cs e F ⟨v,rfl,_,h⟩ b hb
   exact (Ao ih).lt h b hb
  ·rintro H H' cs e F ⟨v,rfl,hr,h⟩ hb
   exact⟨v,rfl,hr,(Ao ih).stable h hb⟩
theorem Vg (e:TypeId):∀ {d:Nat}{H:Array Obj}{cs:List Value}{x:Ex}{F:List Nat},FD e d H cs x F→P9 d H cs x F
 |0,_,_,_,_,h=>h.elim
 |d+1,_,_,_,_,⟨v,h1,h2,h3⟩=>⟨v,h1,h2,(h3.rd (AH e d)).imp fun h=>Vg e h⟩
def LZ (e:TypeId)(d:Nat):BW Fn:=fun H cs f F=>∃v,cs=FU f v∧BI f.params∧D7 5 (FD e d) e H v f.outs F
theorem AJ (e:TypeId)(d:Nat):Cw 3 (LZ e d):=by
 have ih:=Ao (e:=e)<|AH e d
 refine⟨?_,?_,?_,?_⟩
 ·rintro H cs e F ⟨v,rfl,_,_⟩;rfl
 ·rintro H cs e F ⟨v,rfl,_,h⟩ u hu
  unfold FU at hu
  simp only[ze,z2,or_false]at hu
  rcases hu with rfl|rfl|rfl
  ·exact⟨rfl,rfl⟩
  ·exact⟨rfl,rfl⟩
  ·exact⟨ih.cells h,ih.one h⟩
 ·rintro H cs e F ⟨v,rfl,_,h⟩ b hb
  exact ih.lt h b hb
 ·rintro H H' cs e F ⟨v,rfl,hr,h⟩ hb
  exact⟨v,rfl,hr,ih.stable h hb⟩
theorem Vh (e:TypeId){d:Nat}{H:Array Obj}{cs:List Value}{x:Fn}{F:List Nat}(h:LZ e d H cs x F):cC d H cs x F:=by
 obtain⟨v,h1,h2,h3⟩:=h
 exact⟨v,h1,h2,(h3.rd (AH e d)).imp fun h=>Vg e h⟩
section
section res
variable {P:Program} {N:Nat} {ρ:Nat→Value} {w:World} {t:TypeId}
theorem Kr {s b o:Nat}(ht:EA P t s=true){cs:List Value}(h:LD w.heap (.pointer (some ⟨b,o,none⟩)) cs)(hl:cs.length=s):(loadVar t ⟨b,o,none⟩).run P w=.ok (.agg cs.toArray) w:=by
 obtain⟨b',o',he,h⟩:=h
 injection he with he
 injection he with he
 injection he with hb ho _
 subst hb;subst ho
 unfold EA at ht
 simp only[z7]at ht
 obtain⟨h1,h2⟩:=ht
 split at h1
 ·rename_i fs hfs
  split at h2
  ·rename_i inf hin
   have hs:inf.size=s:=by simpa using h2
   have hag:(isAgg t).run P w=.ok true w:=by
    unfold isAgg
    simp only[Sem.run_bind,run_underlying hfs,Result.andThen_ok]
    rfl
   have hlc:=run_loadCells_list (P:=P) w ⟨b,o,none⟩ cs (fun j v hj=>by
    rw[JS,Cu]
    have hjl:j<cs.length:=(List.getElem?_eq_some_iff.1 hj).1
    rw[h j hjl]
    simp[List.getD,hj])
   rw[hl,← hs]at hlc
   simp[loadVar,hag,sizeOf,typeInfo,hin,hlc]
  ·cases h2
 ·cases h1
theorem CA {fn:Func}{R:Ending→World→Prop}{k s b:Nat}{ty:TypeId}{cs:List Value}(hr:fn.results=#[.cell k ty])(ha:EA P ty s=true)(hv:Bw N ρ (.tmp k)=.pointer (some ⟨b,0,none⟩))(hb:BX w.heap b cs)(hl:cs.length=s)
  (h:R (.returned (.agg cs.toArray)) w):bodyPost P fn R .ret (mk N ρ) w:=by
 refine⟨rfl,_,?_,h⟩
 have hld:=Kr (P:=P) ha (LD.of_box hb) hl
 have hg:(mk N ρ).tmps.getD k undef=.pointer (some ⟨b,0,none⟩):=by rw[Me,hv]
 have hi:(asAddr (.pointer (some ⟨b,0,none⟩))).run P w=.ok ⟨b,0,none⟩ w:=rfl
 unfold results
 rw[hr]
 have hg':(mk N ρ).tmps[k]?.getD undef=.pointer (some ⟨b,0,none⟩):=by simpa using hg
 simp[Sem.run_bind,hg',hi,hld,Result.andThen]
end res
section fr
variable {α:Type} {E:BW α} {s:Nat} {e e':TypeId} {B U d:Nat} {H:Array Obj} {v:Value}
theorem Fr.isSlS {xs:List α}(h:Fr (D7 s E e) B U H v xs):Go.Proofs.YtbajepcpgncekaaGreat.Er v xs.length:=by obtain⟨F,h,_⟩:=h;exact h.isSl
theorem RN.of_frF {S:List Nat}{xs:List Fn}(h:Fr (D7 3 (LZ e d) e') B U H v xs)(hS:∀b∈S,b<B):RP S d H v xs:=by
 obtain⟨F,h1,_,h3⟩:=h
 exact⟨F,(h1.rd (AJ e d)).imp fun h=>Vh e h,fun b hb hm=>by have:=h3 b hb;have:=hS b hm;omega⟩
end fr
section str
variable {P:Program} {ops:Array Oper} {w0:World} {Q:Act→World→Prop} {os:List Oper} {ks:List Nat} {N:Nat} {ρ:Nat→Value} {w:World}
 {d:Nat} {ty:TypeId} {pos:String} {aft:Array Edge} {g:Option (Nat×Bool)} {t e:TypeId}
theorem fh {xt yt:TypeId}{x y:Operand}{a b:ByteArray}(hx:Bw N ρ x=.string a)(hy:Bw N ρ y=.string b)(hl:a.size+b.size≤9223372036854775807)(hu:Up ops N ρ ⟨some d,.binOp .add xt x y yt,ty,pos,aft,g⟩)
  (h:LW P ops w0 Q os ks (mk N (D3 ρ d (.string (a++b)))) w):LW P ops w0 Q (⟨some d,.binOp .add xt x y yt,ty,pos,aft,g⟩::os) (0::ks) (mk N ρ) w :=
 CP (by decide) rfl hu _ (fun w' _=>by
  have he:(eqGuard .add xt x y (.string a) (.string b)).run P w'=.ok () w':=rfl
  have hr:(binOp .add xt (.string a) (.string b)).run P w'=.ok (.string (a++b)) w':=by
   have h2:=run_string_add_sum (P:=P) w' a b hl
   simpa [binOp]using h2
  simp only[execOp,hx,hy,Sem.run_bind,he,Result.andThen_ok,hr,Sem.run_pure]) h
end str
end
end Go.Proofs.YtbajepcpgncekaaGreat
