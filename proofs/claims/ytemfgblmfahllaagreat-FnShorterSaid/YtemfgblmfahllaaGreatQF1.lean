/- FwA, FwB, FwC, FwD, FwE, FwF, FwG, FwH, FwK, FwM, FwN, FwP, FwQ, FwI, FwO, FwR, FwS, FwT, FwU, FwV, FwW, FwX, FwY, Gc, Ma, Mb, Na, Mc, Md, Me, Mj, Ml, Mh, Mo, Mq, Nb: texts of this claim, joined; what the claim does not come to is left out. -/
import Derived.Test.YtemfgblmfahllaaGreatProg
import Derived.Still
import Derived.Below
import Derived.WalkKit
import Derived.IntWalk
import Derived.Laws.CopyRow
import Derived.ProofKit
import Derived.Carry
import Derived.Deep.Matrix
set_option linter.unusedVariables false
set_option linter.unusedSimpArgs false
namespace Go.Proofs.YtemfgblmfahllaaGreat
open Go Go.RowKit
abbrev zI (x:Int):Value:=.int .i64 x
abbrev zP (g:Nat):Value:=.pointer (some ⟨g,0,none⟩)
abbrev zN:Value:=.slice none 0 0
theorem zA{c g B U:Nat}(h:c∈[g])(o:g<B∨U≤g:=by omega):c<B∨U≤c:=by rw[List.mem_singleton.1 h];exact o
theorem zE{c g B:Nat}(h:c∈[g])(o:B≤g:=by omega):B≤c:=by rw[List.mem_singleton.1 h];exact o
theorem zB{a g:Nat}(h:a∈[g])(o:a≠g:=by omega):False:=o (List.mem_singleton.1 h)
theorem zR{p:Prop}(h:p:=by repeat(first|exact trivial|exact rfl|refine ⟨rfl,?_⟩)):p:=h
theorem zD{p:Prop}(h:p:=by first|omega|(dsimp only;omega)):p:=h
theorem zW{a b:Bool}(h:a=b):Value.bool a=Value.bool b:=by rw[h]
theorem zO{p:Prop}(h:p:=by omega):p:=h
theorem zH{p q:Prop}(h:p)(o:p→q:=by intro h;omega):q:=o h
theorem z0:type_of% @List.mem_cons_self:=@List.mem_cons_self
theorem z1:type_of% @List.mem_append_right:=@List.mem_append_right
theorem z2:type_of% @List.not_mem_nil:=@List.not_mem_nil
theorem z3:type_of% @List.mem_cons_of_mem:=@List.mem_cons_of_mem
theorem z4:type_of% @List.length_append:=@List.length_append
theorem z5:type_of% @List.length_replicate:=@List.length_replicate
theorem z6:type_of% @List.length_set:=@List.length_set
theorem z7:type_of% @Bool.and_eq_true:=@Bool.and_eq_true
theorem z8:type_of% @List.mem_append_left:=@List.mem_append_left
theorem z9:type_of% @List.length_cons:=@List.length_cons
theorem za:type_of% @List.take_of_length_le:=@List.take_of_length_le
theorem zb:type_of% @List.length_nil:=@List.length_nil
theorem zc:type_of% @List.map_toArray:=@List.map_toArray
theorem zd:type_of% @List.length_singleton:=@List.length_singleton
theorem ze:type_of% @List.mem_cons:=@List.mem_cons
theorem zf:type_of% @List.map_cons:=@List.map_cons
theorem zg:type_of% @List.length_map:=@List.length_map
theorem zh:type_of% @List.map_nil:=@List.map_nil
theorem zi:type_of% @List.mem_append:=@List.mem_append
theorem zj:type_of% @List.mem_of_mem_take:=@List.mem_of_mem_take
theorem zk:type_of% @List.nodup_nil:=@List.nodup_nil
theorem zl:type_of% @List.nil_append:=@List.nil_append
theorem zm:type_of% @List.all_eq_true:=@List.all_eq_true
abbrev A0:=@wp_seq
abbrev A3:=@wp_ret
abbrev A4:=@wp_skip
abbrev A5:=@wp_block
abbrev A6:=@wp_exit
abbrev A7:=@decide_eq_true
abbrev A8:=@decide_eq_false
abbrev A9:=@Nat.le_refl
abbrev Aa:=@Nat.le_trans
theorem Ab {α:Type}{a b:α}(h:a ∈ [b]):a=b:=List.mem_singleton.1 h
theorem Z {α:Sort _}{a:α}:a=a:=rfl
section
def AD (w w':World):Prop:=Below w.heap.size w w'
theorem AD.refl (w:World):AD w w:=Below.refl _ _
theorem AD.trans {a b c:World}(h:AD a b)(k:AD b c):AD a c:=Below.trans h (k.mono h.size)
section
variable {P:Program} {ops:Array Oper} {md:Region.Mode}
def YR (P:Program)(r:Result Next)(w:World)(v:Value):Prop :=
 r=.ok (.value v) w∨(r=.ok .skip w∧v=undef)∨∃f args,r=.ok (.enter f args) w∧Calls P f args w (fun e w'=>e=.returned v∧w'=w)
def YA (P:Program)(o:Oper)(a:Act)(w:World)(v:Value):Prop:=YR P ((execOp a.eval o).run P w) w v
def EQ (P:Program):Frame:={ fn:=P.funcs.size,tmps:=#[undef],todo:=[.inRegion #[⟨some 0,.move (.tmp 0),0,"",#[],none⟩] [0]],defers:=[],mode:=.returning,kind:=.report }
theorem Iv (P:Program) (v:Value) (w:World):∃ o,step P (lone ((EQ P).finish v) [] w) = .ended o w:=by
 have hf:P.funcs[P.funcs.size]? = none:=by simp
 refine ⟨.stuck "report: Error or String returned no string" "",step_lone_ended ?_⟩
 simp [stepG,unwind,doReturn,EQ,Frame.finish]
theorem Iw {P:Program}{n k:Nat}{m x y:Machine}{o:Outcome}{w:World}(hx:runN P n m=.next x)(hy:runN P (n+k) m=.next y)(he:step P x=.ended o w):x=y:=by
 rw[runN_add,hx]at hy
 cases k with
 |zero=>simp only[runN]at hy;injection hy
 |succ k=>simp only[runN,he]at hy;cases hy
theorem N9 {P:Program}{f:FuncId}{args:Array Value}{w:World}{v u:Value}(h:Calls P f args w (fun e w'=>e=.returned v∧w'=w))(k:Calls P f args w (fun e w'=>e=.returned u∧w'=w)):v=u:=by
 have go:∀ {x:Value},Calls P f args w (fun e w'=>e=.returned x∧w'=w)→Steps P (lone (Frame.enter P f args .normal) [EQ P] w) (lone ((EQ P).finish x) [] w):=by
  intro x hx
  obtain⟨e,w',fr,⟨rfl,rfl⟩,hs,_,hl⟩:=hx [EQ P]
  exact Steps.trans hs<|Steps.one<|step_leave_returned hl
 obtain⟨n,hn⟩:=go h
 obtain⟨m,hm⟩:=go k
 obtain⟨o1,e1⟩:=Iv P v w
 obtain⟨o2,e2⟩:=Iv P u w
 have he:lone ((EQ P).finish v) [] w=lone ((EQ P).finish u) [] w:=by
  rcases Nat.le_total n m with hle|hle
  ·obtain⟨k,rfl⟩:=Nat.le.dest hle
   exact Iw hn hm e1
  ·obtain⟨k,rfl⟩:=Nat.le.dest hle
   exact (Iw hm hn e2).symm
 simpa [lone,EQ,Frame.finish]using he
theorem YA.unique {o:Oper}{a:Act}{w:World}{v u:Value}(h:YA P o a w v)(k:YA P o a w u):v=u:=by
 unfold YA at h k
 rcases h with h|⟨h,rfl⟩|⟨f,args,h,hc⟩ <;> rcases k with k|⟨k,rfl⟩|⟨f',args',k,kc⟩ <;> rw[h]at k
 ·injection k with k _;injection k
 ·injection k with k _;cases k
 ·injection k with k _;cases k
 ·injection k with k _;cases k
 ·injection k with k _;cases k
 ·injection k with k _;cases k
 ·injection k with k _;cases k
 ·injection k with k _
  injection k with k1 k2
  subst k1;subst k2
  exact N9 hc kc
def NQ (Q:Act→World→Prop):Exit→Act→World→Prop
 |.normal,a,w=>Q a w
 |_,_,_=>False
def Cl (w0 w:World):Nat→World→Prop
 |0,_=>True
 |1,w'=>AD w0 w'
 |_,w'=>AD w w'
def BT (P:Program)(w0:World)(o:Oper)(k:Nat)(a:Act)(w:World)(K:Act→World→Prop):Prop :=
 if k≤2 then ∃v,(∀w',Cl w0 w k w'→YA P o a w' v)∧K (a.put o.dst v) w
 else if k=3 then o.wp P a w (fun a' w'=>AD w w'∧K a' w') (NQ fun _ _=>False)
 else o.wp P a w K (NQ fun _ _=>False)
def LW (P:Program)(ops:Array Oper)(w0:World)(Q:Act→World→Prop):List Oper→List Nat→Act→World→Prop
 |[],_,a,w=>Q a w
 |_::_,[],_,_=>False
 |o::os,k::ks,a,w =>
  if Region.wanted o (yielded ops a.tmps)=true then BT P w0 o k a w (LW P ops w0 Q os ks)else LW P ops w0 Q os ks (a.put o.dst undef) w
theorem BT.mono {w0:World}{o:Oper}{k:Nat}{a:Act}{w:World}{K K':Act→World→Prop}(h:∀a w,K a w→K' a w)
  (hh:BT P w0 o k a w K):BT P w0 o k a w K':=by
 unfold BT at *
 split
 ·rename_i hk
  rw[if_pos hk]at hh
  obtain⟨v,h1,h2⟩:=hh
  exact⟨v,h1,h _ _ h2⟩
 ·rename_i hk
  rw[if_neg hk]at hh
  split
  ·rename_i h3
   rw[if_pos h3]at hh
   exact Oper.wp_mono (fun a w hx=>⟨hx.1,h _ _ hx.2⟩) hh
  ·rename_i h3
   rw[if_neg h3]at hh
   exact Oper.wp_mono h hh
theorem Qi {o:Oper}{a:Act}{w:World}{K:Act→World→Prop}(h:o.wp P a w K (NQ fun _ _=>False)):∃v w',K (a.put o.dst v) w'∨∃d,K ({ a with defers:=d::a.defers }.put o.dst v) w':=by
 unfold Oper.wp at h
 generalize (execOp a.eval o).run P w=r at h
 cases r with
 |ok n w' =>
  cases n <;> simp only[Oper.upon]at h
  case value v=>exact⟨v,w',.inl h⟩
  case skip=>exact⟨undef,w',.inl h⟩
  case defer d=>exact⟨undef,w',.inr ⟨d,h⟩⟩
  case enter f args =>
   obtain⟨e,w1,fr,hR,_⟩:=h []
   cases e with
   |returned v=>exact⟨v,w1,.inl hR⟩
   |panicked c=>exact hR.elim
   |outgrown=>obtain⟨a1,w2,hf⟩:=hR;exact hf.elim
  case row row args =>
   obtain⟨v,w1,hR,_⟩:=h default []
   exact⟨v,w1,.inl hR⟩
 |halt x w'=>cases x <;> simp only[Oper.upon]at h;exact h.elim
theorem Jg {o:Oper}(hs:∀cs b,o.op≠.select cs b){a:Act}{d:Option Tmp}{v:Value}{w:World}{K:Act→World→Prop}{Q:Act→World→Prop}
  (h1:∀x,d=some x→x∉o.looksAt ops) (h2:∀x,d=some x→o.dst≠some x)
  (h:o.wp P (a.put d v) w K (NQ Q)):o.wp P a w (fun a' w'=>K (a'.put d v) w') (NQ fun _ _=>False):=by
 unfold Oper.wp at *
 rw[execOp_put (ops:=ops) o hs a d v h1]at h
 generalize (execOp a.eval o).run P w=r at *
 have hc:∀u,(a.put d v).put o.dst u=(a.put o.dst u).put d v:=fun u=>Act.put_comm a v u h2
 cases r with
 |ok n w' =>
  cases n <;> simp only[Oper.upon]at h ⊢
  case value u=>rw[← hc];exact h
  case skip=>rw[← hc];exact h
  case defer dd =>
   rw[Act.put_defers]at h
   have:=Act.put_comm ({ a with defers:=dd::a.defers }:Act) v undef h2
   rw[← this];exact h
  case enter f args =>
   refine Calls.mono h fun e w'' he=>?_
   cases e with
   |returned u=>show K _ _;rw[← hc];exact he
   |panicked c=>exact he
   |outgrown=>obtain⟨_,_,hf⟩:=he;exact hf.elim
  case row row args=>exact Rows.mono h (fun u w'' he=>by show K _ _;rw[← hc];exact he)
 |halt x w'=>cases x <;> simp only[Oper.upon]at h ⊢;exact h
theorem L3 {o:Oper}(hs:∀cs b,o.op≠.select cs b){a:Act}{d:Option Tmp}{v:Value}{w:World}{K:Act→World→Prop}
  (h1:∀x,d=some x→x∉o.looksAt ops) (h2:∀x,d=some x→o.dst≠some x)
  (h:o.wp P a w (fun a' w'=>K (a'.put d v) w') (NQ fun _ _=>False)):o.wp P (a.put d v) w K (NQ fun _ _=>False):=by
 unfold Oper.wp at *
 rw[execOp_put (ops:=ops) o hs a d v h1]
 generalize (execOp a.eval o).run P w=r at *
 have hc:∀u,(a.put d v).put o.dst u=(a.put o.dst u).put d v:=fun u=>Act.put_comm a v u h2
 cases r with
 |ok n w' =>
  cases n <;> simp only[Oper.upon]at h ⊢
  case value u=>rw[hc];exact h
  case skip=>rw[hc];exact h
  case defer dd =>
   rw[Act.put_defers]
   have:=Act.put_comm ({ a with defers:=dd::a.defers }:Act) v undef h2
   rw[this];exact h
  case enter f args =>
   refine Calls.mono h fun e w'' he=>?_
   cases e with
   |returned u=>show K _ _;rw[hc];exact he
   |panicked c=>exact he
   |outgrown=>obtain⟨_,_,hf⟩:=he;exact hf.elim
  case row row args=>exact Rows.mono h (fun u w'' he=>by show K _ _;rw[hc];exact he)
 |halt x w'=>cases x <;> simp only[Oper.upon]at h ⊢;exact h
theorem YA.apart {o:Oper}(hs:∀cs b,o.op≠.select cs b){a:Act}{d:Option Tmp}{v u:Value}{w:World}
  (h1:∀x,d=some x→x∉o.looksAt ops):YA P o (a.put d v) w u↔YA P o a w u:=by
 unfold YA
 rw[execOp_put (ops:=ops) o hs a d v h1]
variable (P ops) in
def LI (kd:Nat→Nat)(w0:World)(Q:Act→World→Prop):List Nat→Act→World→Prop
 |[],a,w=>Q a w
 |i::l,a,w =>
  match ops[i]? with
  |none=>False
  |some o=>if Region.wanted o (yielded ops a.tmps)=true then BT P w0 o (kd i) a w (LI kd w0 Q l)else LI kd w0 Q l (a.put o.dst undef) w
def CV (ki kj:Nat):Bool :=
 (ki≤2 && kj≤2) || (ki≤2 && kj == 3) || (ki == 0 && kj == 4) || (ki == 3 && kj≤1) || (ki == 4 && kj == 0)
def Ya (ops:Array Oper)(kd:Nat→Nat)(bs:Nat→Nat):Prop :=
 ∀i j oi oj,i<j→ops[i]? = some oi→ops[j]? = some oj→(bs j).testBit i=true∨(oi.apart ops oj=true∧CV (kd i) (kd j)=true)
def Kj (md:Region.Mode)(ops:Array Oper)(bs:Nat→Nat):Prop :=
 ∀j oj,ops[j]? = some oj→∀i,(bs j).testBit i=true→∃e∈oj.after,Region.binds md e=true∧(i=e.on∨(bs e.on).testBit i=true)
def JQ (kd:Nat→Nat)(w0 w:World)(l:List Nat):Prop:=(∃j∈l,kd j=1)→AD w0 w
def II (kd:Nat→Nat)(l:List Nat):Prop:=∀l1 i l2,l=l1++i::l2→4≤kd i→∀j∈l2,kd j≠1
theorem II.erase {kd:Nat→Nat}{l1 l2:List Nat}{i:Nat}(h:II kd (l1++i::l2)):II kd (l1++l2):=by
 intro m1 j m2 e hj x hx
 by_cases hlt:m1.length<l1.length
 ·have e1:l1=m1++j::(m2.take (l1.length-m1.length-1)):=by
   have:=congrArg (List.take l1.length) e
   rw[List.take_left,List.take_append,za (by omega)]at this
   rw[this]
   congr 1
   obtain⟨n,hn⟩:∃n,l1.length-m1.length=n+1:=⟨l1.length-m1.length-1,zO⟩
   rw[hn];simp
  have e2:l2=m2.drop (l1.length-m1.length-1):=by
   have:=congrArg (List.drop l1.length) e
   rw[List.drop_left,List.drop_append]at this
   rw[this,List.drop_of_length_le zO,zl]
   obtain⟨n,hn⟩:∃n,l1.length-m1.length=n+1:=⟨l1.length-m1.length-1,zO⟩
   rw[hn];simp
  refine h m1 j (m2.take (l1.length-m1.length-1)++i::l2) (by rw[e1];simp[List.append_assoc]) hj x ?_
  have hx':x∈m2.take (l1.length-m1.length-1)++m2.drop (l1.length-m1.length-1):=by rw[List.take_append_drop];exact hx
  rw[← e2]at hx'
  simp only[zi,ze]at hx' ⊢
  rcases hx' with hx'|hx'
  ·exact .inl hx'
  ·exact .inr<|.inr hx'
 ·have e2:l2=m1.drop l1.length++j::m2:=by
   have:=congrArg (List.drop l1.length) e
   rw[List.drop_left,List.drop_append_of_le_length (by omega)]at this
   exact this
  exact h (l1++i::m1.drop l1.length) j m2 (by rw[e2];simp) hj x hx
def Yv (P:Program)(ops:Array Oper)(w0:World)(k:Nat)(o:Oper)(a:Act)(w:World)(v:Value):Prop :=
 (Region.wanted o (yielded ops a.tmps)=true∧∀w',Cl w0 w k w'→YA P o a w' v)∨(Region.wanted o (yielded ops a.tmps)=false∧v=undef)
theorem Cl.self {w0 w:World}{k:Nat}(h:k=1→AD w0 w):Cl w0 w k w:=by
 match k,h with
 |0,_=>exact trivial
 |1,h=>exact h rfl
 |_+2,_=>exact AD.refl w
theorem Yv.unique {w0 w:World}{k:Nat}{o:Oper}{a:Act}{v u:Value}(hk:k=1→AD w0 w)(h:Yv P ops w0 k o a w v)(h':Yv P ops w0 k o a w u):v=u:=by
 rcases h with⟨h1,h2⟩|⟨h1,h2⟩ <;> rcases h' with⟨g1,g2⟩|⟨g1,g2⟩
 ·exact (h2 w<|Cl.self hk).unique<|g2 w<|Cl.self hk
 ·rw[h1]at g1;cases g1
 ·rw[h1]at g1;cases g1
 ·rw[h2,g2]
theorem Yv.apart {w0 w:World}{k:Nat}{o:Oper}(hs:∀cs b,o.op≠.select cs b){a:Act}{d:Option Tmp}{u v:Value}
  (h1:∀x,d=some x→x∉o.looksAt ops):Yv P ops w0 k o (a.put d u) w v↔Yv P ops w0 k o a w v:=by
 unfold Yv
 rw[wanted_put (ops:=ops) o a d u h1]
 simp only[YA.apart (ops:=ops) (P:=P) hs h1]
theorem Yv.defers {w0 w:World}{k:Nat}{o:Oper}{a:Act}{l:List Deferred}{v:Value}:Yv P ops w0 k o { a with defers:=l } w v↔Yv P ops w0 k o a w v:=by
 have he:Act.eval { a with defers:=l }=Act.eval a:=funext fun x=>by cases x <;> rfl
 unfold Yv YA
 rw[he]
def ME (a:Act)(d:Option Tmp)(a':Act):Prop:=∃u,a'=a.put d u∨∃x,a'=({ a with defers:=x::a.defers }:Act).put d u
theorem Gt {o:Oper}{a:Act}{w:World}{K:Act→World→Prop}{Q:Exit→Act→World→Prop}(h:o.wp P a w K Q) :
  o.wp P a w (fun a' w'=>K a' w'∧ME a o.dst a') Q:=by
 unfold Oper.wp at *
 generalize (execOp a.eval o).run P w=r at *
 cases r with
 |ok n w' =>
  cases n <;> simp only[Oper.upon]at h ⊢
  case value u=>exact⟨h,u,.inl rfl⟩
  case skip=>exact⟨h,undef,.inl rfl⟩
  case defer dd=>exact⟨h,undef,.inr ⟨dd,rfl⟩⟩
  case enter f args =>
   refine Calls.mono h fun e w'' he=>?_
   cases e with
   |returned u=>exact⟨he,u,.inl rfl⟩
   |panicked c=>exact he
   |outgrown=>exact he
  case row row args=>exact Rows.mono h (fun u w'' he=>⟨he,u,.inl rfl⟩)
 |halt x w'=>cases x <;> simp only[Oper.upon]at h ⊢;exact h
theorem Yv.shape {w0 w:World}{k:Nat}{o:Oper}(hs:∀cs b,o.op≠.select cs b){a a':Act}{d:Option Tmp}{v:Value}
  (h1:∀x,d=some x→x∉o.looksAt ops) (h:ME a d a'):Yv P ops w0 k o a' w v↔Yv P ops w0 k o a w v:=by
 obtain⟨u,rfl|⟨x,rfl⟩⟩:=h
 ·exact Yv.apart hs h1
 ·rw[Yv.apart hs h1];exact Yv.defers
theorem Fs {o:Oper}{a a':Act}{d:Option Tmp}(h1:∀x,d=some x→x∉o.looksAt ops)(h:ME a d a') :
  Region.wanted o (yielded ops a'.tmps)=Region.wanted o (yielded ops a.tmps):=by
 obtain⟨u,rfl|⟨x,rfl⟩⟩:=h
 ·exact wanted_put o a d u h1
 ·rw[wanted_put o _ d u h1]
section main
variable {kd bs:Nat→Nat} {w0:World} {Q:Act→World→Prop}
theorem fN {ki kj:Nat}(h:CV ki kj=true)(hk:ki=3):kj≤1:=by simp[CV]at h;omega
theorem fO {ki kj:Nat}(h:CV ki kj=true)(hk:4≤ki):kj=0:=by simp[CV]at h;omega
theorem dW {ki kj:Nat}(h:CV ki kj=true)(hk:3≤kj):ki≤2∧(4≤kj→ki=0):=by simp[CV]at h;omega
theorem Ho (hsel:∀(j:Nat)(o:Oper) cs b,ops[j]? = some o→o.op≠.select cs b){j:Nat}{oj:Oper}(hj:ops[j]? = some oj)(hk:kd j≤2) :
  ∀(l1 l2:List Nat) (a:Act) (w:World),(∀i∈l1,∀oi,ops[i]? = some oi→oi.apart ops oj=true∧CV (kd i) (kd j)=true)→(kd j=1→AD w0 w) →
   LI P ops kd w0 Q (l1++j::l2) a w→∃v,Yv P ops w0 (kd j) oj a w v∧LI P ops kd w0 Q (l1++l2) (a.put oj.dst v) w
 |[],l2,a,w,_,_,h=>by
  simp only[zl,LI,hj]at h ⊢
  split at h
  ·rename_i hw
   unfold BT at h
   rw[if_pos hk]at h
   obtain⟨v,h1,h2⟩:=h
   exact⟨v,.inl ⟨hw,h1⟩,h2⟩
  ·rename_i hw
   exact⟨undef,.inr ⟨by simpa using hw,rfl⟩,h⟩
 |i::l1,l2,a,w,hl,hx,h=>by
  have hi:=hl i (z0 ..)
  have hl':∀x∈l1,∀ox,ops[x]? = some ox→ox.apart ops oj=true∧CV (kd x) (kd j)=true:=fun x hx=>hl x (z3 _ hx)
  simp only[List.cons_append,LI]at h ⊢
  cases hoi:ops[i]? with
  |none=>rw[hoi]at h;exact h.elim
  |some oi =>
   rw[hoi]at h
   simp only at h ⊢
   obtain⟨hap,hok⟩:=hi oi hoi
   obtain⟨p1,p2,p3⟩:=Oper.apart_spec hap
   have p2':∀d,oj.dst=some d→oi.dst≠some d:=fun d hd he=>p2 d he hd
   have si:=fun cs b=>hsel i oi cs b hoi
   have sj:=fun cs b=>hsel j oj cs b hj
   by_cases hw:Region.wanted oi (yielded ops a.tmps)=true
   ·rw[if_pos hw]at h
    unfold BT at h
    by_cases hki:kd i≤2
    ·rw[if_pos hki]at h
     obtain⟨vi,hy,h⟩:=h
     obtain⟨v,h1,h2⟩:=Ho hsel hj hk l1 l2 (a.put oi.dst vi) w hl' hx h
     refine⟨v,(Yv.apart sj p1).1 h1,?_⟩
     rw[wanted_put oi a oj.dst v p3,if_pos hw]
     unfold BT
     rw[if_pos hki]
     refine⟨vi,fun w' hc=>(YA.apart (ops:=ops) si p3).2 (hy w' hc),?_⟩
     rw[Act.put_comm a v vi p2']
     exact h2
    ·rw[if_neg hki]at h
     have gen:∀(G:World→Prop),(∀w',G w'→kd j=1→AD w0 w')→(kd j=2→False) →
       oi.wp P a w (fun a' w'=>G w'∧LI P ops kd w0 Q (l1++j::l2) a' w') (NQ fun _ _=>False) →
       ∃v,Yv P ops w0 (kd j) oj a w v∧oi.wp P (a.put oj.dst v) w (fun a' w'=>G w'∧LI P ops kd w0 Q (l1++l2) a' w') (NQ fun _ _=>False):=by
      intro G hG hn2 hh
      have hcl:∀w1 w2,Cl w0 w1 (kd j) w2→Cl w0 w (kd j) w2:=by
       intro w1 w2 hc
       match hkj:kd j,hk,hn2 with
       |0,_,_=>trivial
       |1,_,_=>rw[hkj]at hc;exact hc
       |2,_,hn=>exact(hn rfl).elim
       |_+3,hle,_=>omega
      have hcl':∀w1 w2,Cl w0 w (kd j) w2→Cl w0 w1 (kd j) w2:=by
       intro w1 w2 hc
       match hkj:kd j,hk,hn2 with
       |0,_,_=>trivial
       |1,_,_=>rw[hkj]at hc;exact hc
       |2,_,hn=>exact(hn rfl).elim
       |_+3,hle,_=>omega
      have hs:=Gt hh
      have step:∀a' w',((G w'∧LI P ops kd w0 Q (l1++j::l2) a' w')∧ME a oi.dst a') →
        ∃v,Yv P ops w0 (kd j) oj a w v∧LI P ops kd w0 Q (l1++l2) (a'.put oj.dst v) w':=by
       rintro a' w' ⟨⟨hg,hL⟩,hsh⟩
       obtain⟨v,h1,h2⟩:=Ho hsel hj hk l1 l2 a' w' hl' (hG w' hg) hL
       have h1':=(Yv.shape sj p1 hsh).1 h1
       refine⟨v,?_,h2⟩
       rcases h1' with⟨q1,q2⟩|⟨q1,q2⟩
       ·exact .inl ⟨q1,fun w2 hc=>q2 w2<|hcl' w' w2 hc⟩
       ·exact .inr ⟨q1,q2⟩
      obtain⟨v,hv⟩:∃v,Yv P ops w0 (kd j) oj a w v:=by
       obtain⟨u,w',hK|⟨d,hK⟩⟩:=Qi hs
       ·obtain⟨v,h1,_⟩:=step _ _ hK;exact⟨v,h1⟩
       ·obtain⟨v,h1,_⟩:=step _ _ hK;exact⟨v,h1⟩
      refine⟨v,hv,L3 (ops:=ops) si p3 p2' ?_⟩
      refine Oper.wp_mono (fun a' w' hK=>?_) hs
      obtain⟨v',h1,h2⟩:=step a' w' hK
      have:v'=v:=h1.unique hx hv
      subst this
      exact⟨hK.1.1,h2⟩
     by_cases h3:kd i=3
     ·rw[if_pos h3]at h
      have hj1:=fN hok h3
      obtain⟨v,hv,hwp⟩:=gen (fun w'=>AD w w') (fun w' hg h1=>(hx h1).trans hg) (fun h2=>by omega) h
      refine⟨v,hv,?_⟩
      rw[wanted_put oi a oj.dst v p3,if_pos hw]
      unfold BT
      rw[if_neg hki,if_pos h3]
      exact hwp
     ·rw[if_neg h3]at h
      have hj0:=fO hok zO
      obtain⟨v,hv,hwp⟩:=gen (fun _=>True) (fun w' _ h1=>by omega) (fun h2=>by omega) (Oper.wp_mono (fun a w hh=>⟨trivial,hh⟩) h)
      refine⟨v,hv,?_⟩
      rw[wanted_put oi a oj.dst v p3,if_pos hw]
      unfold BT
      rw[if_neg hki,if_neg h3]
      exact Oper.wp_mono (fun a w hh=>hh.2) hwp
   ·rw[if_neg hw]at h
    obtain⟨v,h1,h2⟩:=Ho hsel hj hk l1 l2 (a.put oi.dst undef) w hl' hx h
    refine⟨v,(Yv.apart sj p1).1 h1,?_⟩
    rw[wanted_put oi a oj.dst v p3,if_neg hw,Act.put_comm a v undef p2']
    exact h2
theorem Ix (hsel:∀(j:Nat)(o:Oper) cs b,ops[j]? = some o→o.op≠.select cs b){j:Nat}{oj:Oper}(hj:ops[j]? = some oj)(hk:3≤kd j) :
  ∀(l1 l2:List Nat) (a:Act) (w:World),(∀i∈l1,∀oi,ops[i]? = some oi→oi.apart ops oj=true∧CV (kd i) (kd j)=true)→LI P ops kd w0 Q (l1++j::l2) a w →
   (Region.wanted oj (yielded ops a.tmps)=true→oj.wp P a w (fun a' w'=>(kd j=3→AD w w')∧LI P ops kd w0 Q (l1++l2) a' w') (NQ fun _ _=>False)) ∧
   (Region.wanted oj (yielded ops a.tmps)=false→LI P ops kd w0 Q (l1++l2) (a.put oj.dst undef) w)
 |[],l2,a,w,_,h=>by
  simp only[zl,LI,hj]at h ⊢
  refine⟨fun hw=>?_,fun hw=>?_⟩
  ·rw[if_pos hw]at h
   unfold BT at h
   rw[if_neg (by omega)]at h
   split at h
   ·exact Oper.wp_mono (fun _ _ hh=>⟨fun _=>hh.1,hh.2⟩) h
   ·rename_i h3;exact Oper.wp_mono (fun _ _ hh=>⟨fun h'=>(h3 h').elim,hh⟩) h
  ·rw[if_neg (by simp[hw])]at h;exact h
 |i::l1,l2,a,w,hl,h=>by
  have hi:=hl i (z0 ..)
  have hl':∀x∈l1,∀ox,ops[x]? = some ox→ox.apart ops oj=true∧CV (kd x) (kd j)=true:=fun x hx=>hl x (z3 _ hx)
  simp only[List.cons_append,LI]at h ⊢
  cases hoi:ops[i]? with
  |none=>rw[hoi]at h;exact h.elim
  |some oi =>
   rw[hoi]at h
   simp only at h ⊢
   obtain⟨hap,hok⟩:=hi oi hoi
   obtain⟨p1,p2,p3⟩:=Oper.apart_spec hap
   have p2':∀d,oj.dst=some d→oi.dst≠some d:=fun d hd he=>p2 d he hd
   have si:=fun cs b=>hsel i oi cs b hoi
   have sj:=fun cs b=>hsel j oj cs b hj
   obtain⟨hki,hk4⟩:=dW hok hk
   by_cases hw:Region.wanted oi (yielded ops a.tmps)=true
   ·rw[if_pos hw]at h
    unfold BT at h
    rw[if_pos hki]at h
    obtain⟨vi,hy,h⟩:=h
    obtain⟨g1,g2⟩:=Ix hsel hj hk l1 l2 (a.put oi.dst vi) w hl' h
    rw[wanted_put oj a oi.dst vi p1]at g1 g2
    refine⟨fun hwj=>?_,fun hwj=>?_⟩
    ·have g:=Jg (ops:=ops) (Q:=fun _ _=>False) sj p1 p2<|g1 hwj
     refine Oper.wp_mono (fun a' w' hK=>?_)<|Gt g
     obtain⟨⟨hE,hL⟩,hsh⟩:=hK
     refine⟨hE,?_⟩
     rw[Fs p3 hsh,if_pos hw]
     unfold BT
     rw[if_pos hki]
     refine⟨vi,fun w'' hc=>?_,hL⟩
     have hya:YA P oi a w'' vi:=by
      refine hy w'' ?_
      match hki':kd i,hki,hk4 with
      |0,_,_=>trivial
      |1,_,_=>rw[hki']at hc;exact hc
      |2,_,h4=>rw[hki']at hc;exact(hE (by have:¬4≤kd j:=(fun hh=>by have:=h4 hh;omega);omega)).trans hc
      |_+3,hle,_=>omega
     have he:∀b,YA P oi b w'' vi↔YR P ((execOp b.eval oi).run P w'') w'' vi:=fun _=>Iff.rfl
     obtain⟨u,rfl|⟨x,rfl⟩⟩:=hsh
     ·exact (YA.apart (ops:=ops) si p3).2 hya
     ·refine (YA.apart (ops:=ops) si p3).2 ?_
      have hee:Act.eval { a with defers:=x::a.defers }=Act.eval a:=funext fun y=>by cases y <;> rfl
      rw[he,hee,← he];exact hya
    ·rw[wanted_put oi a oj.dst undef p3,if_pos hw]
     unfold BT
     rw[if_pos hki]
     refine⟨vi,fun w' hc=>(YA.apart (ops:=ops) si p3).2 (hy w' hc),?_⟩
     rw[Act.put_comm a undef vi p2']
     exact g2 hwj
   ·rw[if_neg hw]at h
    obtain⟨g1,g2⟩:=Ix hsel hj hk l1 l2 (a.put oi.dst undef) w hl' h
    rw[wanted_put oj a oi.dst undef p1]at g1 g2
    refine⟨fun hwj=>?_,fun hwj=>?_⟩
    ·have g:=Jg (ops:=ops) (Q:=fun _ _=>False) sj p1 p2<|g1 hwj
     refine Oper.wp_mono (fun a' w' hK=>?_)<|Gt g
     obtain⟨⟨hE,hL⟩,hsh⟩:=hK
     refine⟨hE,?_⟩
     rw[Fs p3 hsh,if_neg hw]
     exact hL
    ·rw[wanted_put oi a oj.dst undef p3,if_neg hw,Act.put_comm a undef undef p2']
     exact g2 hwj
end main
end
end
section
section
variable {P:Program} {ops:Array Oper} {md:Region.Mode} {kd bs:Nat→Nat} {w0:World} {Q:Act→World→Prop}
theorem GT {o:Oper}{a:Act}{w:World}{K:Act→World→Prop}{Q':Exit→Act→World→Prop}(h:o.wp P a w K (NQ fun _ _=>False)):o.wp P a w K Q':=by
 unfold Oper.wp at *
 generalize (execOp a.eval o).run P w=r at *
 cases r with
 |ok n w' =>
  cases n <;> simp only[Oper.upon]at h ⊢ <;> try exact h
  case enter f args =>
   refine Calls.mono h fun e w'' he=>?_
   cases e with
   |returned u=>exact he
   |panicked c=>exact he.elim
   |outgrown=>obtain⟨_,_,hf⟩:=he;exact hf.elim
 |halt x w'=>cases x <;> simp only[Oper.upon]at h ⊢;exact h.elim
theorem HC {o:Oper}{a:Act}{w:World}{v:Value}{K:Act→World→Prop}{Q':Exit→Act→World→Prop}(h:YA P o a w v)(hK:K (a.put o.dst v) w):o.wp P a w K Q':=by
 unfold Oper.wp
 unfold YA at h
 rcases h with h|⟨h,rfl⟩|⟨f,args,h,hc⟩ <;> rw[h]
 ·exact hK
 ·exact hK
 ·exact Calls.mono hc fun e w' he=>by
   obtain⟨rfl,rfl⟩:=he
   exact hK
def IJ (bs:Nat→Nat)(listed:Array Bool):Prop:=∀i,listed.getD i false=true→∀j,(bs i).testBit j=true→listed.getD j false=true
theorem D6 {l:Array Bool}{i:Nat}(h:l.getD i true=false):l.getD i false=false:=by
 by_cases hi:i<l.size
 ·simpa [hi]using h
 ·simp[hi]at h
def CR (md:Region.Mode)(ops:Array Oper)(kd bs:Nat→Nat)(x y:Nat):Prop :=
 (∀ox oy,ops[x]? = some ox→ops[y]? = some oy→(bs y).testBit x=true∨(ox.apart ops oy=true∧CV (kd x) (kd y)=true)) ∧
 (∀ox,ops[x]? = some ox→∀e∈ox.after,Region.binds md e=true→e.on≠y)
section lists
variable {l1 l2:List Nat} {i:Nat} {listed:Array Bool}
theorem GU (hz:listed.size=ops.size){l:List Nat}(hm:∀x,x∈i::l↔listed.getD x true=false)(hself:∀x ox,ops[x]? = some ox→∀e∈ox.after,Region.binds md e=true→e.on<x)
  (hs:∀y∈l,∀ox,ops[i]? = some ox→∀e∈ox.after,Region.binds md e=true→e.on≠y):i∈Region.ready md ops listed:=by
 have hil:=(hm i).1 (z0 ..)
 have hlt:i<ops.size:=by
  rw[← hz]
  rcases Nat.lt_or_ge i listed.size with h'|h'
  ·exact h'
  ·simp[Array.getElem?_eq_none h']at hil
 refine mem_ready.2 ⟨hil,ops[i],by simp[hlt],fun e he hb=>?_⟩
 have hlt':=hself i ops[i] (by simp[hlt]) e he hb
 have hnot:e.on∉i::l:=by
  intro hmem
  rcases ze.1 hmem with hh|hh
  ·omega
  ·exact hs _ hh ops[i] (by simp[hlt]) e he hb rfl
 have:listed.getD e.on true=true:=by
  cases hb':listed.getD e.on true with
  |true=>rfl
  |false=>exact absurd ((hm e.on).2 hb') hnot
 have hlt2:e.on<listed.size:=by omega
 simpa [hlt2]using this
theorem EE (hm:∀x,x∈l1++i::l2↔listed.getD x true=false)(hnd:i∉l1++l2)(hsz:i<listed.size):∀x,x∈l1++l2↔(listed.setIfInBounds i true).getD x true=false:=by
 intro x
 by_cases hxi:x=i
 ·subst hxi
  constructor
  ·exact fun hh=>absurd hh hnd
  ·intro hh;simp[hsz]at hh
 ·rw[getD_set_ne true (Ne.symm hxi),← hm x]
  simp only[zi,ze]
  constructor
  ·exact fun hh=>hh.elim .inl fun y=>.inr<|.inr y
  ·exact fun hh=>hh.elim .inl fun y=>y.elim (fun z=>absurd z hxi) .inr
theorem E8 (hc:IJ bs listed)(hbits:∀j,(bs i).testBit j=true→listed.getD j false=true):IJ bs (listed.setIfInBounds i true):=by
 intro x hx j hj
 by_cases hxi:x=i
 ·subst hxi;exact getD_set_true (hbits j hj)
 ·rw[getD_set_ne false (Ne.symm hxi)]at hx;exact getD_set_true (hc x hx j hj)
theorem DW (hS:Kj md ops bs)(hc:IJ bs listed){oi:Oper}(hoi:ops[i]? = some oi)(hall:∀e∈oi.after,Region.binds md e=true→listed.getD e.on false=true):∀j,(bs i).testBit j=true→listed.getD j false=true:=by
 intro j hj
 obtain⟨e,he,hb,hh⟩:=hS i oi hoi j hj
 have hl:=hall e he hb
 rcases hh with rfl|hh
 ·exact hl
 ·exact hc e.on hl j hh
theorem D4 {oi:Oper}(hoi:ops[i]? = some oi)(hp:∀x∈l1,(∀ox oy,ops[x]? = some ox→ops[i]? = some oy→(bs i).testBit x=true∨(ox.apart ops oy=true∧CV (kd x) (kd i)=true)))
  (hm:∀x∈l1,listed.getD x true=false) (hbits:∀j,(bs i).testBit j=true→listed.getD j false=true):∀x∈l1,∀ox,ops[x]? = some ox→ox.apart ops oi=true∧CV (kd x) (kd i)=true:=by
 intro x hx ox hox
 rcases hp x hx ox oi hox hoi with hb|hb
 ·have h1:=hbits x hb
  have h2:=D6<|hm x hx
  rw[h1]at h2;cases h2
 ·exact hb
theorem CB (h:listed.getD i true=false):i<listed.size:=by
 rcases Nat.lt_or_ge i listed.size with h'|h'
 ·exact h'
 ·simp[Array.getElem?_eq_none h']at h
end lists
theorem Ef (hsel:∀(j:Nat)(o:Oper) cs b,ops[j]? = some o→o.op≠.select cs b)(hS:Kj md ops bs)
  (hlex:∀j oj,ops[j]? = some oj→∀e∈oj.after,Region.binds md e=true→e.on<j) :
  ∀(n:Nat) (l:List Nat) (listed:Array Bool) (a:Act) (w:World),l.length=n→l.Pairwise (CR md ops kd bs)→l.Nodup→listed.size=ops.size →
   (∀i,i∈l↔listed.getD i true=false)→IJ bs listed→II kd l→JQ kd w0 w l→LI P ops kd w0 Q l a w→wpAny P md ops (NQ Q) n listed a w
 |0,l,listed,a,w,hn,_,_,_,hm,_,_,_,h=>by
  have hl:l=[]:=List.eq_nil_of_length_eq_zero hn
  subst hl
  refine⟨?_,h⟩
  cases hr:Region.ready md ops listed with
  |nil=>rfl
  |cons x xs =>
   have:=(mem_ready.1 (by rw[hr];exact z0 ..:x∈Region.ready md ops listed)).1
   exact absurd ((hm x).2 this) (by simp)
 |n+1,l,listed,a,w,hn,hs,hd,hz,hm,hc,h14,hi1,h=>by
  refine⟨fun h0=>?_,fun i hi=>?_⟩
  ·exfalso
   match l,hn with
   |i::l,hn =>
    have hready:=GU (md:=md) hz hm hlex fun y hy ox hox=>((List.pairwise_cons.1 hs).1 y hy).2 ox hox
    rw[h0]at hready
    cases hready
  ·obtain⟨hun,oi,hoi,hall⟩:=mem_ready.1 hi
   obtain⟨l1,l2,rfl⟩:=List.append_of_mem ((hm i).2 hun)
   have hbits:=DW hS hc hoi hall
   have hpi:∀x∈l1,CR md ops kd bs x i:=fun x hx=>(List.pairwise_append.1 hs).2.2 x hx i (z0 ..)
   have hfree:=D4 (kd:=kd) (l1:=l1) hoi (fun x hx=>(hpi x hx).1) (fun x hx=>(hm x).1 (z8 _ hx)) hbits
   have hsz:=CB hun
   have hsub0:(l1++l2).Sublist (l1++i::l2):=List.Sublist.append_left (List.sublist_cons_self _ _) _
   have hnd:i∉l1++l2:=by
    have h1:=List.nodup_append.1 hd
    intro hmem
    rcases zi.1 hmem with hh|hh
    ·exact h1.2.2 i hh i (z0 ..) rfl
    ·exact (List.nodup_cons.1 h1.2.1).1 hh
   have hn':(l1++l2).length=n:=by simp at hn ⊢;omega
   have rec_:∀a' w',JQ kd w0 w' (l1++l2)→LI P ops kd w0 Q (l1++l2) a' w'→wpAny P md ops (NQ Q) n (listed.setIfInBounds i true) a' w':=fun a' w' hi' hL =>
    Ef hsel hS hlex n (l1++l2) _ a' w' hn' (hs.sublist hsub0) (hd.sublist hsub0) (by simpa using hz) (EE hm hnd hsz) (E8 hc hbits) (II.erase h14) hi' hL
   have hsub:JQ kd w0 w (l1++l2):=fun⟨j,hj,hk⟩=>hi1 ⟨j,hsub0.subset hj,hk⟩
   by_cases hk:kd i≤2
   ·obtain⟨v,hv,hL⟩:=Ho hsel hoi hk l1 l2 a w hfree (fun h1=>hi1 ⟨i,by simp,h1⟩) h
    unfold wpOp
    rw[hoi]
    rcases hv with⟨hw,hy⟩|⟨hw,rfl⟩
    ·simp only[hw,if_true]
     exact .inl<|HC (hy w (Cl.self fun h1=>hi1 ⟨i,by simp,h1⟩))<|rec_ _ _ hsub hL
    ·simp only[hw,Bool.false_eq_true,if_false]
     exact rec_ _ _ hsub hL
   ·obtain⟨g1,g2⟩:=Ix hsel hoi zO l1 l2 a w hfree h
    unfold wpOp
    rw[hoi]
    by_cases hw:Region.wanted oi (yielded ops a.tmps)=true
    ·simp only[hw,if_true]
     refine .inl<|Oper.wp_mono (fun a' w' hK=>rec_ a' w' ?_ hK.2)<|GT<|g1 hw
     rintro⟨j,hj,hkj⟩
     by_cases h3:kd i=3
     ·exact (hsub ⟨j,hj,hkj⟩).trans<|hK.1 h3
     ·exfalso
      rcases zi.1 hj with hh|hh
      ·obtain⟨oj,hoj⟩:∃oj,ops[j]? = some oj:=by
        have:=CB ((hm j).1 (z8 _ hh))
        exact⟨ops[j]'(by omega),by simp[show j<ops.size by omega]⟩
       have:=(dW (hfree j hh oj hoj).2 zO).2 zO
       omega
      ·exact h14 l1 i l2 rfl zO j hh hkj
    ·simp only[hw,Bool.false_eq_true,if_false]
     exact rec_ _ _ hsub<|g2 (by simpa using hw)
def UG (i j:Nat)(l1 l2:List Nat):Prop:=∃A M C,l1=A++i::(M++j::C)∧l2=A++(M++j::i::C)
theorem UG.split {i j x:Nat}{l1 l2:List Nat}(h:UG i j l1 l2)(hx:x∈l1)(hi:x≠i)(hj:x≠j):∃P1 S1 P2 S2,l1=P1++x::S1∧l2=P2++x::S2∧UG i j (P1++S1) (P2++S2):=by
 obtain⟨A,M,C,rfl,rfl⟩:=h
 simp only[zi,ze]at hx
 rcases hx with hx|hx|hx|hx|hx
 ·obtain⟨A1,A2,rfl⟩:=List.append_of_mem hx
  exact⟨A1,A2++i::(M++j::C),A1,A2++(M++j::i::C),by simp,by simp,A1++A2,M,C,by simp,by simp⟩
 ·exact absurd hx hi
 ·obtain⟨M1,M2,rfl⟩:=List.append_of_mem hx
  exact⟨A++i::M1,M2++j::C,A++M1,M2++j::i::C,by simp,by simp,A,M1++M2,C,by simp,by simp⟩
 ·exact absurd hx hj
 ·obtain⟨C1,C2,rfl⟩:=List.append_of_mem hx
  exact⟨A++i::(M++j::C1),C2,A++(M++j::i::C1),C2,by simp,by simp,A,M,C1++C2,by simp,by simp⟩
theorem UG.mem {i j x:Nat}{l1 l2:List Nat}(h:UG i j l1 l2):x∈l2↔x∈l1:=by
 obtain⟨A,M,C,rfl,rfl⟩:=h
 simp only[zi,ze]
 constructor
 ·rintro(h|h|h|h|h)
  ·exact .inl h
  ·exact .inr<|.inr<|.inl h
  ·exact .inr<|.inr<|.inr<|.inl h
  ·exact .inr<|.inl h
  ·exact .inr<|.inr<|.inr<|.inr h
 ·rintro(h|h|h|h|h)
  ·exact .inl h
  ·exact .inr<|.inr<|.inr<|.inl h
  ·exact .inr<|.inl h
  ·exact .inr<|.inr<|.inl h
  ·exact .inr<|.inr<|.inr<|.inr h
theorem UG.nodup {i j:Nat}{l1 l2:List Nat}(h:UG i j l1 l2)(hd:l1.Nodup):l2.Nodup:=by
 obtain⟨A,M,C,rfl,rfl⟩:=h
 refine (List.Perm.nodup_iff<|List.Perm.append_left A ?_).1 hd
 have h1:List.Perm (i::(M++j::C)) (M++i::j::C):=List.perm_middle.symm
 exact h1.trans<|List.Perm.append_left M (List.Perm.swap ..)
theorem Ft {i:Nat}{l1 l2:List Nat}(hd:(l1++i::l2).Nodup):i∉l1++l2:=by
 have h1:=List.nodup_append.1 hd
 intro hmem
 rcases zi.1 hmem with hh|hh
 ·exact h1.2.2 i hh i (z0 ..) rfl
 ·exact (List.nodup_cons.1 h1.2.1).1 hh
theorem L4 (hsel:∀(j:Nat)(o:Oper) cs b,ops[j]? = some o→o.op≠.select cs b)(hS:Kj md ops bs)
  (hlex:∀j oj,ops[j]? = some oj→∀e∈oj.after,Region.binds md e=true→e.on<j) {i j:Nat} (hij:i<j) (hki:kd i=3) (hkj:kd j=3) :
  ∀(n:Nat) (l1 l2:List Nat) (listed:Array Bool) (a:Act) (w:World),UG i j l1 l2→l1.length=n→l1.Pairwise (fun x y=>(x=i∧y=j)∨CR md ops kd bs x y)→l2.Pairwise (fun x y=>(x=j∧y=i)∨CR md ops kd bs x y)→l1.Nodup→listed.size=ops.size →
   (∀x,x∈l1↔listed.getD x true=false)→IJ bs listed→(∀x∈l1,3≤kd x→x=i∨x=j∨(bs x).testBit i=true)→II kd l1→II kd l2→JQ kd w0 w l1→LI P ops kd w0 Q l1 a w→LI P ops kd w0 Q l2 a w→wpAny P md ops (NQ Q) n listed a w
 |0,l1,l2,listed,a,w,hT,hn,_,_,_,_,_,_,_,_,_,_,_,_=>by
  obtain⟨A,M,C,rfl,_⟩:=hT
  simp at hn
 |n+1,l1,l2,listed,a,w,hT,hn,hs1,hs2,hd,hz,hm,hc,hwt,h14,h14',hi1,h1,h2=>by
  refine⟨fun h0=>?_,fun x hx=>?_⟩
  ·exfalso
   match l1,hn with
   |y::l,hn =>
    have hready:=GU (md:=md) hz hm hlex (fun z hz' ox hox e he hb=>by
     rcases(List.pairwise_cons.1 hs1).1 z hz' with⟨rfl,rfl⟩|hh
     ·have:=hlex y ox hox e he hb;omega
     ·exact hh.2 ox hox e he hb)
    rw[h0]at hready
    cases hready
  ·obtain⟨hun,ox,hox,hall⟩:=mem_ready.1 hx
   have hxm:=(hm x).2 hun
   have hbits:=DW hS hc hox hall
   have hsz:=CB hun
   have hd2:=hT.nodup hd
   have hm2:∀y,y∈l2↔listed.getD y true=false:=fun y=>hT.mem.trans (hm y)
   unfold wpOp
   rw[hox]
   by_cases hxi:x=i
   ·subst hxi
    obtain⟨A,M,C,rfl,_⟩:=hT
    have hnd:=Ft hd
    have hp:∀y∈A,CR md ops kd bs y x:=fun y hy=>by
     rcases(List.pairwise_append.1 hs1).2.2 y hy x (z0 ..)with⟨rfl,_⟩|hh
     ·exact absurd (z8 _ hy) hnd
     ·exact hh
    have hfree:=D4 (kd:=kd) (l1:=A) hox (fun y hy=>(hp y hy).1) (fun y hy=>(hm y).1 (z8 _ hy)) hbits
    have hsub0:(A++(M++j::C)).Sublist (A++x::(M++j::C)):=List.Sublist.append_left (List.sublist_cons_self _ _) _
    have hpw:(A++(M++j::C)).Pairwise (CR md ops kd bs):=(hs1.sublist hsub0).imp_of_mem fun {y z} hy hz' hh=>hh.elim (fun e=>absurd (e.1 ▸ hy) hnd) id
    have rec_:∀a' w',JQ kd w0 w' (A++(M++j::C))→LI P ops kd w0 Q (A++(M++j::C)) a' w'→wpAny P md ops (NQ Q) n (listed.setIfInBounds x true) a' w':=fun a' w' hi' hL =>
     Ef hsel hS hlex n _ _ a' w' (by simp at hn ⊢;omega) hpw (hd.sublist hsub0) (by simpa using hz) (EE hm hnd hsz) (E8 hc hbits) (II.erase h14) hi' hL
    have hsub:JQ kd w0 w (A++(M++j::C)):=fun⟨y,hy,hk⟩=>hi1 ⟨y,hsub0.subset hy,hk⟩
    obtain⟨g1,g2⟩:=Ix hsel hox zO A (M++j::C) a w hfree h1
    by_cases hw:Region.wanted ox (yielded ops a.tmps)=true
    ·simp only[hw,if_true]
     exact .inl<|Oper.wp_mono (fun a' w' hK=>rec_ a' w' (fun hh=>(hsub hh).trans<|hK.1 hki) hK.2)<|GT<|g1 hw
    ·simp only[hw,Bool.false_eq_true,if_false]
     exact rec_ _ _ hsub<|g2 (by simpa using hw)
   ·by_cases hxj:x=j
    ·subst hxj
     obtain⟨A,M,C,hl1,rfl⟩:=hT
     have el2:A++(M++x::i::C)=(A++M)++x::(i::C):=by simp
     rw[el2]at hs2 hd2 hm2 h14' h2
     have hnd:=Ft hd2
     have hp:∀y∈A++M,CR md ops kd bs y x:=fun y hy=>by
      rcases(List.pairwise_append.1 hs2).2.2 y hy x (z0 ..)with⟨rfl,_⟩|hh
      ·exact absurd (z8 _ hy) hnd
      ·exact hh
     have hfree:=D4 (kd:=kd) (l1:=A++M) hox (fun y hy=>(hp y hy).1) (fun y hy=>(hm2 y).1 (z8 _ hy)) hbits
     have hsub0:((A++M)++(i::C)).Sublist ((A++M)++x::(i::C)):=List.Sublist.append_left (List.sublist_cons_self _ _) _
     have hpw:((A++M)++(i::C)).Pairwise (CR md ops kd bs):=(hs2.sublist hsub0).imp_of_mem fun {y z} hy hz' hh=>hh.elim (fun e=>absurd (e.1 ▸ hy) hnd) id
     have rec_:∀a' w',JQ kd w0 w' ((A++M)++(i::C))→LI P ops kd w0 Q ((A++M)++(i::C)) a' w'→wpAny P md ops (NQ Q) n (listed.setIfInBounds x true) a' w':=fun a' w' hi' hL =>
      Ef hsel hS hlex n _ _ a' w' (by rw[hl1]at hn;simp at hn ⊢;omega) hpw (hd2.sublist hsub0) (by simpa using hz) (EE hm2 hnd hsz) (E8 hc hbits) (II.erase h14') hi' hL
     have hsub:JQ kd w0 w ((A++M)++(i::C)):=fun⟨y,hy,hk⟩=>hi1 ⟨y,(hm y).2 ((hm2 y).1 (hsub0.subset hy)),hk⟩
     obtain⟨g1,g2⟩:=Ix hsel hox zO (A++M) (i::C) a w hfree h2
     by_cases hw:Region.wanted ox (yielded ops a.tmps)=true
     ·simp only[hw,if_true]
      exact .inl<|Oper.wp_mono (fun a' w' hK=>rec_ a' w' (fun hh=>(hsub hh).trans<|hK.1 hkj) hK.2)<|GT<|g1 hw
     ·simp only[hw,Bool.false_eq_true,if_false]
      exact rec_ _ _ hsub<|g2 (by simpa using hw)
    ·have hk:kd x≤2:=by
      rcases Nat.lt_or_ge (kd x) 3 with hh|hh
      ·omega
      ·exfalso
       rcases hwt x hxm hh with hh|hh|hh
       ·exact hxi hh
       ·exact hxj hh
       ·have e1:=hbits i hh
        have e2:i∈l1:=by obtain⟨A,M,C,rfl,_⟩:=hT;simp
        have e3:=D6 ((hm i).1 e2)
        rw[e1]at e3;cases e3
     obtain⟨P1,S1,P2,S2,rfl,rfl,hT'⟩:=hT.split hxm hxi hxj
     have hnd1:=Ft hd
     have hnd2:=Ft hd2
     have hp1:∀y∈P1,CR md ops kd bs y x:=fun y hy=>by
      rcases(List.pairwise_append.1 hs1).2.2 y hy x (z0 ..)with⟨_,e⟩|hh
      ·exact absurd e hxj
      ·exact hh
     have hp2:∀y∈P2,CR md ops kd bs y x:=fun y hy=>by
      rcases(List.pairwise_append.1 hs2).2.2 y hy x (z0 ..)with⟨_,e⟩|hh
      ·exact absurd e hxi
      ·exact hh
     have hf1:=D4 (kd:=kd) (l1:=P1) hox (fun y hy=>(hp1 y hy).1) (fun y hy=>(hm y).1 (z8 _ hy)) hbits
     have hf2:=D4 (kd:=kd) (l1:=P2) hox (fun y hy=>(hp2 y hy).1) (fun y hy=>(hm2 y).1 (z8 _ hy)) hbits
     have hcl:kd x=1→AD w0 w:=fun h1=>hi1 ⟨x,by simp,h1⟩
     obtain⟨v,hv,hL1⟩:=Ho hsel hox hk P1 S1 a w hf1 hcl h1
     obtain⟨v',hv',hL2⟩:=Ho hsel hox hk P2 S2 a w hf2 hcl h2
     have hvv:v'=v:=Yv.unique hcl hv' hv
     subst hvv
     have hsb1:(P1++S1).Sublist (P1++x::S1):=List.Sublist.append_left (List.sublist_cons_self _ _) _
     have hsb2:(P2++S2).Sublist (P2++x::S2):=List.Sublist.append_left (List.sublist_cons_self _ _) _
     have hfin:=L4 hsel hS hlex hij hki hkj n (P1++S1) (P2++S2) (listed.setIfInBounds x true) (a.put ox.dst v') w hT' (by simp at hn ⊢;omega) (hs1.sublist hsb1) (hs2.sublist hsb2) (hd.sublist hsb1) (by simpa using hz)
      (EE hm hnd1 hsz) (E8 hc hbits) (fun y hy=>hwt y (hsb1.subset hy)) (II.erase h14) (II.erase h14') (fun⟨y,hy,hk⟩=>hi1 ⟨y,hsb1.subset hy,hk⟩) hL1 hL2
     rcases hv with⟨hw,hy⟩|⟨hw,rfl⟩
     ·simp only[hw,if_true]
      exact .inl<|HC (hy w<|Cl.self hcl) hfin
     ·simp only[hw,Bool.false_eq_true,if_false]
      exact hfin
theorem Gu (ks:List Nat):∀(os:List Oper)(k:Nat)(a:Act)(w:World),(∀j,os[j]? = ops[k+j]?) →
  LW P ops w0 Q os (ks.drop k) a w→LI P ops (fun i=>ks.getD i 0) w0 Q (List.range' k os.length) a w
 |[],_,_,_,_,h=>by simpa [LI,LW]using h
 |o::os,k,a,w,ho,h=>by
  have h0:ops[k]? = some o:=by simpa using (ho 0).symm
  have hr:∀a w,LW P ops w0 Q os (ks.drop (k+1)) a w→LI P ops (fun i=>ks.getD i 0) w0 Q (List.range' (k+1) os.length) a w:=fun a w hh =>
   Gu ks os (k+1) a w (fun j=>by have:=ho (j+1);simpa [Nat.add_assoc,Nat.add_comm 1 j]using this) hh
  have hlt:k<ks.length:=by
   rcases Nat.lt_or_ge k ks.length with hh|hh
   ·exact hh
   ·rw[List.drop_of_length_le hh]at h;exact h.elim
  have hd:ks.drop k=ks[k]::ks.drop (k+1):=List.drop_eq_getElem_cons hlt
  rw[hd]at h
  simp only[z9,List.range'_succ,LI,h0,LW]at h ⊢
  have hg:ks.getD k 0=ks[k]:=by simp[hlt]
  split
  ·rename_i hw
   rw[if_pos hw]at h
   rw[hg]
   exact h.mono hr
  ·rename_i hw
   rw[if_neg hw]at h
   exact hr _ _ h
def dX (ops:Array Oper)(ks:List Nat):Bool :=
  let b:=(Region.before ops).toList
  let os:=ops.toList
  Region.noSelect ops &&
  (os.zipIdx.all fun(o,j) =>
    (o.after.all fun e=>!Region.binds .any e || decide (e.on<j)) &&
    (let m:=o.after.foldl (fun s e=>if Region.binds .any e then s ||| 2 ^ e.on ||| b.getD e.on 0 else s) 0
     (b.getD j 0 == m)) &&
    (os.zipIdx.all fun(p,i)=>!(decide (i<j)) || (b.getD j 0).testBit i || (p.apart ops o && CV (ks.getD i 0) (ks.getD j 0)))) &&
  (os.zipIdx.all fun(_,i)=>!(decide (4≤ks.getD i 0)) || os.zipIdx.all fun(_,j)=>!(decide (i<j)) || ks.getD j 0 != 1)
theorem FE (f:Edge→Nat):∀(l:List Edge)(s:Nat)(i:Nat),(l.foldl (fun s e=>if Region.binds .any e then s ||| 2 ^ e.on ||| f e else s) s).testBit i=true →
  s.testBit i=true∨∃e∈l,Region.binds .any e=true∧(i=e.on∨(f e).testBit i=true)
 |[],s,i,h=>.inl h
 |e::l,s,i,h=>by
  rcases FE f l _ i h with h|⟨x,hx,hb⟩
  ·dsimp only at h
   split at h
   ·rename_i hb
    simp only[Nat.testBit_or,Bool.or_eq_true]at h
    rcases h with(h|h)|h
    ·exact .inl h
    ·refine .inr ⟨e,z0 ..,hb,.inl ?_⟩
     simp[Nat.testBit_two_pow]at h
     exact h.symm
    ·exact .inr ⟨e,z0 ..,hb,.inr h⟩
   ·exact .inl h
  ·exact .inr ⟨x,z3 _ hx,hb⟩
theorem GV {os:List Oper}{Q:Exit→Act→World→Prop}:∀(n:Nat)(listed:Array Bool)(a:Act)(w:World),wpAny P .any os.toArray (NQ fun a w=>Q .normal a w) n listed a w→wpAny P .any os.toArray Q n listed a w:=by
 intro n
 induction n with
 |zero=>exact fun listed a w h=>h
 |succ n ih =>
  intro listed a w h
  refine⟨h.1,fun i hi=>?_⟩
  have:=wpOp_mono (fun a w=>ih _ a w) (h.2 i hi)
  unfold wpOp at this ⊢
  split
  ·rename_i ho;rw[ho]at this;exact this
  ·rename_i o ho
   rw[ho]at this
   split
   ·rename_i hw
    simp only[hw,if_true]at this
    rcases this with this|⟨_,_,_,hf⟩
    ·left
     unfold Oper.wp at *
     generalize (execOp a.eval o).run P w=r at *
     cases r with
     |ok m w' =>
      cases m <;> simp only[Oper.upon]at this ⊢ <;> try exact this
      case enter f args =>
       refine Calls.mono this fun e w'' he=>?_
       cases e with
       |returned u=>exact he
       |panicked c=>exact he.elim
       |outgrown=>obtain⟨_,_,hf⟩:=he;exact hf.elim
     |halt x w'=>cases x <;> simp only[Oper.upon]at this ⊢;exact this.elim
    ·exact hf.elim
   ·rename_i hw
    simp only[hw]at this
    exact this
theorem Jh {md:Region.Mode}(hF:Ya ops kd bs)(hlex:∀j oj,ops[j]? = some oj→∀e∈oj.after,Region.binds md e=true→e.on<j){l:List Nat}(h:l.Pairwise (· < ·)):l.Pairwise (CR md ops kd bs) :=
 h.imp fun {x y} hxy=>⟨fun ox oy hox hoy=>hF x y ox oy hxy hox hoy,fun ox hox e he hb=>by have:=hlex x ox hox e he hb;omega⟩
theorem B7 {id:Nat}{Q:Exit→Act→World→Prop}{a:Act}{w:World}(os:List Oper)(ks:List Nat)(hm:P.follows .mixedOrders=true)(hB:dX os.toArray ks=true)
  (h:LW P os.toArray w.drew (fun a w=>Q .normal a w) os ks a w.drew):(Code.region id os.toArray true).wp P Q a w:=by
 refine wp_region_any hm ?_
 simp only[dX,z7]at hB
 obtain⟨⟨hsel,hpl⟩,h14⟩:=hB
 have hz:∀ {j:Nat} {o:Oper},os.toArray[j]? = some o→(o,j)∈os.toArray.toList.zipIdx:=by
  intro j o ho
  rw[List.mem_zipIdx_iff_getElem?]
  simpa using ho
 have hall:∀j oj,os.toArray[j]? = some oj→_:=fun j oj hj=>zm.1 hpl _ (hz hj)
 have hF:Ya os.toArray (fun i=>ks.getD i 0) (fun j=>(Region.before os.toArray).toList.getD j 0):=by
  intro i j oi oj hij hi hj
  have h3:=(z7 _ _ ▸ hall j oj hj:_∧_).2
  have h4:=zm.1 h3 _<|hz hi
  simp only[Bool.or_eq_true,Bool.not_eq_true',decide_eq_false_iff_not,z7]at h4
  rcases h4 with(h4|h4)|h4
  ·exact absurd hij h4
  ·exact .inl h4
  ·exact .inr h4
 have hlex:∀j oj,os.toArray[j]? = some oj→∀e∈oj.after,Region.binds .any e=true→e.on<j:=by
  intro j oj hj e he hb
  have h1:=(z7 _ _ ▸ (z7 _ _ ▸ hall j oj hj:_∧_).1:_∧_).1
  have h2:=(Array.all_eq_true_iff_forall_mem.1 h1) e he
  simpa [hb]using h2
 have key:=Ef (P:=P) (ops:=os.toArray) (md:=.any) (kd:=fun i=>ks.getD i 0) (bs:=fun j=>(Region.before os.toArray).toList.getD j 0) (w0:=w.drew) (Q:=fun a w=>Q .normal a w)
  (Region.noSelect_spec hsel) ?_ ?_ os.length (List.range' 0 os.length) (Array.replicate os.length false) a w.drew (by simp) ?_ List.nodup_range' (by simp) ?_ ?_ ?_ (fun _=>AD.refl _) ?_
 ·have:=GV _ _ _ _ key
  simpa using this
 ·intro j oj hj i hb
  have h3:=(z7 _ _ ▸ (z7 _ _ ▸ hall j oj hj:_∧_).1:_∧_).2
  have h5:(Region.before os.toArray).toList.getD j 0=oj.after.foldl (fun s e=>if Region.binds .any e then s ||| 2 ^ e.on ||| (Region.before os.toArray).toList.getD e.on 0 else s) 0:=by simpa using h3
  dsimp only at hb
  rw[h5,← Array.foldl_toList]at hb
  rcases FE _ _ _ _ hb with hb|⟨e,he,hbb,hh⟩
  ·simp at hb
  ·exact⟨e,Array.mem_toList_iff.1 he,hbb,hh⟩
 ·exact hlex
 ·exact Jh hF hlex List.pairwise_lt_range'
 ·intro i
  simp only[List.mem_range',Nat.zero_add,Nat.one_mul]
  constructor
  ·rintro⟨x,hx,rfl⟩;simp[hx]
  ·intro hh
   rcases Nat.lt_or_ge i os.length with h'|h'
   ·exact⟨i,h',rfl⟩
   ·simp[Array.getElem?_eq_none (show(Array.replicate os.length false).size≤i by simpa using h')]at hh
 ·intro i hi
  rcases Nat.lt_or_ge i os.length with h'|h'
  ·simp[h']at hi
  ·simp[Array.getElem?_eq_none (show(Array.replicate os.length false).size≤i by simpa using h')]at hi
 ·intro l1 i l2 hl hk j hj
  have hs:(l1++i::l2).Pairwise (· < ·):=hl ▸ List.pairwise_lt_range'
  have hij:i<j:=List.rel_of_pairwise_cons (List.pairwise_append.1 hs).2.1 hj
  have mem:∀x∈l1++i::l2,x<os.length:=by
   intro x hx
   rw[← hl]at hx
   simp only[List.mem_range',Nat.zero_add,Nat.one_mul]at hx
   obtain⟨y,hy,rfl⟩:=hx
   exact hy
  have hi:=mem i (by simp)
  have hj':=mem j (by simp[hj])
  have h1:=zm.1 h14 _<|hz (j:=i) (o:=os[i]) (by simp[hi])
  simp only[Bool.or_eq_true,Bool.not_eq_true',decide_eq_false_iff_not]at h1
  rcases h1 with h1|h1
  ·exact absurd hk h1
  ·have h2:=zm.1 h1 _<|hz (j:=j) (o:=os[j]) (by simp[hj'])
   simp only[Bool.or_eq_true,Bool.not_eq_true',decide_eq_false_iff_not]at h2
   rcases h2 with h2|h2
   ·exact absurd hij h2
   ·simpa using h2
 ·exact Gu ks os 0 a w.drew (by simp) (by simpa using h)
def Mt (ops:Array Oper)(kd:Nat→Nat):List Nat→List Oper→List Nat→Prop
 |[],[],_=>True
 |x::l,o::os,k::ks=>ops[x]? = some o∧kd x=k∧Mt ops kd l os ks
 |_,_,_=>False
theorem DK:∀(l:List Nat)(os:List Oper)(ks:List Nat)(a:Act)(w:World),Mt ops kd l os ks→LW P ops w0 Q os ks a w→LI P ops kd w0 Q l a w
 |[],[],_,_,_,_,h=>by simpa [LI,LW]using h
 |x::l,o::os,k::ks,a,w,⟨h0,hk,hM⟩,h=>by
  have hr:∀a w,LW P ops w0 Q os ks a w→LI P ops kd w0 Q l a w:=fun a w hh=>DK l os ks a w hM hh
  simp only[LI,h0,LW]at h ⊢
  split
  ·rename_i hw
   rw[if_pos hw]at h
   rw[hk]
   exact h.mono hr
  ·rename_i hw
   rw[if_neg hw]at h
   exact hr _ _ h
 |[],_::_,_,_,_,h,_=>h.elim
 |_::_,[],_,_,_,h,_=>h.elim
 |_::_,_::_,[],_,_,h,_=>h.elim
def Gv (ops:Array Oper)(ks b:List Nat)(x y:Nat):Bool :=
 match ops[x]?,ops[y]? with
 |some ox,some oy=>((b.getD y 0).testBit x || (ox.apart ops oy && CV (ks.getD x 0) (ks.getD y 0))) && ox.after.all fun e=>!Region.binds .any e || e.on != y
 |_,_=>false
def Oc (f:Nat→Nat→Bool):List Nat→Bool
 |[]=>true
 |x::l=>l.all (f x) && Oc f l
theorem FF {f:Nat→Nat→Bool}{R:Nat→Nat→Prop}(hR:∀x y,f x y=true→R x y):∀ {l:List Nat},Oc f l=true→l.Pairwise R
 |[],_=>List.Pairwise.nil
 |x::l,h=>by
  simp only[Oc,z7,zm]at h
  exact List.pairwise_cons.2 ⟨fun y hy=>hR x y<|h.1 y hy,FF hR h.2⟩
theorem E9 {ks b:List Nat}{x y:Nat}(h:Gv ops ks b x y=true):CR .any ops (fun i=>ks.getD i 0) (fun j=>b.getD j 0) x y:=by
 unfold Gv at h
 split at h
 ·rename_i ox oy hx hy
  simp only[z7,Bool.or_eq_true]at h
  refine⟨fun ox' oy' hx' hy'=>?_,fun ox' hx' e he hb=>?_⟩
  ·rw[hx]at hx';rw[hy]at hy';cases hx';cases hy'
   exact h.1
  ·rw[hx]at hx';cases hx'
   have:=(Array.all_eq_true_iff_forall_mem.1 h.2) e he
   simpa [hb]using this
 ·cases h
theorem Qj {ks:List Nat}{l:List Nat}(h:Oc (fun x y=>!(decide (4≤ks.getD x 0)) || ks.getD y 0 != 1) l=true):II (fun i=>ks.getD i 0) l:=by
 have hp:=FF (R:=fun x y=>4≤ks.getD x 0→ks.getD y 0≠1) (fun x y hxy h4=>by
  rcases Bool.or_eq_true_iff.1 hxy with hh|hh
  ·simp only[Bool.not_eq_true',decide_eq_false_iff_not]at hh;exact absurd h4 hh
  ·simpa using hh) h
 intro l1 i l2 hl hk j hj
 subst hl
 exact List.rel_of_pairwise_cons (List.pairwise_append.1 hp).2.1 hj hk
def UH (i j n:Nat):List Nat:=List.range' 0 i++(List.range' (i+1) (j-i-1)++j::i::List.range' (j+1) (n-j-1))
theorem RJ {i j n:Nat}(hij:i<j)(hj:j<n):UG i j (List.range' 0 n) (UH i j n):=by
 refine⟨List.range' 0 i,List.range' (i+1) (j-i-1),List.range' (j+1) (n-j-1),?_,rfl⟩
 have e1:List.range' 0 n=List.range' 0 i++List.range' i (n-i):=by
  have:=List.range'_append_1 (s:=0) (m:=i) (n:=n-i)
  rw[Nat.zero_add]at this
  rw[this];congr 1;omega
 have e2:List.range' i (n-i)=i::List.range' (i+1) (n-i-1):=by
  rw[show n-i=(n-i-1)+1 from by omega,List.range'_succ];rfl
 have e3:List.range' (i+1) (n-i-1)=List.range' (i+1) (j-i-1)++List.range' j (n-j):=by
  have:=List.range'_append_1 (s:=i+1) (m:=j-i-1) (n:=n-j)
  rw[show i+1+(j-i-1)=j from by omega]at this
  rw[this];congr 1;omega
 have e4:List.range' j (n-j)=j::List.range' (j+1) (n-j-1):=by
  rw[show n-j=(n-j-1)+1 from by omega,List.range'_succ];rfl
 rw[e1,e2,e3,e4]
def ZP (os:List Oper)(ks:List Nat)(i j:Nat):Bool :=
  let ops:=os.toArray
  let b:=(Region.before ops).toList
  let l1:=List.range' 0 os.length
  let l2:=UH i j os.length
  Region.noSelect ops &&
  (os.zipIdx.all fun(o,j) =>
    (o.after.all fun e=>!Region.binds .any e || decide (e.on<j)) &&
    (let m:=o.after.foldl (fun s e=>if Region.binds .any e then s ||| 2 ^ e.on ||| b.getD e.on 0 else s) 0
     (b.getD j 0 == m))) &&
  Oc (fun x y=>(decide (x=i) && decide (y=j)) || Gv ops ks b x y) l1 &&
  Oc (fun x y=>(decide (x=j) && decide (y=i)) || Gv ops ks b x y) l2 &&
  (l1.all fun x=>!(decide (3≤ks.getD x 0)) || (decide (x=i) || (decide (x=j) || (b.getD x 0).testBit i))) &&
  Oc (fun x y=>!(decide (4≤ks.getD x 0)) || ks.getD y 0 != 1) l1 &&
  Oc (fun x y=>!(decide (4≤ks.getD x 0)) || ks.getD y 0 != 1) l2 &&
  (decide (ks.getD i 0=3) && (decide (ks.getD j 0=3) && (decide (i<j) && decide (j<os.length))))
theorem Sf {id:Nat}{Q:Exit→Act→World→Prop}{a:Act}{w:World}(os:List Oper)(ks:List Nat)(i j:Nat)(l2:List Nat)(os2:List Oper)(ks2:List Nat)(hm:P.follows .mixedOrders=true)(hB:ZP os ks i j=true)(hl:UH i j os.length=l2)(hM:Mt os.toArray (fun i=>ks.getD i 0) l2 os2 ks2)
  (h:LW P os.toArray w.drew (fun a w=>Q .normal a w) os ks a w.drew) (h2:LW P os.toArray w.drew (fun a w=>Q .normal a w) os2 ks2 a w.drew):(Code.region id os.toArray true).wp P Q a w:=by
 refine wp_region_any hm ?_
 subst hl
 simp only[ZP,z7,decide_eq_true_eq]at hB
 obtain⟨⟨⟨⟨⟨⟨⟨hsel,hpl⟩,hp1⟩,hp2⟩,hwt⟩,h141⟩,h142⟩,hki,hkj,hij,hj⟩:=hB
 have hz:∀ {j:Nat} {o:Oper},os.toArray[j]? = some o→(o,j)∈os.zipIdx:=by
  intro j o ho
  rw[List.mem_zipIdx_iff_getElem?]
  simpa using ho
 have hall:∀j oj,os.toArray[j]? = some oj→_:=fun j oj hj=>zm.1 hpl _ (hz hj)
 have hlex:∀j oj,os.toArray[j]? = some oj→∀e∈oj.after,Region.binds .any e=true→e.on<j:=by
  intro j oj hj e he hb
  have h1:=(z7 _ _ ▸ hall j oj hj:_∧_).1
  have h2:=(Array.all_eq_true_iff_forall_mem.1 h1) e he
  simpa [hb]using h2
 have hS:Kj .any os.toArray (fun j=>(Region.before os.toArray).toList.getD j 0):=by
  intro j oj hj i hb
  have h3:=(z7 _ _ ▸ hall j oj hj:_∧_).2
  have h5:(Region.before os.toArray).toList.getD j 0=oj.after.foldl (fun s e=>if Region.binds .any e then s ||| 2 ^ e.on ||| (Region.before os.toArray).toList.getD e.on 0 else s) 0:=by simpa using h3
  dsimp only at hb
  rw[h5,← Array.foldl_toList]at hb
  rcases FE _ _ _ _ hb with hb|⟨e,he,hbb,hh⟩
  ·simp at hb
  ·exact⟨e,Array.mem_toList_iff.1 he,hbb,hh⟩
 have key:=L4 (P:=P) (ops:=os.toArray) (md:=.any) (kd:=fun i=>ks.getD i 0) (bs:=fun j=>(Region.before os.toArray).toList.getD j 0) (w0:=w.drew) (Q:=fun a w=>Q .normal a w)
  (Region.noSelect_spec hsel) hS hlex hij hki hkj os.length (List.range' 0 os.length) (UH i j os.length) (Array.replicate os.length false) a w.drew (RJ hij hj) (by simp)
  (FF (fun x y hh=>by
   rcases Bool.or_eq_true_iff.1 hh with hh|hh
   ·simp only[z7,decide_eq_true_eq]at hh;exact .inl hh
   ·exact .inr (E9 hh)) hp1)
  (FF (fun x y hh=>by
   rcases Bool.or_eq_true_iff.1 hh with hh|hh
   ·simp only[z7,decide_eq_true_eq]at hh;exact .inl hh
   ·exact .inr (E9 hh)) hp2)
  List.nodup_range' (by simp) ?_ ?_ ?_ (Qj h141) (Qj h142) (fun _=>AD.refl _) (Gu ks os 0 a w.drew (by simp) (by simpa using h)) (DK _ _ _ _ _ hM h2)
 ·have:=GV _ _ _ _ key
  simpa using this
 ·intro i
  simp only[List.mem_range',Nat.zero_add,Nat.one_mul]
  constructor
  ·rintro⟨x,hx,rfl⟩;simp[hx]
  ·intro hh
   rcases Nat.lt_or_ge i os.length with h'|h'
   ·exact⟨i,h',rfl⟩
   ·simp[Array.getElem?_eq_none (show(Array.replicate os.length false).size≤i by simpa using h')]at hh
 ·intro i hi
  rcases Nat.lt_or_ge i os.length with h'|h'
  ·simp[h']at hi
  ·simp[Array.getElem?_eq_none (show(Array.replicate os.length false).size≤i by simpa using h')]at hi
 ·intro x hx h3
  have:=zm.1 hwt x hx
  simp only[Bool.or_eq_true,Bool.not_eq_true',decide_eq_false_iff_not,decide_eq_true_eq]at this
  rcases this with hh|hh|hh|hh
  ·exact absurd h3 hh
  ·exact .inl hh
  ·exact .inr<|.inl hh
  ·exact .inr<|.inr hh
theorem Gw:∀(rest:List Oper)(ks:List Nat)(a:Act)(w:World)(Q:Exit→Act→World→Prop),(∀k∈ks,k≠1)→LW P ops w0 (fun a w=>Q .normal a w) rest ks a w→wpList P ops Q rest a w
 |[],_,_,_,_,_,h=>h
 |_::_,[],_,_,_,_,h=>h.elim
 |o::os,k::ks,a,w,Q,hk,h=>by
  have hk':∀x∈ks,x≠1:=fun x hx=>hk x (z3 _ hx)
  have hk1:=hk k (z0 ..)
  refine wpList_step fun K hK=>?_
  simp only[LW]at h
  split
  ·rename_i hw
   rw[if_pos hw]at h
   unfold BT at h
   split at h
   ·obtain⟨v,h1,h2⟩:=h
    exact HC (h1 w (Cl.self fun hh=>absurd hh hk1))<|hK _ _<|Gw os ks _ _ Q hk' h2
   ·split at h
    ·exact Oper.wp_mono (fun a w hh=>hK _ _<|Gw os ks _ _ Q hk' hh.2)<|GT h
    ·exact Oper.wp_mono (fun a w hh=>hK _ _<|Gw os ks _ _ Q hk' hh)<|GT h
  ·rename_i hw
   rw[if_neg hw]at h
   exact hK _ _<|Gw os ks _ _ Q hk' h
theorem Ad {id:Nat}{Q:Exit→Act→World→Prop}{a:Act}{w:World}(os:List Oper)(ks:List Nat)(hk:ks.all (· != 1)=true)
  (h:LW P os.toArray w (fun a w=>Q .normal a w) os ks a w):(Code.region id os.toArray false).wp P Q a w :=
 wp_region_lit (Gw os ks a w Q (fun k hh=>by simpa using zm.1 hk k hh) h)
end
end
section
def CI (ρ:Nat→Value)(d:Nat)(v:Value):Nat→Value:=fun i=>cond (Nat.beq i d) v (ρ i)
def dY (l:List Value):Nat→Value:=fun i=>l.getD i undef
def mk (N:Nat) (ρ:Nat→Value):Act:=⟨((List.range N).map ρ).toArray,[]⟩
def Br (N:Nat) (ρ:Nat→Value):Operand→Value
 |.tmp t=>cond (Nat.blt t N) (ρ t) undef
 |.const v=>v
 |.global g=>.pointer (some ⟨g,0,none⟩)
 |.func f=>.func (.func f) #[] #[]
theorem Oh (ρ:Nat→Value)(d:Nat)(v:Value):CI ρ d v d=v:=by simp[CI]
theorem Sg (ρ:Nat→Value){d i:Nat}(v:Value)(h:i≠d):CI ρ d v i=ρ i:=by
 have:Nat.beq i d=false:=by
  cases hb:Nat.beq i d with
  |false=>rfl
  |true=>exact absurd (Nat.eq_of_beq_eq_true hb) h
 simp[CI,this]
theorem D7 (N:Nat) (ρ:Nat→Value):(mk N ρ).eval=Br N ρ:=by
 funext x
 cases x with
 |tmp t =>
  simp only[Act.eval,Br,mk]
  by_cases h:t<N
  ·have:Nat.blt t N=true:=by simpa using h
   simp[h,this]
  ·have:Nat.blt t N=false:=by
    cases hb:Nat.blt t N with
    |false=>rfl
    |true=>exact absurd (by simpa using hb) h
   simp[this,Nat.not_lt.1 h]
 |_=>rfl
theorem Fi (N:Nat) (ρ:Nat→Value)(d:Nat)(v:Value):(mk N ρ).put (some d) v=mk N (CI ρ d v):=by
 simp only[Act.put,mk,Act.mk.injEq,and_true]
 apply Array.ext
 ·simp
 ·intro i h1 h2
  simp at h1
  by_cases hi:i=d
  ·subst hi;simp[Oh]
  ·simp[Ne.symm hi,Sg _ _ hi]
theorem Aw {P:Program}{f:FuncId}{fn:Func}{c:Code}{w:World}{R:Ending→World→Prop}(args:List Value)(N:Nat)
  (hf:P.funcs[f]? = some fn) (hb:fn.body=some c) (hN:fn.ntmps=N) (hl:args.length≤N)
  (h:c.wp P (bodyPost P fn R) (mk N (dY args)) w):Calls P f args.toArray w R:=by
 refine calls_of_wp hf hb ?_
 have:(mk N (dY args)) = { tmps:=args.toArray++Array.replicate (fn.ntmps-args.toArray.size) undef,defers:=[] }:=by
  simp only[mk,Act.mk.injEq,and_true]
  apply Array.ext
  ·simp;omega
  ·intro i h1 h2
   simp at h1
   by_cases hi:i<args.length
   ·simp[dY,hi]
   ·simp[dY,hi,Array.getElem_append]
 rw[← this];exact h
def Yb (N:Nat) (ρ:Nat→Value):List Nat→Value
 |[t]=>Br N ρ (.tmp t)
 |ts=>.tuple (ts.map fun t=>Br N ρ (.tmp t)).toArray
theorem KF (N:Nat) (ρ:Nat→Value)(t:Nat):(mk N ρ).tmps.getD t undef=Br N ρ (.tmp t):=by
 rw[← D7];rfl
theorem Kk {P:Program}{fn:Func}{N:Nat} {ρ:Nat→Value}{w:World}(ts:List Nat)(hr:fn.results=(ts.map ResultVar.tmp).toArray) :
  (results fn (mk N ρ).tmps).run P w=.ok (Yb N ρ ts) w:=by
 have key:∀(l:List Nat),(((l.map ResultVar.tmp).mapM (m:=Sem) fun
  |.tmp t=>pure ((mk N ρ).tmps.getD t undef)
  |.cell a t=>do loadVar t (← asAddr ((mk N ρ).tmps.getD a undef)))).run P w=.ok (l.map fun t=>Br N ρ (.tmp t)) w:=by
  intro l
  induction l with
  |nil=>rfl
  |cons t l ih =>
   simp only[zf,List.mapM_cons,Sem.run_bind,Sem.run_pure,Result.andThen_ok,KF]at ih ⊢
   rw[ih]
   rfl
 unfold results
 rw[hr]
 simp only[List.mapM_toArray,Sem.run_bind,Sem.run_map]
 refine (congrArg (fun r=>(Result.andThen (Result.andThen r fun a w'=>Result.ok a.toArray w') fun a w'=>Result.ok (if h:a.size=1 then a[0]else Value.tuple a) w'))<|key ts).trans ?_
 simp only[Result.andThen_ok]
 match ts with
 |[]=>rfl
 |[t]=>rfl
 |_::_::_=>rfl
theorem Al {P:Program}{fn:Func}{N:Nat} {ρ:Nat→Value}{w:World}{R:Ending→World→Prop}(ts:List Nat)(hr:fn.results=(ts.map ResultVar.tmp).toArray)(v:Value)(hv:Yb N ρ ts=v)
  (h:R (.returned v) w):bodyPost P fn R .ret (mk N ρ) w:=⟨rfl,v,by rw[← hv];exact Kk ts hr,h⟩
theorem Sh {P:Program}{fn:Func}{N:Nat} {ρ:Nat→Value}{w:World}{R:Ending→World→Prop}(ts:List Nat)(hr:fn.results=(ts.map ResultVar.tmp).toArray)(v:Value)(hv:Yb N ρ ts=v)
  (h:R (.returned v) w):bodyPost P fn R .normal (mk N ρ) w:=⟨rfl,v,by rw[← hv];exact Kk ts hr,h⟩
section code
variable {P:Program} {N:Nat} {ρ:Nat→Value} {Q:Exit→Act→World→Prop} {w:World}
theorem Ah {c:Operand}{x y:Code}(hc:Br N ρ c=.bool true)(h:x.wp P Q (mk N ρ) w):(Code.cond c x y).wp P Q (mk N ρ) w :=
 wp_cond_true (by rw[D7];exact hc) h
theorem Ak {c:Operand}{x y:Code}(hc:Br N ρ c=.bool false)(h:y.wp P Q (mk N ρ) w):(Code.cond c x y).wp P Q (mk N ρ) w :=
 wp_cond_false (by rw[D7];exact hc) h
theorem Ax {id:Nat}{a:Act}(h:Q .normal a w):Exit.inBlock id Q (.exit id) a w:=by
 simpa [Exit.inBlock]using h
theorem AA {id:Nat}{a:Act}{K:Act→World→Prop}(h:Q (.exit id) a w):Exit.then K Q (.exit id) a w:=h
theorem At {a:Act}{K:Act→World→Prop}(h:Q .ret a w):Exit.then K Q .ret a w:=h
theorem AM {id:Nat}{a:Act}(h:Q .ret a w):Exit.inBlock id Q .ret a w:=h
def Si:List (Nat×Value)→(Nat→Value)→Nat→Value
 |[],ρ=>ρ
 |(i,v)::l,ρ=>CI (Si l ρ) i v
def JS (ρ:Nat→Value):List (Nat×Value)→Prop
 |[]=>True
 |(i,v)::l=>ρ i=v∧JS ρ l
theorem FG {ρ:Nat→Value}:∀ {l:List (Nat×Value)},JS ρ l→Si l ρ=ρ
 |[],_=>rfl
 |(i,v)::l,h=>by
  simp only[Si,FG h.2]
  funext j
  by_cases hj:j=i
  ·subst hj;rw[Oh];exact h.1.symm
  ·rw[Sg _ _ hj]
theorem B8 {S:Type}(fr:S→List (Nat×Value))(I:S→World→Prop)(m:S→Nat)(s0:S){body:Code}(hfr:JS ρ (fr s0))(h0:I s0 w)
  (round:∀s ρ w,I s w→body.wp P (Exit.then (fun a' w'=>∃s' ρ',a'=mk N ρ'∧JS ρ' (fr s')∧I s' w'∧m s'<m s) Q) (mk N (Si (fr s) ρ)) w) :
  (Code.loop body).wp P Q (mk N ρ) w:=by
 intro b k cs
 have key:∀n s ρ w,m s=n→JS ρ (fr s)→I s w→∃e a' w',Q e a' w'∧Arrives P (lone (b.at (mk N ρ) (.code body :: .inLoop body::k)) cs w) b k cs e a' w':=by
  intro n
  induction n using Nat.strongRecOn with
  |_ n ih =>
   intro s ρ w hn hfr hI
   have hr:=round s ρ w hI
   rw[FG hfr]at hr
   obtain⟨e,a₁,w₁,hq,harr⟩:=hr b (.inLoop body::k) cs
   cases e with
   |normal =>
    obtain⟨s',ρ',rfl,hfr',hI',hlt⟩:=hq
    obtain⟨e₂,a₂,w₂,hq₂,harr₂⟩:=ih (m s') (hn ▸ hlt) s' ρ' w₁ rfl hfr' hI'
    exact⟨e₂,a₂,w₂,hq₂,.of_steps (Steps.trans harr (.one step_inLoop)) harr₂⟩
   |exit id=>exact⟨_,a₁,w₁,hq,.pass (x:=.inLoop body) rfl (fun _ _=>.inl (by simp)) harr⟩
   |goto l=>exact⟨_,a₁,w₁,hq,.pass (x:=.inLoop body) rfl (fun _ _=>.inl (by simp)) harr⟩
   |ret=>exact⟨_,a₁,w₁,hq,.pass (x:=.inLoop body) rfl (fun _ _=>.inl (by simp)) harr⟩
   |panic ch=>exact⟨_,a₁,w₁,hq,.pass (x:=.inLoop body) rfl (fun _ _=>.inl (by simp)) harr⟩
   |outgrown=>exact⟨_,a₁,w₁,hq,.pass (x:=.inLoop body) rfl (fun _ _=>.inl (by simp)) harr⟩
 obtain⟨e,a',w',hq,harr⟩:=key _ s0 ρ w rfl hfr h0
 exact⟨e,a',w',hq,.of_steps (.one step_loop) harr⟩
theorem Kl {S:Type}(fr:S→List (Nat×Value))(I:S→World→Prop){c:Code}{K:Act→World→Prop}{Q':Exit→Act→World→Prop}
  (h:c.wp P (Exit.then (fun a' w'=>∃s' ρ',a'=mk N ρ'∧JS ρ' (fr s')∧I s' w') Q') (mk N ρ) w)
  (hn:∀s ρ w,I s w→K (mk N (Si (fr s) ρ)) w):c.wp P (Exit.then K Q') (mk N ρ) w:=by
 refine wp_mono h ?_
 intro e a w hh
 cases e with
 |normal =>
  obtain⟨s,ρ',rfl,h1,h2⟩:=hh
  have:=hn s ρ' w h2
  rw[FG h1]at this
  exact this
 |_=>exact hh
end code
section ops
variable {P:Program} {ops:Array Oper} {w0:World} {Q:Act→World→Prop} {os:List Oper} {ks:List Nat} {N:Nat} {ρ:Nat→Value} {w:World}
abbrev Up (ops:Array Oper)(N:Nat) (ρ:Nat→Value)(o:Oper):Prop:=Region.wanted o (yielded ops (mk N ρ).tmps)=true
theorem Ac {d:Option Tmp}{op:Op}{ty:TypeId}{pos:String}{aft:Array Edge}:Up ops N ρ ⟨d,op,ty,pos,aft,none⟩:=rfl
theorem Pp {j d:Nat}{b:Bool}(hd:(ops[j]?).bind (·.dst)=some d)(hlt:Nat.blt d N=true)(hv:ρ d=.bool b):yielded ops (mk N ρ).tmps j=some b:=by
 have h:d<N:=by simpa using hlt
 unfold yielded
 rw[hd]
 simp[mk,h,hv]
theorem Ag {d:Option Tmp}{op:Op}{ty:TypeId}{pos:String}{aft:Array Edge}{j e:Nat}{b:Bool}(hd:(ops[j]?).bind (·.dst)=some e)(hlt:Nat.blt e N=true)(hv:ρ e=.bool b) :
  Up ops N ρ ⟨d,op,ty,pos,aft,some (j,b)⟩:=by
 unfold Up Region.wanted
 simp[Pp hd hlt hv]
theorem Cr {o:Oper}{k d:Nat}(hk:k≤2)(hd:o.dst=some d)(hu:Up ops N ρ o)(v:Value)(hr:∀w',Cl w0 w k w'→(execOp (Br N ρ) o).run P w'=.ok (.value v) w')
  (h:LW P ops w0 Q os ks (mk N (CI ρ d v)) w):LW P ops w0 Q (o::os) (k::ks) (mk N ρ) w:=by
 simp only[LW]
 rw[if_pos hu]
 unfold BT
 rw[if_pos hk]
 refine⟨v,fun w' hc=>.inl ?_,?_⟩
 ·rw[D7];exact hr w' hc
 ·rw[hd,Fi];exact h
theorem Ji {o:Oper}{d:Nat}(hd:o.dst=some d)(hu:Up ops N ρ o)
  (v:Value) (w1:World) (hr:(execOp (Br N ρ) o).run P w=.ok (.value v) w1) (hE:AD w w1) (h:LW P ops w0 Q os ks (mk N (CI ρ d v)) w1):LW P ops w0 Q (o::os) (3::ks) (mk N ρ) w:=by
 simp only[LW]
 rw[if_pos hu]
 unfold BT
 rw[if_neg (by decide),if_pos rfl]
 unfold Oper.wp
 rw[D7,hr]
 show AD w w1∧LW P ops w0 Q os ks ((mk N ρ).put o.dst v) w1
 rw[hd,Fi]
 exact⟨hE,h⟩
theorem Ku {o:Oper}{d:Nat}(hd:o.dst=some d)(hu:Up ops N ρ o)
  (v:Value) (w1:World) (hr:(execOp (Br N ρ) o).run P w=.ok (.value v) w1) (h:LW P ops w0 Q os ks (mk N (CI ρ d v)) w1):LW P ops w0 Q (o::os) (4::ks) (mk N ρ) w:=by
 simp only[LW]
 rw[if_pos hu]
 unfold BT
 rw[if_neg (by decide),if_neg (by decide)]
 unfold Oper.wp
 rw[D7,hr]
 show LW P ops w0 Q os ks ((mk N ρ).put o.dst v) w1
 rw[hd,Fi]
 exact h
theorem Oi {o:Oper}(hd:o.dst=none)(hu:Up ops N ρ o)
  (w1:World) (hr:(execOp (Br N ρ) o).run P w=.ok .skip w1) (h:LW P ops w0 Q os ks (mk N ρ) w1):LW P ops w0 Q (o::os) (4::ks) (mk N ρ) w:=by
 simp only[LW]
 rw[if_pos hu]
 unfold BT
 rw[if_neg (by decide),if_neg (by decide)]
 unfold Oper.wp
 rw[D7,hr]
 show LW P ops w0 Q os ks ((mk N ρ).put o.dst undef) w1
 rw[hd]
 exact h
theorem Ay {d:Nat} {x:Operand} {xs:Array Operand} {ats:Array TypeId} {ty:TypeId} {pos:String} {aft:Array Edge} {g:Option (Nat × Bool)} (f:FuncId) (first cap:List Value) (args:List Value)
  (hx:Br N ρ x = .func (.func f) first.toArray cap.toArray) (hxs:first++(xs.toList.map (Br N ρ))++cap = args) (hf:((P.funcs[f]?).map fun fn=>(fn.name != "runtime.NumGoroutine") && fn.body.isSome) = some true)
  (hu:Up ops N ρ ⟨some d,.call ⟨.value x,xs,ats⟩,ty,pos,aft,g⟩) {R:Ending→World→Prop} (hc:Calls P f args.toArray w R)
  (h:∀ e w1,R e w1→∃ v,e = .returned v∧AD w w1∧LW P ops w0 Q os ks (mk N (CI ρ d v)) w1) :
  LW P ops w0 Q (⟨some d,.call ⟨.value x,xs,ats⟩,ty,pos,aft,g⟩ :: os) (3 :: ks) (mk N ρ) w:=by
 simp only [LW]
 rw [if_pos hu]
 unfold BT
 rw [if_neg (by decide),if_pos rfl]
 unfold Oper.wp
 rw [D7]
 have hrun:(execOp (Br N ρ) ⟨some d,.call ⟨.value x,xs,ats⟩,ty,pos,aft,g⟩).run P w = .ok (.enter f args.toArray) w:=by
  obtain ⟨fn,hfn,hb⟩:=Option.map_eq_some_iff.1 hf
  simp only [z7,bne_iff_ne,ne_eq] at hb
  have hargs:first.toArray++xs.map (Br N ρ)++cap.toArray = args.toArray:=by
   rw [← hxs]; apply Array.ext'; simp
  obtain ⟨c,hbc⟩:=Option.isSome_iff_exists.1 hb.2
  have hcf:(callFunc f args.toArray).run P w = .ok (.enter f args.toArray) w:=by
   simp [callFunc,hfn,hb.1,hbc]
  simp [execOp,resolve,hargs,hx,Deferred.ofValue,invoke,hcf]
 rw [hrun]
 refine Calls.mono hc (fun e w1 he=>?_)
 obtain ⟨v,rfl,hE,hL⟩:=h e w1 he
 show AD w w1∧LW P ops w0 Q os ks ((mk N ρ).put (some d) v) w1
 rw [Fi]
 exact ⟨hE,hL⟩
theorem AF {d:Nat} {x:Operand} {xs:Array Operand} {ats:Array TypeId} {ty:TypeId} {pos:String} {aft:Array Edge} {g:Option (Nat × Bool)} (f:FuncId) (first cap:List Value) (args:List Value)
  (hx:Br N ρ x = .func (.func f) first.toArray cap.toArray) (hxs:first++(xs.toList.map (Br N ρ))++cap = args) (hf:((P.funcs[f]?).map fun fn=>(fn.name != "runtime.NumGoroutine") && fn.body.isSome) = some true)
  (hu:Up ops N ρ ⟨some d,.call ⟨.value x,xs,ats⟩,ty,pos,aft,g⟩) (v:Value) (hc:∀ w',Calls P f args.toArray w' (fun e w''=>e = .returned v∧w'' = w'))
  (h:LW P ops w0 Q os ks (mk N (CI ρ d v)) w) :
  LW P ops w0 Q (⟨some d,.call ⟨.value x,xs,ats⟩,ty,pos,aft,g⟩ :: os) (0 :: ks) (mk N ρ) w:=by
 simp only [LW]
 rw [if_pos hu]
 unfold BT
 rw [if_pos (by decide)]
 have hrun:∀ w,(execOp (Br N ρ) ⟨some d,.call ⟨.value x,xs,ats⟩,ty,pos,aft,g⟩).run P w = .ok (.enter f args.toArray) w:=by
  intro w
  obtain ⟨fn,hfn,hb⟩:=Option.map_eq_some_iff.1 hf
  simp only [z7,bne_iff_ne,ne_eq] at hb
  have hargs:first.toArray++xs.map (Br N ρ)++cap.toArray = args.toArray:=by
   rw [← hxs]; apply Array.ext'; simp
  obtain ⟨c,hbc⟩:=Option.isSome_iff_exists.1 hb.2
  have hcf:(callFunc f args.toArray).run P w = .ok (.enter f args.toArray) w:=by
   simp [callFunc,hfn,hb.1,hbc]
  simp [execOp,resolve,hargs,hx,Deferred.ofValue,invoke,hcf]
 refine ⟨v,fun w' _=>.inr (.inr ⟨f,args.toArray,?_,hc w'⟩),?_⟩
 ·rw [D7]; exact hrun w'
 ·show LW P ops w0 Q os ks ((mk N ρ).put (some d) v) w
  rw [Fi]; exact h
end ops
def it {σ:Type}(f:Nat→σ→σ):Nat→σ→σ
 |0,s=>s
 |k+1,s=>f k (it f k s)
def wr (x:Int):Int:=IntKind.i64.wrap x
theorem Pq (x:Int):-9223372036854775808≤wr x∧wr x≤9223372036854775807:=by
 unfold wr;rw[IntKind.wrap_i64];omega
end
section
theorem E1 {x:Int}(h:-9223372036854775808≤x)(h':x≤9223372036854775807):IntKind.i64.wrap x=x:=IntWalk.i64_in x ⟨h,h'⟩
theorem Bg {x:Int}{n:Nat}(h:x=(n:Int))(h':x≤9223372036854775807):IntKind.i64.wrap x=(n:Int):=by rw[E1 zO h',h]
theorem eM {x y:Int}(h:x=y)(h0:-9223372036854775808≤y)(h':y≤9223372036854775807):IntKind.i64.wrap x=y:=by rw[h];exact E1 h0 h'
def TI (P:Program)(e:TypeId)(s:Nat)(z:Value)(b:Nat):Prop:=(P.info? e).map (fun i=>(i.zero,i.size,i.bytes))=some (some z,s,b)
theorem TI.get {P:Program}{e:TypeId}{s:Nat}{z:Value}{b:Nat}(h:TI P e s z b):∃i,P.info? e=some i∧i.zero=some z∧i.size=s∧i.bytes=b:=by
 obtain⟨i,hi,hh⟩:=Option.map_eq_some_iff.1 h
 simp only[Prod.mk.injEq]at hh
 exact⟨i,hi,hh⟩
def Fu (v:Value)(n:Nat):Prop:=∃a c,v=.slice a n c∧(a=none→n=0)
def AE (v:Value)(i s:Nat):Value :=
 match v with
 |.slice (some a) _ _=>.pointer (some (a.add (i*s)))
 |_=>undef
def Cn (H:Array Obj)(g o:Nat):Option Value :=
 match H[g]? with
 |some (.cells c _ _)=>c[o]?
 |_=>none
theorem Ci (w:World)(g o:Nat):w.cell? ⟨g,o,none⟩=Cn w.heap g o:=by
 unfold World.cell? Cn
 cases w.heap[g]? with
 |none=>rfl
 |some o=>cases o <;> rfl
def Hp (H:Array Obj)(p:Value):Option Value :=
 match p with
 |.pointer (some ⟨g,o,none⟩)=>Cn H g o
 |_=>none
theorem AD.heap {w w':World}(h:AD w w'){k:Nat}(hk:k<w.heap.size):w'.heap[k]? = w.heap[k]?:=Below.block h k hk
theorem Sj {H:Array Obj}{g o:Nat}{v:Value}(h:Cn H g o=some v):g<H.size:=by
 unfold Cn at h
 rcases Nat.lt_or_ge g H.size with hh|hh
 ·exact hh
 ·simp[Array.getElem?_eq_none hh]at h
theorem RK {w w':World}(h:AD w w'){g o:Nat}{v:Value}(hc:Cn w.heap g o=some v):Cn w'.heap g o=some v:=by
 have:=h.heap (Sj hc)
 unfold Cn at *
 rw[this];exact hc
theorem Bk {w w':World}(h:AD w w'){p v:Value}(hc:Hp w.heap p=some v):Hp w'.heap p=some v:=by
 unfold Hp at *
 split at hc
 ·exact RK h hc
 ·cases hc
def Cw (P:Program)(t:TypeId):Prop:=((P.underlying t).map fun d=>match d with|.struct _=>false|.array _ _=>false|_=>true)=some true
theorem MF {P:Program}{t:TypeId}(ht:Cw P t){p v:Value}{w:World}(h:Hp w.heap p=some v):(Instr.loadAt t p).run P w=.ok v w:=by
 unfold Hp at h
 split at h
 ·rename_i g o
  rw[← Ci]at h
  obtain⟨d,hd,hh⟩:=Option.map_eq_some_iff.1 ht
  have hag:(isAgg t).run P w=.ok false w:=by
   unfold isAgg
   simp only[Sem.run_bind,run_underlying hd,Result.andThen_ok]
   cases d <;> first|rfl|simp at hh
  simp[Instr.loadAt,Instr.sureAddr,loadVar,hag,h]
 ·cases h
section ops
variable {P:Program} {ops:Array Oper} {w0:World} {Q:Act→World→Prop} {os:List Oper} {ks:List Nat} {N:Nat} {ρ:Nat→Value} {w:World}
 {d:Nat} {ty:TypeId} {pos:String} {aft:Array Edge} {g:Option (Nat×Bool)}
theorem Yc {x:Operand}(v:Value)(hx:Br N ρ x=v)(hu:Up ops N ρ ⟨some d,.move x,ty,pos,aft,g⟩)(h:LW P ops w0 Q os ks (mk N (CI ρ d v)) w) :
  LW P ops w0 Q (⟨some d,.move x,ty,pos,aft,g⟩::os) (0::ks) (mk N ρ) w :=
 Cr (by decide) rfl hu v (fun w' _=>by simp[execOp,hx]) h
theorem Sk {x:Operand}(v:Value)(hx:Br N ρ x=v)(hu:Up ops N ρ ⟨some d,.assign x,ty,pos,aft,g⟩)(h:LW P ops w0 Q os ks (mk N (CI ρ d v)) w) :
  LW P ops w0 Q (⟨some d,.assign x,ty,pos,aft,g⟩::os) (0::ks) (mk N ρ) w :=
 Cr (by decide) rfl hu v (fun w' _=>by simp[execOp,hx]) h
section bin
variable {xt yt:TypeId} {x y:Operand} {k:IntKind} {a b:Int}
theorem Ej {op:BinOp}{w:World}:(eqGuard op xt x y (.int k a) (.int k b)).run P w=.ok () w:=by
 unfold eqGuard
 cases op <;> rfl
theorem AS (c:Int)(hx:Br N ρ x=.int k a)(hy:Br N ρ y=.int k b)(hc:k.wrap (a+b)=c)(hu:Up ops N ρ ⟨some d,.binOp .add xt x y yt,ty,pos,aft,g⟩)
  (h:LW P ops w0 Q os ks (mk N (CI ρ d (.int k c))) w):LW P ops w0 Q (⟨some d,.binOp .add xt x y yt,ty,pos,aft,g⟩::os) (0::ks) (mk N ρ) w :=
 Cr (by decide) rfl hu _ (fun w' _=>by simp[execOp,hx,hy,Ej,binOp,Op.intArith,hc]) h
theorem BP (c:Int)(hx:Br N ρ x=.int k a)(hy:Br N ρ y=.int k b)(hc:k.wrap (a-b)=c)(hu:Up ops N ρ ⟨some d,.binOp .sub xt x y yt,ty,pos,aft,g⟩)
  (h:LW P ops w0 Q os ks (mk N (CI ρ d (.int k c))) w):LW P ops w0 Q (⟨some d,.binOp .sub xt x y yt,ty,pos,aft,g⟩::os) (0::ks) (mk N ρ) w :=
 Cr (by decide) rfl hu _ (fun w' _=>by simp[execOp,hx,hy,Ej,binOp,Op.intArith,hc]) h
theorem FY (c:Int)(hx:Br N ρ x=.int k a)(hy:Br N ρ y=.int k b)(hc:k.wrap (a*b)=c)(hu:Up ops N ρ ⟨some d,.binOp .mul xt x y yt,ty,pos,aft,g⟩)
  (h:LW P ops w0 Q os ks (mk N (CI ρ d (.int k c))) w):LW P ops w0 Q (⟨some d,.binOp .mul xt x y yt,ty,pos,aft,g⟩::os) (0::ks) (mk N ρ) w :=
 Cr (by decide) rfl hu _ (fun w' _=>by simp[execOp,hx,hy,Ej,binOp,Op.intArith,hc]) h
theorem Ek (c:Int)(hx:Br N ρ x=.int k a)(hy:Br N ρ y=.int k b)(hb:b≠0)(hc:a.tmod b=c)(hu:Up ops N ρ ⟨some d,.binOp .rem xt x y yt,ty,pos,aft,g⟩)
  (h:LW P ops w0 Q os ks (mk N (CI ρ d (.int k c))) w):LW P ops w0 Q (⟨some d,.binOp .rem xt x y yt,ty,pos,aft,g⟩::os) (0::ks) (mk N ρ) w :=
 Cr (by decide) rfl hu _ (fun w' _=>by simp[execOp,hx,hy,Ej,binOp,Op.intDiv,hb,hc]) h
theorem Qk (c:Int)(hx:Br N ρ x=.int k a)(hy:Br N ρ y=.int k b)(hb:b≠0)(hc:k.wrap (a.tdiv b)=c)(hu:Up ops N ρ ⟨some d,.binOp .quo xt x y yt,ty,pos,aft,g⟩)
  (h:LW P ops w0 Q os ks (mk N (CI ρ d (.int k c))) w):LW P ops w0 Q (⟨some d,.binOp .quo xt x y yt,ty,pos,aft,g⟩::os) (0::ks) (mk N ρ) w :=
 Cr (by decide) rfl hu _ (fun w' _=>by simp[execOp,hx,hy,Ej,binOp,Op.intDiv,hb,hc]) h
theorem AJ (c:Bool)(hx:Br N ρ x=.int k a)(hy:Br N ρ y=.int k b)(hc:decide (a<b)=c)(hu:Up ops N ρ ⟨some d,.binOp .lss xt x y yt,ty,pos,aft,g⟩)
  (h:LW P ops w0 Q os ks (mk N (CI ρ d (.bool c))) w):LW P ops w0 Q (⟨some d,.binOp .lss xt x y yt,ty,pos,aft,g⟩::os) (0::ks) (mk N ρ) w :=
 Cr (by decide) rfl hu _ (fun w' _=>by simp[execOp,hx,hy,Ej,binOp,Op.intCmp,← hc]) h
theorem El (c:Bool)(hx:Br N ρ x=.int k a)(hy:Br N ρ y=.int k b)(hc:decide (a≤b)=c)(hu:Up ops N ρ ⟨some d,.binOp .leq xt x y yt,ty,pos,aft,g⟩)
  (h:LW P ops w0 Q os ks (mk N (CI ρ d (.bool c))) w):LW P ops w0 Q (⟨some d,.binOp .leq xt x y yt,ty,pos,aft,g⟩::os) (0::ks) (mk N ρ) w :=
 Cr (by decide) rfl hu _ (fun w' _=>by simp[execOp,hx,hy,Ej,binOp,Op.intCmp,← hc]) h
theorem C0 (c:Bool)(hx:Br N ρ x=.int k a)(hy:Br N ρ y=.int k b)(hc:decide (b<a)=c)(hu:Up ops N ρ ⟨some d,.binOp .gtr xt x y yt,ty,pos,aft,g⟩)
  (h:LW P ops w0 Q os ks (mk N (CI ρ d (.bool c))) w):LW P ops w0 Q (⟨some d,.binOp .gtr xt x y yt,ty,pos,aft,g⟩::os) (0::ks) (mk N ρ) w :=
 Cr (by decide) rfl hu _ (fun w' _=>by simp[execOp,hx,hy,Ej,binOp,Op.intCmp,← hc]) h
theorem DO (c:Bool)(hx:Br N ρ x=.int k a)(hy:Br N ρ y=.int k b)(hc:decide (b≤a)=c)(hu:Up ops N ρ ⟨some d,.binOp .geq xt x y yt,ty,pos,aft,g⟩)
  (h:LW P ops w0 Q os ks (mk N (CI ρ d (.bool c))) w):LW P ops w0 Q (⟨some d,.binOp .geq xt x y yt,ty,pos,aft,g⟩::os) (0::ks) (mk N ρ) w :=
 Cr (by decide) rfl hu _ (fun w' _=>by simp[execOp,hx,hy,Ej,binOp,Op.intCmp,← hc]) h
theorem Av (c:Bool)(hx:Br N ρ x=.int k a)(hy:Br N ρ y=.int k b)(hc:decide (a=b)=c)(hu:Up ops N ρ ⟨some d,.binOp .eql xt x y yt,ty,pos,aft,g⟩)
  (h:LW P ops w0 Q os ks (mk N (CI ρ d (.bool c))) w):LW P ops w0 Q (⟨some d,.binOp .eql xt x y yt,ty,pos,aft,g⟩::os) (0::ks) (mk N ρ) w :=
 Cr (by decide) rfl hu _ (fun w' _=>by
  have:(a == b)=c:=by rw[← hc];rfl
  simp[execOp,hx,hy,Ej,binOp,Op.intCmp,this]) h
theorem Be (c:Bool)(hx:Br N ρ x=.int k a)(hy:Br N ρ y=.int k b)(hc:decide (a≠b)=c)(hu:Up ops N ρ ⟨some d,.binOp .neq xt x y yt,ty,pos,aft,g⟩)
  (h:LW P ops w0 Q os ks (mk N (CI ρ d (.bool c))) w):LW P ops w0 Q (⟨some d,.binOp .neq xt x y yt,ty,pos,aft,g⟩::os) (0::ks) (mk N ρ) w :=
 Cr (by decide) rfl hu _ (fun w' _=>by
  have:(a != b)=c:=by rw[← hc];simp[bne,BEq.beq]
  simp[execOp,hx,hy,Ej,binOp,Op.intCmp,this]) h
end bin
theorem Gx {xt:TypeId}{n:Nat}{a b:Bool}{w:World}(ht:P.underlying xt=some .bool):(Op.equalIn (n+1) xt (.bool a) (.bool b)).run P w=.ok (a == b) w:=by
 simp only[Op.equalIn,Sem.run_bind,run_underlying ht,Result.andThen_ok,Sem.run_pure]
theorem Na {xt:TypeId}{a b:Bool}{w:World}(ht:P.underlying xt=some .bool):(binOp .eql xt (.bool a) (.bool b)).run P w=.ok (.bool (a == b)) w:=by
 simp only[binOp,Op.equal,Sem.run_bind]
 rw[show Op.maxDepth=9999+1 from rfl,Gx ht]
 rfl
theorem Nb {xt:TypeId}{a b:Bool}{w:World}(ht:P.underlying xt=some .bool):(binOp .neq xt (.bool a) (.bool b)).run P w=.ok (.bool (!(a == b))) w:=by
 simp only[binOp,Op.equal,Sem.run_bind]
 rw[show Op.maxDepth=9999+1 from rfl,Gx ht]
 rfl
theorem Sl {xt yt:TypeId}{x y:Operand}{a b:Bool}(c:Bool)(ht:P.underlying xt=some .bool)(hx:Br N ρ x=.bool a)(hy:Br N ρ y=.bool b)(hc:(a == b)=c)(hu:Up ops N ρ ⟨some d,.binOp .eql xt x y yt,ty,pos,aft,g⟩)
  (h:LW P ops w0 Q os ks (mk N (CI ρ d (.bool c))) w):LW P ops w0 Q (⟨some d,.binOp .eql xt x y yt,ty,pos,aft,g⟩::os) (0::ks) (mk N ρ) w :=
 Cr (by decide) rfl hu _ (fun w' _=>by
  have he:(eqGuard .eql xt x y (.bool a) (.bool b)).run P w'=.ok () w':=rfl
  simp only[execOp,hx,hy,Sem.run_bind,he,Result.andThen_ok,Na ht,hc,Sem.run_pure]) h
theorem Yd {xt yt:TypeId}{x y:Operand}{a b:Bool}(c:Bool)(ht:P.underlying xt=some .bool)(hx:Br N ρ x=.bool a)(hy:Br N ρ y=.bool b)(hc:(!(a == b))=c)(hu:Up ops N ρ ⟨some d,.binOp .neq xt x y yt,ty,pos,aft,g⟩)
  (h:LW P ops w0 Q os ks (mk N (CI ρ d (.bool c))) w):LW P ops w0 Q (⟨some d,.binOp .neq xt x y yt,ty,pos,aft,g⟩::os) (0::ks) (mk N ρ) w :=
 Cr (by decide) rfl hu _ (fun w' _=>by
  have he:(eqGuard .neq xt x y (.bool a) (.bool b)).run P w'=.ok () w':=rfl
  simp only[execOp,hx,hy,Sem.run_bind,he,Result.andThen_ok,Nb ht,hc,Sem.run_pure]) h
theorem BF {xt:TypeId}{x:Operand}{a:Bool}(c:Bool)(hx:Br N ρ x=.bool a)(hc:(!a)=c)(hu:Up ops N ρ ⟨some d,.unOp .not xt x,ty,pos,aft,g⟩)
  (h:LW P ops w0 Q os ks (mk N (CI ρ d (.bool c))) w):LW P ops w0 Q (⟨some d,.unOp .not xt x,ty,pos,aft,g⟩::os) (0::ks) (mk N ρ) w :=
 Cr (by decide) rfl hu _ (fun w' _=>by simp[execOp,hx,Op.unary,← hc]) h
theorem AU {t e:TypeId}{x:Operand}{v:Value}{n:Nat}(ht:P.underlying t=some (.slice e))(hx:Br N ρ x=v)(hs:Fu v n)(hu:Up ops N ρ ⟨some d,.call ⟨.builtin .len,#[x],#[t]⟩,ty,pos,aft,g⟩)
  (h:LW P ops w0 Q os ks (mk N (CI ρ d (.int .i64 (n:Int)))) w):LW P ops w0 Q (⟨some d,.call ⟨.builtin .len,#[x],#[t]⟩,ty,pos,aft,g⟩::os) (0::ks) (mk N ρ) w :=
 Cr (by decide) rfl hu _ (fun w' _=>by
  obtain⟨a,c,rfl,_⟩:=hs
  simp[execOp,resolve,invoke,builtin,hx,Builtin.len_,run_underlying ht,goInt]) h
theorem L5 {t:TypeId}{x:Operand}{s:ByteArray}(ht:P.underlying t=some .string)(hx:Br N ρ x=.string s)(hu:Up ops N ρ ⟨some d,.call ⟨.builtin .len,#[x],#[t]⟩,ty,pos,aft,g⟩)
  (h:LW P ops w0 Q os ks (mk N (CI ρ d (.int .i64 (s.size:Int)))) w):LW P ops w0 Q (⟨some d,.call ⟨.builtin .len,#[x],#[t]⟩,ty,pos,aft,g⟩::os) (0::ks) (mk N ρ) w :=
 Cr (by decide) rfl hu _ (fun w' _=>by
  simp[execOp,resolve,invoke,builtin,hx,Builtin.len_,run_underlying ht,goInt]) h
theorem AH {t e:TypeId}{x y:Operand}{v:Value}{n s:Nat}{k:IntKind}{i:Int}(j:Nat)(ht:P.underlying t=some (.slice e)){z:Value}{b:Nat}(hi:TI P e s z b)(hx:Br N ρ x=v)(hy:Br N ρ y=.int k i)
  (hs:Fu v n) (hj:i=(j:Int)) (hlt:j<n) (hu:Up ops N ρ ⟨some d,.indexAddr t x y,ty,pos,aft,g⟩)
  (h:LW P ops w0 Q os ks (mk N (CI ρ d (AE v j s))) w):LW P ops w0 Q (⟨some d,.indexAddr t x y,ty,pos,aft,g⟩::os) (0::ks) (mk N ρ) w :=
 Cr (by decide) rfl hu _ (fun w' _=>by
  obtain⟨a,c,rfl,ha⟩:=hs
  obtain⟨inf,h1,_,h3,_⟩:=hi.get
  subst hj
  cases a with
  |none=>have:=ha rfl;omega
  |some a =>
   have hlt':(j:Int)<(n:Int):=by omega
   simp[execOp,hx,hy,Instr.indexAt,asIntOf,run_underlying ht,sizeOf,typeInfo,h1,h3,AE,hlt]) h
theorem Ai {k:Nat}(hk:k=1∨k=2){t:TypeId}{x:Operand}{p:Value}(u:Value)(ht:Cw P t)(hx:Br N ρ x=p)(hc:Hp (if k=1 then w0.heap else w.heap) p=some u)(hu:Up ops N ρ ⟨some d,.load t x,ty,pos,aft,g⟩)
  (h:LW P ops w0 Q os ks (mk N (CI ρ d u)) w):LW P ops w0 Q (⟨some d,.load t x,ty,pos,aft,g⟩::os) (k::ks) (mk N ρ) w :=
 Cr zO rfl hu _ (fun w' hcl=>by
  have hl:Hp w'.heap p=some u:=by
   rcases hk with rfl|rfl
   ·exact Bk (w:=w0) hcl hc
   ·exact Bk (w:=w) hcl hc
  simp[execOp,hx,MF ht hl]) h
theorem AO {x:Operand}{vs:List Value}{i:Nat}(v:Value)(hx:Br N ρ x=.tuple vs.toArray)(hv:vs[i]? = some v)(hu:Up ops N ρ ⟨some d,.extract x i,ty,pos,aft,g⟩)
  (h:LW P ops w0 Q os ks (mk N (CI ρ d v)) w):LW P ops w0 Q (⟨some d,.extract x i,ty,pos,aft,g⟩::os) (0::ks) (mk N ρ) w :=
 Cr (by decide) rfl hu _ (fun w' _=>by simp[execOp,hx,Instr.extract,hv]) h
theorem JT {st dt:TypeId}{x:Operand}{k k':IntKind}{a:Int}(c:Int){sd:TypeDesc}(hst:P.underlying st=some sd)(hdt:P.underlying dt=some (.int k'))(hx:Br N ρ x=.int k a)(hc:k'.wrap a=c)(hu:Up ops N ρ ⟨some d,.convert st dt x,ty,pos,aft,g⟩)
  (h:LW P ops w0 Q os ks (mk N (CI ρ d (.int k' c))) w):LW P ops w0 Q (⟨some d,.convert st dt x,ty,pos,aft,g⟩::os) (0::ks) (mk N ρ) w :=
 Cr (by decide) rfl hu _ (fun w' _=>by
  simp[execOp,hx,convert,run_underlying hst,run_underlying hdt,Conv.intToInt,hc]) h
theorem L6 {fn:Fn}{first cap:Array Operand}(fs cs:List Value)(h1:first.toList.map (Br N ρ)=fs)(h2:cap.toList.map (Br N ρ)=cs)(hu:Up ops N ρ ⟨some d,.makeFunc fn first cap,ty,pos,aft,g⟩)
  (h:LW P ops w0 Q os ks (mk N (CI ρ d (.func fn fs.toArray cs.toArray))) w):LW P ops w0 Q (⟨some d,.makeFunc fn first cap,ty,pos,aft,g⟩::os) (0::ks) (mk N ρ) w :=
 Cr (by decide) rfl hu _ (fun w' _=>by
  have e1:first.map (Br N ρ)=fs.toArray:=by rw[← h1];apply Array.ext';simp
  have e2:cap.map (Br N ρ)=cs.toArray:=by rw[← h2];apply Array.ext';simp
  simp[execOp,Instr.makeFunc,e1,e2]) h
end ops
end
section
abbrev Bs (α:Type):=Array Obj→Value→α→List Nat→Prop
structure BZ {α:Type}(E:Bs α):Prop where
 cells:∀ {H v x F},E H v x F→v.cells=#[v]
 one:∀ {H v x F},E H v x F→v.oneCell'=true
 lt:∀ {H v x F},E H v x F→∀b∈F,b<H.size
 stable:∀ {H H' v x F},E H v x F→(∀b∈F,H'[b]? = H[b]?)→E H' v x F
def els {α:Type}(E:Bs α)(H:Array Obj):List Value→List α→List Nat→Prop
 |[],[],F=>F=[]
 |u::us,x::xs,F=>∃F1 F2,F=F1++F2∧E H u x F1∧els E H us xs F2
 |_,_,_=>False
section els
variable {α:Type} {E:Bs α} {H H':Array Obj}
theorem els.length:∀ {us:List Value}{xs:List α}{F:List Nat},els E H us xs F→us.length=xs.length
 |[],[],_,_=>rfl
 |_::_,_::_,_,⟨_,_,_,_,h⟩=>by simp[els.length h]
 |[],_::_,_,h=>h.elim
 |_::_,[],_,h=>h.elim
theorem els.stable (hE:BZ E):∀ {us:List Value}{xs:List α}{F:List Nat},els E H us xs F→(∀b∈F,H'[b]? = H[b]?)→els E H' us xs F
 |[],[],_,h,_=>h
 |_::_,_::_,_,⟨F1,F2,rfl,h1,h2⟩,hb =>
  ⟨F1,F2,rfl,hE.stable h1 fun b hh=>hb b (z8 _ hh),els.stable hE h2 fun b hh=>hb b (z1 _ hh)⟩
 |[],_::_,_,h,_=>h.elim
 |_::_,[],_,h,_=>h.elim
theorem els.lt (hE:BZ E):∀ {us:List Value}{xs:List α}{F:List Nat},els E H us xs F→∀b∈F,b<H.size
 |[],[],_,h,b,hb=>by rw[show _=[]from h]at hb;cases hb
 |_::_,_::_,_,⟨F1,F2,rfl,h1,h2⟩,b,hb=>(zi.1 hb).elim (hE.lt h1 b) (els.lt hE h2 b)
 |[],_::_,_,h,_,_=>h.elim
 |_::_,[],_,h,_,_=>h.elim
theorem els.get:∀ {us:List Value}{xs:List α}{F:List Nat}{k:Nat}(d:α),els E H us xs F→k<xs.length →
  ∃u F1,us[k]? = some u∧E H u (xs.getD k d) F1∧∀b∈F1,b∈F
 |u::us,x::xs,_,0,d,⟨F1,F2,rfl,h1,h2⟩,_=>⟨u,F1,rfl,h1,fun b hb=>z8 _ hb⟩
 |u::us,x::xs,_,k+1,d,⟨F1,F2,rfl,h1,h2⟩,hk=>by
  obtain⟨u',G,hu,hx,hb⟩:=els.get d h2 (by simpa using hk)
  exact⟨u',G,by simpa using hu,by simpa using hx,fun b hh=>z1 _ (hb b hh)⟩
 |[],[],_,_,_,_,hk=>by simp at hk
 |[],_::_,_,_,_,h,_=>h.elim
theorem els.append:∀ {us vs:List Value}{xs ys:List α}{F G:List Nat},els E H us xs F→els E H vs ys G→els E H (us++vs) (xs++ys) (F++G)
 |[],_,[],_,_,_,h,k=>by rw[show _=[]from h];exact k
 |_::_,_,_::_,_,_,_,⟨F1,F2,rfl,h1,h2⟩,k=>⟨F1,_,by rw[List.append_assoc],h1,els.append h2 k⟩
 |[],_,_::_,_,_,_,h,_=>h.elim
 |_::_,_,[],_,_,_,h,_=>h.elim
theorem els.imp {E':Bs α}(h:∀ {H v x F},E H v x F→E' H v x F):∀ {us:List Value}{xs:List α}{F:List Nat},els E H us xs F→els E' H us xs F
 |[],[],_,hh=>hh
 |_::_,_::_,_,⟨F1,F2,e,h1,h2⟩=>⟨F1,F2,e,h h1,els.imp h h2⟩
 |[],_::_,_,hh=>hh.elim
 |_::_,[],_,hh=>hh.elim
theorem els.one (hE:BZ E):∀ {us:List Value}{xs:List α}{F:List Nat},els E H us xs F→∀u∈us,u.oneCell'=true
 |[],[],_,_,u,hu=>by cases hu
 |_::_,_::_,_,⟨F1,F2,rfl,h1,h2⟩,v,hv=>(ze.1 hv).elim (fun e=>e ▸ hE.one h1) (els.one hE h2 v)
 |[],_::_,_,h,_,_=>h.elim
 |_::_,[],_,h,_,_=>h.elim
end els
def rI:Bs Int:=fun _ v x F=>v=.int .i64 x∧F=[]∧-9223372036854775808≤x∧x≤9223372036854775807
def rU:Bs UInt8:=fun _ v x F=>v=.int .u8 (x.toNat:Int)∧F=[]
def rB:Bs Bool:=fun _ v x F=>v=.bool x∧F=[]
theorem AN:BZ rI:=⟨fun h=>by rw[h.1];rfl,fun h=>by rw[h.1];rfl,fun h b hb=>(by rw[h.2.1]at hb;cases hb),fun h _=>h⟩
theorem UI:BZ rU:=⟨fun h=>by rw[h.1];rfl,fun h=>by rw[h.1];rfl,fun h b hb=>(by rw[h.2]at hb;cases hb),fun h _=>h⟩
theorem Nc:BZ rB:=⟨fun h=>by rw[h.1];rfl,fun h=>by rw[h.1];rfl,fun h b hb=>(by rw[h.2]at hb;cases hb),fun h _=>h⟩
def Bl {α:Type}(E:Bs α):Bs (List α):=fun H v xs F =>
 (∃a cap,v=.slice a 0 cap∧xs=[]∧F=[]) ∨
 ∃us g off cap cur e fr F',els E H us xs F'∧v=.slice (some ⟨g,off,none⟩) xs.length cap∧H[g]? = some (.cells cur e fr)∧(cur.toList.drop off).take xs.length=us∧xs.length≤maxLen∧F=g::F'
def BD {α:Type}(E:Bs α)(e:TypeId):Bs (List α):=fun H v xs F =>
 (v=.slice none 0 0∧xs=[]∧F=[]) ∨
 ∃us g cap cur F',els E H us xs F'∧v=.slice (some ⟨g,0,none⟩) xs.length cap∧H[g]? = some (.cells cur e (0,0))∧xs.length≤cap∧cap≤maxLen∧cur.size=cap∧cur.toList.take xs.length=us∧F=g::F'
theorem getElem?_lt {H:Array Obj}{g:Nat}{o:Obj}(h:H[g]? = some o):g<H.size:=(Array.getElem?_eq_some_iff.1 h).1
section lists
variable {α:Type} {E:Bs α} {e:TypeId} {H:Array Obj} {v:Value} {xs:List α} {F:List Nat}
theorem HD (hE:BZ E):BZ (Bl E) where
 cells:=by
  rintro H v xs F (⟨a,cap,rfl,_⟩|⟨us,g,off,cap,cur,e,fr,F',_,rfl,_⟩) <;> rfl
 one:=by
  rintro H v xs F (⟨a,cap,rfl,_⟩|⟨us,g,off,cap,cur,e,fr,F',_,rfl,_⟩) <;> rfl
 lt:=by
  rintro H v xs F (⟨a,cap,rfl,_,rfl⟩|⟨us,g,off,cap,cur,e,fr,F',h,rfl,hg,_,_,rfl⟩) b hb
  ·cases hb
  ·rcases ze.1 hb with rfl|hb
   ·exact getElem?_lt hg
   ·exact h.lt hE b hb
 stable:=by
  rintro H H' v xs F (⟨a,cap,rfl,h1,h2⟩|⟨us,g,off,cap,cur,e,fr,F',h,rfl,hg,hw,hml,rfl⟩) hb
  ·exact .inl ⟨a,cap,rfl,h1,h2⟩
  ·exact .inr ⟨us,g,off,cap,cur,e,fr,F',h.stable hE fun b hh=>hb b<|z3 _ hh,rfl,by rw[hb g (z0 ..)];exact hg,hw,hml,rfl⟩
theorem Bc (hE:BZ E):BZ (BD E e) where
 cells:=by
  rintro H v xs F (⟨rfl,_⟩|⟨us,g,cap,cur,F',_,rfl,_⟩) <;> rfl
 one:=by
  rintro H v xs F (⟨rfl,_⟩|⟨us,g,cap,cur,F',_,rfl,_⟩) <;> rfl
 lt:=by
  rintro H v xs F (⟨rfl,_,rfl⟩|⟨us,g,cap,cur,F',h,rfl,hg,_,_,_,_,rfl⟩) b hb
  ·cases hb
  ·rcases ze.1 hb with rfl|hb
   ·exact getElem?_lt hg
   ·exact h.lt hE b hb
 stable:=by
  rintro H H' v xs F (⟨rfl,h1,h2⟩|⟨us,g,cap,cur,F',h,rfl,hg,r1,r2,r3,r4,rfl⟩) hb
  ·exact .inl ⟨rfl,h1,h2⟩
  ·exact .inr ⟨us,g,cap,cur,F',h.stable hE fun b hh=>hb b<|z3 _ hh,rfl,by rw[hb g (z0 ..)];exact hg,r1,r2,r3,r4,rfl⟩
theorem BD.rd {E':Bs α}(hi:∀ {H v x F},E H v x F→E' H v x F)(h:BD E e H v xs F):Bl E' H v xs F:=by
 rcases h with⟨rfl,rfl,rfl⟩|⟨us,g,cap,cur,F',h,rfl,hg,r1,r2,r3,r4,rfl⟩
 ·exact .inl ⟨none,0,rfl,rfl,rfl⟩
 ·exact .inr ⟨us,g,0,cap,cur,e,(0,0),F',h.imp hi,rfl,hg,by simpa using r4,zO,rfl⟩
theorem Bl.isSl (h:Bl E H v xs F):Fu v xs.length:=by
 rcases h with⟨a,cap,rfl,rfl,_⟩|⟨us,g,off,cap,cur,e,fr,F',_,rfl,_⟩
 ·exact⟨a,cap,rfl,fun _=>rfl⟩
 ·exact⟨_,cap,rfl,fun h=>by cases h⟩
theorem GW (g off n cap k:Nat):AE (.slice (some ⟨g,off,none⟩) n cap) k 1=.pointer (some ⟨g,off+k,none⟩):=by
 unfold AE Addr.add
 simp only[Nat.mul_one]
 split
 ·rename_i h;subst h;rfl
 ·rfl
theorem Bl.get (d:α){k:Nat}(h:Bl E H v xs F)(hk:k<xs.length):∃u F1,Hp H (AE v k 1)=some u∧E H u (xs.getD k d) F1∧∀b∈F1,b∈F:=by
 rcases h with⟨a,cap,rfl,rfl,_⟩|⟨us,g,off,cap,cur,e,fr,F',h,rfl,hg,hw,_,rfl⟩
 ·simp at hk
 ·obtain⟨u,F1,hu,hx,hb⟩:=h.get d hk
  refine⟨u,F1,?_,hx,fun b hh=>z3 _ (hb b hh)⟩
  rw[GW]
  simp only[Hp,Cn,hg]
  rw[← hw,List.getElem?_take,if_pos hk,List.getElem?_drop]at hu
  simpa using hu
theorem Bl.lenle (h:Bl E H v xs F):xs.length≤maxLen:=by
 rcases h with⟨a,cap,_,rfl,_⟩|⟨us,g,off,cap,cur,e,fr,F',_,_,_,_,h,_⟩
 ·simp
 ·exact h
theorem BD.lenle (h:BD E e H v xs F):xs.length≤maxLen:=by
 rcases h with⟨_,rfl,_⟩|⟨us,g,cap,cur,F',_,_,_,r1,r2,_⟩
 ·simp
 ·omega
end lists
structure AB (F:List Nat)(w w':World):Prop where
 os:w'.os=w.os
 tape:w'.tape=w.tape
 output:w'.output=w.output
 size:w.heap.size≤w'.heap.size
 block:∀k,k<w.heap.size→k∉F→w'.heap[k]? = w.heap[k]?
theorem AB.below {F:List Nat}{w0 w w':World}{B:Nat}(h:Below B w0 w)(c:AB F w w')(hF:∀b∈F,B≤b)(hB:B≤w.heap.size):Below B w0 w' :=
 h.trans ⟨c.os,c.tape,c.output,c.size,fun k hk=>c.block k zO fun hm=>by have:=hF k hm;omega⟩
theorem AD.drew {w w':World}(h:AD w w'):AD w w'.drew:=⟨h.os,h.tape,h.output,h.size,h.block⟩
theorem AD.of_drew {w w':World}(h:AD w.drew w'):AD w w':=⟨h.os,h.tape,h.output,h.size,h.block⟩
def Fr {α:Type}(E:Bs α)(B U:Nat)(H:Array Obj)(v:Value)(x:α):Prop:=∃F,E H v x F∧F.Nodup∧∀b∈F,B≤b∧b<U
def Rd {α:Type}(E:Bs α)(H:Array Obj)(v:Value)(x:α):Prop:=∃F,E H v x F
section
variable {α:Type} {E:Bs α} {B U:Nat} {v:Value} {x:α} {w w':World}
theorem Fr.ext (hE:BZ E)(h:Fr E B U w.heap v x)(k:AD w w'):Fr E B U w'.heap v x:=by
 obtain⟨F,h1,h2,h3⟩:=h
 exact⟨F,hE.stable h1 fun b hb=>k.heap (hE.lt h1 b hb),h2,h3⟩
theorem Fr.up (hE:BZ E){H:Array Obj}(h:Fr E B U H v x):Fr E B H.size H v x:=by
 obtain⟨F,h1,h2,h3⟩:=h
 exact⟨F,h1,h2,fun b hb=>⟨(h3 b hb).1,hE.lt h1 b hb⟩⟩
theorem Fr.low {H:Array Obj}{B':Nat}(h:Fr E B U H v x)(hB:B'≤B):Fr E B' U H v x:=by
 obtain⟨F,h1,h2,h3⟩:=h
 exact⟨F,h1,h2,fun b hb=>⟨Aa hB (h3 b hb).1,(h3 b hb).2⟩⟩
theorem Fr.chg (hE:BZ E){F:List Nat}(h:Fr E B U w.heap v x)(c:AB F w w')(hF:∀b∈F,b<B∨U≤b):Fr E B U w'.heap v x:=by
 obtain⟨G,h1,h2,h3⟩:=h
 refine⟨G,hE.stable h1 fun b hb=>c.block b (hE.lt h1 b hb) fun hm=>?_,h2,h3⟩
 have:=h3 b hb
 have:=hF b hm
 omega
theorem Rd.ext (hE:BZ E)(h:Rd E w.heap v x)(k:AD w w'):Rd E w'.heap v x:=by
 obtain⟨F,h1⟩:=h
 exact⟨F,hE.stable h1 fun b hb=>k.heap (hE.lt h1 b hb)⟩
end
section
variable {α:Type} {E:Bs α} {e:TypeId} {B U:Nat} {H:Array Obj} {v:Value} {xs:List α}
theorem Rd.lenle (h:Rd (Bl E) H v xs):xs.length≤9223372036854775807:=by
 obtain⟨F,h⟩:=h
 have:=Bl.lenle h
 simp only[maxLen]at this
 omega
theorem Rd.isSl (h:Rd (Bl E) H v xs):Fu v xs.length:=by obtain⟨F,h⟩:=h;exact Bl.isSl h
theorem Rd.get (d:α){k:Nat}(h:Rd (Bl E) H v xs)(hk:k<xs.length):∃u,Hp H (AE v k 1)=some u∧Rd E H u (xs.getD k d):=by
 obtain⟨F,h⟩:=h
 obtain⟨u,F1,h1,h2,_⟩:=Bl.get d h hk
 exact⟨u,h1,F1,h2⟩
theorem Rd.getI {xs:List Int}{k:Nat}(h:Rd (Bl rI) H v xs)(hk:k<xs.length):Hp H (AE v k 1)=some (.int .i64 (xs.getD k 0))∧-9223372036854775808≤xs.getD k 0∧xs.getD k 0≤9223372036854775807:=by
 obtain⟨u,h1,F,h2,_,h3,h4⟩:=Rd.get (0:Int) h hk
 rw[h1,h2]
 exact⟨rfl,h3,h4⟩
theorem Fr.rd {E':Bs α}(hi:∀ {H v x F},E H v x F→E' H v x F)(h:Fr (BD E e) B U H v xs):Rd (Bl E') H v xs:=by
 obtain⟨F,h,_⟩:=h
 exact⟨F,h.rd hi⟩
theorem Fr.rd1 {xs:List Int}(h:Fr (BD rI e) B U H v xs):Rd (Bl rI) H v xs:=h.rd id
theorem Fr.isSl (h:Fr (BD E e) B U H v xs):Fu v xs.length:=by obtain⟨F,h,_⟩:=h;exact(h.rd id:Bl E H v xs F).isSl
end
theorem Jj {α:Type}{E:Bs α}{e:TypeId}(B U:Nat)(H:Array Obj):Fr (BD E e) B U H (.slice none 0 0) []:=⟨[],.inl ⟨rfl,rfl,rfl⟩,zk,fun c hc=>(by cases hc)⟩
theorem Rd.getU {H:Array Obj}{v:Value}{xs:List UInt8}{k:Nat}(h:Rd (Bl rU) H v xs)(hk:k<xs.length):Hp H (AE v k 1)=some (.int .u8 ((xs.getD k 0).toNat:Int))∧0≤k:=by
 obtain⟨u,h1,F,h2,_⟩:=Rd.get (0:UInt8) h hk
 rw[h1,h2]
 exact⟨rfl,Nat.zero_le _⟩
theorem Bm {a b:Int}(h:a=b):Ending.returned (.int .i64 a)=.returned (.int .i64 b):=by rw[h]
theorem AQ {a b:Bool}(h:a=b):Ending.returned (.bool a)=.returned (.bool b):=by rw[h]
theorem Dl:BZ (Bl rU):=HD UI
theorem g1:BZ (Bl rI):=HD AN
theorem g2:BZ (Bl (Bl rI)):=HD g1
theorem g3:BZ (Bl (Bl (Bl rI))):=HD g2
theorem o1 {e:TypeId}:BZ (BD rI e):=Bc AN
theorem o2 {e e':TypeId}:BZ (BD (BD rI e) e'):=Bc o1
theorem o3 {e e' e'':TypeId}:BZ (BD (BD (BD rI e) e') e''):=Bc o2
end
section
theorem BA (w:World)(o:Obj):AD w (w.alloc o):=(Below.refl _ _).alloc (A9 _) o
theorem FZ {α:Type}{E:Bs α}(hE:BZ E){e:TypeId}{w:World}{us:List Value}{xs:List α}{F:List Nat}{cur:Array Value}(h:els E w.heap us xs F)(hm:cur.size≤maxLen)
  (hc:cur.toList.take xs.length=us) (hl:xs.length≤cur.size) :
  BD E e (w.alloc (.cells cur e)).heap (.slice (some ⟨w.heap.size,0,none⟩) xs.length cur.size) xs (w.heap.size::F):=by
 refine .inr ⟨us,w.heap.size,cur.size,cur,F,h.stable hE fun b hb=>?_,rfl,?_,hl,hm,rfl,hc,rfl⟩
 ·exact Below.heap_alloc _ _ _<|h.lt hE b hb
 ·show(w.heap.push _)[w.heap.size]? = _
  simp
theorem Jk {f:Nat→Value}(n:Nat):Array.map f (Array.range n)=((List.range n).map f).toArray:=by
 apply Array.ext';simp
section run
variable {P:Program} {w:World}
theorem Ql {t e:TypeId}{s b:Nat}{z:Value}(ht:P.underlying t=some (.slice e))(hi:TI P e s z b) :
  (Instr.buildSlice t 0 #[]).run P w=.ok (.slice (some ⟨w.heap.size,0,none⟩) 0 0) (w.alloc (.cells #[] e)):=by
 obtain⟨i,h1,h2,h3,h4⟩:=hi.get
 simp[Instr.buildSlice,run_underlying ht,sizeOf,typeInfo,h1,Instr.fill,newRow,Jk]
theorem Qm {t e:TypeId}{b:Nat}{z u:Value}(ht:P.underlying t=some (.slice e))(hi:TI P e 1 z b)(hu:u.cells=#[u])(hz:z.cells=#[z]) :
  (Instr.buildSlice t 1 #[(0,u)]).run P w=.ok (.slice (some ⟨w.heap.size,0,none⟩) 1 1) (w.alloc (.cells #[u] e)):=by
 obtain⟨i,h1,h2,h3,h4⟩:=hi.get
 simp[Instr.buildSlice,run_underlying ht,sizeOf,typeInfo,zeroValue,h1,h2,h3,Instr.fill,newRow,hu,hz,Jk,List.range_succ]
theorem UJ {t e:TypeId}{b:Nat}{z u v:Value}(ht:P.underlying t=some (.slice e))(hi:TI P e 1 z b)(hu:u.cells=#[u])(hv:v.cells=#[v])(hz:z.cells=#[z]) :
  (Instr.buildSlice t 2 #[(0,u),(1,v)]).run P w=.ok (.slice (some ⟨w.heap.size,0,none⟩) 2 2) (w.alloc (.cells #[u,v] e)):=by
 obtain⟨i,h1,h2,h3,h4⟩:=hi.get
 simp[Instr.buildSlice,run_underlying ht,sizeOf,typeInfo,zeroValue,h1,h2,h3,Instr.fill,newRow,hu,hv,hz,Jk,List.range_succ]
end run
section append
variable {P:Program} {w:World} {α:Type} {E:Bs α} {t ty e:TypeId} {b:Nat} {z:Value}
theorem I7 (hE:BZ E) (ht:P.underlying t = some (.slice e)) (hi:TI P e 1 z b) (hz:z.cells = #[z]) {v:Value} {xs:List α} {F:List Nat} (hv:BD E e w.heap v xs F) (hn:F.Nodup)
  {a:Value} {ys:List α} {G us:List Nat} (ha:Bl E w.heap a ys G) (hus:us = G.drop 1) (hbytes:(xs.length + ys.length) * b≤140737488355328) (hmx:xs.length + ys.length≤maxLen)
  (hdis:∀ c∈us,c∉F) (hnu:us.Nodup) :
  ∃ v' w' F',(Builtin.append_ #[t,t] ty #[v,a]).run P w = .ok v' w'∧BD E e w'.heap v' (xs++ys) F'∧F'.Nodup∧(∀ c∈F',c∈F∨c∈us∨c = w.heap.size)∧AB (F.take 1) w w':=by
 obtain ⟨i,h1,h2,h3,h4⟩:=hi.get
 subst h4
 have hsmall:xs.length + ys.length≤9223372036854775807:=by simp only [maxLen] at hmx; omega
 rcases ha with ⟨a0,cap0,rfl,rfl,rfl⟩ | ⟨asq,g,off,cap,cur,e',fr,G',hels,rfl,hg,hw,_,rfl⟩
 ·-- nothing is appended
  have hle:BD E e w.heap v xs F:=hv
  have hsl:∃ b0 c0,v = .slice b0 xs.length c0∧xs.length≤c0∧(b0 = none→xs.length = 0):=by
   rcases hv with ⟨rfl,rfl,_⟩ | ⟨_,g,cap,cur,F',_,rfl,_,hh,_⟩
   ·exact ⟨none,0,rfl,by simp,fun _=>rfl⟩
   ·exact ⟨_,cap,rfl,hh,fun h=>by cases h⟩
  obtain ⟨b0,c0,rfl,hc0,hb0⟩:=hsl
  refine ⟨_,w,F,?_,by simpa using hle,hn,fun c hc=>.inl hc,⟨rfl,rfl,rfl,A9 _,fun _ _ _=>rfl⟩⟩
  have hf:(Builtin.firstCells 1 0 (.slice a0 0 cap0)).run P w = .ok #[] w:=by
   cases a0 <;> simp [Builtin.firstCells,loadCells,loadCellsFrom]
  cases b0 with
  | none=>simp [Builtin.append_,run_underlying ht,sizeOf,typeInfo,h1,h3,Builtin.lenOf,hc0,hf]
  | some a1=>simp [Builtin.append_,run_underlying ht,sizeOf,typeInfo,h1,h3,Builtin.lenOf,hc0,hf,storeCells]
 ·simp only [List.drop_succ_cons,List.drop_zero] at hus
  subst hus
  have hasl:asq.length = ys.length:=hels.length
  have hnews:∀ j u,asq[j]? = some u→w.cell? ((⟨g,off,none⟩:Addr).add j) = some u:=by
   intro j u hj
   have e1:(⟨g,off,none⟩:Addr).add j = ⟨g,off + j,none⟩:=by
    unfold Addr.add
    split
    ·rename_i hh; subst hh; rfl
    ·rfl
   rw [e1,Ci]
   simp only [Cn,hg]
   rw [← hw,List.getElem?_take] at hj
   split at hj
   ·rw [List.getElem?_drop] at hj; simpa using hj
   ·cases hj
  have h1c:∀ u∈asq,u.oneCell' = true:=hels.one hE
  have hl1:asq.length = ys.length * i.size:=by rw [h3,hasl]; omega
  -- the new block
  have made:∀ (w1:World) (ous:List Value) (F0:List Nat) (rest:Nat),w1.heap = w.heap→w1.os = w.os→w1.tape = w.tape→w1.output = w.output→els E w.heap ous xs F0→(∀ c∈F0,c∈F)→F0.Nodup →
    (xs.length + ys.length + rest)≤maxLen→∀ (ow:List Nat),
    ∃ F',BD E e (w1.alloc (.cells (ous.toArray++asq.toArray++Builtin.zeroCells z.cells rest) e)).heap (.slice (some ⟨w.heap.size,0,none⟩) (xs.length + ys.length) (xs.length + ys.length + rest)) (xs++ys) F'∧F'.Nodup ∧
     (∀ c∈F',c∈F∨c∈us∨c = w.heap.size)∧AB ow w (w1.alloc (.cells (ous.toArray++asq.toArray++Builtin.zeroCells z.cells rest) e)):=by
   intro w1 ous F0 rest hh ho htp hop hou hsub hnd hmax ow
   have happ:=hou.append hels
   have hzc:(Builtin.zeroCells z.cells rest).size = rest:=by simp [Builtin.zeroCells,hz]
   have hsz:(ous.toArray++asq.toArray++Builtin.zeroCells z.cells rest).size = xs.length + ys.length + rest:=by
    simp only [Array.size_append,List.size_toArray,hzc,hasl,hou.length]
   have hnew:=FZ (e:=e) (w:=w1) hE (us:=ous++asq) (xs:=xs++ys) (F:=F0++us) (cur:=ous.toArray++asq.toArray++Builtin.zeroCells z.cells rest)
    (by rw [hh]; exact happ) (by rw [hsz]; exact hmax) (by
     rw [Array.toList_append,Array.toList_append]
     rw [show (xs++ys).length = (ous++asq).length from by simp [hou.length,hasl]]
     exact List.take_left) (by rw [hsz,z4]; omega)
   rw [hh,hsz,z4] at hnew
   refine ⟨_,hnew,?_,?_,?_⟩
   ·rw [List.nodup_cons]
    refine ⟨fun hm=>?_,?_⟩
    ·have:=happ.lt hE _ hm; omega
    ·rw [List.nodup_append]
     refine ⟨hnd,hnu,?_⟩
     rintro x hx y hy rfl
     exact hdis x hy<|hsub x hx
   ·intro c hc
    rcases ze.1 hc with rfl | hc
    ·exact .inr<|.inr rfl
    ·rcases zi.1 hc with hc | hc
     ·exact .inl<|hsub c hc
     ·exact .inr<|.inl hc
   ·refine ⟨ho,htp,hop,?_,fun k hk _=>?_⟩
    ·show w.heap.size≤(w1.heap.push _).size
     rw [hh]; simp
    ·have:=Below.heap_alloc w1 (.cells (ous.toArray++asq.toArray++Builtin.zeroCells z.cells rest) e) k (by rw [hh]; exact hk)
     rw [this,hh]
  rcases hv with ⟨rfl,rfl,rfl⟩ | ⟨ous,gv,capv,curv,F0,hels0,rfl,hgv,hle,hcm,hcs,htk,rfl⟩
  ·-- nil
   by_cases hy:ys.length = 0
   ·have hy0:ys = []:=List.eq_nil_of_length_eq_zero hy
    subst hy0
    have has0:asq = []:=List.eq_nil_of_length_eq_zero hasl
    subst has0
    rw [show us = [] from hels]
    refine ⟨.slice none 0 0,w,[],?_,.inl ⟨rfl,rfl,rfl⟩,zk,fun c hc=>(by cases hc),⟨rfl,rfl,rfl,A9 _,fun _ _ _=>rfl⟩⟩
    simp [Builtin.append_,run_underlying ht,sizeOf,typeInfo,h1,Builtin.lenOf,Builtin.firstCells,loadCells,loadCellsFrom]
   ·have hr:=run_append_nil (P:=P) w t ty e i z ht h1 h2 ⟨g,off,none⟩ ys.length cap asq hl1 hnews zO (by simp at hsmall; omega) (by simp only [zb,Nat.zero_add] at hbytes; omega)
    have hge:=grownCap_ge w ys.length 0 e
    have hgm:=grownCap_le_maxLen w ys.length 0 e (by simpa using hmx)
    obtain ⟨F',q1,q2,q3,q4⟩:=made w.drew [] [] (grownCap w ys.length 0 e - ys.length) rfl rfl rfl rfl rfl (fun c hc=>by cases hc) zk (by simp; omega) (List.take 1 [])
    refine ⟨_,_,F',hr,?_,q2,q3,?_⟩
    ·have ea:(([]:List α).length + ys.length + (grownCap w ys.length 0 e - ys.length)) = grownCap w ys.length 0 e:=by simp; omega
     rw [ea] at q1
     simpa using q1
    ·simpa using q4
  ·by_cases hroom:xs.length + ys.length≤capv
   ·-- room
    have hr:=run_append_room (P:=P) w t ty e i ht h1 gv xs.length capv curv hgv ⟨g,off,none⟩ ys.length cap asq hl1 hnews h1c hroom (by rw [h3,hasl,hcs]; omega)
    rw [h3] at hr
    refine ⟨_,_,gv :: (F0++us),hr,?_,?_,?_,?_⟩
    ·have hgF:gv∉F0:=(List.nodup_cons.1 hn).1
     have hgU:gv∉us:=fun hm=>hdis gv hm (z0 ..)
     refine .inr ⟨ous++asq,gv,capv,_,F0++us,?_,by rw [z4],setRow_heap w gv curv _ e _ hgv,by rw [z4]; exact hroom,hcm,?_,?_,rfl⟩
     ·refine (hels0.append hels).stable hE fun c hc=>setRow_other w gv c _ fun hcg=>?_
      subst hcg
      rcases zi.1 hc with hc | hc
      ·exact hgF hc
      ·exact hgU hc
     ·simp only [List.size_toArray,z4,List.length_take,List.length_drop,Array.length_toList]
      omega
     ·rw [z4]
      simp only [Nat.mul_one]
      rw [htk,show xs.length + ys.length = (ous++asq).length from by simp [hels0.length,hasl]]
      exact List.take_left
    ·rw [List.nodup_cons,List.nodup_append]
     have hn':=List.nodup_cons.1 hn
     refine ⟨?_,hn'.2,hnu,?_⟩
     ·intro hm
      rcases zi.1 hm with hm | hm
      ·exact hn'.1 hm
      ·exact hdis gv hm (z0 ..)
     ·rintro x hx y hy rfl
      exact hdis x hy<|z3 _ hx
    ·intro c hc
     rcases ze.1 hc with rfl | hc
     ·exact .inl (z0 ..)
     ·rcases zi.1 hc with hc | hc
      ·exact .inl<|z3 _ hc
      ·exact .inr<|.inl hc
    ·refine ⟨rfl,rfl,rfl,by simp,fun k _ hk=>setRow_other w gv k _ fun hh=>hk (by simp [hh])⟩
   ·-- grown
    have holds:∀ j u,ous[j]? = some u→w.cell? ((⟨gv,0,none⟩:Addr).add j) = some u:=by
     intro j u hj
     have e1:(⟨gv,0,none⟩:Addr).add j = ⟨gv,j,none⟩:=by
      unfold Addr.add
      split
      ·rename_i hh; subst hh; rfl
      ·simp
     rw [e1,Ci]
     simp only [Cn,hgv]
     rw [← htk,List.getElem?_take] at hj
     split at hj
     ·simpa using hj
     ·cases hj
    have hr:=run_append_grow (P:=P) w t ty e i z ht h1 h2 ⟨gv,0,none⟩ xs.length capv ous (by rw [h3,hels0.length]; omega) holds ⟨g,off,none⟩ ys.length cap asq hl1 hnews zO zO<|growslice_fits zO hbytes
    have hge:=grownCap_ge w (xs.length + ys.length) capv e
    have hgm:=grownCap_le_maxLen w (xs.length + ys.length) capv e hmx
    obtain ⟨F',q1,q2,q3,q4⟩:=made w.drew ous F0 (grownCap w (xs.length + ys.length) capv e - (xs.length + ys.length)) rfl rfl rfl rfl hels0 (fun c hc=>z3 _ hc) (List.nodup_cons.1 hn).2 zO (List.take 1 (gv :: F0))
    refine ⟨_,_,F',hr,?_,q2,q3,q4⟩
    have ea:(xs.length + ys.length + (grownCap w (xs.length + ys.length) capv e - (xs.length + ys.length))) = grownCap w (xs.length + ys.length) capv e:=by omega
    rw [ea] at q1
    exact q1
theorem Sm (ht:P.underlying t=some (.slice e))(hi:TI P e 1 z b)(hz:z.cells=#[z]){v:Value}{xs:List Int}{B U:Nat}(hv:Fr (BD rI e) B U w.heap v xs)(hB:B≤w.heap.size)
  {a:Value} {ys:List Int} (ha:Rd (Bl rI) w.heap a ys) (hbytes:(xs.length+ys.length)*b≤140737488355328) (hmx:xs.length+ys.length≤maxLen) :
  ∃v' w' F,(Builtin.append_ #[t,t] ty #[v,a]).run P w=.ok v' w'∧Fr (BD rI e) B w'.heap.size w'.heap v' (xs++ys)∧AB F w w'∧∀c∈F,B≤c∧c<U:=by
 obtain⟨F,h1,h2,h3⟩:=hv
 obtain⟨G,hG⟩:=ha
 have hGe:G.drop 1=[]:=by
  rcases hG with⟨_,_,_,_,rfl⟩|⟨us,g,off,cap,cur,e',fr,F',hels,_,_,_,_,rfl⟩
  ·rfl
  ·show F'=[]
   have:∀ {us:List Value} {xs:List Int} {F:List Nat},els rI w.heap us xs F→F=[]:=by
    intro us xs
    induction us generalizing xs with
    |nil=>intro F h;cases xs with
     |nil=>exact h
     |cons=>exact h.elim
    |cons u us ih =>
     intro F h
     cases xs with
     |nil=>exact h.elim
     |cons x xs =>
      obtain⟨F1,F2,rfl,q1,q2⟩:=h
      rw[q1.2.1,ih q2];rfl
   exact this hels
 obtain⟨v',w',F',r1,r2,r3,r4,r5⟩:=I7 (P:=P) (ty:=ty) AN ht hi hz h1 h2 hG rfl hbytes hmx (by rw[hGe];intro c hc;cases hc) (by rw[hGe];exact zk)
 refine⟨v',w',F.take 1,r1,⟨F',r2,r3,fun c hc=>?_⟩,r5,fun c hc=>h3 c (zj hc)⟩
 have hlt:=o1.lt r2 c hc
 refine⟨?_,hlt⟩
 rcases r4 c hc with hh|hh|hh
 ·exact (h3 c hh).1
 ·rw[hGe]at hh;cases hh
 ·omega
theorem Sn (hE:BZ E)(ht:P.underlying t=some (.slice e))(hi:TI P e 1 z b)(hz:z.cells=#[z]){v:Value}{xs:List α}{B U:Nat}(hv:Fr (BD E e) B U w.heap v xs)(hB:B≤w.heap.size)
  {a:Value} {ys:List α} {B' U':Nat} (ha:Fr (BD E e) B' U' w.heap a ys) (hU:U≤B') (hBB:B≤B') (hbytes:(xs.length+ys.length)*b≤140737488355328) (hmx:xs.length+ys.length≤maxLen) :
  ∃v' w' F,(Builtin.append_ #[t,t] ty #[v,a]).run P w=.ok v' w'∧Fr (BD E e) B w'.heap.size w'.heap v' (xs++ys)∧AB F w w'∧∀c∈F,B≤c∧c<U:=by
 obtain⟨F,h1,h2,h3⟩:=hv
 obtain⟨G,g1,g2,g3⟩:=ha
 have gd:∀c∈G.drop 1,c∈G:=fun c hc=>List.mem_of_mem_drop hc
 obtain⟨v',w',F',r1,r2,r3,r4,r5⟩:=I7 (P:=P) (ty:=ty) hE ht hi hz h1 h2 (g1.rd id) rfl hbytes hmx (fun c hc hF=>by have:=g3 c (gd c hc);have:=h3 c hF;omega)
  ((List.drop_sublist 1 G).nodup g2)
 refine⟨v',w',F.take 1,r1,⟨F',r2,r3,fun c hc=>?_⟩,r5,fun c hc=>h3 c (zj hc)⟩
 have hlt:=(Bc hE).lt r2 c hc
 refine⟨?_,hlt⟩
 rcases r4 c hc with hh|hh|hh
 ·exact (h3 c hh).1
 ·have:=g3 c (gd c hh);omega
 ·omega
end append
section ops
variable {P:Program} {ops:Array Oper} {w0:World} {Q:Act→World→Prop} {os:List Oper} {ks:List Nat} {N:Nat} {ρ:Nat→Value} {w:World}
 {d:Nat} {ty:TypeId} {pos:String} {aft:Array Edge} {g:Option (Nat×Bool)} {t e:TypeId} {z:Value} {b:Nat}
theorem Dt {α:Type}(E:Bs α)(hE:BZ E){s:Nat}(ht:P.underlying t=some (.slice e))(hi:TI P e s z b)(hu:Up ops N ρ ⟨some d,.buildSlice t 0 #[],ty,pos,aft,g⟩)
  (h:∀v w1,AD w w1→w1.heap.size=w.heap.size+1→Fr (BD E e) w.heap.size w1.heap.size w1.heap v ([]:List α)→LW P ops w0 Q os ks (mk N (CI ρ d v)) w1) :
  LW P ops w0 Q (⟨some d,.buildSlice t 0 #[],ty,pos,aft,g⟩::os) (3::ks) (mk N ρ) w:=by
 have hrun:(execOp (Br N ρ) ⟨some d,.buildSlice t 0 #[],ty,pos,aft,g⟩).run P w=.ok (.value (.slice (some ⟨w.heap.size,0,none⟩) 0 0)) (w.alloc (.cells #[] e)):=by
  simp only[execOp,zc,zh,Sem.run_bind,Ql ht hi,Result.andThen_ok,Sem.run_pure]
 refine Ji rfl hu _ _ hrun (BA _ _)<|h _ _ (BA _ _) (by simp) ?_
 refine⟨_,FZ (e:=e) (w:=w) hE (us:=[]) (xs:=([]:List α)) (F:=[]) (cur:=#[]) rfl (by simp) rfl (by simp),by simp,fun c hc=>?_⟩
 simp at hc
 subst hc
 simp
theorem BQ {α:Type}{E:Bs α}(hE:BZ E){x:Operand}{u:Value}{y:α}{B U:Nat}(ht:P.underlying t=some (.slice e))(hi:TI P e 1 z b)(hz:z.cells=#[z])(hx:Br N ρ x=u)(hy:Fr E B U w.heap u y)(hB:B≤w.heap.size)
  (hu:Up ops N ρ ⟨some d,.buildSlice t 1 #[(0,x)],ty,pos,aft,g⟩)
  (h:∀v w1,AD w w1→w1.heap.size=w.heap.size+1→Fr (BD E e) B w1.heap.size w1.heap v [y]→LW P ops w0 Q os ks (mk N (CI ρ d v)) w1) :
  LW P ops w0 Q (⟨some d,.buildSlice t 1 #[(0,x)],ty,pos,aft,g⟩::os) (3::ks) (mk N ρ) w:=by
 obtain⟨F,h1,h2,h3⟩:=hy
 have hr:=Qm (P:=P) (w:=w) ht hi (hE.cells h1) hz
 have hrun:(execOp (Br N ρ) ⟨some d,.buildSlice t 1 #[(0,x)],ty,pos,aft,g⟩).run P w=.ok (.value (.slice (some ⟨w.heap.size,0,none⟩) 1 1)) (w.alloc (.cells #[u] e)):=by
  simp only[execOp,zc,zf,zh,Sem.run_bind,hx,hr,Result.andThen_ok,Sem.run_pure]
 refine Ji rfl hu _ _ hrun (BA _ _)<|h _ _ (BA _ _) (by simp) ?_
 have hn:=FZ (e:=e) (w:=w) hE (us:=[u]) (xs:=[y]) (F:=F++[]) (cur:=#[u]) ⟨F,[],rfl,h1,rfl⟩ (by simp[maxLen]) rfl (by simp)
 refine⟨_,hn,?_,fun c hc=>?_⟩
 ·rw[List.append_nil,List.nodup_cons]
  exact⟨fun hm=>by have:=hE.lt h1 _ hm;omega,h2⟩
 ·have hlt:=(Bc hE).lt hn c hc
  refine⟨?_,hlt⟩
  rcases ze.1 hc with rfl|hc
  ·exact hB
  ·exact (h3 c (by simpa using hc)).1
theorem Jl (B U:Nat)(H:Array Obj)(x:Int)(h:-9223372036854775808≤x∧x≤9223372036854775807):Fr rI B U H (.int .i64 x) x:=⟨[],⟨rfl,rfl,h.1,h.2⟩,zk,fun c hc=>by cases hc⟩
theorem Gd {x y:Operand}{n:Nat}{c:Int}(ht:P.underlying t=some (.slice e))(hi:TI P e 1 (.int .i64 0) 8)(hx:Br N ρ x=.int .i64 c)(hy:Br N ρ y=.int .i64 c)(hc:c=(n:Int))(hn:n≤35184372088832)
  (hu:Up ops N ρ ⟨some d,.makeSlice t x y,ty,pos,aft,g⟩)
  (h:∀v w1,AD w w1→w1.heap.size=w.heap.size+1→Fr (BD rI e) w.heap.size w1.heap.size w1.heap v (List.replicate n 0)→LW P ops w0 Q os ks (mk N (CI ρ d v)) w1) :
  LW P ops w0 Q (⟨some d,.makeSlice t x y,ty,pos,aft,g⟩::os) (3::ks) (mk N ρ) w:=by
 subst hc
 obtain⟨i,h1,h2,h3,h4⟩:=hi.get
 have hr:=run_make (P:=P) w t e i _ ht h1 h2 .i64 .i64 n n zO zO (by rw[h4];omega) zO
 have hrun:(execOp (Br N ρ) ⟨some d,.makeSlice t x y,ty,pos,aft,g⟩).run P w=.ok (.value (.slice (some ⟨w.heap.size,0,none⟩) n n)) (w.alloc (.cells (madeCells (Value.int .i64 0).cells ((n:Int).toNat*i.size)) e)):=by
  simp only[execOp,Sem.run_bind,hx,hy,hr,Result.andThen_ok,Sem.run_pure,Int.toNat_natCast]
 refine Ji rfl hu _ _ hrun (BA _ _)<|h _ _ (BA _ _) (by simp) ?_
 have hels:∀n,els rI w.heap (List.replicate n (.int .i64 0)) (List.replicate n (0:Int)) []:=by
  intro n
  induction n with
  |zero=>rfl
  |succ n ih=>exact⟨[],[],rfl,⟨rfl,rfl,zO,zO⟩,ih⟩
 have hmc:(madeCells (Value.int .i64 0).cells ((n:Int).toNat*i.size)).toList=List.replicate n (.int .i64 0):=by
  rw[h3]
  simp only[Int.toNat_natCast,Nat.mul_one,madeCells,Value.cells]
  apply List.ext_getElem
  ·simp
  ·intro j q1 q2
   simp[Nat.mod_one]
 have hcs:(madeCells (Value.int .i64 0).cells ((n:Int).toNat*i.size)).size=n:=by rw[size_madeCells,h3];simp
 have hn':=FZ (e:=e) (w:=w) AN (us:=List.replicate n (.int .i64 0)) (xs:=List.replicate n (0:Int)) (F:=[]) (cur:=madeCells (Value.int .i64 0).cells ((n:Int).toNat*i.size)) (hels n) (by rw[hcs];simp only[maxLen];omega)
  (by rw[hmc,z5];exact za (by simp)) (by rw[hcs];simp)
 rw[hcs]at hn'
 simp only[z5]at hn'
 refine⟨_,by simpa using hn',by simp,fun c hc=>?_⟩
 simp at hc
 subst hc
 simp
theorem FH {x y:Operand}{v a:Value}{xs ys:List Int}{B U:Nat}(ht:P.underlying t=some (.slice e))(hi:TI P e 1 z b)(hz:z.cells=#[z])(hx:Br N ρ x=v)(hy:Br N ρ y=a)(hv:Fr (BD rI e) B U w.heap v xs)(hB:B≤w.heap.size)
  (ha:Rd (Bl rI) w.heap a ys) (hbytes:(xs.length+ys.length)*b≤140737488355328) (hmx:xs.length+ys.length≤maxLen) (hu:Up ops N ρ ⟨some d,.call ⟨.builtin .append,#[x,y],#[t,t]⟩,ty,pos,aft,g⟩)
  (h:∀v1 w1 F,AB F w w1→(∀c∈F,B≤c∧c<U)→Fr (BD rI e) B w1.heap.size w1.heap v1 (xs++ys)→LW P ops w0 Q os ks (mk N (CI ρ d v1)) w1) :
  LW P ops w0 Q (⟨some d,.call ⟨.builtin .append,#[x,y],#[t,t]⟩,ty,pos,aft,g⟩::os) (4::ks) (mk N ρ) w:=by
 obtain⟨v1,w1,F,r1,r2,r3,r4⟩:=Sm (P:=P) (ty:=ty) ht hi hz hv hB ha hbytes hmx
 exact Ku rfl hu v1 w1 (by simp only[execOp,resolve,invoke,builtin,zc,zf,zh,Sem.run_bind,Sem.run_pure,Result.andThen_ok,hx,hy,r1])<|h v1 w1 F r3 r4 r2
theorem Nd {α:Type}{E:Bs α}(hE:BZ E){x y:Operand}{v a:Value}{xs ys:List α}{B U B' U':Nat}(ht:P.underlying t=some (.slice e))(hi:TI P e 1 z b)(hz:z.cells=#[z])(hx:Br N ρ x=v)(hy:Br N ρ y=a)(hv:Fr (BD E e) B U w.heap v xs)(hB:B≤w.heap.size)
  (ha:Fr (BD E e) B' U' w.heap a ys) (hU:U≤B') (hBB:B≤B') (hbytes:(xs.length+ys.length)*b≤140737488355328) (hmx:xs.length+ys.length≤maxLen) (hu:Up ops N ρ ⟨some d,.call ⟨.builtin .append,#[x,y],#[t,t]⟩,ty,pos,aft,g⟩)
  (h:∀v1 w1 F,AB F w w1→(∀c∈F,B≤c∧c<U)→Fr (BD E e) B w1.heap.size w1.heap v1 (xs++ys)→LW P ops w0 Q os ks (mk N (CI ρ d v1)) w1) :
  LW P ops w0 Q (⟨some d,.call ⟨.builtin .append,#[x,y],#[t,t]⟩,ty,pos,aft,g⟩::os) (4::ks) (mk N ρ) w:=by
 obtain⟨v1,w1,F,r1,r2,r3,r4⟩:=Sn (P:=P) (ty:=ty) hE ht hi hz hv hB ha hU hBB hbytes hmx
 exact Ku rfl hu v1 w1 (by simp only[execOp,resolve,invoke,builtin,zc,zf,zh,Sem.run_bind,Sem.run_pure,Result.andThen_ok,hx,hy,r1])<|h v1 w1 F r3 r4 r2
theorem JU {st:TypeId}{x y:Operand}{v:Value}{n:Int}{xs:List Int}{B U j:Nat}(hst:(P.info? st).map (·.size)=some 1)(hx:Br N ρ x=AE v j 1)(hy:Br N ρ y=.int .i64 n)(hn:-9223372036854775808≤n∧n≤9223372036854775807)
  (hv:Fr (BD rI e) B U w.heap v xs) (hj:j<xs.length) (hu:Up ops N ρ ⟨none,.store st x y,ty,pos,aft,g⟩)
  (h:∀w1 F,AB F w w1→w1.heap.size=w.heap.size→(∀c∈F,B≤c∧c<U)→Fr (BD rI e) B U w1.heap v (xs.set j n)→LW P ops w0 Q os ks (mk N ρ) w1) :
  LW P ops w0 Q (⟨none,.store st x y,ty,pos,aft,g⟩::os) (4::ks) (mk N ρ) w:=by
 obtain⟨F,h1,h2,h3⟩:=hv
 rcases h1 with⟨rfl,rfl,rfl⟩|⟨us,gb,cap,cur,F',hels,rfl,hg,r1,r2,r3,r4,rfl⟩
 ·simp at hj
 ·obtain⟨i,hi1,hi2⟩:=Option.map_eq_some_iff.1 hst
  rw[GW]at hx
  have hsz:j<cur.size:=by omega
  have hcell:w.cell? ⟨gb,j,none⟩=some cur[j]:=by
   rw[Ci];simp[Cn,hg,hsz]
  have hfz:w.frozen? ⟨gb,j,none⟩=false:=by
   simp only[World.frozen?,hg];simp
  have hrun:(Instr.storeAt st (.pointer (some ⟨gb,0+j,none⟩)) (.int .i64 n)).run P w=.ok () (w.setCell ⟨gb,j,none⟩ (.int .i64 n)):=by
   have hadd:(⟨gb,j,none⟩:Addr).add 0=⟨gb,j,none⟩:=rfl
   rw[Nat.zero_add]
   simp only[Instr.storeAt,Instr.sureAddr,Sem.run_bind,Sem.run_pure,Result.andThen_ok,storeVar,sizeOf,typeInfo,run_program,hi1,hi2,Value.cells]
   have hst1:(store ⟨gb,j,none⟩ (.int .i64 n)).run P w=.ok () (w.setCell ⟨gb,j,none⟩ (.int .i64 n)):=by
    rw[run_store P w _ _ _ rfl,hcell]
    simp only[hfz]
    rfl
   simp[storeCells,hadd,hst1]
  have hrun2:(execOp (Br N ρ) ⟨none,.store st x y,ty,pos,aft,g⟩).run P w=.ok .skip (w.setCell ⟨gb,j,none⟩ (.int .i64 n)):=by
   simp only[execOp,hx,hy,Sem.run_bind,hrun,Result.andThen_ok,Sem.run_pure]
  refine Oi rfl hu _ hrun2<|h _ [gb] ?_ (by simp[World.setCell]) (fun c hc=>by simp at hc;subst hc;exact h3 _ (z0 ..)) ?_
  ·refine⟨rfl,rfl,rfl,by simp[World.setCell],fun k hk hne=>Below.heap_setCell _ _ _ _ (by simpa using hne)⟩
  ·have hheap:(w.setCell ⟨gb,j,none⟩ (.int .i64 n)).heap[gb]? = some (.cells (cur.setIfInBounds j (.int .i64 n)) e (0,0)):=by
    simp only[World.setCell,Array.getElem?_modify]
    simp[hg]
   have hset:∀ {us:List Value} {xs:List Int} {F:List Nat} {k:Nat} {H:Array Obj},els rI H us xs F→k<xs.length→els rI H (us.set k (.int .i64 n)) (xs.set k n) F:=by
    intro us
    induction us with
    |nil=>intro xs F k H hh hk;cases xs with
     |nil=>simp at hk
     |cons=>exact hh.elim
    |cons u us ih =>
     intro xs F k H hh hk
     cases xs with
     |nil=>exact hh.elim
     |cons x xs =>
      obtain⟨F1,F2,rfl,q1,q2⟩:=hh
      cases k with
      |zero=>exact⟨F1,F2,rfl,⟨rfl,q1.2.1,hn.1,hn.2⟩,q2⟩
      |succ k=>exact⟨F1,F2,rfl,q1,ih q2 (by simpa using hk)⟩
   refine⟨gb::F',.inr ⟨us.set j (.int .i64 n),gb,cap,_,F',?_,by simp,hheap,by simpa using r1,r2,by simpa using r3,?_,rfl⟩,h2,h3⟩
   ·exact(hset hels hj).stable AN fun c hc=>Below.heap_setCell _ _ _ _ fun he=>by
     simp only at he
     subst he
     exact (List.nodup_cons.1 h2).1 hc
   ·rw[z6,Array.toList_setIfInBounds,List.take_set,r4]
end ops
end
section
section els
variable {α:Type} {E:Bs α} {H:Array Obj}
theorem els.at_:∀ {us:List Value}{xs:List α}{F:List Nat}{k:Nat}(d:α),els E H us xs F→k<xs.length→F.Nodup →
  ∃u G,us[k]? = some u∧E H u (xs.getD k d) G∧G.Nodup∧(∀b∈G,b∈F) ∧
   (∀ {E':Bs α} {H':Array Obj} {y:α},(∀ {v x C},E H v x C→(∀b∈C,b∈F∧b∉G)→E' H' v x C)→E' H' u y G→els E' H' us (xs.set k y) F)
 |u::us,x::xs,_,0,d,⟨F1,F2,rfl,h1,h2⟩,_,hn=>by
  have hn':=List.nodup_append.1 hn
  refine⟨u,F1,rfl,h1,hn'.1,fun b hb=>z8 _ hb,fun {E' H' y} hE hu=>⟨F1,F2,rfl,hu,?_⟩⟩
  have key:∀ {us:List Value} {xs:List α} {F:List Nat},els E H us xs F→(∀b∈F,b∈F2)→els E' H' us xs F:=by
   intro us
   induction us with
   |nil=>intro xs F h _;cases xs with
    |nil=>exact h
    |cons=>exact h.elim
   |cons u us ih =>
    intro xs F h hs
    cases xs with
    |nil=>exact h.elim
    |cons x xs =>
     obtain⟨A,C,rfl,q1,q2⟩:=h
     exact⟨A,C,rfl,hE q1 fun b hb=>⟨z1 _ (hs b (z8 _ hb)),fun hc=>hn'.2.2 b hc b (hs b (z8 _ hb)) rfl⟩,ih q2 fun b hb=>hs b (z1 _ hb)⟩
  exact key h2 fun b hb=>hb
 |u::us,x::xs,_,k+1,d,⟨F1,F2,rfl,h1,h2⟩,hk,hn=>by
  have hn':=List.nodup_append.1 hn
  obtain⟨u',G,hu,hx,hg,hb,hc⟩:=els.at_ d h2 (by simpa using hk) hn'.2.1
  refine⟨u',G,by simpa using hu,by simpa using hx,hg,fun b hh=>z1 _ (hb b hh),fun hE hy=>⟨F1,F2,rfl,hE h1 fun b hb'=>⟨z8 _ hb',fun hc'=>hn'.2.2 b hb' b (hb b hc') rfl⟩,?_⟩⟩
  exact hc (fun q hs=>hE q fun b hb'=>⟨z1 _ (hs b hb').1,(hs b hb').2⟩) hy
 |[],[],_,_,_,_,hk,_=>by simp at hk
 |[],_::_,_,_,_,h,_,_=>h.elim
 |_::_,[],_,_,_,h,_,_=>h.elim
theorem els.set:∀ {us:List Value}{xs:List α}{F G:List Nat}{k:Nat}{u:Value}{y:α},els E H us xs F→k<xs.length→F.Nodup→E H u y G→G.Nodup→(∀b∈G,b∉F) →
  ∃F',els E H (us.set k u) (xs.set k y) F'∧F'.Nodup∧∀b∈F',b∈F∨b∈G
 |u0::us,x::xs,_,G,0,u,y,⟨F1,F2,rfl,h1,h2⟩,_,hn,hy,hg,hd=>by
  have hn':=List.nodup_append.1 hn
  refine⟨G++F2,⟨G,F2,rfl,hy,h2⟩,List.nodup_append.2 ⟨hg,hn'.2.1,?_⟩,fun b hb=>(zi.1 hb).elim .inr fun h=>.inl (z1 _ h)⟩
  rintro a ha b hb rfl
  exact hd a ha<|z1 _ hb
 |u0::us,x::xs,_,G,k+1,u,y,⟨F1,F2,rfl,h1,h2⟩,hk,hn,hy,hg,hd=>by
  have hn':=List.nodup_append.1 hn
  obtain⟨F',q1,q2,q3⟩:=els.set h2 (by simpa using hk) hn'.2.1 hy hg fun b hb hc=>hd b hb (z1 _ hc)
  refine⟨F1++F',⟨F1,F',rfl,h1,q1⟩,List.nodup_append.2 ⟨hn'.1,q2,?_⟩,fun b hb=>?_⟩
  ·rintro a ha b hb rfl
   rcases q3 a hb with hh|hh
   ·exact hn'.2.2 a ha a hh rfl
   ·exact hd a hh<|z8 _ ha
  ·rcases zi.1 hb with hh|hh
   ·exact .inl<|z8 _ hh
   ·rcases q3 b hh with h'|h'
    ·exact .inl<|z1 _ h'
    ·exact .inr h'
 |[],[],_,_,_,_,_,_,hk,_,_,_,_=>by simp at hk
 |[],_::_,_,_,_,_,_,h,_,_,_,_,_=>h.elim
 |_::_,[],_,_,_,_,_,h,_,_,_,_,_=>h.elim
end els
def rV:Bs Value:=fun _ v x F=>v=x∧F=[]∧v.cells=#[v]∧v.oneCell'=true
theorem BY:BZ rV:=⟨fun h=>h.2.2.1,fun h=>h.2.2.2,fun h b hb=>(by rw[h.2.1]at hb;cases hb),fun h _=>h⟩
theorem Fr.row {α:Type}{E:Bs α}{e:TypeId}(hE:BZ E){B U:Nat}{w:World}{v:Value}{xs:List α}(d:α)(h:Fr (BD E e) B U w.heap v xs){r:Nat}(hr:r<xs.length) :
  ∃u G,Hp w.heap (AE v r 1)=some u∧E w.heap u (xs.getD r d) G∧G.Nodup∧(∀b∈G,B≤b∧b<U) ∧
   ∀ {w':World} {y:α},AB G w w'→E w'.heap u y G→Fr (BD E e) B U w'.heap v (xs.set r y):=by
 obtain⟨F,h1,h2,h3⟩:=h
 rcases h1 with⟨rfl,rfl,rfl⟩|⟨us,g,cap,cur,F',hels,rfl,hg,r1,r2,r3,r4,rfl⟩
 ·simp at hr
 ·have hn:=List.nodup_cons.1 h2
  obtain⟨u,G,hu,hx,hgn,hsub,hput⟩:=hels.at_ d hr hn.2
  refine⟨u,G,?_,hx,hgn,fun b hb=>h3 b (z3 _ (hsub b hb)),?_⟩
  ·rw[GW]
   simp only[Hp,Cn,hg,Nat.zero_add]
   rw[← r4,List.getElem?_take,if_pos hr]at hu
   simpa using hu
  ·intro w' y hc hy
   refine⟨g::F',.inr ⟨us,g,cap,cur,F',?_,by simp,?_,by simpa using r1,r2,r3,by simpa using r4,rfl⟩,h2,h3⟩
   ·exact hput (fun q hs=>hE.stable q fun b hb=>hc.block b (hels.lt hE b (hs b hb).1) (hs b hb).2) hy
   ·rw[hc.block g (getElem?_lt hg) fun hm=>hn.1 (hsub g hm)];exact hg
section run
variable {P:Program} {w:World}
theorem L7 {st:TypeId}(hst:(P.info? st).map (·.size)=some 1){g j:Nat}{cur:Array Value}{e:TypeId}(hg:w.heap[g]? = some (.cells cur e (0,0)))(hj:j<cur.size){u:Value}(hc:u.cells=#[u])(h1:u.oneCell'=true) :
  (Instr.storeAt st (.pointer (some ⟨g,j,none⟩)) u).run P w=.ok () (w.setCell ⟨g,j,none⟩ u):=by
 obtain⟨i,hi1,hi2⟩:=Option.map_eq_some_iff.1 hst
 have hcell:w.cell? ⟨g,j,none⟩=some cur[j]:=by
  rw[Ci];simp[Cn,hg,hj]
 have hfz:w.frozen? ⟨g,j,none⟩=false:=by
  simp only[World.frozen?,hg];simp
 have hadd:(⟨g,j,none⟩:Addr).add 0=⟨g,j,none⟩:=rfl
 have hst1:(store ⟨g,j,none⟩ u).run P w=.ok () (w.setCell ⟨g,j,none⟩ u):=by
  rw[run_store P w _ _ _ h1,hcell]
  simp only[hfz]
  rfl
 simp only[Instr.storeAt,Instr.sureAddr,Sem.run_bind,Sem.run_pure,Result.andThen_ok,storeVar,sizeOf,typeInfo,run_program,hi1,hi2,hc]
 simp[storeCells,hadd,hst1]
theorem Qn (w:World)(g j:Nat)(u:Value):AB [g] w (w.setCell ⟨g,j,none⟩ u) :=
 ⟨rfl,rfl,rfl,by simp[World.setCell],fun k hk hne=>Below.heap_setCell _ _ _ _ (by simpa using hne)⟩
theorem Oj {w:World}{g j:Nat}{u:Value}{cur:Array Value}{e:TypeId}(hg:w.heap[g]? = some (.cells cur e (0,0))):(w.setCell ⟨g,j,none⟩ u).heap[g]? = some (.cells (cur.setIfInBounds j u) e (0,0)):=by
 simp only[World.setCell,Array.getElem?_modify]
 simp[hg]
theorem KG {α:Type}{E:Bs α}(hE:BZ E){st e:TypeId}(hst:(P.info? st).map (·.size)=some 1){v:Value}{xs:List α}{F:List Nat}(hv:BD E e w.heap v xs F)(hn:F.Nodup){j:Nat}(hj:j<xs.length)
  {u:Value} {y:α} {G:List Nat} (hy:E w.heap u y G) (hg:G.Nodup) (hd:∀b∈G,b∉F) :
  ∃w' F',(Instr.storeAt st (AE v j 1) u).run P w=.ok () w'∧BD E e w'.heap v (xs.set j y) F'∧F'.Nodup∧(∀b∈F',b∈F∨b∈G)∧AB (F.take 1) w w'∧w'.heap.size=w.heap.size:=by
 rcases hv with⟨rfl,rfl,rfl⟩|⟨us,g,cap,cur,F0,hels,rfl,hgc,r1,r2,r3,r4,rfl⟩
 ·simp at hj
 ·have hn':=List.nodup_cons.1 hn
  obtain⟨F',q1,q2,q3⟩:=hels.set hj hn'.2 hy hg fun b hb hc=>hd b hb (z3 _ hc)
  have hgF':g∉F':=fun hm=>(q3 g hm).elim hn'.1 fun h=>hd g h (z0 ..)
  rw[GW,Nat.zero_add]
  refine⟨_,g::F',L7 hst hgc zO (hE.cells hy) (hE.one hy),.inr ⟨us.set j u,g,cap,_,F',?_,by simp,Oj hgc,by simpa using r1,r2,by simpa using r3,?_,rfl⟩,List.nodup_cons.2 ⟨hgF',q2⟩,fun b hb=>?_,Qn _ _ _ _,by simp[World.setCell]⟩
  ·exact q1.stable hE fun c hc=>Below.heap_setCell _ _ _ _ fun he=>by
    simp only at he
    subst he
    exact hgF' hc
  ·rw[z6,Array.toList_setIfInBounds,List.take_set,r4]
  ·rcases ze.1 hb with rfl|hb
   ·exact .inl (z0 ..)
   ·exact (q3 b hb).elim (fun h=>.inl<|z3 _ h) .inr
end run
section opn
variable {α:Type} {E:Bs α} {e:TypeId} {B U:Nat} {v:Value}
theorem L8 {H:Array Obj}:∀ {us:List Value},(∀u∈us,u.cells=#[u]∧u.oneCell'=true)→els rV H us us []
 |[],_=>rfl
 |u::_,h=>⟨[],[],rfl,⟨rfl,rfl,h u (z0 ..)⟩,L8 fun x hx=>h x (z3 _ hx)⟩
theorem els.cells1 (hE:BZ E){H:Array Obj}:∀ {us:List Value}{xs:List α}{F:List Nat},els E H us xs F→∀u∈us,u.cells=#[u]∧u.oneCell'=true
 |[],[],_,_,u,hu=>by cases hu
 |_::_,_::_,_,⟨F1,F2,rfl,h1,h2⟩,v,hv=>(ze.1 hv).elim (fun e=>e ▸ ⟨hE.cells h1,hE.one h1⟩) (els.cells1 hE h2 v)
 |[],_::_,_,h,_,_=>h.elim
 |_::_,[],_,h,_,_=>h.elim
end opn
theorem Cs {v:Value}{n:Nat}(h:Fu v n):v.cells=#[v]∧v.oneCell'=true:=by
 obtain⟨a,c,rfl,_⟩:=h;exact⟨rfl,rfl⟩
section ops
variable {P:Program} {ops:Array Oper} {w0:World} {Q:Act→World→Prop} {os:List Oper} {ks:List Nat} {N:Nat} {ρ:Nat→Value} {w:World}
 {d:Nat} {ty:TypeId} {pos:String} {aft:Array Edge} {g:Option (Nat×Bool)} {t e:TypeId} {z:Value} {b:Nat}
theorem GY {st:TypeId}{x y:Operand}{p u:Value}{w1:World}(hx:Br N ρ x=p)(hy:Br N ρ y=u)(hr:(Instr.storeAt st p u).run P w=.ok () w1) :
  (execOp (Br N ρ) ⟨none,.store st x y,ty,pos,aft,g⟩).run P w=.ok .skip w1:=by
 simp only[execOp,hx,hy,Sem.run_bind,hr,Result.andThen_ok,Sem.run_pure]
theorem AK {x:Operand} {xs:Array Operand} {ats:Array TypeId} (f:FuncId) (first cap:List Value) (args:List Value)
  (hx:Br N ρ x = .func (.func f) first.toArray cap.toArray) (hxs:first++(xs.toList.map (Br N ρ))++cap = args) (hf:((P.funcs[f]?).map fun fn=>(fn.name != "runtime.NumGoroutine") && fn.body.isSome) = some true)
  (hu:Up ops N ρ ⟨some d,.call ⟨.value x,xs,ats⟩,ty,pos,aft,g⟩) {R:Ending→World→Prop} (hc:Calls P f args.toArray w R)
  (h:∀ e w1,R e w1→∃ v,e = .returned v∧LW P ops w0 Q os ks (mk N (CI ρ d v)) w1) :
  LW P ops w0 Q (⟨some d,.call ⟨.value x,xs,ats⟩,ty,pos,aft,g⟩ :: os) (4 :: ks) (mk N ρ) w:=by
 simp only [LW]
 rw [if_pos hu]
 unfold BT
 rw [if_neg (by decide),if_neg (by decide)]
 unfold Oper.wp
 rw [D7]
 have hrun:(execOp (Br N ρ) ⟨some d,.call ⟨.value x,xs,ats⟩,ty,pos,aft,g⟩).run P w = .ok (.enter f args.toArray) w:=by
  obtain ⟨fn,hfn,hb⟩:=Option.map_eq_some_iff.1 hf
  simp only [z7,bne_iff_ne,ne_eq] at hb
  have hargs:first.toArray++xs.map (Br N ρ)++cap.toArray = args.toArray:=by
   rw [← hxs]; apply Array.ext'; simp
  obtain ⟨c,hbc⟩:=Option.isSome_iff_exists.1 hb.2
  have hcf:(callFunc f args.toArray).run P w = .ok (.enter f args.toArray) w:=by
   simp [callFunc,hfn,hb.1,hbc]
  simp [execOp,resolve,hargs,hx,Deferred.ofValue,invoke,hcf]
 rw [hrun]
 refine Calls.mono hc (fun e w1 he=>?_)
 obtain ⟨v,rfl,hL⟩:=h e w1 he
 show LW P ops w0 Q os ks ((mk N ρ).put (some d) v) w1
 rw [Fi]
 exact hL
def Pr:Value→Bool
 |.slice none _ _=>true
 |_=>false
theorem So {x y:Operand}{xt yt:TypeId}{v:Value}{n:Nat}(c:Bool)(ht:P.underlying xt=some (.slice e))(hx:Br N ρ x=v)(hy:Br N ρ y=.slice none 0 0)(hs:Fu v n)(hc:Pr v=c)(hu:Up ops N ρ ⟨some d,.binOp .eql xt x y yt,ty,pos,aft,g⟩)
  (h:LW P ops w0 Q os ks (mk N (CI ρ d (.bool c))) w):LW P ops w0 Q (⟨some d,.binOp .eql xt x y yt,ty,pos,aft,g⟩::os) (0::ks) (mk N ρ) w :=
 Cr (by decide) rfl hu _ (fun w' _=>by
  obtain⟨a,cp,rfl,_⟩:=hs
  subst hc
  have he:(eqGuard .eql xt x y (.slice a n cp) (.slice none 0 0)).run P w'=.ok () w':=rfl
  have hq:∀k,(Op.equalIn (k+1) xt (.slice a n cp) (.slice none 0 0)).run P w'=.ok a.isNone w':=by
   intro k
   cases a <;> simp only[Op.equalIn,Sem.run_bind,run_underlying ht,Result.andThen_ok,Sem.run_pure] <;> rfl
  simp only[execOp,hx,hy,Sem.run_bind,he,Result.andThen_ok,binOp,Op.equal]
  rw[show Op.maxDepth=9999+1 from rfl,hq]
  cases a <;> rfl) h
end ops
end
section
theorem oM {p:Prop}(h:p:=by omega):p:=h
theorem sM {p:Prop}(h:p:=by simp):p:=h
theorem sD {p:Prop}(h:p:=by first|omega|assumption|(simp only[zb,z9,z4,z6,z5];omega)|(simp[zb,z9,z4,z6,z5];done)|(simp[zb,z9,z4,z6,z5];omega)):p:=h
theorem AB.refl (F:List Nat)(w:World):AB F w w:=⟨rfl,rfl,rfl,A9 _,fun _ _ _=>rfl⟩
theorem AB.ext {F:List Nat}{a b c:World}(h:AB F a b)(k:AD b c):AB F a c :=
 ⟨k.os.trans h.os,k.tape.trans h.tape,k.output.trans h.output,Aa h.size k.size,fun i hi hm=>(k.heap (Nat.lt_of_lt_of_le hi h.size)).trans (h.block i hi hm)⟩
theorem AB.trans {F:List Nat}{a b c:World}(h:AB F a b)(k:AB F b c):AB F a c :=
 ⟨k.os.trans h.os,k.tape.trans h.tape,k.output.trans h.output,Aa h.size k.size,fun i hi hm=>(k.block i (Nat.lt_of_lt_of_le hi h.size) hm).trans (h.block i hi hm)⟩
theorem AB.drew {F:List Nat}{a b:World}(h:AB F a b):AB F a b.drew:=⟨h.os,h.tape,h.output,h.size,h.block⟩
theorem AB.of_drew {F:List Nat}{a b:World}(h:AB F a.drew b):AB F a b:=⟨h.os,h.tape,h.output,h.size,h.block⟩
theorem AB.sub {F G:List Nat}{a b:World}(h:AB F a b)(hs:∀x∈F,x∈G):AB G a b:=⟨h.os,h.tape,h.output,h.size,fun k hk hm=>h.block k hk fun hh=>hm (hs k hh)⟩
theorem UK {α:Type}{E:Bs α}(hE:BZ E){w w':World}{v:Value}{x:α}{F:List Nat}(h:E w.heap v x F)(k:AD w w'):E w'.heap v x F:=hE.stable h fun b hb=>k.heap (hE.lt h b hb)
theorem GZ:∀ {us:List Value}{xs:List Int}{F:List Nat}{H:Array Obj},els rI H us xs F→F=[]:=by
 intro us
 induction us with
 |nil=>intro xs F H h;cases xs with
  |nil=>exact h
  |cons=>exact h.elim
 |cons u us ih =>
  intro xs F H h
  cases xs with
  |nil=>exact h.elim
  |cons x xs=>obtain⟨A,C,rfl,p1,p2⟩:=h;rw[p1.2.1,ih p2];rfl
theorem Sp {P:Program}{w:World}{st e:TypeId}{u:Value}{n:Int}{xs:List Int}{G:List Nat}{j:Nat}(hst:(P.info? st).map (·.size)=some 1)(q1:BD rI e w.heap u xs G)(q2:G.Nodup)(hj:j<xs.length)(hn:-9223372036854775808≤n∧n≤9223372036854775807) :
  ∃w1,(Instr.storeAt st (AE u j 1) (.int .i64 n)).run P w=.ok () w1∧BD rI e w1.heap u (xs.set j n) G∧AB G w w1∧w1.heap.size=w.heap.size:=by
 obtain⟨w1,F',p1,p2,p3,p4,p5,p6⟩:=KG (P:=P) AN hst q1 q2 hj (u:=.int .i64 n) (y:=n) (G:=[]) ⟨rfl,rfl,hn.1,hn.2⟩ zk (fun b hb=>by cases hb)
 refine⟨w1,p1,?_,p5.sub fun x hx=>zj hx,p6⟩
 rcases q1 with⟨rfl,hx0,rfl⟩|⟨us,g1,cap,cur,F1,hels,rfl,_,_,_,_,_,rfl⟩
 ·rw[hx0]at hj;simp at hj
 ·rw[GZ hels]
  rcases p2 with⟨hh,_⟩|⟨us2,g2,cap2,cur2,F2,hels2,hv2,r⟩
  ·cases hh
  ·rw[GZ hels2]at hels2
   have:g2=g1:=by injection hv2 with hv2 _ _;injection hv2 with hv2;injection hv2 with hv2 _;exact hv2.symm
   subst this
   exact .inr ⟨us2,g2,cap2,cur2,[],hels2,hv2,r.1,r.2.1,r.2.2.1,r.2.2.2.1,r.2.2.2.2.1,rfl⟩
theorem Rd.nil_of {α:Type}{E:Bs α}{H:Array Obj}{v:Value}{xs:List α}(h:Rd (Bl E) H v xs)(hv:Pr v=true):xs=[]:=by
 obtain⟨F,⟨a,cap,rfl,hx,_⟩|⟨us,g,off,cap,cur,e,fr,F',_,rfl,_⟩⟩:=h
 ·exact hx
 ·cases hv
section ops
variable {P:Program} {ops:Array Oper} {w0:World} {Q:Act→World→Prop} {os:List Oper} {ks:List Nat} {N:Nat} {ρ:Nat→Value} {w:World}
 {d:Nat} {ty:TypeId} {pos:String} {aft:Array Edge} {g:Option (Nat×Bool)} {t e:TypeId} {z:Value} {b:Nat}
theorem Aj {a:Act}(h:Q a w):LW P ops w0 Q [] ks a w:=h
def yv (ops:Array Oper)(N:Nat) (ρ:Nat→Value)(j:Nat):Option Bool:=match (ops[j]?).bind (·.dst)with
 |some e=>match cond (Nat.blt e N) (ρ e) undef with
  |.bool c=>some c
  |_=>none
 |none=>none
theorem ZQ (ops:Array Oper)(N:Nat) (ρ:Nat→Value)(j:Nat):yielded ops (mk N ρ).tmps j=yv ops N ρ j:=by
 unfold yv yielded
 cases(ops[j]?).bind (·.dst)with
 |none=>rfl
 |some e =>
  by_cases h:e<N
  ·have hb:Nat.blt e N=true:=by simpa using h
   simp only[mk,hb,cond_true]
   have e1:((List.range N).map ρ).toArray[e]? = some (ρ e):=by simp[h]
   show(match ((List.range N).map ρ).toArray[e]? with|some (.bool b)=>some b|_=>none)=_
   rw[e1]
   cases ρ e <;> rfl
  ·have hb:Nat.blt e N=false:=by
    cases hb:Nat.blt e N with
    |false=>rfl
    |true=>exact absurd (by simpa using hb) h
   simp[mk,Nat.not_lt.1 h,hb,undef]
def dZ (ops:Array Oper)(N:Nat) (ρ:Nat→Value):Option (Nat×Bool)→Bool
 |none=>true
 |some (j,b)=>match yv ops N ρ j with
  |some c=>cond b c (!c)
  |none=>false
theorem Ye (ops:Array Oper)(N:Nat) (ρ:Nat→Value)(o:Oper):Region.wanted o (yielded ops (mk N ρ).tmps)=dZ ops N ρ o.guard:=by
 unfold Region.wanted dZ
 cases o.guard with
 |none=>rfl
 |some x =>
  obtain⟨j,b⟩:=x
  simp only[ZQ]
  cases yv ops N ρ j with
  |none=>rfl
  |some c=>cases c <;> cases b <;> rfl
def fP (N:Nat) (ρ:Nat→Value)(d:Nat)(x:Operand):Nat→Value:=fun i=>cond (Nat.beq i d) (Br N ρ x) (ρ i)
def gD (ρ:Nat→Value)(d:Nat):Nat→Value:=fun i=>cond (Nat.beq i d) undef (ρ i)
def gE (N:Nat) (ρ:Nat→Value)(d:Nat)(c x y:Operand):Nat→Value:=fun i=>cond (Nat.beq i d) (match Br N ρ c with
 |.bool true=>Br N ρ x
 |_=>Br N ρ y) (ρ i)
def eA (ops:Array Oper)(N:Nat)(o:Oper)(k:Nat) (ρ:Nat→Value):Option (Nat→Value) :=
 cond (dZ ops N ρ o.guard)
  (cond (Nat.ble k 2)
   (match o.dst with
   |none=>none
   |some d=>match o.op with
    |.move x=>some (fP N ρ d x)
    |.assign x=>some (fP N ρ d x)
    |.pick c x y=>match Br N ρ c with
     |.bool _=>some (gE N ρ d c x y)
     |_=>none
    |_=>none) none)
  (match o.dst with
  |none=>some ρ
  |some d=>some (gD ρ d))
def tv (ops:Array Oper)(N:Nat):Nat→List Oper→List Nat→(Nat→Value)→Option (List Oper×List Nat×(Nat→Value))
 |0,os,ks,ρ=>some (os,ks,ρ)
 |n+1,o::os,k::ks,ρ=>match eA ops N o k ρ with
  |some ρ'=>tv ops N n os ks ρ'
  |none=>none
 |_+1,_,_,_=>none
theorem Yf {o:Oper}{k:Nat} {ρ':Nat→Value}(h:eA ops N o k ρ=some ρ')(hn:LW P ops w0 Q os ks (mk N ρ') w):LW P ops w0 Q (o::os) (k::ks) (mk N ρ) w:=by
 simp only[LW]
 rw[Ye]
 unfold eA at h
 cases hg:dZ ops N ρ o.guard with
 |false =>
  rw[hg]at h
  rw[if_neg (by simp)]
  cases hd:o.dst with
  |none=>rw[hd]at h;cases h;exact hn
  |some d=>rw[hd]at h;injection h with h;rw[Fi,show CI ρ d undef=ρ' from h];exact hn
 |true =>
  rw[hg]at h
  rw[if_pos rfl]
  cases hk:Nat.ble k 2 with
  |false=>rw[hk]at h;cases h
  |true =>
   rw[hk]at h
   have hk2:k≤2:=by simpa using hk
   unfold BT
   rw[if_pos hk2]
   cases hd:o.dst with
   |none=>rw[hd]at h;cases h
   |some d =>
    rw[hd]at h
    have key:∀v,ρ'=CI ρ d v→(∀w',(execOp (Br N ρ) o).run P w'=.ok (.value v) w')→∃v,(∀w',Cl w0 w k w'→YA P o (mk N ρ) w' v)∧LW P ops w0 Q os ks ((mk N ρ).put (some d) v) w:=fun v hv hr =>
     ⟨v,fun w' _=>.inl (by rw[D7];exact hr w'),by rw[Fi,← hv];exact hn⟩
    obtain⟨od,oop,oty,opos,oaft,og⟩:=o
    dsimp only at h
    cases oop with
    |move x=>injection h with h;exact key (Br N ρ x) h.symm fun w'=>by simp[execOp]
    |assign x=>injection h with h;exact key (Br N ρ x) h.symm fun w'=>by simp[execOp]
    |pick c x y =>
     dsimp only at h
     split at h
     ·rename_i bb hc;injection h with h
      refine key (match Br N ρ c with
       |.bool true=>Br N ρ x
       |_=>Br N ρ y) h.symm fun w'=>?_
      rw[hc]
      cases bb <;> simp[execOp,hc,asBool]
     ·cases h
    |_=>cases h
theorem Af {os':List Oper}{ks':List Nat} {ρ':Nat→Value}(n:Nat)(h:tv ops N n os ks ρ=some (os',ks',ρ'))(hn:LW P ops w0 Q os' ks' (mk N ρ') w):LW P ops w0 Q os ks (mk N ρ) w:=by
 induction n generalizing os ks ρ with
 |zero =>
  have h':(os,ks,ρ)=(os',ks',ρ'):=by injection h
  cases h';exact hn
 |succ n ih =>
  cases os with
  |nil=>cases ks <;> cases h
  |cons o os =>
   cases ks with
   |nil=>cases h
   |cons k ks =>
    have h':(match eA ops N o k ρ with|some ρ'=>tv ops N n os ks ρ'|none=>none)=some (os',ks',ρ'):=h
    split at h'
    ·rename_i r hr;exact Yf hr (ih h')
    ·cases h'
theorem Ae {ks':List Nat} {ρ':Nat→Value}(n:Nat)(h:tv ops N n os ks ρ=some ([],ks',ρ'))(hn:Q (mk N ρ') w):LW P ops w0 Q os ks (mk N ρ) w :=
 Af n h (show LW P ops w0 Q [] ks' (mk N ρ') w from hn)
end ops
theorem fQ {P : Program}{y : Code}{id : Nat}{Q : Exit → Act → World → Prop}{a : Act}{w : World}{os : List Oper}(ks : List Nat)(hk : ks.all (· != 1)=true)(h : LW P os.toArray w (fun a w => y.wp P Q a w) os ks a w) : (Code.seq (Code.region id os.toArray false) y).wp P Q a w := A0 (Ad os ks hk h)
theorem fR {P : Program}{y : Code}{id : Nat}{Q : Exit → Act → World → Prop}{w : World}{o : Oper}{N : Nat} {ρ ρ' : Nat → Value}{ks' : List Nat}(h : tv #[o] N 1 [o] [0] ρ=some ([], ks', ρ'))(hn : y.wp P Q (mk N ρ') w) : (Code.seq (Code.region id #[o] false) y).wp P Q (mk N ρ) w := A0 (Ad [o] [0] rfl (Ae 1 h hn))
end
section
theorem Qo (B U:Nat)(H:Array Obj){u:Value}(h:u.cells=#[u]∧u.oneCell'=true):Fr rV B U H u u:=⟨[],⟨rfl,rfl,h.1,h.2⟩,zk,fun c hc=>by cases hc⟩
theorem oV {e:TypeId}:BZ (BD rV e):=Bc BY
section rd
variable {e e':TypeId} {B U:Nat} {H:Array Obj} {v:Value}
theorem Fr.rdV1 {us:List Value}(h:Fr (BD rV e) B U H v us):Rd (Bl rV) H v us:=h.rd id
theorem Rd.getV {us:List Value}{k:Nat}(h:Rd (Bl rV) H v us)(hk:k<us.length):Hp H (AE v k 1)=some (us.getD k undef)∧(us.getD k undef).cells=#[us.getD k undef]∧(us.getD k undef).oneCell'=true:=by
 obtain⟨u,h1,F,h2,_,h3,h4⟩:=Rd.get undef h hk
 rw[← h2]
 exact⟨h1,h3,h4⟩
end rd
theorem RM {α:Type}{E:Bs α}(hE:BZ E){w w':World}{v:Value}{x:α}{X G:List Nat}(h:E w.heap v x X)(c:AB G w w')(hG:∀b∈G,b∉X):E w'.heap v x X :=
 hE.stable h fun b hb=>c.block b (hE.lt h b hb) fun hm=>hG b hm hb
theorem ZR {α:Type}{l:List α}{x d:α}{r:Nat}:(l++[x]).getD r d=if r=l.length then x else l.getD r d:=by
 rw[List.getD_eq_getElem?_getD,List.getD_eq_getElem?_getD]
 by_cases h:r<l.length
 ·rw[List.getElem?_append_left h,if_neg (by omega)]
 ·rw[List.getElem?_append_right (by omega)]
  by_cases e:r=l.length
  ·subst e;simp
  ·rw[if_neg e]
   have h1:[x][r-l.length]? = none:=List.getElem?_eq_none (by simp;omega)
   have h2:l[r]? = none:=List.getElem?_eq_none zO
   rw[h1,h2]
end
section
def fS (P:Program)(s:TypeId)(i off:Nat):Bool :=
 match P.underlying s with
 |some (.struct fs) =>
  match fs[i]? with
  |some f=>(f.offset == off) && (match P.info? f.type with|some inf=>inf.size != 0|none=>false)
  |none=>false
 |_=>false
def BX (H:Array Obj)(g:Nat)(cs:List Value):Prop:=∃e,H[g]? = some (.cells cs.toArray e (0,0))
theorem BX.lt {H:Array Obj}{g:Nat}{cs:List Value}(h:BX H g cs):g<H.size:=by obtain⟨e,h⟩:=h;exact getElem?_lt h
theorem BX.ext {w w':World}{g:Nat}{cs:List Value}(h:BX w.heap g cs)(k:AD w w'):BX w'.heap g cs:=by
 have hl:=h.lt
 obtain⟨e,h⟩:=h
 exact⟨e,by rw[k.heap hl];exact h⟩
theorem BX.chg {w w':World}{g:Nat}{cs:List Value}{F:List Nat}(h:BX w.heap g cs)(k:AB F w w')(hg:g∉F):BX w'.heap g cs:=by
 have hl:=h.lt
 obtain⟨e,h⟩:=h
 exact⟨e,by rw[k.block g hl hg];exact h⟩
theorem BX.ld {H:Array Obj}{g k:Nat}{cs:List Value}(h:BX H g cs)(hk:k<cs.length):Hp H (.pointer (some ⟨g,k,none⟩))=some (cs.getD k undef):=by
 obtain⟨e,h⟩:=h
 simp only[Hp,Cn,h]
 simp[hk]
theorem AB.fresh {F G:List Nat}{a b c:World}(h:AB F a b)(k:AB G b c)(hG:∀x∈G,a.heap.size≤x):AB F a c :=
 ⟨k.os.trans h.os,k.tape.trans h.tape,k.output.trans h.output,Aa h.size k.size,fun i hi hm=>(k.block i (Nat.lt_of_lt_of_le hi h.size) fun hg=>by have:=hG i hg;omega).trans (h.block i hi hm)⟩
def EL (H:Array Obj)(g:Nat)(v:Value)(cs:List UInt8)(n:Nat):Prop:=∃sd:Int,BX H g [v,.int .i64 ((n:Nat):Int),.int .u64 sd]∧∃F,Bl rU H v cs F∧∀b∈F,b<g
theorem EL.lt {H:Array Obj}{g n:Nat}{v:Value}{cs:List UInt8}(h:EL H g v cs n):g<H.size:=by obtain⟨sd,h,_⟩:=h;exact h.lt
theorem EL.ext {w w':World}{g n:Nat}{v:Value}{cs:List UInt8}(h:EL w.heap g v cs n)(k:AD w w'):EL w'.heap g v cs n:=by
 obtain⟨sd,h,F,h1,h2⟩:=h
 exact⟨sd,h.ext k,F,Dl.stable h1 fun b hb=>k.heap (Dl.lt h1 b hb),h2⟩
theorem EL.chg {w w':World}{g n:Nat}{v:Value}{cs:List UInt8}{G:List Nat}(h:EL w.heap g v cs n)(k:AB G w w')(hG:∀b∈G,g<b):EL w'.heap g v cs n:=by
 obtain⟨sd,h,F,h1,h2⟩:=h
 exact⟨sd,h.chg k fun hm=>by have:=hG g hm;omega,F,Dl.stable h1 fun b hb=>k.block b (Dl.lt h1 b hb) fun hm=>by have:=hG b hm;have:=h2 b hb;omega,h2⟩
theorem EL.parts {w:World}{g n:Nat}{v:Value}{cs:List UInt8}(h:EL w.heap g v cs n):∃sd:Int,BX w.heap g [v,.int .i64 ((n:Nat):Int),.int .u64 sd]∧∀w',AB [g] w w'→Rd (Bl rU) w'.heap v cs:=by
 obtain⟨sd,h,F,h1,h2⟩:=h
 refine⟨sd,h,fun w' k=>⟨F,Dl.stable h1 fun b hb=>k.block b (Dl.lt h1 b hb) fun hm=>?_⟩⟩
 have:b=g:=by simpa using hm
 have:=h2 b hb
 omega
theorem EL.close {w w':World}{g n n':Nat}{v:Value}{cs:List UInt8}{sd:Int}(h:EL w.heap g v cs n)(k:AB [g] w w')(hb:BX w'.heap g [v,.int .i64 ((n':Nat):Int),.int .u64 sd]):EL w'.heap g v cs n':=by
 obtain⟨sd0,h,F,h1,h2⟩:=h
 refine⟨sd,hb,F,Dl.stable h1 fun b hb=>k.block b (Dl.lt h1 b hb) fun hm=>?_,h2⟩
 have:b=g:=by simpa using hm
 have:=h2 b hb
 omega
theorem EL.new {w w':World}{g:Nat}{v:Value}{cs:List UInt8}(h:Rd (Bl rU) w.heap v cs)(k:AD w w')(hb:BX w'.heap g [v,.int .i64 0,.int .u64 0])(hg:w.heap.size≤g):EL w'.heap g v cs 0:=by
 obtain⟨F,h⟩:=h
 exact⟨0,hb,F,Dl.stable h fun b hb=>k.heap (Dl.lt h b hb),fun b hb=>by have:=Dl.lt h b hb;omega⟩
theorem fT (x:UInt8):-9223372036854775808≤((x.toNat:Nat):Int)∧((x.toNat:Nat):Int)≤9223372036854775807:=by
 have:=x.toNat_lt;omega
theorem w8 (x:UInt8):IntKind.i64.wrap ((x.toNat:Nat):Int)=((x.toNat:Nat):Int):=E1 (fT x).1 (fT x).2
theorem Qp (x:UInt8):x.toNat<256:=x.toNat_lt
section ops
variable {P:Program} {ops:Array Oper} {w0:World} {Q:Act→World→Prop} {os:List Oper} {ks:List Nat} {N:Nat} {ρ:Nat→Value} {w:World}
 {d:Nat} {ty:TypeId} {pos:String} {aft:Array Edge} {g:Option (Nat×Bool)} {t e:TypeId}
theorem Bf {x:Operand}{a:Addr}(hx:Br N ρ x=.pointer (some a))(hu:Up ops N ρ ⟨some d,.nilCheck x,ty,pos,aft,g⟩)
  (h:LW P ops w0 Q os ks (mk N (CI ρ d (.pointer (some a)))) w):LW P ops w0 Q (⟨some d,.nilCheck x,ty,pos,aft,g⟩::os) (0::ks) (mk N ρ) w :=
 Cr (by decide) rfl hu _ (fun w' _=>by simp[execOp,hx]) h
theorem EB {s:TypeId}{x:Operand}{b i:Nat}(off:Nat)(hf:fS P s i off=true)(hx:Br N ρ x=.pointer (some ⟨b,0,none⟩))(hu:Up ops N ρ ⟨some d,.fieldAddr s x i,ty,pos,aft,g⟩)
  (h:LW P ops w0 Q os ks (mk N (CI ρ d (.pointer (some ⟨b,off,none⟩)))) w):LW P ops w0 Q (⟨some d,.fieldAddr s x i,ty,pos,aft,g⟩::os) (0::ks) (mk N ρ) w :=
 Cr (by decide) rfl hu _ (fun w' _=>by
  unfold fS at hf
  split at hf
  ·rename_i fs hfs
   split at hf
   ·rename_i f hff
    simp only[z7,beq_iff_eq]at hf
    obtain⟨rfl,hf2⟩:=hf
    split at hf2
    ·rename_i inf hin
     have hne:inf.size≠0:=by simpa using hf2
     have ha:(⟨b,0,none⟩:Addr).add f.offset=⟨b,f.offset,none⟩:=by
      unfold Addr.add
      split
      ·rename_i h0;rw[h0]
      ·simp
     simp[execOp,Instr.fieldAt,Instr.sureAddr,run_underlying hfs,hff,hx,fieldPlace,sizeOf,typeInfo,hin,hne,ha]
    ·cases hf2
   ·cases hf
  ·cases hf) h
theorem X3 {xt yt:TypeId}{x y:Operand}{k k':IntKind}{a b:Int}(c:Int)(hx:Br N ρ x=.int k a)(hy:Br N ρ y=.int k' b)(hb:0≤b)(hc:a.fdiv (2 ^ (min b.toNat k.bits))=c)(hu:Up ops N ρ ⟨some d,.binOp .shr xt x y yt,ty,pos,aft,g⟩)
  (h:LW P ops w0 Q os ks (mk N (CI ρ d (.int k c))) w):LW P ops w0 Q (⟨some d,.binOp .shr xt x y yt,ty,pos,aft,g⟩::os) (0::ks) (mk N ρ) w :=
 Cr (by decide) rfl hu _ (fun w' _=>by
  have he:(eqGuard .shr xt x y (.int k a) (.int k' b)).run P w'=.ok () w':=rfl
  simp[execOp,hx,hy,he,binOp,Op.shift,Int.not_lt.2 hb,hc]) h
def IK (k:IntKind)(a b:Int):Int:=k.wrap ((BitVec.ofInt k.bits a &&& BitVec.ofInt k.bits b).toNat:Int)
theorem Qq (a:Int):0≤IK .u64 a 255∧IK .u64 a 255≤255:=by
 have h:(BitVec.ofInt 64 a &&& BitVec.ofInt 64 255).toNat≤255:=by
  rw[BitVec.toNat_and]
  exact Aa Nat.and_le_right (by decide)
 have hw:∀m:Nat,m≤255→IntKind.u64.wrap (m:Int)=(m:Int):=fun m hm=>IntWalk.u64_in _ zO
 have e:IK .u64 a 255=(((BitVec.ofInt 64 a &&& BitVec.ofInt 64 255).toNat:Nat):Int):=hw _ h
 rw[e]
 generalize (BitVec.ofInt 64 a &&& BitVec.ofInt 64 255).toNat=m at h
 omega
theorem X4 (a:Int):-9223372036854775808≤IK .u64 a 255∧IK .u64 a 255≤9223372036854775807:=by have:=Qq a;omega
theorem ZS (a:Int):IntKind.i64.wrap (IK .u64 a 255)=IK .u64 a 255:=E1 (X4 a).1 (X4 a).2
theorem X5 {xt yt:TypeId}{x y:Operand}{k:IntKind}{a b:Int}(hx:Br N ρ x=.int k a)(hy:Br N ρ y=.int k b)(hu:Up ops N ρ ⟨some d,.binOp .and xt x y yt,ty,pos,aft,g⟩)
  (h:LW P ops w0 Q os ks (mk N (CI ρ d (.int k (IK k a b)))) w):LW P ops w0 Q (⟨some d,.binOp .and xt x y yt,ty,pos,aft,g⟩::os) (0::ks) (mk N ρ) w :=
 Cr (by decide) rfl hu _ (fun w' _=>by
  have he:(eqGuard .and xt x y (.int k a) (.int k b)).run P w'=.ok () w':=rfl
  simp[execOp,hx,hy,he,binOp,Op.intBits,IK]) h
theorem Bn {st:TypeId}{x y:Operand}{b k:Nat}{u:Value}{cs:List Value}(hst:(P.info? st).map (·.size)=some 1)(hx:Br N ρ x=.pointer (some ⟨b,k,none⟩))(hy:Br N ρ y=u)(hc:u.cells=#[u]∧u.oneCell'=true)
  (hb:BX w.heap b cs) (hk:k<cs.length) (hu:Up ops N ρ ⟨none,.store st x y,ty,pos,aft,g⟩)
  (h:∀w1,AB [b] w w1→w1.heap.size=w.heap.size→BX w1.heap b (cs.set k u)→LW P ops w0 Q os ks (mk N ρ) w1) :
  LW P ops w0 Q (⟨none,.store st x y,ty,pos,aft,g⟩::os) (4::ks) (mk N ρ) w:=by
 obtain⟨e,hb⟩:=hb
 have hr:=L7 (P:=P) hst hb (j:=k) (by simpa using hk) hc.1 hc.2
 refine Oi rfl hu _ (GY hx hy hr)<|h _ (Qn _ _ _ _) (by simp[World.setCell]) ⟨e,?_⟩
 rw[Oj hb]
 simp
theorem Ch {parts:Array (Nat×Operand)}{ps:Array (Nat×Value)}(u:Value)(hp:(parts.map fun(i,x)=>(i,Br N ρ x))=ps)(hr:∀w',(Instr.build t ps).run P w'=.ok u w')(hu:Up ops N ρ ⟨some d,.build t parts,ty,pos,aft,g⟩)
  (h:LW P ops w0 Q os ks (mk N (CI ρ d u)) w):LW P ops w0 Q (⟨some d,.build t parts,ty,pos,aft,g⟩::os) (0::ks) (mk N ρ) w :=
 Cr (by decide) rfl hu _ (fun w' _=>by subst hp;simp[execOp,hr w']) h
theorem BC {x:Operand}{cs:Array Value}(hx:Br N ρ x=.agg cs)(hu:Up ops N ρ ⟨some d,.box t x,ty,pos,aft,g⟩)
  (h:∀w1,AD w w1→w1.heap.size=w.heap.size+1→BX w1.heap w.heap.size cs.toList→LW P ops w0 Q os ks (mk N (CI ρ d (.pointer (some ⟨w.heap.size,0,none⟩)))) w1) :
  LW P ops w0 Q (⟨some d,.box t x,ty,pos,aft,g⟩::os) (3::ks) (mk N ρ) w:=by
 have hrun:(execOp (Br N ρ) ⟨some d,.box t x,ty,pos,aft,g⟩).run P w=.ok (.value (.pointer (some ⟨w.heap.size,0,none⟩))) (w.alloc (.cells cs t)):=by
  simp[execOp,Instr.box,newVar,newRow,hx,Value.cells]
 refine Ji rfl hu _ _ hrun (BA _ _)<|h _ (BA _ _) (by simp) ⟨t,?_⟩
 have:=heap_alloc_new w (.cells cs t)
 simpa using this
end ops
end
section
structure Ow {α:Type}(E:Bs α)(B T:Nat)(H:Array Obj)(v:Value)(x:α)(F:List Nat):Prop where
 own:E H v x F
 nodup:F.Nodup
 low:∀b∈F,B≤b
 high:∀b∈F,b<T
section
variable {α:Type} {E:Bs α} {B T U:Nat} {w w':World} {v:Value} {x:α} {F G:List Nat}
theorem Ow.of_fr (h:Fr E B U w.heap v x)(hT:U≤T):∃F,Ow E B T w.heap v x F:=by
 obtain⟨F,h1,h2,h3⟩:=h
 exact⟨F,h1,h2,fun b hb=>(h3 b hb).1,fun b hb=>by have:=h3 b hb;omega⟩
theorem Ow.fr (h:Ow E B T w.heap v x F):Fr E B T w.heap v x:=⟨F,h.own,h.nodup,fun b hb=>⟨h.low b hb,h.high b hb⟩⟩
theorem Ow.ext (hE:BZ E)(h:Ow E B T w.heap v x F)(k:AD w w'):Ow E B T w'.heap v x F:=⟨UK hE h.own k,h.nodup,h.low,h.high⟩
theorem Ow.keep (hE:BZ E)(h:Ow E B T w.heap v x F)(c:AB G w w')(hG:∀b∈G,b∉F):Ow E B T w'.heap v x F:=⟨RM hE h.own c hG,h.nodup,h.low,h.high⟩
theorem Ow.up {T':Nat}(h:Ow E B T w.heap v x F)(hT:T≤T'):Ow E B T' w.heap v x F:=⟨h.own,h.nodup,h.low,fun b hb=>Nat.lt_of_lt_of_le (h.high b hb) hT⟩
end
section ops
variable {P:Program} {ops:Array Oper} {w0:World} {Q:Act→World→Prop} {os:List Oper} {ks:List Nat} {N:Nat} {ρ:Nat→Value} {w:World}
 {d:Nat} {ty:TypeId} {pos:String} {aft:Array Edge} {g:Option (Nat×Bool)} {t e:TypeId} {z:Value} {b:Nat}
theorem Yg {α:Type}{E:Bs α}(hE:BZ E){x y:Operand}{v a:Value}{xs ys:List α}{B T B' U':Nat}{F:List Nat}(ht:P.underlying t=some (.slice e))(hi:TI P e 1 z b)(hz:z.cells=#[z])(hx:Br N ρ x=v)(hy:Br N ρ y=a)(hv:Ow (BD E e) B T w.heap v xs F)
  (ha:Fr (BD E e) B' U' w.heap a ys) (hT:T≤B') (hBB:B≤B') (hBw:B'≤w.heap.size) (hbytes:(xs.length+ys.length)*b≤140737488355328) (hmx:xs.length+ys.length≤maxLen) (hu:Up ops N ρ ⟨some d,.call ⟨.builtin .append,#[x,y],#[t,t]⟩,ty,pos,aft,g⟩)
  (h:∀v1 w1 F1,AB (F.take 1) w w1→Ow (BD E e) B w1.heap.size w1.heap v1 (xs++ys) F1→(∀c∈F1,c∈F∨B'≤c)→LW P ops w0 Q os ks (mk N (CI ρ d v1)) w1) :
  LW P ops w0 Q (⟨some d,.call ⟨.builtin .append,#[x,y],#[t,t]⟩,ty,pos,aft,g⟩::os) (4::ks) (mk N ρ) w:=by
 obtain⟨h1,h2,h3,h4⟩:=hv
 obtain⟨G,g1,g2,g3⟩:=ha
 have gd:∀c∈G.drop 1,c∈G:=fun c hc=>List.mem_of_mem_drop hc
 obtain⟨v',w',F',r1,r2,r3,r4,r5⟩:=I7 (P:=P) (ty:=ty) hE ht hi hz h1 h2 (g1.rd id) rfl hbytes hmx (fun c hc hF=>by have:=g3 c (gd c hc);have:=h4 c hF;omega)
  ((List.drop_sublist 1 G).nodup g2)
 refine Ku rfl hu v' w' (by simp only[execOp,resolve,invoke,builtin,zc,zf,zh,Sem.run_bind,Sem.run_pure,Result.andThen_ok,hx,hy,r1]) (h v' w' F' r5 ⟨r2,r3,fun c hc=>?_,fun c hc=>(Bc hE).lt r2 c hc⟩ fun c hc=>?_)
 ·rcases r4 c hc with hh|hh|hh
  ·exact h3 c hh
  ·have:=g3 c (gd c hh);omega
  ·omega
 ·rcases r4 c hc with hh|hh|hh
  ·exact .inl hh
  ·exact .inr (g3 c<|gd c hh).1
  ·exact .inr zO
end ops
end
section
abbrev Cb (α:Type):=Array Obj→List Value→α→List Nat→Prop
structure CJ {α:Type}(s:Nat)(E:Cb α):Prop where
 len:∀ {H cs x F},E H cs x F→cs.length=s
 one:∀ {H cs x F},E H cs x F→∀u∈cs,u.cells=#[u]∧u.oneCell'=true
 lt:∀ {H cs x F},E H cs x F→∀b∈F,b<H.size
 stable:∀ {H H' cs x F},E H cs x F→(∀b∈F,H'[b]? = H[b]?)→E H' cs x F
def Dz {α:Type}(E:Cb α)(H:Array Obj):List (List Value)→List α→List Nat→Prop
 |[],[],F=>F=[]
 |c::css,x::xs,F=>∃F1 F2,F=F1++F2∧E H c x F1∧Dz E H css xs F2
 |_,_,_=>False
section Dz
variable {α:Type} {E:Cb α} {s:Nat} {H H':Array Obj}
theorem Dz.stable (hE:CJ s E):∀ {css:List (List Value)}{xs:List α}{F:List Nat},Dz E H css xs F→(∀b∈F,H'[b]? = H[b]?)→Dz E H' css xs F
 |[],[],_,h,_=>h
 |_::_,_::_,_,⟨F1,F2,rfl,h1,h2⟩,hb =>
  ⟨F1,F2,rfl,hE.stable h1 fun b hh=>hb b (z8 _ hh),Dz.stable hE h2 fun b hh=>hb b (z1 _ hh)⟩
 |[],_::_,_,h,_=>h.elim
 |_::_,[],_,h,_=>h.elim
theorem Dz.lt (hE:CJ s E):∀ {css:List (List Value)}{xs:List α}{F:List Nat},Dz E H css xs F→∀b∈F,b<H.size
 |[],[],_,h,b,hb=>by rw[show _=[]from h]at hb;cases hb
 |_::_,_::_,_,⟨F1,F2,rfl,h1,h2⟩,b,hb=>(zi.1 hb).elim (hE.lt h1 b) (Dz.lt hE h2 b)
 |[],_::_,_,h,_,_=>h.elim
 |_::_,[],_,h,_,_=>h.elim
theorem Dz.get (hE:CJ s E):∀ {css:List (List Value)}{xs:List α}{F:List Nat}{k:Nat}(d:α),Dz E H css xs F→k<xs.length →
  ∃cs F1,E H cs (xs.getD k d) F1∧(∀b∈F1,b∈F)∧∀i,i<s→css.flatten[k*s+i]? = some (cs.getD i undef)
 |c::css,x::xs,_,0,d,⟨F1,F2,rfl,h1,h2⟩,_=>⟨c,F1,h1,fun b hb=>z8 _ hb,fun i hi=>by
   have hl:=hE.len h1
   rw[List.flatten_cons,Nat.zero_mul,Nat.zero_add,List.getElem?_append_left (by omega)]
   simp[hl,hi]⟩
 |c::css,x::xs,_,k+1,d,⟨F1,F2,rfl,h1,h2⟩,hk=>by
  obtain⟨cs,G,q1,q2,q3⟩:=Dz.get hE d h2 (by simpa using hk)
  refine⟨cs,G,by simpa using q1,fun b hh=>z1 _ (q2 b hh),fun i hi=>?_⟩
  have hl:=hE.len h1
  have e:(k+1)*s+i=c.length+(k*s+i):=by rw[Nat.succ_mul,hl];omega
  rw[List.flatten_cons,e,List.getElem?_append_right zO,Nat.add_sub_cancel_left]
  exact q3 i hi
 |[],[],_,_,_,_,hk=>by simp at hk
 |[],_::_,_,_,_,h,_=>h.elim
theorem Dz.append:∀ {us vs:List (List Value)}{xs ys:List α}{F G:List Nat},Dz E H us xs F→Dz E H vs ys G→Dz E H (us++vs) (xs++ys) (F++G)
 |[],_,[],_,_,_,h,k=>by rw[show _=[]from h];exact k
 |_::_,_,_::_,_,_,_,⟨F1,F2,rfl,h1,h2⟩,k=>⟨F1,_,by rw[List.append_assoc],h1,Dz.append h2 k⟩
 |[],_,_::_,_,_,_,h,_=>h.elim
 |_::_,_,[],_,_,_,h,_=>h.elim
theorem Dz.flen (hE:CJ s E):∀ {css:List (List Value)}{xs:List α}{F:List Nat},Dz E H css xs F→css.flatten.length=xs.length*s
 |[],[],_,_=>by simp
 |c::css,x::xs,_,⟨F1,F2,rfl,h1,h2⟩=>by
  rw[List.flatten_cons,z4,hE.len h1,Dz.flen hE h2,z9,Nat.succ_mul];omega
 |[],_::_,_,h=>h.elim
 |_::_,[],_,h=>h.elim
theorem Dz.one (hE:CJ s E):∀ {css:List (List Value)}{xs:List α}{F:List Nat},Dz E H css xs F→∀u∈css.flatten,u.cells=#[u]∧u.oneCell'=true
 |[],[],_,_,u,hu=>by cases hu
 |_::_,_::_,_,⟨F1,F2,rfl,h1,h2⟩,v,hv=>by
  rw[List.flatten_cons]at hv
  exact (zi.1 hv).elim (hE.one h1 v)<|Dz.one hE h2 v
 |[],_::_,_,h,_,_=>h.elim
 |_::_,[],_,h,_,_=>h.elim
end Dz
def CK {α:Type}(s:Nat)(E:Cb α):Bs (List α):=fun H v xs F =>
 (∃a cap,v=.slice a 0 cap∧xs=[]∧F=[]) ∨
 ∃css g off cap cur e fr F',Dz E H css xs F'∧v=.slice (some ⟨g,off,none⟩) xs.length cap∧H[g]? = some (.cells cur e fr)∧(cur.toList.drop off).take (xs.length*s)=css.flatten∧(xs.length≤maxLen∧xs.length≤cap)∧F=g::F'
def LD (H:Array Obj)(p:Value)(cs:List Value):Prop:=∃g o,p=.pointer (some ⟨g,o,none⟩)∧∀i,i<cs.length→Cn H g (o+i)=some (cs.getD i undef)
def Au (p:Value)(k:Nat):Value :=
 match p with
 |.pointer (some ⟨g,o,none⟩)=>.pointer (some ⟨g,o+k,none⟩)
 |_=>undef
theorem LD.ld {H:Array Obj}{p:Value}{cs:List Value}(h:LD H p cs){i:Nat}(hi:i<cs.length):Hp H (Au p i)=some (cs.getD i undef):=by
 obtain⟨g,o,rfl,h⟩:=h
 exact h i hi
theorem Sq (g off n cap k s:Nat):AE (.slice (some ⟨g,off,none⟩) n cap) k s=.pointer (some ⟨g,off+k*s,none⟩):=by
 unfold AE Addr.add
 simp only
 split
 ·rename_i h;rw[h];rfl
 ·rfl
section CK
variable {α:Type} {E:Cb α} {s:Nat} {H H':Array Obj} {v:Value} {xs:List α} {F:List Nat}
theorem Aq (hE:CJ s E):BZ (CK s E) where
 cells:=by
  rintro H v xs F (⟨a,cap,rfl,_⟩|⟨us,g,off,cap,cur,e,fr,F',_,rfl,_⟩) <;> rfl
 one:=by
  rintro H v xs F (⟨a,cap,rfl,_⟩|⟨us,g,off,cap,cur,e,fr,F',_,rfl,_⟩) <;> rfl
 lt:=by
  rintro H v xs F (⟨a,cap,rfl,_,rfl⟩|⟨us,g,off,cap,cur,e,fr,F',h,rfl,hg,_,_,rfl⟩) b hb
  ·cases hb
  ·rcases ze.1 hb with rfl|hb
   ·exact getElem?_lt hg
   ·exact h.lt hE b hb
 stable:=by
  rintro H H' v xs F (⟨a,cap,rfl,h1,h2⟩|⟨us,g,off,cap,cur,e,fr,F',h,rfl,hg,hw,hml,rfl⟩) hb
  ·exact .inl ⟨a,cap,rfl,h1,h2⟩
  ·exact .inr ⟨us,g,off,cap,cur,e,fr,F',h.stable hE fun b hh=>hb b<|z3 _ hh,rfl,by rw[hb g (z0 ..)];exact hg,hw,hml,rfl⟩
theorem CK.isSl (h:CK s E H v xs F):Fu v xs.length:=by
 rcases h with⟨a,cap,rfl,rfl,_⟩|⟨us,g,off,cap,cur,e,fr,F',_,rfl,_⟩
 ·exact⟨a,cap,rfl,fun _=>rfl⟩
 ·exact⟨_,cap,rfl,fun h=>by cases h⟩
theorem CK.lenle (h:CK s E H v xs F):xs.length≤maxLen:=by
 rcases h with⟨a,cap,_,rfl,_⟩|⟨us,g,off,cap,cur,e,fr,F',_,_,_,_,h,_⟩
 ·simp
 ·exact h.1
theorem CK.cap (h:CK s E H v xs F):∃a c,v=.slice a xs.length c∧xs.length≤c:=by
 rcases h with⟨a,cap,rfl,rfl,_⟩|⟨us,g,off,cap,cur,e,fr,F',_,rfl,_,_,h,_⟩
 ·exact⟨a,cap,rfl,Nat.zero_le _⟩
 ·exact⟨_,cap,rfl,h.2⟩
theorem MG (hE:CJ s E):∀ {css:List (List Value)}{xs:List α}{F:List Nat}(k:Nat),Dz E H css xs F→∃G,Dz E H (css.take k) (xs.take k) G∧∀b∈G,b∈F
 |[],[],F,k,h=>⟨[],by simp[Dz],fun b hb=>by cases hb⟩
 |c::css,x::xs,F,0,h=>⟨[],by simp[Dz],fun b hb=>by cases hb⟩
 |c::css,x::xs,_,k+1,⟨F1,F2,rfl,h1,h2⟩=>by
  obtain⟨G,g1,g2⟩:=MG hE k h2
  exact⟨F1++G,⟨F1,G,rfl,h1,g1⟩,fun b hb=>(zi.1 hb).elim (fun h=>z8 _ h) (fun h=>z1 _ (g2 b h))⟩
 |[],_::_,_,_,h=>h.elim
 |_::_,[],_,_,h=>h.elim
theorem CK.take (hE:CJ s E){k:Nat}{a:Option Addr}{n c:Nat}(h:CK s E H (.slice a n c) xs F)(hk:k≤xs.length):∃G,CK s E H (.slice a k c) (xs.take k) G∧∀b∈G,b∈F:=by
 rcases h with⟨a',cap,hv,rfl,_⟩|⟨us,g,off,cap,cur,e,fr,F',h,hv,hg,hw,hl,rfl⟩
 ·have:k=0:=by simpa using hk
  subst this
  exact⟨[],.inl ⟨a,c,rfl,by simp,rfl⟩,fun b hb=>by cases hb⟩
 ·injection hv with h1 h2 h3
  subst h1;subst h2;subst h3
  obtain⟨G,g1,g2⟩:=MG hE k h
  have hkl:(xs.take k).length=k:=by rw[List.length_take];omega
  refine⟨g::G,.inr ⟨us.take k,g,off,c,cur,e,fr,G,g1,by rw[hkl],hg,?_,by rw[hkl];omega,rfl⟩,fun b hb=>?_⟩
  ·have hf:=h.flen hE
   have ht:=g1.flen hE
   rw[hkl]at ht
   rw[hkl]
   have e1:us.flatten=(us.take k).flatten++(us.drop k).flatten:=by rw[← List.flatten_append,List.take_append_drop]
   have e2:(cur.toList.drop off).take (k*s)=((cur.toList.drop off).take (xs.length*s)).take (k*s):=by
    rw[List.take_take,Nat.min_eq_left (Nat.mul_le_mul_right s hk)]
   rw[e2,hw,e1,← ht,List.take_left]
  ·rcases ze.1 hb with rfl|hb
   ·exact z0 ..
   ·exact z3 _<|g2 b hb
theorem CK.get (hE:CJ s E)(d:α){k:Nat}(h:CK s E H v xs F)(hk:k<xs.length) :
  ∃cs F1,E H cs (xs.getD k d) F1∧(∀b∈F1,b∈F)∧∀H':Array Obj,(∀b∈F,H'[b]? = H[b]?)→LD H' (AE v k s) cs:=by
 rcases h with⟨a,cap,rfl,rfl,_⟩|⟨css,g,off,cap,cur,e,fr,F',h,rfl,hg,hw,_,rfl⟩
 ·simp at hk
 ·obtain⟨cs,F1,q1,q2,q3⟩:=h.get hE d hk
  refine⟨cs,F1,q1,fun b hb=>z3 _ (q2 b hb),fun H' hH=>⟨g,off+k*s,Sq ..,fun i hi=>?_⟩⟩
  rw[hE.len q1]at hi
  have h1:=q3 i hi
  have hlt:k*s+i<xs.length*s:=by
   have:(k+1)*s≤xs.length*s:=Nat.mul_le_mul_right s hk
   rw[Nat.succ_mul]at this;omega
  rw[← hw,List.getElem?_take,if_pos hlt,List.getElem?_drop]at h1
  simp only[Cn,hH g (z0 ..),hg]
  rw[Nat.add_assoc]
  simpa using h1
end CK
def RN {β α:Type}(S:List Nat)(E:Array Obj→β→α→List Nat→Prop)(H:Array Obj)(v:β)(x:α):Prop:=∃F,E H v x F∧∀b∈F,b∉S
section rn
variable {α:Type} {S:List Nat} {w w':World} {s:Nat} {E:Cb α} {v:Value} {xs:List α} {cs:List Value} {x:α}
theorem RN.chg {E:Bs α}(hE:BZ E)(h:RN S E w.heap v x)(c:AB S w w'):RN S E w'.heap v x:=by
 obtain⟨F,h,hb⟩:=h
 exact⟨F,hE.stable h fun b hm=>c.block b (hE.lt h b hm) (hb b hm),hb⟩
theorem RN.ext {E:Bs α}(hE:BZ E)(h:RN S E w.heap v x)(c:AD w w'):RN S E w'.heap v x:=by
 obtain⟨F,h,hb⟩:=h
 exact⟨F,hE.stable h fun b hm=>c.heap (hE.lt h b hm),hb⟩
theorem RN.none {β:Type}{E:Array Obj→β→α→List Nat→Prop}{H:Array Obj}{v:β}(h:RN S E H v x):RN [] E H v x:=by
 obtain⟨F,h,_⟩:=h
 exact⟨F,h,fun _ _ hm=>by cases hm⟩
theorem RN.rd {E:Bs α}{H:Array Obj}(h:RN S E H v x):Rd E H v x:=by obtain⟨F,h,_⟩:=h;exact⟨F,h⟩
theorem RN.of {E:Bs α}{H:Array Obj}(h:Rd E H v x):RN [] E H v x:=by obtain⟨F,h⟩:=h;exact⟨F,h,fun _ _ hm=>by cases hm⟩
theorem RN.isSl {H:Array Obj}(h:RN S (CK s E) H v xs):Fu v xs.length:=by obtain⟨F,h,_⟩:=h;exact h.isSl
theorem RN.lenle {H:Array Obj}(h:RN S (CK s E) H v xs):xs.length≤maxLen:=by obtain⟨F,h,_⟩:=h;exact h.lenle
theorem RN.get (hE:CJ s E)(d:α){k:Nat}(h:RN S (CK s E) w.heap v xs)(hk:k<xs.length) :
  ∃cs,RN S E w.heap cs (xs.getD k d)∧∀w',AB S w w'→LD w'.heap (AE v k s) cs:=by
 obtain⟨F,h,hb⟩:=h
 have hlt:=(Aq hE).lt h
 obtain⟨cs,F1,q1,q2,q3⟩:=CK.get hE d h hk
 exact⟨cs,⟨F1,q1,fun b hm=>hb b (q2 b hm)⟩,fun w' c=>q3 _ fun b hm=>c.block b (hlt b hm) (hb b hm)⟩
end rn
theorem AB.of_ext {w w':World}(S:List Nat)(h:AD w w'):AB S w w':=⟨h.os,h.tape,h.output,h.size,fun k hk _=>h.heap hk⟩
def ER (P:Program)(t:TypeId)(s:Nat):Bool :=
 (match P.underlying t with|some (.struct _)=>true|_=>false) && (match P.info? t with|some i=>i.size == s|none=>false)
def H0 (P:Program)(s:TypeId)(i off:Nat):Bool :=
 match P.underlying s with
 |some (.struct fs) =>
  match fs[i]? with
  |some f=>(f.offset == off) && (match P.info? f.type with|some inf=>inf.size != 0|none=>false)
  |none=>false
 |_=>false
section ops
variable {P:Program} {ops:Array Oper} {w0:World} {Q:Act→World→Prop} {os:List Oper} {ks:List Nat} {N:Nat} {ρ:Nat→Value} {w:World}
 {d:Nat} {ty:TypeId} {pos:String} {aft:Array Edge} {g:Option (Nat×Bool)} {t e:TypeId}
theorem IL (b o k:Nat):(⟨b,o,none⟩:Addr).add k=⟨b,o+k,none⟩:=by
 unfold Addr.add
 split
 ·rename_i h;rw[h];rfl
 ·rfl
theorem Ao {s:TypeId}{x:Operand}{i:Nat}{p:Value}{b o:Nat}(off:Nat)(hf:H0 P s i off=true)(hx:Br N ρ x=p)(hp:p=.pointer (some ⟨b,o,none⟩))(hu:Up ops N ρ ⟨some d,.fieldAddr s x i,ty,pos,aft,g⟩)
  (h:LW P ops w0 Q os ks (mk N (CI ρ d (Au p off))) w):LW P ops w0 Q (⟨some d,.fieldAddr s x i,ty,pos,aft,g⟩::os) (0::ks) (mk N ρ) w :=
 Cr (by decide) rfl hu _ (fun w' _=>by
  subst hp
  unfold H0 at hf
  split at hf
  ·rename_i fs hfs
   split at hf
   ·rename_i f hff
    simp only[z7,beq_iff_eq]at hf
    obtain⟨rfl,hf2⟩:=hf
    split at hf2
    ·rename_i inf hin
     have hne:inf.size≠0:=by simpa using hf2
     simp[execOp,Instr.fieldAt,Instr.sureAddr,run_underlying hfs,hff,hx,fieldPlace,sizeOf,typeInfo,hin,hne,IL,Au]
    ·cases hf2
   ·cases hf
  ·cases hf) h
theorem LD.ptr {H:Array Obj}{p:Value}{cs:List Value}(h:LD H p cs):∃b o,p=.pointer (some ⟨b,o,none⟩):=by obtain⟨b,o,h,_⟩:=h;exact⟨b,o,h⟩
theorem AP {s:TypeId}{x:Operand}{i:Nat}{p:Value}{H:Array Obj}{cs:List Value}(off:Nat)(hf:H0 P s i off=true)(hx:Br N ρ x=p)(hp:LD H p cs)(hu:Up ops N ρ ⟨some d,.fieldAddr s x i,ty,pos,aft,g⟩)
  (h:LW P ops w0 Q os ks (mk N (CI ρ d (Au p off))) w):LW P ops w0 Q (⟨some d,.fieldAddr s x i,ty,pos,aft,g⟩::os) (0::ks) (mk N ρ) w:=by
 obtain⟨b,o,hp⟩:=hp.ptr
 exact Ao off hf hx hp hu h
theorem MH {s:Nat}(ht:ER P t s=true){p:Value}{cs:List Value}(h:LD w.heap p cs)(hl:cs.length=s):(Instr.loadAt t p).run P w=.ok (.agg cs.toArray) w:=by
 obtain⟨b,o,rfl,h⟩:=h
 unfold ER at ht
 simp only[z7]at ht
 obtain⟨h1,h2⟩:=ht
 split at h1
 ·rename_i fs hfs
  split at h2
  ·rename_i inf hin
   have hs:inf.size=s:=by simpa using h2
   have hag:(isAgg t).run P w=.ok true w:=by
    unfold isAgg
    simp only[Sem.run_bind,run_underlying hfs,Result.andThen_ok]
    rfl
   have hlc:=run_loadCells_list (P:=P) w ⟨b,o,none⟩ cs (fun j v hj=>by
    rw[IL,Ci]
    have hjl:j<cs.length:=(List.getElem?_eq_some_iff.1 hj).1
    rw[h j hjl]
    simp[List.getD,hj])
   rw[hl,← hs]at hlc
   simp[Instr.loadAt,Instr.sureAddr,loadVar,hag,sizeOf,typeInfo,hin,hlc]
  ·cases h2
 ·cases h1
theorem AC {k s:Nat}(hk:k=1∨k=2){x:Operand}{p:Value}(cs:List Value)(ht:ER P t s=true)(hx:Br N ρ x=p)(hc:∀w',AD (if k=1 then w0 else w) w'→LD w'.heap p cs)(hl:cs.length=s)
  (hu:Up ops N ρ ⟨some d,.load t x,ty,pos,aft,g⟩)
  (h:LW P ops w0 Q os ks (mk N (CI ρ d (.agg cs.toArray))) w):LW P ops w0 Q (⟨some d,.load t x,ty,pos,aft,g⟩::os) (k::ks) (mk N ρ) w :=
 Cr zO rfl hu _ (fun w' hcl=>by
  have hld:LD w'.heap p cs:=by
   rcases hk with rfl|rfl
   ·exact hc w' hcl
   ·exact hc w' hcl
  simp[execOp,hx,MH ht hld hl]) h
theorem LD.of_box {H:Array Obj}{b:Nat}{cs:List Value}(h:BX H b cs):LD H (.pointer (some ⟨b,0,none⟩)) cs:=by
 obtain⟨e,h⟩:=h
 refine⟨b,0,rfl,fun i hi=>?_⟩
 simp only[Cn,h]
 simp[hi]
theorem BX.ldp {H:Array Obj}{b:Nat}{cs:List Value}(h:BX H b cs){i:Nat}(hi:i<cs.length):Hp H (Au (.pointer (some ⟨b,0,none⟩)) i)=some (cs.getD i undef):=(LD.of_box h).ld hi
theorem B9 {z:Value}(hz:(P.info? t).map (·.zero)=some (some z))(hu:Up ops N ρ ⟨some d,.alloc t,ty,pos,aft,g⟩)
  (h:∀w1,AD w w1→w1.heap.size=w.heap.size+1→BX w1.heap w.heap.size z.cells.toList→LW P ops w0 Q os ks (mk N (CI ρ d (.pointer (some ⟨w.heap.size,0,none⟩)))) w1) :
  LW P ops w0 Q (⟨some d,.alloc t,ty,pos,aft,g⟩::os) (3::ks) (mk N ρ) w:=by
 obtain⟨i,hi1,hi2⟩:=Option.map_eq_some_iff.1 hz
 have hrun:(execOp (Br N ρ) ⟨some d,.alloc t,ty,pos,aft,g⟩).run P w=.ok (.value (.pointer (some ⟨w.heap.size,0,none⟩))) (w.alloc (.cells z.cells t)):=by
  simp[execOp,Instr.alloc,zeroValue,typeInfo,hi1,hi2,newVar,newRow]
 refine Ji rfl hu _ _ hrun (BA _ _)<|h _ (BA _ _) (by simp) ⟨t,?_⟩
 have:=heap_alloc_new w (.cells z.cells t)
 simpa using this
theorem Bh {x y:Operand}{b s:Nat}{vs cs:List Value}(ht:ER P t s=true)(hx:Br N ρ x=.pointer (some ⟨b,0,none⟩))(hy:Br N ρ y=.agg vs.toArray)(h1:∀u∈vs,u.cells=#[u]∧u.oneCell'=true)
  (hb:BX w.heap b cs) (hl:vs.length=s) (hl2:cs.length=s) (hu:Up ops N ρ ⟨none,.store t x y,ty,pos,aft,g⟩)
  (h:∀w1,AB [b] w w1→w1.heap.size=w.heap.size→BX w1.heap b vs→LW P ops w0 Q os ks (mk N ρ) w1) :
  LW P ops w0 Q (⟨none,.store t x y,ty,pos,aft,g⟩::os) (4::ks) (mk N ρ) w:=by
 obtain⟨e,hb⟩:=hb
 unfold ER at ht
 simp only[z7]at ht
 obtain⟨q1,q2⟩:=ht
 split at q2
 ·rename_i inf hin
  have hs:inf.size=s:=by simpa using q2
  have hst:=run_storeCells_at (P:=P) b 0 e vs 0 cs.toArray w hb (by simp;omega) fun v hv=>(h1 v hv).2
  have hcs:(cs.toArray.toList.take (0+0)++vs++cs.toArray.toList.drop (0+0+vs.length))=vs:=by
   simp[List.drop_of_length_le (show cs.length≤vs.length by omega)]
  rw[hcs]at hst
  have hr:(Instr.storeAt t (.pointer (some ⟨b,0,none⟩)) (.agg vs.toArray)).run P w=.ok () (w.setRow b vs.toArray):=by
   simp[Instr.storeAt,Instr.sureAddr,storeVar,sizeOf,typeInfo,hin,Value.cells,hl,hs,hst]
  refine Oi rfl hu _ (GY hx hy hr)<|h _ ⟨rfl,rfl,rfl,by simp,fun k _ hk=>setRow_other w b k _ (by simpa using hk)⟩ (by simp) ⟨e,setRow_heap w b _ _ _ _ hb⟩
 ·cases q2
end ops
end
section
inductive Ex where
 |mk (kind num pick count:Int) (kids:List Ex)
namespace Ex
def kind:Ex→Int|mk k _ _ _ _=>k
def num:Ex→Int|mk _ n _ _ _=>n
def pick:Ex→Int|mk _ _ p _ _=>p
def count:Ex→Int|mk _ _ _ c _=>c
def kids:Ex→List Ex|mk _ _ _ _ l=>l
def zero:Ex:=mk 0 0 0 0 []
end Ex
abbrev Bd (x:Int):Prop:=-9223372036854775808≤x∧x≤9223372036854775807
def Ge (e:Ex)(v:Value):List Value:=[.int .i64 e.kind,.int .i64 e.num,.int .i64 e.pick,.int .i64 e.count,v]
structure UC (e:Ex):Prop where
 kind:Bd e.kind
 num:Bd e.num
 pick:Bd e.pick
 count:Bd e.count
def Nf:Nat→Cb Ex
 |0=>fun _ _ _ _=>False
 |d+1=>fun H cs e F=>∃v,cs=Ge e v∧UC e∧CK 5 (Nf d) H v e.kids F
theorem AL:∀d,CJ 5 (Nf d)
 |0=>⟨fun h=>h.elim,fun h=>h.elim,fun h=>h.elim,fun h=>h.elim⟩
 |d+1=>by
  have ih:=AL d
  refine⟨?_,?_,?_,?_⟩
  ·rintro H cs e F ⟨v,rfl,_,_⟩;rfl
  ·rintro H cs e F ⟨v,rfl,_,h⟩ u hu
   unfold Ge at hu
   simp only[ze,z2,or_false]at hu
   rcases hu with rfl|rfl|rfl|rfl|rfl
   ·exact⟨rfl,rfl⟩
   ·exact⟨rfl,rfl⟩
   ·exact⟨rfl,rfl⟩
   ·exact⟨rfl,rfl⟩
   ·exact⟨(Aq ih).cells h,(Aq ih).one h⟩
  ·rintro H cs e F ⟨v,rfl,_,h⟩ b hb
   exact (Aq ih).lt h b hb
  ·rintro H H' cs e F ⟨v,rfl,hr,h⟩ hb
   exact⟨v,rfl,hr,(Aq ih).stable h hb⟩
structure RX (S:List Nat)(d:Nat)(H:Array Obj)(v:Value)(e:Ex):Prop where
 rng:UC e
 rn:RN S (CK 5 (Nf d)) H v e.kids
theorem RX.of {S:List Nat}{d:Nat}{H:Array Obj}{cs:List Value}{e:Ex}(h:RN S (Nf d) H cs e):∃d' v,d=d'+1∧cs=Ge e v∧RX S d' H v e:=by
 obtain⟨F,h,hb⟩:=h
 cases d with
 |zero=>exact h.elim
 |succ d =>
  obtain⟨v,rfl,hr,h⟩:=h
  exact⟨d,v,rfl,rfl,hr,F,h,hb⟩
theorem RX.mk' {S:List Nat}{d:Nat}{H:Array Obj}{v:Value}{e:Ex}(h:RX S d H v e):RN S (Nf (d+1)) H (Ge e v) e:=by
 obtain⟨hr,F,h,hb⟩:=h
 exact⟨F,⟨v,rfl,hr,h⟩,hb⟩
section rx
variable {S:List Nat} {d:Nat} {w w':World} {v:Value} {e:Ex}
theorem RX.ext (h:RX S d w.heap v e)(k:AD w w'):RX S d w'.heap v e:=⟨h.rng,h.rn.ext (Aq (AL d)) k⟩
theorem RX.ones {H:Array Obj}(h:RX S d H v e):∀u∈Ge e v,u.cells=#[u]∧u.oneCell'=true:=by
 obtain⟨F,h,_⟩:=h.mk'
 exact (AL (d+1)).one h
end rx
structure Fn where
 name:ByteArray
 params:Int
 outs:List Ex
def Fn.zero:Fn:=⟨.empty,0,[]⟩
def Gf (f:Fn)(v:Value):List Value:=[.string f.name,.int .i64 f.params,v]
def X6 (d:Nat):Cb Fn:=fun H cs f F=>∃v,cs=Gf f v∧Bd f.params∧CK 5 (Nf d) H v f.outs F
theorem AR (d:Nat):CJ 3 (X6 d):=by
 have ih:=Aq<|AL d
 refine⟨?_,?_,?_,?_⟩
 ·rintro H cs e F ⟨v,rfl,_,_⟩;rfl
 ·rintro H cs e F ⟨v,rfl,_,h⟩ u hu
  unfold Gf at hu
  simp only[ze,z2,or_false]at hu
  rcases hu with rfl|rfl|rfl
  ·exact⟨rfl,rfl⟩
  ·exact⟨rfl,rfl⟩
  ·exact⟨ih.cells h,ih.one h⟩
 ·rintro H cs e F ⟨v,rfl,_,h⟩ b hb
  exact ih.lt h b hb
 ·rintro H H' cs e F ⟨v,rfl,hr,h⟩ hb
  exact⟨v,rfl,hr,ih.stable h hb⟩
structure RF (S:List Nat)(d:Nat)(H:Array Obj)(v:Value)(f:Fn):Prop where
 rng:Bd f.params
 rn:RN S (CK 5 (Nf d)) H v f.outs
theorem RF.of {S:List Nat}{d:Nat}{H:Array Obj}{cs:List Value}{f:Fn}(h:RN S (X6 d) H cs f):∃v,cs=Gf f v∧RF S d H v f:=by
 obtain⟨F,⟨v,rfl,hr,h⟩,hb⟩:=h
 exact⟨v,rfl,hr,F,h,hb⟩
theorem RF.one {S:List Nat}{d:Nat}{H:Array Obj}{v:Value}{f:Fn}(h:RF S d H v f):v.cells=#[v]∧v.oneCell'=true:=by
 obtain⟨_,F,h,_⟩:=h
 exact⟨(Aq (AL d)).cells h,(Aq (AL d)).one h⟩
theorem RF.ones {S:List Nat}{d:Nat}{H:Array Obj}{v:Value}{f:Fn}(h:RF S d H v f):∀u∈Gf f v,u.cells=#[u]∧u.oneCell'=true:=by
 intro u hu
 unfold Gf at hu
 simp only[ze,z2,or_false]at hu
 rcases hu with rfl|rfl|rfl
 ·exact⟨rfl,rfl⟩
 ·exact⟨rfl,rfl⟩
 ·exact h.one
abbrev RP (S:List Nat)(d:Nat)(H:Array Obj)(v:Value)(p:List Fn):Prop:=RN S (CK 3 (X6 d)) H v p
theorem AT {v:Value}{n:Nat}(h:Fu v n):v.cells=#[v]∧v.oneCell'=true:=by
 obtain⟨a,c,rfl,_⟩:=h;exact⟨rfl,rfl⟩
mutual
def Ex.size:Ex→Nat
 |.mk _ _ _ _ l=>1+Ex.sizes l
def Ex.sizes:List Ex→Nat
 |[]=>0
 |e::l=>e.size+Ex.sizes l
end
mutual
def Ex.deep:Ex→Nat
 |.mk _ _ _ _ l=>Ex.deeps l+1
def Ex.deeps:List Ex→Nat
 |[]=>0
 |e::l=>max e.deep (Ex.deeps l)
end
theorem FC (e:Ex):e.size=1+Ex.sizes e.kids:=by cases e;rw[Ex.size];rfl
theorem EF (e:Ex):e.deep=Ex.deeps e.kids+1:=by cases e;rw[Ex.deep];rfl
theorem IM (l:List Ex)(e:Ex):Ex.sizes (l++[e])=Ex.sizes l+e.size:=by
 induction l with
 |nil=>rw[zl,Ex.sizes,Ex.sizes,Ex.sizes];omega
 |cons x l ih=>rw[List.cons_append,Ex.sizes,Ex.sizes,ih];omega
theorem IN (l:List Ex)(e:Ex):Ex.deeps (l++[e])=max (Ex.deeps l) e.deep:=by
 induction l with
 |nil=>rw[zl,Ex.deeps,Ex.deeps,Ex.deeps];omega
 |cons x l ih=>rw[List.cons_append,Ex.deeps,Ex.deeps,ih];omega
theorem Ea {l:List Ex}{k:Nat}(hk:k<l.length):Ex.sizes (l.take (k+1))=Ex.sizes (l.take k)+(l.getD k Ex.zero).size:=by
 rw[List.take_succ_eq_append_getElem hk,IM]
 simp[hk]
theorem H1 {l:List Ex}{k:Nat}(hk:k<l.length):Ex.deeps (l.take (k+1))=max (Ex.deeps (l.take k)) (l.getD k Ex.zero).deep:=by
 rw[List.take_succ_eq_append_getElem hk,IN]
 simp[hk]
theorem DD:∀(l:List Ex)(k:Nat),Ex.sizes (l.take k)≤Ex.sizes l
 |l,0=>by rw[List.take_zero,Ex.sizes];omega
 |[],k+1=>by simp
 |e::l,k+1=>by rw[List.take_succ_cons,Ex.sizes,Ex.sizes];have:=DD l k;omega
theorem Ok {l:List Ex}{k:Nat}(hk:k<l.length):(l.getD k Ex.zero).size≤Ex.sizes l:=by
 have h1:=Ea hk
 have h2:=DD l (k+1)
 omega
theorem MI:Ex.sizes []=0:=by rw[Ex.sizes]
theorem MJ:Ex.deeps []=0:=by rw[Ex.deeps]
theorem MK {l:List Ex}{k:Nat}(hk:l.length≤k):Ex.sizes (l.take k)=Ex.sizes l:=by rw[za hk]
theorem JV {l:List Ex}{k:Nat}(hk:l.length≤k):Ex.deeps (l.take k)=Ex.deeps l:=by rw[za hk]
mutual
theorem EG:∀e:Ex,e.deep≤e.size
 |.mk _ _ _ _ l=>by rw[Ex.deep,Ex.size];have:=IO l;omega
theorem IO:∀l:List Ex,Ex.deeps l≤Ex.sizes l
 |[]=>by rw[Ex.deeps,Ex.sizes];omega
 |e::l=>by rw[Ex.deeps,Ex.sizes];have:=EG e;have:=IO l;omega
end
section ops
variable {P:Program} {ops:Array Oper} {w0:World} {Q:Act→World→Prop} {os:List Oper} {ks:List Nat} {N:Nat} {ρ:Nat→Value} {w:World}
 {d:Nat} {ty:TypeId} {pos:String} {aft:Array Edge} {g:Option (Nat×Bool)}
theorem ZT {t t':TypeId}{x y:Operand}{k:IntKind}{a b:Int}(c:Int)(hc:max a b=c)(hx:Br N ρ x=.int k a)(hy:Br N ρ y=.int k b)(hu:Up ops N ρ ⟨some d,.call ⟨.builtin .max,#[x,y],#[t,t']⟩,ty,pos,aft,g⟩)
  (h:LW P ops w0 Q os ks (mk N (CI ρ d (.int k c))) w):LW P ops w0 Q (⟨some d,.call ⟨.builtin .max,#[x,y],#[t,t']⟩,ty,pos,aft,g⟩::os) (0::ks) (mk N ρ) w :=
 Cr (by decide) rfl hu _ (fun w' _=>by
  have e:(if b > a then b else a)=c:=by omega
  simp[execOp,resolve,invoke,builtin,hx,hy,Builtin.max_,Builtin.max2,List.foldlM,e]) h
end ops
end
section
open Go Go.ChangeShapes Go.WideShapes Go.RowKit Go.Deep
theorem Ss {α:Type}{E:Bs α}{H:Array Obj}(U:Nat→Value)(X:Nat→α):∀(n:Nat),(∀i,i<n→Rd E H (U i) (X i))→∃F,els E H ((List.range n).map U) ((List.range n).map X) F
 |0,_=>⟨[],rfl⟩
 |n+1,h=>by
  obtain⟨F,hF⟩:=Ss U X n fun i hi=>h i zO
  obtain⟨G,hG⟩:=h n zO
  refine⟨F++(G++[]),?_⟩
  rw[List.range_succ,List.map_append,List.map_append]
  exact els.append hF ⟨G,[],rfl,hG,rfl⟩
theorem Yh {α:Type}{E:Bs α}{W:World}{a:Option Addr}{n cap:Nat}(ha:a=none→n=0)(hm:n≤maxLen)(U:Nat→Value)(X:Nat→α)
  (hc:∀a' i,a=some a'→i<n→W.cell? (a'.add i)=some (U i)) (hE:∀i,i<n→Rd E W.heap (U i) (X i)):Rd (Bl E) W.heap (.slice a n cap) ((List.range n).map X):=by
 by_cases h0:n=0
 ·subst h0
  exact⟨[],.inl ⟨a,cap,rfl,rfl,rfl⟩⟩
 ·obtain⟨F,hF⟩:=Ss U X n hE
  cases a with
  |none=>exact absurd (ha rfl) h0
  |some a' =>
   obtain⟨g,off,spot⟩:=a'
   have h1:=hc _ 0 rfl zO
   have hs:spot=none:=by simpa [Addr.add]using World.cell?_spot h1
   subst hs
   have hcell:∀i,i<n→Cn W.heap g (off+i)=some (U i):=fun i hi=>by
    have:=hc _ i rfl hi
    rw[add_plain,Ci]at this
    exact this
   have h2:=hcell 0 zO
   unfold Cn at h2
   cases hg:W.heap[g]? with
   |none=>rw[hg]at h2;cases h2
   |some o =>
    cases o with
    |cells cur e fr =>
     refine⟨g::F,.inr ⟨(List.range n).map U,g,off,cap,cur,e,fr,F,hF,by simp,hg,?_,by simpa using hm,rfl⟩⟩
     apply List.ext_getElem?
     intro i
     simp only[zg,List.length_range,List.getElem?_take,List.getElem?_drop]
     by_cases hi:i<n
     ·have:=hcell i hi
      unfold Cn at this
      rw[hg]at this
      simp only[Array.getElem?_toList]at *
      rw[if_pos hi,this]
      simp[hi]
     ·rw[if_neg hi]
      simp[hi]
    |_=>rw[hg]at h2;cases h2
section
variable {H:Type} {enc:TypeId × Value→H} {P:Program} {W:World}
theorem AD.trodAll (hl:laidOutB P=true){W':World}(hx:AD W W'):∀ {ts:List TypeId}{vs:List Value}{ds:List (DataW H)}{ps:List MemPlace},(∀t∈ts,P.readableRec t=true∧t<P.types.size)→(∀x∈ps,x.block<W.heap.size) →
  DataW.TrodAll enc P W 0 (fun _=>true) true ts vs ds ps→DataW.TrodAll enc P W' 0 (fun b=>decide (b<W.heap.size)) true ts vs ds ps
 |[],[],[],_,_,_,h=>h
 |t::ts,v::vs,d::ds,ps,hr,hlt,⟨p,q,h1,h2,e⟩=>by
  subst e
  exact⟨p,q,Below.trod hl (hr t (z0 ..)).1 (hr t (z0 ..)).2 h1 hx fun x hx=>hlt x (z8 _ hx),
   AD.trodAll hl hx (fun t ht=>hr t (z3 _ ht)) (fun x hx=>hlt x (z1 _ hx)) h2,rfl⟩
 |[],[],_::_,_,_,_,h=>h.elim
 |[],_::_,_,_,_,_,h=>h.elim
 |_::_,[],_,_,_,_,h=>h.elim
 |_::_,_::_,[],_,_,_,h=>h.elim
theorem St {fn:Func}{s:ChangeSpec}{W':World}{args:Array Value}{ds:List (DataW H)}{before:List MemPlace}{tb:TypeId}(hl:laidOutB P=true)
  (hr:∀t∈fn.params.toList,P.readableRec t=true∧t<P.types.size) (hv:s.vars=[]) (hres:fn.resultTypes=#[tb]) (hb:P.underlying tb=some .bool)
  (hW:DataW.Whole enc P fn.params.toList s.vars false W args.toList ds [] before) (he:s.fn H (ds++[]) = { results:=[.lit (.bool true)],args:=ds }) (hx:AD W W') :
  s.post enc P fn false true false false W args (.bool true) W':=by
 have hW':=hW
 obtain⟨p,q,hA,hV,rfl,hfz,hnd⟩:=hW
 have hlt:∀x∈p++q,x.block<W.heap.size:=fun x hx=>hW'.lt x hx
 rw[hv]at hV
 obtain⟨_,rfl⟩:=trodVars_none hV
 refine⟨ds,[],_,[],p,[],hW',?_,?_,?_,Below.frame hx _,fun h=>by cases h⟩
 ·rw[he,hres];exact trodAll_mk1 (shut_bool hb true)
 ·rw[he];exact AD.trodAll hl hx hr (fun x hx=>hlt x (z8 _ hx)) hA
 ·rw[he,hv];rfl
end
end
section
open Go Go.ChangeShapes Go.WideShapes Go.RowKit Go.Deep
section
variable {H:Type} {enc:TypeId × Value→H} {P:Program} {W:World}
theorem UL {z:Int}(h:0≤z∧z≤255):(((UInt8.ofNat z.toNat).toNat:Nat):Int)=z:=by
 rw[UInt8.toNat_ofNat']
 omega
theorem Ps {q:TypeId}{base fuel:Nat}{held:Bool}{u:Value}{x:DataW H×List MemPlace}{t:TypeId}(ht:P.underlying t=some (.slice q))(hq:P.underlying q=some (.int .u8))(cq:P.cellsOf q=1)
  (hf:DataW.trod enc P W base (fun _=>true) held fuel t [u]=some x):∃zsq:List UInt8,Rd (Bl rU) W.heap u zsq:=by
 rcases open_ints ht hq cq hf with⟨hcs,_⟩|⟨a,len,cap,zsq,hcs,_,hl,hm,hz,_,hc,hw⟩
 ·simp only[List.cons.injEq,and_true]at hcs
  subst hcs
  exact⟨[],[],.inl ⟨none,0,rfl,rfl,rfl⟩⟩
 ·simp only[List.cons.injEq,and_true]at hcs
  subst hcs
  simp only[if_true]at hz
  refine⟨(List.range len).map fun i=>UInt8.ofNat (zsq.getD i 0).toNat,Yh (fun h=>by cases h) zO (fun i=>.int .u8 (zsq.getD i 0)) _ (fun a' i ea hi=>by cases ea;exact hc i zO) fun i hi=>⟨[],?_,rfl⟩⟩
  have hb:0≤zsq.getD i 0∧zsq.getD i 0≤255:=by
   have h:=hw (zsq.getD i 0) (by
    rw[List.getD_eq_getElem?_getD,List.getElem?_eq_getElem (show i<zsq.length by omega)]
    exact List.getElem_mem _)
   simp only[Lit.wf,z7,decide_eq_true_eq]at h
   exact h
  rw[UL hb]
theorem Ol {t q:TypeId}{base:Nat}{held:Bool}{v:Value}{d:DataW H}{ps:List MemPlace}(ht:P.underlying t=some (.slice q))(hq:P.underlying q=some (.int .u8))(cq:P.cellsOf q=1)
  (hv:∃a len cap,v=.slice a len cap) (h:DataW.Trod enc P W base (fun _=>true) held t v d ps):∃zsq:List UInt8,Rd (Bl rU) W.heap v zsq:=by
 obtain⟨a0,n0,c0,rfl⟩:=hv
 obtain⟨fuel,hf⟩:=h
 exact Ps ht hq cq hf
end
end
section
def JO (s:ByteArray)(i:Nat):Nat:=((s[i]?).getD 0).toNat
section ops
variable {P:Program} {ops:Array Oper} {w0:World} {Q:Act→World→Prop} {os:List Oper} {ks:List Nat} {N:Nat} {ρ:Nat→Value} {w:World}
 {d:Nat} {ty:TypeId} {pos:String} {aft:Array Edge} {g:Option (Nat×Bool)}
theorem Du {t:TypeId}{x y:Operand}{s:ByteArray}{i:Int}(j:Nat)(ht:P.underlying t=some .string)(hx:Br N ρ x=.string s)(hy:Br N ρ y=.int .i64 i)(hj:i=(j:Int))(hlt:j<s.size)(hu:Up ops N ρ ⟨some d,.index t x y,ty,pos,aft,g⟩)
  (h:LW P ops w0 Q os ks (mk N (CI ρ d (.int .u8 ((JO s j:Nat):Int)))) w):LW P ops w0 Q (⟨some d,.index t x y,ty,pos,aft,g⟩::os) (0::ks) (mk N ρ) w :=
 Cr (by decide) rfl hu _ (fun w' _=>by
  subst hj
  have e:s[j]? = some s[j]:=getElem?_pos s j hlt
  simp[execOp,hx,hy,Instr.index,asIntOf,run_underlying ht,e,JO]) h
end ops
end
section
theorem Ik {β:Type}{l r:List β}{k:Nat}{d:β}(h:k<l.length):(l++r).getD k d=l.getD k d:=by
 rw[List.getD_eq_getElem?_getD,List.getD_eq_getElem?_getD,List.getElem?_append_left h]
theorem IP {β:Type}{l:List β}{x d:β}{k:Nat}(h:k=l.length):(l++[x]).getD k d=x:=by
 subst h
 rw[List.getD_eq_getElem?_getD,List.getElem?_append_right (A9 _)]
 simp
theorem Bo {g:Nat}{S:List Nat}(hg:g∈S):∀x∈[g],x∈S:=fun x hx=>by rw[Ab hx];exact hg
theorem Pt {g:Nat}{S F:List Nat}(hg:g∈S):∀x∈[g],x∈S++F:=fun x hx=>z8 _ (Bo hg x hx)
theorem Bl.get2 {α:Type}{E:Bs α}{H:Array Obj}{v:Value}{xs:List α}{F:List Nat}(d:α){k:Nat}(h:Bl E H v xs F)(hk:k<xs.length) :
  ∃u F1,(∀H':Array Obj,(∀b∈F,H'[b]? = H[b]?)→Hp H' (AE v k 1)=some u)∧E H u (xs.getD k d) F1∧∀b∈F1,b∈F:=by
 rcases h with⟨a,cap,rfl,rfl,_⟩|⟨us,g,off,cap,cur,e,fr,F',h,rfl,hg,hw,_,rfl⟩
 ·simp at hk
 ·obtain⟨u,F1,hu,hx,hb⟩:=h.get d hk
  refine⟨u,F1,fun H' hH=>?_,hx,fun b hh=>z3 _ (hb b hh)⟩
  rw[GW]
  simp only[Hp,Cn,hH g (z0 ..),hg]
  rw[← hw,List.getElem?_take,if_pos hk,List.getElem?_drop]at hu
  simpa using hu
section rn
variable {α:Type} {S F:List Nat} {w w':World} {E:Bs α} {v:Value} {xs:List α} {x:α} {g:Nat}
theorem RN.run (hE:BZ E)(h:RN S E w.heap v x)(hg:g∈S)(c:AB [g] w w'):RN S E w'.heap v x:=h.chg hE (c.sub (Bo hg))
theorem RN.add (hE:BZ E)(h:RN S E w.heap v x)(hF:∀b∈F,w.heap.size≤b):RN (S++F) E w.heap v x:=by
 obtain⟨G,h1,h2⟩:=h
 refine⟨G,h1,fun b hb hm=>(zi.1 hm).elim (h2 b hb) fun hf=>?_⟩
 have:=hE.lt h1 b hb
 have:=hF b hf
 omega
theorem RN.getL (hE:BZ E)(d:α){k:Nat}(h:RN S (Bl E) w.heap v xs)(hk:k<xs.length) :
  ∃u,(∀w',AB S w w'→Hp w'.heap (AE v k 1)=some u)∧RN S E w.heap u (xs.getD k d):=by
 obtain⟨F,h,hb⟩:=h
 have hlt:=(HD hE).lt h
 obtain⟨u,F1,h1,h2,h3⟩:=Bl.get2 d h hk
 exact⟨u,fun w' c=>h1 _ fun b hm=>c.block b (hlt b hm) (hb b hm),F1,h2,fun b hm=>hb b (h3 b hm)⟩
theorem RN.getI {xs:List Int}{k:Nat}(h:RN S (Bl rI) w.heap v xs)(hk:k<xs.length) :
  (∀w',AB S w w'→Hp w'.heap (AE v k 1)=some (.int .i64 (xs.getD k 0)))∧-9223372036854775808≤xs.getD k 0∧xs.getD k 0≤9223372036854775807:=by
 obtain⟨u,h1,F1,h2,_⟩:=h.getL AN 0 hk
 rw[h2.1]at h1
 exact⟨h1,h2.2.2⟩
theorem RN.slL {H:Array Obj}(h:RN S (Bl E) H v xs):Go.Proofs.YtemfgblmfahllaaGreat.Fu v xs.length:=by obtain⟨F,h,_⟩:=h;exact Bl.isSl h
theorem RN.lenL {H:Array Obj}(h:RN S (Bl E) H v xs):xs.length≤maxLen:=by obtain⟨F,h,_⟩:=h;exact h.lenle
theorem RN.of_fr1 {e:TypeId}{B U:Nat}{H:Array Obj}{xs:List Int}(h:Fr (BD rI e) B U H v xs)(hS:∀b∈S,b<B):RN S (Bl rI) H v xs:=by
 obtain⟨F,h1,_,h3⟩:=h
 exact⟨F,h1.rd id,fun b hb hm=>by have:=h3 b hb;have:=hS b hm;omega⟩
theorem RN.of_fr2 {e e':TypeId}{B U:Nat}{H:Array Obj}{xs:List (List Int)}(h:Fr (BD (BD rI e) e') B U H v xs)(hS:∀b∈S,b<B):RN S (Bl (Bl rI)) H v xs:=by
 obtain⟨F,h1,_,h3⟩:=h
 exact⟨F,h1.rd fun h=>h.rd id,fun b hb hm=>by have:=h3 b hb;have:=hS b hm;omega⟩
theorem RN.one1 {H:Array Obj}(hE:BZ E)(h:RN S E H v x):v.cells=#[v]∧v.oneCell'=true:=by obtain⟨F,h,_⟩:=h;exact⟨hE.cells h,hE.one h⟩
end rn
def rP {α:Type}(E:Cb α):Bs α:=fun H v x F=>∃cs F' g o,v=.pointer (some ⟨g,o,none⟩)∧g<H.size∧(∀i,i<cs.length→Cn H g (o+i)=some (cs.getD i undef))∧E H cs x F'∧F=g::F'
theorem Bi {α:Type}{s:Nat}{E:Cb α}(hE:CJ s E):BZ (rP E) where
 cells:=by rintro H v x F ⟨cs,F',g,o,rfl,_⟩;rfl
 one:=by rintro H v x F ⟨cs,F',g,o,rfl,_⟩;rfl
 lt:=by
  rintro H v x F ⟨cs,F',g,o,rfl,hg,hc,he,rfl⟩ b hb
  rcases ze.1 hb with rfl|hb
  ·exact hg
  ·exact hE.lt he b hb
 stable:=by
  rintro H H' v x F ⟨cs,F',g,o,rfl,hg,hc,he,rfl⟩ hb
  refine⟨cs,F',g,o,rfl,?_,fun i hi=>?_,hE.stable he fun b hm=>hb b (z3 _ hm),rfl⟩
  ·have:=hb g (z0 ..)
   rcases Nat.lt_or_ge g H'.size with h|h
   ·exact h
   ·rw[Array.getElem?_eq_none h,Array.getElem?_eq_getElem hg]at this;cases this
  ·have:=hc i hi
   unfold Cn at this ⊢
   rw[hb g (z0 ..)];exact this
section rp
variable {α:Type} {S:List Nat} {w w':World} {s:Nat} {E:Cb α} {v p:Value} {xs:List α} {x:α}
theorem RN.ptr (hE:CJ s E)(hs:0<s)(d:α){k:Nat}{H:Array Obj}(h:RN S (CK s E) H v xs)(hk:k<xs.length):RN S (rP E) H (AE v k s) (xs.getD k d):=by
 obtain⟨F,h,hb⟩:=h
 rcases h with⟨a,cap,rfl,rfl,_⟩|⟨css,g,off,cap,cur,e,fr,F',h,rfl,hg,hw,_,rfl⟩
 ·simp at hk
 ·obtain⟨cs,F1,q1,q2,q3⟩:=h.get hE d hk
  rw[Sq]
  refine⟨g::F1,⟨cs,F1,g,off+k*s,rfl,getElem?_lt hg,fun i hi=>?_,q1,rfl⟩,fun b hm=>?_⟩
  ·rw[hE.len q1]at hi
   have h1:=q3 i hi
   have hlt:k*s+i<xs.length*s:=by
    have:(k+1)*s≤xs.length*s:=Nat.mul_le_mul_right s hk
    rw[Nat.succ_mul]at this;omega
   rw[← hw,List.getElem?_take,if_pos hlt,List.getElem?_drop]at h1
   simp only[Cn,hg]
   rw[Nat.add_assoc]
   simpa using h1
  ·rcases ze.1 hm with rfl|hm
   ·exact hb _ (z0 ..)
   ·exact hb b<|z3 _<|q2 b hm
theorem RN.at (hE:CJ s E)(h:RN S (rP E) w.heap p x):∃cs,RN S E w.heap cs x∧∀w',AB S w w'→LD w'.heap p cs:=by
 obtain⟨F,h,hb⟩:=h
 have hlt:=(Bi hE).lt h
 obtain⟨cs,F',g,o,rfl,hg,hc,he,rfl⟩:=h
 refine⟨cs,⟨F',he,fun b hm=>hb b (z3 _ hm)⟩,fun w' c=>⟨g,o,rfl,fun i hi=>?_⟩⟩
 have:=hc i hi
 unfold Cn at this ⊢
 rw[c.block g hg (hb g (z0 ..))];exact this
theorem RN.isPtr {H:Array Obj}(h:RN S (rP E) H p x):∃g o,p=.pointer (some ⟨g,o,Option.none⟩):=by
 obtain⟨F,⟨cs,F',g,o,rfl,_⟩,_⟩:=h
 exact⟨g,o,rfl⟩
theorem RN.box {b:Nat}{H:Array Obj}{cs:List Value}(hB:BX H b cs)(h:RN S E H cs x)(hb:b∉S):RN S (rP E) H (.pointer (some ⟨b,0,Option.none⟩)) x:=by
 have hl:=hB.lt
 obtain⟨e,hB⟩:=hB
 obtain⟨F,h1,h2⟩:=h
 refine⟨b::F,⟨cs,F,b,0,rfl,hl,fun i hi=>?_,h1,rfl⟩,fun c hc=>?_⟩
 ·simp only[Cn,hB];simp[hi]
 ·rcases ze.1 hc with rfl|hc
  ·exact hb
  ·exact h2 c hc
end rp
def KH (d:Nat):Cb (List Fn):=fun H cs p F=>∃v,cs=[v]∧CK 3 (X6 d) H v p F
theorem B6 (d:Nat):CJ 1 (KH d):=by
 have ih:=Aq<|AR d
 refine⟨?_,?_,?_,?_⟩
 ·rintro H cs e F ⟨v,rfl,_⟩;rfl
 ·rintro H cs e F ⟨v,rfl,h⟩ u hu
  rw[Ab hu]
  exact⟨ih.cells h,ih.one h⟩
 ·rintro H cs e F ⟨v,rfl,h⟩ b hb
  exact ih.lt h b hb
 ·rintro H H' cs e F ⟨v,rfl,h⟩ hb
  exact⟨v,rfl,ih.stable h hb⟩
theorem RPr.of {S:List Nat}{d:Nat}{H:Array Obj}{cs:List Value}{p:List Fn}(h:RN S (KH d) H cs p):∃v,cs=[v]∧RP S d H v p:=by
 obtain⟨F,⟨v,rfl,h⟩,hb⟩:=h
 exact⟨v,rfl,F,h,hb⟩
theorem RP.mk' {S:List Nat}{d:Nat}{H:Array Obj}{v:Value}{p:List Fn}(h:RP S d H v p):RN S (KH d) H [v] p:=by
 obtain⟨F,h,hb⟩:=h
 exact⟨F,⟨v,rfl,h⟩,hb⟩
structure I8 (e:TypeId)(S:List Nat)(B:Nat)(H:Array Obj)(v:Value)(xs:List (List Int))(us:List Value)(F:List Nat):Prop where
 own:BD rV e H v us F
 nd:F.Nodup
 low:∀b∈F,B≤b
 len:us.length=xs.length
 els:∀k,k<xs.length→RN (S++F) (Bl rI) H (us.getD k undef) (xs.getD k [])
def RO (e:TypeId)(S:List Nat)(B:Nat)(H:Array Obj)(v:Value)(xs:List (List Int)):Prop:=∃us F,I8 e S B H v xs us F
section bld
variable {e:TypeId} {S F:List Nat} {B:Nat} {w w':World} {v:Value} {xs:List (List Int)} {us:List Value} {g:Nat}
theorem I8.nil {U:Nat}{H:Array Obj}(h:Fr (BD rV e) B U H v []):RO e S B H v []:=by
 obtain⟨F,h1,h2,h3⟩:=h
 exact⟨[],F,h1,h2,fun b hb=>(h3 b hb).1,rfl,fun k hk=>by simp at hk⟩
theorem I8.lt {H:Array Obj}(h:I8 e S B H v xs us F):∀b∈F,b<H.size:=(Bc BY).lt h.own
theorem I8.ext (h:I8 e S B w.heap v xs us F)(k:AD w w'):I8 e S B w'.heap v xs us F :=
 ⟨(Bc BY).stable h.own fun b hb=>k.heap (h.lt b hb),h.nd,h.low,h.len,fun i hi=>(h.els i hi).ext g1 k⟩
theorem I8.run (h:I8 e S B w.heap v xs us F)(hg:g∈S)(hgB:g<B)(c:AB [g] w w'):I8 e S B w'.heap v xs us F :=
  ⟨(Bc BY).stable h.own fun b hb=>c.block b (h.lt b hb) fun hm=>by have:=h.low b hb;rw[Ab hm]at this;omega,h.nd,h.low,h.len,
   fun i hi=>(h.els i hi).chg g1 (c.sub (Pt hg))⟩
theorem ML {S:List Nat}{H:Array Obj}:∀ {us:List Value}{xs:List (List Int)},us.length=xs.length→(∀k,k<xs.length→RN S (Bl rI) H (us.getD k undef) (xs.getD k []))→∃G,els (Bl rI) H us xs G∧∀b∈G,b∉S
 |[],[],_,_=>⟨[],rfl,fun b hb=>by cases hb⟩
 |u::us,x::xs,hl,h=>by
  obtain⟨G1,q1,q2⟩:=h 0 (by simp)
  obtain⟨G2,r1,r2⟩:=ML (us:=us) (xs:=xs) (by simpa using hl) fun k hk=>by
   have:=h (k+1) (by simpa using hk)
   simpa using this
  exact⟨G1++G2,⟨G1,G2,rfl,by simpa using q1,r1⟩,fun b hb=>(zi.1 hb).elim (q2 b) (r2 b)⟩
theorem H2 {H:Array Obj}:∀ {us vs:List Value}{F:List Nat},els rV H us vs F→us=vs∧F=[]
 |[],[],_,h=>⟨rfl,h⟩
 |_::_,_::_,_,⟨F1,F2,rfl,h1,h2⟩=>by
  obtain⟨rfl,rfl⟩:=H2 h2
  rw[h1.1,h1.2.1];exact⟨rfl,rfl⟩
 |[],_::_,_,h=>h.elim
 |_::_,[],_,h=>h.elim
theorem I8.done {H:Array Obj}(h:I8 e S B H v xs us F)(hS:∀b∈S,b<B):RN S (Bl (Bl rI)) H v xs:=by
 obtain⟨G,g1,g2⟩:=ML h.len h.els
 have g2':∀b∈G,b∉S:=fun b hb hm=>g2 b hb (z8 _ hm)
 rcases h.own with⟨rfl,hus,rfl⟩|⟨vs,gb,cap,cur,F',hels,rfl,hg,r1,r2,r3,r4,hF⟩
 ·have:xs=[]:=List.eq_nil_of_length_eq_zero (by rw[← h.len,hus];rfl)
  subst this
  exact⟨[],.inl ⟨none,0,rfl,rfl,rfl⟩,fun b hb=>by cases hb⟩
 ·obtain⟨hv,hF0⟩:=H2 hels
  subst hv
  have hl:=h.len
  refine⟨gb::G,.inr ⟨vs,gb,0,cap,cur,e,(0,0),G,g1,by rw[hl],hg,by simpa [hl]using r4,zO,rfl⟩,fun b hb hm=>?_⟩
  rcases ze.1 hb with rfl|hb
  ·have:=h.low b (by rw[hF];exact z0 ..)
   have:=hS b hm
   omega
  ·exact g2' b hb hm
end bld
section ops
variable {P:Program} {ops:Array Oper} {w0:World} {Q:Act→World→Prop} {os:List Oper} {ks:List Nat} {N:Nat} {ρ:Nat→Value} {w:World}
 {d:Nat} {ty:TypeId} {pos:String} {aft:Array Edge} {g:Option (Nat×Bool)} {t e:TypeId} {z:Value} {b:Nat}
theorem FI {x y:Operand}{v a u:Value}{xs:List (List Int)}{r:List Int}{us:List Value}{S F:List Nat}{B B' U':Nat}(ht:P.underlying t=some (.slice e))(hi:TI P e 1 z b)(hz:z.cells=#[z])(hx:Br N ρ x=v)(hy:Br N ρ y=a)
  (hv:I8 e S B w.heap v xs us F) (hB:B≤w.heap.size) (ha:Fr (BD rV e) B' U' w.heap a [u]) (hr:RN (S++F) (Bl rI) w.heap u r) (hbytes:(xs.length+1)*b≤140737488355328) (hmx:xs.length+1≤maxLen)
  (hu:Up ops N ρ ⟨some d,.call ⟨.builtin .append,#[x,y],#[t,t]⟩,ty,pos,aft,g⟩)
  (h:∀v1 w1 F0,AB F0 w w1→(∀c∈F0,c∈F)→RO e S B w1.heap v1 (xs++[r])→LW P ops w0 Q os ks (mk N (CI ρ d v1)) w1) :
  LW P ops w0 Q (⟨some d,.call ⟨.builtin .append,#[x,y],#[t,t]⟩,ty,pos,aft,g⟩::os) (4::ks) (mk N ρ) w:=by
 obtain⟨G,g1',g2',g3'⟩:=ha
 have hG1:G.drop 1=[]:=by
  rcases g1' with⟨_,hc,_⟩|⟨vs,gb,cap,cur,F',hels,_,_,_,_,_,_,rfl⟩
  ·cases hc
  ·rw[(H2 hels).2];rfl
 obtain⟨v',w',F',r1,r2,r3,r4,r5⟩:=I7 (P:=P) (ty:=ty) BY ht hi hz hv.own hv.nd (g1'.rd id) rfl (by rw[hv.len];exact hbytes) (by rw[hv.len];exact hmx) (by rw[hG1];intro c hc;cases hc) (by rw[hG1];exact zk)
 rw[hG1]at r4
 refine Ku rfl hu v' w' (by simp only[execOp,resolve,invoke,builtin,zc,zf,zh,Sem.run_bind,Sem.run_pure,Result.andThen_ok,hx,hy,r1])<|h v' w' (F.take 1) r5 (fun c hc=>zj hc) ⟨us++[u],F',r2,r3,fun c hc=>?_,by simp[hv.len],fun k hk=>?_⟩
 ·rcases r4 c hc with hh|hh|hh
  ·exact hv.low c hh
  ·cases hh
  ·omega
 ·have key:∀ {v0:Value} {x0:List Int},RN (S++F) (Bl rI) w.heap v0 x0→RN (S++F') (Bl rI) w'.heap v0 x0:=by
   rintro v0 x0 ⟨K,k1,k2⟩
   have hlt:=g1.lt k1
   refine⟨K,g1.stable k1 fun c hc=>r5.block c (hlt c hc) fun hm=>k2 c hc (z1 _ (zj hm)),fun c hc hm=>?_⟩
   rcases zi.1 hm with hm|hm
   ·exact k2 c hc<|z8 _ hm
   ·rcases r4 c hm with hh|hh|hh
    ·exact k2 c hc<|z1 _ hh
    ·cases hh
    ·have:=hlt c hc;omega
  rw[z4,zd]at hk
  by_cases hkx:k<xs.length
  ·have h1:=key<|hv.els k hkx
   have hku:k<us.length:=by rw[hv.len];exact hkx
   rw[Ik hku,Ik hkx]
   exact h1
  ·have e1:k=xs.length:=by omega
   have e2:k=us.length:=by rw[hv.len];exact e1
   rw[IP e2,IP e1]
   exact key hr
def Dm:Value→Prop
 |.slice _ n c=>n≤c
 |_=>False
theorem BD.cap {α:Type}{E:Bs α}{e:TypeId}{H:Array Obj}{v:Value}{xs:List α}{F:List Nat}(h:BD E e H v xs F):Dm v:=by
 rcases h with⟨rfl,_⟩|⟨us,g,cap,cur,F',_,rfl,_,h,_⟩
 ·exact A9 _
 ·exact h
theorem Fr.cap {α:Type}{E:Bs α}{e:TypeId}{B U:Nat}{H:Array Obj}{v:Value}{xs:List α}(h:Fr (BD E e) B U H v xs):Dm v:=by
 obtain⟨F,h,_⟩:=h;exact h.cap
theorem I8.cap {e:TypeId}{S F:List Nat}{B:Nat}{H:Array Obj}{v:Value}{xs:List (List Int)}{us:List Value}(h:I8 e S B H v xs us F):Dm v:=h.own.cap
def Jm:Value→Value
 |.slice a n _=>.slice a n n
 |v=>v
end ops
end
section
set_option linter.unusedSectionVars false
class JR where
 rel:World→World→Prop
 refl:∀w,rel w w
 trans:∀ {a b c},rel a b→rel b c→rel a c
 ext:∀ {a b},AD a b→rel a b
@[reducible] def Qr (F:List Nat):JR:=⟨AB F,AB.refl F,AB.trans,AB.of_ext F⟩
namespace Jx
variable [J:JR]
def AD (w w':World):Prop:=J.rel w w'
theorem AD.refl (w:World):AD w w:=J.refl w
theorem AD.trans {a b c:World}(h:AD a b)(k:AD b c):AD a c:=J.trans h k
section
variable {P:Program} {ops:Array Oper} {md:Region.Mode}
def Cl (w0 w:World):Nat→World→Prop
 |0,_=>True
 |1,w'=>AD w0 w'
 |_,w'=>AD w w'
def BT (P:Program)(w0:World)(o:Oper)(k:Nat)(a:Act)(w:World)(K:Act→World→Prop):Prop :=
 if k≤2 then ∃v,(∀w',Cl w0 w k w'→YA P o a w' v)∧K (a.put o.dst v) w
 else if k=3 then o.wp P a w (fun a' w'=>AD w w'∧K a' w') (NQ fun _ _=>False)
 else o.wp P a w K (NQ fun _ _=>False)
def LW (P:Program)(ops:Array Oper)(w0:World)(Q:Act→World→Prop):List Oper→List Nat→Act→World→Prop
 |[],_,a,w=>Q a w
 |_::_,[],_,_=>False
 |o::os,k::ks,a,w =>
  if Region.wanted o (yielded ops a.tmps)=true then BT P w0 o k a w (LW P ops w0 Q os ks)else LW P ops w0 Q os ks (a.put o.dst undef) w
theorem BT.mono {w0:World}{o:Oper}{k:Nat}{a:Act}{w:World}{K K':Act→World→Prop}(h:∀a w,K a w→K' a w)
  (hh:BT P w0 o k a w K):BT P w0 o k a w K':=by
 unfold BT at *
 split
 ·rename_i hk
  rw[if_pos hk]at hh
  obtain⟨v,h1,h2⟩:=hh
  exact⟨v,h1,h _ _ h2⟩
 ·rename_i hk
  rw[if_neg hk]at hh
  split
  ·rename_i h3
   rw[if_pos h3]at hh
   exact Oper.wp_mono (fun a w hx=>⟨hx.1,h _ _ hx.2⟩) hh
  ·rename_i h3
   rw[if_neg h3]at hh
   exact Oper.wp_mono h hh
variable (P ops) in
def LI (kd:Nat→Nat)(w0:World)(Q:Act→World→Prop):List Nat→Act→World→Prop
 |[],a,w=>Q a w
 |i::l,a,w =>
  match ops[i]? with
  |none=>False
  |some o=>if Region.wanted o (yielded ops a.tmps)=true then BT P w0 o (kd i) a w (LI kd w0 Q l)else LI kd w0 Q l (a.put o.dst undef) w
def JQ (kd:Nat→Nat)(w0 w:World)(l:List Nat):Prop:=(∃j∈l,kd j=1)→AD w0 w
def Yv (P:Program)(ops:Array Oper)(w0:World)(k:Nat)(o:Oper)(a:Act)(w:World)(v:Value):Prop :=
 (Region.wanted o (yielded ops a.tmps)=true∧∀w',Cl w0 w k w'→YA P o a w' v)∨(Region.wanted o (yielded ops a.tmps)=false∧v=undef)
theorem Cl.self {w0 w:World}{k:Nat}(h:k=1→AD w0 w):Cl w0 w k w:=by
 match k,h with
 |0,_=>exact trivial
 |1,h=>exact h rfl
 |_+2,_=>exact AD.refl w
theorem Yv.unique {w0 w:World}{k:Nat}{o:Oper}{a:Act}{v u:Value}(hk:k=1→AD w0 w)(h:Yv P ops w0 k o a w v)(h':Yv P ops w0 k o a w u):v=u:=by
 rcases h with⟨h1,h2⟩|⟨h1,h2⟩ <;> rcases h' with⟨g1,g2⟩|⟨g1,g2⟩
 ·exact (h2 w<|Cl.self hk).unique<|g2 w<|Cl.self hk
 ·rw[h1]at g1;cases g1
 ·rw[h1]at g1;cases g1
 ·rw[h2,g2]
theorem Yv.apart {w0 w:World}{k:Nat}{o:Oper}(hs:∀cs b,o.op≠.select cs b){a:Act}{d:Option Tmp}{u v:Value}
  (h1:∀x,d=some x→x∉o.looksAt ops):Yv P ops w0 k o (a.put d u) w v↔Yv P ops w0 k o a w v:=by
 unfold Yv
 rw[wanted_put (ops:=ops) o a d u h1]
 simp only[YA.apart (ops:=ops) (P:=P) hs h1]
theorem Yv.defers {w0 w:World}{k:Nat}{o:Oper}{a:Act}{l:List Deferred}{v:Value}:Yv P ops w0 k o { a with defers:=l } w v↔Yv P ops w0 k o a w v:=by
 have he:Act.eval { a with defers:=l }=Act.eval a:=funext fun x=>by cases x <;> rfl
 unfold Yv YA
 rw[he]
theorem Yv.shape {w0 w:World}{k:Nat}{o:Oper}(hs:∀cs b,o.op≠.select cs b){a a':Act}{d:Option Tmp}{v:Value}
  (h1:∀x,d=some x→x∉o.looksAt ops) (h:ME a d a'):Yv P ops w0 k o a' w v↔Yv P ops w0 k o a w v:=by
 obtain⟨u,rfl|⟨x,rfl⟩⟩:=h
 ·exact Yv.apart hs h1
 ·rw[Yv.apart hs h1];exact Yv.defers
section main
variable {kd bs:Nat→Nat} {w0:World} {Q:Act→World→Prop}
theorem Ho (hsel:∀(j:Nat)(o:Oper) cs b,ops[j]? = some o→o.op≠.select cs b){j:Nat}{oj:Oper}(hj:ops[j]? = some oj)(hk:kd j≤2) :
  ∀(l1 l2:List Nat) (a:Act) (w:World),(∀i∈l1,∀oi,ops[i]? = some oi→oi.apart ops oj=true∧CV (kd i) (kd j)=true)→(kd j=1→AD w0 w) →
   LI P ops kd w0 Q (l1++j::l2) a w→∃v,Yv P ops w0 (kd j) oj a w v∧LI P ops kd w0 Q (l1++l2) (a.put oj.dst v) w
 |[],l2,a,w,_,_,h=>by
  simp only[zl,LI,hj]at h ⊢
  split at h
  ·rename_i hw
   unfold BT at h
   rw[if_pos hk]at h
   obtain⟨v,h1,h2⟩:=h
   exact⟨v,.inl ⟨hw,h1⟩,h2⟩
  ·rename_i hw
   exact⟨undef,.inr ⟨by simpa using hw,rfl⟩,h⟩
 |i::l1,l2,a,w,hl,hx,h=>by
  have hi:=hl i (z0 ..)
  have hl':∀x∈l1,∀ox,ops[x]? = some ox→ox.apart ops oj=true∧CV (kd x) (kd j)=true:=fun x hx=>hl x (z3 _ hx)
  simp only[List.cons_append,LI]at h ⊢
  cases hoi:ops[i]? with
  |none=>rw[hoi]at h;exact h.elim
  |some oi =>
   rw[hoi]at h
   simp only at h ⊢
   obtain⟨hap,hok⟩:=hi oi hoi
   obtain⟨p1,p2,p3⟩:=Oper.apart_spec hap
   have p2':∀d,oj.dst=some d→oi.dst≠some d:=fun d hd he=>p2 d he hd
   have si:=fun cs b=>hsel i oi cs b hoi
   have sj:=fun cs b=>hsel j oj cs b hj
   by_cases hw:Region.wanted oi (yielded ops a.tmps)=true
   ·rw[if_pos hw]at h
    unfold BT at h
    by_cases hki:kd i≤2
    ·rw[if_pos hki]at h
     obtain⟨vi,hy,h⟩:=h
     obtain⟨v,h1,h2⟩:=Ho hsel hj hk l1 l2 (a.put oi.dst vi) w hl' hx h
     refine⟨v,(Yv.apart sj p1).1 h1,?_⟩
     rw[wanted_put oi a oj.dst v p3,if_pos hw]
     unfold BT
     rw[if_pos hki]
     refine⟨vi,fun w' hc=>(YA.apart (ops:=ops) si p3).2 (hy w' hc),?_⟩
     rw[Act.put_comm a v vi p2']
     exact h2
    ·rw[if_neg hki]at h
     have gen:∀(G:World→Prop),(∀w',G w'→kd j=1→AD w0 w')→(kd j=2→False) →
       oi.wp P a w (fun a' w'=>G w'∧LI P ops kd w0 Q (l1++j::l2) a' w') (NQ fun _ _=>False) →
       ∃v,Yv P ops w0 (kd j) oj a w v∧oi.wp P (a.put oj.dst v) w (fun a' w'=>G w'∧LI P ops kd w0 Q (l1++l2) a' w') (NQ fun _ _=>False):=by
      intro G hG hn2 hh
      have hcl:∀w1 w2,Cl w0 w1 (kd j) w2→Cl w0 w (kd j) w2:=by
       intro w1 w2 hc
       match hkj:kd j,hk,hn2 with
       |0,_,_=>trivial
       |1,_,_=>rw[hkj]at hc;exact hc
       |2,_,hn=>exact(hn rfl).elim
       |_+3,hle,_=>omega
      have hcl':∀w1 w2,Cl w0 w (kd j) w2→Cl w0 w1 (kd j) w2:=by
       intro w1 w2 hc
       match hkj:kd j,hk,hn2 with
       |0,_,_=>trivial
       |1,_,_=>rw[hkj]at hc;exact hc
       |2,_,hn=>exact(hn rfl).elim
       |_+3,hle,_=>omega
      have hs:=Gt hh
      have step:∀a' w',((G w'∧LI P ops kd w0 Q (l1++j::l2) a' w')∧ME a oi.dst a') →
        ∃v,Yv P ops w0 (kd j) oj a w v∧LI P ops kd w0 Q (l1++l2) (a'.put oj.dst v) w':=by
       rintro a' w' ⟨⟨hg,hL⟩,hsh⟩
       obtain⟨v,h1,h2⟩:=Ho hsel hj hk l1 l2 a' w' hl' (hG w' hg) hL
       have h1':=(Yv.shape sj p1 hsh).1 h1
       refine⟨v,?_,h2⟩
       rcases h1' with⟨q1,q2⟩|⟨q1,q2⟩
       ·exact .inl ⟨q1,fun w2 hc=>q2 w2<|hcl' w' w2 hc⟩
       ·exact .inr ⟨q1,q2⟩
      obtain⟨v,hv⟩:∃v,Yv P ops w0 (kd j) oj a w v:=by
       obtain⟨u,w',hK|⟨d,hK⟩⟩:=Qi hs
       ·obtain⟨v,h1,_⟩:=step _ _ hK;exact⟨v,h1⟩
       ·obtain⟨v,h1,_⟩:=step _ _ hK;exact⟨v,h1⟩
      refine⟨v,hv,L3 (ops:=ops) si p3 p2' ?_⟩
      refine Oper.wp_mono (fun a' w' hK=>?_) hs
      obtain⟨v',h1,h2⟩:=step a' w' hK
      have:v'=v:=h1.unique hx hv
      subst this
      exact⟨hK.1.1,h2⟩
     by_cases h3:kd i=3
     ·rw[if_pos h3]at h
      have hj1:=fN hok h3
      obtain⟨v,hv,hwp⟩:=gen (fun w'=>AD w w') (fun w' hg h1=>(hx h1).trans hg) (fun h2=>by omega) h
      refine⟨v,hv,?_⟩
      rw[wanted_put oi a oj.dst v p3,if_pos hw]
      unfold BT
      rw[if_neg hki,if_pos h3]
      exact hwp
     ·rw[if_neg h3]at h
      have hj0:=fO hok zO
      obtain⟨v,hv,hwp⟩:=gen (fun _=>True) (fun w' _ h1=>by omega) (fun h2=>by omega) (Oper.wp_mono (fun a w hh=>⟨trivial,hh⟩) h)
      refine⟨v,hv,?_⟩
      rw[wanted_put oi a oj.dst v p3,if_pos hw]
      unfold BT
      rw[if_neg hki,if_neg h3]
      exact Oper.wp_mono (fun a w hh=>hh.2) hwp
   ·rw[if_neg hw]at h
    obtain⟨v,h1,h2⟩:=Ho hsel hj hk l1 l2 (a.put oi.dst undef) w hl' hx h
    refine⟨v,(Yv.apart sj p1).1 h1,?_⟩
    rw[wanted_put oi a oj.dst v p3,if_neg hw,Act.put_comm a v undef p2']
    exact h2
theorem Ix (hsel:∀(j:Nat)(o:Oper) cs b,ops[j]? = some o→o.op≠.select cs b){j:Nat}{oj:Oper}(hj:ops[j]? = some oj)(hk:3≤kd j) :
  ∀(l1 l2:List Nat) (a:Act) (w:World),(∀i∈l1,∀oi,ops[i]? = some oi→oi.apart ops oj=true∧CV (kd i) (kd j)=true)→LI P ops kd w0 Q (l1++j::l2) a w →
   (Region.wanted oj (yielded ops a.tmps)=true→oj.wp P a w (fun a' w'=>(kd j=3→AD w w')∧LI P ops kd w0 Q (l1++l2) a' w') (NQ fun _ _=>False)) ∧
   (Region.wanted oj (yielded ops a.tmps)=false→LI P ops kd w0 Q (l1++l2) (a.put oj.dst undef) w)
 |[],l2,a,w,_,h=>by
  simp only[zl,LI,hj]at h ⊢
  refine⟨fun hw=>?_,fun hw=>?_⟩
  ·rw[if_pos hw]at h
   unfold BT at h
   rw[if_neg (by omega)]at h
   split at h
   ·exact Oper.wp_mono (fun _ _ hh=>⟨fun _=>hh.1,hh.2⟩) h
   ·rename_i h3;exact Oper.wp_mono (fun _ _ hh=>⟨fun h'=>(h3 h').elim,hh⟩) h
  ·rw[if_neg (by simp[hw])]at h;exact h
 |i::l1,l2,a,w,hl,h=>by
  have hi:=hl i (z0 ..)
  have hl':∀x∈l1,∀ox,ops[x]? = some ox→ox.apart ops oj=true∧CV (kd x) (kd j)=true:=fun x hx=>hl x (z3 _ hx)
  simp only[List.cons_append,LI]at h ⊢
  cases hoi:ops[i]? with
  |none=>rw[hoi]at h;exact h.elim
  |some oi =>
   rw[hoi]at h
   simp only at h ⊢
   obtain⟨hap,hok⟩:=hi oi hoi
   obtain⟨p1,p2,p3⟩:=Oper.apart_spec hap
   have p2':∀d,oj.dst=some d→oi.dst≠some d:=fun d hd he=>p2 d he hd
   have si:=fun cs b=>hsel i oi cs b hoi
   have sj:=fun cs b=>hsel j oj cs b hj
   obtain⟨hki,hk4⟩:=dW hok hk
   by_cases hw:Region.wanted oi (yielded ops a.tmps)=true
   ·rw[if_pos hw]at h
    unfold BT at h
    rw[if_pos hki]at h
    obtain⟨vi,hy,h⟩:=h
    obtain⟨g1,g2⟩:=Ix hsel hj hk l1 l2 (a.put oi.dst vi) w hl' h
    rw[wanted_put oj a oi.dst vi p1]at g1 g2
    refine⟨fun hwj=>?_,fun hwj=>?_⟩
    ·have g:=Jg (ops:=ops) (Q:=fun _ _=>False) sj p1 p2<|g1 hwj
     refine Oper.wp_mono (fun a' w' hK=>?_)<|Gt g
     obtain⟨⟨hE,hL⟩,hsh⟩:=hK
     refine⟨hE,?_⟩
     rw[Fs p3 hsh,if_pos hw]
     unfold BT
     rw[if_pos hki]
     refine⟨vi,fun w'' hc=>?_,hL⟩
     have hya:YA P oi a w'' vi:=by
      refine hy w'' ?_
      match hki':kd i,hki,hk4 with
      |0,_,_=>trivial
      |1,_,_=>rw[hki']at hc;exact hc
      |2,_,h4=>rw[hki']at hc;exact(hE (by have:¬4≤kd j:=(fun hh=>by have:=h4 hh;omega);omega)).trans hc
      |_+3,hle,_=>omega
     have he:∀b,YA P oi b w'' vi↔YR P ((execOp b.eval oi).run P w'') w'' vi:=fun _=>Iff.rfl
     obtain⟨u,rfl|⟨x,rfl⟩⟩:=hsh
     ·exact (YA.apart (ops:=ops) si p3).2 hya
     ·refine (YA.apart (ops:=ops) si p3).2 ?_
      have hee:Act.eval { a with defers:=x::a.defers }=Act.eval a:=funext fun y=>by cases y <;> rfl
      rw[he,hee,← he];exact hya
    ·rw[wanted_put oi a oj.dst undef p3,if_pos hw]
     unfold BT
     rw[if_pos hki]
     refine⟨vi,fun w' hc=>(YA.apart (ops:=ops) si p3).2 (hy w' hc),?_⟩
     rw[Act.put_comm a undef vi p2']
     exact g2 hwj
   ·rw[if_neg hw]at h
    obtain⟨g1,g2⟩:=Ix hsel hj hk l1 l2 (a.put oi.dst undef) w hl' h
    rw[wanted_put oj a oi.dst undef p1]at g1 g2
    refine⟨fun hwj=>?_,fun hwj=>?_⟩
    ·have g:=Jg (ops:=ops) (Q:=fun _ _=>False) sj p1 p2<|g1 hwj
     refine Oper.wp_mono (fun a' w' hK=>?_)<|Gt g
     obtain⟨⟨hE,hL⟩,hsh⟩:=hK
     refine⟨hE,?_⟩
     rw[Fs p3 hsh,if_neg hw]
     exact hL
    ·rw[wanted_put oi a oj.dst undef p3,if_neg hw,Act.put_comm a undef undef p2']
     exact g2 hwj
end main
end
section
variable {P:Program} {ops:Array Oper} {md:Region.Mode} {kd bs:Nat→Nat} {w0:World} {Q:Act→World→Prop}
theorem Ef (hsel:∀(j:Nat)(o:Oper) cs b,ops[j]? = some o→o.op≠.select cs b)(hS:Kj md ops bs)
  (hlex:∀j oj,ops[j]? = some oj→∀e∈oj.after,Region.binds md e=true→e.on<j) :
  ∀(n:Nat) (l:List Nat) (listed:Array Bool) (a:Act) (w:World),l.length=n→l.Pairwise (CR md ops kd bs)→l.Nodup→listed.size=ops.size →
   (∀i,i∈l↔listed.getD i true=false)→IJ bs listed→II kd l→JQ kd w0 w l→LI P ops kd w0 Q l a w→wpAny P md ops (NQ Q) n listed a w
 |0,l,listed,a,w,hn,_,_,_,hm,_,_,_,h=>by
  have hl:l=[]:=List.eq_nil_of_length_eq_zero hn
  subst hl
  refine⟨?_,h⟩
  cases hr:Region.ready md ops listed with
  |nil=>rfl
  |cons x xs =>
   have:=(mem_ready.1 (by rw[hr];exact z0 ..:x∈Region.ready md ops listed)).1
   exact absurd ((hm x).2 this) (by simp)
 |n+1,l,listed,a,w,hn,hs,hd,hz,hm,hc,h14,hi1,h=>by
  refine⟨fun h0=>?_,fun i hi=>?_⟩
  ·exfalso
   match l,hn with
   |i::l,hn =>
    have hready:=GU (md:=md) hz hm hlex fun y hy ox hox=>((List.pairwise_cons.1 hs).1 y hy).2 ox hox
    rw[h0]at hready
    cases hready
  ·obtain⟨hun,oi,hoi,hall⟩:=mem_ready.1 hi
   obtain⟨l1,l2,rfl⟩:=List.append_of_mem ((hm i).2 hun)
   have hbits:=DW hS hc hoi hall
   have hpi:∀x∈l1,CR md ops kd bs x i:=fun x hx=>(List.pairwise_append.1 hs).2.2 x hx i (z0 ..)
   have hfree:=D4 (kd:=kd) (l1:=l1) hoi (fun x hx=>(hpi x hx).1) (fun x hx=>(hm x).1 (z8 _ hx)) hbits
   have hsz:=CB hun
   have hsub0:(l1++l2).Sublist (l1++i::l2):=List.Sublist.append_left (List.sublist_cons_self _ _) _
   have hnd:i∉l1++l2:=by
    have h1:=List.nodup_append.1 hd
    intro hmem
    rcases zi.1 hmem with hh|hh
    ·exact h1.2.2 i hh i (z0 ..) rfl
    ·exact (List.nodup_cons.1 h1.2.1).1 hh
   have hn':(l1++l2).length=n:=by simp at hn ⊢;omega
   have rec_:∀a' w',JQ kd w0 w' (l1++l2)→LI P ops kd w0 Q (l1++l2) a' w'→wpAny P md ops (NQ Q) n (listed.setIfInBounds i true) a' w':=fun a' w' hi' hL =>
    Ef hsel hS hlex n (l1++l2) _ a' w' hn' (hs.sublist hsub0) (hd.sublist hsub0) (by simpa using hz) (EE hm hnd hsz) (E8 hc hbits) (II.erase h14) hi' hL
   have hsub:JQ kd w0 w (l1++l2):=fun⟨j,hj,hk⟩=>hi1 ⟨j,hsub0.subset hj,hk⟩
   by_cases hk:kd i≤2
   ·obtain⟨v,hv,hL⟩:=Ho hsel hoi hk l1 l2 a w hfree (fun h1=>hi1 ⟨i,by simp,h1⟩) h
    unfold wpOp
    rw[hoi]
    rcases hv with⟨hw,hy⟩|⟨hw,rfl⟩
    ·simp only[hw,if_true]
     exact .inl<|HC (hy w (Cl.self fun h1=>hi1 ⟨i,by simp,h1⟩))<|rec_ _ _ hsub hL
    ·simp only[hw,Bool.false_eq_true,if_false]
     exact rec_ _ _ hsub hL
   ·obtain⟨g1,g2⟩:=Ix hsel hoi zO l1 l2 a w hfree h
    unfold wpOp
    rw[hoi]
    by_cases hw:Region.wanted oi (yielded ops a.tmps)=true
    ·simp only[hw,if_true]
     refine .inl<|Oper.wp_mono (fun a' w' hK=>rec_ a' w' ?_ hK.2)<|GT<|g1 hw
     rintro⟨j,hj,hkj⟩
     by_cases h3:kd i=3
     ·exact (hsub ⟨j,hj,hkj⟩).trans<|hK.1 h3
     ·exfalso
      rcases zi.1 hj with hh|hh
      ·obtain⟨oj,hoj⟩:∃oj,ops[j]? = some oj:=by
        have:=CB ((hm j).1 (z8 _ hh))
        exact⟨ops[j]'(by omega),by simp[show j<ops.size by omega]⟩
       have:=(dW (hfree j hh oj hoj).2 zO).2 zO
       omega
      ·exact h14 l1 i l2 rfl zO j hh hkj
    ·simp only[hw,Bool.false_eq_true,if_false]
     exact rec_ _ _ hsub<|g2 (by simpa using hw)
theorem Gu (ks:List Nat):∀(os:List Oper)(k:Nat)(a:Act)(w:World),(∀j,os[j]? = ops[k+j]?) →
  LW P ops w0 Q os (ks.drop k) a w→LI P ops (fun i=>ks.getD i 0) w0 Q (List.range' k os.length) a w
 |[],_,_,_,_,h=>by simpa [LI,LW]using h
 |o::os,k,a,w,ho,h=>by
  have h0:ops[k]? = some o:=by simpa using (ho 0).symm
  have hr:∀a w,LW P ops w0 Q os (ks.drop (k+1)) a w→LI P ops (fun i=>ks.getD i 0) w0 Q (List.range' (k+1) os.length) a w:=fun a w hh =>
   Gu ks os (k+1) a w (fun j=>by have:=ho (j+1);simpa [Nat.add_assoc,Nat.add_comm 1 j]using this) hh
  have hlt:k<ks.length:=by
   rcases Nat.lt_or_ge k ks.length with hh|hh
   ·exact hh
   ·rw[List.drop_of_length_le hh]at h;exact h.elim
  have hd:ks.drop k=ks[k]::ks.drop (k+1):=List.drop_eq_getElem_cons hlt
  rw[hd]at h
  simp only[z9,List.range'_succ,LI,h0,LW]at h ⊢
  have hg:ks.getD k 0=ks[k]:=by simp[hlt]
  split
  ·rename_i hw
   rw[if_pos hw]at h
   rw[hg]
   exact h.mono hr
  ·rename_i hw
   rw[if_neg hw]at h
   exact hr _ _ h
theorem B7 {id:Nat}{Q:Exit→Act→World→Prop}{a:Act}{w:World}(os:List Oper)(ks:List Nat)(hm:P.follows .mixedOrders=true)(hB:dX os.toArray ks=true)
  (h:LW P os.toArray w.drew (fun a w=>Q .normal a w) os ks a w.drew):(Code.region id os.toArray true).wp P Q a w:=by
 refine wp_region_any hm ?_
 simp only[dX,z7]at hB
 obtain⟨⟨hsel,hpl⟩,h14⟩:=hB
 have hz:∀ {j:Nat} {o:Oper},os.toArray[j]? = some o→(o,j)∈os.toArray.toList.zipIdx:=by
  intro j o ho
  rw[List.mem_zipIdx_iff_getElem?]
  simpa using ho
 have hall:∀j oj,os.toArray[j]? = some oj→_:=fun j oj hj=>zm.1 hpl _ (hz hj)
 have hF:Ya os.toArray (fun i=>ks.getD i 0) (fun j=>(Region.before os.toArray).toList.getD j 0):=by
  intro i j oi oj hij hi hj
  have h3:=(z7 _ _ ▸ hall j oj hj:_∧_).2
  have h4:=zm.1 h3 _<|hz hi
  simp only[Bool.or_eq_true,Bool.not_eq_true',decide_eq_false_iff_not,z7]at h4
  rcases h4 with(h4|h4)|h4
  ·exact absurd hij h4
  ·exact .inl h4
  ·exact .inr h4
 have hlex:∀j oj,os.toArray[j]? = some oj→∀e∈oj.after,Region.binds .any e=true→e.on<j:=by
  intro j oj hj e he hb
  have h1:=(z7 _ _ ▸ (z7 _ _ ▸ hall j oj hj:_∧_).1:_∧_).1
  have h2:=(Array.all_eq_true_iff_forall_mem.1 h1) e he
  simpa [hb]using h2
 have key:=Ef (P:=P) (ops:=os.toArray) (md:=.any) (kd:=fun i=>ks.getD i 0) (bs:=fun j=>(Region.before os.toArray).toList.getD j 0) (w0:=w.drew) (Q:=fun a w=>Q .normal a w)
  (Region.noSelect_spec hsel) ?_ ?_ os.length (List.range' 0 os.length) (Array.replicate os.length false) a w.drew (by simp) ?_ List.nodup_range' (by simp) ?_ ?_ ?_ (fun _=>AD.refl _) ?_
 ·have:=GV _ _ _ _ key
  simpa using this
 ·intro j oj hj i hb
  have h3:=(z7 _ _ ▸ (z7 _ _ ▸ hall j oj hj:_∧_).1:_∧_).2
  have h5:(Region.before os.toArray).toList.getD j 0=oj.after.foldl (fun s e=>if Region.binds .any e then s ||| 2 ^ e.on ||| (Region.before os.toArray).toList.getD e.on 0 else s) 0:=by simpa using h3
  dsimp only at hb
  rw[h5,← Array.foldl_toList]at hb
  rcases FE _ _ _ _ hb with hb|⟨e,he,hbb,hh⟩
  ·simp at hb
  ·exact⟨e,Array.mem_toList_iff.1 he,hbb,hh⟩
 ·exact hlex
 ·exact Jh hF hlex List.pairwise_lt_range'
 ·intro i
  simp only[List.mem_range',Nat.zero_add,Nat.one_mul]
  constructor
  ·rintro⟨x,hx,rfl⟩;simp[hx]
  ·intro hh
   rcases Nat.lt_or_ge i os.length with h'|h'
   ·exact⟨i,h',rfl⟩
   ·simp[Array.getElem?_eq_none (show(Array.replicate os.length false).size≤i by simpa using h')]at hh
 ·intro i hi
  rcases Nat.lt_or_ge i os.length with h'|h'
  ·simp[h']at hi
  ·simp[Array.getElem?_eq_none (show(Array.replicate os.length false).size≤i by simpa using h')]at hi
 ·intro l1 i l2 hl hk j hj
  have hs:(l1++i::l2).Pairwise (· < ·):=hl ▸ List.pairwise_lt_range'
  have hij:i<j:=List.rel_of_pairwise_cons (List.pairwise_append.1 hs).2.1 hj
  have mem:∀x∈l1++i::l2,x<os.length:=by
   intro x hx
   rw[← hl]at hx
   simp only[List.mem_range',Nat.zero_add,Nat.one_mul]at hx
   obtain⟨y,hy,rfl⟩:=hx
   exact hy
  have hi:=mem i (by simp)
  have hj':=mem j (by simp[hj])
  have h1:=zm.1 h14 _<|hz (j:=i) (o:=os[i]) (by simp[hi])
  simp only[Bool.or_eq_true,Bool.not_eq_true',decide_eq_false_iff_not]at h1
  rcases h1 with h1|h1
  ·exact absurd hk h1
  ·have h2:=zm.1 h1 _<|hz (j:=j) (o:=os[j]) (by simp[hj'])
   simp only[Bool.or_eq_true,Bool.not_eq_true',decide_eq_false_iff_not]at h2
   rcases h2 with h2|h2
   ·exact absurd hij h2
   ·simpa using h2
 ·exact Gu ks os 0 a w.drew (by simp) (by simpa using h)
end
section
variable {P:Program} {ops:Array Oper} {w0:World} {Q:Act→World→Prop} {os:List Oper} {ks:List Nat} {N:Nat} {ρ:Nat→Value} {w:World}
theorem Aj {a:Act}(h:Q a w):LW P ops w0 Q [] ks a w:=h
theorem Cr {o:Oper}{k d:Nat}(hk:k≤2)(hd:o.dst=some d)(hu:Up ops N ρ o)(v:Value)(hr:∀w',Cl w0 w k w'→(execOp (Br N ρ) o).run P w'=.ok (.value v) w')
  (h:LW P ops w0 Q os ks (mk N (CI ρ d v)) w):LW P ops w0 Q (o::os) (k::ks) (mk N ρ) w:=by
 simp only[LW]
 rw[if_pos hu]
 unfold BT
 rw[if_pos hk]
 refine⟨v,fun w' hc=>.inl ?_,?_⟩
 ·rw[D7];exact hr w' hc
 ·rw[hd,Fi];exact h
theorem Ji {o:Oper}{d:Nat}(hd:o.dst=some d)(hu:Up ops N ρ o)
  (v:Value) (w1:World) (hr:(execOp (Br N ρ) o).run P w=.ok (.value v) w1) (hE:AD w w1) (h:LW P ops w0 Q os ks (mk N (CI ρ d v)) w1):LW P ops w0 Q (o::os) (3::ks) (mk N ρ) w:=by
 simp only[LW]
 rw[if_pos hu]
 unfold BT
 rw[if_neg (by decide),if_pos rfl]
 unfold Oper.wp
 rw[D7,hr]
 show AD w w1∧LW P ops w0 Q os ks ((mk N ρ).put o.dst v) w1
 rw[hd,Fi]
 exact⟨hE,h⟩
theorem Ay {d:Nat} {x:Operand} {xs:Array Operand} {ats:Array TypeId} {ty:TypeId} {pos:String} {aft:Array Edge} {g:Option (Nat × Bool)} (f:FuncId) (first cap:List Value) (args:List Value)
  (hx:Br N ρ x = .func (.func f) first.toArray cap.toArray) (hxs:first++(xs.toList.map (Br N ρ))++cap = args) (hf:((P.funcs[f]?).map fun fn=>(fn.name != "runtime.NumGoroutine") && fn.body.isSome) = some true)
  (hu:Up ops N ρ ⟨some d,.call ⟨.value x,xs,ats⟩,ty,pos,aft,g⟩) {R:Ending→World→Prop} (hc:Calls P f args.toArray w R)
  (h:∀ e w1,R e w1→∃ v,e = .returned v∧AD w w1∧LW P ops w0 Q os ks (mk N (CI ρ d v)) w1) :
  LW P ops w0 Q (⟨some d,.call ⟨.value x,xs,ats⟩,ty,pos,aft,g⟩ :: os) (3 :: ks) (mk N ρ) w:=by
 simp only [LW]
 rw [if_pos hu]
 unfold BT
 rw [if_neg (by decide),if_pos rfl]
 unfold Oper.wp
 rw [D7]
 have hrun:(execOp (Br N ρ) ⟨some d,.call ⟨.value x,xs,ats⟩,ty,pos,aft,g⟩).run P w = .ok (.enter f args.toArray) w:=by
  obtain ⟨fn,hfn,hb⟩:=Option.map_eq_some_iff.1 hf
  simp only [z7,bne_iff_ne,ne_eq] at hb
  have hargs:first.toArray++xs.map (Br N ρ)++cap.toArray = args.toArray:=by
   rw [← hxs]; apply Array.ext'; simp
  obtain ⟨c,hbc⟩:=Option.isSome_iff_exists.1 hb.2
  have hcf:(callFunc f args.toArray).run P w = .ok (.enter f args.toArray) w:=by
   simp [callFunc,hfn,hb.1,hbc]
  simp [execOp,resolve,hargs,hx,Deferred.ofValue,invoke,hcf]
 rw [hrun]
 refine Calls.mono hc (fun e w1 he=>?_)
 obtain ⟨v,rfl,hE,hL⟩:=h e w1 he
 show AD w w1∧LW P ops w0 Q os ks ((mk N ρ).put (some d) v) w1
 rw [Fi]
 exact ⟨hE,hL⟩
theorem AF {d:Nat} {x:Operand} {xs:Array Operand} {ats:Array TypeId} {ty:TypeId} {pos:String} {aft:Array Edge} {g:Option (Nat × Bool)} (f:FuncId) (first cap:List Value) (args:List Value)
  (hx:Br N ρ x = .func (.func f) first.toArray cap.toArray) (hxs:first++(xs.toList.map (Br N ρ))++cap = args) (hf:((P.funcs[f]?).map fun fn=>(fn.name != "runtime.NumGoroutine") && fn.body.isSome) = some true)
  (hu:Up ops N ρ ⟨some d,.call ⟨.value x,xs,ats⟩,ty,pos,aft,g⟩) (v:Value) (hc:∀ w',Calls P f args.toArray w' (fun e w''=>e = .returned v∧w'' = w'))
  (h:LW P ops w0 Q os ks (mk N (CI ρ d v)) w) :
  LW P ops w0 Q (⟨some d,.call ⟨.value x,xs,ats⟩,ty,pos,aft,g⟩ :: os) (0 :: ks) (mk N ρ) w:=by
 simp only [LW]
 rw [if_pos hu]
 unfold BT
 rw [if_pos (by decide)]
 have hrun:∀ w,(execOp (Br N ρ) ⟨some d,.call ⟨.value x,xs,ats⟩,ty,pos,aft,g⟩).run P w = .ok (.enter f args.toArray) w:=by
  intro w
  obtain ⟨fn,hfn,hb⟩:=Option.map_eq_some_iff.1 hf
  simp only [z7,bne_iff_ne,ne_eq] at hb
  have hargs:first.toArray++xs.map (Br N ρ)++cap.toArray = args.toArray:=by
   rw [← hxs]; apply Array.ext'; simp
  obtain ⟨c,hbc⟩:=Option.isSome_iff_exists.1 hb.2
  have hcf:(callFunc f args.toArray).run P w = .ok (.enter f args.toArray) w:=by
   simp [callFunc,hfn,hb.1,hbc]
  simp [execOp,resolve,hargs,hx,Deferred.ofValue,invoke,hcf]
 refine ⟨v,fun w' _=>.inr (.inr ⟨f,args.toArray,?_,hc w'⟩),?_⟩
 ·rw [D7]; exact hrun w'
 ·show LW P ops w0 Q os ks ((mk N ρ).put (some d) v) w
  rw [Fi]; exact h
end
section
variable {P:Program} {ops:Array Oper} {w0:World} {Q:Act→World→Prop} {os:List Oper} {ks:List Nat} {N:Nat} {ρ:Nat→Value} {w:World}
 {d:Nat} {ty:TypeId} {pos:String} {aft:Array Edge} {g:Option (Nat×Bool)} {t e:TypeId}
theorem Yc {x:Operand}(v:Value)(hx:Br N ρ x=v)(hu:Up ops N ρ ⟨some d,.move x,ty,pos,aft,g⟩)(h:LW P ops w0 Q os ks (mk N (CI ρ d v)) w) :
  LW P ops w0 Q (⟨some d,.move x,ty,pos,aft,g⟩::os) (0::ks) (mk N ρ) w :=
 Cr (by decide) rfl hu v (fun w' _=>by simp[execOp,hx]) h
theorem Sk {x:Operand}(v:Value)(hx:Br N ρ x=v)(hu:Up ops N ρ ⟨some d,.assign x,ty,pos,aft,g⟩)(h:LW P ops w0 Q os ks (mk N (CI ρ d v)) w) :
  LW P ops w0 Q (⟨some d,.assign x,ty,pos,aft,g⟩::os) (0::ks) (mk N ρ) w :=
 Cr (by decide) rfl hu v (fun w' _=>by simp[execOp,hx]) h
theorem AH {t e:TypeId}{x y:Operand}{v:Value}{n s:Nat}{k:IntKind}{i:Int}(j:Nat)(ht:P.underlying t=some (.slice e)){z:Value}{b:Nat}(hi:TI P e s z b)(hx:Br N ρ x=v)(hy:Br N ρ y=.int k i)
  (hs:Fu v n) (hj:i=(j:Int)) (hlt:j<n) (hu:Up ops N ρ ⟨some d,.indexAddr t x y,ty,pos,aft,g⟩)
  (h:LW P ops w0 Q os ks (mk N (CI ρ d (AE v j s))) w):LW P ops w0 Q (⟨some d,.indexAddr t x y,ty,pos,aft,g⟩::os) (0::ks) (mk N ρ) w :=
 Cr (by decide) rfl hu _ (fun w' _=>by
  obtain⟨a,c,rfl,ha⟩:=hs
  obtain⟨inf,h1,_,h3,_⟩:=hi.get
  subst hj
  cases a with
  |none=>have:=ha rfl;omega
  |some a =>
   have hlt':(j:Int)<(n:Int):=by omega
   simp[execOp,hx,hy,Instr.indexAt,asIntOf,run_underlying ht,sizeOf,typeInfo,h1,h3,AE,hlt]) h
theorem Ao {s:TypeId}{x:Operand}{i:Nat}{p:Value}{b o:Nat}(off:Nat)(hf:H0 P s i off=true)(hx:Br N ρ x=p)(hp:p=.pointer (some ⟨b,o,none⟩))(hu:Up ops N ρ ⟨some d,.fieldAddr s x i,ty,pos,aft,g⟩)
  (h:LW P ops w0 Q os ks (mk N (CI ρ d (Au p off))) w):LW P ops w0 Q (⟨some d,.fieldAddr s x i,ty,pos,aft,g⟩::os) (0::ks) (mk N ρ) w :=
 Cr (by decide) rfl hu _ (fun w' _=>by
  subst hp
  unfold H0 at hf
  split at hf
  ·rename_i fs hfs
   split at hf
   ·rename_i f hff
    simp only[z7,beq_iff_eq]at hf
    obtain⟨rfl,hf2⟩:=hf
    split at hf2
    ·rename_i inf hin
     have hne:inf.size≠0:=by simpa using hf2
     simp[execOp,Instr.fieldAt,Instr.sureAddr,run_underlying hfs,hff,hx,fieldPlace,sizeOf,typeInfo,hin,hne,IL,Au]
    ·cases hf2
   ·cases hf
  ·cases hf) h
theorem eB {x:Operand}{p:Value}(u:Value)(ht:Cw P t)(hx:Br N ρ x=p)(hc:∀w',AD w0 w'→Hp w'.heap p=some u)(hu:Up ops N ρ ⟨some d,.load t x,ty,pos,aft,g⟩)
  (h:LW P ops w0 Q os ks (mk N (CI ρ d u)) w):LW P ops w0 Q (⟨some d,.load t x,ty,pos,aft,g⟩::os) (1::ks) (mk N ρ) w :=
 Cr (by decide) rfl hu _ (fun w' hcl=>by simp[execOp,hx,MF ht (hc w' hcl)]) h
theorem ZU {s:Nat}{x:Operand}{p:Value}(cs:List Value)(ht:ER P t s=true)(hx:Br N ρ x=p)(hc:∀w',AD w0 w'→LD w'.heap p cs)(hl:cs.length=s)
  (hu:Up ops N ρ ⟨some d,.load t x,ty,pos,aft,g⟩)
  (h:LW P ops w0 Q os ks (mk N (CI ρ d (.agg cs.toArray))) w):LW P ops w0 Q (⟨some d,.load t x,ty,pos,aft,g⟩::os) (1::ks) (mk N ρ) w :=
 Cr (by decide) rfl hu _ (fun w' hcl=>by simp[execOp,hx,MH ht (hc w' hcl) hl]) h
end
section
variable {P:Program} {ops:Array Oper} {w0:World} {Q:Act→World→Prop} {os:List Oper} {ks:List Nat} {N:Nat} {ρ:Nat→Value} {w:World}
 {d:Nat} {ty:TypeId} {pos:String} {aft:Array Edge} {g:Option (Nat×Bool)} {t e:TypeId} {z:Value} {b:Nat}
theorem BQ {α:Type}{E:Bs α}(hE:BZ E){x:Operand}{u:Value}{y:α}{B U:Nat}(ht:P.underlying t=some (.slice e))(hi:TI P e 1 z b)(hz:z.cells=#[z])(hx:Br N ρ x=u)(hy:Fr E B U w.heap u y)(hB:B≤w.heap.size)
  (hu:Up ops N ρ ⟨some d,.buildSlice t 1 #[(0,x)],ty,pos,aft,g⟩)
  (h:∀v w1,_root_.Go.Proofs.YtemfgblmfahllaaGreat.AD w w1→w1.heap.size=w.heap.size+1→Fr (BD E e) B w1.heap.size w1.heap v [y]→LW P ops w0 Q os ks (mk N (CI ρ d v)) w1) :
  LW P ops w0 Q (⟨some d,.buildSlice t 1 #[(0,x)],ty,pos,aft,g⟩::os) (3::ks) (mk N ρ) w:=by
 obtain⟨F,h1,h2,h3⟩:=hy
 have hr:=Qm (P:=P) (w:=w) ht hi (hE.cells h1) hz
 have hrun:(execOp (Br N ρ) ⟨some d,.buildSlice t 1 #[(0,x)],ty,pos,aft,g⟩).run P w=.ok (.value (.slice (some ⟨w.heap.size,0,none⟩) 1 1)) (w.alloc (.cells #[u] e)):=by
  simp only[execOp,zc,zf,zh,Sem.run_bind,hx,hr,Result.andThen_ok,Sem.run_pure]
 refine Ji rfl hu _ _ hrun (J.ext<|BA _ _)<|h _ _ (BA _ _) (by simp) ?_
 have hn:=FZ (e:=e) (w:=w) hE (us:=[u]) (xs:=[y]) (F:=F++[]) (cur:=#[u]) ⟨F,[],rfl,h1,rfl⟩ (by simp[maxLen]) rfl (by simp)
 refine⟨_,hn,?_,fun c hc=>?_⟩
 ·rw[List.append_nil,List.nodup_cons]
  exact⟨fun hm=>by have:=hE.lt h1 _ hm;omega,h2⟩
 ·have hlt:=(Bc hE).lt hn c hc
  refine⟨?_,hlt⟩
  rcases ze.1 hc with rfl|hc
  ·exact hB
  ·exact (h3 c (by simpa using hc)).1
end
end Jx
end
section
def RT {α:Type}(T:Nat)(E:Bs α)(H:Array Obj)(v:Value)(x:α):Prop:=∃F,E H v x F∧∀b∈F,b<T
section rt
variable {α:Type} {E:Bs α} {T:Nat} {w w':World} {v:Value} {x:α} {xs:List α} {F S:List Nat}
theorem RN.rt (hE:BZ E)(h:RN S E w.heap v x):RT w.heap.size E w.heap v x:=by
 obtain⟨F,h,_⟩:=h
 exact⟨F,h,hE.lt h⟩
theorem RT.ext (hE:BZ E)(h:RT T E w.heap v x)(k:AD w w'):RT T E w'.heap v x:=by
 obtain⟨F,h,hb⟩:=h
 exact⟨F,hE.stable h fun b hm=>k.heap (hE.lt h b hm),hb⟩
theorem RT.chg (hE:BZ E)(h:RT T E w.heap v x)(c:AB F w w')(hF:∀b∈F,T≤b):RT T E w'.heap v x:=by
 obtain⟨G,h,hb⟩:=h
 exact⟨G,hE.stable h fun b hm=>c.block b (hE.lt h b hm) fun hf=>by have:=hF b hf;have:=hb b hm;omega,hb⟩
theorem RT.rd {H:Array Obj}(h:RT T E H v x):Rd E H v x:=by obtain⟨F,h,_⟩:=h;exact⟨F,h⟩
theorem RT.rn {H:Array Obj}(h:RT T E H v x):RN [] E H v x:=by obtain⟨F,h,_⟩:=h;exact⟨F,h,fun b _ hm=>by cases hm⟩
theorem RT.slL {H:Array Obj}(h:RT T (Bl E) H v xs):Go.Proofs.YtemfgblmfahllaaGreat.Fu v xs.length:=h.rn.slL
theorem RT.lenL {H:Array Obj}(h:RT T (Bl E) H v xs):xs.length≤maxLen:=h.rn.lenL
theorem RT.getL {H:Array Obj}(hE:BZ E)(d:α){k:Nat}(h:RT T (Bl E) H v xs)(hk:k<xs.length):∃u,Hp H (AE v k 1)=some u∧RT T E H u (xs.getD k d):=by
 obtain⟨F,h,hb⟩:=h
 obtain⟨u,F1,h1,h2,h3⟩:=Bl.get2 d h hk
 exact⟨u,h1 _ fun _ _=>rfl,F1,h2,fun b hm=>hb b (h3 b hm)⟩
theorem RT.getI {H:Array Obj}{xs:List Int}{k:Nat}(h:RT T (Bl rI) H v xs)(hk:k<xs.length):Hp H (AE v k 1)=some (.int .i64 (xs.getD k 0))∧-9223372036854775808≤xs.getD k 0∧xs.getD k 0≤9223372036854775807:=h.rd.getI hk
end rt
section ops
variable {P:Program} {ops:Array Oper} {w0:World} {Q:Act→World→Prop} {os:List Oper} {ks:List Nat} {N:Nat} {ρ:Nat→Value} {w:World}
 {d:Nat} {ty:TypeId} {pos:String} {aft:Array Edge} {g:Option (Nat×Bool)} {t e:TypeId}
theorem AX {x:Operand}{p:Value}(hp:∃g o,p=.pointer (some ⟨g,o,none⟩))(hx:Br N ρ x=p)(hu:Up ops N ρ ⟨some d,.nilCheck x,ty,pos,aft,g⟩)
  (h:LW P ops w0 Q os ks (mk N (CI ρ d p)) w):LW P ops w0 Q (⟨some d,.nilCheck x,ty,pos,aft,g⟩::os) (0::ks) (mk N ρ) w:=by
 obtain⟨b,o,rfl⟩:=hp
 exact Cr (by decide) rfl hu _ (fun w' _=>by simp[execOp,hx]) h
theorem MM (a:Addr):a.add 0=a:=by
 obtain⟨b,o,s⟩:=a
 unfold Addr.add
 simp
theorem Yi {x y z:Operand}{v u:Value}{n s b:Nat}(ht:P.underlying t=some (.slice e))(hi:TI P e s u b)(hx:Br N ρ x=v)(hs:Fu v n)(hy:Br N ρ y=.int .i64 (n:Int))(hz:Br N ρ z=.int .i64 (n:Int))(hc:Dm v)
  (hu:Up ops N ρ ⟨some d,.slice t x none (some y) (some z),ty,pos,aft,g⟩)
  (h:LW P ops w0 Q os ks (mk N (CI ρ d (Jm v))) w):LW P ops w0 Q (⟨some d,.slice t x none (some y) (some z),ty,pos,aft,g⟩::os) (0::ks) (mk N ρ) w:=by
 obtain⟨a,cap,rfl,_⟩:=hs
 obtain⟨inf,h1,_,h3,_⟩:=hi.get
 refine Cr (by decide) rfl hu _ (fun w' _=>?_) h
 have hl':n≤cap:=hc
 have hmap:∀a:Option Addr,a.map (·.add 0)=a:=fun a=>by cases a <;> simp[MM]
 simp[execOp,hx,hy,hz,Instr.sliceAt,Instr.slice,Instr.sliceBounds,Instr.sliceBound,asIntOf,run_underlying ht,sizeOf,typeInfo,h1,h3,Jm,hl',hmap]
end ops
end
section
def IQ (a b:ByteArray):Bool:=a.toList == b.toList
section ops
variable {P:Program} {ops:Array Oper} {w0:World} {Q:Act→World→Prop} {os:List Oper} {ks:List Nat} {N:Nat} {ρ:Nat→Value} {w:World}
 {d:Nat} {ty:TypeId} {pos:String} {aft:Array Edge} {g:Option (Nat×Bool)} {t e:TypeId}
theorem Pu {xt yt:TypeId}{x y:Operand}{a b:ByteArray}(c:Bool)(ht:P.underlying xt=some .string)(hx:Br N ρ x=.string a)(hy:Br N ρ y=.string b)(hc:IQ a b=c)(hu:Up ops N ρ ⟨some d,.binOp .eql xt x y yt,ty,pos,aft,g⟩)
  (h:LW P ops w0 Q os ks (mk N (CI ρ d (.bool c))) w):LW P ops w0 Q (⟨some d,.binOp .eql xt x y yt,ty,pos,aft,g⟩::os) (0::ks) (mk N ρ) w :=
 Cr (by decide) rfl hu _ (fun w' _=>by
  have he:(eqGuard .eql xt x y (.string a) (.string b)).run P w'=.ok () w':=rfl
  have hr:(binOp .eql xt (.string a) (.string b)).run P w'=.ok (.bool (IQ a b)) w':=by simp[binOp,Op.stringOp,IQ]
  simp only[execOp,hx,hy,Sem.run_bind,he,Result.andThen_ok,hr,hc,Sem.run_pure]) h
def Om:Value→Nat→Value
 |.slice a _ c,k=>.slice a k c
 |v,_=>v
theorem RN.pref {α:Type}{S:List Nat}{s:Nat}{E:Cb α}{H:Array Obj}{v:Value}{xs:List α}(hE:CJ s E){k:Nat}(h:RN S (CK s E) H v xs)(hk:k≤xs.length):RN S (CK s E) H (Om v k) (xs.take k):=by
 obtain⟨F,h,hb⟩:=h
 obtain⟨a,c,rfl,_⟩:=h.cap
 obtain⟨G,g1,g2⟩:=h.take hE hk
 exact⟨G,g1,fun b hm=>hb b (g2 b hm)⟩
theorem RN.capS {α:Type}{S:List Nat}{s:Nat}{E:Cb α}{H:Array Obj}{v:Value}{xs:List α}(h:RN S (CK s E) H v xs):Dm v:=by
 obtain⟨F,h,hb⟩:=h
 obtain⟨a,c,rfl,hl⟩:=h.cap
 exact hl
theorem Yj {x y:Operand}{v z:Value}{n s b k:Nat}(ht:P.underlying t=some (.slice e))(hi:TI P e s z b)(hx:Br N ρ x=v)(hs:Fu v n)(hc:Dm v)(hy:Br N ρ y=.int .i64 (k:Int))(hk:k≤n)(hu:Up ops N ρ ⟨some d,.slice t x none (some y) none,ty,pos,aft,g⟩)
  (h:LW P ops w0 Q os ks (mk N (CI ρ d (Om v k))) w):LW P ops w0 Q (⟨some d,.slice t x none (some y) none,ty,pos,aft,g⟩::os) (0::ks) (mk N ρ) w:=by
 obtain⟨a,cap,rfl,_⟩:=hs
 obtain⟨inf,h1,_,h3,_⟩:=hi.get
 refine Cr (by decide) rfl hu _ (fun w' _=>?_) h
 have hl:n≤cap:=hc
 have hl':k≤cap:=by omega
 have hmap:∀a:Option Addr,a.map (·.add 0)=a:=fun a=>by cases a <;> simp[MM]
 simp[execOp,hx,hy,Instr.sliceAt,Instr.slice,Instr.sliceBounds,Instr.sliceBound,asIntOf,run_underlying ht,sizeOf,typeInfo,h1,h3,hl',hmap,Om]
end ops
end
section
def DB {α:Type}(s:Nat)(E:Cb α)(e:TypeId):Bs (List α):=fun H v xs F =>
 (v=.slice none 0 0∧xs=[]∧F=[]) ∨
 ∃css g cap cur F',Dz E H css xs F'∧v=.slice (some ⟨g,0,none⟩) xs.length cap∧H[g]? = some (.cells cur e (0,0))∧xs.length≤cap∧cap≤maxLen∧cur.size=cap*s∧cur.toList.take (xs.length*s)=css.flatten∧F=g::F'
section DB
variable {α:Type} {E:Cb α} {s:Nat} {e:TypeId} {H H':Array Obj} {v:Value} {xs:List α} {F:List Nat}
theorem An (hE:CJ s E):BZ (DB s E e) where
 cells:=by
  rintro H v xs F (⟨rfl,_⟩|⟨us,g,cap,cur,F',_,rfl,_⟩) <;> rfl
 one:=by
  rintro H v xs F (⟨rfl,_⟩|⟨us,g,cap,cur,F',_,rfl,_⟩) <;> rfl
 lt:=by
  rintro H v xs F (⟨rfl,_,rfl⟩|⟨us,g,cap,cur,F',h,rfl,hg,_,_,_,_,rfl⟩) b hb
  ·cases hb
  ·rcases ze.1 hb with rfl|hb
   ·exact getElem?_lt hg
   ·exact h.lt hE b hb
 stable:=by
  rintro H H' v xs F (⟨rfl,h1,h2⟩|⟨us,g,cap,cur,F',h,rfl,hg,r1,r2,r3,r4,rfl⟩) hb
  ·exact .inl ⟨rfl,h1,h2⟩
  ·exact .inr ⟨us,g,cap,cur,F',h.stable hE fun b hh=>hb b<|z3 _ hh,rfl,by rw[hb g (z0 ..)];exact hg,r1,r2,r3,r4,rfl⟩
theorem Dz.imp {E':Cb α}(hi:∀ {H cs x F},E H cs x F→E' H cs x F):∀ {css:List (List Value)}{xs:List α}{F:List Nat},Dz E H css xs F→Dz E' H css xs F
 |[],[],_,h=>h
 |_::_,_::_,_,⟨F1,F2,rfl,h1,h2⟩=>⟨F1,F2,rfl,hi h1,Dz.imp hi h2⟩
 |[],_::_,_,h=>h.elim
 |_::_,[],_,h=>h.elim
theorem DB.rd (hE:CJ s E)(h:DB s E e H v xs F):CK s E H v xs F:=by
 rcases h with⟨rfl,rfl,rfl⟩|⟨us,g,cap,cur,F',h,rfl,hg,r1,r2,r3,r4,rfl⟩
 ·exact .inl ⟨none,0,rfl,rfl,rfl⟩
 ·refine .inr ⟨us,g,0,cap,cur,e,(0,0),F',h,rfl,hg,?_,⟨Aa r1 r2,r1⟩,rfl⟩
  rw[List.drop_zero];exact r4
theorem DB.isSl (h:DB s E e H v xs F):Fu v xs.length:=by
 rcases h with⟨rfl,rfl,_⟩|⟨us,g,cap,cur,F',_,rfl,_⟩
 ·exact⟨none,0,rfl,fun _=>rfl⟩
 ·exact⟨_,_,rfl,fun h=>by cases h⟩
theorem DB.lenle (h:DB s E e H v xs F):xs.length≤maxLen:=by
 rcases h with⟨_,rfl,_⟩|⟨us,g,cap,cur,F',_,_,_,r1,r2,_⟩
 ·simp
 ·exact Aa r1 r2
end DB
end
theorem CK.imp {α:Type}{E E':Cb α}{s:Nat}{H:Array Obj}{v:Value}{xs:List α}{F:List Nat}(hi:∀ {H cs x F},E H cs x F→E' H cs x F)(h:CK s E H v xs F):CK s E' H v xs F:=by
 rcases h with h|⟨css,g,off,cap,cur,e,fr,F',h1,h2⟩
 ·exact .inl h
 ·exact .inr ⟨css,g,off,cap,cur,e,fr,F',h1.imp hi,h2⟩
def Qs (e:TypeId):Nat→Cb Ex
 |0=>fun _ _ _ _=>False
 |d+1=>fun H cs x F=>∃v,cs=Ge x v∧UC x∧DB 5 (Qs e d) e H v x.kids F
theorem Bb (e:TypeId):∀d,CJ 5 (Qs e d)
 |0=>⟨fun h=>h.elim,fun h=>h.elim,fun h=>h.elim,fun h=>h.elim⟩
 |d+1=>by
  have ih:=Bb e d
  refine⟨?_,?_,?_,?_⟩
  ·rintro H cs e F ⟨v,rfl,_,_⟩;rfl
  ·rintro H cs e F ⟨v,rfl,_,h⟩ u hu
   unfold Ge at hu
   simp only[ze,z2,or_false]at hu
   rcases hu with rfl|rfl|rfl|rfl|rfl
   ·exact⟨rfl,rfl⟩
   ·exact⟨rfl,rfl⟩
   ·exact⟨rfl,rfl⟩
   ·exact⟨rfl,rfl⟩
   ·exact⟨(An ih).cells h,(An ih).one h⟩
  ·rintro H cs e F ⟨v,rfl,_,h⟩ b hb
   exact (An ih).lt h b hb
  ·rintro H H' cs e F ⟨v,rfl,hr,h⟩ hb
   exact⟨v,rfl,hr,(An ih).stable h hb⟩
theorem Su (e:TypeId):∀ {d:Nat}{H:Array Obj}{cs:List Value}{x:Ex}{F:List Nat},Qs e d H cs x F→Nf d H cs x F
 |0,_,_,_,_,h=>h.elim
 |d+1,_,_,_,_,⟨v,h1,h2,h3⟩=>⟨v,h1,h2,(h3.rd (Bb e d)).imp fun h=>Su e h⟩
def Sv (e:TypeId)(d:Nat):Cb Fn:=fun H cs f F=>∃v,cs=Gf f v∧Bd f.params∧DB 5 (Qs e d) e H v f.outs F
theorem B4 (e:TypeId)(d:Nat):CJ 3 (Sv e d):=by
 have ih:=An (e:=e)<|Bb e d
 refine⟨?_,?_,?_,?_⟩
 ·rintro H cs e F ⟨v,rfl,_,_⟩;rfl
 ·rintro H cs e F ⟨v,rfl,_,h⟩ u hu
  unfold Gf at hu
  simp only[ze,z2,or_false]at hu
  rcases hu with rfl|rfl|rfl
  ·exact⟨rfl,rfl⟩
  ·exact⟨rfl,rfl⟩
  ·exact⟨ih.cells h,ih.one h⟩
 ·rintro H cs e F ⟨v,rfl,_,h⟩ b hb
  exact ih.lt h b hb
 ·rintro H H' cs e F ⟨v,rfl,hr,h⟩ hb
  exact⟨v,rfl,hr,ih.stable h hb⟩
theorem Sw (e:TypeId){d:Nat}{H:Array Obj}{cs:List Value}{x:Fn}{F:List Nat}(h:Sv e d H cs x F):X6 d H cs x F:=by
 obtain⟨v,h1,h2,h3⟩:=h
 exact⟨v,h1,h2,(h3.rd (Bb e d)).imp fun h=>Su e h⟩
section
section res
variable {P:Program} {N:Nat} {ρ:Nat→Value} {w:World} {t:TypeId}
theorem Jn {s b o:Nat}(ht:ER P t s=true){cs:List Value}(h:LD w.heap (.pointer (some ⟨b,o,none⟩)) cs)(hl:cs.length=s):(loadVar t ⟨b,o,none⟩).run P w=.ok (.agg cs.toArray) w:=by
 obtain⟨b',o',he,h⟩:=h
 injection he with he
 injection he with he
 injection he with hb ho _
 subst hb;subst ho
 unfold ER at ht
 simp only[z7]at ht
 obtain⟨h1,h2⟩:=ht
 split at h1
 ·rename_i fs hfs
  split at h2
  ·rename_i inf hin
   have hs:inf.size=s:=by simpa using h2
   have hag:(isAgg t).run P w=.ok true w:=by
    unfold isAgg
    simp only[Sem.run_bind,run_underlying hfs,Result.andThen_ok]
    rfl
   have hlc:=run_loadCells_list (P:=P) w ⟨b,o,none⟩ cs (fun j v hj=>by
    rw[IL,Ci]
    have hjl:j<cs.length:=(List.getElem?_eq_some_iff.1 hj).1
    rw[h j hjl]
    simp[List.getD,hj])
   rw[hl,← hs]at hlc
   simp[loadVar,hag,sizeOf,typeInfo,hin,hlc]
  ·cases h2
 ·cases h1
theorem BK {fn:Func}{R:Ending→World→Prop}{k s b:Nat}{ty:TypeId}{cs:List Value}(hr:fn.results=#[.cell k ty])(ha:ER P ty s=true)(hv:Br N ρ (.tmp k)=.pointer (some ⟨b,0,none⟩))(hb:BX w.heap b cs)(hl:cs.length=s)
  (h:R (.returned (.agg cs.toArray)) w):bodyPost P fn R .ret (mk N ρ) w:=by
 refine⟨rfl,_,?_,h⟩
 have hld:=Jn (P:=P) ha (LD.of_box hb) hl
 have hg:(mk N ρ).tmps.getD k undef=.pointer (some ⟨b,0,none⟩):=by rw[KF,hv]
 have hi:(asAddr (.pointer (some ⟨b,0,none⟩))).run P w=.ok ⟨b,0,none⟩ w:=rfl
 unfold results
 rw[hr]
 have hg':(mk N ρ).tmps[k]?.getD undef=.pointer (some ⟨b,0,none⟩):=by simpa using hg
 simp[Sem.run_bind,hg',hi,hld,Result.andThen]
end res
section fr
variable {α:Type} {E:Cb α} {s:Nat} {e e':TypeId} {B U d:Nat} {H:Array Obj} {v:Value}
theorem Fr.isSlS {xs:List α}(h:Fr (DB s E e) B U H v xs):Go.Proofs.YtemfgblmfahllaaGreat.Fu v xs.length:=by obtain⟨F,h,_⟩:=h;exact h.isSl
theorem RN.of_frF {S:List Nat}{xs:List Fn}(h:Fr (DB 3 (Sv e d) e') B U H v xs)(hS:∀b∈S,b<B):RP S d H v xs:=by
 obtain⟨F,h1,_,h3⟩:=h
 exact⟨F,(h1.rd (B4 e d)).imp fun h=>Sw e h,fun b hb hm=>by have:=h3 b hb;have:=hS b hm;omega⟩
end fr
section str
variable {P:Program} {ops:Array Oper} {w0:World} {Q:Act→World→Prop} {os:List Oper} {ks:List Nat} {N:Nat} {ρ:Nat→Value} {w:World}
 {d:Nat} {ty:TypeId} {pos:String} {aft:Array Edge} {g:Option (Nat×Bool)} {t e:TypeId}
theorem Yk {xt yt:TypeId}{x y:Operand}{a b:ByteArray}(hx:Br N ρ x=.string a)(hy:Br N ρ y=.string b)(hl:a.size+b.size≤9223372036854775807)(hu:Up ops N ρ ⟨some d,.binOp .add xt x y yt,ty,pos,aft,g⟩)
  (h:LW P ops w0 Q os ks (mk N (CI ρ d (.string (a++b)))) w):LW P ops w0 Q (⟨some d,.binOp .add xt x y yt,ty,pos,aft,g⟩::os) (0::ks) (mk N ρ) w :=
 Cr (by decide) rfl hu _ (fun w' _=>by
  have he:(eqGuard .add xt x y (.string a) (.string b)).run P w'=.ok () w':=rfl
  have hr:(binOp .add xt (.string a) (.string b)).run P w'=.ok (.string (a++b)) w':=by
   have h2:=run_string_add_sum (P:=P) w' a b hl
   simpa [binOp]using h2
  simp only[execOp,hx,hy,Sem.run_bind,he,Result.andThen_ok,hr,Sem.run_pure]) h
end str
end
section
theorem On:∀(cs:List Value)(k:Nat)(A:Array Value),k+cs.length≤A.size→((cs.zipIdx k).foldl (fun A p=>A.setIfInBounds (0+p.2) p.1) A).toList=A.toList.take k++cs++A.toList.drop (k+cs.length)
 |[],k,A,_=>by simp
 |c::cs,k,A,h=>by
  rw[z9]at h
  rw[List.zipIdx_cons,List.foldl_cons,On cs (k+1) _ (by simp;omega)]
  simp only[Array.toList_setIfInBounds,Nat.zero_add]
  have h1:(A.toList.set k c).take (k+1)=A.toList.take k++[c]:=by
   rw[List.take_succ_eq_append_getElem (by simp;omega),List.take_set,List.set_eq_of_length_le (by simp;omega)]
   simp
  have h2:(A.toList.set k c).drop (k+1+cs.length)=A.toList.drop (k+(c::cs).length):=by
   rw[List.drop_set_of_lt zO,z9,show k+1+cs.length=k+(cs.length+1)from by omega]
  rw[h1,h2,List.append_assoc (A.toList.take k)];simp
theorem Sx {cs:List Value}{A:Array Value}(h:A.size=cs.length):cs.zipIdx.foldl (fun A p=>A.setIfInBounds p.2 p.1) A=cs.toArray:=by
 apply Array.ext'
 have:=On cs 0 A zO
 simp only[List.take_zero,zl,Nat.zero_add]at this
 rw[List.drop_of_length_le (by rw[Array.length_toList];omega),List.append_nil]at this
 simpa using this
section run
variable {P:Program} {w:World} {α:Type} {E:Cb α} {s:Nat} {t ty e:TypeId} {b:Nat} {z:Value}
theorem UM {cs:List Value}(ht:P.underlying t=some (.slice e))(hi:TI P e s z b)(hs:0<s)(hs2:s≤1000)(hz:z.cells.size=s)(hc:cs.length=s) :
  (Instr.buildSlice t 1 #[(0,.agg cs.toArray)]).run P w=.ok (.slice (some ⟨w.heap.size,0,none⟩) 1 1) (w.alloc (.cells cs.toArray e)):=by
 obtain⟨i,h1,h2,h3,h4⟩:=hi.get
 have h0:¬(s=0):=by omega
 have hA:((Array.range s).map (fun x=>z.cells[x % s]!)).size=cs.length:=by simp[hc]
 have hf:=Sx hA
 have hbig:¬(s > 2 ^ 24):=by omega
 simp only[Instr.buildSlice,Sem.run_bind,run_underlying ht,Result.andThen_ok,sizeOf,typeInfo,zeroValue,h1,h2,h3,Nat.one_mul,Instr.fill,hz,Sem.run_pure]
 have hag:(Value.agg cs.toArray).cells=cs.toArray:=rfl
 simp[h0,hbig,hag,hc,newRow,hz,h1,h2,h3,Instr.fill,run_underlying ht,typeInfo]
 rw[hf]
def RQ (E:Cb α)(B U:Nat)(H:Array Obj)(cs:List Value)(x:α):Prop:=∃G,E H cs x G∧G.Nodup∧∀b∈G,B≤b∧b<U
theorem Ng (hE:CJ s E){css:List (List Value)}{xs:List α}{F:List Nat}{cur:Array Value}{cap:Nat}(h:Dz E w.heap css xs F)(hl:xs.length≤cap)(hm:cap≤maxLen)(hsz:cur.size=cap*s)(hc:cur.toList.take (xs.length*s)=css.flatten) :
  DB s E e (w.alloc (.cells cur e)).heap (.slice (some ⟨w.heap.size,0,none⟩) xs.length cap) xs (w.heap.size::F):=by
 refine .inr ⟨css,w.heap.size,cap,cur,F,h.stable hE fun b hb=>?_,rfl,?_,hl,hm,hsz,hc,rfl⟩
 ·exact Below.heap_alloc _ _ _<|h.lt hE b hb
 ·show(w.heap.push _)[w.heap.size]? = _
  simp
def eC {α β:Type}(E:Array Obj→β→α→List Nat→Prop)(S:Nat→Prop)(H:Array Obj)(v:β)(x:α):Prop:=∃F,E H v x F∧F.Nodup∧∀b∈F,S b
theorem L9 (hE:CJ s E)(ht:P.underlying t=some (.slice e))(hi:TI P e s z b)(hz:z.cells.size=s)(hs:0<s){v:Value}{xs:List α}{S T:Nat→Prop}(hv:eC (DB s E e) S w.heap v xs)
  {a:Value} {y:α} (ha:eC (DB s E e) T w.heap a [y]) (hST:∀b,S b→T b→False) (hbytes:(xs.length+1)*b≤140737488355328) (hmx:xs.length+1≤maxLen) :
  ∃v' w' F,(Builtin.append_ #[t,t] ty #[v,a]).run P w=.ok v' w'∧eC (DB s E e) (fun b=>S b∨T b∨b=w.heap.size) w'.heap v' (xs++[y])∧AB F w w'∧∀c∈F,S c:=by
 obtain⟨F,hv1,hn,hF⟩:=hv
 obtain⟨G,ha1,hnG,hG⟩:=ha
 obtain⟨i,h1,h2,h3,h4⟩:=hi.get
 subst h4
 have hsmall:xs.length+1≤9223372036854775807:=by simp only[maxLen]at hmx;omega
 rcases ha1 with⟨_,h0,_⟩|⟨cas,ga,capa,cura,G',hels,rfl,hga,a1,a2,a3,a4,rfl⟩
 ·cases h0
 ·have hnG':=List.nodup_cons.1 hnG
  have hfl:cas.flatten.length=s:=by have:=hels.flen hE;simpa using this
  simp only[zd,Nat.one_mul]at a4 a1
  have hnews:∀j u,cas.flatten[j]? = some u→w.cell? ((⟨ga,0,none⟩:Addr).add j)=some u:=by
   intro j u hj
   have e1:(⟨ga,0,none⟩:Addr).add j=⟨ga,j,none⟩:=by
    unfold Addr.add
    split
    ·rename_i hh;subst hh;rfl
    ·simp
   rw[e1,Ci]
   simp only[Cn,hga]
   rw[← a4,List.getElem?_take]at hj
   split at hj
   ·simpa using hj
   ·cases hj
  have h1c:∀u∈cas.flatten,u.oneCell'=true:=fun u hu=>(hels.one hE u hu).2
  have hl1:cas.flatten.length=1*i.size:=by rw[h3,hfl,Nat.one_mul]
  have made:∀(w1:World) (ous:List (List Value)) (F0:List Nat) (rest:Nat),w1.heap=w.heap→w1.os=w.os→w1.tape=w.tape→w1.output=w.output→Dz E w.heap ous xs F0→(∀c∈F0,c∈F)→F0.Nodup →
    (xs.length+1+rest)≤maxLen →
    eC (DB s E e) (fun b=>S b∨T b∨b=w.heap.size) (w1.alloc (.cells (ous.flatten.toArray++cas.flatten.toArray++Builtin.zeroCells z.cells rest) e)).heap (.slice (some ⟨w.heap.size,0,none⟩) (xs.length+1) (xs.length+1+rest)) (xs++[y]) ∧
     AB ([]:List Nat) w (w1.alloc (.cells (ous.flatten.toArray++cas.flatten.toArray++Builtin.zeroCells z.cells rest) e)):=by
   intro w1 ous F0 rest hh ho htp hop hou hsub hnd hmax
   have happ:=hou.append hels
   have hofl:=hou.flen hE
   have hzc:(Builtin.zeroCells z.cells rest).size=rest*s:=by simp[Builtin.zeroCells,hz]
   have hsz:(ous.flatten.toArray++cas.flatten.toArray++Builtin.zeroCells z.cells rest).size=(xs.length+1+rest)*s:=by
    rw[Nat.add_mul,Nat.add_mul,Nat.one_mul]
    simp only[Array.size_append,List.size_toArray,hzc,hfl,hofl]
   have hlen:(xs++[y]).length=xs.length+1:=by simp
   have hnew:=Ng (e:=e) (w:=w1) hE (css:=ous++cas) (xs:=xs++[y]) (F:=F0++G') (cur:=ous.flatten.toArray++cas.flatten.toArray++Builtin.zeroCells z.cells rest) (cap:=xs.length+1+rest)
    (by rw[hh];exact happ) (by rw[hlen];omega) hmax hsz (by
     rw[hlen,Array.toList_append,Array.toList_append,List.flatten_append]
     have e1:(xs.length+1)*s=(ous.flatten++cas.flatten).length:=by rw[z4,hofl,hfl,Nat.add_mul,Nat.one_mul]
     rw[e1];exact List.take_left)
   rw[hh,hlen]at hnew
   have hnn:(w.heap.size::(F0++G')).Nodup:=by
    rw[List.nodup_cons]
    refine⟨fun hm=>?_,?_⟩
    ·have:=happ.lt hE _ hm;omega
    ·rw[List.nodup_append]
     refine⟨hnd,hnG'.2,?_⟩
     rintro x hx y hy rfl
     exact hST _ (hF x<|hsub x hx)<|hG x<|z3 _ hy
   refine⟨⟨_,hnew,hnn,fun c hc=>?_⟩,ho,htp,hop,?_,fun k hk _=>?_⟩
   ·rcases ze.1 hc with rfl|hc
    ·exact .inr<|.inr rfl
    ·rcases zi.1 hc with hc|hc
     ·exact .inl<|hF c<|hsub c hc
     ·exact .inr<|.inl<|hG c<|z3 _ hc
   ·show w.heap.size≤(w1.heap.push _).size
    rw[hh];simp
   ·have:=Below.heap_alloc w1 (.cells (ous.flatten.toArray++cas.flatten.toArray++Builtin.zeroCells z.cells rest) e) k (by rw[hh];exact hk)
    rw[this,hh]
  rcases hv1 with⟨rfl,rfl,rfl⟩|⟨ous,gv,capv,curv,F0,hels0,rfl,hgv,r1,r2,r3,r4,rfl⟩
  ·have hr:=run_append_nil (P:=P) w t ty e i z ht h1 h2 ⟨ga,0,none⟩ 1 capa cas.flatten hl1 hnews (by decide) (by decide) (by simp at hbytes ⊢;omega)
   have hge:=grownCap_ge w 1 0 e
   have hgm:=grownCap_le_maxLen w 1 0 e (by simpa using hmx)
   obtain⟨q1,q2⟩:=made w.drew [] [] (grownCap w 1 0 e-1) rfl rfl rfl rfl rfl (fun c hc=>by cases hc) zk (by simp;omega)
   refine⟨_,_,[],hr,?_,?_,fun c hc=>by cases hc⟩
   ·have ea:(([]:List α).length+1+(grownCap w 1 0 e-1))=grownCap w 1 0 e:=by simp;omega
    rw[ea]at q1
    simpa using q1
   ·simpa using q2
  ·have hn':=List.nodup_cons.1 hn
   have hofl:=hels0.flen hE
   by_cases hroom:xs.length+1≤capv
   ·have hbnd:xs.length*s+s≤curv.size:=by rw[r3,← Nat.succ_mul];exact Nat.mul_le_mul_right s hroom
    have hr:=run_append_room (P:=P) w t ty e i ht h1 gv xs.length capv curv hgv ⟨ga,0,none⟩ 1 capa cas.flatten hl1 hnews h1c hroom (by rw[h3,hfl];exact hbnd)
    rw[h3]at hr
    have hgF:gv∉F0:=hn'.1
    have hgG:gv∉G':=fun hm=>hST _ (hF gv (z0 ..)) (hG gv (z3 _ hm))
    refine⟨_,_,[gv],hr,⟨gv::(F0++G'),.inr ⟨ous++cas,gv,capv,_,F0++G',?_,by rw[z4,zd],setRow_heap w gv curv _ e _ hgv,by rw[z4,zd];exact hroom,r2,?_,?_,rfl⟩,?_,fun c hc=>?_⟩,⟨rfl,rfl,rfl,by simp,fun k _ hk=>setRow_other w gv k _ fun hh=>hk (by simp[hh])⟩,fun c hc=>by rw[Ab hc];exact hF gv (z0 ..)⟩
    ·refine (hels0.append hels).stable hE fun c hc=>setRow_other w gv c _ fun hcg=>?_
     subst hcg
     rcases zi.1 hc with hc|hc
     ·exact hgF hc
     ·exact hgG hc
    ·rw[← r3]
     simp only[List.size_toArray,z4,List.length_take,List.length_drop,Array.length_toList]
     omega
    ·rw[z4,zd]
     simp only[List.flatten_append]
     rw[r4]
     have e1:(xs.length+1)*s=(ous.flatten++cas.flatten).length:=by rw[z4,hofl,hfl,Nat.add_mul,Nat.one_mul]
     rw[e1];exact List.take_left
    ·rw[List.nodup_cons,List.nodup_append]
     refine⟨fun hm=>?_,hn'.2,hnG'.2,?_⟩
     ·rcases zi.1 hm with hm|hm
      ·exact hgF hm
      ·exact hgG hm
     ·rintro x hx y hy rfl
      exact hST _ (hF x<|z3 _ hx)<|hG x<|z3 _ hy
    ·rcases ze.1 hc with rfl|hc
     ·exact .inl<|hF c (z0 ..)
     ·rcases zi.1 hc with hc|hc
      ·exact .inl<|hF c<|z3 _ hc
      ·exact .inr<|.inl<|hG c<|z3 _ hc
   ·have holds:∀j u,ous.flatten[j]? = some u→w.cell? ((⟨gv,0,none⟩:Addr).add j)=some u:=by
     intro j u hj
     have e1:(⟨gv,0,none⟩:Addr).add j=⟨gv,j,none⟩:=by
      unfold Addr.add
      split
      ·rename_i hh;subst hh;rfl
      ·simp
     rw[e1,Ci]
     simp only[Cn,hgv]
     rw[← r4,List.getElem?_take]at hj
     split at hj
     ·simpa using hj
     ·cases hj
    have hr:=run_append_grow (P:=P) w t ty e i z ht h1 h2 ⟨gv,0,none⟩ xs.length capv ous.flatten (by rw[h3,hofl]) holds ⟨ga,0,none⟩ 1 capa cas.flatten hl1 hnews zO zO<|growslice_fits zO hbytes
    have hge:=grownCap_ge w (xs.length+1) capv e
    have hgm:=grownCap_le_maxLen w (xs.length+1) capv e hmx
    obtain⟨q1,q2⟩:=made w.drew ous F0 (grownCap w (xs.length+1) capv e-(xs.length+1)) rfl rfl rfl rfl hels0 (fun c hc=>z3 _ hc) hn'.2 zO
    refine⟨_,_,[],hr,?_,q2,fun c hc=>by cases hc⟩
    have ea:(xs.length+1+(grownCap w (xs.length+1) capv e-(xs.length+1)))=grownCap w (xs.length+1) capv e:=by omega
    rw[ea]at q1
    exact q1
theorem Sy (hE:CJ s E)(ht:P.underlying t=some (.slice e))(hi:TI P e s z b)(hz:z.cells.size=s)(hs:0<s){v:Value}{xs:List α}{B U:Nat}(hv:Fr (DB s E e) B U w.heap v xs)(hB:B≤w.heap.size)
  {a:Value} {y:α} {B' U':Nat} (ha:Fr (DB s E e) B' U' w.heap a [y]) (hU:U≤B') (hBB:B≤B') (hbytes:(xs.length+1)*b≤140737488355328) (hmx:xs.length+1≤maxLen) :
  ∃v' w' F,(Builtin.append_ #[t,t] ty #[v,a]).run P w=.ok v' w'∧Fr (DB s E e) B w'.heap.size w'.heap v' (xs++[y])∧AB F w w'∧∀c∈F,B≤c∧c<U:=by
 obtain⟨v',w',F,r1,⟨G,h1,h2,h3⟩,r3,r4⟩:=L9 (P:=P) (ty:=ty) hE ht hi hz hs (S:=fun b=>B≤b∧b<U) (T:=fun b=>B'≤b∧b<U') hv ha (fun b h1 h2=>by omega) hbytes hmx
 exact⟨v',w',F,r1,⟨G,h1,h2,fun b hb=>⟨by have:=h3 b hb;omega,(An hE).lt h1 b hb⟩⟩,r3,r4⟩
end run
section ops
variable {P:Program} {ops:Array Oper} {w0:World} {Q:Act→World→Prop} {os:List Oper} {ks:List Nat} {N:Nat} {ρ:Nat→Value} {w:World}
 {d:Nat} {ty:TypeId} {pos:String} {aft:Array Edge} {g:Option (Nat×Bool)} {t e:TypeId} {z:Value} {b s:Nat} {α:Type} {E:Cb α}
theorem Ct (hE:CJ s E){x:Operand}{cs:List Value}{y:α}{B U:Nat}(ht:P.underlying t=some (.slice e))(hi:TI P e s z b)(hz:z.cells.size=s)(hs:0<s∧s≤1000)(hx:Br N ρ x=.agg cs.toArray)(hy:RQ E B U w.heap cs y)(hB:B≤w.heap.size)
  (hu:Up ops N ρ ⟨some d,.buildSlice t 1 #[(0,x)],ty,pos,aft,g⟩)
  (h:∀v w1,AD w w1→w1.heap.size=w.heap.size+1→Fr (DB s E e) B w1.heap.size w1.heap v [y]→LW P ops w0 Q os ks (mk N (CI ρ d v)) w1) :
  LW P ops w0 Q (⟨some d,.buildSlice t 1 #[(0,x)],ty,pos,aft,g⟩::os) (3::ks) (mk N ρ) w:=by
 obtain⟨F,h1,h2,h3⟩:=hy
 have hl:=hE.len h1
 have hr:=UM (P:=P) (w:=w) ht hi hs.1 hs.2 hz hl
 have hrun:(execOp (Br N ρ) ⟨some d,.buildSlice t 1 #[(0,x)],ty,pos,aft,g⟩).run P w=.ok (.value (.slice (some ⟨w.heap.size,0,none⟩) 1 1)) (w.alloc (.cells cs.toArray e)):=by
  simp only[execOp,zc,zf,zh,Sem.run_bind,hx,hr,Result.andThen_ok,Sem.run_pure]
 refine Ji rfl hu _ _ hrun (BA _ _)<|h _ _ (BA _ _) (by simp) ?_
 have hn:=Ng (e:=e) (w:=w) hE (css:=[cs]) (xs:=[y]) (F:=F++[]) (cur:=cs.toArray) (cap:=1) ⟨F,[],rfl,h1,rfl⟩ (by simp) (by simp[maxLen]) (by simp[hl]) (by simp[← hl])
 refine⟨_,hn,?_,fun c hc=>?_⟩
 ·rw[List.append_nil,List.nodup_cons]
  exact⟨fun hm=>by have:=hE.lt h1 _ hm;omega,h2⟩
 ·have hlt:=(An hE).lt hn c hc
  refine⟨?_,hlt⟩
  rcases ze.1 hc with rfl|hc
  ·exact hB
  ·exact (h3 c (by simpa using hc)).1
theorem HE (hE:CJ s E){x y:Operand}{v a:Value}{xs:List α}{y0:α}{B U B' U':Nat}(ht:P.underlying t=some (.slice e))(hi:TI P e s z b)(hz:z.cells.size=s)(hs:0<s)(hx:Br N ρ x=v)(hy:Br N ρ y=a)(hv:Fr (DB s E e) B U w.heap v xs)(hB:B≤w.heap.size)
  (ha:Fr (DB s E e) B' U' w.heap a [y0]) (hU:U≤B') (hBB:B≤B') (hbytes:(xs.length+1)*b≤140737488355328) (hmx:xs.length+1≤maxLen) (hu:Up ops N ρ ⟨some d,.call ⟨.builtin .append,#[x,y],#[t,t]⟩,ty,pos,aft,g⟩)
  (h:∀v1 w1 F,AB F w w1→(∀c∈F,B≤c∧c<U)→Fr (DB s E e) B w1.heap.size w1.heap v1 (xs++[y0])→LW P ops w0 Q os ks (mk N (CI ρ d v1)) w1) :
  LW P ops w0 Q (⟨some d,.call ⟨.builtin .append,#[x,y],#[t,t]⟩,ty,pos,aft,g⟩::os) (4::ks) (mk N ρ) w:=by
 obtain⟨v1,w1,F,r1,r2,r3,r4⟩:=Sy (P:=P) (ty:=ty) hE ht hi hz hs hv hB ha hU hBB hbytes hmx
 exact Ku rfl hu v1 w1 (by simp only[execOp,resolve,invoke,builtin,zc,zf,zh,Sem.run_bind,Sem.run_pure,Result.andThen_ok,hx,hy,r1])<|h v1 w1 F r3 r4 r2
end ops
theorem H3 {α:Type}{s:Nat}{E:Cb α}{e:TypeId}(B U:Nat)(H:Array Obj):Fr (DB s E e) B U H (.slice none 0 0) ([]:List α):=⟨[],.inl ⟨rfl,rfl,rfl⟩,zk,fun c hc=>by cases hc⟩
end
theorem eN {p:Prop}(h:p):RowKit.Hid p:=h
def md (x:Int):Int:=x % 1000003
theorem Cj (x:Int):0≤md x:=Int.emod_nonneg x (by decide)
theorem FJ (x:Int):md x<1000003:=Int.emod_lt_of_pos x (by decide)
theorem FK (x:Int):-9223372036854775808≤md x∧md x≤9223372036854775807:=by
 have:=Cj x;have:=FJ x;omega
theorem Qt {x:Int}(h:0≤x)(h':x<1000003):md x=x:=Int.emod_eq_of_lt h h'
theorem ES (x:Int):md (md x)=md x:=Qt (Cj x) (FJ x)
theorem H4 (a b:Int):md (md a+md b)=md (a+b):=by unfold md;rw[← Int.add_emod]
theorem Do (a b:Int):md (md a*md b)=md (a*b):=by unfold md;rw[← Int.mul_emod]
theorem Gg (a b:Int):md (md a-md b)=md (a-b):=by unfold md;rw[← Int.sub_emod]
theorem UN (a b:Int):md (md a+b)=md (a+b):=by rw[← H4,ES,H4]
theorem G0 (a b:Int):md (a+md b)=md (a+b):=by rw[← H4,ES,H4]
theorem G3 (a b:Int):md (md a*b)=md (a*b):=by rw[← Do,ES,Do]
theorem I9 (a b:Int):md (a*md b)=md (a*b):=by rw[← Do,ES,Do]
theorem Qu (a b:Int):md (md a-b)=md (a-b):=by rw[← Gg,ES,Gg]
theorem Nh (a b:Int):md (a-md b)=md (a-b):=by rw[← Gg,ES,Gg]
theorem Sz (a:Int):md (a+1000003)=md a:=by unfold md;omega
theorem JW (a:Int):md (-(md a))=md (-a):=by have:=Nh 0 a;simpa using this
theorem KI {a b:Int}(ha:0≤a)(ha':a<1000003)(hb:0≤b)(hb':b<1000003):0≤a*b∧a*b≤1000004000004:=by
 refine⟨Int.mul_nonneg ha hb,?_⟩
 have h1:a*b≤1000002*b:=Int.mul_le_mul_of_nonneg_right zO hb
 have h2:1000002*b≤1000002*1000002:=Int.mul_le_mul_of_nonneg_left zO (by decide)
 omega
theorem tm (x:Int):x.tmod 1000003=if 0≤x then md x else -(md (-x)):=by
 unfold md
 split
 ·rename_i h;exact Int.tmod_eq_emod_of_nonneg h
 ·rename_i h
  have:=Int.tmod_eq_emod_of_nonneg (a:=-x) (b:=1000003) zO
  rw[Int.neg_tmod]at this
  omega
theorem Gy {x:Int}(h:-9223372036854775808≤x)(h':x≤9223372036854775807):wr x=x:=E1 h h'
theorem Yl (n:Int):(wr (n.tmod 1000003+((1000003:Nat):Int))).tmod 1000003=md n:=by
 have h1:=Cj n;have h2:=FJ n;have h3:=Cj (-n);have h4:=FJ (-n)
 rw[tm n]
 split
 ·rw[Gy zO zO,tm,if_pos (by omega)]
  have:=Sz (md n)
  rw[ES]at this
  simpa using this
 ·rw[Gy zO zO,tm,if_pos (by omega)]
  have e1:md (-(md (-n))+((1000003:Nat):Int))=md (-(md (-n))):=Sz _
  rw[e1,JW]
  simp
theorem Qv (a b:Int):(wr (md a+md b)).tmod 1000003=md (a+b):=by
 have h1:=Cj a;have h2:=FJ a;have h3:=Cj b;have h4:=FJ b
 rw[Gy zO zO,tm,if_pos zO,H4]
theorem Oo (a b:Int):(wr (md a*md b)).tmod 1000003=md (a*b):=by
 have:=KI (Cj a) (FJ a) (Cj b) (FJ b)
 rw[Gy zO zO,tm,if_pos zO,Do]
theorem SA (a b:Int):md (a+wr (((1000003:Nat):Int)-md b))=md (a-b):=by
 have h3:=Cj b;have h4:=FJ b
 rw[Gy zO zO,show a+(((1000003:Nat):Int)-md b)=(a-md b)+1000003 from by omega,Sz,Nh]
theorem La (a:Int)(k:Nat):md ((md a) ^ k)=md (a ^ k):=by
 induction k with
 |zero=>rw[Int.pow_zero,Int.pow_zero]
 |succ k ih=>rw[Int.pow_succ,Int.pow_succ,← Do,ih,ES,Do]
def pw (a n:Int):Int:=if n<0 then 0 else md (a ^ n.toNat)
theorem Ym (a n:Int):-9223372036854775808≤pw a n∧pw a n≤9223372036854775807:=by
 unfold pw;split
 ·omega
 ·exact FK _
theorem Yn (a n:Int):0≤pw a n∧pw a n<1000003:=by
 unfold pw;split
 ·omega
 ·exact⟨Cj _,FJ _⟩
def inv (a:Int):Int:=pw a ((1000001:Nat):Int)
theorem Qw (a:Int):-9223372036854775808≤inv a∧inv a≤9223372036854775807:=Ym _ _
theorem UO (a:Int):0≤inv a∧inv a<1000003:=Yn _ _
theorem Oq (a:Int)(k:Nat):md (((1:Nat):Int)*(md a) ^ k)=md (a ^ k):=by
 rw[show((1:Nat):Int)*(md a) ^ k=(md a) ^ k from Int.one_mul _,La]
theorem Yo {x b m R:Int}(h:md (x*b ^ m.toNat)=R)(h0:0<m)(h1:m % 2=1):md (md (x*b)*(md (b*b)) ^ (m / 2).toNat)=R:=by
 rw[← h,← Do,ES,La,Do]
 congr 1
 have e:m.toNat=2*(m / 2).toNat+1:=by omega
 rw[e,Int.pow_succ,Int.pow_mul,show b ^ 2=b*b from by rw[Int.pow_succ,Int.pow_succ,Int.pow_zero,Int.one_mul]]
 rw[Int.mul_comm ((b*b) ^ (m / 2).toNat) b,Int.mul_assoc]
theorem UP {x b m R:Int}(h:md (x*b ^ m.toNat)=R)(h0:0<m)(h1:¬m % 2=1):md (x*(md (b*b)) ^ (m / 2).toNat)=R:=by
 rw[← h,← Do,La,Do]
 congr 1
 have e:m.toNat=2*(m / 2).toNat:=by omega
 rw[e,Int.pow_mul,show b ^ 2=b*b from by rw[Int.pow_succ,Int.pow_succ,Int.pow_zero,Int.one_mul]]
theorem SB {x b m a n:Int}(h:md (x*b ^ m.toNat)=md (a ^ n.toNat))(h0:0≤m)(h1:¬((0:Nat):Int)<m)(hn:¬n<((0:Nat):Int))(hx:0≤x∧x<1000003):x=pw a n:=by
 have e:m=0:=by omega
 subst e
 unfold pw
 rw[if_neg zO,← h]
 simp only[Int.toNat_zero,Int.pow_zero,Int.mul_one]
 rw[Qt hx.1 hx.2]
theorem SD {a n:Int}(h:n<((0:Nat):Int)):((0:Nat):Int)=pw a n:=by
 unfold pw;rw[if_pos (by omega)];rfl
theorem fU {m:Int}(h:0≤m):m.tmod ((2:Nat):Int)=m % 2:=Int.tmod_eq_emod_of_nonneg h
theorem eD {m:Int}(h:0≤m)(h':m≤9223372036854775807):IntKind.i64.wrap (m.tdiv ((2:Nat):Int))=m / 2:=by
 rw[Int.tdiv_eq_ediv_of_nonneg h]
 exact Gy (x:=m / 2) zO zO
theorem Or {x b:Int}(hx:0≤x∧x<1000003)(hb:0≤b∧b<1000003):(wr (x*b)).tmod ((1000003:Nat):Int)=md (x*b):=by
 have:=KI hx.1 hx.2 hb.1 hb.2
 rw[Gy zO (by omega)]
 have:=tm (x*b)
 rw[if_pos (by omega)]at this
 exact this
theorem Cd (x:Int):0≤md x∧md x<1000003:=⟨Cj x,FJ x⟩
def Hq (n:Int):Bool:=decide (0≤n) && decide (n≤1000002)
theorem Cz {n:Int}:Hq n=true↔0≤n∧n<1000003:=by
 unfold Hq;simp only[z7,decide_eq_true_eq];omega
def Bj (l:List Int):Bool:=l.all Hq
theorem SE (f:Int→Bool)(l:List Int):(l.take 0).all f=true:=rfl
theorem SF {α:Type}{f:α→Bool}{l:List α}{k:Nat}(d:α)(h:(l.take k).all f=true)(hk:k<l.length)(hf:f (l.getD k d)=true):(l.take (k+1)).all f=true:=by
 rw[List.take_succ_eq_append_getElem hk,List.all_append,h]
 have e:l.getD k d=l[k]:=by simp[hk]
 rw[e]at hf
 simp[hf]
theorem SG {α:Type}{f:α→Bool}{l:List α}{k:Nat}(d:α)(hk:k<l.length)(hf:f (l.getD k d)=false):l.all f=false:=by
 have e:l.getD k d=l[k]:=by simp[hk]
 rw[e]at hf
 rw[List.all_eq_false]
 exact⟨l[k],List.getElem_mem hk,by simp[hf]⟩
theorem SH {α:Type}{f:α→Bool}{l:List α}{k:Nat}(h:(l.take k).all f=true)(hk:l.length≤k):l.all f=true:=by
 rwa [za hk]at h
theorem Co {l:List Int}(h:Bj l=true)(k:Nat):0≤l.getD k 0∧l.getD k 0<1000003:=by
 by_cases hk:k<l.length
 ·have e:l.getD k 0=l[k]:=by simp[hk]
  rw[e]
  exact Cz.1<|zm.1 h _<|List.getElem_mem hk
 ·have e:l.getD k 0=0:=by simp[Nat.not_lt.1 hk]
  rw[e];omega
theorem CA {α:Type}{l:List α}{k:Nat}(d:α)(h:k<l.length):l.take (k+1)=l.take k++[l.getD k d]:=by
 rw[List.take_succ_eq_append_getElem h]
 simp[h]
def KJ {α:Type}(n:Nat)(f:Nat→α):List α:=(List.range n).map f
@[simp] theorem EM {α:Type}(n:Nat)(f:Nat→α):(KJ n f).length=n:=by simp[KJ]
theorem DL {α:Type}{n:Nat}{f:Nat→α}{k:Nat}(d:α)(h:k<n):(KJ n f).getD k d=f k:=by simp[KJ,h]
theorem Ot {α:Type}(n:Nat)(f:Nat→α):KJ (n+1) f=KJ n f++[f n]:=by simp[KJ,List.range_succ]
theorem UQ {α:Type}{n:Nat}{f g:Nat→α}(h:∀k,k<n→f k=g k):KJ n f=KJ n g:=by
 unfold KJ
 exact List.map_congr_left fun k hk=>h k<|List.mem_range.1 hk
def HA {α:Type}(k:Nat)(t z:List α):List α:=t.take k++z.drop k
theorem Jo {α:Type}(t z:List α):HA 0 t z=z:=by simp[HA]
theorem KK {α:Type}{k:Nat}{t z:List α}(h:t.length=z.length)(hk:z.length≤k):HA k t z=t:=by
 simp[HA,za (show t.length≤k by omega),List.drop_of_length_le hk]
@[simp] theorem Jp {α:Type}(k:Nat)(t z:List α)(h:t.length=z.length):(HA k t z).length=z.length:=by
 simp[HA];omega
theorem Qy {α:Type}{k:Nat}{t z:List α}(d:α)(h:t.length=z.length)(hk:k<z.length):(HA k t z).set k (t.getD k d)=HA (k+1) t z:=by
 unfold HA
 have hl:(t.take k).length=k:=by simp;omega
 rw[CA d zO,List.set_append_right _ _ zO,hl,Nat.sub_self,List.append_assoc]
 congr 1
 rw[List.drop_eq_getElem_cons hk]
 rfl
theorem Yp {α:Type}{k j:Nat}{t z:List α}(d:α)(h:t.length=z.length)(hkj:k≤j)(hj:j<z.length):(HA k t z).getD j d=z.getD j d:=by
 unfold HA
 have hl:(t.take k).length=k:=by simp;omega
 rw[List.getD_eq_getElem?_getD,List.getElem?_append_right zO,hl,List.getElem?_drop,List.getD_eq_getElem?_getD]
 congr 2
 omega
theorem Yq {α:Type}{k j:Nat}{t z:List α}(d:α)(hkj:j<k)(hj:j<t.length):(HA k t z).getD j d=t.getD j d:=by
 unfold HA
 rw[List.getD_eq_getElem?_getD,List.getElem?_append_left (by simp;omega),List.getElem?_take,if_pos hkj,List.getD_eq_getElem?_getD]
theorem Ni {α:Type}{n k:Nat}{f:Nat→α}{z:List α}(hz:z.length=n)(hk:k<n):HA (k+1) (KJ n f) z=(HA k (KJ n f) z).set k (f k):=by
 rw[← Qy (f k) (by simp[hz]) zO,DL _ hk]
theorem Qz (l:List Int):(!l.any fun x=>!Hq x)=Bj l:=by
 unfold Bj
 rw[← List.all_eq_not_any_not]
theorem DX {α:Type}(l:List α)(i j:Nat)(x d:α)(hi:i<l.length):(l.set i x).getD j d=if j=i then x else l.getD j d:=by
 rw[List.getD_eq_getElem?_getD,List.getElem?_set]
 by_cases h:i=j
 ·subst h;simp[hi]
 ·simp[h,Ne.symm h]
def gF (a b:List Int)(y:Int):List Int:=KJ a.length fun k=>md (a.getD k 0-md (y*b.getD k 0))
theorem KL {n:Nat}{f:Nat→Int}(h:∀k,k<n→0≤f k∧f k<1000003):Bj (KJ n f)=true:=by
 unfold Bj KJ
 rw[zm]
 intro x hx
 obtain⟨k,hk,rfl⟩:=List.mem_map.1 hx
 exact Cz.2<|h k<|List.mem_range.1 hk
def gG (c:Nat)(rc:List Int)(iv:Int):Nat→List (List Int)→List (List Int):=it fun j M=>M.set (c+1+j) (gF (M.getD (c+1+j) []) rc (md ((M.getD (c+1+j) []).getD c 0*iv)))
theorem Mj {α:Type}(l:List α){r:Nat}(d:α)(h:r<l.length):l.set r (l.getD r d)=l:=by
 have:l.getD r d=l[r]:=by simp[h]
 rw[this,List.set_getElem_self]
theorem Ou {α:Type}{a b:List α}{d:α}{k:Nat}(h:∀j,j<k→a.getD j d=b.getD j d)(hk:a.getD k d=b.getD k d):∀j,j<k+1→a.getD j d=b.getD j d:=by
 intro j hj
 by_cases e:j=k
 ·subst e;exact hk
 ·exact h j zO
theorem Lb {α:Type}{a b:List α}{d:α}{k:Nat}(h:∀j,j<k→a.getD j d=b.getD j d)(hl:a.length=b.length)(hk:a.length≤k):a=b:=by
 apply List.ext_getElem hl
 intro i h1 h2
 have:=h i zO
 simpa [h1,h2]using this
theorem Ov {α:Type}{a b:List α}{d:α}{k:Nat}(h:a.getD k d≠b.getD k d):a≠b:=fun e=>h (by rw[e])
theorem QA {α:Type}{a b:List α}(h:a.length≠b.length):a≠b:=fun e=>h (by rw[e])
def HB (x a b:Int):Bool:=decide (a≤x) && decide (x≤b)
def Eb (e:Ex):Bool:=decide (e.pick=0) && decide (e.count=0)
def H5 (p:List Fn)(funcs vars:Int)(e:Ex):Bool :=
 if e.kind=1 then Eb e && (decide (e.kids.length=0) && Hq e.num)
 else if e.kind=2 then Eb e && (decide (e.kids.length=0) && HB e.num 0 (vars-1))
 else if e.kind=3∨e.kind=4∨e.kind=5∨e.kind=6∨e.kind=9 then Eb e && (decide (e.num=0) && decide (e.kids.length=2))
 else if e.kind=7 then Eb e && (decide (e.num=0) && decide (e.kids.length=1))
 else if e.kind=8 then Eb e && (decide (e.num=0) && decide (e.kids.length=3))
 else if e.kind=10∨e.kind=11 then
  HB e.num 0 (funcs-1) && (decide ((e.kids.length:Int)=(p.getD e.num.toNat Fn.zero).params) && (HB e.pick 0 (((p.getD e.num.toNat Fn.zero).outs.length:Int)-1) &&
   (if e.kind=10 then decide (e.count=0)else decide (((p.getD e.num.toNat Fn.zero).outs.length:Int)=(p.getD e.num.toNat Fn.zero).params) && HB e.count 0 8)))
 else false
mutual
def wf (p:List Fn)(funcs:Int):Ex→Int→Bool
 |.mk k n q c l,vars=>H5 p funcs vars (.mk k n q c l) && QB p funcs (decide (k=9)) 0 l vars
def QB (p:List Fn)(funcs:Int)(b:Bool):Nat→List Ex→Int→Bool
 |_,[],_=>true
 |i,e::l,vars=>wf p funcs e (if b=true∧i=1 then vars+1 else vars) && QB p funcs b (i+1) l vars
end
theorem MN (p:List Fn)(funcs:Int)(e:Ex)(vars:Int):wf p funcs e vars=(H5 p funcs vars e && QB p funcs (decide (e.kind=9)) 0 e.kids vars):=by
 cases e;rw[wf];rfl
theorem KM (p:List Fn)(funcs:Int)(b:Bool)(vars:Int):∀(l:List Ex)(i:Nat),QB p funcs b i l vars=true↔∀j,j<l.length→wf p funcs (l.getD j Ex.zero) (if b=true∧i+j=1 then vars+1 else vars)=true
 |[],i=>by rw[QB];simp
 |e::l,i=>by
  rw[QB,z7,KM p funcs b vars l (i+1)]
  constructor
  ·rintro⟨h1,h2⟩ j hj
   cases j with
   |zero=>simpa using h1
   |succ j =>
    have:=h2 j (by simpa using hj)
    rw[show i+1+j=i+(j+1)from by omega]at this
    simpa using this
  ·intro h
   refine⟨by simpa using h 0 (by simp),fun j hj=>?_⟩
   have:=h (j+1) (by simpa using hj)
   rw[show i+(j+1)=i+1+j from by omega]at this
   simpa using this
theorem Nj {p:List Fn}{funcs vars:Int}{e:Ex}(h:e.kids.length=0):wf p funcs e vars=H5 p funcs vars e:=by
 rw[MN]
 have:e.kids=[]:=List.eq_nil_of_length_eq_zero h
 rw[this,QB,Bool.and_true]
theorem SI {p:List Fn}{funcs vars:Int}{e:Ex}(h:H5 p funcs vars e=false):false=wf p funcs e vars:=by
 rw[MN,h];rfl
theorem SJ {p:List Fn}{funcs vars own:Int}{e:Ex}{k:Nat}(hk:k<e.kids.length)(ho:own=if e.kind=9∧k=1 then vars+1 else vars)(h:wf p funcs (e.kids.getD k Ex.zero) own=false):false=wf p funcs e vars:=by
 rw[MN]
 cases hw:QB p funcs (decide (e.kind=9)) 0 e.kids vars with
 |false=>rw[Bool.and_false]
 |true =>
  have:=(KM p funcs _ vars e.kids 0).1 hw k hk
  rw[Nat.zero_add]at this
  simp only[decide_eq_true_eq]at this
  rw[← ho,h]at this
  cases this
theorem Nk {p:List Fn}{funcs vars:Int}{e:Ex}(hn:H5 p funcs vars e=true)(h:∀j,j<e.kids.length→wf p funcs (e.kids.getD j Ex.zero) (if e.kind=9∧j=1 then vars+1 else vars)=true):true=wf p funcs e vars:=by
 rw[MN,hn,Bool.true_and]
 refine ((KM p funcs _ vars e.kids 0).2 fun j hj=>?_).symm
 rw[Nat.zero_add]
 simp only[decide_eq_true_eq]
 exact h j hj
theorem ET {l:List Ex}{k:Nat}(hk:k<l.length):(l.getD k Ex.zero).deep≤Ex.deeps l:=by
 have h1:=H1 hk
 have h2:∀(l:List Ex) (k:Nat),Ex.deeps (l.take k)≤Ex.deeps l:=by
  intro l
  induction l with
  |nil=>intro k;simp
  |cons e l ih =>
   intro k
   cases k with
   |zero=>rw[List.take_zero,Ex.deeps];omega
   |succ k=>rw[List.take_succ_cons,Ex.deeps,Ex.deeps];have:=ih k;omega
 have h3:=h2 l (k+1)
 omega
theorem Em {α β:Type}{f:α→β}{l:List α}{k:Nat}(d:α)(h:k<l.length):(l.take (k+1)).map f=(l.take k).map f++[f (l.getD k d)]:=by
 rw[CA d h,List.map_append];rfl
def ZV (a b:List Int):Nat→Int
 |0=>0
 |k+1=>md (ZV a b k+a.getD k 0*b.getD k 0)
def eO (a b:List Int):Int:=ZV a b a.length
theorem Yr {s x y:Int}(hs:0≤s∧s<1000003)(hx:0≤x∧x<1000003)(hy:0≤y∧y<1000003):(wr (s+wr (x*y))).tmod ((1000003:Nat):Int)=md (s+x*y):=by
 have h:=KI hx.1 hx.2 hy.1 hy.2
 rw[Gy (x:=x*y) zO zO,Gy zO (by omega)]
 exact Int.tmod_eq_emod_of_nonneg zO
def ZL (a:List Int)(y:Int):List Int:=a.map fun x=>md (x*y)
def gH (m:List (List Int))(v:List Int):List Int:=m.map fun r=>eO r v
def nw (a:List (List Int))(s:List Int):Nat→List Int
 |0=>s
 |k+1=>ZL (gH a (nw a s k)) (inv ((k+1:Nat):Int))
def up (n:Nat)(k:Int):List Int:=KJ n fun i=>k+(i:Int)
section
theorem UR {α:Type}{l l':List α}{k:Nat}{d:α}(h:k<l.length):(l++l').getD k d=l.getD k d:=by
 rw[List.getD_eq_getElem?_getD,List.getElem?_append_left h,List.getD_eq_getElem?_getD]
theorem SK {α:Type}{l l':List α}{k:Nat}{d:α}(h:l.length≤k):(l++l').getD k d=l'.getD (k-l.length) d:=by
 rw[List.getD_eq_getElem?_getD,List.getElem?_append_right h,List.getD_eq_getElem?_getD]
theorem MO:∀d,d<1001→2≤d→1000003 % d≠0:=by decide +kernel
theorem Ys {d:Nat}(h:d ∣ 1000003)(h2:2≤d):d=1000003:=by
 obtain⟨e,he⟩:=h
 by_cases h3:d<1001
 ·exact absurd (by rw[he];exact Nat.mul_mod_right d e)<|MO d h3 h2
 ·by_cases h4:e<1001
  ·by_cases h5:2≤e
   ·exact absurd (by rw[he];exact Nat.mul_mod_left d e)<|MO e h4 h5
   ·have:e=0∨e=1:=by omega
    rcases this with rfl|rfl <;> omega
  ·have:1001*1001≤d*e:=Nat.mul_le_mul zO zO
   omega
structure Ar (α:Type) where
 q:α→α→α
 t:α→α→α→α
 z:α→Bool
 d:α
section hom
variable {α β:Type} {R:Ar α} {S:Ar β} {V:α→Prop} {h:α→β} {n m c p:Nat} {M:List (List α)}
theorem CC {row:List α}{k:Nat}{d:α}{d':β}(hk:k<row.length):(row.map h).getD k d'=h (row.getD k d):=by simp[hk]
end hom
end
def Pk (a b:List Int)(k:Nat):Nat→Int
 |0=>0
 |i+1=>md (Pk a b k i+a.getD i 0*b.getD (k-i) 0)
theorem QC (a b:List Int)(k:Nat):∀i,0≤Pk a b k i∧Pk a b k i<1000003
 |0=>by unfold Pk;omega
 |i+1=>Cd _
def CF (a b:List Int):List Int:=KJ a.length fun k=>Pk a b k (k+1)
@[simp] theorem Lc (a b:List Int):(CF a b).length=a.length:=by simp[CF]
theorem Jq (a b:List Int):Bj (CF a b)=true:=KL fun _ _=>QC _ _ _ _
def Pl (a b o:List Int)(k:Nat):Nat→Int
 |0=>a.getD k 0
 |i+1=>md (Pl a b o k i-o.getD i 0*b.getD (k-i) 0)
def Ld (a b:List Int):Nat→List Int
 |0=>[]
 |k+1=>Ld a b k++[md (Pl a b (Ld a b k) k k*inv (b.getD 0 0))]
def Cq (a b:List Int):List Int:=Ld a b a.length
@[simp] theorem Fw (a b:List Int):∀k,(Ld a b k).length=k
 |0=>rfl
 |k+1=>by simp[Ld,Fw a b k]
@[simp] theorem Gz (a b:List Int):(Cq a b).length=a.length:=Fw _ _ _
theorem QD (a b:List Int):∀k,Bj (Ld a b k)=true
 |0=>rfl
 |k+1=>by
  unfold Ld Bj
  rw[List.all_append]
  have h:=QD a b k
  unfold Bj at h
  simp only[h,List.all_cons,List.all_nil,Bool.and_true,Bool.true_and]
  exact Cz.2<|Cd _
theorem HF (a b:List Int):Bj (Cq a b)=true:=QD _ _ _
theorem QE (a b:List Int){i:Nat}:∀k m,i<k→k≤m→(Ld a b m).getD i 0=(Ld a b k).getD i 0
 |k,m,h,hm=>by
  induction m with
  |zero=>omega
  |succ m ih =>
   by_cases e:k=m+1
   ·subst e;rfl
   ·show(Ld a b m++_).getD i 0=_
    rw[UR (by rw[Fw];omega)]
    exact ih zO
theorem MP {a b o o':List Int}{k:Nat}:∀i,(∀j,j<i→o.getD j 0=o'.getD j 0)→Pl a b o k i=Pl a b o' k i
 |0,_=>rfl
 |i+1,h=>by unfold Pl;rw[MP i fun j hj=>h j zO,h i (by omega)]
theorem KN {a b:List Int}{k:Nat}(hk:k<a.length):(Cq a b).getD k 0=md (Pl a b (Cq a b) k k*inv (b.getD 0 0)):=by
 unfold Cq
 rw[QE a b (k+1) a.length zO (by omega)]
 show(Ld a b k++[_]).getD k 0=_
 rw[SK (by simp),Fw,Nat.sub_self]
 show md _=_
 rw[MP (o:=Ld a b k) (o':=Ld a b a.length) k fun j hj=>(QE a b k a.length hj zO).symm]
theorem US {a b:List Int}{k:Nat}(hk:k<a.length){z:List Int}(hz:z.length=a.length) :
  (HA k (Cq a b) z).set k (md (Pl a b (Cq a b) k k*inv (b.getD 0 0)))=HA (k+1) (Cq a b) z:=by
 rw[← KN hk,Qy 0 (by simp[hz]) (by omega)]
def EU (a b:List Int):List Int:=KJ a.length fun k=>md (a.getD k 0+b.getD k 0)
def D8 (a:List Int)(n:Int):List Int:=KJ a.length fun k=>md (a.getD k 0*n)
def GA (a b:List Int):List Int:=KJ a.length fun k=>md (a.getD k 0-b.getD k 0)
@[simp] theorem Le (a b:List Int):(EU a b).length=a.length:=by simp[EU]
@[simp] theorem Lf (a:List Int)(n:Int):(D8 a n).length=a.length:=by simp[D8]
@[simp] theorem Ox (a b:List Int):(GA a b).length=a.length:=by simp[GA]
theorem Oy (a b:List Int):Bj (EU a b)=true:=KL fun _ _=>Cd _
theorem HG (a:List Int)(n:Int):Bj (D8 a n)=true:=KL fun _ _=>Cd _
theorem Oz (a b:List Int):Bj (GA a b)=true:=KL fun _ _=>Cd _
theorem SL {a b:List Int}(h:a.length≤b.length):EU a (D8 b 1000002)=GA a b:=by
 unfold EU GA
 refine UQ fun k hk=>?_
 unfold D8
 rw[DL _ zO,G0]
 unfold md
 omega
theorem UT {x y:Int}(hx:0≤x∧x<1000003)(hy:0≤y∧y<1000003):(wr (x+y)).tmod ((1000003:Nat):Int)=md (x+y):=by
 rw[Gy zO (by omega)]
 exact Int.tmod_eq_emod_of_nonneg zO
theorem SM {n k:Nat}{T:List Int}(hT:T.length=n)(hk:k<n):(HA k T (List.replicate n 0)).set k 0=HA k T (List.replicate n 0):=by
 have h1:(HA k T (List.replicate n 0)).length=n:=by rw[Jp _ _ _ (by simp[hT])];simp
 have h2:(HA k T (List.replicate n 0)).getD k 0=0:=by rw[Yp 0 (by simp[hT]) (A9 _) (by simpa using hk)];simp[hk]
 have h3:=Mj (HA k T<|List.replicate n 0) (r:=k) 0 zO
 rw[h2]at h3
 exact h3
theorem SN {a b q:List Int}{k i:Nat}(hq:Bj q=true)(hb:Bj b=true):md (Pl a b q k i-wr (q.getD i 0*b.getD (k-i) 0))=Pl a b q k (i+1):=by
 have h1:=Co hq i
 have h2:=Co hb (k-i)
 have h:=KI h1.1 h1.2 h2.1 h2.2
 rw[Gy zO (by omega)]
 rfl
def C9 (N:Nat)(s:List Int):Prop:=s.length=N∧Bj s=true
def Cu (b:List Int):List (List Int):=b.map fun x=>[x]
def pm:Nat→Nat→Nat→Nat→Nat
 |0,_,_,acc=>acc
 |f+1,b,e,acc=>pm f (b*b % 1000003) (e / 2) (if e % 2=1 then acc*b % 1000003 else acc)
theorem QF:∀(f b e acc:Nat),e<2 ^ f→pm f b e acc % 1000003=acc*b ^ e % 1000003
 |0,b,e,acc,h=>by
  have:e=0:=by simp at h;exact h
  subst this;simp[pm]
 |f+1,b,e,acc,h=>by
  unfold pm
  rw[QF f _ _ _ (by rw[Nat.pow_succ]at h;omega)]
  have e1:(b*b % 1000003) ^ (e / 2) % 1000003=(b*b) ^ (e / 2) % 1000003:=(Nat.pow_mod ..).symm
  have e2:(b*b) ^ (e / 2)=b ^ (2*(e / 2)):=by rw[Nat.pow_mul];congr 1;rw[Nat.pow_succ,Nat.pow_one]
  split
  ·rename_i ho
   rw[Nat.mul_mod,e1,← Nat.mul_mod,Nat.mul_mod (acc*b % 1000003),Nat.mod_mod,← Nat.mul_mod,e2,Nat.mul_assoc,← Nat.pow_succ']
   congr 3;omega
  ·rw[Nat.mul_mod,e1,← Nat.mul_mod,e2]
   congr 3;omega
theorem RR:∀a,a<1001→a=0∨pm 20 a 1000002 1=1:=by decide +kernel
theorem Nl {a e:Nat}(he:e=1000002)(h:0<a)(h':a<1001):a ^ e % 1000003=1:=by
 have h1:=(RR a h').resolve_left zO
 have h2:∀e,e<2 ^ 20→pm 20 a e 1=1→a ^ e % 1000003=1:=fun e he h=>by
  have h3:=QF 20 a e 1 he
  rw[Nat.one_mul,h]at h3
  exact h3.symm
 exact h2 e (by subst he;decide) (by subst he;exact h1)
theorem Nm {x y:Int}(n:Nat)(h:md x=md y):md (x ^ n)=md (y ^ n):=by rw[← La,h,La]
theorem Nn (k:Nat):(-1:Int) ^ (2*k)=1:=by
 rw[Int.pow_mul]
 have:(-1:Int) ^ 2=1:=by decide
 rw[this,Int.one_pow]
theorem Pv:∀(n a:Nat),a≤n→0<a→a<1000003→md ((a:Int) ^ 1000002)=1
 |0,a,h,h0,_=>by omega
 |n+1,a,h,h0,h1=>by
  by_cases hs:a<1001
  ·have:=Nl (e:=1000002) rfl h0 hs
   unfold md
   rw[← Int.natCast_pow]
   have e:((a ^ 1000002:Nat):Int) % 1000003=((a ^ 1000002 % 1000003:Nat):Int):=by omega
   rw[e,this];rfl
  ·have hq:1000003 / a<a:=by rw[Nat.div_lt_iff_lt_mul (by omega)];have:=Nat.mul_le_mul (show 1001≤a by omega) (show 1001≤a by omega);omega
   have hq0:0<1000003 / a:=Nat.div_pos zO h0
   have hr:1000003 % a<a:=Nat.mod_lt _ h0
   have hr0:0<1000003 % a:=by
    rcases Nat.eq_zero_or_pos (1000003 % a)with hz|hz
    ·have:=Ys (Nat.dvd_of_mod_eq_zero hz) (by omega);omega
    ·exact hz
   have f1:=Pv n (1000003 / a) zO hq0 zO
   have f2:=Pv n (1000003 % a) zO hr0 zO
   have hdm:=Nat.div_add_mod 1000003 a
   have key:md (((1000003 / a:Nat):Int)*(a:Int))=md (-1*((1000003 % a:Nat):Int)):=by
    have e:((1000003 / a:Nat):Int)*(a:Int)=1000003+(-1*((1000003 % a:Nat):Int)):=by
     have:((a*(1000003 / a)+1000003 % a:Nat):Int)=1000003:=by rw[hdm];rfl
     rw[Int.natCast_add,Int.natCast_mul,Int.mul_comm]at this
     omega
    rw[e,Int.add_comm];exact Sz _
   have k2:=Nm 1000002 key
   rw[Int.mul_pow,Int.mul_pow,← Do,← Do (_ ^ _) (((1000003 % a:Nat):Int) ^ 1000002),f1,f2,show(1000002:Nat)=2*500001 from rfl,Nn]at k2
   rw[show(2*500001:Nat)=1000002 from rfl,Int.one_mul,ES]at k2
   rw[k2];decide
theorem QG {a:Int}(h:0<a)(h':a<1000003):md (a*inv a)=1:=by
 obtain⟨x,rfl⟩:=Int.eq_ofNat_of_zero_le (show 0≤a by omega)
 unfold inv pw
 rw[if_neg zO,I9]
 have:(((1000001:Nat):Int)).toNat=1000001:=rfl
 rw[this,← Int.pow_succ']
 exact Pv x x (A9 _) zO zO
def cv (f g:Nat→Int):Nat→Int
 |0=>f 0*g 0
 |k+1=>f 0*g (k+1)+cv (fun i=>f (i+1)) g k
theorem KO (f f' g:Nat→Int):∀k,cv (fun i=>f i+f' i) g k=cv f g k+cv f' g k
 |0=>by unfold cv;rw[Int.add_mul]
 |k+1=>by
  unfold cv
  rw[KO (fun i=>f (i+1)) (fun i=>f' (i+1)) g k,Int.add_mul]
  omega
theorem HI (c:Int)(f g:Nat→Int):∀k,cv (fun i=>c*f i) g k=c*cv f g k
 |0=>by unfold cv;rw[Int.mul_assoc]
 |k+1=>by
  unfold cv
  rw[HI c (fun i=>f (i+1)) g k,Int.mul_add,Int.mul_assoc]
theorem KP (f g g':Nat→Int):∀k,cv f (fun i=>g i+g' i) k=cv f g k+cv f g' k
 |0=>by unfold cv;rw[Int.mul_add]
 |k+1=>by
  unfold cv
  rw[KP (fun i=>f (i+1)) g g' k,Int.mul_add]
  omega
theorem OA (c:Int)(f g:Nat→Int):∀k,cv f (fun i=>c*g i) k=c*cv f g k
 |0=>by unfold cv;rw[← Int.mul_assoc,Int.mul_comm (f 0) c,Int.mul_assoc]
 |k+1=>by
  unfold cv
  rw[OA c (fun i=>f (i+1)) g k,Int.mul_add,← Int.mul_assoc,Int.mul_comm (f 0) c,Int.mul_assoc]
theorem QH (f g:Nat→Int):∀k,cv f g (k+1)=f (k+1)*g 0+cv f (fun i=>g (i+1)) k
 |0=>by
  show f 0*g 1+f 1*g 0=f 1*g 0+f 0*g 1
  omega
 |k+1=>by
  show f 0*g (k+2)+cv (fun i=>f (i+1)) g (k+1)=f (k+2)*g 0+(f 0*g (k+2)+cv (fun i=>f (i+1)) (fun i=>g (i+1)) k)
  rw[QH (fun i=>f (i+1)) g k]
  show f 0*g (k+2)+(f (k+2)*g 0+_)=_
  omega
theorem Dv:∀(f g:Nat→Int)(k:Nat),cv f g k=cv g f k
 |f,g,0=>by unfold cv;rw[Int.mul_comm]
 |f,g,k+1=>by
  rw[QH g f k]
  show f 0*g (k+1)+cv (fun i=>f (i+1)) g k=_
  rw[Dv (fun i=>f (i+1)) g k,Int.mul_comm]
theorem HJ:∀(f g h:Nat→Int)(k:Nat),cv (cv f g) h k=cv f (cv g h) k
 |f,g,h,0=>by unfold cv;unfold cv;rw[Int.mul_assoc]
 |f,g,h,k+1=>by
  show cv f g 0*h (k+1)+cv (fun i=>cv f g (i+1)) h k=f 0*cv g h (k+1)+cv (fun i=>f (i+1)) (cv g h) k
  have e:(fun i=>cv f g (i+1))=fun i=>f 0*g (i+1)+cv (fun i=>f (i+1)) g i:=rfl
  rw[e,KO,HI,HJ (fun i=>f (i+1)) g h k]
  show f 0*g 0*h (k+1)+_=f 0*(g 0*h (k+1)+cv (fun i=>g (i+1)) h k)+_
  rw[Int.mul_add,Int.mul_assoc]
  omega
def sm (n:Nat)(f:Nat→Int):Int:=match n with
 |0=>0
 |n+1=>sm n f+f n
theorem EV {f g:Nat→Int}:∀ {n:Nat},(∀i,i<n→f i=g i)→sm n f=sm n g
 |0,_=>rfl
 |n+1,h=>by unfold sm;rw[EV (n:=n) fun i hi=>h i zO,h n (by omega)]
theorem QI (f:Nat→Int):∀n,sm (n+1) f=f 0+sm n (fun i=>f (i+1))
 |0=>by unfold sm;unfold sm;omega
 |n+1=>by
  show sm (n+1) f+f (n+1)=f 0+(sm n (fun i=>f (i+1))+f (n+1))
  rw[QI f n];omega
theorem Km:∀(f g:Nat→Int)(k:Nat),cv f g k=sm (k+1) fun i=>f i*g (k-i)
 |f,g,0=>by unfold cv sm;unfold sm;simp
 |f,g,k+1=>by
  rw[QI]
  unfold cv
  rw[Km (fun i=>f (i+1)) g k]
  congr 1
  exact EV fun i hi=>by rw[show k+1-(i+1)=k-i from by omega]
theorem OB {f g:Nat→Int}:∀ {n:Nat},(∀i,i<n→md (f i)=md (g i))→md (sm n f)=md (sm n g)
 |0,_=>rfl
 |n+1,h=>by
  unfold sm
  rw[← H4,OB (n:=n) fun i hi=>h i zO,h n zO,H4]
theorem ZW {f f' g g':Nat→Int}{k:Nat}(hf:∀i,i≤k→md (f i)=md (f' i))(hg:∀i,i≤k→md (g i)=md (g' i)):md (cv f g k)=md (cv f' g' k):=by
 rw[Km,Km]
 exact OB fun i hi=>by rw[← Do,hf i zO,hg (k-i) zO,Do]
theorem SP (a b:List Int)(k:Nat):∀i,Pk a b k i=md (sm i fun j=>a.getD j 0*b.getD (k-j) 0)
 |0=>by unfold Pk sm;rfl
 |i+1=>by unfold Pk sm;rw[SP a b k i,UN]
theorem QJ {a b:List Int}{k:Nat}(hk:k<a.length):(CF a b).getD k 0=md (cv (fun i=>a.getD i 0) (fun i=>b.getD i 0) k):=by
 unfold CF
 rw[DL _ hk,SP,Km]
theorem DE (b:List Int):(Cu b).length=b.length:=by simp[Cu]
section
def EN (N:Nat)(f g:Nat→Int):Prop:=∀k,k<N→md (f k)=md (g k)
theorem EN.rfl' {N:Nat}(f:Nat→Int):EN N f f:=fun _ _=>rfl
theorem EN.symm {N:Nat}{f g:Nat→Int}(h:EN N f g):EN N g f:=fun k hk=>(h k hk).symm
theorem EN.trans {N:Nat}{f g h:Nat→Int}(h1:EN N f g)(h2:EN N g h):EN N f h:=fun k hk=>(h1 k hk).trans (h2 k hk)
theorem EN.cv {N:Nat}{f f' g g':Nat→Int}(hf:EN N f f')(hg:EN N g g'):EN N (cv f g) (Go.Proofs.YtemfgblmfahllaaGreat.cv f' g'):=fun k hk=>ZW (fun i hi=>hf i zO) (fun i hi=>hg i zO)
theorem EN.sub {N:Nat}{f f' g g':Nat→Int}(hf:EN N f f')(hg:EN N g g'):EN N (fun k=>f k-g k) (fun k=>f' k-g' k):=fun k hk=>by rw[← Gg,hf k hk,hg k hk,Gg]
def Dw (s:List Int):Nat→Int:=fun i=>s.getD i 0
def OC:Nat→Int:=fun i=>if i=0 then 1 else 0
def Kv:Nat→Int:=fun _=>0
theorem G4 (g:Nat→Int):∀k,cv Kv g k=0
 |0=>by unfold cv Kv;rw[Int.zero_mul]
 |k+1=>by
  unfold cv
  show 0*g (k+1)+cv Kv g k=0
  rw[G4 g k,Int.zero_mul];rfl
theorem SQ (g:Nat→Int):∀k,cv OC g k=g k
 |0=>by unfold cv OC;simp
 |k+1=>by
  unfold cv
  show OC 0*g (k+1)+cv Kv g k=g (k+1)
  rw[G4];simp[OC]
theorem QK (f f' g:Nat→Int)(k:Nat):cv (fun i=>f i-f' i) g k=cv f g k-cv f' g k:=by
 have e:(fun i=>f i-f' i)=fun i=>f i+(-1)*f' i:=funext fun i=>by omega
 rw[e,KO,HI];omega
section ops
variable {N:Nat} {a b:List Int}
theorem SR (ha:C9 N a):EN N (Dw (CF a b)) (cv (Dw a) (Dw b)):=fun k hk=>by
 show md ((CF a b).getD k 0)=_
 rw[QJ (by rw[ha.1];exact hk),ES];rfl
theorem ZX (ha:C9 N a):EN N (Dw (GA a b)) (fun k=>Dw a k-Dw b k):=fun k hk=>by
 show md ((GA a b).getD k 0)=_
 unfold GA
 rw[DL _ (by rw[ha.1];exact hk),ES];rfl
theorem SS (a b o:List Int)(k:Nat):∀i,md (Pl a b o k i)=md (a.getD k 0-sm i fun j=>o.getD j 0*b.getD (k-j) 0)
 |0=>by unfold Pl sm;rw[Int.sub_zero]
 |i+1=>by
  unfold Pl sm
  rw[ES,← Qu,SS a b o k i,Qu]
  congr 1;omega
theorem Yt (ha:C9 N a)(hb:C9 N b)(hz:b.getD 0 0≠0):EN N (cv (Dw (Cq a b)) (Dw b)) (Dw a):=fun k hk=>by
 have hb0:=Co hb.2 0
 have hi:=QG (a:=b.getD 0 0) zO zO
 rw[Km]
 show md (sm k _+Dw (Cq a b) k*Dw b (k-k))=md (a.getD k 0)
 rw[Nat.sub_self]
 show md ((sm k fun i=>(Cq a b).getD i 0*b.getD (k-i) 0)+(Cq a b).getD k 0*b.getD 0 0)=_
 rw[KN (by rw[ha.1];exact hk),← G0,G3]
 generalize hS:(sm k fun i=>(Cq a b).getD i 0*b.getD (k-i) 0)=S
 have h1:=SS a b (Cq a b) k k
 rw[hS]at h1
 rw[Int.mul_assoc,← Do,h1,Int.mul_comm (inv _),hi,Int.mul_one,ES,G0]
 congr 1;omega
theorem Pw {s t d:Nat→Int}(hd:∃e:Int,md (d 0*e)=1)(h:EN N (cv s d) (cv t d)):EN N s t:=by
 obtain⟨e,he⟩:=hd
 have key:∀m k,k≤m→k<N→md (s k)=md (t k):=by
  intro m
  induction m with
  |zero =>
   intro k hk hN
   have e0:k=0:=by omega
   subst e0
   have h0:=h 0 hN
   have h1:md (s 0*d 0)=md (t 0*d 0):=h0
   have h2:md (s 0*d 0*e)=md (t 0*d 0*e):=by rw[← G3,h1,G3]
   rw[Int.mul_assoc,Int.mul_assoc,← I9,he,← I9 (t 0),he,Int.mul_one,Int.mul_one]at h2
   exact h2
  |succ m ih =>
   intro k hk hN
   by_cases hkm:k≤m
   ·exact ih k hkm hN
   ·have h0:=h k hN
    rw[Km,Km]at h0
    have h1:md ((sm k fun i=>s i*d (k-i))+s k*d (k-k))=md ((sm k fun i=>t i*d (k-i))+t k*d (k-k)):=h0
    have h2:md (sm k fun i=>s i*d (k-i))=md (sm k fun i=>t i*d (k-i)):=OB fun i hi=>by rw[← G3,ih i zO zO,G3]
    rw[Nat.sub_self]at h1
    have h3:md (s k*d 0)=md (t k*d 0):=by
     have e1:s k*d 0=((sm k fun i=>s i*d (k-i))+s k*d 0)-(sm k fun i=>s i*d (k-i)):=by omega
     have e2:t k*d 0=((sm k fun i=>t i*d (k-i))+t k*d 0)-(sm k fun i=>t i*d (k-i)):=by omega
     rw[e1,e2,← Gg,h1,h2,Gg]
    have h4:md (s k*d 0*e)=md (t k*d 0*e):=by rw[← G3,h3,G3]
    rw[Int.mul_assoc,Int.mul_assoc,← I9,he,← I9 (t k),he,Int.mul_one,Int.mul_one]at h4
    exact h4
 exact fun k hk=>key k k (A9 _) hk
theorem UU (hb:C9 N b)(hz:b.getD 0 0≠0):∃e:Int,md (Dw b 0*e)=1:=by
 have hb0:=Co hb.2 0
 exact⟨inv (b.getD 0 0),QG (a:=b.getD 0 0) zO zO⟩
end ops
section sys
variable {N n c p:Nat} {v:Nat→Nat→Int}
def GR (n:Nat)(v:Nat→Nat→Int)(row:List (List Int)):Nat→Int:=fun k=>sm n fun j=>cv (Dw (row.getD j [])) (v j) k
theorem OD (r:Nat)(g:Nat→Int):∀m,(sm m fun j=>if r=j then g j else 0)=if r<m then g r else 0
 |0=>by unfold sm;simp
 |m+1=>by
  unfold sm
  rw[OD r g m]
  by_cases h1:r<m
  ·rw[if_pos h1,if_neg zO,if_pos (by omega)];omega
  ·by_cases h2:r=m
   ·subst h2;rw[if_neg h1,if_pos rfl,if_pos (by omega)];omega
   ·rw[if_neg h1,if_neg h2,if_neg (by omega)];rfl
end sys
end
theorem Jr {α:Type}{l:List α}{j:Nat}{d:α}(h:j<l.length):l.getD j d=l[j]:=by simp[h]
abbrev Sr:=List Int
def Fj (n:Nat)(x:Int):Sr:=(List.replicate n 0).set 0 x
inductive Rs (α:Type) where
 |ok (x:α) (s:Nat)
 |err (c:Int)
structure Ca where
 one:Nat→Nat→List Sr→Nat→Rs Sr
 all:Nat→List Sr→Nat→Rs (List Sr)
def Rs.bind {α β:Type}(r:Rs α)(f:α→Nat→Rs β):Rs β:=match r with
 |.ok x s=>f x s
 |.err c=>.err c
theorem Rs.bind_ok {α β:Type}(x:α)(s:Nat)(f:α→Nat→Rs β):(Rs.ok x s).bind f=f x s:=rfl
theorem Rs.bind_err {α β:Type}(c:Int)(f:α→Nat→Rs β):(Rs.err c:Rs α).bind f=.err c:=rfl
theorem Rs.bind_assoc {α β γ:Type}(r:Rs α)(f:α→Nat→Rs β)(h:β→Nat→Rs γ):(r.bind f).bind h=r.bind fun x s=>(f x s).bind h:=by cases r <;> rfl
def Sb (f:List Sr→Nat→Rs (List Sr)):Nat→List Sr→Nat→Rs (List Sr)
 |0,a,s=>.ok a s
 |k+1,a,s=>(Sb f k a s).bind f
def Pm (k:Int)(xs:List Sr)(t:Nat):Rs Sr :=
 if k=3 then .ok (EU (xs.getD 0 []) (xs.getD 1 [])) t
 else if k=4 then .ok (GA (xs.getD 0 []) (xs.getD 1 [])) t
 else if k=5 then .ok (CF (xs.getD 0 []) (xs.getD 1 [])) t
 else if k=7 then .ok (D8 (xs.getD 0 []) 1000002) t
 else if (xs.getD 1 []).getD 0 0=0 then .err 6 else .ok (Cq (xs.getD 0 []) (xs.getD 1 [])) t
mutual
def Gh (n:Nat)(C:Ca):Ex→List Sr→Nat→Rs Sr
 |.mk k num pick cnt l,env,s =>
  if 3000≤s then .err 7
  else if k=1 then .ok (Fj n num) (s+1)
  else if k=2 then .ok (env.getD num.toNat []) (s+1)
  else if k=8 then(Px n C l 0 env (s+1)).bind fun x t=>if x.getD 0 0=0 then Px n C l 1 env t else Px n C l 2 env t
  else if k=9 then(Px n C l 0 env (s+1)).bind fun x t=>Px n C l 1 (env++[x]) t
  else(G5 n C l env (s+1)).bind fun xs t =>
   if k=10 then C.one num.toNat pick.toNat xs t
   else if k=11 then(Sb (C.all num.toNat) cnt.toNat xs t).bind fun ys u=>.ok (ys.getD pick.toNat []) u
   else Pm k xs t
def Px (n:Nat)(C:Ca):List Ex→Nat→List Sr→Nat→Rs Sr
 |[],_,_,_=>.err 0
 |e::_,0,env,s=>Gh n C e env s
 |_::l,j+1,env,s=>Px n C l j env s
def G5 (n:Nat)(C:Ca):List Ex→List Sr→Nat→Rs (List Sr)
 |[],_,s=>.ok [] s
 |e::l,env,s=>(Gh n C e env s).bind fun x t=>(G5 n C l env t).bind fun xs u=>.ok (x::xs) u
end
theorem Gi (n:Nat)(C:Ca)(env:List Sr)(s:Nat):∀(l:List Ex)(j:Nat),j<l.length→Px n C l j env s=Gh n C (l.getD j Ex.zero) env s
 |[],j,h=>by simp at h
 |e::l,0,_=>by rw[Px];rfl
 |e::l,j+1,h=>by rw[Px,Gi n C env s l j (by simpa using h)];simp
theorem OE (n:Nat)(C:Ca)(env:List Sr)(e:Ex):∀(l:List Ex)(s:Nat),G5 n C (l++[e]) env s=(G5 n C l env s).bind fun xs t=>(Gh n C e env t).bind fun x u=>.ok (xs++[x]) u
 |[],s=>by
  rw[zl,G5,G5]
  simp only[Rs.bind_ok]
  cases Gh n C e env s <;> simp only[Rs.bind_ok,Rs.bind_err,G5] <;> rfl
 |a::l,s=>by
  rw[List.cons_append,G5,G5]
  cases Gh n C a env s with
  |err c=>rfl
  |ok x t =>
   simp only[Rs.bind_ok]
   rw[OE n C env e l t]
   simp only[Rs.bind_assoc]
   cases G5 n C l env t with
   |err c=>rfl
   |ok xs u =>
    simp only[Rs.bind_ok]
    cases Gh n C e env u <;> rfl
theorem ST {n:Nat}{C:Ca}{env:List Sr}{s:Nat}{l:List Ex}{k:Nat}(hk:k<l.length):G5 n C (l.take (k+1)) env s=(G5 n C (l.take k) env s).bind fun xs t=>(Gh n C (l.getD k Ex.zero) env t).bind fun x u=>.ok (xs++[x]) u:=by
 rw[List.take_succ_eq_append_getElem hk,OE]
 simp[hk]
theorem HK (n:Nat)(C:Ca)(e:Ex)(env:List Sr)(s:Nat):Gh n C e env s =
  if 3000≤s then .err 7
  else if e.kind=1 then .ok (Fj n e.num) (s+1)
  else if e.kind=2 then .ok (env.getD e.num.toNat []) (s+1)
  else if e.kind=8 then(Px n C e.kids 0 env (s+1)).bind fun x t=>if x.getD 0 0=0 then Px n C e.kids 1 env t else Px n C e.kids 2 env t
  else if e.kind=9 then(Px n C e.kids 0 env (s+1)).bind fun x t=>Px n C e.kids 1 (env++[x]) t
  else(G5 n C e.kids env (s+1)).bind fun xs t =>
   if e.kind=10 then C.one e.num.toNat e.pick.toNat xs t
   else if e.kind=11 then(Sb (C.all e.num.toNat) e.count.toNat xs t).bind fun ys u=>.ok (ys.getD e.pick.toNat []) u
   else Pm e.kind xs t:=by cases e;rw[Gh];rfl
def Iy (p:List Fn)(n:Nat):Nat→Ca
 |0=>⟨fun _ _ _ _=>.err 0,fun _ _ _=>.err 0⟩
 |k+1=>⟨fun f j a s=>if f=k then Gh n (Iy p n k) ((p.getD k Fn.zero).outs.getD j Ex.zero) a s else(Iy p n k).one f j a s,
   fun f a s=>if f=k then G5 n (Iy p n k) (p.getD k Fn.zero).outs a s else(Iy p n k).all f a s⟩
theorem QL {p:List Fn}{n f j:Nat}{a:List Sr}{s:Nat}:∀ {F:Nat},f<F→(Iy p n F).one f j a s=Gh n (Iy p n f) ((p.getD f Fn.zero).outs.getD j Ex.zero) a s
 |0,h=>by omega
 |F+1,h=>by
  show(if f=F then _ else _)=_
  split
  ·rename_i e;rw[e]
  ·exact QL zO
theorem No {p:List Fn}{n f:Nat}{a:List Sr}{s:Nat}:∀ {F:Nat},f<F→(Iy p n F).all f a s=G5 n (Iy p n f) (p.getD f Fn.zero).outs a s
 |0,h=>by omega
 |F+1,h=>by
  show(if f=F then _ else _)=_
  split
  ·rename_i e;rw[e]
  ·exact No zO
def ev (p:List Fn)(n f:Nat)(a:List Sr):Rs (List Sr):=G5 n (Iy p n f) (p.getD f Fn.zero).outs a 0
def go {α:Type}(c:Int)(r:Rs α):Rs α:=if c=0 then r else .err c
theorem CW {α:Type}(r:Rs α):go 0 r=r:=rfl
theorem DF {α:Type}{c:Int}(h:c≠0)(r:Rs α):go c r=.err c:=if_neg h
def CG (n:Nat)(env:List Sr):Prop:=∀k,k<env.length→C9 n (env.getD k [])
def AY {α:Type}(r:Rs α)(x:α)(s:Nat)(c:Int):Prop:=match r with
 |.ok y t=>x=y∧s=t∧c=0
 |.err d=>c=d∧d≠0
theorem AY.ok {α:Type}{r:Rs α}{x:α}{s:Nat}(h:AY r x s 0):r=.ok x s:=by
 cases r with
 |ok y t=>obtain⟨rfl,rfl,_⟩:=h;rfl
 |err d=>exact absurd h.1.symm h.2
theorem AY.err {α:Type}{r:Rs α}{x:α}{s:Nat}{c:Int}(h:AY r x s c)(hc:c≠0):r=.err c:=by
 cases r with
 |ok y t=>exact absurd h.2.2 hc
 |err d=>rw[h.1]
theorem AY.mk_ok {α:Type}{r:Rs α}{x:α}{s:Nat}(h:r=.ok x s):AY r x s 0:=by subst h;exact⟨rfl,rfl,rfl⟩
theorem AY.mk_err {α:Type}{r:Rs α}{x:α}{s:Nat}{c:Int}(h:r=.err c)(hc:c≠0):AY r x s c:=by subst h;exact⟨rfl,hc⟩
theorem AY.bindE {α β:Type}{r:Rs α}{x:α}{s:Nat}{c:Int}(h:AY r x s c)(hc:c≠0){f:α→Nat→Rs β}:r.bind f=.err c:=by rw[h.err hc];rfl
theorem AY.bindO {α β:Type}{r:Rs α}{x:α}{s:Nat}(h:AY r x s 0){f:α→Nat→Rs β}:r.bind f=f x s:=by rw[h.ok];rfl
theorem QM (n:Nat)(x:Int):(Fj n x).length=n:=by simp[Fj]
theorem GB (n:Nat):Bj (List.replicate n 0)=true:=by
 unfold Bj
 rw[zm]
 intro y hy
 rw[List.eq_of_mem_replicate hy];decide
theorem Fx {n:Nat}{x:Int}(h:Hq x=true):C9 n (Fj n x):=by
 refine⟨QM n x,?_⟩
 unfold Fj Bj
 rw[zm]
 intro y hy
 rcases List.mem_or_eq_of_mem_set hy with hy|rfl
 ·rw[List.eq_of_mem_replicate hy];decide
 ·exact h
theorem CG.snoc {n:Nat}{env:List Sr}{x:Sr}(h:CG n env)(hx:C9 n x):CG n (env++[x]):=by
 intro k hk
 rw[z4,zd]at hk
 by_cases e:k<env.length
 ·rw[Ik e];exact h k e
 ·have:k=env.length:=by omega
  rw[IP this];exact hx
end Go.Proofs.YtemfgblmfahllaaGreat
