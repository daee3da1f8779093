/- FwA, FwB, FwC, FwD, FwE, FwF, FwG, FwH, FwK, FwM, FwP, FwQ, FwI, FwR, Ma, Mb, Na, Mc, FwS, Nb, Nc, FwT, FwU, FwV, Ne, Nf, Ng, Ni, FwW, FwX, Nj, FwY, Ib, FwZ, T, Sa, Vq, Gc, Gd, Ge, Gg, Gh, Gz, Hz: texts of this claim, joined; what the claim does not come to is left out. -/
import Derived.Test.YtjnbnlniafmblaaProg
import Derived.Still
import Derived.Below
import Derived.WalkKit
import Derived.IntWalk
import Derived.Laws.CopyRow
import Derived.ProofKit
import Derived.Carry
import Derived.Deep.Matrix
import Derived.Deep.Strs
set_option linter.unusedVariables false
set_option linter.unusedSimpArgs false
namespace Go.Proofs.Ytjnbnlniafmblaa
open Go Go.RowKit
abbrev zI (x:Int):Value:=.int .i64 x
abbrev zP (g:Nat):Value:=.pointer (some ⟨g,0,none⟩)
abbrev zN:Value:=.slice none 0 0
theorem zA{c g B U:Nat}(h:c∈[g])(o:g<B∨U≤g:=by omega):c<B∨U≤c:=by rw[List.mem_singleton.1 h];exact o
theorem zE{c g B:Nat}(h:c∈[g])(o:B≤g:=by omega):B≤c:=by rw[List.mem_singleton.1 h];exact o
theorem zB{a g:Nat}(h:a∈[g])(o:a≠g:=by omega):False:=o (List.mem_singleton.1 h)
theorem zR{p:Prop}(h:p:=by repeat(first|exact trivial|exact rfl|refine ⟨rfl,?_⟩)):p:=h
theorem zD{p:Prop}(h:p:=by first|omega|(dsimp only;omega)):p:=h
theorem zW{a b:Bool}(h:a=b):Value.bool a=Value.bool b:=by rw[h]
theorem zO{p:Prop}(h:p:=by omega):p:=h
theorem zH{p q:Prop}(h:p)(o:p→q:=by intro h;omega):q:=o h
theorem z0:type_of% @List.mem_cons_self:=@List.mem_cons_self
theorem z1:type_of% @List.mem_append_right:=@List.mem_append_right
theorem z2:type_of% @List.not_mem_nil:=@List.not_mem_nil
theorem z3:type_of% @List.mem_cons_of_mem:=@List.mem_cons_of_mem
theorem z4:type_of% @List.length_append:=@List.length_append
theorem z5:type_of% @List.length_replicate:=@List.length_replicate
theorem z6:type_of% @List.length_set:=@List.length_set
theorem z7:type_of% @Bool.and_eq_true:=@Bool.and_eq_true
theorem z8:type_of% @List.mem_append_left:=@List.mem_append_left
theorem z9:type_of% @List.length_cons:=@List.length_cons
theorem za:type_of% @List.take_of_length_le:=@List.take_of_length_le
theorem zb:type_of% @List.length_nil:=@List.length_nil
theorem zc:type_of% @List.map_toArray:=@List.map_toArray
theorem zd:type_of% @List.length_singleton:=@List.length_singleton
theorem ze:type_of% @List.mem_cons:=@List.mem_cons
theorem zf:type_of% @List.map_cons:=@List.map_cons
theorem zg:type_of% @List.length_map:=@List.length_map
theorem zh:type_of% @List.map_nil:=@List.map_nil
theorem zi:type_of% @List.mem_append:=@List.mem_append
theorem zj:type_of% @List.mem_of_mem_take:=@List.mem_of_mem_take
theorem zk:type_of% @List.nodup_nil:=@List.nodup_nil
theorem zl:type_of% @List.nil_append:=@List.nil_append
theorem zm:type_of% @List.all_eq_true:=@List.all_eq_true
abbrev A0:=@wp_seq
abbrev A1:=@wp_ret
abbrev A2:=@wp_skip
abbrev A3:=@wp_block
abbrev A4:=@wp_exit
abbrev A5:=@decide_eq_true
abbrev A6:=@decide_eq_false
abbrev A7:=@Nat.le_refl
abbrev A8:=@Nat.le_trans
theorem A9 {α:Type}{a b:α}(h:a ∈ [b]):a=b:=List.mem_singleton.1 h
theorem Z {α:Sort _}{a:α}:a=a:=rfl
section
def Az (w w':World):Prop:=Below w.heap.size w w'
theorem Az.refl (w:World):Az w w:=Below.refl _ _
theorem Az.trans {a b c:World}(h:Az a b)(k:Az b c):Az a c:=Below.trans h (k.mono h.size)
section
variable {P:Program} {ops:Array Oper} {md:Region.Mode}
def YR (P:Program)(r:Result Next)(w:World)(v:Value):Prop :=
 r=.ok (.value v) w∨(r=.ok .skip w∧v=undef)∨∃f args,r=.ok (.enter f args) w∧Calls P f args w (fun e w'=>e=.returned v∧w'=w)
def YA (P:Program)(o:Oper)(a:Act)(w:World)(v:Value):Prop:=YR P ((execOp a.eval o).run P w) w v
def Cg (P:Program):Frame:={ fn:=P.funcs.size,tmps:=#[undef],todo:=[.inRegion #[⟨some 0,.move (.tmp 0),0,"",#[],none⟩] [0]],defers:=[],mode:=.returning,kind:=.report }
theorem Dt (P:Program) (v:Value) (w:World):∃ o,step P (lone ((Cg P).finish v) [] w) = .ended o w:=by
 have hf:P.funcs[P.funcs.size]? = none:=by simp
 refine ⟨.stuck "report: Error or String returned no string" "",step_lone_ended ?_⟩
 simp [stepG,unwind,doReturn,Cg,Frame.finish]
theorem Du {P:Program}{n k:Nat}{m x y:Machine}{o:Outcome}{w:World}(hx:runN P n m=.next x)(hy:runN P (n+k) m=.next y)(he:step P x=.ended o w):x=y:=by
 rw[runN_add,hx]at hy
 cases k with
 |zero=>simp only[runN]at hy;injection hy
 |succ k=>simp only[runN,he]at hy;cases hy
theorem FJ {P:Program}{f:FuncId}{args:Array Value}{w:World}{v u:Value}(h:Calls P f args w (fun e w'=>e=.returned v∧w'=w))(k:Calls P f args w (fun e w'=>e=.returned u∧w'=w)):v=u:=by
 have go:∀ {x:Value},Calls P f args w (fun e w'=>e=.returned x∧w'=w)→Steps P (lone (Frame.enter P f args .normal) [Cg P] w) (lone ((Cg P).finish x) [] w):=by
  intro x hx
  obtain⟨e,w',fr,⟨rfl,rfl⟩,hs,_,hl⟩:=hx [Cg P]
  exact Steps.trans hs<|Steps.one<|step_leave_returned hl
 obtain⟨n,hn⟩:=go h
 obtain⟨m,hm⟩:=go k
 obtain⟨o1,e1⟩:=Dt P v w
 obtain⟨o2,e2⟩:=Dt P u w
 have he:lone ((Cg P).finish v) [] w=lone ((Cg P).finish u) [] w:=by
  rcases Nat.le_total n m with hle|hle
  ·obtain⟨k,rfl⟩:=Nat.le.dest hle
   exact Du hn hm e1
  ·obtain⟨k,rfl⟩:=Nat.le.dest hle
   exact (Du hm hn e2).symm
 simpa [lone,Cg,Frame.finish]using he
theorem YA.unique {o:Oper}{a:Act}{w:World}{v u:Value}(h:YA P o a w v)(k:YA P o a w u):v=u:=by
 unfold YA at h k
 rcases h with h|⟨h,rfl⟩|⟨f,args,h,hc⟩ <;> rcases k with k|⟨k,rfl⟩|⟨f',args',k,kc⟩ <;> rw[h]at k
 ·injection k with k _;injection k
 ·injection k with k _;cases k
 ·injection k with k _;cases k
 ·injection k with k _;cases k
 ·injection k with k _;cases k
 ·injection k with k _;cases k
 ·injection k with k _;cases k
 ·injection k with k _
  injection k with k1 k2
  subst k1;subst k2
  exact FJ hc kc
def NQ (Q:Act→World→Prop):Exit→Act→World→Prop
 |.normal,a,w=>Q a w
 |_,_,_=>False
def Cl (w0 w:World):Nat→World→Prop
 |0,_=>True
 |1,w'=>Az w0 w'
 |_,w'=>Az w w'
def B9 (P:Program)(w0:World)(o:Oper)(k:Nat)(a:Act)(w:World)(K:Act→World→Prop):Prop :=
 if k≤2 then ∃v,(∀w',Cl w0 w k w'→YA P o a w' v)∧K (a.put o.dst v) w
 else if k=3 then o.wp P a w (fun a' w'=>Az w w'∧K a' w') (NQ fun _ _=>False)
 else o.wp P a w K (NQ fun _ _=>False)
def LW (P:Program)(ops:Array Oper)(w0:World)(Q:Act→World→Prop):List Oper→List Nat→Act→World→Prop
 |[],_,a,w=>Q a w
 |_::_,[],_,_=>False
 |o::os,k::ks,a,w =>
  if Region.wanted o (yielded ops a.tmps)=true then B9 P w0 o k a w (LW P ops w0 Q os ks)else LW P ops w0 Q os ks (a.put o.dst undef) w
theorem B9.mono {w0:World}{o:Oper}{k:Nat}{a:Act}{w:World}{K K':Act→World→Prop}(h:∀a w,K a w→K' a w)
  (hh:B9 P w0 o k a w K):B9 P w0 o k a w K':=by
 unfold B9 at *
 split
 ·rename_i hk
  rw[if_pos hk]at hh
  obtain⟨v,h1,h2⟩:=hh
  exact⟨v,h1,h _ _ h2⟩
 ·rename_i hk
  rw[if_neg hk]at hh
  split
  ·rename_i h3
   rw[if_pos h3]at hh
   exact Oper.wp_mono (fun a w hx=>⟨hx.1,h _ _ hx.2⟩) hh
  ·rename_i h3
   rw[if_neg h3]at hh
   exact Oper.wp_mono h hh
theorem GF {o:Oper}{a:Act}{w:World}{K:Act→World→Prop}(h:o.wp P a w K (NQ fun _ _=>False)):∃v w',K (a.put o.dst v) w'∨∃d,K ({ a with defers:=d::a.defers }.put o.dst v) w':=by
 unfold Oper.wp at h
 generalize (execOp a.eval o).run P w=r at h
 cases r with
 |ok n w' =>
  cases n <;> simp only[Oper.upon]at h
  case value v=>exact⟨v,w',.inl h⟩
  case skip=>exact⟨undef,w',.inl h⟩
  case defer d=>exact⟨undef,w',.inr ⟨d,h⟩⟩
  case enter f args =>
   obtain⟨e,w1,fr,hR,_⟩:=h []
   cases e with
   |returned v=>exact⟨v,w1,.inl hR⟩
   |panicked c=>exact hR.elim
   |outgrown=>obtain⟨a1,w2,hf⟩:=hR;exact hf.elim
  case row row args =>
   obtain⟨v,w1,hR,_⟩:=h default []
   exact⟨v,w1,.inl hR⟩
 |halt x w'=>cases x <;> simp only[Oper.upon]at h;exact h.elim
theorem DI {o:Oper}(hs:∀cs b,o.op≠.select cs b){a:Act}{d:Option Tmp}{v:Value}{w:World}{K:Act→World→Prop}{Q:Act→World→Prop}
  (h1:∀x,d=some x→x∉o.looksAt ops) (h2:∀x,d=some x→o.dst≠some x)
  (h:o.wp P (a.put d v) w K (NQ Q)):o.wp P a w (fun a' w'=>K (a'.put d v) w') (NQ fun _ _=>False):=by
 unfold Oper.wp at *
 rw[execOp_put (ops:=ops) o hs a d v h1]at h
 generalize (execOp a.eval o).run P w=r at *
 have hc:∀u,(a.put d v).put o.dst u=(a.put o.dst u).put d v:=fun u=>Act.put_comm a v u h2
 cases r with
 |ok n w' =>
  cases n <;> simp only[Oper.upon]at h ⊢
  case value u=>rw[← hc];exact h
  case skip=>rw[← hc];exact h
  case defer dd =>
   rw[Act.put_defers]at h
   have:=Act.put_comm ({ a with defers:=dd::a.defers }:Act) v undef h2
   rw[← this];exact h
  case enter f args =>
   refine Calls.mono h fun e w'' he=>?_
   cases e with
   |returned u=>show K _ _;rw[← hc];exact he
   |panicked c=>exact he
   |outgrown=>obtain⟨_,_,hf⟩:=he;exact hf.elim
  case row row args=>exact Rows.mono h (fun u w'' he=>by show K _ _;rw[← hc];exact he)
 |halt x w'=>cases x <;> simp only[Oper.upon]at h ⊢;exact h
theorem Et {o:Oper}(hs:∀cs b,o.op≠.select cs b){a:Act}{d:Option Tmp}{v:Value}{w:World}{K:Act→World→Prop}
  (h1:∀x,d=some x→x∉o.looksAt ops) (h2:∀x,d=some x→o.dst≠some x)
  (h:o.wp P a w (fun a' w'=>K (a'.put d v) w') (NQ fun _ _=>False)):o.wp P (a.put d v) w K (NQ fun _ _=>False):=by
 unfold Oper.wp at *
 rw[execOp_put (ops:=ops) o hs a d v h1]
 generalize (execOp a.eval o).run P w=r at *
 have hc:∀u,(a.put d v).put o.dst u=(a.put o.dst u).put d v:=fun u=>Act.put_comm a v u h2
 cases r with
 |ok n w' =>
  cases n <;> simp only[Oper.upon]at h ⊢
  case value u=>rw[hc];exact h
  case skip=>rw[hc];exact h
  case defer dd =>
   rw[Act.put_defers]
   have:=Act.put_comm ({ a with defers:=dd::a.defers }:Act) v undef h2
   rw[this];exact h
  case enter f args =>
   refine Calls.mono h fun e w'' he=>?_
   cases e with
   |returned u=>show K _ _;rw[hc];exact he
   |panicked c=>exact he
   |outgrown=>obtain⟨_,_,hf⟩:=he;exact hf.elim
  case row row args=>exact Rows.mono h (fun u w'' he=>by show K _ _;rw[hc];exact he)
 |halt x w'=>cases x <;> simp only[Oper.upon]at h ⊢;exact h
theorem YA.apart {o:Oper}(hs:∀cs b,o.op≠.select cs b){a:Act}{d:Option Tmp}{v u:Value}{w:World}
  (h1:∀x,d=some x→x∉o.looksAt ops):YA P o (a.put d v) w u↔YA P o a w u:=by
 unfold YA
 rw[execOp_put (ops:=ops) o hs a d v h1]
variable (P ops) in
def LI (kd:Nat→Nat)(w0:World)(Q:Act→World→Prop):List Nat→Act→World→Prop
 |[],a,w=>Q a w
 |i::l,a,w =>
  match ops[i]? with
  |none=>False
  |some o=>if Region.wanted o (yielded ops a.tmps)=true then B9 P w0 o (kd i) a w (LI kd w0 Q l)else LI kd w0 Q l (a.put o.dst undef) w
def BA (ki kj:Nat):Bool :=
 (ki≤2 && kj≤2) || (ki≤2 && kj == 3) || (ki == 0 && kj == 4) || (ki == 3 && kj≤1) || (ki == 4 && kj == 0)
def Jn (ops:Array Oper)(kd:Nat→Nat)(bs:Nat→Nat):Prop :=
 ∀i j oi oj,i<j→ops[i]? = some oi→ops[j]? = some oj→(bs j).testBit i=true∨(oi.apart ops oj=true∧BA (kd i) (kd j)=true)
def Hv (md:Region.Mode)(ops:Array Oper)(bs:Nat→Nat):Prop :=
 ∀j oj,ops[j]? = some oj→∀i,(bs j).testBit i=true→∃e∈oj.after,Region.binds md e=true∧(i=e.on∨(bs e.on).testBit i=true)
def Gn (kd:Nat→Nat)(w0 w:World)(l:List Nat):Prop:=(∃j∈l,kd j=1)→Az w0 w
def Gp (kd:Nat→Nat)(l:List Nat):Prop:=∀l1 i l2,l=l1++i::l2→4≤kd i→∀j∈l2,kd j≠1
theorem Gp.erase {kd:Nat→Nat}{l1 l2:List Nat}{i:Nat}(h:Gp kd (l1++i::l2)):Gp kd (l1++l2):=by
 intro m1 j m2 e hj x hx
 by_cases hlt:m1.length<l1.length
 ·have e1:l1=m1++j::(m2.take (l1.length-m1.length-1)):=by
   have:=congrArg (List.take l1.length) e
   rw[List.take_left,List.take_append,za (by omega)]at this
   rw[this]
   congr 1
   obtain⟨n,hn⟩:∃n,l1.length-m1.length=n+1:=⟨l1.length-m1.length-1,zO⟩
   rw[hn];simp
  have e2:l2=m2.drop (l1.length-m1.length-1):=by
   have:=congrArg (List.drop l1.length) e
   rw[List.drop_left,List.drop_append]at this
   rw[this,List.drop_of_length_le zO,zl]
   obtain⟨n,hn⟩:∃n,l1.length-m1.length=n+1:=⟨l1.length-m1.length-1,zO⟩
   rw[hn];simp
  refine h m1 j (m2.take (l1.length-m1.length-1)++i::l2) (by rw[e1];simp[List.append_assoc]) hj x ?_
  have hx':x∈m2.take (l1.length-m1.length-1)++m2.drop (l1.length-m1.length-1):=by rw[List.take_append_drop];exact hx
  rw[← e2]at hx'
  simp only[zi,ze]at hx' ⊢
  rcases hx' with hx'|hx'
  ·exact .inl hx'
  ·exact .inr<|.inr hx'
 ·have e2:l2=m1.drop l1.length++j::m2:=by
   have:=congrArg (List.drop l1.length) e
   rw[List.drop_left,List.drop_append_of_le_length (by omega)]at this
   exact this
  exact h (l1++i::m1.drop l1.length) j m2 (by rw[e2];simp) hj x hx
def Yv (P:Program)(ops:Array Oper)(w0:World)(k:Nat)(o:Oper)(a:Act)(w:World)(v:Value):Prop :=
 (Region.wanted o (yielded ops a.tmps)=true∧∀w',Cl w0 w k w'→YA P o a w' v)∨(Region.wanted o (yielded ops a.tmps)=false∧v=undef)
theorem Cl.self {w0 w:World}{k:Nat}(h:k=1→Az w0 w):Cl w0 w k w:=by
 match k,h with
 |0,_=>exact trivial
 |1,h=>exact h rfl
 |_+2,_=>exact Az.refl w
theorem Yv.unique {w0 w:World}{k:Nat}{o:Oper}{a:Act}{v u:Value}(hk:k=1→Az w0 w)(h:Yv P ops w0 k o a w v)(h':Yv P ops w0 k o a w u):v=u:=by
 rcases h with⟨h1,h2⟩|⟨h1,h2⟩ <;> rcases h' with⟨g1,g2⟩|⟨g1,g2⟩
 ·exact (h2 w<|Cl.self hk).unique<|g2 w<|Cl.self hk
 ·rw[h1]at g1;cases g1
 ·rw[h1]at g1;cases g1
 ·rw[h2,g2]
theorem Yv.apart {w0 w:World}{k:Nat}{o:Oper}(hs:∀cs b,o.op≠.select cs b){a:Act}{d:Option Tmp}{u v:Value}
  (h1:∀x,d=some x→x∉o.looksAt ops):Yv P ops w0 k o (a.put d u) w v↔Yv P ops w0 k o a w v:=by
 unfold Yv
 rw[wanted_put (ops:=ops) o a d u h1]
 simp only[YA.apart (ops:=ops) (P:=P) hs h1]
theorem Yv.defers {w0 w:World}{k:Nat}{o:Oper}{a:Act}{l:List Deferred}{v:Value}:Yv P ops w0 k o { a with defers:=l } w v↔Yv P ops w0 k o a w v:=by
 have he:Act.eval { a with defers:=l }=Act.eval a:=funext fun x=>by cases x <;> rfl
 unfold Yv YA
 rw[he]
def Fw (a:Act)(d:Option Tmp)(a':Act):Prop:=∃u,a'=a.put d u∨∃x,a'=({ a with defers:=x::a.defers }:Act).put d u
theorem CK {o:Oper}{a:Act}{w:World}{K:Act→World→Prop}{Q:Exit→Act→World→Prop}(h:o.wp P a w K Q) :
  o.wp P a w (fun a' w'=>K a' w'∧Fw a o.dst a') Q:=by
 unfold Oper.wp at *
 generalize (execOp a.eval o).run P w=r at *
 cases r with
 |ok n w' =>
  cases n <;> simp only[Oper.upon]at h ⊢
  case value u=>exact⟨h,u,.inl rfl⟩
  case skip=>exact⟨h,undef,.inl rfl⟩
  case defer dd=>exact⟨h,undef,.inr ⟨dd,rfl⟩⟩
  case enter f args =>
   refine Calls.mono h fun e w'' he=>?_
   cases e with
   |returned u=>exact⟨he,u,.inl rfl⟩
   |panicked c=>exact he
   |outgrown=>exact he
  case row row args=>exact Rows.mono h (fun u w'' he=>⟨he,u,.inl rfl⟩)
 |halt x w'=>cases x <;> simp only[Oper.upon]at h ⊢;exact h
theorem Yv.shape {w0 w:World}{k:Nat}{o:Oper}(hs:∀cs b,o.op≠.select cs b){a a':Act}{d:Option Tmp}{v:Value}
  (h1:∀x,d=some x→x∉o.looksAt ops) (h:Fw a d a'):Yv P ops w0 k o a' w v↔Yv P ops w0 k o a w v:=by
 obtain⟨u,rfl|⟨x,rfl⟩⟩:=h
 ·exact Yv.apart hs h1
 ·rw[Yv.apart hs h1];exact Yv.defers
theorem Cs {o:Oper}{a a':Act}{d:Option Tmp}(h1:∀x,d=some x→x∉o.looksAt ops)(h:Fw a d a') :
  Region.wanted o (yielded ops a'.tmps)=Region.wanted o (yielded ops a.tmps):=by
 obtain⟨u,rfl|⟨x,rfl⟩⟩:=h
 ·exact wanted_put o a d u h1
 ·rw[wanted_put o _ d u h1]
section main
variable {kd bs:Nat→Nat} {w0:World} {Q:Act→World→Prop}
theorem L6 {ki kj:Nat}(h:BA ki kj=true)(hk:ki=3):kj≤1:=by simp[BA]at h;omega
theorem L7 {ki kj:Nat}(h:BA ki kj=true)(hk:4≤ki):kj=0:=by simp[BA]at h;omega
theorem KD {ki kj:Nat}(h:BA ki kj=true)(hk:3≤kj):ki≤2∧(4≤kj→ki=0):=by simp[BA]at h;omega
theorem DJ (hsel:∀(j:Nat)(o:Oper) cs b,ops[j]? = some o→o.op≠.select cs b){j:Nat}{oj:Oper}(hj:ops[j]? = some oj)(hk:kd j≤2) :
  ∀(l1 l2:List Nat) (a:Act) (w:World),(∀i∈l1,∀oi,ops[i]? = some oi→oi.apart ops oj=true∧BA (kd i) (kd j)=true)→(kd j=1→Az w0 w) →
   LI P ops kd w0 Q (l1++j::l2) a w→∃v,Yv P ops w0 (kd j) oj a w v∧LI P ops kd w0 Q (l1++l2) (a.put oj.dst v) w
 |[],l2,a,w,_,_,h=>by
  simp only[zl,LI,hj]at h ⊢
  split at h
  ·rename_i hw
   unfold B9 at h
   rw[if_pos hk]at h
   obtain⟨v,h1,h2⟩:=h
   exact⟨v,.inl ⟨hw,h1⟩,h2⟩
  ·rename_i hw
   exact⟨undef,.inr ⟨by simpa using hw,rfl⟩,h⟩
 |i::l1,l2,a,w,hl,hx,h=>by
  have hi:=hl i (z0 ..)
  have hl':∀x∈l1,∀ox,ops[x]? = some ox→ox.apart ops oj=true∧BA (kd x) (kd j)=true:=fun x hx=>hl x (z3 _ hx)
  simp only[List.cons_append,LI]at h ⊢
  cases hoi:ops[i]? with
  |none=>rw[hoi]at h;exact h.elim
  |some oi =>
   rw[hoi]at h
   simp only at h ⊢
   obtain⟨hap,hok⟩:=hi oi hoi
   obtain⟨p1,p2,p3⟩:=Oper.apart_spec hap
   have p2':∀d,oj.dst=some d→oi.dst≠some d:=fun d hd he=>p2 d he hd
   have si:=fun cs b=>hsel i oi cs b hoi
   have sj:=fun cs b=>hsel j oj cs b hj
   by_cases hw:Region.wanted oi (yielded ops a.tmps)=true
   ·rw[if_pos hw]at h
    unfold B9 at h
    by_cases hki:kd i≤2
    ·rw[if_pos hki]at h
     obtain⟨vi,hy,h⟩:=h
     obtain⟨v,h1,h2⟩:=DJ hsel hj hk l1 l2 (a.put oi.dst vi) w hl' hx h
     refine⟨v,(Yv.apart sj p1).1 h1,?_⟩
     rw[wanted_put oi a oj.dst v p3,if_pos hw]
     unfold B9
     rw[if_pos hki]
     refine⟨vi,fun w' hc=>(YA.apart (ops:=ops) si p3).2 (hy w' hc),?_⟩
     rw[Act.put_comm a v vi p2']
     exact h2
    ·rw[if_neg hki]at h
     have gen:∀(G:World→Prop),(∀w',G w'→kd j=1→Az w0 w')→(kd j=2→False) →
       oi.wp P a w (fun a' w'=>G w'∧LI P ops kd w0 Q (l1++j::l2) a' w') (NQ fun _ _=>False) →
       ∃v,Yv P ops w0 (kd j) oj a w v∧oi.wp P (a.put oj.dst v) w (fun a' w'=>G w'∧LI P ops kd w0 Q (l1++l2) a' w') (NQ fun _ _=>False):=by
      intro G hG hn2 hh
      have hcl:∀w1 w2,Cl w0 w1 (kd j) w2→Cl w0 w (kd j) w2:=by
       intro w1 w2 hc
       match hkj:kd j,hk,hn2 with
       |0,_,_=>trivial
       |1,_,_=>rw[hkj]at hc;exact hc
       |2,_,hn=>exact(hn rfl).elim
       |_+3,hle,_=>omega
      have hcl':∀w1 w2,Cl w0 w (kd j) w2→Cl w0 w1 (kd j) w2:=by
       intro w1 w2 hc
       match hkj:kd j,hk,hn2 with
       |0,_,_=>trivial
       |1,_,_=>rw[hkj]at hc;exact hc
       |2,_,hn=>exact(hn rfl).elim
       |_+3,hle,_=>omega
      have hs:=CK hh
      have step:∀a' w',((G w'∧LI P ops kd w0 Q (l1++j::l2) a' w')∧Fw a oi.dst a') →
        ∃v,Yv P ops w0 (kd j) oj a w v∧LI P ops kd w0 Q (l1++l2) (a'.put oj.dst v) w':=by
       rintro a' w' ⟨⟨hg,hL⟩,hsh⟩
       obtain⟨v,h1,h2⟩:=DJ hsel hj hk l1 l2 a' w' hl' (hG w' hg) hL
       have h1':=(Yv.shape sj p1 hsh).1 h1
       refine⟨v,?_,h2⟩
       rcases h1' with⟨q1,q2⟩|⟨q1,q2⟩
       ·exact .inl ⟨q1,fun w2 hc=>q2 w2<|hcl' w' w2 hc⟩
       ·exact .inr ⟨q1,q2⟩
      obtain⟨v,hv⟩:∃v,Yv P ops w0 (kd j) oj a w v:=by
       obtain⟨u,w',hK|⟨d,hK⟩⟩:=GF hs
       ·obtain⟨v,h1,_⟩:=step _ _ hK;exact⟨v,h1⟩
       ·obtain⟨v,h1,_⟩:=step _ _ hK;exact⟨v,h1⟩
      refine⟨v,hv,Et (ops:=ops) si p3 p2' ?_⟩
      refine Oper.wp_mono (fun a' w' hK=>?_) hs
      obtain⟨v',h1,h2⟩:=step a' w' hK
      have:v'=v:=h1.unique hx hv
      subst this
      exact⟨hK.1.1,h2⟩
     by_cases h3:kd i=3
     ·rw[if_pos h3]at h
      have hj1:=L6 hok h3
      obtain⟨v,hv,hwp⟩:=gen (fun w'=>Az w w') (fun w' hg h1=>(hx h1).trans hg) (fun h2=>by omega) h
      refine⟨v,hv,?_⟩
      rw[wanted_put oi a oj.dst v p3,if_pos hw]
      unfold B9
      rw[if_neg hki,if_pos h3]
      exact hwp
     ·rw[if_neg h3]at h
      have hj0:=L7 hok zO
      obtain⟨v,hv,hwp⟩:=gen (fun _=>True) (fun w' _ h1=>by omega) (fun h2=>by omega) (Oper.wp_mono (fun a w hh=>⟨trivial,hh⟩) h)
      refine⟨v,hv,?_⟩
      rw[wanted_put oi a oj.dst v p3,if_pos hw]
      unfold B9
      rw[if_neg hki,if_neg h3]
      exact Oper.wp_mono (fun a w hh=>hh.2) hwp
   ·rw[if_neg hw]at h
    obtain⟨v,h1,h2⟩:=DJ hsel hj hk l1 l2 (a.put oi.dst undef) w hl' hx h
    refine⟨v,(Yv.apart sj p1).1 h1,?_⟩
    rw[wanted_put oi a oj.dst v p3,if_neg hw,Act.put_comm a v undef p2']
    exact h2
theorem Eu (hsel:∀(j:Nat)(o:Oper) cs b,ops[j]? = some o→o.op≠.select cs b){j:Nat}{oj:Oper}(hj:ops[j]? = some oj)(hk:3≤kd j) :
  ∀(l1 l2:List Nat) (a:Act) (w:World),(∀i∈l1,∀oi,ops[i]? = some oi→oi.apart ops oj=true∧BA (kd i) (kd j)=true)→LI P ops kd w0 Q (l1++j::l2) a w →
   (Region.wanted oj (yielded ops a.tmps)=true→oj.wp P a w (fun a' w'=>(kd j=3→Az w w')∧LI P ops kd w0 Q (l1++l2) a' w') (NQ fun _ _=>False)) ∧
   (Region.wanted oj (yielded ops a.tmps)=false→LI P ops kd w0 Q (l1++l2) (a.put oj.dst undef) w)
 |[],l2,a,w,_,h=>by
  simp only[zl,LI,hj]at h ⊢
  refine⟨fun hw=>?_,fun hw=>?_⟩
  ·rw[if_pos hw]at h
   unfold B9 at h
   rw[if_neg (by omega)]at h
   split at h
   ·exact Oper.wp_mono (fun _ _ hh=>⟨fun _=>hh.1,hh.2⟩) h
   ·rename_i h3;exact Oper.wp_mono (fun _ _ hh=>⟨fun h'=>(h3 h').elim,hh⟩) h
  ·rw[if_neg (by simp[hw])]at h;exact h
 |i::l1,l2,a,w,hl,h=>by
  have hi:=hl i (z0 ..)
  have hl':∀x∈l1,∀ox,ops[x]? = some ox→ox.apart ops oj=true∧BA (kd x) (kd j)=true:=fun x hx=>hl x (z3 _ hx)
  simp only[List.cons_append,LI]at h ⊢
  cases hoi:ops[i]? with
  |none=>rw[hoi]at h;exact h.elim
  |some oi =>
   rw[hoi]at h
   simp only at h ⊢
   obtain⟨hap,hok⟩:=hi oi hoi
   obtain⟨p1,p2,p3⟩:=Oper.apart_spec hap
   have p2':∀d,oj.dst=some d→oi.dst≠some d:=fun d hd he=>p2 d he hd
   have si:=fun cs b=>hsel i oi cs b hoi
   have sj:=fun cs b=>hsel j oj cs b hj
   obtain⟨hki,hk4⟩:=KD hok hk
   by_cases hw:Region.wanted oi (yielded ops a.tmps)=true
   ·rw[if_pos hw]at h
    unfold B9 at h
    rw[if_pos hki]at h
    obtain⟨vi,hy,h⟩:=h
    obtain⟨g1,g2⟩:=Eu hsel hj hk l1 l2 (a.put oi.dst vi) w hl' h
    rw[wanted_put oj a oi.dst vi p1]at g1 g2
    refine⟨fun hwj=>?_,fun hwj=>?_⟩
    ·have g:=DI (ops:=ops) (Q:=fun _ _=>False) sj p1 p2<|g1 hwj
     refine Oper.wp_mono (fun a' w' hK=>?_)<|CK g
     obtain⟨⟨hE,hL⟩,hsh⟩:=hK
     refine⟨hE,?_⟩
     rw[Cs p3 hsh,if_pos hw]
     unfold B9
     rw[if_pos hki]
     refine⟨vi,fun w'' hc=>?_,hL⟩
     have hya:YA P oi a w'' vi:=by
      refine hy w'' ?_
      match hki':kd i,hki,hk4 with
      |0,_,_=>trivial
      |1,_,_=>rw[hki']at hc;exact hc
      |2,_,h4=>rw[hki']at hc;exact(hE (by have:¬4≤kd j:=(fun hh=>by have:=h4 hh;omega);omega)).trans hc
      |_+3,hle,_=>omega
     have he:∀b,YA P oi b w'' vi↔YR P ((execOp b.eval oi).run P w'') w'' vi:=fun _=>Iff.rfl
     obtain⟨u,rfl|⟨x,rfl⟩⟩:=hsh
     ·exact (YA.apart (ops:=ops) si p3).2 hya
     ·refine (YA.apart (ops:=ops) si p3).2 ?_
      have hee:Act.eval { a with defers:=x::a.defers }=Act.eval a:=funext fun y=>by cases y <;> rfl
      rw[he,hee,← he];exact hya
    ·rw[wanted_put oi a oj.dst undef p3,if_pos hw]
     unfold B9
     rw[if_pos hki]
     refine⟨vi,fun w' hc=>(YA.apart (ops:=ops) si p3).2 (hy w' hc),?_⟩
     rw[Act.put_comm a undef vi p2']
     exact g2 hwj
   ·rw[if_neg hw]at h
    obtain⟨g1,g2⟩:=Eu hsel hj hk l1 l2 (a.put oi.dst undef) w hl' h
    rw[wanted_put oj a oi.dst undef p1]at g1 g2
    refine⟨fun hwj=>?_,fun hwj=>?_⟩
    ·have g:=DI (ops:=ops) (Q:=fun _ _=>False) sj p1 p2<|g1 hwj
     refine Oper.wp_mono (fun a' w' hK=>?_)<|CK g
     obtain⟨⟨hE,hL⟩,hsh⟩:=hK
     refine⟨hE,?_⟩
     rw[Cs p3 hsh,if_neg hw]
     exact hL
    ·rw[wanted_put oi a oj.dst undef p3,if_neg hw,Act.put_comm a undef undef p2']
     exact g2 hwj
end main
end
end
section
section
variable {P:Program} {ops:Array Oper} {md:Region.Mode} {kd bs:Nat→Nat} {w0:World} {Q:Act→World→Prop}
theorem Eo {o:Oper}{a:Act}{w:World}{K:Act→World→Prop}{Q':Exit→Act→World→Prop}(h:o.wp P a w K (NQ fun _ _=>False)):o.wp P a w K Q':=by
 unfold Oper.wp at *
 generalize (execOp a.eval o).run P w=r at *
 cases r with
 |ok n w' =>
  cases n <;> simp only[Oper.upon]at h ⊢ <;> try exact h
  case enter f args =>
   refine Calls.mono h fun e w'' he=>?_
   cases e with
   |returned u=>exact he
   |panicked c=>exact he.elim
   |outgrown=>obtain⟨_,_,hf⟩:=he;exact hf.elim
 |halt x w'=>cases x <;> simp only[Oper.upon]at h ⊢;exact h.elim
theorem Ev {o:Oper}{a:Act}{w:World}{v:Value}{K:Act→World→Prop}{Q':Exit→Act→World→Prop}(h:YA P o a w v)(hK:K (a.put o.dst v) w):o.wp P a w K Q':=by
 unfold Oper.wp
 unfold YA at h
 rcases h with h|⟨h,rfl⟩|⟨f,args,h,hc⟩ <;> rw[h]
 ·exact hK
 ·exact hK
 ·exact Calls.mono hc fun e w' he=>by
   obtain⟨rfl,rfl⟩:=he
   exact hK
def Ew (bs:Nat→Nat)(listed:Array Bool):Prop:=∀i,listed.getD i false=true→∀j,(bs i).testBit j=true→listed.getD j false=true
theorem Dw {l:Array Bool}{i:Nat}(h:l.getD i true=false):l.getD i false=false:=by
 by_cases hi:i<l.size
 ·simpa [hi]using h
 ·simp[hi]at h
def Ey (md:Region.Mode)(ops:Array Oper)(kd bs:Nat→Nat)(x y:Nat):Prop :=
 (∀ox oy,ops[x]? = some ox→ops[y]? = some oy→(bs y).testBit x=true∨(ox.apart ops oy=true∧BA (kd x) (kd y)=true)) ∧
 (∀ox,ops[x]? = some ox→∀e∈ox.after,Region.binds md e=true→e.on≠y)
section lists
variable {l1 l2:List Nat} {i:Nat} {listed:Array Bool}
theorem Ez (hz:listed.size=ops.size){l:List Nat}(hm:∀x,x∈i::l↔listed.getD x true=false)(hself:∀x ox,ops[x]? = some ox→∀e∈ox.after,Region.binds md e=true→e.on<x)
  (hs:∀y∈l,∀ox,ops[i]? = some ox→∀e∈ox.after,Region.binds md e=true→e.on≠y):i∈Region.ready md ops listed:=by
 have hil:=(hm i).1 (z0 ..)
 have hlt:i<ops.size:=by
  rw[← hz]
  rcases Nat.lt_or_ge i listed.size with h'|h'
  ·exact h'
  ·simp[Array.getElem?_eq_none h']at hil
 refine mem_ready.2 ⟨hil,ops[i],by simp[hlt],fun e he hb=>?_⟩
 have hlt':=hself i ops[i] (by simp[hlt]) e he hb
 have hnot:e.on∉i::l:=by
  intro hmem
  rcases ze.1 hmem with hh|hh
  ·omega
  ·exact hs _ hh ops[i] (by simp[hlt]) e he hb rfl
 have:listed.getD e.on true=true:=by
  cases hb':listed.getD e.on true with
  |true=>rfl
  |false=>exact absurd ((hm e.on).2 hb') hnot
 have hlt2:e.on<listed.size:=by omega
 simpa [hlt2]using this
theorem Fx (hm:∀x,x∈l1++i::l2↔listed.getD x true=false)(hnd:i∉l1++l2)(hsz:i<listed.size):∀x,x∈l1++l2↔(listed.setIfInBounds i true).getD x true=false:=by
 intro x
 by_cases hxi:x=i
 ·subst hxi
  constructor
  ·exact fun hh=>absurd hh hnd
  ·intro hh;simp[hsz]at hh
 ·rw[getD_set_ne true (Ne.symm hxi),← hm x]
  simp only[zi,ze]
  constructor
  ·exact fun hh=>hh.elim .inl fun y=>.inr<|.inr y
  ·exact fun hh=>hh.elim .inl fun y=>y.elim (fun z=>absurd z hxi) .inr
theorem EA (hc:Ew bs listed)(hbits:∀j,(bs i).testBit j=true→listed.getD j false=true):Ew bs (listed.setIfInBounds i true):=by
 intro x hx j hj
 by_cases hxi:x=i
 ·subst hxi;exact getD_set_true (hbits j hj)
 ·rw[getD_set_ne false (Ne.symm hxi)]at hx;exact getD_set_true (hc x hx j hj)
theorem Dv (hS:Hv md ops bs)(hc:Ew bs listed){oi:Oper}(hoi:ops[i]? = some oi)(hall:∀e∈oi.after,Region.binds md e=true→listed.getD e.on false=true):∀j,(bs i).testBit j=true→listed.getD j false=true:=by
 intro j hj
 obtain⟨e,he,hb,hh⟩:=hS i oi hoi j hj
 have hl:=hall e he hb
 rcases hh with rfl|hh
 ·exact hl
 ·exact hc e.on hl j hh
theorem Ef {oi:Oper}(hoi:ops[i]? = some oi)(hp:∀x∈l1,(∀ox oy,ops[x]? = some ox→ops[i]? = some oy→(bs i).testBit x=true∨(ox.apart ops oy=true∧BA (kd x) (kd i)=true)))
  (hm:∀x∈l1,listed.getD x true=false) (hbits:∀j,(bs i).testBit j=true→listed.getD j false=true):∀x∈l1,∀ox,ops[x]? = some ox→ox.apart ops oi=true∧BA (kd x) (kd i)=true:=by
 intro x hx ox hox
 rcases hp x hx ox oi hox hoi with hb|hb
 ·have h1:=hbits x hb
  have h2:=Dw<|hm x hx
  rw[h1]at h2;cases h2
 ·exact hb
theorem C9 (h:listed.getD i true=false):i<listed.size:=by
 rcases Nat.lt_or_ge i listed.size with h'|h'
 ·exact h'
 ·simp[Array.getElem?_eq_none h']at h
end lists
theorem CL (hsel:∀(j:Nat)(o:Oper) cs b,ops[j]? = some o→o.op≠.select cs b)(hS:Hv md ops bs)
  (hlex:∀j oj,ops[j]? = some oj→∀e∈oj.after,Region.binds md e=true→e.on<j) :
  ∀(n:Nat) (l:List Nat) (listed:Array Bool) (a:Act) (w:World),l.length=n→l.Pairwise (Ey md ops kd bs)→l.Nodup→listed.size=ops.size →
   (∀i,i∈l↔listed.getD i true=false)→Ew bs listed→Gp kd l→Gn kd w0 w l→LI P ops kd w0 Q l a w→wpAny P md ops (NQ Q) n listed a w
 |0,l,listed,a,w,hn,_,_,_,hm,_,_,_,h=>by
  have hl:l=[]:=List.eq_nil_of_length_eq_zero hn
  subst hl
  refine⟨?_,h⟩
  cases hr:Region.ready md ops listed with
  |nil=>rfl
  |cons x xs =>
   have:=(mem_ready.1 (by rw[hr];exact z0 ..:x∈Region.ready md ops listed)).1
   exact absurd ((hm x).2 this) (by simp)
 |n+1,l,listed,a,w,hn,hs,hd,hz,hm,hc,h14,hi1,h=>by
  refine⟨fun h0=>?_,fun i hi=>?_⟩
  ·exfalso
   match l,hn with
   |i::l,hn =>
    have hready:=Ez (md:=md) hz hm hlex fun y hy ox hox=>((List.pairwise_cons.1 hs).1 y hy).2 ox hox
    rw[h0]at hready
    cases hready
  ·obtain⟨hun,oi,hoi,hall⟩:=mem_ready.1 hi
   obtain⟨l1,l2,rfl⟩:=List.append_of_mem ((hm i).2 hun)
   have hbits:=Dv hS hc hoi hall
   have hpi:∀x∈l1,Ey md ops kd bs x i:=fun x hx=>(List.pairwise_append.1 hs).2.2 x hx i (z0 ..)
   have hfree:=Ef (kd:=kd) (l1:=l1) hoi (fun x hx=>(hpi x hx).1) (fun x hx=>(hm x).1 (z8 _ hx)) hbits
   have hsz:=C9 hun
   have hsub0:(l1++l2).Sublist (l1++i::l2):=List.Sublist.append_left (List.sublist_cons_self _ _) _
   have hnd:i∉l1++l2:=by
    have h1:=List.nodup_append.1 hd
    intro hmem
    rcases zi.1 hmem with hh|hh
    ·exact h1.2.2 i hh i (z0 ..) rfl
    ·exact (List.nodup_cons.1 h1.2.1).1 hh
   have hn':(l1++l2).length=n:=by simp at hn ⊢;omega
   have rec_:∀a' w',Gn kd w0 w' (l1++l2)→LI P ops kd w0 Q (l1++l2) a' w'→wpAny P md ops (NQ Q) n (listed.setIfInBounds i true) a' w':=fun a' w' hi' hL =>
    CL hsel hS hlex n (l1++l2) _ a' w' hn' (hs.sublist hsub0) (hd.sublist hsub0) (by simpa using hz) (Fx hm hnd hsz) (EA hc hbits) (Gp.erase h14) hi' hL
   have hsub:Gn kd w0 w (l1++l2):=fun⟨j,hj,hk⟩=>hi1 ⟨j,hsub0.subset hj,hk⟩
   by_cases hk:kd i≤2
   ·obtain⟨v,hv,hL⟩:=DJ hsel hoi hk l1 l2 a w hfree (fun h1=>hi1 ⟨i,by simp,h1⟩) h
    unfold wpOp
    rw[hoi]
    rcases hv with⟨hw,hy⟩|⟨hw,rfl⟩
    ·simp only[hw,if_true]
     exact .inl<|Ev (hy w (Cl.self fun h1=>hi1 ⟨i,by simp,h1⟩))<|rec_ _ _ hsub hL
    ·simp only[hw,Bool.false_eq_true,if_false]
     exact rec_ _ _ hsub hL
   ·obtain⟨g1,g2⟩:=Eu hsel hoi zO l1 l2 a w hfree h
    unfold wpOp
    rw[hoi]
    by_cases hw:Region.wanted oi (yielded ops a.tmps)=true
    ·simp only[hw,if_true]
     refine .inl<|Oper.wp_mono (fun a' w' hK=>rec_ a' w' ?_ hK.2)<|Eo<|g1 hw
     rintro⟨j,hj,hkj⟩
     by_cases h3:kd i=3
     ·exact (hsub ⟨j,hj,hkj⟩).trans<|hK.1 h3
     ·exfalso
      rcases zi.1 hj with hh|hh
      ·obtain⟨oj,hoj⟩:∃oj,ops[j]? = some oj:=by
        have:=C9 ((hm j).1 (z8 _ hh))
        exact⟨ops[j]'(by omega),by simp[show j<ops.size by omega]⟩
       have:=(KD (hfree j hh oj hoj).2 zO).2 zO
       omega
      ·exact h14 l1 i l2 rfl zO j hh hkj
    ·simp only[hw,Bool.false_eq_true,if_false]
     exact rec_ _ _ hsub<|g2 (by simpa using hw)
def Lp (i j:Nat)(l1 l2:List Nat):Prop:=∃A M C,l1=A++i::(M++j::C)∧l2=A++(M++j::i::C)
theorem D7 (ks:List Nat):∀(os:List Oper)(k:Nat)(a:Act)(w:World),(∀j,os[j]? = ops[k+j]?) →
  LW P ops w0 Q os (ks.drop k) a w→LI P ops (fun i=>ks.getD i 0) w0 Q (List.range' k os.length) a w
 |[],_,_,_,_,h=>by simpa [LI,LW]using h
 |o::os,k,a,w,ho,h=>by
  have h0:ops[k]? = some o:=by simpa using (ho 0).symm
  have hr:∀a w,LW P ops w0 Q os (ks.drop (k+1)) a w→LI P ops (fun i=>ks.getD i 0) w0 Q (List.range' (k+1) os.length) a w:=fun a w hh =>
   D7 ks os (k+1) a w (fun j=>by have:=ho (j+1);simpa [Nat.add_assoc,Nat.add_comm 1 j]using this) hh
  have hlt:k<ks.length:=by
   rcases Nat.lt_or_ge k ks.length with hh|hh
   ·exact hh
   ·rw[List.drop_of_length_le hh]at h;exact h.elim
  have hd:ks.drop k=ks[k]::ks.drop (k+1):=List.drop_eq_getElem_cons hlt
  rw[hd]at h
  simp only[z9,List.range'_succ,LI,h0,LW]at h ⊢
  have hg:ks.getD k 0=ks[k]:=by simp[hlt]
  split
  ·rename_i hw
   rw[if_pos hw]at h
   rw[hg]
   exact h.mono hr
  ·rename_i hw
   rw[if_neg hw]at h
   exact hr _ _ h
def KE (ops:Array Oper)(ks:List Nat):Bool :=
  let b:=(Region.before ops).toList
  let os:=ops.toList
  Region.noSelect ops &&
  (os.zipIdx.all fun(o,j) =>
    (o.after.all fun e=>!Region.binds .any e || decide (e.on<j)) &&
    (let m:=o.after.foldl (fun s e=>if Region.binds .any e then s ||| 2 ^ e.on ||| b.getD e.on 0 else s) 0
     (b.getD j 0 == m)) &&
    (os.zipIdx.all fun(p,i)=>!(decide (i<j)) || (b.getD j 0).testBit i || (p.apart ops o && BA (ks.getD i 0) (ks.getD j 0)))) &&
  (os.zipIdx.all fun(_,i)=>!(decide (4≤ks.getD i 0)) || os.zipIdx.all fun(_,j)=>!(decide (i<j)) || ks.getD j 0 != 1)
theorem Dx (f:Edge→Nat):∀(l:List Edge)(s:Nat)(i:Nat),(l.foldl (fun s e=>if Region.binds .any e then s ||| 2 ^ e.on ||| f e else s) s).testBit i=true →
  s.testBit i=true∨∃e∈l,Region.binds .any e=true∧(i=e.on∨(f e).testBit i=true)
 |[],s,i,h=>.inl h
 |e::l,s,i,h=>by
  rcases Dx f l _ i h with h|⟨x,hx,hb⟩
  ·dsimp only at h
   split at h
   ·rename_i hb
    simp only[Nat.testBit_or,Bool.or_eq_true]at h
    rcases h with(h|h)|h
    ·exact .inl h
    ·refine .inr ⟨e,z0 ..,hb,.inl ?_⟩
     simp[Nat.testBit_two_pow]at h
     exact h.symm
    ·exact .inr ⟨e,z0 ..,hb,.inr h⟩
   ·exact .inl h
  ·exact .inr ⟨x,z3 _ hx,hb⟩
theorem EB {os:List Oper}{Q:Exit→Act→World→Prop}:∀(n:Nat)(listed:Array Bool)(a:Act)(w:World),wpAny P .any os.toArray (NQ fun a w=>Q .normal a w) n listed a w→wpAny P .any os.toArray Q n listed a w:=by
 intro n
 induction n with
 |zero=>exact fun listed a w h=>h
 |succ n ih =>
  intro listed a w h
  refine⟨h.1,fun i hi=>?_⟩
  have:=wpOp_mono (fun a w=>ih _ a w) (h.2 i hi)
  unfold wpOp at this ⊢
  split
  ·rename_i ho;rw[ho]at this;exact this
  ·rename_i o ho
   rw[ho]at this
   split
   ·rename_i hw
    simp only[hw,if_true]at this
    rcases this with this|⟨_,_,_,hf⟩
    ·left
     unfold Oper.wp at *
     generalize (execOp a.eval o).run P w=r at *
     cases r with
     |ok m w' =>
      cases m <;> simp only[Oper.upon]at this ⊢ <;> try exact this
      case enter f args =>
       refine Calls.mono this fun e w'' he=>?_
       cases e with
       |returned u=>exact he
       |panicked c=>exact he.elim
       |outgrown=>obtain⟨_,_,hf⟩:=he;exact hf.elim
     |halt x w'=>cases x <;> simp only[Oper.upon]at this ⊢;exact this.elim
    ·exact hf.elim
   ·rename_i hw
    simp only[hw]at this
    exact this
theorem DK {md:Region.Mode}(hF:Jn ops kd bs)(hlex:∀j oj,ops[j]? = some oj→∀e∈oj.after,Region.binds md e=true→e.on<j){l:List Nat}(h:l.Pairwise (· < ·)):l.Pairwise (Ey md ops kd bs) :=
 h.imp fun {x y} hxy=>⟨fun ox oy hox hoy=>hF x y ox oy hxy hox hoy,fun ox hox e he hb=>by have:=hlex x ox hox e he hb;omega⟩
theorem Bd {id:Nat}{Q:Exit→Act→World→Prop}{a:Act}{w:World}(os:List Oper)(ks:List Nat)(hm:P.follows .mixedOrders=true)(hB:KE os.toArray ks=true)
  (h:LW P os.toArray w.drew (fun a w=>Q .normal a w) os ks a w.drew):(Code.region id os.toArray true).wp P Q a w:=by
 refine wp_region_any hm ?_
 simp only[KE,z7]at hB
 obtain⟨⟨hsel,hpl⟩,h14⟩:=hB
 have hz:∀ {j:Nat} {o:Oper},os.toArray[j]? = some o→(o,j)∈os.toArray.toList.zipIdx:=by
  intro j o ho
  rw[List.mem_zipIdx_iff_getElem?]
  simpa using ho
 have hall:∀j oj,os.toArray[j]? = some oj→_:=fun j oj hj=>zm.1 hpl _ (hz hj)
 have hF:Jn os.toArray (fun i=>ks.getD i 0) (fun j=>(Region.before os.toArray).toList.getD j 0):=by
  intro i j oi oj hij hi hj
  have h3:=(z7 _ _ ▸ hall j oj hj:_∧_).2
  have h4:=zm.1 h3 _<|hz hi
  simp only[Bool.or_eq_true,Bool.not_eq_true',decide_eq_false_iff_not,z7]at h4
  rcases h4 with(h4|h4)|h4
  ·exact absurd hij h4
  ·exact .inl h4
  ·exact .inr h4
 have hlex:∀j oj,os.toArray[j]? = some oj→∀e∈oj.after,Region.binds .any e=true→e.on<j:=by
  intro j oj hj e he hb
  have h1:=(z7 _ _ ▸ (z7 _ _ ▸ hall j oj hj:_∧_).1:_∧_).1
  have h2:=(Array.all_eq_true_iff_forall_mem.1 h1) e he
  simpa [hb]using h2
 have key:=CL (P:=P) (ops:=os.toArray) (md:=.any) (kd:=fun i=>ks.getD i 0) (bs:=fun j=>(Region.before os.toArray).toList.getD j 0) (w0:=w.drew) (Q:=fun a w=>Q .normal a w)
  (Region.noSelect_spec hsel) ?_ ?_ os.length (List.range' 0 os.length) (Array.replicate os.length false) a w.drew (by simp) ?_ List.nodup_range' (by simp) ?_ ?_ ?_ (fun _=>Az.refl _) ?_
 ·have:=EB _ _ _ _ key
  simpa using this
 ·intro j oj hj i hb
  have h3:=(z7 _ _ ▸ (z7 _ _ ▸ hall j oj hj:_∧_).1:_∧_).2
  have h5:(Region.before os.toArray).toList.getD j 0=oj.after.foldl (fun s e=>if Region.binds .any e then s ||| 2 ^ e.on ||| (Region.before os.toArray).toList.getD e.on 0 else s) 0:=by simpa using h3
  dsimp only at hb
  rw[h5,← Array.foldl_toList]at hb
  rcases Dx _ _ _ _ hb with hb|⟨e,he,hbb,hh⟩
  ·simp at hb
  ·exact⟨e,Array.mem_toList_iff.1 he,hbb,hh⟩
 ·exact hlex
 ·exact DK hF hlex List.pairwise_lt_range'
 ·intro i
  simp only[List.mem_range',Nat.zero_add,Nat.one_mul]
  constructor
  ·rintro⟨x,hx,rfl⟩;simp[hx]
  ·intro hh
   rcases Nat.lt_or_ge i os.length with h'|h'
   ·exact⟨i,h',rfl⟩
   ·simp[Array.getElem?_eq_none (show(Array.replicate os.length false).size≤i by simpa using h')]at hh
 ·intro i hi
  rcases Nat.lt_or_ge i os.length with h'|h'
  ·simp[h']at hi
  ·simp[Array.getElem?_eq_none (show(Array.replicate os.length false).size≤i by simpa using h')]at hi
 ·intro l1 i l2 hl hk j hj
  have hs:(l1++i::l2).Pairwise (· < ·):=hl ▸ List.pairwise_lt_range'
  have hij:i<j:=List.rel_of_pairwise_cons (List.pairwise_append.1 hs).2.1 hj
  have mem:∀x∈l1++i::l2,x<os.length:=by
   intro x hx
   rw[← hl]at hx
   simp only[List.mem_range',Nat.zero_add,Nat.one_mul]at hx
   obtain⟨y,hy,rfl⟩:=hx
   exact hy
  have hi:=mem i (by simp)
  have hj':=mem j (by simp[hj])
  have h1:=zm.1 h14 _<|hz (j:=i) (o:=os[i]) (by simp[hi])
  simp only[Bool.or_eq_true,Bool.not_eq_true',decide_eq_false_iff_not]at h1
  rcases h1 with h1|h1
  ·exact absurd hk h1
  ·have h2:=zm.1 h1 _<|hz (j:=j) (o:=os[j]) (by simp[hj'])
   simp only[Bool.or_eq_true,Bool.not_eq_true',decide_eq_false_iff_not]at h2
   rcases h2 with h2|h2
   ·exact absurd hij h2
   ·simpa using h2
 ·exact D7 ks os 0 a w.drew (by simp) (by simpa using h)
theorem CM:∀(rest:List Oper)(ks:List Nat)(a:Act)(w:World)(Q:Exit→Act→World→Prop),(∀k∈ks,k≠1)→LW P ops w0 (fun a w=>Q .normal a w) rest ks a w→wpList P ops Q rest a w
 |[],_,_,_,_,_,h=>h
 |_::_,[],_,_,_,_,h=>h.elim
 |o::os,k::ks,a,w,Q,hk,h=>by
  have hk':∀x∈ks,x≠1:=fun x hx=>hk x (z3 _ hx)
  have hk1:=hk k (z0 ..)
  refine wpList_step fun K hK=>?_
  simp only[LW]at h
  split
  ·rename_i hw
   rw[if_pos hw]at h
   unfold B9 at h
   split at h
   ·obtain⟨v,h1,h2⟩:=h
    exact Ev (h1 w (Cl.self fun hh=>absurd hh hk1))<|hK _ _<|CM os ks _ _ Q hk' h2
   ·split at h
    ·exact Oper.wp_mono (fun a w hh=>hK _ _<|CM os ks _ _ Q hk' hh.2)<|Eo h
    ·exact Oper.wp_mono (fun a w hh=>hK _ _<|CM os ks _ _ Q hk' hh)<|Eo h
  ·rename_i hw
   rw[if_neg hw]at h
   exact hK _ _<|CM os ks _ _ Q hk' h
theorem Ab {id:Nat}{Q:Exit→Act→World→Prop}{a:Act}{w:World}(os:List Oper)(ks:List Nat)(hk:ks.all (· != 1)=true)
  (h:LW P os.toArray w (fun a w=>Q .normal a w) os ks a w):(Code.region id os.toArray false).wp P Q a w :=
 wp_region_lit (CM os ks a w Q (fun k hh=>by simpa using zm.1 hk k hh) h)
end
end
section
def C7 (ρ:Nat→Value)(d:Nat)(v:Value):Nat→Value:=fun i=>cond (Nat.beq i d) v (ρ i)
def KF (l:List Value):Nat→Value:=fun i=>l.getD i undef
def mk (N:Nat) (ρ:Nat→Value):Act:=⟨((List.range N).map ρ).toArray,[]⟩
def Ba (N:Nat) (ρ:Nat→Value):Operand→Value
 |.tmp t=>cond (Nat.blt t N) (ρ t) undef
 |.const v=>v
 |.global g=>.pointer (some ⟨g,0,none⟩)
 |.func f=>.func (.func f) #[] #[]
theorem G3 (ρ:Nat→Value)(d:Nat)(v:Value):C7 ρ d v d=v:=by simp[C7]
theorem Hw (ρ:Nat→Value){d i:Nat}(v:Value)(h:i≠d):C7 ρ d v i=ρ i:=by
 have:Nat.beq i d=false:=by
  cases hb:Nat.beq i d with
  |false=>rfl
  |true=>exact absurd (Nat.eq_of_beq_eq_true hb) h
 simp[C7,this]
theorem BB (N:Nat) (ρ:Nat→Value):(mk N ρ).eval=Ba N ρ:=by
 funext x
 cases x with
 |tmp t =>
  simp only[Act.eval,Ba,mk]
  by_cases h:t<N
  ·have:Nat.blt t N=true:=by simpa using h
   simp[h,this]
  ·have:Nat.blt t N=false:=by
    cases hb:Nat.blt t N with
    |false=>rfl
    |true=>exact absurd (by simpa using hb) h
   simp[this,Nat.not_lt.1 h]
 |_=>rfl
theorem Cj (N:Nat) (ρ:Nat→Value)(d:Nat)(v:Value):(mk N ρ).put (some d) v=mk N (C7 ρ d v):=by
 simp only[Act.put,mk,Act.mk.injEq,and_true]
 apply Array.ext
 ·simp
 ·intro i h1 h2
  simp at h1
  by_cases hi:i=d
  ·subst hi;simp[G3]
  ·simp[Ne.symm hi,Hw _ _ hi]
theorem Aw {P:Program}{f:FuncId}{fn:Func}{c:Code}{w:World}{R:Ending→World→Prop}(args:List Value)(N:Nat)
  (hf:P.funcs[f]? = some fn) (hb:fn.body=some c) (hN:fn.ntmps=N) (hl:args.length≤N)
  (h:c.wp P (bodyPost P fn R) (mk N (KF args)) w):Calls P f args.toArray w R:=by
 refine calls_of_wp hf hb ?_
 have:(mk N (KF args)) = { tmps:=args.toArray++Array.replicate (fn.ntmps-args.toArray.size) undef,defers:=[] }:=by
  simp only[mk,Act.mk.injEq,and_true]
  apply Array.ext
  ·simp;omega
  ·intro i h1 h2
   simp at h1
   by_cases hi:i<args.length
   ·simp[KF,hi]
   ·simp[KF,hi,Array.getElem_append]
 rw[← this];exact h
def JK (N:Nat) (ρ:Nat→Value):List Nat→Value
 |[t]=>Ba N ρ (.tmp t)
 |ts=>.tuple (ts.map fun t=>Ba N ρ (.tmp t)).toArray
theorem Ep (N:Nat) (ρ:Nat→Value)(t:Nat):(mk N ρ).tmps.getD t undef=Ba N ρ (.tmp t):=by
 rw[← BB];rfl
theorem G4 {P:Program}{fn:Func}{N:Nat} {ρ:Nat→Value}{w:World}(ts:List Nat)(hr:fn.results=(ts.map ResultVar.tmp).toArray) :
  (results fn (mk N ρ).tmps).run P w=.ok (JK N ρ ts) w:=by
 have key:∀(l:List Nat),(((l.map ResultVar.tmp).mapM (m:=Sem) fun
  |.tmp t=>pure ((mk N ρ).tmps.getD t undef)
  |.cell a t=>do loadVar t (← asAddr ((mk N ρ).tmps.getD a undef)))).run P w=.ok (l.map fun t=>Ba N ρ (.tmp t)) w:=by
  intro l
  induction l with
  |nil=>rfl
  |cons t l ih =>
   simp only[zf,List.mapM_cons,Sem.run_bind,Sem.run_pure,Result.andThen_ok,Ep]at ih ⊢
   rw[ih]
   rfl
 unfold results
 rw[hr]
 simp only[List.mapM_toArray,Sem.run_bind,Sem.run_map]
 refine (congrArg (fun r=>(Result.andThen (Result.andThen r fun a w'=>Result.ok a.toArray w') fun a w'=>Result.ok (if h:a.size=1 then a[0]else Value.tuple a) w'))<|key ts).trans ?_
 simp only[Result.andThen_ok]
 match ts with
 |[]=>rfl
 |[t]=>rfl
 |_::_::_=>rfl
theorem Af {P:Program}{fn:Func}{N:Nat} {ρ:Nat→Value}{w:World}{R:Ending→World→Prop}(ts:List Nat)(hr:fn.results=(ts.map ResultVar.tmp).toArray)(v:Value)(hv:JK N ρ ts=v)
  (h:R (.returned v) w):bodyPost P fn R .ret (mk N ρ) w:=⟨rfl,v,by rw[← hv];exact G4 ts hr,h⟩
section code
variable {P:Program} {N:Nat} {ρ:Nat→Value} {Q:Exit→Act→World→Prop} {w:World}
theorem Ah {c:Operand}{x y:Code}(hc:Ba N ρ c=.bool true)(h:x.wp P Q (mk N ρ) w):(Code.cond c x y).wp P Q (mk N ρ) w :=
 wp_cond_true (by rw[BB];exact hc) h
theorem Ak {c:Operand}{x y:Code}(hc:Ba N ρ c=.bool false)(h:y.wp P Q (mk N ρ) w):(Code.cond c x y).wp P Q (mk N ρ) w :=
 wp_cond_false (by rw[BB];exact hc) h
theorem Ay {id:Nat}{a:Act}(h:Q .normal a w):Exit.inBlock id Q (.exit id) a w:=by
 simpa [Exit.inBlock]using h
theorem AD {id:Nat}{a:Act}{K:Act→World→Prop}(h:Q (.exit id) a w):Exit.then K Q (.exit id) a w:=h
theorem Am {a:Act}{K:Act→World→Prop}(h:Q .ret a w):Exit.then K Q .ret a w:=h
theorem AC {id:Nat}{a:Act}(h:Q .ret a w):Exit.inBlock id Q .ret a w:=h
def Hx:List (Nat×Value)→(Nat→Value)→Nat→Value
 |[],ρ=>ρ
 |(i,v)::l,ρ=>C7 (Hx l ρ) i v
def DV (ρ:Nat→Value):List (Nat×Value)→Prop
 |[]=>True
 |(i,v)::l=>ρ i=v∧DV ρ l
theorem Cx {ρ:Nat→Value}:∀ {l:List (Nat×Value)},DV ρ l→Hx l ρ=ρ
 |[],_=>rfl
 |(i,v)::l,h=>by
  simp only[Hx,Cx h.2]
  funext j
  by_cases hj:j=i
  ·subst hj;rw[G3];exact h.1.symm
  ·rw[Hw _ _ hj]
theorem AW {S:Type}(fr:S→List (Nat×Value))(I:S→World→Prop)(m:S→Nat)(s0:S){body:Code}(hfr:DV ρ (fr s0))(h0:I s0 w)
  (round:∀s ρ w,I s w→body.wp P (Exit.then (fun a' w'=>∃s' ρ',a'=mk N ρ'∧DV ρ' (fr s')∧I s' w'∧m s'<m s) Q) (mk N (Hx (fr s) ρ)) w) :
  (Code.loop body).wp P Q (mk N ρ) w:=by
 intro b k cs
 have key:∀n s ρ w,m s=n→DV ρ (fr s)→I s w→∃e a' w',Q e a' w'∧Arrives P (lone (b.at (mk N ρ) (.code body :: .inLoop body::k)) cs w) b k cs e a' w':=by
  intro n
  induction n using Nat.strongRecOn with
  |_ n ih =>
   intro s ρ w hn hfr hI
   have hr:=round s ρ w hI
   rw[Cx hfr]at hr
   obtain⟨e,a₁,w₁,hq,harr⟩:=hr b (.inLoop body::k) cs
   cases e with
   |normal =>
    obtain⟨s',ρ',rfl,hfr',hI',hlt⟩:=hq
    obtain⟨e₂,a₂,w₂,hq₂,harr₂⟩:=ih (m s') (hn ▸ hlt) s' ρ' w₁ rfl hfr' hI'
    exact⟨e₂,a₂,w₂,hq₂,.of_steps (Steps.trans harr (.one step_inLoop)) harr₂⟩
   |exit id=>exact⟨_,a₁,w₁,hq,.pass (x:=.inLoop body) rfl (fun _ _=>.inl (by simp)) harr⟩
   |goto l=>exact⟨_,a₁,w₁,hq,.pass (x:=.inLoop body) rfl (fun _ _=>.inl (by simp)) harr⟩
   |ret=>exact⟨_,a₁,w₁,hq,.pass (x:=.inLoop body) rfl (fun _ _=>.inl (by simp)) harr⟩
   |panic ch=>exact⟨_,a₁,w₁,hq,.pass (x:=.inLoop body) rfl (fun _ _=>.inl (by simp)) harr⟩
   |outgrown=>exact⟨_,a₁,w₁,hq,.pass (x:=.inLoop body) rfl (fun _ _=>.inl (by simp)) harr⟩
 obtain⟨e,a',w',hq,harr⟩:=key _ s0 ρ w rfl hfr h0
 exact⟨e,a',w',hq,.of_steps (.one step_loop) harr⟩
theorem GG {S:Type}(fr:S→List (Nat×Value))(I:S→World→Prop){c:Code}{K:Act→World→Prop}{Q':Exit→Act→World→Prop}
  (h:c.wp P (Exit.then (fun a' w'=>∃s' ρ',a'=mk N ρ'∧DV ρ' (fr s')∧I s' w') Q') (mk N ρ) w)
  (hn:∀s ρ w,I s w→K (mk N (Hx (fr s) ρ)) w):c.wp P (Exit.then K Q') (mk N ρ) w:=by
 refine wp_mono h ?_
 intro e a w hh
 cases e with
 |normal =>
  obtain⟨s,ρ',rfl,h1,h2⟩:=hh
  have:=hn s ρ' w h2
  rw[Cx h1]at this
  exact this
 |_=>exact hh
end code
section ops
variable {P:Program} {ops:Array Oper} {w0:World} {Q:Act→World→Prop} {os:List Oper} {ks:List Nat} {N:Nat} {ρ:Nat→Value} {w:World}
abbrev Up (ops:Array Oper)(N:Nat) (ρ:Nat→Value)(o:Oper):Prop:=Region.wanted o (yielded ops (mk N ρ).tmps)=true
theorem Aa {d:Option Tmp}{op:Op}{ty:TypeId}{pos:String}{aft:Array Edge}:Up ops N ρ ⟨d,op,ty,pos,aft,none⟩:=rfl
theorem Gq {j d:Nat}{b:Bool}(hd:(ops[j]?).bind (·.dst)=some d)(hlt:Nat.blt d N=true)(hv:ρ d=.bool b):yielded ops (mk N ρ).tmps j=some b:=by
 have h:d<N:=by simpa using hlt
 unfold yielded
 rw[hd]
 simp[mk,h,hv]
theorem Ae {d:Option Tmp}{op:Op}{ty:TypeId}{pos:String}{aft:Array Edge}{j e:Nat}{b:Bool}(hd:(ops[j]?).bind (·.dst)=some e)(hlt:Nat.blt e N=true)(hv:ρ e=.bool b) :
  Up ops N ρ ⟨d,op,ty,pos,aft,some (j,b)⟩:=by
 unfold Up Region.wanted
 simp[Gq hd hlt hv]
theorem BV {o:Oper}{k d:Nat}(hk:k≤2)(hd:o.dst=some d)(hu:Up ops N ρ o)(v:Value)(hr:∀w',Cl w0 w k w'→(execOp (Ba N ρ) o).run P w'=.ok (.value v) w')
  (h:LW P ops w0 Q os ks (mk N (C7 ρ d v)) w):LW P ops w0 Q (o::os) (k::ks) (mk N ρ) w:=by
 simp only[LW]
 rw[if_pos hu]
 unfold B9
 rw[if_pos hk]
 refine⟨v,fun w' hc=>.inl ?_,?_⟩
 ·rw[BB];exact hr w' hc
 ·rw[hd,Cj];exact h
theorem G5 {o:Oper}{d:Nat}(hd:o.dst=some d)(hu:Up ops N ρ o)
  (v:Value) (w1:World) (hr:(execOp (Ba N ρ) o).run P w=.ok (.value v) w1) (hE:Az w w1) (h:LW P ops w0 Q os ks (mk N (C7 ρ d v)) w1):LW P ops w0 Q (o::os) (3::ks) (mk N ρ) w:=by
 simp only[LW]
 rw[if_pos hu]
 unfold B9
 rw[if_neg (by decide),if_pos rfl]
 unfold Oper.wp
 rw[BB,hr]
 show Az w w1∧LW P ops w0 Q os ks ((mk N ρ).put o.dst v) w1
 rw[hd,Cj]
 exact⟨hE,h⟩
theorem Jo {o:Oper}{d:Nat}(hd:o.dst=some d)(hu:Up ops N ρ o)
  (v:Value) (w1:World) (hr:(execOp (Ba N ρ) o).run P w=.ok (.value v) w1) (h:LW P ops w0 Q os ks (mk N (C7 ρ d v)) w1):LW P ops w0 Q (o::os) (4::ks) (mk N ρ) w:=by
 simp only[LW]
 rw[if_pos hu]
 unfold B9
 rw[if_neg (by decide),if_neg (by decide)]
 unfold Oper.wp
 rw[BB,hr]
 show LW P ops w0 Q os ks ((mk N ρ).put o.dst v) w1
 rw[hd,Cj]
 exact h
theorem Iy {o:Oper}(hd:o.dst=none)(hu:Up ops N ρ o)
  (w1:World) (hr:(execOp (Ba N ρ) o).run P w=.ok .skip w1) (h:LW P ops w0 Q os ks (mk N ρ) w1):LW P ops w0 Q (o::os) (4::ks) (mk N ρ) w:=by
 simp only[LW]
 rw[if_pos hu]
 unfold B9
 rw[if_neg (by decide),if_neg (by decide)]
 unfold Oper.wp
 rw[BB,hr]
 show LW P ops w0 Q os ks ((mk N ρ).put o.dst undef) w1
 rw[hd]
 exact h
theorem As {d:Nat} {x:Operand} {xs:Array Operand} {ats:Array TypeId} {ty:TypeId} {pos:String} {aft:Array Edge} {g:Option (Nat × Bool)} (f:FuncId) (first cap:List Value) (args:List Value)
  (hx:Ba N ρ x = .func (.func f) first.toArray cap.toArray) (hxs:first++(xs.toList.map (Ba N ρ))++cap = args) (hf:((P.funcs[f]?).map fun fn=>(fn.name != "runtime.NumGoroutine") && fn.body.isSome) = some true)
  (hu:Up ops N ρ ⟨some d,.call ⟨.value x,xs,ats⟩,ty,pos,aft,g⟩) {R:Ending→World→Prop} (hc:Calls P f args.toArray w R)
  (h:∀ e w1,R e w1→∃ v,e = .returned v∧Az w w1∧LW P ops w0 Q os ks (mk N (C7 ρ d v)) w1) :
  LW P ops w0 Q (⟨some d,.call ⟨.value x,xs,ats⟩,ty,pos,aft,g⟩ :: os) (3 :: ks) (mk N ρ) w:=by
 simp only [LW]
 rw [if_pos hu]
 unfold B9
 rw [if_neg (by decide),if_pos rfl]
 unfold Oper.wp
 rw [BB]
 have hrun:(execOp (Ba N ρ) ⟨some d,.call ⟨.value x,xs,ats⟩,ty,pos,aft,g⟩).run P w = .ok (.enter f args.toArray) w:=by
  obtain ⟨fn,hfn,hb⟩:=Option.map_eq_some_iff.1 hf
  simp only [z7,bne_iff_ne,ne_eq] at hb
  have hargs:first.toArray++xs.map (Ba N ρ)++cap.toArray = args.toArray:=by
   rw [← hxs]; apply Array.ext'; simp
  obtain ⟨c,hbc⟩:=Option.isSome_iff_exists.1 hb.2
  have hcf:(callFunc f args.toArray).run P w = .ok (.enter f args.toArray) w:=by
   simp [callFunc,hfn,hb.1,hbc]
  simp [execOp,resolve,hargs,hx,Deferred.ofValue,invoke,hcf]
 rw [hrun]
 refine Calls.mono hc (fun e w1 he=>?_)
 obtain ⟨v,rfl,hE,hL⟩:=h e w1 he
 show Az w w1∧LW P ops w0 Q os ks ((mk N ρ).put (some d) v) w1
 rw [Cj]
 exact ⟨hE,hL⟩
theorem AJ {d:Nat} {x:Operand} {xs:Array Operand} {ats:Array TypeId} {ty:TypeId} {pos:String} {aft:Array Edge} {g:Option (Nat × Bool)} (f:FuncId) (first cap:List Value) (args:List Value)
  (hx:Ba N ρ x = .func (.func f) first.toArray cap.toArray) (hxs:first++(xs.toList.map (Ba N ρ))++cap = args) (hf:((P.funcs[f]?).map fun fn=>(fn.name != "runtime.NumGoroutine") && fn.body.isSome) = some true)
  (hu:Up ops N ρ ⟨some d,.call ⟨.value x,xs,ats⟩,ty,pos,aft,g⟩) (v:Value) (hc:∀ w',Calls P f args.toArray w' (fun e w''=>e = .returned v∧w'' = w'))
  (h:LW P ops w0 Q os ks (mk N (C7 ρ d v)) w) :
  LW P ops w0 Q (⟨some d,.call ⟨.value x,xs,ats⟩,ty,pos,aft,g⟩ :: os) (0 :: ks) (mk N ρ) w:=by
 simp only [LW]
 rw [if_pos hu]
 unfold B9
 rw [if_pos (by decide)]
 have hrun:∀ w,(execOp (Ba N ρ) ⟨some d,.call ⟨.value x,xs,ats⟩,ty,pos,aft,g⟩).run P w = .ok (.enter f args.toArray) w:=by
  intro w
  obtain ⟨fn,hfn,hb⟩:=Option.map_eq_some_iff.1 hf
  simp only [z7,bne_iff_ne,ne_eq] at hb
  have hargs:first.toArray++xs.map (Ba N ρ)++cap.toArray = args.toArray:=by
   rw [← hxs]; apply Array.ext'; simp
  obtain ⟨c,hbc⟩:=Option.isSome_iff_exists.1 hb.2
  have hcf:(callFunc f args.toArray).run P w = .ok (.enter f args.toArray) w:=by
   simp [callFunc,hfn,hb.1,hbc]
  simp [execOp,resolve,hargs,hx,Deferred.ofValue,invoke,hcf]
 refine ⟨v,fun w' _=>.inr (.inr ⟨f,args.toArray,?_,hc w'⟩),?_⟩
 ·rw [BB]; exact hrun w'
 ·show LW P ops w0 Q os ks ((mk N ρ).put (some d) v) w
  rw [Cj]; exact h
end ops
def it {σ:Type}(f:Nat→σ→σ):Nat→σ→σ
 |0,s=>s
 |k+1,s=>f k (it f k s)
end
section
theorem Dy {x:Int}(h:-9223372036854775808≤x)(h':x≤9223372036854775807):IntKind.i64.wrap x=x:=IntWalk.i64_in x ⟨h,h'⟩
theorem Bn {x:Int}{n:Nat}(h:x=(n:Int))(h':x≤9223372036854775807):IntKind.i64.wrap x=(n:Int):=by rw[Dy zO h',h]
def TI (P:Program)(e:TypeId)(s:Nat)(z:Value)(b:Nat):Prop:=(P.info? e).map (fun i=>(i.zero,i.size,i.bytes))=some (some z,s,b)
theorem TI.get {P:Program}{e:TypeId}{s:Nat}{z:Value}{b:Nat}(h:TI P e s z b):∃i,P.info? e=some i∧i.zero=some z∧i.size=s∧i.bytes=b:=by
 obtain⟨i,hi,hh⟩:=Option.map_eq_some_iff.1 h
 simp only[Prod.mk.injEq]at hh
 exact⟨i,hi,hh⟩
def EC (v:Value)(n:Nat):Prop:=∃a c,v=.slice a n c∧(a=none→n=0)
def AE (v:Value)(i s:Nat):Value :=
 match v with
 |.slice (some a) _ _=>.pointer (some (a.add (i*s)))
 |_=>undef
def Bt (H:Array Obj)(g o:Nat):Option Value :=
 match H[g]? with
 |some (.cells c _ _)=>c[o]?
 |_=>none
theorem BN (w:World)(g o:Nat):w.cell? ⟨g,o,none⟩=Bt w.heap g o:=by
 unfold World.cell? Bt
 cases w.heap[g]? with
 |none=>rfl
 |some o=>cases o <;> rfl
def FY (H:Array Obj)(p:Value):Option Value :=
 match p with
 |.pointer (some ⟨g,o,none⟩)=>Bt H g o
 |_=>none
theorem Az.heap {w w':World}(h:Az w w'){k:Nat}(hk:k<w.heap.size):w'.heap[k]? = w.heap[k]?:=Below.block h k hk
theorem Hy {H:Array Obj}{g o:Nat}{v:Value}(h:Bt H g o=some v):g<H.size:=by
 unfold Bt at h
 rcases Nat.lt_or_ge g H.size with hh|hh
 ·exact hh
 ·simp[Array.getElem?_eq_none hh]at h
theorem Hj {w w':World}(h:Az w w'){g o:Nat}{v:Value}(hc:Bt w.heap g o=some v):Bt w'.heap g o=some v:=by
 have:=h.heap (Hy hc)
 unfold Bt at *
 rw[this];exact hc
theorem FK {w w':World}(h:Az w w'){p v:Value}(hc:FY w.heap p=some v):FY w'.heap p=some v:=by
 unfold FY at *
 split at hc
 ·exact Hj h hc
 ·cases hc
def Co (P:Program)(t:TypeId):Prop:=((P.underlying t).map fun d=>match d with|.struct _=>false|.array _ _=>false|_=>true)=some true
theorem Hk {P:Program}{t:TypeId}(ht:Co P t){p v:Value}{w:World}(h:FY w.heap p=some v):(Instr.loadAt t p).run P w=.ok v w:=by
 unfold FY at h
 split at h
 ·rename_i g o
  rw[← BN]at h
  obtain⟨d,hd,hh⟩:=Option.map_eq_some_iff.1 ht
  have hag:(isAgg t).run P w=.ok false w:=by
   unfold isAgg
   simp only[Sem.run_bind,run_underlying hd,Result.andThen_ok]
   cases d <;> first|rfl|simp at hh
  simp[Instr.loadAt,Instr.sureAddr,loadVar,hag,h]
 ·cases h
section ops
variable {P:Program} {ops:Array Oper} {w0:World} {Q:Act→World→Prop} {os:List Oper} {ks:List Nat} {N:Nat} {ρ:Nat→Value} {w:World}
 {d:Nat} {ty:TypeId} {pos:String} {aft:Array Edge} {g:Option (Nat×Bool)}
section bin
variable {xt yt:TypeId} {x y:Operand} {k:IntKind} {a b:Int}
theorem Cf {op:BinOp}{w:World}:(eqGuard op xt x y (.int k a) (.int k b)).run P w=.ok () w:=by
 unfold eqGuard
 cases op <;> rfl
theorem AQ (c:Int)(hx:Ba N ρ x=.int k a)(hy:Ba N ρ y=.int k b)(hc:k.wrap (a+b)=c)(hu:Up ops N ρ ⟨some d,.binOp .add xt x y yt,ty,pos,aft,g⟩)
  (h:LW P ops w0 Q os ks (mk N (C7 ρ d (.int k c))) w):LW P ops w0 Q (⟨some d,.binOp .add xt x y yt,ty,pos,aft,g⟩::os) (0::ks) (mk N ρ) w :=
 BV (by decide) rfl hu _ (fun w' _=>by simp[execOp,hx,hy,Cf,binOp,Op.intArith,hc]) h
theorem CE (c:Int)(hx:Ba N ρ x=.int k a)(hy:Ba N ρ y=.int k b)(hc:k.wrap (a-b)=c)(hu:Up ops N ρ ⟨some d,.binOp .sub xt x y yt,ty,pos,aft,g⟩)
  (h:LW P ops w0 Q os ks (mk N (C7 ρ d (.int k c))) w):LW P ops w0 Q (⟨some d,.binOp .sub xt x y yt,ty,pos,aft,g⟩::os) (0::ks) (mk N ρ) w :=
 BV (by decide) rfl hu _ (fun w' _=>by simp[execOp,hx,hy,Cf,binOp,Op.intArith,hc]) h
theorem JL (c:Int)(hx:Ba N ρ x=.int k a)(hy:Ba N ρ y=.int k b)(hb:b≠0)(hc:a.tmod b=c)(hu:Up ops N ρ ⟨some d,.binOp .rem xt x y yt,ty,pos,aft,g⟩)
  (h:LW P ops w0 Q os ks (mk N (C7 ρ d (.int k c))) w):LW P ops w0 Q (⟨some d,.binOp .rem xt x y yt,ty,pos,aft,g⟩::os) (0::ks) (mk N ρ) w :=
 BV (by decide) rfl hu _ (fun w' _=>by simp[execOp,hx,hy,Cf,binOp,Op.intDiv,hb,hc]) h
theorem JM (c:Int)(hx:Ba N ρ x=.int k a)(hy:Ba N ρ y=.int k b)(hb:b≠0)(hc:k.wrap (a.tdiv b)=c)(hu:Up ops N ρ ⟨some d,.binOp .quo xt x y yt,ty,pos,aft,g⟩)
  (h:LW P ops w0 Q os ks (mk N (C7 ρ d (.int k c))) w):LW P ops w0 Q (⟨some d,.binOp .quo xt x y yt,ty,pos,aft,g⟩::os) (0::ks) (mk N ρ) w :=
 BV (by decide) rfl hu _ (fun w' _=>by simp[execOp,hx,hy,Cf,binOp,Op.intDiv,hb,hc]) h
theorem AA (c:Bool)(hx:Ba N ρ x=.int k a)(hy:Ba N ρ y=.int k b)(hc:decide (a<b)=c)(hu:Up ops N ρ ⟨some d,.binOp .lss xt x y yt,ty,pos,aft,g⟩)
  (h:LW P ops w0 Q os ks (mk N (C7 ρ d (.bool c))) w):LW P ops w0 Q (⟨some d,.binOp .lss xt x y yt,ty,pos,aft,g⟩::os) (0::ks) (mk N ρ) w :=
 BV (by decide) rfl hu _ (fun w' _=>by simp[execOp,hx,hy,Cf,binOp,Op.intCmp,← hc]) h
theorem D8 (c:Bool)(hx:Ba N ρ x=.int k a)(hy:Ba N ρ y=.int k b)(hc:decide (a≤b)=c)(hu:Up ops N ρ ⟨some d,.binOp .leq xt x y yt,ty,pos,aft,g⟩)
  (h:LW P ops w0 Q os ks (mk N (C7 ρ d (.bool c))) w):LW P ops w0 Q (⟨some d,.binOp .leq xt x y yt,ty,pos,aft,g⟩::os) (0::ks) (mk N ρ) w :=
 BV (by decide) rfl hu _ (fun w' _=>by simp[execOp,hx,hy,Cf,binOp,Op.intCmp,← hc]) h
theorem BJ (c:Bool)(hx:Ba N ρ x=.int k a)(hy:Ba N ρ y=.int k b)(hc:decide (b<a)=c)(hu:Up ops N ρ ⟨some d,.binOp .gtr xt x y yt,ty,pos,aft,g⟩)
  (h:LW P ops w0 Q os ks (mk N (C7 ρ d (.bool c))) w):LW P ops w0 Q (⟨some d,.binOp .gtr xt x y yt,ty,pos,aft,g⟩::os) (0::ks) (mk N ρ) w :=
 BV (by decide) rfl hu _ (fun w' _=>by simp[execOp,hx,hy,Cf,binOp,Op.intCmp,← hc]) h
theorem Cp (c:Bool)(hx:Ba N ρ x=.int k a)(hy:Ba N ρ y=.int k b)(hc:decide (b≤a)=c)(hu:Up ops N ρ ⟨some d,.binOp .geq xt x y yt,ty,pos,aft,g⟩)
  (h:LW P ops w0 Q os ks (mk N (C7 ρ d (.bool c))) w):LW P ops w0 Q (⟨some d,.binOp .geq xt x y yt,ty,pos,aft,g⟩::os) (0::ks) (mk N ρ) w :=
 BV (by decide) rfl hu _ (fun w' _=>by simp[execOp,hx,hy,Cf,binOp,Op.intCmp,← hc]) h
theorem AH (c:Bool)(hx:Ba N ρ x=.int k a)(hy:Ba N ρ y=.int k b)(hc:decide (a=b)=c)(hu:Up ops N ρ ⟨some d,.binOp .eql xt x y yt,ty,pos,aft,g⟩)
  (h:LW P ops w0 Q os ks (mk N (C7 ρ d (.bool c))) w):LW P ops w0 Q (⟨some d,.binOp .eql xt x y yt,ty,pos,aft,g⟩::os) (0::ks) (mk N ρ) w :=
 BV (by decide) rfl hu _ (fun w' _=>by
  have:(a == b)=c:=by rw[← hc];rfl
  simp[execOp,hx,hy,Cf,binOp,Op.intCmp,this]) h
theorem AR (c:Bool)(hx:Ba N ρ x=.int k a)(hy:Ba N ρ y=.int k b)(hc:decide (a≠b)=c)(hu:Up ops N ρ ⟨some d,.binOp .neq xt x y yt,ty,pos,aft,g⟩)
  (h:LW P ops w0 Q os ks (mk N (C7 ρ d (.bool c))) w):LW P ops w0 Q (⟨some d,.binOp .neq xt x y yt,ty,pos,aft,g⟩::os) (0::ks) (mk N ρ) w :=
 BV (by decide) rfl hu _ (fun w' _=>by
  have:(a != b)=c:=by rw[← hc];simp[bne,BEq.beq]
  simp[execOp,hx,hy,Cf,binOp,Op.intCmp,this]) h
end bin
theorem AZ {xt:TypeId}{x:Operand}{a:Bool}(c:Bool)(hx:Ba N ρ x=.bool a)(hc:(!a)=c)(hu:Up ops N ρ ⟨some d,.unOp .not xt x,ty,pos,aft,g⟩)
  (h:LW P ops w0 Q os ks (mk N (C7 ρ d (.bool c))) w):LW P ops w0 Q (⟨some d,.unOp .not xt x,ty,pos,aft,g⟩::os) (0::ks) (mk N ρ) w :=
 BV (by decide) rfl hu _ (fun w' _=>by simp[execOp,hx,Op.unary,← hc]) h
theorem AS {t e:TypeId}{x:Operand}{v:Value}{n:Nat}(ht:P.underlying t=some (.slice e))(hx:Ba N ρ x=v)(hs:EC v n)(hu:Up ops N ρ ⟨some d,.call ⟨.builtin .len,#[x],#[t]⟩,ty,pos,aft,g⟩)
  (h:LW P ops w0 Q os ks (mk N (C7 ρ d (.int .i64 (n:Int)))) w):LW P ops w0 Q (⟨some d,.call ⟨.builtin .len,#[x],#[t]⟩,ty,pos,aft,g⟩::os) (0::ks) (mk N ρ) w :=
 BV (by decide) rfl hu _ (fun w' _=>by
  obtain⟨a,c,rfl,_⟩:=hs
  simp[execOp,resolve,invoke,builtin,hx,Builtin.len_,run_underlying ht,goInt]) h
theorem DW {t:TypeId}{x:Operand}{s:ByteArray}(ht:P.underlying t=some .string)(hx:Ba N ρ x=.string s)(hu:Up ops N ρ ⟨some d,.call ⟨.builtin .len,#[x],#[t]⟩,ty,pos,aft,g⟩)
  (h:LW P ops w0 Q os ks (mk N (C7 ρ d (.int .i64 (s.size:Int)))) w):LW P ops w0 Q (⟨some d,.call ⟨.builtin .len,#[x],#[t]⟩,ty,pos,aft,g⟩::os) (0::ks) (mk N ρ) w :=
 BV (by decide) rfl hu _ (fun w' _=>by
  simp[execOp,resolve,invoke,builtin,hx,Builtin.len_,run_underlying ht,goInt]) h
theorem AN {t e:TypeId}{x y:Operand}{v:Value}{n s:Nat}{k:IntKind}{i:Int}(j:Nat)(ht:P.underlying t=some (.slice e)){z:Value}{b:Nat}(hi:TI P e s z b)(hx:Ba N ρ x=v)(hy:Ba N ρ y=.int k i)
  (hs:EC v n) (hj:i=(j:Int)) (hlt:j<n) (hu:Up ops N ρ ⟨some d,.indexAddr t x y,ty,pos,aft,g⟩)
  (h:LW P ops w0 Q os ks (mk N (C7 ρ d (AE v j s))) w):LW P ops w0 Q (⟨some d,.indexAddr t x y,ty,pos,aft,g⟩::os) (0::ks) (mk N ρ) w :=
 BV (by decide) rfl hu _ (fun w' _=>by
  obtain⟨a,c,rfl,ha⟩:=hs
  obtain⟨inf,h1,_,h3,_⟩:=hi.get
  subst hj
  cases a with
  |none=>have:=ha rfl;omega
  |some a =>
   have hlt':(j:Int)<(n:Int):=by omega
   simp[execOp,hx,hy,Instr.indexAt,asIntOf,run_underlying ht,sizeOf,typeInfo,h1,h3,AE,hlt]) h
theorem Al {k:Nat}(hk:k=1∨k=2){t:TypeId}{x:Operand}{p:Value}(u:Value)(ht:Co P t)(hx:Ba N ρ x=p)(hc:FY (if k=1 then w0.heap else w.heap) p=some u)(hu:Up ops N ρ ⟨some d,.load t x,ty,pos,aft,g⟩)
  (h:LW P ops w0 Q os ks (mk N (C7 ρ d u)) w):LW P ops w0 Q (⟨some d,.load t x,ty,pos,aft,g⟩::os) (k::ks) (mk N ρ) w :=
 BV zO rfl hu _ (fun w' hcl=>by
  have hl:FY w'.heap p=some u:=by
   rcases hk with rfl|rfl
   ·exact FK (w:=w0) hcl hc
   ·exact FK (w:=w) hcl hc
  simp[execOp,hx,Hk ht hl]) h
theorem Cu {x:Operand}{vs:List Value}{i:Nat}(v:Value)(hx:Ba N ρ x=.tuple vs.toArray)(hv:vs[i]? = some v)(hu:Up ops N ρ ⟨some d,.extract x i,ty,pos,aft,g⟩)
  (h:LW P ops w0 Q os ks (mk N (C7 ρ d v)) w):LW P ops w0 Q (⟨some d,.extract x i,ty,pos,aft,g⟩::os) (0::ks) (mk N ρ) w :=
 BV (by decide) rfl hu _ (fun w' _=>by simp[execOp,hx,Instr.extract,hv]) h
theorem Jp {st dt:TypeId}{x:Operand}{k k':IntKind}{a:Int}(c:Int){sd:TypeDesc}(hst:P.underlying st=some sd)(hdt:P.underlying dt=some (.int k'))(hx:Ba N ρ x=.int k a)(hc:k'.wrap a=c)(hu:Up ops N ρ ⟨some d,.convert st dt x,ty,pos,aft,g⟩)
  (h:LW P ops w0 Q os ks (mk N (C7 ρ d (.int k' c))) w):LW P ops w0 Q (⟨some d,.convert st dt x,ty,pos,aft,g⟩::os) (0::ks) (mk N ρ) w :=
 BV (by decide) rfl hu _ (fun w' _=>by
  simp[execOp,hx,convert,run_underlying hst,run_underlying hdt,Conv.intToInt,hc]) h
theorem Jq {fn:Fn}{first cap:Array Operand}(fs cs:List Value)(h1:first.toList.map (Ba N ρ)=fs)(h2:cap.toList.map (Ba N ρ)=cs)(hu:Up ops N ρ ⟨some d,.makeFunc fn first cap,ty,pos,aft,g⟩)
  (h:LW P ops w0 Q os ks (mk N (C7 ρ d (.func fn fs.toArray cs.toArray))) w):LW P ops w0 Q (⟨some d,.makeFunc fn first cap,ty,pos,aft,g⟩::os) (0::ks) (mk N ρ) w :=
 BV (by decide) rfl hu _ (fun w' _=>by
  have e1:first.map (Ba N ρ)=fs.toArray:=by rw[← h1];apply Array.ext';simp
  have e2:cap.map (Ba N ρ)=cs.toArray:=by rw[← h2];apply Array.ext';simp
  simp[execOp,Instr.makeFunc,e1,e2]) h
end ops
end
section
abbrev Bu (α:Type):=Array Obj→Value→α→List Nat→Prop
structure Ck {α:Type}(E:Bu α):Prop where
 cells:∀ {H v x F},E H v x F→v.cells=#[v]
 one:∀ {H v x F},E H v x F→v.oneCell'=true
 lt:∀ {H v x F},E H v x F→∀b∈F,b<H.size
 stable:∀ {H H' v x F},E H v x F→(∀b∈F,H'[b]? = H[b]?)→E H' v x F
def G6 {α:Type}(E:Bu α)(H:Array Obj):List Value→List α→List Nat→Prop
 |[],[],F=>F=[]
 |u::us,x::xs,F=>∃F1 F2,F=F1++F2∧E H u x F1∧G6 E H us xs F2
 |_,_,_=>False
section G6
variable {α:Type} {E:Bu α} {H H':Array Obj}
theorem G6.stable (hE:Ck E):∀ {us:List Value}{xs:List α}{F:List Nat},G6 E H us xs F→(∀b∈F,H'[b]? = H[b]?)→G6 E H' us xs F
 |[],[],_,h,_=>h
 |_::_,_::_,_,⟨F1,F2,rfl,h1,h2⟩,hb =>
  ⟨F1,F2,rfl,hE.stable h1 fun b hh=>hb b (z8 _ hh),G6.stable hE h2 fun b hh=>hb b (z1 _ hh)⟩
 |[],_::_,_,h,_=>h.elim
 |_::_,[],_,h,_=>h.elim
theorem G6.lt (hE:Ck E):∀ {us:List Value}{xs:List α}{F:List Nat},G6 E H us xs F→∀b∈F,b<H.size
 |[],[],_,h,b,hb=>by rw[show _=[]from h]at hb;cases hb
 |_::_,_::_,_,⟨F1,F2,rfl,h1,h2⟩,b,hb=>(zi.1 hb).elim (hE.lt h1 b) (G6.lt hE h2 b)
 |[],_::_,_,h,_,_=>h.elim
 |_::_,[],_,h,_,_=>h.elim
theorem G6.get:∀ {us:List Value}{xs:List α}{F:List Nat}{k:Nat}(d:α),G6 E H us xs F→k<xs.length →
  ∃u F1,us[k]? = some u∧E H u (xs.getD k d) F1∧∀b∈F1,b∈F
 |u::us,x::xs,_,0,d,⟨F1,F2,rfl,h1,h2⟩,_=>⟨u,F1,rfl,h1,fun b hb=>z8 _ hb⟩
 |u::us,x::xs,_,k+1,d,⟨F1,F2,rfl,h1,h2⟩,hk=>by
  obtain⟨u',G,hu,hx,hb⟩:=G6.get d h2 (by simpa using hk)
  exact⟨u',G,by simpa using hu,by simpa using hx,fun b hh=>z1 _ (hb b hh)⟩
 |[],[],_,_,_,_,hk=>by simp at hk
 |[],_::_,_,_,_,h,_=>h.elim
end G6
def rI:Bu Int:=fun _ v x F=>v=.int .i64 x∧F=[]∧-9223372036854775808≤x∧x≤9223372036854775807
theorem Iz:Ck rI:=⟨fun h=>by rw[h.1];rfl,fun h=>by rw[h.1];rfl,fun h b hb=>(by rw[h.2.1]at hb;cases hb),fun h _=>h⟩
def Do {α:Type}(E:Bu α):Bu (List α):=fun H v xs F =>
 (∃a cap,v=.slice a 0 cap∧xs=[]∧F=[]) ∨
 ∃us g off cap cur e fr F',G6 E H us xs F'∧v=.slice (some ⟨g,off,none⟩) xs.length cap∧H[g]? = some (.cells cur e fr)∧(cur.toList.drop off).take xs.length=us∧xs.length≤maxLen∧F=g::F'
def JN {α:Type}(E:Bu α)(e:TypeId):Bu (List α):=fun H v xs F =>
 (v=.slice none 0 0∧xs=[]∧F=[]) ∨
 ∃us g cap cur F',G6 E H us xs F'∧v=.slice (some ⟨g,0,none⟩) xs.length cap∧H[g]? = some (.cells cur e (0,0))∧xs.length≤cap∧cap≤maxLen∧cur.size=cap∧cur.toList.take xs.length=us∧F=g::F'
theorem getElem?_lt {H:Array Obj}{g:Nat}{o:Obj}(h:H[g]? = some o):g<H.size:=(Array.getElem?_eq_some_iff.1 h).1
section lists
variable {α:Type} {E:Bu α} {e:TypeId} {H:Array Obj} {v:Value} {xs:List α} {F:List Nat}
theorem ED (hE:Ck E):Ck (Do E) where
 cells:=by
  rintro H v xs F (⟨a,cap,rfl,_⟩|⟨us,g,off,cap,cur,e,fr,F',_,rfl,_⟩) <;> rfl
 one:=by
  rintro H v xs F (⟨a,cap,rfl,_⟩|⟨us,g,off,cap,cur,e,fr,F',_,rfl,_⟩) <;> rfl
 lt:=by
  rintro H v xs F (⟨a,cap,rfl,_,rfl⟩|⟨us,g,off,cap,cur,e,fr,F',h,rfl,hg,_,_,rfl⟩) b hb
  ·cases hb
  ·rcases ze.1 hb with rfl|hb
   ·exact getElem?_lt hg
   ·exact h.lt hE b hb
 stable:=by
  rintro H H' v xs F (⟨a,cap,rfl,h1,h2⟩|⟨us,g,off,cap,cur,e,fr,F',h,rfl,hg,hw,hml,rfl⟩) hb
  ·exact .inl ⟨a,cap,rfl,h1,h2⟩
  ·exact .inr ⟨us,g,off,cap,cur,e,fr,F',h.stable hE fun b hh=>hb b<|z3 _ hh,rfl,by rw[hb g (z0 ..)];exact hg,hw,hml,rfl⟩
theorem G7 (hE:Ck E):Ck (JN E e) where
 cells:=by
  rintro H v xs F (⟨rfl,_⟩|⟨us,g,cap,cur,F',_,rfl,_⟩) <;> rfl
 one:=by
  rintro H v xs F (⟨rfl,_⟩|⟨us,g,cap,cur,F',_,rfl,_⟩) <;> rfl
 lt:=by
  rintro H v xs F (⟨rfl,_,rfl⟩|⟨us,g,cap,cur,F',h,rfl,hg,_,_,_,_,rfl⟩) b hb
  ·cases hb
  ·rcases ze.1 hb with rfl|hb
   ·exact getElem?_lt hg
   ·exact h.lt hE b hb
 stable:=by
  rintro H H' v xs F (⟨rfl,h1,h2⟩|⟨us,g,cap,cur,F',h,rfl,hg,r1,r2,r3,r4,rfl⟩) hb
  ·exact .inl ⟨rfl,h1,h2⟩
  ·exact .inr ⟨us,g,cap,cur,F',h.stable hE fun b hh=>hb b<|z3 _ hh,rfl,by rw[hb g (z0 ..)];exact hg,r1,r2,r3,r4,rfl⟩
theorem Do.isSl (h:Do E H v xs F):EC v xs.length:=by
 rcases h with⟨a,cap,rfl,rfl,_⟩|⟨us,g,off,cap,cur,e,fr,F',_,rfl,_⟩
 ·exact⟨a,cap,rfl,fun _=>rfl⟩
 ·exact⟨_,cap,rfl,fun h=>by cases h⟩
theorem GH (g off n cap k:Nat):AE (.slice (some ⟨g,off,none⟩) n cap) k 1=.pointer (some ⟨g,off+k,none⟩):=by
 unfold AE Addr.add
 simp only[Nat.mul_one]
 split
 ·rename_i h;subst h;rfl
 ·rfl
theorem Do.get (d:α){k:Nat}(h:Do E H v xs F)(hk:k<xs.length):∃u F1,FY H (AE v k 1)=some u∧E H u (xs.getD k d) F1∧∀b∈F1,b∈F:=by
 rcases h with⟨a,cap,rfl,rfl,_⟩|⟨us,g,off,cap,cur,e,fr,F',h,rfl,hg,hw,_,rfl⟩
 ·simp at hk
 ·obtain⟨u,F1,hu,hx,hb⟩:=h.get d hk
  refine⟨u,F1,?_,hx,fun b hh=>z3 _ (hb b hh)⟩
  rw[GH]
  simp only[FY,Bt,hg]
  rw[← hw,List.getElem?_take,if_pos hk,List.getElem?_drop]at hu
  simpa using hu
theorem Do.lenle (h:Do E H v xs F):xs.length≤maxLen:=by
 rcases h with⟨a,cap,_,rfl,_⟩|⟨us,g,off,cap,cur,e,fr,F',_,_,_,_,h,_⟩
 ·simp
 ·exact h
end lists
structure AG (F:List Nat)(w w':World):Prop where
 os:w'.os=w.os
 tape:w'.tape=w.tape
 output:w'.output=w.output
 size:w.heap.size≤w'.heap.size
 block:∀k,k<w.heap.size→k∉F→w'.heap[k]? = w.heap[k]?
theorem AG.below {F:List Nat}{w0 w w':World}{B:Nat}(h:Below B w0 w)(c:AG F w w')(hF:∀b∈F,B≤b)(hB:B≤w.heap.size):Below B w0 w' :=
 h.trans ⟨c.os,c.tape,c.output,c.size,fun k hk=>c.block k zO fun hm=>by have:=hF k hm;omega⟩
theorem Az.drew {w w':World}(h:Az w w'):Az w w'.drew:=⟨h.os,h.tape,h.output,h.size,h.block⟩
theorem Az.of_drew {w w':World}(h:Az w.drew w'):Az w w':=⟨h.os,h.tape,h.output,h.size,h.block⟩
def Fr {α:Type}(E:Bu α)(B U:Nat)(H:Array Obj)(v:Value)(x:α):Prop:=∃F,E H v x F∧F.Nodup∧∀b∈F,B≤b∧b<U
def Rd {α:Type}(E:Bu α)(H:Array Obj)(v:Value)(x:α):Prop:=∃F,E H v x F
section
variable {α:Type} {E:Bu α} {B U:Nat} {v:Value} {x:α} {w w':World}
theorem Fr.ext (hE:Ck E)(h:Fr E B U w.heap v x)(k:Az w w'):Fr E B U w'.heap v x:=by
 obtain⟨F,h1,h2,h3⟩:=h
 exact⟨F,hE.stable h1 fun b hb=>k.heap (hE.lt h1 b hb),h2,h3⟩
theorem Fr.up (hE:Ck E){H:Array Obj}(h:Fr E B U H v x):Fr E B H.size H v x:=by
 obtain⟨F,h1,h2,h3⟩:=h
 exact⟨F,h1,h2,fun b hb=>⟨(h3 b hb).1,hE.lt h1 b hb⟩⟩
theorem Fr.low {H:Array Obj}{B':Nat}(h:Fr E B U H v x)(hB:B'≤B):Fr E B' U H v x:=by
 obtain⟨F,h1,h2,h3⟩:=h
 exact⟨F,h1,h2,fun b hb=>⟨A8 hB (h3 b hb).1,(h3 b hb).2⟩⟩
theorem Fr.chg (hE:Ck E){F:List Nat}(h:Fr E B U w.heap v x)(c:AG F w w')(hF:∀b∈F,b<B∨U≤b):Fr E B U w'.heap v x:=by
 obtain⟨G,h1,h2,h3⟩:=h
 refine⟨G,hE.stable h1 fun b hb=>c.block b (hE.lt h1 b hb) fun hm=>?_,h2,h3⟩
 have:=h3 b hb
 have:=hF b hm
 omega
theorem Rd.ext (hE:Ck E)(h:Rd E w.heap v x)(k:Az w w'):Rd E w'.heap v x:=by
 obtain⟨F,h1⟩:=h
 exact⟨F,hE.stable h1 fun b hb=>k.heap (hE.lt h1 b hb)⟩
end
section
variable {α:Type} {E:Bu α} {e:TypeId} {B U:Nat} {H:Array Obj} {v:Value} {xs:List α}
theorem Rd.lenle (h:Rd (Do E) H v xs):xs.length≤9223372036854775807:=by
 obtain⟨F,h⟩:=h
 have:=Do.lenle h
 simp only[maxLen]at this
 omega
theorem Rd.isSl (h:Rd (Do E) H v xs):EC v xs.length:=by obtain⟨F,h⟩:=h;exact Do.isSl h
theorem Rd.get (d:α){k:Nat}(h:Rd (Do E) H v xs)(hk:k<xs.length):∃u,FY H (AE v k 1)=some u∧Rd E H u (xs.getD k d):=by
 obtain⟨F,h⟩:=h
 obtain⟨u,F1,h1,h2,_⟩:=Do.get d h hk
 exact⟨u,h1,F1,h2⟩
theorem Rd.getI {xs:List Int}{k:Nat}(h:Rd (Do rI) H v xs)(hk:k<xs.length):FY H (AE v k 1)=some (.int .i64 (xs.getD k 0))∧-9223372036854775808≤xs.getD k 0∧xs.getD k 0≤9223372036854775807:=by
 obtain⟨u,h1,F,h2,_,h3,h4⟩:=Rd.get (0:Int) h hk
 rw[h1,h2]
 exact⟨rfl,h3,h4⟩
end
theorem AK {a b:Int}(h:a=b):Ending.returned (.int .i64 a)=.returned (.int .i64 b):=by rw[h]
theorem At {a b:Bool}(h:a=b):Ending.returned (.bool a)=.returned (.bool b):=by rw[h]
theorem g1:Ck (Do rI):=ED Iz
theorem g2:Ck (Do (Do rI)):=ED g1
end
section
theorem Bl (w:World)(o:Obj):Az w (w.alloc o):=(Below.refl _ _).alloc (A7 _) o
theorem GI {α:Type}{E:Bu α}(hE:Ck E){e:TypeId}{w:World}{us:List Value}{xs:List α}{F:List Nat}{cur:Array Value}(h:G6 E w.heap us xs F)(hm:cur.size≤maxLen)
  (hc:cur.toList.take xs.length=us) (hl:xs.length≤cur.size) :
  JN E e (w.alloc (.cells cur e)).heap (.slice (some ⟨w.heap.size,0,none⟩) xs.length cur.size) xs (w.heap.size::F):=by
 refine .inr ⟨us,w.heap.size,cur.size,cur,F,h.stable hE fun b hb=>?_,rfl,?_,hl,hm,rfl,hc,rfl⟩
 ·exact Below.heap_alloc _ _ _<|h.lt hE b hb
 ·show(w.heap.push _)[w.heap.size]? = _
  simp
theorem Hz {f:Nat→Value}(n:Nat):Array.map f (Array.range n)=((List.range n).map f).toArray:=by
 apply Array.ext';simp
section run
variable {P:Program} {w:World}
theorem GJ {t e:TypeId}{b:Nat}{z u:Value}(ht:P.underlying t=some (.slice e))(hi:TI P e 1 z b)(hu:u.cells=#[u])(hz:z.cells=#[z]) :
  (Instr.buildSlice t 1 #[(0,u)]).run P w=.ok (.slice (some ⟨w.heap.size,0,none⟩) 1 1) (w.alloc (.cells #[u] e)):=by
 obtain⟨i,h1,h2,h3,h4⟩:=hi.get
 simp[Instr.buildSlice,run_underlying ht,sizeOf,typeInfo,zeroValue,h1,h2,h3,Instr.fill,newRow,hu,hz,Hz,List.range_succ]
end run
section ops
variable {P:Program} {ops:Array Oper} {w0:World} {Q:Act→World→Prop} {os:List Oper} {ks:List Nat} {N:Nat} {ρ:Nat→Value} {w:World}
 {d:Nat} {ty:TypeId} {pos:String} {aft:Array Edge} {g:Option (Nat×Bool)} {t e:TypeId} {z:Value} {b:Nat}
theorem IY {α:Type}{E:Bu α}(hE:Ck E){x:Operand}{u:Value}{y:α}{B U:Nat}(ht:P.underlying t=some (.slice e))(hi:TI P e 1 z b)(hz:z.cells=#[z])(hx:Ba N ρ x=u)(hy:Fr E B U w.heap u y)(hB:B≤w.heap.size)
  (hu:Up ops N ρ ⟨some d,.buildSlice t 1 #[(0,x)],ty,pos,aft,g⟩)
  (h:∀v w1,Az w w1→w1.heap.size=w.heap.size+1→Fr (JN E e) B w1.heap.size w1.heap v [y]→LW P ops w0 Q os ks (mk N (C7 ρ d v)) w1) :
  LW P ops w0 Q (⟨some d,.buildSlice t 1 #[(0,x)],ty,pos,aft,g⟩::os) (3::ks) (mk N ρ) w:=by
 obtain⟨F,h1,h2,h3⟩:=hy
 have hr:=GJ (P:=P) (w:=w) ht hi (hE.cells h1) hz
 have hrun:(execOp (Ba N ρ) ⟨some d,.buildSlice t 1 #[(0,x)],ty,pos,aft,g⟩).run P w=.ok (.value (.slice (some ⟨w.heap.size,0,none⟩) 1 1)) (w.alloc (.cells #[u] e)):=by
  simp only[execOp,zc,zf,zh,Sem.run_bind,hx,hr,Result.andThen_ok,Sem.run_pure]
 refine G5 rfl hu _ _ hrun (Bl _ _)<|h _ _ (Bl _ _) (by simp) ?_
 have hn:=GI (e:=e) (w:=w) hE (us:=[u]) (xs:=[y]) (F:=F++[]) (cur:=#[u]) ⟨F,[],rfl,h1,rfl⟩ (by simp[maxLen]) rfl (by simp)
 refine⟨_,hn,?_,fun c hc=>?_⟩
 ·rw[List.append_nil,List.nodup_cons]
  exact⟨fun hm=>by have:=hE.lt h1 _ hm;omega,h2⟩
 ·have hlt:=(G7 hE).lt hn c hc
  refine⟨?_,hlt⟩
  rcases ze.1 hc with rfl|hc
  ·exact hB
  ·exact (h3 c (by simpa using hc)).1
end ops
end
section
def rV:Bu Value:=fun _ v x F=>v=x∧F=[]∧v.cells=#[v]∧v.oneCell'=true
theorem IA:Ck rV:=⟨fun h=>h.2.2.1,fun h=>h.2.2.2,fun h b hb=>(by rw[h.2.1]at hb;cases hb),fun h _=>h⟩
section run
variable {P:Program} {w:World}
theorem EE {st:TypeId}(hst:(P.info? st).map (·.size)=some 1){g j:Nat}{cur:Array Value}{e:TypeId}(hg:w.heap[g]? = some (.cells cur e (0,0)))(hj:j<cur.size){u:Value}(hc:u.cells=#[u])(h1:u.oneCell'=true) :
  (Instr.storeAt st (.pointer (some ⟨g,j,none⟩)) u).run P w=.ok () (w.setCell ⟨g,j,none⟩ u):=by
 obtain⟨i,hi1,hi2⟩:=Option.map_eq_some_iff.1 hst
 have hcell:w.cell? ⟨g,j,none⟩=some cur[j]:=by
  rw[BN];simp[Bt,hg,hj]
 have hfz:w.frozen? ⟨g,j,none⟩=false:=by
  simp only[World.frozen?,hg];simp
 have hadd:(⟨g,j,none⟩:Addr).add 0=⟨g,j,none⟩:=rfl
 have hst1:(store ⟨g,j,none⟩ u).run P w=.ok () (w.setCell ⟨g,j,none⟩ u):=by
  rw[run_store P w _ _ _ h1,hcell]
  simp only[hfz]
  rfl
 simp only[Instr.storeAt,Instr.sureAddr,Sem.run_bind,Sem.run_pure,Result.andThen_ok,storeVar,sizeOf,typeInfo,run_program,hi1,hi2,hc]
 simp[storeCells,hadd,hst1]
theorem GK (w:World)(g j:Nat)(u:Value):AG [g] w (w.setCell ⟨g,j,none⟩ u) :=
 ⟨rfl,rfl,rfl,by simp[World.setCell],fun k hk hne=>Below.heap_setCell _ _ _ _ (by simpa using hne)⟩
theorem G8 {w:World}{g j:Nat}{u:Value}{cur:Array Value}{e:TypeId}(hg:w.heap[g]? = some (.cells cur e (0,0))):(w.setCell ⟨g,j,none⟩ u).heap[g]? = some (.cells (cur.setIfInBounds j u) e (0,0)):=by
 simp only[World.setCell,Array.getElem?_modify]
 simp[hg]
end run
section ops
variable {P:Program} {ops:Array Oper} {w0:World} {Q:Act→World→Prop} {os:List Oper} {ks:List Nat} {N:Nat} {ρ:Nat→Value} {w:World}
 {d:Nat} {ty:TypeId} {pos:String} {aft:Array Edge} {g:Option (Nat×Bool)} {t e:TypeId} {z:Value} {b:Nat}
theorem CQ {st:TypeId}{x y:Operand}{p u:Value}{w1:World}(hx:Ba N ρ x=p)(hy:Ba N ρ y=u)(hr:(Instr.storeAt st p u).run P w=.ok () w1) :
  (execOp (Ba N ρ) ⟨none,.store st x y,ty,pos,aft,g⟩).run P w=.ok .skip w1:=by
 simp only[execOp,hx,hy,Sem.run_bind,hr,Result.andThen_ok,Sem.run_pure]
theorem D9 {x:Operand} {xs:Array Operand} {ats:Array TypeId} (f:FuncId) (first cap:List Value) (args:List Value)
  (hx:Ba N ρ x = .func (.func f) first.toArray cap.toArray) (hxs:first++(xs.toList.map (Ba N ρ))++cap = args) (hf:((P.funcs[f]?).map fun fn=>(fn.name != "runtime.NumGoroutine") && fn.body.isSome) = some true)
  (hu:Up ops N ρ ⟨some d,.call ⟨.value x,xs,ats⟩,ty,pos,aft,g⟩) {R:Ending→World→Prop} (hc:Calls P f args.toArray w R)
  (h:∀ e w1,R e w1→∃ v,e = .returned v∧LW P ops w0 Q os ks (mk N (C7 ρ d v)) w1) :
  LW P ops w0 Q (⟨some d,.call ⟨.value x,xs,ats⟩,ty,pos,aft,g⟩ :: os) (4 :: ks) (mk N ρ) w:=by
 simp only [LW]
 rw [if_pos hu]
 unfold B9
 rw [if_neg (by decide),if_neg (by decide)]
 unfold Oper.wp
 rw [BB]
 have hrun:(execOp (Ba N ρ) ⟨some d,.call ⟨.value x,xs,ats⟩,ty,pos,aft,g⟩).run P w = .ok (.enter f args.toArray) w:=by
  obtain ⟨fn,hfn,hb⟩:=Option.map_eq_some_iff.1 hf
  simp only [z7,bne_iff_ne,ne_eq] at hb
  have hargs:first.toArray++xs.map (Ba N ρ)++cap.toArray = args.toArray:=by
   rw [← hxs]; apply Array.ext'; simp
  obtain ⟨c,hbc⟩:=Option.isSome_iff_exists.1 hb.2
  have hcf:(callFunc f args.toArray).run P w = .ok (.enter f args.toArray) w:=by
   simp [callFunc,hfn,hb.1,hbc]
  simp [execOp,resolve,hargs,hx,Deferred.ofValue,invoke,hcf]
 rw [hrun]
 refine Calls.mono hc (fun e w1 he=>?_)
 obtain ⟨v,rfl,hL⟩:=h e w1 he
 show LW P ops w0 Q os ks ((mk N ρ).put (some d) v) w1
 rw [Cj]
 exact hL
end ops
end
section
theorem oM {p:Prop}(h:p:=by omega):p:=h
theorem sM {p:Prop}(h:p:=by simp):p:=h
theorem sD {p:Prop}(h:p:=by first|omega|assumption|(simp only[zb,z9,z4,z6,z5];omega)|(simp[zb,z9,z4,z6,z5];done)|(simp[zb,z9,z4,z6,z5];omega)):p:=h
theorem AG.refl (F:List Nat)(w:World):AG F w w:=⟨rfl,rfl,rfl,A7 _,fun _ _ _=>rfl⟩
theorem AG.ext {F:List Nat}{a b c:World}(h:AG F a b)(k:Az b c):AG F a c :=
 ⟨k.os.trans h.os,k.tape.trans h.tape,k.output.trans h.output,A8 h.size k.size,fun i hi hm=>(k.heap (Nat.lt_of_lt_of_le hi h.size)).trans (h.block i hi hm)⟩
theorem AG.trans {F:List Nat}{a b c:World}(h:AG F a b)(k:AG F b c):AG F a c :=
 ⟨k.os.trans h.os,k.tape.trans h.tape,k.output.trans h.output,A8 h.size k.size,fun i hi hm=>(k.block i (Nat.lt_of_lt_of_le hi h.size) hm).trans (h.block i hi hm)⟩
theorem AG.of_drew {F:List Nat}{a b:World}(h:AG F a.drew b):AG F a b:=⟨h.os,h.tape,h.output,h.size,h.block⟩
theorem AG.sub {F G:List Nat}{a b:World}(h:AG F a b)(hs:∀x∈F,x∈G):AG G a b:=⟨h.os,h.tape,h.output,h.size,fun k hk hm=>h.block k hk fun hh=>hm (hs k hh)⟩
theorem GL {α:Type}{E:Bu α}(hE:Ck E){w w':World}{v:Value}{x:α}{F:List Nat}(h:E w.heap v x F)(k:Az w w'):E w'.heap v x F:=hE.stable h fun b hb=>k.heap (hE.lt h b hb)
section ops
variable {P:Program} {ops:Array Oper} {w0:World} {Q:Act→World→Prop} {os:List Oper} {ks:List Nat} {N:Nat} {ρ:Nat→Value} {w:World}
 {d:Nat} {ty:TypeId} {pos:String} {aft:Array Edge} {g:Option (Nat×Bool)} {t e:TypeId} {z:Value} {b:Nat}
theorem Ai {a:Act}(h:Q a w):LW P ops w0 Q [] ks a w:=h
def yv (ops:Array Oper)(N:Nat) (ρ:Nat→Value)(j:Nat):Option Bool:=match (ops[j]?).bind (·.dst)with
 |some e=>match cond (Nat.blt e N) (ρ e) undef with
  |.bool c=>some c
  |_=>none
 |none=>none
theorem JO (ops:Array Oper)(N:Nat) (ρ:Nat→Value)(j:Nat):yielded ops (mk N ρ).tmps j=yv ops N ρ j:=by
 unfold yv yielded
 cases(ops[j]?).bind (·.dst)with
 |none=>rfl
 |some e =>
  by_cases h:e<N
  ·have hb:Nat.blt e N=true:=by simpa using h
   simp only[mk,hb,cond_true]
   have e1:((List.range N).map ρ).toArray[e]? = some (ρ e):=by simp[h]
   show(match ((List.range N).map ρ).toArray[e]? with|some (.bool b)=>some b|_=>none)=_
   rw[e1]
   cases ρ e <;> rfl
  ·have hb:Nat.blt e N=false:=by
    cases hb:Nat.blt e N with
    |false=>rfl
    |true=>exact absurd (by simpa using hb) h
   simp[mk,Nat.not_lt.1 h,hb,undef]
def KG (ops:Array Oper)(N:Nat) (ρ:Nat→Value):Option (Nat×Bool)→Bool
 |none=>true
 |some (j,b)=>match yv ops N ρ j with
  |some c=>cond b c (!c)
  |none=>false
theorem Jr (ops:Array Oper)(N:Nat) (ρ:Nat→Value)(o:Oper):Region.wanted o (yielded ops (mk N ρ).tmps)=KG ops N ρ o.guard:=by
 unfold Region.wanted KG
 cases o.guard with
 |none=>rfl
 |some x =>
  obtain⟨j,b⟩:=x
  simp only[JO]
  cases yv ops N ρ j with
  |none=>rfl
  |some c=>cases c <;> cases b <;> rfl
def L8 (N:Nat) (ρ:Nat→Value)(d:Nat)(x:Operand):Nat→Value:=fun i=>cond (Nat.beq i d) (Ba N ρ x) (ρ i)
def Lh (ρ:Nat→Value)(d:Nat):Nat→Value:=fun i=>cond (Nat.beq i d) undef (ρ i)
def Li (N:Nat) (ρ:Nat→Value)(d:Nat)(c x y:Operand):Nat→Value:=fun i=>cond (Nat.beq i d) (match Ba N ρ c with
 |.bool true=>Ba N ρ x
 |_=>Ba N ρ y) (ρ i)
def KH (ops:Array Oper)(N:Nat)(o:Oper)(k:Nat) (ρ:Nat→Value):Option (Nat→Value) :=
 cond (KG ops N ρ o.guard)
  (cond (Nat.ble k 2)
   (match o.dst with
   |none=>none
   |some d=>match o.op with
    |.move x=>some (L8 N ρ d x)
    |.assign x=>some (L8 N ρ d x)
    |.pick c x y=>match Ba N ρ c with
     |.bool _=>some (Li N ρ d c x y)
     |_=>none
    |_=>none) none)
  (match o.dst with
  |none=>some ρ
  |some d=>some (Lh ρ d))
def tv (ops:Array Oper)(N:Nat):Nat→List Oper→List Nat→(Nat→Value)→Option (List Oper×List Nat×(Nat→Value))
 |0,os,ks,ρ=>some (os,ks,ρ)
 |n+1,o::os,k::ks,ρ=>match KH ops N o k ρ with
  |some ρ'=>tv ops N n os ks ρ'
  |none=>none
 |_+1,_,_,_=>none
theorem Js {o:Oper}{k:Nat} {ρ':Nat→Value}(h:KH ops N o k ρ=some ρ')(hn:LW P ops w0 Q os ks (mk N ρ') w):LW P ops w0 Q (o::os) (k::ks) (mk N ρ) w:=by
 simp only[LW]
 rw[Jr]
 unfold KH at h
 cases hg:KG ops N ρ o.guard with
 |false =>
  rw[hg]at h
  rw[if_neg (by simp)]
  cases hd:o.dst with
  |none=>rw[hd]at h;cases h;exact hn
  |some d=>rw[hd]at h;injection h with h;rw[Cj,show C7 ρ d undef=ρ' from h];exact hn
 |true =>
  rw[hg]at h
  rw[if_pos rfl]
  cases hk:Nat.ble k 2 with
  |false=>rw[hk]at h;cases h
  |true =>
   rw[hk]at h
   have hk2:k≤2:=by simpa using hk
   unfold B9
   rw[if_pos hk2]
   cases hd:o.dst with
   |none=>rw[hd]at h;cases h
   |some d =>
    rw[hd]at h
    have key:∀v,ρ'=C7 ρ d v→(∀w',(execOp (Ba N ρ) o).run P w'=.ok (.value v) w')→∃v,(∀w',Cl w0 w k w'→YA P o (mk N ρ) w' v)∧LW P ops w0 Q os ks ((mk N ρ).put (some d) v) w:=fun v hv hr =>
     ⟨v,fun w' _=>.inl (by rw[BB];exact hr w'),by rw[Cj,← hv];exact hn⟩
    obtain⟨od,oop,oty,opos,oaft,og⟩:=o
    dsimp only at h
    cases oop with
    |move x=>injection h with h;exact key (Ba N ρ x) h.symm fun w'=>by simp[execOp]
    |assign x=>injection h with h;exact key (Ba N ρ x) h.symm fun w'=>by simp[execOp]
    |pick c x y =>
     dsimp only at h
     split at h
     ·rename_i bb hc;injection h with h
      refine key (match Ba N ρ c with
       |.bool true=>Ba N ρ x
       |_=>Ba N ρ y) h.symm fun w'=>?_
      rw[hc]
      cases bb <;> simp[execOp,hc,asBool]
     ·cases h
    |_=>cases h
theorem Ag {os':List Oper}{ks':List Nat} {ρ':Nat→Value}(n:Nat)(h:tv ops N n os ks ρ=some (os',ks',ρ'))(hn:LW P ops w0 Q os' ks' (mk N ρ') w):LW P ops w0 Q os ks (mk N ρ) w:=by
 induction n generalizing os ks ρ with
 |zero =>
  have h':(os,ks,ρ)=(os',ks',ρ'):=by injection h
  cases h';exact hn
 |succ n ih =>
  cases os with
  |nil=>cases ks <;> cases h
  |cons o os =>
   cases ks with
   |nil=>cases h
   |cons k ks =>
    have h':(match KH ops N o k ρ with|some ρ'=>tv ops N n os ks ρ'|none=>none)=some (os',ks',ρ'):=h
    split at h'
    ·rename_i r hr;exact Js hr (ih h')
    ·cases h'
theorem Ac {ks':List Nat} {ρ':Nat→Value}(n:Nat)(h:tv ops N n os ks ρ=some ([],ks',ρ'))(hn:Q (mk N ρ') w):LW P ops w0 Q os ks (mk N ρ) w :=
 Ag n h (show LW P ops w0 Q [] ks' (mk N ρ') w from hn)
end ops
theorem L9 {P : Program}{y : Code}{id : Nat}{Q : Exit → Act → World → Prop}{a : Act}{w : World}{os : List Oper}(ks : List Nat)(hk : ks.all (· != 1)=true)(h : LW P os.toArray w (fun a w => y.wp P Q a w) os ks a w) : (Code.seq (Code.region id os.toArray false) y).wp P Q a w := A0 (Ab os ks hk h)
theorem La {P : Program}{y : Code}{id : Nat}{Q : Exit → Act → World → Prop}{w : World}{o : Oper}{N : Nat} {ρ ρ' : Nat → Value}{ks' : List Nat}(h : tv #[o] N 1 [o] [0] ρ=some ([], ks', ρ'))(hn : y.wp P Q (mk N ρ') w) : (Code.seq (Code.region id #[o] false) y).wp P Q (mk N ρ) w := A0 (Ab [o] [0] rfl (Ac 1 h hn))
end
theorem Lj (B U:Nat)(H:Array Obj){u:Value}(h:u.cells=#[u]∧u.oneCell'=true):Fr rV B U H u u:=⟨[],⟨rfl,rfl,h.1,h.2⟩,zk,fun c hc=>by cases hc⟩
section
def BX (H:Array Obj)(g:Nat)(cs:List Value):Prop:=∃e,H[g]? = some (.cells cs.toArray e (0,0))
theorem BX.lt {H:Array Obj}{g:Nat}{cs:List Value}(h:BX H g cs):g<H.size:=by obtain⟨e,h⟩:=h;exact getElem?_lt h
theorem BX.ext {w w':World}{g:Nat}{cs:List Value}(h:BX w.heap g cs)(k:Az w w'):BX w'.heap g cs:=by
 have hl:=h.lt
 obtain⟨e,h⟩:=h
 exact⟨e,by rw[k.heap hl];exact h⟩
theorem BX.chg {w w':World}{g:Nat}{cs:List Value}{F:List Nat}(h:BX w.heap g cs)(k:AG F w w')(hg:g∉F):BX w'.heap g cs:=by
 have hl:=h.lt
 obtain⟨e,h⟩:=h
 exact⟨e,by rw[k.block g hl hg];exact h⟩
theorem Lb (x:UInt8):-9223372036854775808≤((x.toNat:Nat):Int)∧((x.toNat:Nat):Int)≤9223372036854775807:=by
 have:=x.toNat_lt;omega
theorem w8 (x:UInt8):IntKind.i64.wrap ((x.toNat:Nat):Int)=((x.toNat:Nat):Int):=Dy (Lb x).1 (Lb x).2
section ops
variable {P:Program} {ops:Array Oper} {w0:World} {Q:Act→World→Prop} {os:List Oper} {ks:List Nat} {N:Nat} {ρ:Nat→Value} {w:World}
 {d:Nat} {ty:TypeId} {pos:String} {aft:Array Edge} {g:Option (Nat×Bool)} {t e:TypeId}
theorem Bm {st:TypeId}{x y:Operand}{b k:Nat}{u:Value}{cs:List Value}(hst:(P.info? st).map (·.size)=some 1)(hx:Ba N ρ x=.pointer (some ⟨b,k,none⟩))(hy:Ba N ρ y=u)(hc:u.cells=#[u]∧u.oneCell'=true)
  (hb:BX w.heap b cs) (hk:k<cs.length) (hu:Up ops N ρ ⟨none,.store st x y,ty,pos,aft,g⟩)
  (h:∀w1,AG [b] w w1→w1.heap.size=w.heap.size→BX w1.heap b (cs.set k u)→LW P ops w0 Q os ks (mk N ρ) w1) :
  LW P ops w0 Q (⟨none,.store st x y,ty,pos,aft,g⟩::os) (4::ks) (mk N ρ) w:=by
 obtain⟨e,hb⟩:=hb
 have hr:=EE (P:=P) hst hb (j:=k) (by simpa using hk) hc.1 hc.2
 refine Iy rfl hu _ (CQ hx hy hr)<|h _ (GK _ _ _ _) (by simp[World.setCell]) ⟨e,?_⟩
 rw[G8 hb]
 simp
theorem Bb {parts:Array (Nat×Operand)}{ps:Array (Nat×Value)}(u:Value)(hp:(parts.map fun(i,x)=>(i,Ba N ρ x))=ps)(hr:∀w',(Instr.build t ps).run P w'=.ok u w')(hu:Up ops N ρ ⟨some d,.build t parts,ty,pos,aft,g⟩)
  (h:LW P ops w0 Q os ks (mk N (C7 ρ d u)) w):LW P ops w0 Q (⟨some d,.build t parts,ty,pos,aft,g⟩::os) (0::ks) (mk N ρ) w :=
 BV (by decide) rfl hu _ (fun w' _=>by subst hp;simp[execOp,hr w']) h
theorem Bf {x:Operand}{cs:Array Value}(hx:Ba N ρ x=.agg cs)(hu:Up ops N ρ ⟨some d,.box t x,ty,pos,aft,g⟩)
  (h:∀w1,Az w w1→w1.heap.size=w.heap.size+1→BX w1.heap w.heap.size cs.toList→LW P ops w0 Q os ks (mk N (C7 ρ d (.pointer (some ⟨w.heap.size,0,none⟩)))) w1) :
  LW P ops w0 Q (⟨some d,.box t x,ty,pos,aft,g⟩::os) (3::ks) (mk N ρ) w:=by
 have hrun:(execOp (Ba N ρ) ⟨some d,.box t x,ty,pos,aft,g⟩).run P w=.ok (.value (.pointer (some ⟨w.heap.size,0,none⟩))) (w.alloc (.cells cs t)):=by
  simp[execOp,Instr.box,newVar,newRow,hx,Value.cells]
 refine G5 rfl hu _ _ hrun (Bl _ _)<|h _ (Bl _ _) (by simp) ⟨t,?_⟩
 have:=heap_alloc_new w (.cells cs t)
 simpa using this
end ops
end
section
abbrev B0 (α:Type):=Array Obj→List Value→α→List Nat→Prop
structure Bj {α:Type}(s:Nat)(E:B0 α):Prop where
 len:∀ {H cs x F},E H cs x F→cs.length=s
 one:∀ {H cs x F},E H cs x F→∀u∈cs,u.cells=#[u]∧u.oneCell'=true
 lt:∀ {H cs x F},E H cs x F→∀b∈F,b<H.size
 stable:∀ {H H' cs x F},E H cs x F→(∀b∈F,H'[b]? = H[b]?)→E H' cs x F
def Bg {α:Type}(E:B0 α)(H:Array Obj):List (List Value)→List α→List Nat→Prop
 |[],[],F=>F=[]
 |c::css,x::xs,F=>∃F1 F2,F=F1++F2∧E H c x F1∧Bg E H css xs F2
 |_,_,_=>False
section Bg
variable {α:Type} {E:B0 α} {s:Nat} {H H':Array Obj}
theorem Bg.length:∀ {css:List (List Value)}{xs:List α}{F:List Nat},Bg E H css xs F→css.length=xs.length
 |[],[],_,_=>rfl
 |_::_,_::_,_,⟨_,_,_,_,h⟩=>by simp[Bg.length h]
 |[],_::_,_,h=>h.elim
 |_::_,[],_,h=>h.elim
theorem Bg.stable (hE:Bj s E):∀ {css:List (List Value)}{xs:List α}{F:List Nat},Bg E H css xs F→(∀b∈F,H'[b]? = H[b]?)→Bg E H' css xs F
 |[],[],_,h,_=>h
 |_::_,_::_,_,⟨F1,F2,rfl,h1,h2⟩,hb =>
  ⟨F1,F2,rfl,hE.stable h1 fun b hh=>hb b (z8 _ hh),Bg.stable hE h2 fun b hh=>hb b (z1 _ hh)⟩
 |[],_::_,_,h,_=>h.elim
 |_::_,[],_,h,_=>h.elim
theorem Bg.lt (hE:Bj s E):∀ {css:List (List Value)}{xs:List α}{F:List Nat},Bg E H css xs F→∀b∈F,b<H.size
 |[],[],_,h,b,hb=>by rw[show _=[]from h]at hb;cases hb
 |_::_,_::_,_,⟨F1,F2,rfl,h1,h2⟩,b,hb=>(zi.1 hb).elim (hE.lt h1 b) (Bg.lt hE h2 b)
 |[],_::_,_,h,_,_=>h.elim
 |_::_,[],_,h,_,_=>h.elim
theorem Bg.get (hE:Bj s E):∀ {css:List (List Value)}{xs:List α}{F:List Nat}{k:Nat}(d:α),Bg E H css xs F→k<xs.length →
  ∃cs F1,E H cs (xs.getD k d) F1∧(∀b∈F1,b∈F)∧∀i,i<s→css.flatten[k*s+i]? = some (cs.getD i undef)
 |c::css,x::xs,_,0,d,⟨F1,F2,rfl,h1,h2⟩,_=>⟨c,F1,h1,fun b hb=>z8 _ hb,fun i hi=>by
   have hl:=hE.len h1
   rw[List.flatten_cons,Nat.zero_mul,Nat.zero_add,List.getElem?_append_left (by omega)]
   simp[hl,hi]⟩
 |c::css,x::xs,_,k+1,d,⟨F1,F2,rfl,h1,h2⟩,hk=>by
  obtain⟨cs,G,q1,q2,q3⟩:=Bg.get hE d h2 (by simpa using hk)
  refine⟨cs,G,by simpa using q1,fun b hh=>z1 _ (q2 b hh),fun i hi=>?_⟩
  have hl:=hE.len h1
  have e:(k+1)*s+i=c.length+(k*s+i):=by rw[Nat.succ_mul,hl];omega
  rw[List.flatten_cons,e,List.getElem?_append_right zO,Nat.add_sub_cancel_left]
  exact q3 i hi
 |[],[],_,_,_,_,hk=>by simp at hk
 |[],_::_,_,_,_,h,_=>h.elim
theorem Bg.append:∀ {us vs:List (List Value)}{xs ys:List α}{F G:List Nat},Bg E H us xs F→Bg E H vs ys G→Bg E H (us++vs) (xs++ys) (F++G)
 |[],_,[],_,_,_,h,k=>by rw[show _=[]from h];exact k
 |_::_,_,_::_,_,_,_,⟨F1,F2,rfl,h1,h2⟩,k=>⟨F1,_,by rw[List.append_assoc],h1,Bg.append h2 k⟩
 |[],_,_::_,_,_,_,h,_=>h.elim
 |_::_,_,[],_,_,_,h,_=>h.elim
theorem Bg.flen (hE:Bj s E):∀ {css:List (List Value)}{xs:List α}{F:List Nat},Bg E H css xs F→css.flatten.length=xs.length*s
 |[],[],_,_=>by simp
 |c::css,x::xs,_,⟨F1,F2,rfl,h1,h2⟩=>by
  rw[List.flatten_cons,z4,hE.len h1,Bg.flen hE h2,z9,Nat.succ_mul];omega
 |[],_::_,_,h=>h.elim
 |_::_,[],_,h=>h.elim
theorem Bg.one (hE:Bj s E):∀ {css:List (List Value)}{xs:List α}{F:List Nat},Bg E H css xs F→∀u∈css.flatten,u.cells=#[u]∧u.oneCell'=true
 |[],[],_,_,u,hu=>by cases hu
 |_::_,_::_,_,⟨F1,F2,rfl,h1,h2⟩,v,hv=>by
  rw[List.flatten_cons]at hv
  exact (zi.1 hv).elim (hE.one h1 v)<|Bg.one hE h2 v
 |[],_::_,_,h,_,_=>h.elim
 |_::_,[],_,h,_,_=>h.elim
end Bg
def Ct {α:Type}(s:Nat)(E:B0 α):Bu (List α):=fun H v xs F =>
 (∃a cap,v=.slice a 0 cap∧xs=[]∧F=[]) ∨
 ∃css g off cap cur e fr F',Bg E H css xs F'∧v=.slice (some ⟨g,off,none⟩) xs.length cap∧H[g]? = some (.cells cur e fr)∧(cur.toList.drop off).take (xs.length*s)=css.flatten∧(xs.length≤maxLen∧xs.length≤cap)∧F=g::F'
def LD (H:Array Obj)(p:Value)(cs:List Value):Prop:=∃g o,p=.pointer (some ⟨g,o,none⟩)∧∀i,i<cs.length→Bt H g (o+i)=some (cs.getD i undef)
def Ar (p:Value)(k:Nat):Value :=
 match p with
 |.pointer (some ⟨g,o,none⟩)=>.pointer (some ⟨g,o+k,none⟩)
 |_=>undef
theorem LD.ld {H:Array Obj}{p:Value}{cs:List Value}(h:LD H p cs){i:Nat}(hi:i<cs.length):FY H (Ar p i)=some (cs.getD i undef):=by
 obtain⟨g,o,rfl,h⟩:=h
 exact h i hi
theorem Dz (g off n cap k s:Nat):AE (.slice (some ⟨g,off,none⟩) n cap) k s=.pointer (some ⟨g,off+k*s,none⟩):=by
 unfold AE Addr.add
 simp only
 split
 ·rename_i h;rw[h];rfl
 ·rfl
section Ct
variable {α:Type} {E:B0 α} {s:Nat} {H H':Array Obj} {v:Value} {xs:List α} {F:List Nat}
theorem Ax (hE:Bj s E):Ck (Ct s E) where
 cells:=by
  rintro H v xs F (⟨a,cap,rfl,_⟩|⟨us,g,off,cap,cur,e,fr,F',_,rfl,_⟩) <;> rfl
 one:=by
  rintro H v xs F (⟨a,cap,rfl,_⟩|⟨us,g,off,cap,cur,e,fr,F',_,rfl,_⟩) <;> rfl
 lt:=by
  rintro H v xs F (⟨a,cap,rfl,_,rfl⟩|⟨us,g,off,cap,cur,e,fr,F',h,rfl,hg,_,_,rfl⟩) b hb
  ·cases hb
  ·rcases ze.1 hb with rfl|hb
   ·exact getElem?_lt hg
   ·exact h.lt hE b hb
 stable:=by
  rintro H H' v xs F (⟨a,cap,rfl,h1,h2⟩|⟨us,g,off,cap,cur,e,fr,F',h,rfl,hg,hw,hml,rfl⟩) hb
  ·exact .inl ⟨a,cap,rfl,h1,h2⟩
  ·exact .inr ⟨us,g,off,cap,cur,e,fr,F',h.stable hE fun b hh=>hb b<|z3 _ hh,rfl,by rw[hb g (z0 ..)];exact hg,hw,hml,rfl⟩
theorem Ct.isSl (h:Ct s E H v xs F):EC v xs.length:=by
 rcases h with⟨a,cap,rfl,rfl,_⟩|⟨us,g,off,cap,cur,e,fr,F',_,rfl,_⟩
 ·exact⟨a,cap,rfl,fun _=>rfl⟩
 ·exact⟨_,cap,rfl,fun h=>by cases h⟩
theorem Ct.lenle (h:Ct s E H v xs F):xs.length≤maxLen:=by
 rcases h with⟨a,cap,_,rfl,_⟩|⟨us,g,off,cap,cur,e,fr,F',_,_,_,_,h,_⟩
 ·simp
 ·exact h.1
theorem Ct.cap (h:Ct s E H v xs F):∃a c,v=.slice a xs.length c∧xs.length≤c:=by
 rcases h with⟨a,cap,rfl,rfl,_⟩|⟨us,g,off,cap,cur,e,fr,F',_,rfl,_,_,h,_⟩
 ·exact⟨a,cap,rfl,Nat.zero_le _⟩
 ·exact⟨_,cap,rfl,h.2⟩
theorem Fy (hE:Bj s E):∀ {css:List (List Value)}{xs:List α}{F:List Nat}(k:Nat),Bg E H css xs F→∃G,Bg E H (css.take k) (xs.take k) G∧∀b∈G,b∈F
 |[],[],F,k,h=>⟨[],by simp[Bg],fun b hb=>by cases hb⟩
 |c::css,x::xs,F,0,h=>⟨[],by simp[Bg],fun b hb=>by cases hb⟩
 |c::css,x::xs,_,k+1,⟨F1,F2,rfl,h1,h2⟩=>by
  obtain⟨G,g1,g2⟩:=Fy hE k h2
  exact⟨F1++G,⟨F1,G,rfl,h1,g1⟩,fun b hb=>(zi.1 hb).elim (fun h=>z8 _ h) (fun h=>z1 _ (g2 b h))⟩
 |[],_::_,_,_,h=>h.elim
 |_::_,[],_,_,h=>h.elim
theorem Ct.take (hE:Bj s E){k:Nat}{a:Option Addr}{n c:Nat}(h:Ct s E H (.slice a n c) xs F)(hk:k≤xs.length):∃G,Ct s E H (.slice a k c) (xs.take k) G∧∀b∈G,b∈F:=by
 rcases h with⟨a',cap,hv,rfl,_⟩|⟨us,g,off,cap,cur,e,fr,F',h,hv,hg,hw,hl,rfl⟩
 ·have:k=0:=by simpa using hk
  subst this
  exact⟨[],.inl ⟨a,c,rfl,by simp,rfl⟩,fun b hb=>by cases hb⟩
 ·injection hv with h1 h2 h3
  subst h1;subst h2;subst h3
  obtain⟨G,g1,g2⟩:=Fy hE k h
  have hkl:(xs.take k).length=k:=by rw[List.length_take];omega
  refine⟨g::G,.inr ⟨us.take k,g,off,c,cur,e,fr,G,g1,by rw[hkl],hg,?_,by rw[hkl];omega,rfl⟩,fun b hb=>?_⟩
  ·have hf:=h.flen hE
   have ht:=g1.flen hE
   rw[hkl]at ht
   rw[hkl]
   have e1:us.flatten=(us.take k).flatten++(us.drop k).flatten:=by rw[← List.flatten_append,List.take_append_drop]
   have e2:(cur.toList.drop off).take (k*s)=((cur.toList.drop off).take (xs.length*s)).take (k*s):=by
    rw[List.take_take,Nat.min_eq_left (Nat.mul_le_mul_right s hk)]
   rw[e2,hw,e1,← ht,List.take_left]
  ·rcases ze.1 hb with rfl|hb
   ·exact z0 ..
   ·exact z3 _<|g2 b hb
theorem Ct.get (hE:Bj s E)(d:α){k:Nat}(h:Ct s E H v xs F)(hk:k<xs.length) :
  ∃cs F1,E H cs (xs.getD k d) F1∧(∀b∈F1,b∈F)∧∀H':Array Obj,(∀b∈F,H'[b]? = H[b]?)→LD H' (AE v k s) cs:=by
 rcases h with⟨a,cap,rfl,rfl,_⟩|⟨css,g,off,cap,cur,e,fr,F',h,rfl,hg,hw,_,rfl⟩
 ·simp at hk
 ·obtain⟨cs,F1,q1,q2,q3⟩:=h.get hE d hk
  refine⟨cs,F1,q1,fun b hb=>z3 _ (q2 b hb),fun H' hH=>⟨g,off+k*s,Dz ..,fun i hi=>?_⟩⟩
  rw[hE.len q1]at hi
  have h1:=q3 i hi
  have hlt:k*s+i<xs.length*s:=by
   have:(k+1)*s≤xs.length*s:=Nat.mul_le_mul_right s hk
   rw[Nat.succ_mul]at this;omega
  rw[← hw,List.getElem?_take,if_pos hlt,List.getElem?_drop]at h1
  simp only[Bt,hH g (z0 ..),hg]
  rw[Nat.add_assoc]
  simpa using h1
end Ct
def RN {β α:Type}(S:List Nat)(E:Array Obj→β→α→List Nat→Prop)(H:Array Obj)(v:β)(x:α):Prop:=∃F,E H v x F∧∀b∈F,b∉S
section rn
variable {α:Type} {S:List Nat} {w w':World} {s:Nat} {E:B0 α} {v:Value} {xs:List α} {cs:List Value} {x:α}
theorem RN.ext {E:Bu α}(hE:Ck E)(h:RN S E w.heap v x)(c:Az w w'):RN S E w'.heap v x:=by
 obtain⟨F,h,hb⟩:=h
 exact⟨F,hE.stable h fun b hm=>c.heap (hE.lt h b hm),hb⟩
theorem RN.rd {E:Bu α}{H:Array Obj}(h:RN S E H v x):Rd E H v x:=by obtain⟨F,h,_⟩:=h;exact⟨F,h⟩
theorem RN.isSl {H:Array Obj}(h:RN S (Ct s E) H v xs):EC v xs.length:=by obtain⟨F,h,_⟩:=h;exact h.isSl
theorem RN.lenle {H:Array Obj}(h:RN S (Ct s E) H v xs):xs.length≤maxLen:=by obtain⟨F,h,_⟩:=h;exact h.lenle
theorem RN.get (hE:Bj s E)(d:α){k:Nat}(h:RN S (Ct s E) w.heap v xs)(hk:k<xs.length) :
  ∃cs,RN S E w.heap cs (xs.getD k d)∧∀w',AG S w w'→LD w'.heap (AE v k s) cs:=by
 obtain⟨F,h,hb⟩:=h
 have hlt:=(Ax hE).lt h
 obtain⟨cs,F1,q1,q2,q3⟩:=Ct.get hE d h hk
 exact⟨cs,⟨F1,q1,fun b hm=>hb b (q2 b hm)⟩,fun w' c=>q3 _ fun b hm=>c.block b (hlt b hm) (hb b hm)⟩
end rn
theorem AG.of_ext {w w':World}(S:List Nat)(h:Az w w'):AG S w w':=⟨h.os,h.tape,h.output,h.size,fun k hk _=>h.heap hk⟩
def Cb (P:Program)(t:TypeId)(s:Nat):Bool :=
 (match P.underlying t with|some (.struct _)=>true|_=>false) && (match P.info? t with|some i=>i.size == s|none=>false)
def Ei (P:Program)(s:TypeId)(i off:Nat):Bool :=
 match P.underlying s with
 |some (.struct fs) =>
  match fs[i]? with
  |some f=>(f.offset == off) && (match P.info? f.type with|some inf=>inf.size != 0|none=>false)
  |none=>false
 |_=>false
section ops
variable {P:Program} {ops:Array Oper} {w0:World} {Q:Act→World→Prop} {os:List Oper} {ks:List Nat} {N:Nat} {ρ:Nat→Value} {w:World}
 {d:Nat} {ty:TypeId} {pos:String} {aft:Array Edge} {g:Option (Nat×Bool)} {t e:TypeId}
theorem EF (b o k:Nat):(⟨b,o,none⟩:Addr).add k=⟨b,o+k,none⟩:=by
 unfold Addr.add
 split
 ·rename_i h;rw[h];rfl
 ·rfl
theorem Ao {s:TypeId}{x:Operand}{i:Nat}{p:Value}{b o:Nat}(off:Nat)(hf:Ei P s i off=true)(hx:Ba N ρ x=p)(hp:p=.pointer (some ⟨b,o,none⟩))(hu:Up ops N ρ ⟨some d,.fieldAddr s x i,ty,pos,aft,g⟩)
  (h:LW P ops w0 Q os ks (mk N (C7 ρ d (Ar p off))) w):LW P ops w0 Q (⟨some d,.fieldAddr s x i,ty,pos,aft,g⟩::os) (0::ks) (mk N ρ) w :=
 BV (by decide) rfl hu _ (fun w' _=>by
  subst hp
  unfold Ei at hf
  split at hf
  ·rename_i fs hfs
   split at hf
   ·rename_i f hff
    simp only[z7,beq_iff_eq]at hf
    obtain⟨rfl,hf2⟩:=hf
    split at hf2
    ·rename_i inf hin
     have hne:inf.size≠0:=by simpa using hf2
     simp[execOp,Instr.fieldAt,Instr.sureAddr,run_underlying hfs,hff,hx,fieldPlace,sizeOf,typeInfo,hin,hne,EF,Ar]
    ·cases hf2
   ·cases hf
  ·cases hf) h
theorem LD.ptr {H:Array Obj}{p:Value}{cs:List Value}(h:LD H p cs):∃b o,p=.pointer (some ⟨b,o,none⟩):=by obtain⟨b,o,h,_⟩:=h;exact⟨b,o,h⟩
theorem Av {s:TypeId}{x:Operand}{i:Nat}{p:Value}{H:Array Obj}{cs:List Value}(off:Nat)(hf:Ei P s i off=true)(hx:Ba N ρ x=p)(hp:LD H p cs)(hu:Up ops N ρ ⟨some d,.fieldAddr s x i,ty,pos,aft,g⟩)
  (h:LW P ops w0 Q os ks (mk N (C7 ρ d (Ar p off))) w):LW P ops w0 Q (⟨some d,.fieldAddr s x i,ty,pos,aft,g⟩::os) (0::ks) (mk N ρ) w:=by
 obtain⟨b,o,hp⟩:=hp.ptr
 exact Ao off hf hx hp hu h
theorem Hl {s:Nat}(ht:Cb P t s=true){p:Value}{cs:List Value}(h:LD w.heap p cs)(hl:cs.length=s):(Instr.loadAt t p).run P w=.ok (.agg cs.toArray) w:=by
 obtain⟨b,o,rfl,h⟩:=h
 unfold Cb at ht
 simp only[z7]at ht
 obtain⟨h1,h2⟩:=ht
 split at h1
 ·rename_i fs hfs
  split at h2
  ·rename_i inf hin
   have hs:inf.size=s:=by simpa using h2
   have hag:(isAgg t).run P w=.ok true w:=by
    unfold isAgg
    simp only[Sem.run_bind,run_underlying hfs,Result.andThen_ok]
    rfl
   have hlc:=run_loadCells_list (P:=P) w ⟨b,o,none⟩ cs (fun j v hj=>by
    rw[EF,BN]
    have hjl:j<cs.length:=(List.getElem?_eq_some_iff.1 hj).1
    rw[h j hjl]
    simp[List.getD,hj])
   rw[hl,← hs]at hlc
   simp[Instr.loadAt,Instr.sureAddr,loadVar,hag,sizeOf,typeInfo,hin,hlc]
  ·cases h2
 ·cases h1
theorem Au {k s:Nat}(hk:k=1∨k=2){x:Operand}{p:Value}(cs:List Value)(ht:Cb P t s=true)(hx:Ba N ρ x=p)(hc:∀w',Az (if k=1 then w0 else w) w'→LD w'.heap p cs)(hl:cs.length=s)
  (hu:Up ops N ρ ⟨some d,.load t x,ty,pos,aft,g⟩)
  (h:LW P ops w0 Q os ks (mk N (C7 ρ d (.agg cs.toArray))) w):LW P ops w0 Q (⟨some d,.load t x,ty,pos,aft,g⟩::os) (k::ks) (mk N ρ) w :=
 BV zO rfl hu _ (fun w' hcl=>by
  have hld:LD w'.heap p cs:=by
   rcases hk with rfl|rfl
   ·exact hc w' hcl
   ·exact hc w' hcl
  simp[execOp,hx,Hl ht hld hl]) h
theorem LD.of_box {H:Array Obj}{b:Nat}{cs:List Value}(h:BX H b cs):LD H (.pointer (some ⟨b,0,none⟩)) cs:=by
 obtain⟨e,h⟩:=h
 refine⟨b,0,rfl,fun i hi=>?_⟩
 simp only[Bt,h]
 simp[hi]
theorem BX.ldp {H:Array Obj}{b:Nat}{cs:List Value}(h:BX H b cs){i:Nat}(hi:i<cs.length):FY H (Ar (.pointer (some ⟨b,0,none⟩)) i)=some (cs.getD i undef):=(LD.of_box h).ld hi
theorem AI {z:Value}(hz:(P.info? t).map (·.zero)=some (some z))(hu:Up ops N ρ ⟨some d,.alloc t,ty,pos,aft,g⟩)
  (h:∀w1,Az w w1→w1.heap.size=w.heap.size+1→BX w1.heap w.heap.size z.cells.toList→LW P ops w0 Q os ks (mk N (C7 ρ d (.pointer (some ⟨w.heap.size,0,none⟩)))) w1) :
  LW P ops w0 Q (⟨some d,.alloc t,ty,pos,aft,g⟩::os) (3::ks) (mk N ρ) w:=by
 obtain⟨i,hi1,hi2⟩:=Option.map_eq_some_iff.1 hz
 have hrun:(execOp (Ba N ρ) ⟨some d,.alloc t,ty,pos,aft,g⟩).run P w=.ok (.value (.pointer (some ⟨w.heap.size,0,none⟩))) (w.alloc (.cells z.cells t)):=by
  simp[execOp,Instr.alloc,zeroValue,typeInfo,hi1,hi2,newVar,newRow]
 refine G5 rfl hu _ _ hrun (Bl _ _)<|h _ (Bl _ _) (by simp) ⟨t,?_⟩
 have:=heap_alloc_new w (.cells z.cells t)
 simpa using this
theorem AP {x y:Operand}{b s:Nat}{vs cs:List Value}(ht:Cb P t s=true)(hx:Ba N ρ x=.pointer (some ⟨b,0,none⟩))(hy:Ba N ρ y=.agg vs.toArray)(h1:∀u∈vs,u.cells=#[u]∧u.oneCell'=true)
  (hb:BX w.heap b cs) (hl:vs.length=s) (hl2:cs.length=s) (hu:Up ops N ρ ⟨none,.store t x y,ty,pos,aft,g⟩)
  (h:∀w1,AG [b] w w1→w1.heap.size=w.heap.size→BX w1.heap b vs→LW P ops w0 Q os ks (mk N ρ) w1) :
  LW P ops w0 Q (⟨none,.store t x y,ty,pos,aft,g⟩::os) (4::ks) (mk N ρ) w:=by
 obtain⟨e,hb⟩:=hb
 unfold Cb at ht
 simp only[z7]at ht
 obtain⟨q1,q2⟩:=ht
 split at q2
 ·rename_i inf hin
  have hs:inf.size=s:=by simpa using q2
  have hst:=run_storeCells_at (P:=P) b 0 e vs 0 cs.toArray w hb (by simp;omega) fun v hv=>(h1 v hv).2
  have hcs:(cs.toArray.toList.take (0+0)++vs++cs.toArray.toList.drop (0+0+vs.length))=vs:=by
   simp[List.drop_of_length_le (show cs.length≤vs.length by omega)]
  rw[hcs]at hst
  have hr:(Instr.storeAt t (.pointer (some ⟨b,0,none⟩)) (.agg vs.toArray)).run P w=.ok () (w.setRow b vs.toArray):=by
   simp[Instr.storeAt,Instr.sureAddr,storeVar,sizeOf,typeInfo,hin,Value.cells,hl,hs,hst]
  refine Iy rfl hu _ (CQ hx hy hr)<|h _ ⟨rfl,rfl,rfl,by simp,fun k _ hk=>setRow_other w b k _ (by simpa using hk)⟩ (by simp) ⟨e,setRow_heap w b _ _ _ _ hb⟩
 ·cases q2
end ops
end
section
inductive Ex where
 |mk (kind num pick count:Int) (kids:List Ex)
namespace Ex
def kind:Ex→Int|mk k _ _ _ _=>k
def num:Ex→Int|mk _ n _ _ _=>n
def pick:Ex→Int|mk _ _ p _ _=>p
def count:Ex→Int|mk _ _ _ c _=>c
def kids:Ex→List Ex|mk _ _ _ _ l=>l
def zero:Ex:=mk 0 0 0 0 []
end Ex
abbrev BF (x:Int):Prop:=-9223372036854775808≤x∧x≤9223372036854775807
def Ch (e:Ex)(v:Value):List Value:=[.int .i64 e.kind,.int .i64 e.num,.int .i64 e.pick,.int .i64 e.count,v]
structure Iu (e:Ex):Prop where
 kind:BF e.kind
 num:BF e.num
 pick:BF e.pick
 count:BF e.count
def DL:Nat→B0 Ex
 |0=>fun _ _ _ _=>False
 |d+1=>fun H cs e F=>∃v,cs=Ch e v∧Iu e∧Ct 5 (DL d) H v e.kids F
theorem AB:∀d,Bj 5 (DL d)
 |0=>⟨fun h=>h.elim,fun h=>h.elim,fun h=>h.elim,fun h=>h.elim⟩
 |d+1=>by
  have ih:=AB d
  refine⟨?_,?_,?_,?_⟩
  ·rintro H cs e F ⟨v,rfl,_,_⟩;rfl
  ·rintro H cs e F ⟨v,rfl,_,h⟩ u hu
   unfold Ch at hu
   simp only[ze,z2,or_false]at hu
   rcases hu with rfl|rfl|rfl|rfl|rfl
   ·exact⟨rfl,rfl⟩
   ·exact⟨rfl,rfl⟩
   ·exact⟨rfl,rfl⟩
   ·exact⟨rfl,rfl⟩
   ·exact⟨(Ax ih).cells h,(Ax ih).one h⟩
  ·rintro H cs e F ⟨v,rfl,_,h⟩ b hb
   exact (Ax ih).lt h b hb
  ·rintro H H' cs e F ⟨v,rfl,hr,h⟩ hb
   exact⟨v,rfl,hr,(Ax ih).stable h hb⟩
structure RX (S:List Nat)(d:Nat)(H:Array Obj)(v:Value)(e:Ex):Prop where
 rng:Iu e
 rn:RN S (Ct 5 (DL d)) H v e.kids
theorem RX.of {S:List Nat}{d:Nat}{H:Array Obj}{cs:List Value}{e:Ex}(h:RN S (DL d) H cs e):∃d' v,d=d'+1∧cs=Ch e v∧RX S d' H v e:=by
 obtain⟨F,h,hb⟩:=h
 cases d with
 |zero=>exact h.elim
 |succ d =>
  obtain⟨v,rfl,hr,h⟩:=h
  exact⟨d,v,rfl,rfl,hr,F,h,hb⟩
theorem RX.mk' {S:List Nat}{d:Nat}{H:Array Obj}{v:Value}{e:Ex}(h:RX S d H v e):RN S (DL (d+1)) H (Ch e v) e:=by
 obtain⟨hr,F,h,hb⟩:=h
 exact⟨F,⟨v,rfl,hr,h⟩,hb⟩
section rx
variable {S:List Nat} {d:Nat} {w w':World} {v:Value} {e:Ex}
theorem RX.ext (h:RX S d w.heap v e)(k:Az w w'):RX S d w'.heap v e:=⟨h.rng,h.rn.ext (Ax (AB d)) k⟩
theorem RX.ones {H:Array Obj}(h:RX S d H v e):∀u∈Ch e v,u.cells=#[u]∧u.oneCell'=true:=by
 obtain⟨F,h,_⟩:=h.mk'
 exact (AB (d+1)).one h
end rx
structure Fn where
 name:ByteArray
 params:Int
 outs:List Ex
def Fn.zero:Fn:=⟨.empty,0,[]⟩
def Ci (f:Fn)(v:Value):List Value:=[.string f.name,.int .i64 f.params,v]
def Jt (d:Nat):B0 Fn:=fun H cs f F=>∃v,cs=Ci f v∧BF f.params∧Ct 5 (DL d) H v f.outs F
theorem Aq (d:Nat):Bj 3 (Jt d):=by
 have ih:=Ax<|AB d
 refine⟨?_,?_,?_,?_⟩
 ·rintro H cs e F ⟨v,rfl,_,_⟩;rfl
 ·rintro H cs e F ⟨v,rfl,_,h⟩ u hu
  unfold Ci at hu
  simp only[ze,z2,or_false]at hu
  rcases hu with rfl|rfl|rfl
  ·exact⟨rfl,rfl⟩
  ·exact⟨rfl,rfl⟩
  ·exact⟨ih.cells h,ih.one h⟩
 ·rintro H cs e F ⟨v,rfl,_,h⟩ b hb
  exact ih.lt h b hb
 ·rintro H H' cs e F ⟨v,rfl,hr,h⟩ hb
  exact⟨v,rfl,hr,ih.stable h hb⟩
structure RF (S:List Nat)(d:Nat)(H:Array Obj)(v:Value)(f:Fn):Prop where
 rng:BF f.params
 rn:RN S (Ct 5 (DL d)) H v f.outs
theorem RF.of {S:List Nat}{d:Nat}{H:Array Obj}{cs:List Value}{f:Fn}(h:RN S (Jt d) H cs f):∃v,cs=Ci f v∧RF S d H v f:=by
 obtain⟨F,⟨v,rfl,hr,h⟩,hb⟩:=h
 exact⟨v,rfl,hr,F,h,hb⟩
theorem RF.one {S:List Nat}{d:Nat}{H:Array Obj}{v:Value}{f:Fn}(h:RF S d H v f):v.cells=#[v]∧v.oneCell'=true:=by
 obtain⟨_,F,h,_⟩:=h
 exact⟨(Ax (AB d)).cells h,(Ax (AB d)).one h⟩
theorem RF.ones {S:List Nat}{d:Nat}{H:Array Obj}{v:Value}{f:Fn}(h:RF S d H v f):∀u∈Ci f v,u.cells=#[u]∧u.oneCell'=true:=by
 intro u hu
 unfold Ci at hu
 simp only[ze,z2,or_false]at hu
 rcases hu with rfl|rfl|rfl
 ·exact⟨rfl,rfl⟩
 ·exact⟨rfl,rfl⟩
 ·exact h.one
abbrev RP (S:List Nat)(d:Nat)(H:Array Obj)(v:Value)(p:List Fn):Prop:=RN S (Ct 3 (Jt d)) H v p
theorem AM {v:Value}{n:Nat}(h:EC v n):v.cells=#[v]∧v.oneCell'=true:=by
 obtain⟨a,c,rfl,_⟩:=h;exact⟨rfl,rfl⟩
mutual
def Ex.size:Ex→Nat
 |.mk _ _ _ _ l=>1+Ex.sizes l
def Ex.sizes:List Ex→Nat
 |[]=>0
 |e::l=>e.size+Ex.sizes l
end
mutual
def Ex.deep:Ex→Nat
 |.mk _ _ _ _ l=>Ex.deeps l+1
def Ex.deeps:List Ex→Nat
 |[]=>0
 |e::l=>max e.deep (Ex.deeps l)
end
theorem Bv (e:Ex):e.size=1+Ex.sizes e.kids:=by cases e;rw[Ex.size];rfl
theorem Di (e:Ex):e.deep=Ex.deeps e.kids+1:=by cases e;rw[Ex.deep];rfl
theorem Gr (l:List Ex)(e:Ex):Ex.sizes (l++[e])=Ex.sizes l+e.size:=by
 induction l with
 |nil=>rw[zl,Ex.sizes,Ex.sizes,Ex.sizes];omega
 |cons x l ih=>rw[List.cons_append,Ex.sizes,Ex.sizes,ih];omega
theorem Gs (l:List Ex)(e:Ex):Ex.deeps (l++[e])=max (Ex.deeps l) e.deep:=by
 induction l with
 |nil=>rw[zl,Ex.deeps,Ex.deeps,Ex.deeps];omega
 |cons x l ih=>rw[List.cons_append,Ex.deeps,Ex.deeps,ih];omega
theorem Bp {l:List Ex}{k:Nat}(hk:k<l.length):Ex.sizes (l.take (k+1))=Ex.sizes (l.take k)+(l.getD k Ex.zero).size:=by
 rw[List.take_succ_eq_append_getElem hk,Gr]
 simp[hk]
theorem CR {l:List Ex}{k:Nat}(hk:k<l.length):Ex.deeps (l.take (k+1))=max (Ex.deeps (l.take k)) (l.getD k Ex.zero).deep:=by
 rw[List.take_succ_eq_append_getElem hk,Gs]
 simp[hk]
theorem Bq:∀(l:List Ex)(k:Nat),Ex.sizes (l.take k)≤Ex.sizes l
 |l,0=>by rw[List.take_zero,Ex.sizes];omega
 |[],k+1=>by simp
 |e::l,k+1=>by rw[List.take_succ_cons,Ex.sizes,Ex.sizes];have:=Bq l k;omega
theorem Da {l:List Ex}{k:Nat}(hk:k<l.length):(l.getD k Ex.zero).size≤Ex.sizes l:=by
 have h1:=Bp hk
 have h2:=Bq l (k+1)
 omega
theorem Cc:Ex.sizes []=0:=by rw[Ex.sizes]
theorem Fz:Ex.deeps []=0:=by rw[Ex.deeps]
theorem CN {l:List Ex}{k:Nat}(hk:l.length≤k):Ex.sizes (l.take k)=Ex.sizes l:=by rw[za hk]
theorem DX {l:List Ex}{k:Nat}(hk:l.length≤k):Ex.deeps (l.take k)=Ex.deeps l:=by rw[za hk]
mutual
theorem Cd:∀e:Ex,e.deep≤e.size
 |.mk _ _ _ _ l=>by rw[Ex.deep,Ex.size];have:=DA l;omega
theorem DA:∀l:List Ex,Ex.deeps l≤Ex.sizes l
 |[]=>by rw[Ex.deeps,Ex.sizes];omega
 |e::l=>by rw[Ex.deeps,Ex.sizes];have:=Cd e;have:=DA l;omega
end
section ops
variable {P:Program} {ops:Array Oper} {w0:World} {Q:Act→World→Prop} {os:List Oper} {ks:List Nat} {N:Nat} {ρ:Nat→Value} {w:World}
 {d:Nat} {ty:TypeId} {pos:String} {aft:Array Edge} {g:Option (Nat×Bool)}
theorem JP {t t':TypeId}{x y:Operand}{k:IntKind}{a b:Int}(c:Int)(hc:max a b=c)(hx:Ba N ρ x=.int k a)(hy:Ba N ρ y=.int k b)(hu:Up ops N ρ ⟨some d,.call ⟨.builtin .max,#[x,y],#[t,t']⟩,ty,pos,aft,g⟩)
  (h:LW P ops w0 Q os ks (mk N (C7 ρ d (.int k c))) w):LW P ops w0 Q (⟨some d,.call ⟨.builtin .max,#[x,y],#[t,t']⟩,ty,pos,aft,g⟩::os) (0::ks) (mk N ρ) w :=
 BV (by decide) rfl hu _ (fun w' _=>by
  have e:(if b > a then b else a)=c:=by omega
  simp[execOp,resolve,invoke,builtin,hx,hy,Builtin.max_,Builtin.max2,List.foldlM,e]) h
end ops
end
section
open Go Go.ChangeShapes Go.WideShapes Go.RowKit Go.Deep
theorem FL {n:Int}(h:(Lit.int .i64 n).wf=true):-9223372036854775808≤n∧n≤9223372036854775807:=by
 simp only[Lit.wf,z7,decide_eq_true_eq]at h
 exact h
section
variable {H:Type} {enc:TypeId × Value→H} {P:Program} {W:World}
theorem Az.trodAll (hl:laidOutB P=true){W':World}(hx:Az W W'):∀ {ts:List TypeId}{vs:List Value}{ds:List (DataW H)}{ps:List MemPlace},(∀t∈ts,P.readableRec t=true∧t<P.types.size)→(∀x∈ps,x.block<W.heap.size) →
  DataW.TrodAll enc P W 0 (fun _=>true) true ts vs ds ps→DataW.TrodAll enc P W' 0 (fun b=>decide (b<W.heap.size)) true ts vs ds ps
 |[],[],[],_,_,_,h=>h
 |t::ts,v::vs,d::ds,ps,hr,hlt,⟨p,q,h1,h2,e⟩=>by
  subst e
  exact⟨p,q,Below.trod hl (hr t (z0 ..)).1 (hr t (z0 ..)).2 h1 hx fun x hx=>hlt x (z8 _ hx),
   Az.trodAll hl hx (fun t ht=>hr t (z3 _ ht)) (fun x hx=>hlt x (z1 _ hx)) h2,rfl⟩
 |[],[],_::_,_,_,_,h=>h.elim
 |[],_::_,_,_,_,_,h=>h.elim
 |_::_,[],_,_,_,_,h=>h.elim
 |_::_,_::_,[],_,_,_,h=>h.elim
theorem HA {fn:Func}{s:ChangeSpec}{W':World}{args:Array Value}{ds:List (DataW H)}{before:List MemPlace}{tb:TypeId}(hl:laidOutB P=true)
  (hr:∀t∈fn.params.toList,P.readableRec t=true∧t<P.types.size) (hv:s.vars=[]) (hres:fn.resultTypes=#[tb]) (hb:P.underlying tb=some .bool)
  (hW:DataW.Whole enc P fn.params.toList s.vars false W args.toList ds [] before) (he:s.fn H (ds++[]) = { results:=[.lit (.bool true)],args:=ds }) (hx:Az W W') :
  s.post enc P fn false true false false W args (.bool true) W':=by
 have hW':=hW
 obtain⟨p,q,hA,hV,rfl,hfz,hnd⟩:=hW
 have hlt:∀x∈p++q,x.block<W.heap.size:=fun x hx=>hW'.lt x hx
 rw[hv]at hV
 obtain⟨_,rfl⟩:=trodVars_none hV
 refine⟨ds,[],_,[],p,[],hW',?_,?_,?_,Below.frame hx _,fun h=>by cases h⟩
 ·rw[he,hres];exact trodAll_mk1 (shut_bool hb true)
 ·rw[he];exact Az.trodAll hl hx hr (fun x hx=>hlt x (z8 _ hx)) hA
 ·rw[he,hv];rfl
end
end
section
def DU (s:ByteArray)(i:Nat):Nat:=((s[i]?).getD 0).toNat
section ops
variable {P:Program} {ops:Array Oper} {w0:World} {Q:Act→World→Prop} {os:List Oper} {ks:List Nat} {N:Nat} {ρ:Nat→Value} {w:World}
 {d:Nat} {ty:TypeId} {pos:String} {aft:Array Edge} {g:Option (Nat×Bool)}
theorem BK {t:TypeId}{x y:Operand}{s:ByteArray}{i:Int}(j:Nat)(ht:P.underlying t=some .string)(hx:Ba N ρ x=.string s)(hy:Ba N ρ y=.int .i64 i)(hj:i=(j:Int))(hlt:j<s.size)(hu:Up ops N ρ ⟨some d,.index t x y,ty,pos,aft,g⟩)
  (h:LW P ops w0 Q os ks (mk N (C7 ρ d (.int .u8 ((DU s j:Nat):Int)))) w):LW P ops w0 Q (⟨some d,.index t x y,ty,pos,aft,g⟩::os) (0::ks) (mk N ρ) w :=
 BV (by decide) rfl hu _ (fun w' _=>by
  subst hj
  have e:s[j]? = some s[j]:=getElem?_pos s j hlt
  simp[execOp,hx,hy,Instr.index,asIntOf,run_underlying ht,e,DU]) h
end ops
end
def md (x:Int):Int:=x % 1000003
def FM (n:Int):Bool:=decide (0≤n) && decide (n≤1000002)
def EG (l:List Int):Bool:=l.all FM
theorem HB {α:Type}{f:α→Bool}{l:List α}{k:Nat}(d:α)(h:(l.take k).all f=true)(hk:k<l.length)(hf:f (l.getD k d)=true):(l.take (k+1)).all f=true:=by
 rw[List.take_succ_eq_append_getElem hk,List.all_append,h]
 have e:l.getD k d=l[k]:=by simp[hk]
 rw[e]at hf
 simp[hf]
theorem HC {α:Type}{f:α→Bool}{l:List α}{k:Nat}(d:α)(hk:k<l.length)(hf:f (l.getD k d)=false):l.all f=false:=by
 have e:l.getD k d=l[k]:=by simp[hk]
 rw[e]at hf
 rw[List.all_eq_false]
 exact⟨l[k],List.getElem_mem hk,by simp[hf]⟩
theorem HD {α:Type}{f:α→Bool}{l:List α}{k:Nat}(h:(l.take k).all f=true)(hk:l.length≤k):l.all f=true:=by
 rwa [za hk]at h
theorem Cv {α:Type}{l:List α}{k:Nat}(d:α)(h:k<l.length):l.take (k+1)=l.take k++[l.getD k d]:=by
 rw[List.take_succ_eq_append_getElem h]
 simp[h]
def Lc {α:Type}(n:Nat)(f:Nat→α):List α:=(List.range n).map f
theorem GM (l:List Int):(!l.any fun x=>!FM x)=EG l:=by
 unfold EG
 rw[← List.all_eq_not_any_not]
def Lk (a b:List Int)(y:Int):List Int:=Lc a.length fun k=>md (a.getD k 0-md (y*b.getD k 0))
def Ll (c:Nat)(rc:List Int)(iv:Int):Nat→List (List Int)→List (List Int):=it fun j M=>M.set (c+1+j) (Lk (M.getD (c+1+j) []) rc (md ((M.getD (c+1+j) []).getD c 0*iv)))
def D4 (x a b:Int):Bool:=decide (a≤x) && decide (x≤b)
def Cm (e:Ex):Bool:=decide (e.pick=0) && decide (e.count=0)
def EH (p:List Fn)(funcs vars:Int)(e:Ex):Bool :=
 if e.kind=1 then Cm e && (decide (e.kids.length=0) && FM e.num)
 else if e.kind=2 then Cm e && (decide (e.kids.length=0) && D4 e.num 0 (vars-1))
 else if e.kind=3∨e.kind=4∨e.kind=5∨e.kind=6∨e.kind=9 then Cm e && (decide (e.num=0) && decide (e.kids.length=2))
 else if e.kind=7 then Cm e && (decide (e.num=0) && decide (e.kids.length=1))
 else if e.kind=8 then Cm e && (decide (e.num=0) && decide (e.kids.length=3))
 else if e.kind=10∨e.kind=11 then
  D4 e.num 0 (funcs-1) && (decide ((e.kids.length:Int)=(p.getD e.num.toNat Fn.zero).params) && (D4 e.pick 0 (((p.getD e.num.toNat Fn.zero).outs.length:Int)-1) &&
   (if e.kind=10 then decide (e.count=0)else decide (((p.getD e.num.toNat Fn.zero).outs.length:Int)=(p.getD e.num.toNat Fn.zero).params) && D4 e.count 0 8)))
 else false
mutual
def wf (p:List Fn)(funcs:Int):Ex→Int→Bool
 |.mk k n q c l,vars=>EH p funcs vars (.mk k n q c l) && IZ p funcs (decide (k=9)) 0 l vars
def IZ (p:List Fn)(funcs:Int)(b:Bool):Nat→List Ex→Int→Bool
 |_,[],_=>true
 |i,e::l,vars=>wf p funcs e (if b=true∧i=1 then vars+1 else vars) && IZ p funcs b (i+1) l vars
end
theorem GN (p:List Fn)(funcs:Int)(e:Ex)(vars:Int):wf p funcs e vars=(EH p funcs vars e && IZ p funcs (decide (e.kind=9)) 0 e.kids vars):=by
 cases e;rw[wf];rfl
theorem FN (p:List Fn)(funcs:Int)(b:Bool)(vars:Int):∀(l:List Ex)(i:Nat),IZ p funcs b i l vars=true↔∀j,j<l.length→wf p funcs (l.getD j Ex.zero) (if b=true∧i+j=1 then vars+1 else vars)=true
 |[],i=>by rw[IZ];simp
 |e::l,i=>by
  rw[IZ,z7,FN p funcs b vars l (i+1)]
  constructor
  ·rintro⟨h1,h2⟩ j hj
   cases j with
   |zero=>simpa using h1
   |succ j =>
    have:=h2 j (by simpa using hj)
    rw[show i+1+j=i+(j+1)from by omega]at this
    simpa using this
  ·intro h
   refine⟨by simpa using h 0 (by simp),fun j hj=>?_⟩
   have:=h (j+1) (by simpa using hj)
   rw[show i+(j+1)=i+1+j from by omega]at this
   simpa using this
theorem IB {p:List Fn}{funcs vars:Int}{e:Ex}(h:e.kids.length=0):wf p funcs e vars=EH p funcs vars e:=by
 rw[GN]
 have:e.kids=[]:=List.eq_nil_of_length_eq_zero h
 rw[this,IZ,Bool.and_true]
theorem HE {p:List Fn}{funcs vars:Int}{e:Ex}(h:EH p funcs vars e=false):false=wf p funcs e vars:=by
 rw[GN,h];rfl
theorem HF {p:List Fn}{funcs vars own:Int}{e:Ex}{k:Nat}(hk:k<e.kids.length)(ho:own=if e.kind=9∧k=1 then vars+1 else vars)(h:wf p funcs (e.kids.getD k Ex.zero) own=false):false=wf p funcs e vars:=by
 rw[GN]
 cases hw:IZ p funcs (decide (e.kind=9)) 0 e.kids vars with
 |false=>rw[Bool.and_false]
 |true =>
  have:=(FN p funcs _ vars e.kids 0).1 hw k hk
  rw[Nat.zero_add]at this
  simp only[decide_eq_true_eq]at this
  rw[← ho,h]at this
  cases this
theorem GO {p:List Fn}{funcs vars:Int}{e:Ex}(hn:EH p funcs vars e=true)(h:∀j,j<e.kids.length→wf p funcs (e.kids.getD j Ex.zero) (if e.kind=9∧j=1 then vars+1 else vars)=true):true=wf p funcs e vars:=by
 rw[GN,hn,Bool.true_and]
 refine ((FN p funcs _ vars e.kids 0).2 fun j hj=>?_).symm
 rw[Nat.zero_add]
 simp only[decide_eq_true_eq]
 exact h j hj
theorem J0 {l:List Ex}{k:Nat}(hk:k<l.length):(l.getD k Ex.zero).deep≤Ex.deeps l:=by
 have h1:=CR hk
 have h2:∀(l:List Ex) (k:Nat),Ex.deeps (l.take k)≤Ex.deeps l:=by
  intro l
  induction l with
  |nil=>intro k;simp
  |cons e l ih =>
   intro k
   cases k with
   |zero=>rw[List.take_zero,Ex.deeps];omega
   |succ k=>rw[List.take_succ_cons,Ex.deeps,Ex.deeps];have:=ih k;omega
 have h3:=h2 l (k+1)
 omega
def up (n:Nat)(k:Int):List Int:=Lc n fun i=>k+(i:Int)
section
theorem KI {β:Type}{l r:List β}{k:Nat}{d:β}(h:k<l.length):(l++r).getD k d=l.getD k d:=by
 rw[List.getD_eq_getElem?_getD,List.getD_eq_getElem?_getD,List.getElem?_append_left h]
theorem KJ {β:Type}{l:List β}{x d:β}{k:Nat}(h:k=l.length):(l++[x]).getD k d=x:=by
 subst h
 rw[List.getD_eq_getElem?_getD,List.getElem?_append_right (A7 _)]
 simp
theorem Do.get2 {α:Type}{E:Bu α}{H:Array Obj}{v:Value}{xs:List α}{F:List Nat}(d:α){k:Nat}(h:Do E H v xs F)(hk:k<xs.length) :
  ∃u F1,(∀H':Array Obj,(∀b∈F,H'[b]? = H[b]?)→FY H' (AE v k 1)=some u)∧E H u (xs.getD k d) F1∧∀b∈F1,b∈F:=by
 rcases h with⟨a,cap,rfl,rfl,_⟩|⟨us,g,off,cap,cur,e,fr,F',h,rfl,hg,hw,_,rfl⟩
 ·simp at hk
 ·obtain⟨u,F1,hu,hx,hb⟩:=h.get d hk
  refine⟨u,F1,fun H' hH=>?_,hx,fun b hh=>z3 _ (hb b hh)⟩
  rw[GH]
  simp only[FY,Bt,hH g (z0 ..),hg]
  rw[← hw,List.getElem?_take,if_pos hk,List.getElem?_drop]at hu
  simpa using hu
section rn
variable {α:Type} {S F:List Nat} {w w':World} {E:Bu α} {v:Value} {xs:List α} {x:α} {g:Nat}
theorem RN.getL (hE:Ck E)(d:α){k:Nat}(h:RN S (Do E) w.heap v xs)(hk:k<xs.length) :
  ∃u,(∀w',AG S w w'→FY w'.heap (AE v k 1)=some u)∧RN S E w.heap u (xs.getD k d):=by
 obtain⟨F,h,hb⟩:=h
 have hlt:=(ED hE).lt h
 obtain⟨u,F1,h1,h2,h3⟩:=Do.get2 d h hk
 exact⟨u,fun w' c=>h1 _ fun b hm=>c.block b (hlt b hm) (hb b hm),F1,h2,fun b hm=>hb b (h3 b hm)⟩
theorem RN.slL {H:Array Obj}(h:RN S (Do E) H v xs):Go.Proofs.Ytjnbnlniafmblaa.EC v xs.length:=by obtain⟨F,h,_⟩:=h;exact Do.isSl h
theorem RN.lenL {H:Array Obj}(h:RN S (Do E) H v xs):xs.length≤maxLen:=by obtain⟨F,h,_⟩:=h;exact h.lenle
end rn
def rP {α:Type}(E:B0 α):Bu α:=fun H v x F=>∃cs F' g o,v=.pointer (some ⟨g,o,none⟩)∧g<H.size∧(∀i,i<cs.length→Bt H g (o+i)=some (cs.getD i undef))∧E H cs x F'∧F=g::F'
theorem BY {α:Type}{s:Nat}{E:B0 α}(hE:Bj s E):Ck (rP E) where
 cells:=by rintro H v x F ⟨cs,F',g,o,rfl,_⟩;rfl
 one:=by rintro H v x F ⟨cs,F',g,o,rfl,_⟩;rfl
 lt:=by
  rintro H v x F ⟨cs,F',g,o,rfl,hg,hc,he,rfl⟩ b hb
  rcases ze.1 hb with rfl|hb
  ·exact hg
  ·exact hE.lt he b hb
 stable:=by
  rintro H H' v x F ⟨cs,F',g,o,rfl,hg,hc,he,rfl⟩ hb
  refine⟨cs,F',g,o,rfl,?_,fun i hi=>?_,hE.stable he fun b hm=>hb b (z3 _ hm),rfl⟩
  ·have:=hb g (z0 ..)
   rcases Nat.lt_or_ge g H'.size with h|h
   ·exact h
   ·rw[Array.getElem?_eq_none h,Array.getElem?_eq_getElem hg]at this;cases this
  ·have:=hc i hi
   unfold Bt at this ⊢
   rw[hb g (z0 ..)];exact this
section rp
variable {α:Type} {S:List Nat} {w w':World} {s:Nat} {E:B0 α} {v p:Value} {xs:List α} {x:α}
theorem RN.ptr (hE:Bj s E)(hs:0<s)(d:α){k:Nat}{H:Array Obj}(h:RN S (Ct s E) H v xs)(hk:k<xs.length):RN S (rP E) H (AE v k s) (xs.getD k d):=by
 obtain⟨F,h,hb⟩:=h
 rcases h with⟨a,cap,rfl,rfl,_⟩|⟨css,g,off,cap,cur,e,fr,F',h,rfl,hg,hw,_,rfl⟩
 ·simp at hk
 ·obtain⟨cs,F1,q1,q2,q3⟩:=h.get hE d hk
  rw[Dz]
  refine⟨g::F1,⟨cs,F1,g,off+k*s,rfl,getElem?_lt hg,fun i hi=>?_,q1,rfl⟩,fun b hm=>?_⟩
  ·rw[hE.len q1]at hi
   have h1:=q3 i hi
   have hlt:k*s+i<xs.length*s:=by
    have:(k+1)*s≤xs.length*s:=Nat.mul_le_mul_right s hk
    rw[Nat.succ_mul]at this;omega
   rw[← hw,List.getElem?_take,if_pos hlt,List.getElem?_drop]at h1
   simp only[Bt,hg]
   rw[Nat.add_assoc]
   simpa using h1
  ·rcases ze.1 hm with rfl|hm
   ·exact hb _ (z0 ..)
   ·exact hb b<|z3 _<|q2 b hm
theorem RN.at (hE:Bj s E)(h:RN S (rP E) w.heap p x):∃cs,RN S E w.heap cs x∧∀w',AG S w w'→LD w'.heap p cs:=by
 obtain⟨F,h,hb⟩:=h
 have hlt:=(BY hE).lt h
 obtain⟨cs,F',g,o,rfl,hg,hc,he,rfl⟩:=h
 refine⟨cs,⟨F',he,fun b hm=>hb b (z3 _ hm)⟩,fun w' c=>⟨g,o,rfl,fun i hi=>?_⟩⟩
 have:=hc i hi
 unfold Bt at this ⊢
 rw[c.block g hg (hb g (z0 ..))];exact this
theorem RN.isPtr {H:Array Obj}(h:RN S (rP E) H p x):∃g o,p=.pointer (some ⟨g,o,Option.none⟩):=by
 obtain⟨F,⟨cs,F',g,o,rfl,_⟩,_⟩:=h
 exact⟨g,o,rfl⟩
theorem RN.box {b:Nat}{H:Array Obj}{cs:List Value}(hB:BX H b cs)(h:RN S E H cs x)(hb:b∉S):RN S (rP E) H (.pointer (some ⟨b,0,Option.none⟩)) x:=by
 have hl:=hB.lt
 obtain⟨e,hB⟩:=hB
 obtain⟨F,h1,h2⟩:=h
 refine⟨b::F,⟨cs,F,b,0,rfl,hl,fun i hi=>?_,h1,rfl⟩,fun c hc=>?_⟩
 ·simp only[Bt,hB];simp[hi]
 ·rcases ze.1 hc with rfl|hc
  ·exact hb
  ·exact h2 c hc
end rp
def Iv (d:Nat):B0 (List Fn):=fun H cs p F=>∃v,cs=[v]∧Ct 3 (Jt d) H v p F
theorem Bo (d:Nat):Bj 1 (Iv d):=by
 have ih:=Ax<|Aq d
 refine⟨?_,?_,?_,?_⟩
 ·rintro H cs e F ⟨v,rfl,_⟩;rfl
 ·rintro H cs e F ⟨v,rfl,h⟩ u hu
  rw[A9 hu]
  exact⟨ih.cells h,ih.one h⟩
 ·rintro H cs e F ⟨v,rfl,h⟩ b hb
  exact ih.lt h b hb
 ·rintro H H' cs e F ⟨v,rfl,h⟩ hb
  exact⟨v,rfl,ih.stable h hb⟩
theorem RPr.of {S:List Nat}{d:Nat}{H:Array Obj}{cs:List Value}{p:List Fn}(h:RN S (Iv d) H cs p):∃v,cs=[v]∧RP S d H v p:=by
 obtain⟨F,⟨v,rfl,h⟩,hb⟩:=h
 exact⟨v,rfl,F,h,hb⟩
theorem RP.mk' {S:List Nat}{d:Nat}{H:Array Obj}{v:Value}{p:List Fn}(h:RP S d H v p):RN S (Iv d) H [v] p:=by
 obtain⟨F,h,hb⟩:=h
 exact⟨F,⟨v,rfl,h⟩,hb⟩
section bld
variable {e:TypeId} {S F:List Nat} {B:Nat} {w w':World} {v:Value} {xs:List (List Int)} {us:List Value} {g:Nat}
theorem GP {H:Array Obj}:∀ {us vs:List Value}{F:List Nat},G6 rV H us vs F→us=vs∧F=[]
 |[],[],_,h=>⟨rfl,h⟩
 |_::_,_::_,_,⟨F1,F2,rfl,h1,h2⟩=>by
  obtain⟨rfl,rfl⟩:=GP h2
  rw[h1.1,h1.2.1];exact⟨rfl,rfl⟩
 |[],_::_,_,h=>h.elim
 |_::_,[],_,h=>h.elim
end bld
section ops
variable {P:Program} {ops:Array Oper} {w0:World} {Q:Act→World→Prop} {os:List Oper} {ks:List Nat} {N:Nat} {ρ:Nat→Value} {w:World}
 {d:Nat} {ty:TypeId} {pos:String} {aft:Array Edge} {g:Option (Nat×Bool)} {t e:TypeId} {z:Value} {b:Nat}
def IC:Value→Prop
 |.slice _ n c=>n≤c
 |_=>False
end ops
end
abbrev Sr:=List Int
structure Ld (p:List Fn):Prop where
 par:∀k,k<p.length→0≤(p.getD k Fn.zero).params∧(p.getD k Fn.zero).params≤12
 outs:∀k,k<p.length→1≤(p.getD k Fn.zero).outs.length∧(p.getD k Fn.zero).outs.length≤12
 deep:∀k,k<p.length→∀j,j<(p.getD k Fn.zero).outs.length→((p.getD k Fn.zero).outs.getD j Ex.zero).deep≤60
 wf:∀k,k<p.length→∀j,j<(p.getD k Fn.zero).outs.length→wf p ((k:Nat):Int) ((p.getD k Fn.zero).outs.getD j Ex.zero) (p.getD k Fn.zero).params=true
theorem BC {x a b:Int}:D4 x a b=true↔a≤x∧x≤b:=by unfold D4;simp
section
set_option linter.unusedSectionVars false
namespace Jx
variable [J:JR]
def Az (w w':World):Prop:=J.rel w w'
theorem Az.refl (w:World):Az w w:=J.refl w
theorem Az.trans {a b c:World}(h:Az a b)(k:Az b c):Az a c:=J.trans h k
section
variable {P:Program} {ops:Array Oper} {md:Region.Mode}
def Cl (w0 w:World):Nat→World→Prop
 |0,_=>True
 |1,w'=>Az w0 w'
 |_,w'=>Az w w'
def B9 (P:Program)(w0:World)(o:Oper)(k:Nat)(a:Act)(w:World)(K:Act→World→Prop):Prop :=
 if k≤2 then ∃v,(∀w',Cl w0 w k w'→YA P o a w' v)∧K (a.put o.dst v) w
 else if k=3 then o.wp P a w (fun a' w'=>Az w w'∧K a' w') (NQ fun _ _=>False)
 else o.wp P a w K (NQ fun _ _=>False)
def LW (P:Program)(ops:Array Oper)(w0:World)(Q:Act→World→Prop):List Oper→List Nat→Act→World→Prop
 |[],_,a,w=>Q a w
 |_::_,[],_,_=>False
 |o::os,k::ks,a,w =>
  if Region.wanted o (yielded ops a.tmps)=true then B9 P w0 o k a w (LW P ops w0 Q os ks)else LW P ops w0 Q os ks (a.put o.dst undef) w
theorem B9.mono {w0:World}{o:Oper}{k:Nat}{a:Act}{w:World}{K K':Act→World→Prop}(h:∀a w,K a w→K' a w)
  (hh:B9 P w0 o k a w K):B9 P w0 o k a w K':=by
 unfold B9 at *
 split
 ·rename_i hk
  rw[if_pos hk]at hh
  obtain⟨v,h1,h2⟩:=hh
  exact⟨v,h1,h _ _ h2⟩
 ·rename_i hk
  rw[if_neg hk]at hh
  split
  ·rename_i h3
   rw[if_pos h3]at hh
   exact Oper.wp_mono (fun a w hx=>⟨hx.1,h _ _ hx.2⟩) hh
  ·rename_i h3
   rw[if_neg h3]at hh
   exact Oper.wp_mono h hh
variable (P ops) in
def LI (kd:Nat→Nat)(w0:World)(Q:Act→World→Prop):List Nat→Act→World→Prop
 |[],a,w=>Q a w
 |i::l,a,w =>
  match ops[i]? with
  |none=>False
  |some o=>if Region.wanted o (yielded ops a.tmps)=true then B9 P w0 o (kd i) a w (LI kd w0 Q l)else LI kd w0 Q l (a.put o.dst undef) w
def Gn (kd:Nat→Nat)(w0 w:World)(l:List Nat):Prop:=(∃j∈l,kd j=1)→Az w0 w
def Yv (P:Program)(ops:Array Oper)(w0:World)(k:Nat)(o:Oper)(a:Act)(w:World)(v:Value):Prop :=
 (Region.wanted o (yielded ops a.tmps)=true∧∀w',Cl w0 w k w'→YA P o a w' v)∨(Region.wanted o (yielded ops a.tmps)=false∧v=undef)
theorem Cl.self {w0 w:World}{k:Nat}(h:k=1→Az w0 w):Cl w0 w k w:=by
 match k,h with
 |0,_=>exact trivial
 |1,h=>exact h rfl
 |_+2,_=>exact Az.refl w
theorem Yv.unique {w0 w:World}{k:Nat}{o:Oper}{a:Act}{v u:Value}(hk:k=1→Az w0 w)(h:Yv P ops w0 k o a w v)(h':Yv P ops w0 k o a w u):v=u:=by
 rcases h with⟨h1,h2⟩|⟨h1,h2⟩ <;> rcases h' with⟨g1,g2⟩|⟨g1,g2⟩
 ·exact (h2 w<|Cl.self hk).unique<|g2 w<|Cl.self hk
 ·rw[h1]at g1;cases g1
 ·rw[h1]at g1;cases g1
 ·rw[h2,g2]
theorem Yv.apart {w0 w:World}{k:Nat}{o:Oper}(hs:∀cs b,o.op≠.select cs b){a:Act}{d:Option Tmp}{u v:Value}
  (h1:∀x,d=some x→x∉o.looksAt ops):Yv P ops w0 k o (a.put d u) w v↔Yv P ops w0 k o a w v:=by
 unfold Yv
 rw[wanted_put (ops:=ops) o a d u h1]
 simp only[YA.apart (ops:=ops) (P:=P) hs h1]
theorem Yv.defers {w0 w:World}{k:Nat}{o:Oper}{a:Act}{l:List Deferred}{v:Value}:Yv P ops w0 k o { a with defers:=l } w v↔Yv P ops w0 k o a w v:=by
 have he:Act.eval { a with defers:=l }=Act.eval a:=funext fun x=>by cases x <;> rfl
 unfold Yv YA
 rw[he]
theorem Yv.shape {w0 w:World}{k:Nat}{o:Oper}(hs:∀cs b,o.op≠.select cs b){a a':Act}{d:Option Tmp}{v:Value}
  (h1:∀x,d=some x→x∉o.looksAt ops) (h:Fw a d a'):Yv P ops w0 k o a' w v↔Yv P ops w0 k o a w v:=by
 obtain⟨u,rfl|⟨x,rfl⟩⟩:=h
 ·exact Yv.apart hs h1
 ·rw[Yv.apart hs h1];exact Yv.defers
section main
variable {kd bs:Nat→Nat} {w0:World} {Q:Act→World→Prop}
theorem DJ (hsel:∀(j:Nat)(o:Oper) cs b,ops[j]? = some o→o.op≠.select cs b){j:Nat}{oj:Oper}(hj:ops[j]? = some oj)(hk:kd j≤2) :
  ∀(l1 l2:List Nat) (a:Act) (w:World),(∀i∈l1,∀oi,ops[i]? = some oi→oi.apart ops oj=true∧BA (kd i) (kd j)=true)→(kd j=1→Az w0 w) →
   LI P ops kd w0 Q (l1++j::l2) a w→∃v,Yv P ops w0 (kd j) oj a w v∧LI P ops kd w0 Q (l1++l2) (a.put oj.dst v) w
 |[],l2,a,w,_,_,h=>by
  simp only[zl,LI,hj]at h ⊢
  split at h
  ·rename_i hw
   unfold B9 at h
   rw[if_pos hk]at h
   obtain⟨v,h1,h2⟩:=h
   exact⟨v,.inl ⟨hw,h1⟩,h2⟩
  ·rename_i hw
   exact⟨undef,.inr ⟨by simpa using hw,rfl⟩,h⟩
 |i::l1,l2,a,w,hl,hx,h=>by
  have hi:=hl i (z0 ..)
  have hl':∀x∈l1,∀ox,ops[x]? = some ox→ox.apart ops oj=true∧BA (kd x) (kd j)=true:=fun x hx=>hl x (z3 _ hx)
  simp only[List.cons_append,LI]at h ⊢
  cases hoi:ops[i]? with
  |none=>rw[hoi]at h;exact h.elim
  |some oi =>
   rw[hoi]at h
   simp only at h ⊢
   obtain⟨hap,hok⟩:=hi oi hoi
   obtain⟨p1,p2,p3⟩:=Oper.apart_spec hap
   have p2':∀d,oj.dst=some d→oi.dst≠some d:=fun d hd he=>p2 d he hd
   have si:=fun cs b=>hsel i oi cs b hoi
   have sj:=fun cs b=>hsel j oj cs b hj
   by_cases hw:Region.wanted oi (yielded ops a.tmps)=true
   ·rw[if_pos hw]at h
    unfold B9 at h
    by_cases hki:kd i≤2
    ·rw[if_pos hki]at h
     obtain⟨vi,hy,h⟩:=h
     obtain⟨v,h1,h2⟩:=DJ hsel hj hk l1 l2 (a.put oi.dst vi) w hl' hx h
     refine⟨v,(Yv.apart sj p1).1 h1,?_⟩
     rw[wanted_put oi a oj.dst v p3,if_pos hw]
     unfold B9
     rw[if_pos hki]
     refine⟨vi,fun w' hc=>(YA.apart (ops:=ops) si p3).2 (hy w' hc),?_⟩
     rw[Act.put_comm a v vi p2']
     exact h2
    ·rw[if_neg hki]at h
     have gen:∀(G:World→Prop),(∀w',G w'→kd j=1→Az w0 w')→(kd j=2→False) →
       oi.wp P a w (fun a' w'=>G w'∧LI P ops kd w0 Q (l1++j::l2) a' w') (NQ fun _ _=>False) →
       ∃v,Yv P ops w0 (kd j) oj a w v∧oi.wp P (a.put oj.dst v) w (fun a' w'=>G w'∧LI P ops kd w0 Q (l1++l2) a' w') (NQ fun _ _=>False):=by
      intro G hG hn2 hh
      have hcl:∀w1 w2,Cl w0 w1 (kd j) w2→Cl w0 w (kd j) w2:=by
       intro w1 w2 hc
       match hkj:kd j,hk,hn2 with
       |0,_,_=>trivial
       |1,_,_=>rw[hkj]at hc;exact hc
       |2,_,hn=>exact(hn rfl).elim
       |_+3,hle,_=>omega
      have hcl':∀w1 w2,Cl w0 w (kd j) w2→Cl w0 w1 (kd j) w2:=by
       intro w1 w2 hc
       match hkj:kd j,hk,hn2 with
       |0,_,_=>trivial
       |1,_,_=>rw[hkj]at hc;exact hc
       |2,_,hn=>exact(hn rfl).elim
       |_+3,hle,_=>omega
      have hs:=CK hh
      have step:∀a' w',((G w'∧LI P ops kd w0 Q (l1++j::l2) a' w')∧Fw a oi.dst a') →
        ∃v,Yv P ops w0 (kd j) oj a w v∧LI P ops kd w0 Q (l1++l2) (a'.put oj.dst v) w':=by
       rintro a' w' ⟨⟨hg,hL⟩,hsh⟩
       obtain⟨v,h1,h2⟩:=DJ hsel hj hk l1 l2 a' w' hl' (hG w' hg) hL
       have h1':=(Yv.shape sj p1 hsh).1 h1
       refine⟨v,?_,h2⟩
       rcases h1' with⟨q1,q2⟩|⟨q1,q2⟩
       ·exact .inl ⟨q1,fun w2 hc=>q2 w2<|hcl' w' w2 hc⟩
       ·exact .inr ⟨q1,q2⟩
      obtain⟨v,hv⟩:∃v,Yv P ops w0 (kd j) oj a w v:=by
       obtain⟨u,w',hK|⟨d,hK⟩⟩:=GF hs
       ·obtain⟨v,h1,_⟩:=step _ _ hK;exact⟨v,h1⟩
       ·obtain⟨v,h1,_⟩:=step _ _ hK;exact⟨v,h1⟩
      refine⟨v,hv,Et (ops:=ops) si p3 p2' ?_⟩
      refine Oper.wp_mono (fun a' w' hK=>?_) hs
      obtain⟨v',h1,h2⟩:=step a' w' hK
      have:v'=v:=h1.unique hx hv
      subst this
      exact⟨hK.1.1,h2⟩
     by_cases h3:kd i=3
     ·rw[if_pos h3]at h
      have hj1:=L6 hok h3
      obtain⟨v,hv,hwp⟩:=gen (fun w'=>Az w w') (fun w' hg h1=>(hx h1).trans hg) (fun h2=>by omega) h
      refine⟨v,hv,?_⟩
      rw[wanted_put oi a oj.dst v p3,if_pos hw]
      unfold B9
      rw[if_neg hki,if_pos h3]
      exact hwp
     ·rw[if_neg h3]at h
      have hj0:=L7 hok zO
      obtain⟨v,hv,hwp⟩:=gen (fun _=>True) (fun w' _ h1=>by omega) (fun h2=>by omega) (Oper.wp_mono (fun a w hh=>⟨trivial,hh⟩) h)
      refine⟨v,hv,?_⟩
      rw[wanted_put oi a oj.dst v p3,if_pos hw]
      unfold B9
      rw[if_neg hki,if_neg h3]
      exact Oper.wp_mono (fun a w hh=>hh.2) hwp
   ·rw[if_neg hw]at h
    obtain⟨v,h1,h2⟩:=DJ hsel hj hk l1 l2 (a.put oi.dst undef) w hl' hx h
    refine⟨v,(Yv.apart sj p1).1 h1,?_⟩
    rw[wanted_put oi a oj.dst v p3,if_neg hw,Act.put_comm a v undef p2']
    exact h2
theorem Eu (hsel:∀(j:Nat)(o:Oper) cs b,ops[j]? = some o→o.op≠.select cs b){j:Nat}{oj:Oper}(hj:ops[j]? = some oj)(hk:3≤kd j) :
  ∀(l1 l2:List Nat) (a:Act) (w:World),(∀i∈l1,∀oi,ops[i]? = some oi→oi.apart ops oj=true∧BA (kd i) (kd j)=true)→LI P ops kd w0 Q (l1++j::l2) a w →
   (Region.wanted oj (yielded ops a.tmps)=true→oj.wp P a w (fun a' w'=>(kd j=3→Az w w')∧LI P ops kd w0 Q (l1++l2) a' w') (NQ fun _ _=>False)) ∧
   (Region.wanted oj (yielded ops a.tmps)=false→LI P ops kd w0 Q (l1++l2) (a.put oj.dst undef) w)
 |[],l2,a,w,_,h=>by
  simp only[zl,LI,hj]at h ⊢
  refine⟨fun hw=>?_,fun hw=>?_⟩
  ·rw[if_pos hw]at h
   unfold B9 at h
   rw[if_neg (by omega)]at h
   split at h
   ·exact Oper.wp_mono (fun _ _ hh=>⟨fun _=>hh.1,hh.2⟩) h
   ·rename_i h3;exact Oper.wp_mono (fun _ _ hh=>⟨fun h'=>(h3 h').elim,hh⟩) h
  ·rw[if_neg (by simp[hw])]at h;exact h
 |i::l1,l2,a,w,hl,h=>by
  have hi:=hl i (z0 ..)
  have hl':∀x∈l1,∀ox,ops[x]? = some ox→ox.apart ops oj=true∧BA (kd x) (kd j)=true:=fun x hx=>hl x (z3 _ hx)
  simp only[List.cons_append,LI]at h ⊢
  cases hoi:ops[i]? with
  |none=>rw[hoi]at h;exact h.elim
  |some oi =>
   rw[hoi]at h
   simp only at h ⊢
   obtain⟨hap,hok⟩:=hi oi hoi
   obtain⟨p1,p2,p3⟩:=Oper.apart_spec hap
   have p2':∀d,oj.dst=some d→oi.dst≠some d:=fun d hd he=>p2 d he hd
   have si:=fun cs b=>hsel i oi cs b hoi
   have sj:=fun cs b=>hsel j oj cs b hj
   obtain⟨hki,hk4⟩:=KD hok hk
   by_cases hw:Region.wanted oi (yielded ops a.tmps)=true
   ·rw[if_pos hw]at h
    unfold B9 at h
    rw[if_pos hki]at h
    obtain⟨vi,hy,h⟩:=h
    obtain⟨g1,g2⟩:=Eu hsel hj hk l1 l2 (a.put oi.dst vi) w hl' h
    rw[wanted_put oj a oi.dst vi p1]at g1 g2
    refine⟨fun hwj=>?_,fun hwj=>?_⟩
    ·have g:=DI (ops:=ops) (Q:=fun _ _=>False) sj p1 p2<|g1 hwj
     refine Oper.wp_mono (fun a' w' hK=>?_)<|CK g
     obtain⟨⟨hE,hL⟩,hsh⟩:=hK
     refine⟨hE,?_⟩
     rw[Cs p3 hsh,if_pos hw]
     unfold B9
     rw[if_pos hki]
     refine⟨vi,fun w'' hc=>?_,hL⟩
     have hya:YA P oi a w'' vi:=by
      refine hy w'' ?_
      match hki':kd i,hki,hk4 with
      |0,_,_=>trivial
      |1,_,_=>rw[hki']at hc;exact hc
      |2,_,h4=>rw[hki']at hc;exact(hE (by have:¬4≤kd j:=(fun hh=>by have:=h4 hh;omega);omega)).trans hc
      |_+3,hle,_=>omega
     have he:∀b,YA P oi b w'' vi↔YR P ((execOp b.eval oi).run P w'') w'' vi:=fun _=>Iff.rfl
     obtain⟨u,rfl|⟨x,rfl⟩⟩:=hsh
     ·exact (YA.apart (ops:=ops) si p3).2 hya
     ·refine (YA.apart (ops:=ops) si p3).2 ?_
      have hee:Act.eval { a with defers:=x::a.defers }=Act.eval a:=funext fun y=>by cases y <;> rfl
      rw[he,hee,← he];exact hya
    ·rw[wanted_put oi a oj.dst undef p3,if_pos hw]
     unfold B9
     rw[if_pos hki]
     refine⟨vi,fun w' hc=>(YA.apart (ops:=ops) si p3).2 (hy w' hc),?_⟩
     rw[Act.put_comm a undef vi p2']
     exact g2 hwj
   ·rw[if_neg hw]at h
    obtain⟨g1,g2⟩:=Eu hsel hj hk l1 l2 (a.put oi.dst undef) w hl' h
    rw[wanted_put oj a oi.dst undef p1]at g1 g2
    refine⟨fun hwj=>?_,fun hwj=>?_⟩
    ·have g:=DI (ops:=ops) (Q:=fun _ _=>False) sj p1 p2<|g1 hwj
     refine Oper.wp_mono (fun a' w' hK=>?_)<|CK g
     obtain⟨⟨hE,hL⟩,hsh⟩:=hK
     refine⟨hE,?_⟩
     rw[Cs p3 hsh,if_neg hw]
     exact hL
    ·rw[wanted_put oi a oj.dst undef p3,if_neg hw,Act.put_comm a undef undef p2']
     exact g2 hwj
end main
end
section
variable {P:Program} {ops:Array Oper} {md:Region.Mode} {kd bs:Nat→Nat} {w0:World} {Q:Act→World→Prop}
theorem CL (hsel:∀(j:Nat)(o:Oper) cs b,ops[j]? = some o→o.op≠.select cs b)(hS:Hv md ops bs)
  (hlex:∀j oj,ops[j]? = some oj→∀e∈oj.after,Region.binds md e=true→e.on<j) :
  ∀(n:Nat) (l:List Nat) (listed:Array Bool) (a:Act) (w:World),l.length=n→l.Pairwise (Ey md ops kd bs)→l.Nodup→listed.size=ops.size →
   (∀i,i∈l↔listed.getD i true=false)→Ew bs listed→Gp kd l→Gn kd w0 w l→LI P ops kd w0 Q l a w→wpAny P md ops (NQ Q) n listed a w
 |0,l,listed,a,w,hn,_,_,_,hm,_,_,_,h=>by
  have hl:l=[]:=List.eq_nil_of_length_eq_zero hn
  subst hl
  refine⟨?_,h⟩
  cases hr:Region.ready md ops listed with
  |nil=>rfl
  |cons x xs =>
   have:=(mem_ready.1 (by rw[hr];exact z0 ..:x∈Region.ready md ops listed)).1
   exact absurd ((hm x).2 this) (by simp)
 |n+1,l,listed,a,w,hn,hs,hd,hz,hm,hc,h14,hi1,h=>by
  refine⟨fun h0=>?_,fun i hi=>?_⟩
  ·exfalso
   match l,hn with
   |i::l,hn =>
    have hready:=Ez (md:=md) hz hm hlex fun y hy ox hox=>((List.pairwise_cons.1 hs).1 y hy).2 ox hox
    rw[h0]at hready
    cases hready
  ·obtain⟨hun,oi,hoi,hall⟩:=mem_ready.1 hi
   obtain⟨l1,l2,rfl⟩:=List.append_of_mem ((hm i).2 hun)
   have hbits:=Dv hS hc hoi hall
   have hpi:∀x∈l1,Ey md ops kd bs x i:=fun x hx=>(List.pairwise_append.1 hs).2.2 x hx i (z0 ..)
   have hfree:=Ef (kd:=kd) (l1:=l1) hoi (fun x hx=>(hpi x hx).1) (fun x hx=>(hm x).1 (z8 _ hx)) hbits
   have hsz:=C9 hun
   have hsub0:(l1++l2).Sublist (l1++i::l2):=List.Sublist.append_left (List.sublist_cons_self _ _) _
   have hnd:i∉l1++l2:=by
    have h1:=List.nodup_append.1 hd
    intro hmem
    rcases zi.1 hmem with hh|hh
    ·exact h1.2.2 i hh i (z0 ..) rfl
    ·exact (List.nodup_cons.1 h1.2.1).1 hh
   have hn':(l1++l2).length=n:=by simp at hn ⊢;omega
   have rec_:∀a' w',Gn kd w0 w' (l1++l2)→LI P ops kd w0 Q (l1++l2) a' w'→wpAny P md ops (NQ Q) n (listed.setIfInBounds i true) a' w':=fun a' w' hi' hL =>
    CL hsel hS hlex n (l1++l2) _ a' w' hn' (hs.sublist hsub0) (hd.sublist hsub0) (by simpa using hz) (Fx hm hnd hsz) (EA hc hbits) (Gp.erase h14) hi' hL
   have hsub:Gn kd w0 w (l1++l2):=fun⟨j,hj,hk⟩=>hi1 ⟨j,hsub0.subset hj,hk⟩
   by_cases hk:kd i≤2
   ·obtain⟨v,hv,hL⟩:=DJ hsel hoi hk l1 l2 a w hfree (fun h1=>hi1 ⟨i,by simp,h1⟩) h
    unfold wpOp
    rw[hoi]
    rcases hv with⟨hw,hy⟩|⟨hw,rfl⟩
    ·simp only[hw,if_true]
     exact .inl<|Ev (hy w (Cl.self fun h1=>hi1 ⟨i,by simp,h1⟩))<|rec_ _ _ hsub hL
    ·simp only[hw,Bool.false_eq_true,if_false]
     exact rec_ _ _ hsub hL
   ·obtain⟨g1,g2⟩:=Eu hsel hoi zO l1 l2 a w hfree h
    unfold wpOp
    rw[hoi]
    by_cases hw:Region.wanted oi (yielded ops a.tmps)=true
    ·simp only[hw,if_true]
     refine .inl<|Oper.wp_mono (fun a' w' hK=>rec_ a' w' ?_ hK.2)<|Eo<|g1 hw
     rintro⟨j,hj,hkj⟩
     by_cases h3:kd i=3
     ·exact (hsub ⟨j,hj,hkj⟩).trans<|hK.1 h3
     ·exfalso
      rcases zi.1 hj with hh|hh
      ·obtain⟨oj,hoj⟩:∃oj,ops[j]? = some oj:=by
        have:=C9 ((hm j).1 (z8 _ hh))
        exact⟨ops[j]'(by omega),by simp[show j<ops.size by omega]⟩
       have:=(KD (hfree j hh oj hoj).2 zO).2 zO
       omega
      ·exact h14 l1 i l2 rfl zO j hh hkj
    ·simp only[hw,Bool.false_eq_true,if_false]
     exact rec_ _ _ hsub<|g2 (by simpa using hw)
theorem D7 (ks:List Nat):∀(os:List Oper)(k:Nat)(a:Act)(w:World),(∀j,os[j]? = ops[k+j]?) →
  LW P ops w0 Q os (ks.drop k) a w→LI P ops (fun i=>ks.getD i 0) w0 Q (List.range' k os.length) a w
 |[],_,_,_,_,h=>by simpa [LI,LW]using h
 |o::os,k,a,w,ho,h=>by
  have h0:ops[k]? = some o:=by simpa using (ho 0).symm
  have hr:∀a w,LW P ops w0 Q os (ks.drop (k+1)) a w→LI P ops (fun i=>ks.getD i 0) w0 Q (List.range' (k+1) os.length) a w:=fun a w hh =>
   D7 ks os (k+1) a w (fun j=>by have:=ho (j+1);simpa [Nat.add_assoc,Nat.add_comm 1 j]using this) hh
  have hlt:k<ks.length:=by
   rcases Nat.lt_or_ge k ks.length with hh|hh
   ·exact hh
   ·rw[List.drop_of_length_le hh]at h;exact h.elim
  have hd:ks.drop k=ks[k]::ks.drop (k+1):=List.drop_eq_getElem_cons hlt
  rw[hd]at h
  simp only[z9,List.range'_succ,LI,h0,LW]at h ⊢
  have hg:ks.getD k 0=ks[k]:=by simp[hlt]
  split
  ·rename_i hw
   rw[if_pos hw]at h
   rw[hg]
   exact h.mono hr
  ·rename_i hw
   rw[if_neg hw]at h
   exact hr _ _ h
theorem Bd {id:Nat}{Q:Exit→Act→World→Prop}{a:Act}{w:World}(os:List Oper)(ks:List Nat)(hm:P.follows .mixedOrders=true)(hB:KE os.toArray ks=true)
  (h:LW P os.toArray w.drew (fun a w=>Q .normal a w) os ks a w.drew):(Code.region id os.toArray true).wp P Q a w:=by
 refine wp_region_any hm ?_
 simp only[KE,z7]at hB
 obtain⟨⟨hsel,hpl⟩,h14⟩:=hB
 have hz:∀ {j:Nat} {o:Oper},os.toArray[j]? = some o→(o,j)∈os.toArray.toList.zipIdx:=by
  intro j o ho
  rw[List.mem_zipIdx_iff_getElem?]
  simpa using ho
 have hall:∀j oj,os.toArray[j]? = some oj→_:=fun j oj hj=>zm.1 hpl _ (hz hj)
 have hF:Jn os.toArray (fun i=>ks.getD i 0) (fun j=>(Region.before os.toArray).toList.getD j 0):=by
  intro i j oi oj hij hi hj
  have h3:=(z7 _ _ ▸ hall j oj hj:_∧_).2
  have h4:=zm.1 h3 _<|hz hi
  simp only[Bool.or_eq_true,Bool.not_eq_true',decide_eq_false_iff_not,z7]at h4
  rcases h4 with(h4|h4)|h4
  ·exact absurd hij h4
  ·exact .inl h4
  ·exact .inr h4
 have hlex:∀j oj,os.toArray[j]? = some oj→∀e∈oj.after,Region.binds .any e=true→e.on<j:=by
  intro j oj hj e he hb
  have h1:=(z7 _ _ ▸ (z7 _ _ ▸ hall j oj hj:_∧_).1:_∧_).1
  have h2:=(Array.all_eq_true_iff_forall_mem.1 h1) e he
  simpa [hb]using h2
 have key:=CL (P:=P) (ops:=os.toArray) (md:=.any) (kd:=fun i=>ks.getD i 0) (bs:=fun j=>(Region.before os.toArray).toList.getD j 0) (w0:=w.drew) (Q:=fun a w=>Q .normal a w)
  (Region.noSelect_spec hsel) ?_ ?_ os.length (List.range' 0 os.length) (Array.replicate os.length false) a w.drew (by simp) ?_ List.nodup_range' (by simp) ?_ ?_ ?_ (fun _=>Az.refl _) ?_
 ·have:=EB _ _ _ _ key
  simpa using this
 ·intro j oj hj i hb
  have h3:=(z7 _ _ ▸ (z7 _ _ ▸ hall j oj hj:_∧_).1:_∧_).2
  have h5:(Region.before os.toArray).toList.getD j 0=oj.after.foldl (fun s e=>if Region.binds .any e then s ||| 2 ^ e.on ||| (Region.before os.toArray).toList.getD e.on 0 else s) 0:=by simpa using h3
  dsimp only at hb
  rw[h5,← Array.foldl_toList]at hb
  rcases Dx _ _ _ _ hb with hb|⟨e,he,hbb,hh⟩
  ·simp at hb
  ·exact⟨e,Array.mem_toList_iff.1 he,hbb,hh⟩
 ·exact hlex
 ·exact DK hF hlex List.pairwise_lt_range'
 ·intro i
  simp only[List.mem_range',Nat.zero_add,Nat.one_mul]
  constructor
  ·rintro⟨x,hx,rfl⟩;simp[hx]
  ·intro hh
   rcases Nat.lt_or_ge i os.length with h'|h'
   ·exact⟨i,h',rfl⟩
   ·simp[Array.getElem?_eq_none (show(Array.replicate os.length false).size≤i by simpa using h')]at hh
 ·intro i hi
  rcases Nat.lt_or_ge i os.length with h'|h'
  ·simp[h']at hi
  ·simp[Array.getElem?_eq_none (show(Array.replicate os.length false).size≤i by simpa using h')]at hi
 ·intro l1 i l2 hl hk j hj
  have hs:(l1++i::l2).Pairwise (· < ·):=hl ▸ List.pairwise_lt_range'
  have hij:i<j:=List.rel_of_pairwise_cons (List.pairwise_append.1 hs).2.1 hj
  have mem:∀x∈l1++i::l2,x<os.length:=by
   intro x hx
   rw[← hl]at hx
   simp only[List.mem_range',Nat.zero_add,Nat.one_mul]at hx
   obtain⟨y,hy,rfl⟩:=hx
   exact hy
  have hi:=mem i (by simp)
  have hj':=mem j (by simp[hj])
  have h1:=zm.1 h14 _<|hz (j:=i) (o:=os[i]) (by simp[hi])
  simp only[Bool.or_eq_true,Bool.not_eq_true',decide_eq_false_iff_not]at h1
  rcases h1 with h1|h1
  ·exact absurd hk h1
  ·have h2:=zm.1 h1 _<|hz (j:=j) (o:=os[j]) (by simp[hj'])
   simp only[Bool.or_eq_true,Bool.not_eq_true',decide_eq_false_iff_not]at h2
   rcases h2 with h2|h2
   ·exact absurd hij h2
   ·simpa using h2
 ·exact D7 ks os 0 a w.drew (by simp) (by simpa using h)
end
section
variable {P:Program} {ops:Array Oper} {w0:World} {Q:Act→World→Prop} {os:List Oper} {ks:List Nat} {N:Nat} {ρ:Nat→Value} {w:World}
theorem Ai {a:Act}(h:Q a w):LW P ops w0 Q [] ks a w:=h
theorem BV {o:Oper}{k d:Nat}(hk:k≤2)(hd:o.dst=some d)(hu:Up ops N ρ o)(v:Value)(hr:∀w',Cl w0 w k w'→(execOp (Ba N ρ) o).run P w'=.ok (.value v) w')
  (h:LW P ops w0 Q os ks (mk N (C7 ρ d v)) w):LW P ops w0 Q (o::os) (k::ks) (mk N ρ) w:=by
 simp only[LW]
 rw[if_pos hu]
 unfold B9
 rw[if_pos hk]
 refine⟨v,fun w' hc=>.inl ?_,?_⟩
 ·rw[BB];exact hr w' hc
 ·rw[hd,Cj];exact h
theorem G5 {o:Oper}{d:Nat}(hd:o.dst=some d)(hu:Up ops N ρ o)
  (v:Value) (w1:World) (hr:(execOp (Ba N ρ) o).run P w=.ok (.value v) w1) (hE:Az w w1) (h:LW P ops w0 Q os ks (mk N (C7 ρ d v)) w1):LW P ops w0 Q (o::os) (3::ks) (mk N ρ) w:=by
 simp only[LW]
 rw[if_pos hu]
 unfold B9
 rw[if_neg (by decide),if_pos rfl]
 unfold Oper.wp
 rw[BB,hr]
 show Az w w1∧LW P ops w0 Q os ks ((mk N ρ).put o.dst v) w1
 rw[hd,Cj]
 exact⟨hE,h⟩
theorem As {d:Nat} {x:Operand} {xs:Array Operand} {ats:Array TypeId} {ty:TypeId} {pos:String} {aft:Array Edge} {g:Option (Nat × Bool)} (f:FuncId) (first cap:List Value) (args:List Value)
  (hx:Ba N ρ x = .func (.func f) first.toArray cap.toArray) (hxs:first++(xs.toList.map (Ba N ρ))++cap = args) (hf:((P.funcs[f]?).map fun fn=>(fn.name != "runtime.NumGoroutine") && fn.body.isSome) = some true)
  (hu:Up ops N ρ ⟨some d,.call ⟨.value x,xs,ats⟩,ty,pos,aft,g⟩) {R:Ending→World→Prop} (hc:Calls P f args.toArray w R)
  (h:∀ e w1,R e w1→∃ v,e = .returned v∧Az w w1∧LW P ops w0 Q os ks (mk N (C7 ρ d v)) w1) :
  LW P ops w0 Q (⟨some d,.call ⟨.value x,xs,ats⟩,ty,pos,aft,g⟩ :: os) (3 :: ks) (mk N ρ) w:=by
 simp only [LW]
 rw [if_pos hu]
 unfold B9
 rw [if_neg (by decide),if_pos rfl]
 unfold Oper.wp
 rw [BB]
 have hrun:(execOp (Ba N ρ) ⟨some d,.call ⟨.value x,xs,ats⟩,ty,pos,aft,g⟩).run P w = .ok (.enter f args.toArray) w:=by
  obtain ⟨fn,hfn,hb⟩:=Option.map_eq_some_iff.1 hf
  simp only [z7,bne_iff_ne,ne_eq] at hb
  have hargs:first.toArray++xs.map (Ba N ρ)++cap.toArray = args.toArray:=by
   rw [← hxs]; apply Array.ext'; simp
  obtain ⟨c,hbc⟩:=Option.isSome_iff_exists.1 hb.2
  have hcf:(callFunc f args.toArray).run P w = .ok (.enter f args.toArray) w:=by
   simp [callFunc,hfn,hb.1,hbc]
  simp [execOp,resolve,hargs,hx,Deferred.ofValue,invoke,hcf]
 rw [hrun]
 refine Calls.mono hc (fun e w1 he=>?_)
 obtain ⟨v,rfl,hE,hL⟩:=h e w1 he
 show Az w w1∧LW P ops w0 Q os ks ((mk N ρ).put (some d) v) w1
 rw [Cj]
 exact ⟨hE,hL⟩
theorem AJ {d:Nat} {x:Operand} {xs:Array Operand} {ats:Array TypeId} {ty:TypeId} {pos:String} {aft:Array Edge} {g:Option (Nat × Bool)} (f:FuncId) (first cap:List Value) (args:List Value)
  (hx:Ba N ρ x = .func (.func f) first.toArray cap.toArray) (hxs:first++(xs.toList.map (Ba N ρ))++cap = args) (hf:((P.funcs[f]?).map fun fn=>(fn.name != "runtime.NumGoroutine") && fn.body.isSome) = some true)
  (hu:Up ops N ρ ⟨some d,.call ⟨.value x,xs,ats⟩,ty,pos,aft,g⟩) (v:Value) (hc:∀ w',Calls P f args.toArray w' (fun e w''=>e = .returned v∧w'' = w'))
  (h:LW P ops w0 Q os ks (mk N (C7 ρ d v)) w) :
  LW P ops w0 Q (⟨some d,.call ⟨.value x,xs,ats⟩,ty,pos,aft,g⟩ :: os) (0 :: ks) (mk N ρ) w:=by
 simp only [LW]
 rw [if_pos hu]
 unfold B9
 rw [if_pos (by decide)]
 have hrun:∀ w,(execOp (Ba N ρ) ⟨some d,.call ⟨.value x,xs,ats⟩,ty,pos,aft,g⟩).run P w = .ok (.enter f args.toArray) w:=by
  intro w
  obtain ⟨fn,hfn,hb⟩:=Option.map_eq_some_iff.1 hf
  simp only [z7,bne_iff_ne,ne_eq] at hb
  have hargs:first.toArray++xs.map (Ba N ρ)++cap.toArray = args.toArray:=by
   rw [← hxs]; apply Array.ext'; simp
  obtain ⟨c,hbc⟩:=Option.isSome_iff_exists.1 hb.2
  have hcf:(callFunc f args.toArray).run P w = .ok (.enter f args.toArray) w:=by
   simp [callFunc,hfn,hb.1,hbc]
  simp [execOp,resolve,hargs,hx,Deferred.ofValue,invoke,hcf]
 refine ⟨v,fun w' _=>.inr (.inr ⟨f,args.toArray,?_,hc w'⟩),?_⟩
 ·rw [BB]; exact hrun w'
 ·show LW P ops w0 Q os ks ((mk N ρ).put (some d) v) w
  rw [Cj]; exact h
end
section
variable {P:Program} {ops:Array Oper} {w0:World} {Q:Act→World→Prop} {os:List Oper} {ks:List Nat} {N:Nat} {ρ:Nat→Value} {w:World}
 {d:Nat} {ty:TypeId} {pos:String} {aft:Array Edge} {g:Option (Nat×Bool)} {t e:TypeId}
theorem AN {t e:TypeId}{x y:Operand}{v:Value}{n s:Nat}{k:IntKind}{i:Int}(j:Nat)(ht:P.underlying t=some (.slice e)){z:Value}{b:Nat}(hi:TI P e s z b)(hx:Ba N ρ x=v)(hy:Ba N ρ y=.int k i)
  (hs:EC v n) (hj:i=(j:Int)) (hlt:j<n) (hu:Up ops N ρ ⟨some d,.indexAddr t x y,ty,pos,aft,g⟩)
  (h:LW P ops w0 Q os ks (mk N (C7 ρ d (AE v j s))) w):LW P ops w0 Q (⟨some d,.indexAddr t x y,ty,pos,aft,g⟩::os) (0::ks) (mk N ρ) w :=
 BV (by decide) rfl hu _ (fun w' _=>by
  obtain⟨a,c,rfl,ha⟩:=hs
  obtain⟨inf,h1,_,h3,_⟩:=hi.get
  subst hj
  cases a with
  |none=>have:=ha rfl;omega
  |some a =>
   have hlt':(j:Int)<(n:Int):=by omega
   simp[execOp,hx,hy,Instr.indexAt,asIntOf,run_underlying ht,sizeOf,typeInfo,h1,h3,AE,hlt]) h
theorem Ao {s:TypeId}{x:Operand}{i:Nat}{p:Value}{b o:Nat}(off:Nat)(hf:Ei P s i off=true)(hx:Ba N ρ x=p)(hp:p=.pointer (some ⟨b,o,none⟩))(hu:Up ops N ρ ⟨some d,.fieldAddr s x i,ty,pos,aft,g⟩)
  (h:LW P ops w0 Q os ks (mk N (C7 ρ d (Ar p off))) w):LW P ops w0 Q (⟨some d,.fieldAddr s x i,ty,pos,aft,g⟩::os) (0::ks) (mk N ρ) w :=
 BV (by decide) rfl hu _ (fun w' _=>by
  subst hp
  unfold Ei at hf
  split at hf
  ·rename_i fs hfs
   split at hf
   ·rename_i f hff
    simp only[z7,beq_iff_eq]at hf
    obtain⟨rfl,hf2⟩:=hf
    split at hf2
    ·rename_i inf hin
     have hne:inf.size≠0:=by simpa using hf2
     simp[execOp,Instr.fieldAt,Instr.sureAddr,run_underlying hfs,hff,hx,fieldPlace,sizeOf,typeInfo,hin,hne,EF,Ar]
    ·cases hf2
   ·cases hf
  ·cases hf) h
end
section
variable {P:Program} {ops:Array Oper} {w0:World} {Q:Act→World→Prop} {os:List Oper} {ks:List Nat} {N:Nat} {ρ:Nat→Value} {w:World}
 {d:Nat} {ty:TypeId} {pos:String} {aft:Array Edge} {g:Option (Nat×Bool)} {t e:TypeId} {z:Value} {b:Nat}
theorem IY {α:Type}{E:Bu α}(hE:Ck E){x:Operand}{u:Value}{y:α}{B U:Nat}(ht:P.underlying t=some (.slice e))(hi:TI P e 1 z b)(hz:z.cells=#[z])(hx:Ba N ρ x=u)(hy:Fr E B U w.heap u y)(hB:B≤w.heap.size)
  (hu:Up ops N ρ ⟨some d,.buildSlice t 1 #[(0,x)],ty,pos,aft,g⟩)
  (h:∀v w1,_root_.Go.Proofs.Ytjnbnlniafmblaa.Az w w1→w1.heap.size=w.heap.size+1→Fr (JN E e) B w1.heap.size w1.heap v [y]→LW P ops w0 Q os ks (mk N (C7 ρ d v)) w1) :
  LW P ops w0 Q (⟨some d,.buildSlice t 1 #[(0,x)],ty,pos,aft,g⟩::os) (3::ks) (mk N ρ) w:=by
 obtain⟨F,h1,h2,h3⟩:=hy
 have hr:=GJ (P:=P) (w:=w) ht hi (hE.cells h1) hz
 have hrun:(execOp (Ba N ρ) ⟨some d,.buildSlice t 1 #[(0,x)],ty,pos,aft,g⟩).run P w=.ok (.value (.slice (some ⟨w.heap.size,0,none⟩) 1 1)) (w.alloc (.cells #[u] e)):=by
  simp only[execOp,zc,zf,zh,Sem.run_bind,hx,hr,Result.andThen_ok,Sem.run_pure]
 refine G5 rfl hu _ _ hrun (J.ext<|Bl _ _)<|h _ _ (Bl _ _) (by simp) ?_
 have hn:=GI (e:=e) (w:=w) hE (us:=[u]) (xs:=[y]) (F:=F++[]) (cur:=#[u]) ⟨F,[],rfl,h1,rfl⟩ (by simp[maxLen]) rfl (by simp)
 refine⟨_,hn,?_,fun c hc=>?_⟩
 ·rw[List.append_nil,List.nodup_cons]
  exact⟨fun hm=>by have:=hE.lt h1 _ hm;omega,h2⟩
 ·have hlt:=(G7 hE).lt hn c hc
  refine⟨?_,hlt⟩
  rcases ze.1 hc with rfl|hc
  ·exact hB
  ·exact (h3 c (by simpa using hc)).1
end
end Jx
end
section
section ops
variable {P:Program} {ops:Array Oper} {w0:World} {Q:Act→World→Prop} {os:List Oper} {ks:List Nat} {N:Nat} {ρ:Nat→Value} {w:World}
 {d:Nat} {ty:TypeId} {pos:String} {aft:Array Edge} {g:Option (Nat×Bool)} {t e:TypeId}
theorem AF {x:Operand}{p:Value}(hp:∃g o,p=.pointer (some ⟨g,o,none⟩))(hx:Ba N ρ x=p)(hu:Up ops N ρ ⟨some d,.nilCheck x,ty,pos,aft,g⟩)
  (h:LW P ops w0 Q os ks (mk N (C7 ρ d p)) w):LW P ops w0 Q (⟨some d,.nilCheck x,ty,pos,aft,g⟩::os) (0::ks) (mk N ρ) w:=by
 obtain⟨b,o,rfl⟩:=hp
 exact BV (by decide) rfl hu _ (fun w' _=>by simp[execOp,hx]) h
theorem Hm (a:Addr):a.add 0=a:=by
 obtain⟨b,o,s⟩:=a
 unfold Addr.add
 simp
end ops
end
section
def BM (a b:ByteArray):Bool:=a.toList == b.toList
section ops
variable {P:Program} {ops:Array Oper} {w0:World} {Q:Act→World→Prop} {os:List Oper} {ks:List Nat} {N:Nat} {ρ:Nat→Value} {w:World}
 {d:Nat} {ty:TypeId} {pos:String} {aft:Array Edge} {g:Option (Nat×Bool)} {t e:TypeId}
theorem DY {xt yt:TypeId}{x y:Operand}{a b:ByteArray}(c:Bool)(ht:P.underlying xt=some .string)(hx:Ba N ρ x=.string a)(hy:Ba N ρ y=.string b)(hc:BM a b=c)(hu:Up ops N ρ ⟨some d,.binOp .eql xt x y yt,ty,pos,aft,g⟩)
  (h:LW P ops w0 Q os ks (mk N (C7 ρ d (.bool c))) w):LW P ops w0 Q (⟨some d,.binOp .eql xt x y yt,ty,pos,aft,g⟩::os) (0::ks) (mk N ρ) w :=
 BV (by decide) rfl hu _ (fun w' _=>by
  have he:(eqGuard .eql xt x y (.string a) (.string b)).run P w'=.ok () w':=rfl
  have hr:(binOp .eql xt (.string a) (.string b)).run P w'=.ok (.bool (BM a b)) w':=by simp[binOp,Op.stringOp,BM]
  simp only[execOp,hx,hy,Sem.run_bind,he,Result.andThen_ok,hr,hc,Sem.run_pure]) h
theorem FO {xt yt:TypeId}{x y:Operand}{a b:ByteArray}(c:Bool)(ht:P.underlying xt=some .string)(hx:Ba N ρ x=.string a)(hy:Ba N ρ y=.string b)(hc:(!BM a b)=c)(hu:Up ops N ρ ⟨some d,.binOp .neq xt x y yt,ty,pos,aft,g⟩)
  (h:LW P ops w0 Q os ks (mk N (C7 ρ d (.bool c))) w):LW P ops w0 Q (⟨some d,.binOp .neq xt x y yt,ty,pos,aft,g⟩::os) (0::ks) (mk N ρ) w :=
 BV (by decide) rfl hu _ (fun w' _=>by
  have he:(eqGuard .neq xt x y (.string a) (.string b)).run P w'=.ok () w':=rfl
  have hr:(binOp .neq xt (.string a) (.string b)).run P w'=.ok (.bool (!BM a b)) w':=by simp[binOp,Op.stringOp,BM]
  simp only[execOp,hx,hy,Sem.run_bind,he,Result.andThen_ok,hr,hc,Sem.run_pure]) h
def G9:Value→Nat→Value
 |.slice a _ c,k=>.slice a k c
 |v,_=>v
theorem RN.pref {α:Type}{S:List Nat}{s:Nat}{E:B0 α}{H:Array Obj}{v:Value}{xs:List α}(hE:Bj s E){k:Nat}(h:RN S (Ct s E) H v xs)(hk:k≤xs.length):RN S (Ct s E) H (G9 v k) (xs.take k):=by
 obtain⟨F,h,hb⟩:=h
 obtain⟨a,c,rfl,_⟩:=h.cap
 obtain⟨G,g1,g2⟩:=h.take hE hk
 exact⟨G,g1,fun b hm=>hb b (g2 b hm)⟩
theorem RN.capS {α:Type}{S:List Nat}{s:Nat}{E:B0 α}{H:Array Obj}{v:Value}{xs:List α}(h:RN S (Ct s E) H v xs):IC v:=by
 obtain⟨F,h,hb⟩:=h
 obtain⟨a,c,rfl,hl⟩:=h.cap
 exact hl
theorem Ju {x y:Operand}{v z:Value}{n s b k:Nat}(ht:P.underlying t=some (.slice e))(hi:TI P e s z b)(hx:Ba N ρ x=v)(hs:EC v n)(hc:IC v)(hy:Ba N ρ y=.int .i64 (k:Int))(hk:k≤n)(hu:Up ops N ρ ⟨some d,.slice t x none (some y) none,ty,pos,aft,g⟩)
  (h:LW P ops w0 Q os ks (mk N (C7 ρ d (G9 v k))) w):LW P ops w0 Q (⟨some d,.slice t x none (some y) none,ty,pos,aft,g⟩::os) (0::ks) (mk N ρ) w:=by
 obtain⟨a,cap,rfl,_⟩:=hs
 obtain⟨inf,h1,_,h3,_⟩:=hi.get
 refine BV (by decide) rfl hu _ (fun w' _=>?_) h
 have hl:n≤cap:=hc
 have hl':k≤cap:=by omega
 have hmap:∀a:Option Addr,a.map (·.add 0)=a:=fun a=>by cases a <;> simp[Hm]
 simp[execOp,hx,hy,Instr.sliceAt,Instr.slice,Instr.sliceBounds,Instr.sliceBound,asIntOf,run_underlying ht,sizeOf,typeInfo,h1,h3,hl',hmap,G9]
end ops
end
def J1 (s:ByteArray)(i:Nat):Bool:=(decide (97≤DU s i) && decide (DU s i≤122)) || (decide (i≠0) && (decide (48≤DU s i) && decide (DU s i≤57)))
def FZ (s:ByteArray):Bool:=(decide (1≤s.size) && decide (s.size≤12)) && (List.range s.size).all (J1 s)
def FA (p:List Fn)(e:Ex)(vars funcs:Int):Bool :=
 D4 vars 0 412 && (D4 funcs 0 ((p.length:Nat):Int) && (decide (e.size≤400) && (decide (e.deep≤60) && wf p funcs e vars)))
def Jv (p:List Fn)(k:Nat):Bool:=!((p.take k).any fun g=>BM g.name (p.getD k Fn.zero).name)
def Ej (p:List Fn)(k:Nat):Bool :=
 (FZ (p.getD k Fn.zero).name && Jv p k) && ((D4 (p.getD k Fn.zero).params 0 12 && D4 (((p.getD k Fn.zero).outs.length:Nat):Int) 1 12) &&
  ((List.range (p.getD k Fn.zero).outs.length).all (fun j=>FA p ((p.getD k Fn.zero).outs.getD j Ex.zero) (p.getD k Fn.zero).params ((k:Nat):Int)) && decide (Ex.sizes (p.getD k Fn.zero).outs≤400)))
def Cw (p:List Fn):Bool:=decide (p.length≤16) && (List.range p.length).all (Ej p)
def G0 (p:List Fn):Prop:=∀k,k<p.length→Ex.sizes (p.getD k Fn.zero).outs≤2000000∧(p.getD k Fn.zero).outs.length≤2000000∧(p.getD k Fn.zero).name.size≤2000000
theorem C3 {f:Nat→Bool}{k:Nat}(h:(List.range k).all f=true)(hk:f k=true):(List.range (k+1)).all f=true:=by
 rw[List.range_succ,List.all_append,h];simp[hk]
theorem DZ {f:Nat→Bool}{k n:Nat}(hk:k<n)(h:f k=false):(List.range n).all f=false:=by
 rw[List.all_eq_false]
 exact⟨k,List.mem_range.2 hk,by simp[h]⟩
theorem GQ {f:Nat→Bool}{k n:Nat}(h:(List.range n).all f=true)(hk:k<n):f k=true:=zm.1 h k (List.mem_range.2 hk)
theorem Jw {p:List Fn}(h:Cw p=true){k:Nat}(hk:k<p.length):Ej p k=true:=by
 unfold Cw at h
 rw[z7]at h
 exact GQ h.2 hk
theorem Eq {p:List Fn}(h:Cw p=true):Ld p:=by
 have h1:∀k,k<p.length→(0≤(p.getD k Fn.zero).params∧(p.getD k Fn.zero).params≤12)∧(1≤(p.getD k Fn.zero).outs.length∧(p.getD k Fn.zero).outs.length≤12) ∧
   ∀j,j<(p.getD k Fn.zero).outs.length→FA p ((p.getD k Fn.zero).outs.getD j Ex.zero) (p.getD k Fn.zero).params ((k:Nat):Int)=true:=by
  intro k hk
  have:=Jw h hk
  unfold Ej at this
  simp only[z7,BC]at this
  exact⟨this.2.1.1,zO,fun j hj=>GQ this.2.2.1 hj⟩
 have h2:∀k,k<p.length→∀j,j<(p.getD k Fn.zero).outs.length→((p.getD k Fn.zero).outs.getD j Ex.zero).deep≤60∧wf p ((k:Nat):Int) ((p.getD k Fn.zero).outs.getD j Ex.zero) (p.getD k Fn.zero).params=true:=by
  intro k hk j hj
  have:=(h1 k hk).2.2 j hj
  unfold FA at this
  simp only[z7,decide_eq_true_eq]at this
  exact⟨this.2.2.2.1,this.2.2.2.2⟩
 exact⟨fun k hk=>(h1 k hk).1,fun k hk=>(h1 k hk).2.1,fun k hk j hj=>(h2 k hk j hj).1,fun k hk j hj=>(h2 k hk j hj).2⟩
theorem Er {p:List Fn}(h:Cw p=true):p.length≤16:=by
 unfold Cw at h;simp only[z7,decide_eq_true_eq]at h;exact h.1
def Hn (p:List Fn)(f:Int):Int:=if Cw p=true then(if 0≤f∧f≤((p.length:Nat):Int)-1 then 0 else 2)else 1
theorem J2 {p:List Fn}{f:Int}(h:Hn p f=0):Cw p=true∧0≤f∧f<((p.length:Nat):Int):=by
 unfold Hn at h
 split at h
 ·split at h
  ·rename_i h1 h2;exact⟨h1,h2.1,zO⟩
  ·omega
 ·omega
section
mutual
def Dp:Ex→Int→Int
 |.mk _ _ _ _ l,x=>BG l (x-1)
def BG:List Ex→Int→Int
 |[],x=>x
 |e::l,x=>if 0≤x then BG l (Dp e x)else x
end
theorem ID (e:Ex)(x:Int):Dp e x=BG e.kids (x-1):=by cases e;rw[Dp];rfl
theorem EI {l:List Ex}{x:Int}(h:x<0):BG l x=x:=by
 cases l with
 |nil=>rw[BG]
 |cons e l=>rw[BG,if_neg (by omega)]
mutual
theorem EJ:∀(e:Ex)(x:Int),0≤x→(Dp e x=x-(e.size:Int)∧(e.size:Int)≤x)∨(Dp e x = -1∧x<(e.size:Int))
 |.mk k n q c l,x,h=>by
  rw[Dp,Ex.size]
  by_cases h0:x=0
  ·subst h0
   right
   rw[EI (by omega)]
   refine⟨zO,zO⟩
  ·rcases Dj l (x-1) (by omega)with h1|h1
   ·left;omega
   ·right;omega
theorem Dj:∀(l:List Ex)(x:Int),0≤x→(BG l x=x-(Ex.sizes l:Int)∧(Ex.sizes l:Int)≤x)∨(BG l x = -1∧x<(Ex.sizes l:Int))
 |[],x,h=>by rw[BG,Ex.sizes];left;omega
 |e::l,x,h=>by
  rw[BG,if_pos h,Ex.sizes]
  rcases EJ e x h with h1|h1
  ·rw[h1.1]
   rcases Dj l (x-(e.size:Int)) (by omega)with h2|h2
   ·left;omega
   ·right;omega
  ·rw[h1.1,EI (by omega)]
   right;omega
end
theorem FB (e:Ex):∀(l:List Ex)(x:Int),BG (l++[e]) x=if 0≤BG l x then Dp e (BG l x)else BG l x
 |[],x=>by
  rw[zl,BG,BG]
  split
  ·rw[BG]
  ·rfl
 |a::l,x=>by
  rw[List.cons_append,BG,BG]
  by_cases h:0≤x
  ·rw[if_pos h,if_pos h,FB e l]
  ·rw[if_neg h,if_neg h,if_neg h]
theorem FC {l:List Ex}{k:Nat}(hk:k<l.length){x:Int}(h:0≤BG (l.take k) x):BG (l.take (k+1)) x=Dp (l.getD k Ex.zero) (BG (l.take k) x):=by
 rw[List.take_succ_eq_append_getElem hk,FB,if_pos h]
 simp[hk]
theorem Ga:∀(l r:List Ex)(x:Int),BG l x<0→BG (l++r) x=BG l x
 |[],r,x,h=>by rw[BG]at h ⊢;rw[zl,EI h]
 |a::l,r,x,h=>by
  rw[BG]at h ⊢
  rw[List.cons_append,BG]
  split
  ·rename_i h0;rw[if_pos h0]at h;exact Ga l r _ h
  ·rfl
theorem FD {l:List Ex}{k:Nat}{x:Int}(h:BG (l.take k) x<0):BG l x=BG (l.take k) x:=by
 have:=Ga (l.take k) (l.drop k) x h
 rwa [List.take_append_drop]at this
theorem Gb {e:Ex}{x:Int}(h:0≤x):-1≤Dp e x∧Dp e x≤x:=by
 rcases EJ e x h with h1|h1 <;> omega
theorem HG {e:Ex}{x:Int}(h:0≤x):0≤Dp e x↔(e.size:Int)≤x:=by
 rcases EJ e x h with h1|h1 <;> omega
def Ho (k:Int):Int:=if k=1∨k=2 then 0 else if k=3∨k=4∨k=5∨k=6∨k=9 then 2 else if k=7 then 1 else if k=8 then 3 else -1
theorem FP {p q:Prop} [Decidable p] [Decidable q] (h:p↔q):decide p=decide q:=decide_eq_decide.2 h
section
variable {p:List Fn} {F vars:Int} {e:Ex}
theorem Hp (h:EH p F vars e=true)(h10:e.kind≠10)(h11:e.kind≠11):e.pick=0∧e.count=0∧Ho e.kind=((e.kids.length:Nat):Int)∧(e.kind≠1→e.kind≠2→e.num=0):=by
 unfold EH Cm at h
 unfold Ho
 split at h
 ·rename_i h1
  simp only[z7,decide_eq_true_eq]at h
  rw[if_pos (by omega)]
  exact⟨h.1.1,h.1.2,zO,fun hh=>absurd h1 hh⟩
 ·split at h
  ·rename_i h1
   simp only[z7,decide_eq_true_eq]at h
   rw[if_pos (by omega)]
   exact⟨h.1.1,h.1.2,zO,fun _ hh=>absurd h1 hh⟩
  ·split at h
   ·simp only[z7,decide_eq_true_eq]at h
    rw[if_neg zO,if_pos (by omega)]
    exact⟨h.1.1,h.1.2,zO,fun _ _=>h.2.1⟩
   ·split at h
    ·simp only[z7,decide_eq_true_eq]at h
     rw[if_neg zO,if_neg zO,if_pos (by omega)]
     exact⟨h.1.1,h.1.2,zO,fun _ _=>h.2.1⟩
    ·split at h
     ·simp only[z7,decide_eq_true_eq]at h
      rw[if_neg zO,if_neg zO,if_neg zO,if_pos (by omega)]
      exact⟨h.1.1,h.1.2,zO,fun _ _=>h.2.1⟩
     ·split at h
      ·omega
      ·cases h
theorem Jy (h10:e.kind≠10)(h11:e.kind≠11)(h:Ho e.kind≠((e.kids.length:Nat):Int)∨e.pick≠0∨e.count≠0):false=EH p F vars e:=by
 cases hw:EH p F vars e with
 |false=>rfl
 |true =>
  have:=Hp hw h10 h11
  omega
theorem KK (hk:Ho e.kind=((e.kids.length:Nat):Int))(h1:e.kind=1)(hp:e.pick=0)(hc:e.count=0):FM e.num=EH p F vars e:=by
 have hl:e.kids.length=0:=by unfold Ho at hk;rw[if_pos (by omega)]at hk;omega
 unfold EH Cm
 rw[if_pos h1,A5 hp,A5 hc,A5 hl];rfl
theorem KL (hk:Ho e.kind=((e.kids.length:Nat):Int))(h1:e.kind=2)(hp:e.pick=0)(hc:e.count=0):(decide (((0:Nat):Int)≤e.num) && decide (e.num≤vars-1))=EH p F vars e:=by
 have hl:e.kids.length=0:=by unfold Ho at hk;rw[if_pos (by omega)]at hk;omega
 unfold EH Cm D4
 rw[if_neg zO,if_pos h1,A5 hp,A5 hc,A5 hl];rfl
theorem KM (hk:Ho e.kind=((e.kids.length:Nat):Int))(h1:e.kind≠1)(h2:e.kind≠2)(h10:e.kind≠10)(h11:e.kind≠11)(hp:e.pick=0)(hc:e.count=0):decide (e.num=0)=EH p F vars e:=by
 unfold Ho at hk
 unfold EH Cm
 rw[if_neg h1,if_neg h2,A5 hp,A5 hc]
 rw[if_neg (by omega)]at hk
 split at hk
 ·rename_i h3
  rw[if_pos h3,A5 (show e.kids.length=2 by omega)];simp
 ·rename_i h3
  rw[if_neg h3]
  split at hk
  ·rename_i h4
   rw[if_pos h4,A5 (show e.kids.length=1 by omega)];simp
  ·rename_i h4
   rw[if_neg h4]
   split at hk
   ·rename_i h5
    rw[if_pos h5,A5 (show e.kids.length=3 by omega)];simp
   ·omega
end
end
def FQ (p:List Fn)(f:Int):Bool:=D4 f 0 (((p.length:Nat):Int)-1) && (decide (1≤(p.getD f.toNat Fn.zero).params) && decide ((((p.getD f.toNat Fn.zero).outs.length:Nat):Int)=(p.getD f.toNat Fn.zero).params))
def GR (p:List Fn)(f:Int):Bool:=Cw p && FQ p f
def D5 (p:List Fn)(f:Int)(l:List Sr):Int :=
 if Cw p=true then(if FQ p f=true then(if l.all (fun s=>decide (((s.length:Nat):Int)=(p.getD f.toNat Fn.zero).params) && EG s)=true then 0 else 2)else 2)else 1
theorem GS (p:List Fn)(f:Int)(l:List Sr):0≤D5 p f l∧D5 p f l≤2:=by
 unfold D5;split <;> (try split) <;> (try split) <;> omega
theorem Dk {p:List Fn}{f:Int}:FQ p f=true↔(0≤f∧f≤((p.length:Nat):Int)-1)∧1≤(p.getD f.toNat Fn.zero).params∧(((p.getD f.toNat Fn.zero).outs.length:Nat):Int)=(p.getD f.toNat Fn.zero).params:=by
 unfold FQ;rw[z7,z7,BC,decide_eq_true_eq,decide_eq_true_eq]
section
def Be {α:Type}(s:Nat)(E:B0 α)(e:TypeId):Bu (List α):=fun H v xs F =>
 (v=.slice none 0 0∧xs=[]∧F=[]) ∨
 ∃css g cap cur F',Bg E H css xs F'∧v=.slice (some ⟨g,0,none⟩) xs.length cap∧H[g]? = some (.cells cur e (0,0))∧xs.length≤cap∧cap≤maxLen∧cur.size=cap*s∧cur.toList.take (xs.length*s)=css.flatten∧F=g::F'
section Be
variable {α:Type} {E:B0 α} {s:Nat} {e:TypeId} {H H':Array Obj} {v:Value} {xs:List α} {F:List Nat}
theorem Ad (hE:Bj s E):Ck (Be s E e) where
 cells:=by
  rintro H v xs F (⟨rfl,_⟩|⟨us,g,cap,cur,F',_,rfl,_⟩) <;> rfl
 one:=by
  rintro H v xs F (⟨rfl,_⟩|⟨us,g,cap,cur,F',_,rfl,_⟩) <;> rfl
 lt:=by
  rintro H v xs F (⟨rfl,_,rfl⟩|⟨us,g,cap,cur,F',h,rfl,hg,_,_,_,_,rfl⟩) b hb
  ·cases hb
  ·rcases ze.1 hb with rfl|hb
   ·exact getElem?_lt hg
   ·exact h.lt hE b hb
 stable:=by
  rintro H H' v xs F (⟨rfl,h1,h2⟩|⟨us,g,cap,cur,F',h,rfl,hg,r1,r2,r3,r4,rfl⟩) hb
  ·exact .inl ⟨rfl,h1,h2⟩
  ·exact .inr ⟨us,g,cap,cur,F',h.stable hE fun b hh=>hb b<|z3 _ hh,rfl,by rw[hb g (z0 ..)];exact hg,r1,r2,r3,r4,rfl⟩
theorem Bg.imp {E':B0 α}(hi:∀ {H cs x F},E H cs x F→E' H cs x F):∀ {css:List (List Value)}{xs:List α}{F:List Nat},Bg E H css xs F→Bg E' H css xs F
 |[],[],_,h=>h
 |_::_,_::_,_,⟨F1,F2,rfl,h1,h2⟩=>⟨F1,F2,rfl,hi h1,Bg.imp hi h2⟩
 |[],_::_,_,h=>h.elim
 |_::_,[],_,h=>h.elim
theorem Be.imp {E':B0 α}(hi:∀ {H cs x F},E H cs x F→E' H cs x F)(h:Be s E e H v xs F):Be s E' e H v xs F:=by
 rcases h with h|⟨us,g,cap,cur,F',h,rfl,hg,r1,r2,r3,r4,rfl⟩
 ·exact .inl h
 ·exact .inr ⟨us,g,cap,cur,F',h.imp hi,rfl,hg,r1,r2,r3,r4,rfl⟩
theorem Be.rd (hE:Bj s E)(h:Be s E e H v xs F):Ct s E H v xs F:=by
 rcases h with⟨rfl,rfl,rfl⟩|⟨us,g,cap,cur,F',h,rfl,hg,r1,r2,r3,r4,rfl⟩
 ·exact .inl ⟨none,0,rfl,rfl,rfl⟩
 ·refine .inr ⟨us,g,0,cap,cur,e,(0,0),F',h,rfl,hg,?_,⟨A8 r1 r2,r1⟩,rfl⟩
  rw[List.drop_zero];exact r4
theorem Be.isSl (h:Be s E e H v xs F):EC v xs.length:=by
 rcases h with⟨rfl,rfl,_⟩|⟨us,g,cap,cur,F',_,rfl,_⟩
 ·exact⟨none,0,rfl,fun _=>rfl⟩
 ·exact⟨_,_,rfl,fun h=>by cases h⟩
theorem Be.lenle (h:Be s E e H v xs F):xs.length≤maxLen:=by
 rcases h with⟨_,rfl,_⟩|⟨us,g,cap,cur,F',_,_,_,r1,r2,_⟩
 ·simp
 ·exact A8 r1 r2
theorem Bg.set:∀ {css:List (List Value)}{xs:List α}{F G:List Nat}{k:Nat}{cs:List Value}{y:α},Bg E H css xs F→k<xs.length→F.Nodup→E H cs y G→G.Nodup→(∀b∈G,b∉F) →
  ∃F',Bg E H (css.set k cs) (xs.set k y) F'∧F'.Nodup∧∀b∈F',b∈F∨b∈G
 |u0::us,x::xs,_,G,0,u,y,⟨F1,F2,rfl,h1,h2⟩,_,hn,hy,hg,hd=>by
  have hn':=List.nodup_append.1 hn
  refine⟨G++F2,⟨G,F2,rfl,hy,h2⟩,List.nodup_append.2 ⟨hg,hn'.2.1,?_⟩,fun b hb=>(zi.1 hb).elim .inr fun h=>.inl (z1 _ h)⟩
  rintro a ha b hb rfl
  exact hd a ha<|z1 _ hb
 |u0::us,x::xs,_,G,k+1,u,y,⟨F1,F2,rfl,h1,h2⟩,hk,hn,hy,hg,hd=>by
  have hn':=List.nodup_append.1 hn
  obtain⟨F',q1,q2,q3⟩:=Bg.set h2 (by simpa using hk) hn'.2.1 hy hg fun b hb hc=>hd b hb (z1 _ hc)
  refine⟨F1++F',⟨F1,F',rfl,h1,q1⟩,List.nodup_append.2 ⟨hn'.1,q2,?_⟩,fun b hb=>?_⟩
  ·rintro a ha b hb rfl
   rcases q3 a hb with hh|hh
   ·exact hn'.2.2 a ha a hh rfl
   ·exact hd a hh<|z8 _ ha
  ·rcases zi.1 hb with hh|hh
   ·exact .inl<|z8 _ hh
   ·rcases q3 b hh with h'|h'
    ·exact .inl<|z1 _ h'
    ·exact .inr h'
 |[],[],_,_,_,_,_,_,hk,_,_,_,_=>by simp at hk
 |[],_::_,_,_,_,_,_,h,_,_,_,_,_=>h.elim
 |_::_,[],_,_,_,_,_,h,_,_,_,_,_=>h.elim
theorem Bg.upd:∀ {css:List (List Value)}{xs:List α}{F:List Nat}{k:Nat}(d:α),Bg E H css xs F→k<xs.length→F.Nodup →
  ∃cs G,css[k]? = some cs∧E H cs (xs.getD k d) G∧G.Nodup∧(∀b∈G,b∈F) ∧
   (∀ {H':Array Obj} {cs':List Value},(∀ {c x C},E H c x C→(∀b∈C,b∈F∧b∉G)→E H' c x C)→E H' cs' (xs.getD k d) G→Bg E H' (css.set k cs') xs F)
 |c::css,x::xs,_,0,d,⟨F1,F2,rfl,h1,h2⟩,_,hn=>by
  have hn':=List.nodup_append.1 hn
  refine⟨c,F1,rfl,h1,hn'.1,fun b hb=>z8 _ hb,fun {H' cs'} hE hu=>⟨F1,F2,rfl,hu,?_⟩⟩
  have key:∀ {us:List (List Value)} {xs:List α} {F:List Nat},Bg E H us xs F→(∀b∈F,b∈F2)→Bg E H' us xs F:=by
   intro us
   induction us with
   |nil=>intro xs F h _;cases xs with
    |nil=>exact h
    |cons=>exact h.elim
   |cons u us ih =>
    intro xs F h hs
    cases xs with
    |nil=>exact h.elim
    |cons x xs =>
     obtain⟨A,C,rfl,q1,q2⟩:=h
     exact⟨A,C,rfl,hE q1 fun b hb=>⟨z1 _ (hs b (z8 _ hb)),fun hc=>hn'.2.2 b hc b (hs b (z8 _ hb)) rfl⟩,ih q2 fun b hb=>hs b (z1 _ hb)⟩
  exact key h2 fun b hb=>hb
 |c::css,x::xs,_,k+1,d,⟨F1,F2,rfl,h1,h2⟩,hk,hn=>by
  have hn':=List.nodup_append.1 hn
  obtain⟨cs,G,hu,hx,hg,hb,hc⟩:=Bg.upd d h2 (by simpa using hk) hn'.2.1
  refine⟨cs,G,by simpa using hu,by simpa using hx,hg,fun b hh=>z1 _ (hb b hh),fun hE hy=>⟨F1,F2,rfl,hE h1 fun b hb'=>⟨z8 _ hb',fun hc'=>hn'.2.2 b hb' b (hb b hc') rfl⟩,?_⟩⟩
  exact hc (fun q hs=>hE q fun b hb'=>⟨z1 _ (hs b hb').1,(hs b hb').2⟩) (by simpa using hy)
 |[],[],_,_,_,_,hk,_=>by simp at hk
 |[],_::_,_,_,_,h,_,_=>h.elim
 |_::_,[],_,_,_,h,_,_=>h.elim
end Be
theorem DM {s:Nat}{vs:List Value}:∀ {css:List (List Value)}{k:Nat},(∀c∈css,c.length=s)→vs.length=s→k<css.length→css.flatten.take (k*s)++vs++css.flatten.drop (k*s+vs.length)=(css.set k vs).flatten
 |[],_,_,_,hk=>by simp at hk
 |c::css,0,h,hv,_=>by
  have hc:=h c (z0 ..)
  simp[hv,← hc]
 |c::css,k+1,h,hv,hk=>by
  have hc:=h c (z0 ..)
  have ih:=DM (s:=s) (vs:=vs) (css:=css) (k:=k) (fun c hc=>h c<|z3 _ hc) hv (by simpa using hk)
  have e1:(k+1)*s=c.length+k*s:=by rw[Nat.succ_mul,hc];omega
  have e2:(k+1)*s+vs.length=c.length+(k*s+vs.length):=by omega
  rw[e2,e1,List.set_cons_succ,List.flatten_cons,List.flatten_cons,List.take_length_add_append,List.drop_length_add_append,← ih]
  simp[List.append_assoc]
theorem FE {s:Nat}{u:Value}:∀ {css:List (List Value)}{k c:Nat}{cs:List Value},(∀c∈css,c.length=s)→css[k]? = some cs→c<s→css.flatten.set (k*s+c) u=(css.set k (cs.set c u)).flatten
 |[],_,_,_,_,hk,_=>by simp at hk
 |x::css,0,c,cs,h,hk,hc=>by
  have hx:=h x (z0 ..)
  have:x=cs:=by simpa using hk
  subst this
  rw[Nat.zero_mul,Nat.zero_add,List.flatten_cons,List.set_append,if_pos zO,List.set_cons_zero,List.flatten_cons]
 |x::css,k+1,c,cs,h,hk,hc=>by
  have hx:=h x (z0 ..)
  have ih:=FE (s:=s) (u:=u) (css:=css) (k:=k) (c:=c) (cs:=cs) (fun c hc=>h c<|z3 _ hc) (by simpa using hk) hc
  have e1:(k+1)*s+c=x.length+(k*s+c):=by rw[Nat.succ_mul,hx];omega
  rw[e1,List.flatten_cons,List.set_append,if_neg zO,Nat.add_sub_cancel_left,ih,List.set_cons_succ,List.flatten_cons]
theorem Bg.lens {α:Type}{E:B0 α}{s:Nat}{H:Array Obj}(hE:Bj s E):∀ {css:List (List Value)}{xs:List α}{F:List Nat},Bg E H css xs F→∀c∈css,c.length=s
 |[],[],_,_,c,hc=>by cases hc
 |_::_,_::_,_,⟨F1,F2,rfl,h1,h2⟩,c,hc=>(ze.1 hc).elim (fun h=>by rw[h];exact hE.len h1) (Bg.lens hE h2 c)
 |[],_::_,_,h,_,_=>h.elim
 |_::_,[],_,h,_,_=>h.elim
theorem Hq {L vs:List Value}{a M:Nat}(h:a+vs.length≤M)(hM:M≤L.length):(L.take a++vs++L.drop (a+vs.length)).take M=(L.take M).take a++vs++(L.take M).drop (a+vs.length):=by
 have h1:(L.take a++vs).length=a+vs.length:=by rw[z4,List.length_take];omega
 rw[List.take_append,h1,za zO,List.take_take,Nat.min_eq_left zO,List.drop_take]
section ops
variable {P:Program} {ops:Array Oper} {w0:World} {Q:Act→World→Prop} {os:List Oper} {ks:List Nat} {N:Nat} {ρ:Nat→Value} {w:World}
 {d:Nat} {ty:TypeId} {pos:String} {aft:Array Edge} {g:Option (Nat×Bool)} {t e:TypeId} {α:Type} {E:B0 α} {s:Nat}
theorem FF {zs:List Value}{s:Nat}(hz:zs.length=s)(n:Nat):(madeCells zs.toArray (n*s)).toList=(List.replicate n zs).flatten:=by
 apply List.ext_getElem?
 intro i
 by_cases hi:i<n*s
 ·have hs:0<s:=by
   rcases Nat.eq_zero_or_pos s with h|h
   ·rw[h,Nat.mul_zero]at hi;omega
   ·exact h
  have hm:i % s<zs.length:=by rw[hz];exact Nat.mod_lt _ hs
  have e1:(madeCells zs.toArray (n*s)).toList[i]? = some (zs[i % s]):=by
   simp only[madeCells,Array.toList_map,List.getElem?_map]
   rw[show(Array.range (n*s)).toList[i]? = some i from by simp[hi]]
   simp only[Option.map_some,List.size_toArray,hz]
   rw[getElem!_pos zs.toArray (i % s) (by simpa using hm)]
   simp
  have e2:∀(n i:Nat),i<n*s→(List.replicate n zs).flatten[i]? = zs[i % s]?:=by
   intro n
   induction n with
   |zero=>intro i hi;omega
   |succ n ih =>
    intro i hi
    rw[List.replicate_succ,List.flatten_cons]
    by_cases h:i<s
    ·rw[List.getElem?_append_left zO,Nat.mod_eq_of_lt h]
    ·rw[List.getElem?_append_right zO,hz,ih (i-s) (by rw[Nat.succ_mul]at hi;omega),← Nat.mod_eq_sub_mod (by omega)]
  rw[e1,e2 n i hi,List.getElem?_eq_getElem hm]
 ·rw[List.getElem?_eq_none (by simp[madeCells];omega),List.getElem?_eq_none (by simp[List.length_flatten,hz];omega)]
theorem GT {x y:Operand}{n b:Nat}{c:Int}{z:Value}{zs:List Value}{z0:α}(hE:Bj s E)(ht:P.underlying t=some (.slice e))(hi:TI P e s z b)(hzc:z.cells=zs.toArray)(hzl:zs.length=s)(hx:Ba N ρ x=.int .i64 c)(hy:Ba N ρ y=.int .i64 c)(hc:c=(n:Int))(hb:b≤1000)(hn:n≤1000000000)
  (h0:0<n→∀H,E H zs z0 []) (hu:Up ops N ρ ⟨some d,.makeSlice t x y,ty,pos,aft,g⟩)
  (h:∀v w1,Az w w1→w1.heap.size=w.heap.size+1→Fr (Be s E e) w.heap.size w1.heap.size w1.heap v (List.replicate n z0)→LW P ops w0 Q os ks (mk N (C7 ρ d v)) w1) :
  LW P ops w0 Q (⟨some d,.makeSlice t x y,ty,pos,aft,g⟩::os) (3::ks) (mk N ρ) w:=by
 subst hc
 obtain⟨i,h1,h2,h3,h4⟩:=hi.get
 have hbn:b*n≤1000*1000000000:=Nat.mul_le_mul hb hn
 have hr:=run_make (P:=P) w t e i _ ht h1 h2 .i64 .i64 n n zO zO (by rw[h4];have:((b*n:Nat):Int)≤281474976710656:=(by omega);rw[Int.natCast_mul]at this;exact this) zO
 have hrun:(execOp (Ba N ρ) ⟨some d,.makeSlice t x y,ty,pos,aft,g⟩).run P w=.ok (.value (.slice (some ⟨w.heap.size,0,none⟩) n n)) (w.alloc (.cells (madeCells z.cells ((n:Int).toNat*i.size)) e)):=by
  simp only[execOp,Sem.run_bind,hx,hy,hr,Result.andThen_ok,Sem.run_pure,Int.toNat_natCast]
 refine G5 rfl hu _ _ hrun (Bl _ _)<|h _ _ (Bl _ _) (by simp) ?_
 refine⟨[w.heap.size],.inr ⟨List.replicate n zs,w.heap.size,n,_,[],?_,by simp,heap_alloc_new _ _,by simp,by unfold maxLen;omega,?_,?_,rfl⟩,by simp,fun c hc=>?_⟩
 ·have:∀m,m≤n→Bg E (w.alloc (.cells (madeCells z.cells ((n:Int).toNat*i.size)) e)).heap (List.replicate m zs) (List.replicate m z0) []:=by
   intro m
   induction m with
   |zero=>intro _;rfl
   |succ m ih=>intro hm;exact⟨[],[],rfl,h0 zO _,ih zO⟩
  exact this n<|A7 _
 ·rw[h3,hzc,Int.toNat_natCast];simp[madeCells]
 ·rw[h3,hzc,Int.toNat_natCast,FF hzl n,z5]
  exact za (by rw[← FF hzl n];simp[madeCells])
 ·rw[List.mem_singleton]at hc
  subst hc
  simp
theorem HH {st:TypeId}{x y:Operand}{v:Value}{cs:List Value}{n:α}{xs:List α}{B U B' U' j:Nat}(hE:Bj s E)(hst:Cb P st s=true)(hx:Ba N ρ x=AE v j s)(hy:Ba N ρ y=.agg cs.toArray)
  (hv:Fr (Be s E e) B U w.heap v xs) (hn:∃G,E w.heap cs n G∧G.Nodup∧∀b∈G,B'≤b∧b<U') (hU:U≤B') (hBB:B≤B') (hj:j<xs.length) (hu:Up ops N ρ ⟨none,.store st x y,ty,pos,aft,g⟩)
  (h:∀w1 F,AG F w w1→w1.heap.size=w.heap.size→(∀c∈F,B≤c∧c<U)→Fr (Be s E e) B w1.heap.size w1.heap v (xs.set j n)→LW P ops w0 Q os ks (mk N ρ) w1) :
  LW P ops w0 Q (⟨none,.store st x y,ty,pos,aft,g⟩::os) (4::ks) (mk N ρ) w:=by
 obtain⟨F,h1,h2,h3⟩:=hv
 obtain⟨G,n1,n2,n3⟩:=hn
 rcases h1 with⟨rfl,rfl,rfl⟩|⟨css,b,cap,cur,F0,hels,rfl,hgc,r1,r2,r3,r4,rfl⟩
 ·simp at hj
 ·have hn':=List.nodup_cons.1 h2
  obtain⟨F',q1,q2,q3⟩:=hels.set hj hn'.2 n1 n2 fun c hc hm=>by have:=n3 c hc;have:=h3 c (z3 _ hm);omega
  have hbF':b∉F':=fun hm=>(q3 b hm).elim hn'.1 fun h=>by have:=n3 b h;have:=h3 b (z0 ..);omega
  have hlen:=hels.lens hE
  have hcl:cs.length=s:=hE.len n1
  have hfl:=hels.flen hE
  have hjs:j*s+s≤xs.length*s:=by rw[← Nat.succ_mul];exact Nat.mul_le_mul_right s hj
  have hcs:xs.length*s≤cur.size:=by rw[r3];exact Nat.mul_le_mul_right s r1
  have hst1:=run_storeCells_at (P:=P) b (j*s) e cs 0 cur w hgc zO fun u hu=>(hE.one n1 u hu).2
  rw[Nat.add_zero]at hst1
  have htk:(cur.toList.take (j*s)++cs++cur.toList.drop (j*s+cs.length)).take (xs.length*s)=(css.set j cs).flatten:=by
   rw[Hq zO (by rw[Array.length_toList];omega),r4,DM hlen hcl (by rw[hels.length];exact hj)]
  unfold Cb at hst
  simp only[z7]at hst
  obtain⟨_,p2⟩:=hst
  split at p2
  ·rename_i inf hin
   have hs:inf.size=s:=by simpa using p2
   have hr:(Instr.storeAt st (.pointer (some ⟨b,j*s,none⟩)) (.agg cs.toArray)).run P w=.ok () (w.setRow b (cur.toList.take (j*s)++cs++cur.toList.drop (j*s+cs.length)).toArray):=by
    simp[Instr.storeAt,Instr.sureAddr,storeVar,sizeOf,typeInfo,hin,Value.cells,hcl,hs,hst1]
   have hgn:=setRow_heap w b cur (cur.toList.take (j*s)++cs++cur.toList.drop (j*s+cs.length)).toArray e (0,0) hgc
   refine Iy rfl hu _ (CQ (by rw[hx,Dz,Nat.zero_add]) hy hr)<|h _ [b] ⟨rfl,rfl,rfl,by simp,fun k _ hk=>setRow_other w b k _ (by simpa using hk)⟩ (by simp) (fun c hc=>by rw[A9 hc];exact h3 b (z0 ..)) ⟨b::F',.inr ⟨css.set j cs,b,cap,_,F',q1.stable hE fun c hc=>setRow_other w b c _ fun he=>hbF' (he ▸ hc),by simp,hgn,by rw[z6];exact r1,r2,by rw[← r3,List.size_toArray];simp only[z4,List.length_take,List.length_drop,Array.length_toList];omega,by rw[z6];exact htk,rfl⟩,List.nodup_cons.2 ⟨hbF',q2⟩,fun c hc=>?_⟩
   rcases ze.1 hc with rfl|hc
   ·exact⟨(h3 c (z0 ..)).1,by rw[show(w.setRow c (cur.toList.take (j*s)++cs++cur.toList.drop (j*s+cs.length)).toArray).heap.size=w.heap.size from by simp];exact getElem?_lt hgc⟩
   ·have hlt:=q1.lt hE c hc
    rcases q3 c hc with hh|hh
    ·exact⟨(h3 c (z3 _ hh)).1,by simpa using hlt⟩
    ·exact⟨by have:=n3 c hh;omega,by simpa using hlt⟩
  ·cases p2
end ops
end
section
theorem Ct.imp {α:Type}{E E':B0 α}{s:Nat}{H:Array Obj}{v:Value}{xs:List α}{F:List Nat}(hi:∀ {H cs x F},E H cs x F→E' H cs x F)(h:Ct s E H v xs F):Ct s E' H v xs F:=by
 rcases h with h|⟨css,g,off,cap,cur,e,fr,F',h1,h2⟩
 ·exact .inl h
 ·exact .inr ⟨css,g,off,cap,cur,e,fr,F',h1.imp hi,h2⟩
def BR (e:TypeId):Nat→B0 Ex
 |0=>fun _ _ _ _=>False
 |d+1=>fun H cs x F=>∃v,cs=Ch x v∧Iu x∧Be 5 (BR e d) e H v x.kids F
theorem An (e:TypeId):∀d,Bj 5 (BR e d)
 |0=>⟨fun h=>h.elim,fun h=>h.elim,fun h=>h.elim,fun h=>h.elim⟩
 |d+1=>by
  have ih:=An e d
  refine⟨?_,?_,?_,?_⟩
  ·rintro H cs e F ⟨v,rfl,_,_⟩;rfl
  ·rintro H cs e F ⟨v,rfl,_,h⟩ u hu
   unfold Ch at hu
   simp only[ze,z2,or_false]at hu
   rcases hu with rfl|rfl|rfl|rfl|rfl
   ·exact⟨rfl,rfl⟩
   ·exact⟨rfl,rfl⟩
   ·exact⟨rfl,rfl⟩
   ·exact⟨rfl,rfl⟩
   ·exact⟨(Ad ih).cells h,(Ad ih).one h⟩
  ·rintro H cs e F ⟨v,rfl,_,h⟩ b hb
   exact (Ad ih).lt h b hb
  ·rintro H H' cs e F ⟨v,rfl,hr,h⟩ hb
   exact⟨v,rfl,hr,(Ad ih).stable h hb⟩
theorem HI (e:TypeId):∀ {d:Nat}{H:Array Obj}{cs:List Value}{x:Ex}{F:List Nat},BR e d H cs x F→DL d H cs x F
 |0,_,_,_,_,h=>h.elim
 |d+1,_,_,_,_,⟨v,h1,h2,h3⟩=>⟨v,h1,h2,(h3.rd (An e d)).imp fun h=>HI e h⟩
def CU (e:TypeId)(d:Nat):B0 Fn:=fun H cs f F=>∃v,cs=Ci f v∧BF f.params∧Be 5 (BR e d) e H v f.outs F
theorem Aj (e:TypeId)(d:Nat):Bj 3 (CU e d):=by
 have ih:=Ad (e:=e)<|An e d
 refine⟨?_,?_,?_,?_⟩
 ·rintro H cs e F ⟨v,rfl,_,_⟩;rfl
 ·rintro H cs e F ⟨v,rfl,_,h⟩ u hu
  unfold Ci at hu
  simp only[ze,z2,or_false]at hu
  rcases hu with rfl|rfl|rfl
  ·exact⟨rfl,rfl⟩
  ·exact⟨rfl,rfl⟩
  ·exact⟨ih.cells h,ih.one h⟩
 ·rintro H cs e F ⟨v,rfl,_,h⟩ b hb
  exact ih.lt h b hb
 ·rintro H H' cs e F ⟨v,rfl,hr,h⟩ hb
  exact⟨v,rfl,hr,ih.stable h hb⟩
theorem HJ (e:TypeId){d:Nat}{H:Array Obj}{cs:List Value}{x:Fn}{F:List Nat}(h:CU e d H cs x F):Jt d H cs x F:=by
 obtain⟨v,h1,h2,h3⟩:=h
 exact⟨v,h1,h2,(h3.rd (An e d)).imp fun h=>HI e h⟩
section el
variable {α:Type} {E:B0 α} {s:Nat} {e:TypeId} {H:Array Obj} {v:Value} {xs:List α} {F:List Nat}
theorem Be.at_ (hE:Bj s E)(d:α){k:Nat}(h:Be s E e H v xs F)(hn:F.Nodup)(hk:k<xs.length) :
  ∃cs G,LD H (AE v k s) cs∧E H cs (xs.getD k d) G∧G.Nodup∧(∀b∈G,b∈F) ∧
   ∀H':Array Obj,(∀b,b∈F→b∉G→H'[b]? = H[b]?)→E H' cs (xs.getD k d) G→Be s E e H' v xs F:=by
 rcases h with⟨rfl,rfl,rfl⟩|⟨css,g,cap,cur,F',h,rfl,hg,r1,r2,r3,r4,rfl⟩
 ·simp at hk
 ·have hn':=List.nodup_cons.1 hn
  obtain⟨cs,G,q1,q2,q3,q4,q5⟩:=h.upd d hk hn'.2
  have hgG:g∉G:=fun hm=>hn'.1 (q4 g hm)
  refine⟨cs,G,⟨g,0+k*s,Dz ..,fun i hi=>?_⟩,q2,q3,fun b hb=>z3 _ (q4 b hb),fun H' hH hy=>.inr ⟨css,g,cap,cur,F',?_,rfl,by rw[hH g (z0 ..) hgG];exact hg,r1,r2,r3,r4,rfl⟩⟩
  ·obtain⟨cs',G',t1,t2,t3⟩:=h.get hE d hk
   have hl:=hE.len q2
   have hcc:cs'=cs:=by
    have hlen:=h.lens hE
    have hkl:k<css.length:=by rw[h.length];exact hk
    have e0:css[k]=cs:=by rw[List.getElem?_eq_getElem hkl]at q1;exact Option.some.inj q1
    have e1:∀i,i<s→css.flatten[k*s+i]? = some (cs.getD i undef):=by
     intro i hi
     have h1:=DM (vs:=cs) hlen hl hkl
     have h2:(css.set k cs)=css:=by rw[← e0];simp
     rw[h2]at h1
     have hfl:=h.flen hE
     have hks:k*s+s≤xs.length*s:=by rw[← Nat.succ_mul];exact Nat.mul_le_mul_right s hk
     rw[← h1,List.append_assoc,List.getElem?_append_right (by rw[List.length_take];omega),List.length_take,List.getElem?_append_left (by omega)]
     rw[show k*s+i-min (k*s) css.flatten.length=i from by omega]
     simp[hl,hi]
    apply List.ext_getElem (by rw[hE.len t1,hl])
    intro i p1 p2
    have h3:=t3 i zO
    rw[e1 i (by omega)]at h3
    have h4:=Option.some.inj h3
    simpa [p1,p2]using h4.symm
   subst hcc
   simp only[Bt,hg]
   have h3:=t3 i zO
   have hks:k*s+s≤xs.length*s:=by rw[← Nat.succ_mul];exact Nat.mul_le_mul_right s hk
   have hl:=hE.len q2
   rw[← r4,List.getElem?_take,if_pos (by omega)]at h3
   rw[Nat.zero_add]
   simpa using h3
  ·have h2:(css.set k cs)=css:=by
    have hkl:k<css.length:=by rw[h.length];exact hk
    have e0:css[k]=cs:=by rw[List.getElem?_eq_getElem hkl]at q1;exact Option.some.inj q1
    rw[← e0];simp
   have h3:=q5 (H':=H') (cs':=cs) (fun {c x C} hc hb=>hE.stable hc fun b hm=>hH b (z3 _ (hb b hm).1) (hb b hm).2) hy
   rwa [h2]at h3
end el
theorem Be.isPtr {α:Type}{E:B0 α}{s k:Nat}{e:TypeId}{H:Array Obj}{v:Value}{xs:List α}{F:List Nat}(h:Be s E e H v xs F)(hk:k<xs.length):∃b o,AE v k s=.pointer (some ⟨b,o,none⟩):=by
 rcases h with⟨rfl,rfl,rfl⟩|⟨css,g,cap,cur,F',h,rfl,hg,r1,r2,r3,r4,rfl⟩
 ·simp at hk
 ·exact⟨_,_,Dz ..⟩
end
def DN (t:Nat)(x:Int):Int:=if ((t:Nat):Int)≤x then x-((t:Nat):Int)else -1
theorem FR (t:Nat){x:Int}(h:0≤x):-1≤DN t x∧DN t x≤x:=by unfold DN;split <;> omega
theorem Es {t:Nat}{x:Int}(h:0≤DN t x):DN t x=x-((t:Nat):Int)∧((t:Nat):Int)≤x:=by
 unfold DN at h ⊢
 split at h
 ·rename_i h1;rw[if_pos h1];exact⟨rfl,h1⟩
 ·omega
theorem DO {t:Nat}{x:Int}(h0:0≤x)(h:DN t x<0):x<((t:Nat):Int):=by
 unfold DN at h
 split at h <;> omega
theorem HK {t:Nat}{x y:Int}(h:((t:Nat):Int)≤x)(hy:y=x-((t:Nat):Int)):y=DN t x:=by unfold DN;rw[if_pos h,hy]
theorem Eg {t:Nat}{x:Int}(h:x<((t:Nat):Int)):-1=DN t x:=by unfold DN;rw[if_neg (by omega)]
theorem BW:∀(l:List Ex)(k:Nat),Ex.sizes (l.take k)+(l.length-k)≤Ex.sizes l
 |[],k=>by simp[Ex.sizes]
 |e::l,0=>by
  have h:=BW l 0
  have:=Bv e
  rw[List.take_zero]at h ⊢
  rw[Ex.sizes]at h ⊢
  rw[z9,Ex.sizes];omega
 |e::l,k+1=>by
  have h:=BW l k
  rw[List.take_succ_cons,Ex.sizes,Ex.sizes,z9];omega
def Fn.sz (f:Fn):Nat:=f.name.size+Ex.sizes f.outs
def Fn.szs:List Fn→Nat
 |[]=>0
 |f::l=>f.sz+Fn.szs l
theorem GU:Fn.szs []=0:=rfl
theorem HL (l:List Fn)(f:Fn):Fn.szs (l++[f])=Fn.szs l+f.sz:=by
 induction l with
 |nil=>simp[Fn.szs]
 |cons g l ih=>rw[List.cons_append,Fn.szs,Fn.szs,ih];omega
theorem Gc {l:List Fn}{k:Nat}(hk:k<l.length):Fn.szs (l.take (k+1))=Fn.szs (l.take k)+(l.getD k Fn.zero).sz:=by
 rw[List.take_succ_eq_append_getElem hk,HL]
 simp[hk]
theorem EK:∀(l:List Fn)(k:Nat),Fn.szs (l.take k)≤Fn.szs l
 |l,0=>by rw[List.take_zero,GU];omega
 |[],k+1=>by simp[Fn.szs]
 |f::l,k+1=>by rw[List.take_succ_cons,Fn.szs,Fn.szs];have:=EK l k;omega
theorem HM {l:List Fn}{k:Nat}(hk:k<l.length):(l.getD k Fn.zero).sz≤Fn.szs l:=by
 have h1:=Gc hk
 have h2:=EK l (k+1)
 omega
def Gm (p:List Fn):Nat:=p.length+Fn.szs p
theorem Jz {p:List Fn}(h:Gm p≤1048576):G0 p:=by
 intro k hk
 have h1:=HM hk
 have h2:(p.getD k Fn.zero).sz=(p.getD k Fn.zero).name.size+Ex.sizes (p.getD k Fn.zero).outs:=rfl
 have h3:Gm p=p.length+Fn.szs p:=rfl
 have h4:=BW (p.getD k Fn.zero).outs 0
 exact⟨zO,zO,zO⟩
section
section res
variable {P:Program} {N:Nat} {ρ:Nat→Value} {w:World} {t:TypeId}
theorem DP {s b o:Nat}(ht:Cb P t s=true){cs:List Value}(h:LD w.heap (.pointer (some ⟨b,o,none⟩)) cs)(hl:cs.length=s):(loadVar t ⟨b,o,none⟩).run P w=.ok (.agg cs.toArray) w:=by
 obtain⟨b',o',he,h⟩:=h
 injection he with he
 injection he with he
 injection he with hb ho _
 subst hb;subst ho
 unfold Cb at ht
 simp only[z7]at ht
 obtain⟨h1,h2⟩:=ht
 split at h1
 ·rename_i fs hfs
  split at h2
  ·rename_i inf hin
   have hs:inf.size=s:=by simpa using h2
   have hag:(isAgg t).run P w=.ok true w:=by
    unfold isAgg
    simp only[Sem.run_bind,run_underlying hfs,Result.andThen_ok]
    rfl
   have hlc:=run_loadCells_list (P:=P) w ⟨b,o,none⟩ cs (fun j v hj=>by
    rw[EF,BN]
    have hjl:j<cs.length:=(List.getElem?_eq_some_iff.1 hj).1
    rw[h j hjl]
    simp[List.getD,hj])
   rw[hl,← hs]at hlc
   simp[loadVar,hag,sizeOf,typeInfo,hin,hlc]
  ·cases h2
 ·cases h1
theorem C4 {fn:Func}{R:Ending→World→Prop}{k s b:Nat}{ty:TypeId}{cs:List Value}(hr:fn.results=#[.cell k ty])(ha:Cb P ty s=true)(hv:Ba N ρ (.tmp k)=.pointer (some ⟨b,0,none⟩))(hb:BX w.heap b cs)(hl:cs.length=s)
  (h:R (.returned (.agg cs.toArray)) w):bodyPost P fn R .ret (mk N ρ) w:=by
 refine⟨rfl,_,?_,h⟩
 have hld:=DP (P:=P) ha (LD.of_box hb) hl
 have hg:(mk N ρ).tmps.getD k undef=.pointer (some ⟨b,0,none⟩):=by rw[Ep,hv]
 have hi:(asAddr (.pointer (some ⟨b,0,none⟩))).run P w=.ok ⟨b,0,none⟩ w:=rfl
 unfold results
 rw[hr]
 have hg':(mk N ρ).tmps[k]?.getD undef=.pointer (some ⟨b,0,none⟩):=by simpa using hg
 simp[Sem.run_bind,hg',hi,hld,Result.andThen]
end res
section fr
variable {α:Type} {E:B0 α} {s:Nat} {e e':TypeId} {B U d:Nat} {H:Array Obj} {v:Value}
theorem Fr.isSlS {xs:List α}(h:Fr (Be s E e) B U H v xs):Go.Proofs.Ytjnbnlniafmblaa.EC v xs.length:=by obtain⟨F,h,_⟩:=h;exact h.isSl
theorem RN.of_frF {S:List Nat}{xs:List Fn}(h:Fr (Be 3 (CU e d) e') B U H v xs)(hS:∀b∈S,b<B):RP S d H v xs:=by
 obtain⟨F,h1,_,h3⟩:=h
 exact⟨F,(h1.rd (Aj e d)).imp fun h=>HJ e h,fun b hb hm=>by have:=h3 b hb;have:=hS b hm;omega⟩
theorem RN.exPos {S:List Nat}{xs:List Ex}(h:RN S (Ct 5 (DL d)) H v xs)(h0:0<xs.length):0<d:=by
 obtain⟨F,h,_⟩:=h
 obtain⟨cs,G,q,_⟩:=Ct.get (AB d) Ex.zero h h0
 cases d with
 |zero=>exact q.elim
 |succ d=>omega
theorem HN (hd:0<d)(H:Array Obj):BR e d H (Ch Ex.zero (.slice none 0 0)) Ex.zero []:=by
 cases d with
 |zero=>omega
 |succ d=>exact⟨_,rfl,by constructor <;> (unfold BF;decide),.inl ⟨rfl,rfl,rfl⟩⟩
theorem HO (H:Array Obj):CU e d H (Ci Fn.zero (.slice none 0 0)) Fn.zero []:=⟨_,rfl,by unfold BF;decide,.inl ⟨rfl,rfl,rfl⟩⟩
theorem JA {d':Nat}{x:Ex}(hd:d=d'+1)(hr:Iu x)(h:Fr (Be 5 (BR e d') e) B U H v x.kids):∃G,BR e d H (Ch x v) x G∧G.Nodup∧∀b∈G,B≤b∧b<U:=by
 subst hd
 obtain⟨G,h1,h2,h3⟩:=h
 exact⟨G,⟨v,rfl,hr,h1⟩,h2,h3⟩
theorem JB {x:Fn}(hr:BF x.params)(h:Fr (Be 5 (BR e d) e) B U H v x.outs):∃G,CU e d H (Ci x v) x G∧G.Nodup∧∀b∈G,B≤b∧b<U:=by
 obtain⟨G,h1,h2,h3⟩:=h
 exact⟨G,⟨v,rfl,hr,h1⟩,h2,h3⟩
theorem Gd {xs:List α}{z:α}{k:Nat}(hk:k<xs.length)(d:α):(xs.take k++List.replicate (xs.length-k) z).set k (xs.getD k d)=xs.take (k+1)++List.replicate (xs.length-(k+1)) z:=by
 have h1:(xs.take k).length=k:=by rw[List.length_take];omega
 rw[List.set_append,if_neg zO,h1,Nat.sub_self,show xs.length-k=(xs.length-(k+1))+1 from by omega,List.replicate_succ,List.set_cons_zero,show xs.take (k+1)=xs.take k++[xs.getD k d]from by rw[List.take_succ_eq_append_getElem hk];simp[hk],List.append_assoc]
 rfl
end fr
section str
variable {P:Program} {ops:Array Oper} {w0:World} {Q:Act→World→Prop} {os:List Oper} {ks:List Nat} {N:Nat} {ρ:Nat→Value} {w:World}
 {d:Nat} {ty:TypeId} {pos:String} {aft:Array Edge} {g:Option (Nat×Bool)} {t e:TypeId}
theorem HP {xt yt:TypeId}{x y:Operand}{a b:ByteArray}(hx:Ba N ρ x=.string a)(hy:Ba N ρ y=.string b)(hl:a.size+b.size≤9223372036854775807)(hu:Up ops N ρ ⟨some d,.binOp .add xt x y yt,ty,pos,aft,g⟩)
  (h:LW P ops w0 Q os ks (mk N (C7 ρ d (.string (a++b)))) w):LW P ops w0 Q (⟨some d,.binOp .add xt x y yt,ty,pos,aft,g⟩::os) (0::ks) (mk N ρ) w :=
 BV (by decide) rfl hu _ (fun w' _=>by
  have he:(eqGuard .add xt x y (.string a) (.string b)).run P w'=.ok () w':=rfl
  have hr:(binOp .add xt (.string a) (.string b)).run P w'=.ok (.string (a++b)) w':=by
   have h2:=run_string_add_sum (P:=P) w' a b hl
   simpa [binOp]using h2
  simp only[execOp,hx,hy,Sem.run_bind,he,Result.andThen_ok,hr,Sem.run_pure]) h
end str
end
section
def Iw:Nat→Int→ByteArray→ByteArray
 |0,_,s=>s
 |n+1,l,s=>if 0<l then Iw n (l / 10) ((⟨#[UInt8.ofNat (IntKind.u8.wrap (((48:Nat):Int)+l.tmod ((10:Nat):Int))).toNat]⟩:ByteArray)++s)else s
theorem FG:∀ {n:Nat}{l:Int}{s:ByteArray},¬0<l→Iw n l s=s
 |0,_,_,_=>rfl
 |n+1,l,s,h=>if_neg h
theorem HQ:∀ {n m:Nat}{l:Int}{s:ByteArray},l.toNat≤n→l.toNat≤m→Iw n l s=Iw m l s
 |0,m,l,s,h1,h2=>by rw[FG zO,FG (by omega)]
 |n+1,0,l,s,h1,h2=>by rw[FG zO,FG (by omega)]
 |n+1,m+1,l,s,h1,h2=>by
  unfold Iw
  by_cases h:0<l
  ·rw[if_pos h,if_pos h];exact HQ zO zO
  ·rw[if_neg h,if_neg h]
theorem JQ {l:Int}{s:ByteArray}(h:0<l):Iw l.toNat l s=Iw (l / 10).toNat (l / 10) ((⟨#[UInt8.ofNat (IntKind.u8.wrap (((48:Nat):Int)+l.tmod ((10:Nat):Int))).toNat]⟩:ByteArray)++s):=by
 obtain⟨n,hn⟩:∃n,l.toNat=n+1:=⟨l.toNat-1,zO⟩
 rw[hn]
 show(if 0<l then _ else _)=_
 rw[if_pos h]
 exact HQ zO<|A7 _
def HR (k:Int):ByteArray:=if k≤0 then⟨#[109,48]⟩else(⟨#[109]⟩:ByteArray)++Iw k.toNat k (⟨#[]⟩:ByteArray)
mutual
def IE (k:Int):Ex→Ex
 |.mk _ _ _ _ l=>.mk k (k+1) (k+2) (k+3) (CJ (k+4) l)
def CJ (k:Int):List Ex→List Ex
 |[]=>[]
 |e::l=>IE k e::CJ (k+4*((e.size:Nat):Int)) l
end
theorem E0 (k:Int)(e:Ex):IE k e=.mk k (k+1) (k+2) (k+3) (CJ (k+4) e.kids):=by cases e;rw[IE];rfl
theorem FS (k:Int):CJ k []=[]:=by rw[CJ]
mutual
theorem Ge (k:Int):∀e:Ex,(IE k e).size=e.size
 |.mk _ _ _ _ l=>by rw[IE,Ex.size,Ex.size,Dl]
theorem Dl (k:Int):∀l:List Ex,Ex.sizes (CJ k l)=Ex.sizes l
 |[]=>by rw[CJ]
 |e::l=>by rw[CJ,Ex.sizes,Ex.sizes,Ge,Dl]
end
theorem FT (k:Int):∀l:List Ex,(CJ k l).length=l.length
 |[]=>by rw[CJ]
 |e::l=>by rw[CJ,z9,z9,FT]
theorem GV (k:Int):∀(l:List Ex)(e:Ex),CJ k (l++[e])=CJ k l++[IE (k+4*((Ex.sizes l:Nat):Int)) e]
 |[],e=>by
  rw[FS,zl,zl,Cc,CJ,FS]
  simp
 |x::l,e=>by
  rw[List.cons_append,CJ,CJ,GV,Ex.sizes,List.cons_append]
  rw[show k+4*((x.size:Nat):Int)+4*((Ex.sizes l:Nat):Int)=k+4*((x.size+Ex.sizes l:Nat):Int)from by omega]
theorem HS (k:Int){l:List Ex}{j:Nat}(hj:j<l.length):CJ k (l.take (j+1))=CJ k (l.take j)++[IE (k+4*((Ex.sizes (l.take j):Nat):Int)) (l.getD j Ex.zero)]:=by
 rw[← GV,List.take_succ_eq_append_getElem hj]
 simp[hj]
theorem GW (k:Int):∀ {l:List Ex}{j:Nat},j<l.length→(CJ k l).getD j Ex.zero=IE (k+4*((Ex.sizes (l.take j):Nat):Int)) (l.getD j Ex.zero)
 |[],_,h=>by simp at h
 |x::l,0,_=>by
  rw[CJ,List.take_zero,Cc]
  simp
 |x::l,j+1,h=>by
  have ih:=GW (k+4*((x.size:Nat):Int)) (l:=l) (j:=j) (by simpa using h)
  rw[CJ,List.take_succ_cons,Ex.sizes]
  rw[show k+4*((x.size+Ex.sizes (l.take j):Nat):Int)=k+4*((x.size:Nat):Int)+4*((Ex.sizes (l.take j):Nat):Int)from by omega]
  simpa using ih
theorem GX (k:Int):∀(l:List Ex)(j:Nat),Ex.sizes ((CJ k l).take j)=Ex.sizes (l.take j)
 |l,0=>by rw[List.take_zero,List.take_zero]
 |[],j+1=>by rw[CJ]
 |e::l,j+1=>by rw[CJ,List.take_succ_cons,List.take_succ_cons,Ex.sizes,Ex.sizes,Ge,GX]
def C8:List Fn→Nat
 |[]=>0
 |f::l=>2+4*Ex.sizes f.outs+C8 l
def JS (k:Int)(f:Fn):Fn:=⟨HR k,k+1,CJ (k+2) f.outs⟩
def Db (k:Int):List Fn→List Fn
 |[]=>[]
 |f::l=>JS k f::Db (k+((2+4*Ex.sizes f.outs:Nat):Int)) l
theorem FU (k:Int):∀l:List Fn,(Db k l).length=l.length
 |[]=>rfl
 |f::l=>by rw[Db,z9,z9,FU]
theorem Gf:∀(l:List Fn)(f:Fn),C8 (l++[f])=C8 l+(2+4*Ex.sizes f.outs)
 |[],f=>by simp[C8]
 |x::l,f=>by rw[List.cons_append,C8,C8,Gf];omega
theorem EL {l:List Fn}{j:Nat}(hj:j<l.length):C8 (l.take (j+1))=C8 (l.take j)+(2+4*Ex.sizes (l.getD j Fn.zero).outs):=by
 rw[← Gf,List.take_succ_eq_append_getElem hj]
 simp[hj]
theorem EM:∀(l:List Fn)(j:Nat),C8 (l.take j)≤C8 l
 |l,0=>by rw[List.take_zero];exact Nat.zero_le _
 |[],j+1=>by simp
 |f::l,j+1=>by rw[List.take_succ_cons,C8,C8];have:=EM l j;omega
theorem GY (k:Int):∀(l:List Fn)(f:Fn),Db k (l++[f])=Db k l++[JS (k+((C8 l:Nat):Int)) f]
 |[],f=>by simp[Db,C8]
 |x::l,f=>by
  rw[List.cons_append,Db,Db,GY,C8,List.cons_append]
  rw[show k+((2+4*Ex.sizes x.outs:Nat):Int)+((C8 l:Nat):Int)=k+((2+4*Ex.sizes x.outs+C8 l:Nat):Int)from by omega]
theorem HT (k:Int){l:List Fn}{j:Nat}(hj:j<l.length):Db k (l.take (j+1))=Db k (l.take j)++[JS (k+((C8 (l.take j):Nat):Int)) (l.getD j Fn.zero)]:=by
 rw[← GY,List.take_succ_eq_append_getElem hj]
 simp[hj]
theorem GZ (k:Int):∀ {l:List Fn}{j:Nat},j<l.length→(Db k l).getD j Fn.zero=JS (k+((C8 (l.take j):Nat):Int)) (l.getD j Fn.zero)
 |[],_,h=>by simp at h
 |x::l,0,_=>by simp[Db,C8]
 |x::l,j+1,h=>by
  have ih:=GZ (k+((2+4*Ex.sizes x.outs:Nat):Int)) (l:=l) (j:=j) (by simpa using h)
  rw[Db,List.take_succ_cons,C8]
  rw[show k+((2+4*Ex.sizes x.outs+C8 (l.take j):Nat):Int)=k+((2+4*Ex.sizes x.outs:Nat):Int)+((C8 (l.take j):Nat):Int)from by omega]
  simpa using ih
theorem Gt (k:Int):∀l:List Fn,C8 (Db k l)=C8 l
 |[]=>rfl
 |f::l=>by
  rw[Db,C8,C8,Gt]
  show 2+4*Ex.sizes (CJ (k+2) f.outs)+_=_
  rw[Dl]
theorem H0 (k:Int):∀(l:List Fn)(j:Nat),C8 ((Db k l).take j)=C8 (l.take j)
 |l,0=>by rw[List.take_zero,List.take_zero]
 |[],j+1=>rfl
 |f::l,j+1=>by
  rw[Db,List.take_succ_cons,List.take_succ_cons,C8,C8,H0]
  show 2+4*Ex.sizes (CJ (k+2) f.outs)+_=_
  rw[Dl]
theorem H1:∀l:List Fn,C8 l≤2*l.length+4*Fn.szs l
 |[]=>by simp[C8]
 |f::l=>by
  have:=H1 l
  have h:f.sz=f.name.size+Ex.sizes f.outs:=rfl
  rw[C8,Fn.szs,z9];omega
theorem IF (l:List Fn):C8 l≤4*Gm l:=by
 have:=H1 l
 have h:Gm l=l.length+Fn.szs l:=rfl
 omega
theorem Gg {α:Type}{l:List α}{j:Nat}(d:α)(hj:j<l.length):l.drop j=l.getD j d::l.drop (j+1):=by
 rw[List.drop_eq_getElem_cons hj]
 simp[List.getD_eq_getElem?_getD,hj]
section el
variable {α:Type} {E:B0 α} {s:Nat} {e:TypeId} {H:Array Obj} {v:Value} {F:List Nat}
theorem Bg.updO:∀ {css:List (List Value)}{L R:List α}{F:List Nat}{y:α},Bg E H css (L++y::R) F→F.Nodup →
  ∃cs G,css[L.length]? = some cs∧E H cs y G∧G.Nodup∧(∀b∈G,b∈F) ∧
   (∀ {H':Array Obj} {cs':List Value} {y':α},(∀ {c x C},E H c x C→(∀b∈C,b∈F∧b∉G)→E H' c x C)→E H' cs' y' G→Bg E H' (css.set L.length cs') (L++y'::R) F)
 |c::css,[],R,_,y,⟨F1,F2,rfl,h1,h2⟩,hn=>by
  have hn':=List.nodup_append.1 hn
  refine⟨c,F1,rfl,h1,hn'.1,fun b hb=>z8 _ hb,fun {H' cs' y'} hE hu=>⟨F1,F2,rfl,hu,?_⟩⟩
  have key:∀ {us:List (List Value)} {xs:List α} {F:List Nat},Bg E H us xs F→(∀b∈F,b∈F2)→Bg E H' us xs F:=by
   intro us
   induction us with
   |nil=>intro xs F h _;cases xs with
    |nil=>exact h
    |cons=>exact h.elim
   |cons u us ih =>
    intro xs F h hs
    cases xs with
    |nil=>exact h.elim
    |cons x xs =>
     obtain⟨A,C,rfl,q1,q2⟩:=h
     exact⟨A,C,rfl,hE q1 fun b hb=>⟨z1 _ (hs b (z8 _ hb)),fun hc=>hn'.2.2 b hc b (hs b (z8 _ hb)) rfl⟩,ih q2 fun b hb=>hs b (z1 _ hb)⟩
  exact key h2 fun b hb=>hb
 |c::css,x::L,R,_,y,⟨F1,F2,rfl,h1,h2⟩,hn=>by
  have hn':=List.nodup_append.1 hn
  obtain⟨cs,G,hu,hx,hg,hb,hc⟩:=Bg.updO (L:=L) (R:=R) (y:=y) h2 hn'.2.1
  refine⟨cs,G,by simpa using hu,hx,hg,fun b hh=>z1 _ (hb b hh),fun hE hy=>⟨F1,F2,rfl,hE h1 fun b hb'=>⟨z8 _ hb',fun hc'=>hn'.2.2 b hb' b (hb b hc') rfl⟩,?_⟩⟩
  exact hc (fun q hs=>hE q fun b hb'=>⟨z1 _ (hs b hb').1,(hs b hb').2⟩) hy
 |[],[],_,_,_,h,_=>h.elim
 |[],_::_,_,_,_,h,_=>h.elim
theorem Be.len_eq {xs ys:List α}{F:List Nat}(h:Be s E e H v xs F)(hl:ys.length=xs.length)(hx:xs≠[]):∃css g cap cur F',Bg E H css xs F'∧v=.slice (some ⟨g,0,none⟩) ys.length cap∧H[g]? = some (.cells cur e (0,0))∧ys.length≤cap∧cap≤maxLen∧cur.size=cap*s∧cur.toList.take (ys.length*s)=css.flatten∧F=g::F':=by
 rcases h with⟨_,rfl,_⟩|⟨css,g,cap,cur,F',h1,h2⟩
 ·exact absurd rfl hx
 ·rw[hl];exact⟨css,g,cap,cur,F',h1,h2⟩
theorem Be.updO (hE:Bj s E){L R:List α}{y:α}(h:Be s E e H v (L++y::R) F)(hn:F.Nodup) :
  ∃cs G,LD H (AE v L.length s) cs∧E H cs y G∧G.Nodup∧(∀b∈G,b∈F) ∧
   ∀(H':Array Obj) (y':α),(∀b,b∈F→b∉G→H'[b]? = H[b]?)→E H' cs y' G→Be s E e H' v (L++y'::R) F:=by
 have hk:L.length<(L++y::R).length:=by simp
 have hgd:(L++y::R).getD L.length y=y:=by simp[List.getD_eq_getElem?_getD]
 obtain⟨cs,G,p1,p2,p3,p4,_⟩:=h.at_ hE y hn hk
 rw[hgd]at p2
 have hlen:∀y':α,(L++y'::R).length=(L++y::R).length:=fun y'=>by simp
 obtain⟨css,g,cap,cur,F',h1,rfl,hg,r1,r2,r3,r4,rfl⟩:=h.len_eq (ys:=L++y::R) rfl (by simp)
 have hn':=List.nodup_cons.1 hn
 obtain⟨cs2,G2,q1,q2,q3,q4,q5⟩:=h1.updO hn'.2
 have hgG:g∉G2:=fun hm=>hn'.1 (q4 g hm)
 refine⟨cs2,G2,⟨g,0+L.length*s,Dz ..,fun i hi=>?_⟩,q2,q3,fun b hb=>z3 _ (q4 b hb),fun H' y' hH hy=>.inr ⟨css,g,cap,cur,F',?_,by rw[hlen y'],by rw[hH g (z0 ..) hgG];exact hg,by rw[hlen y'];exact r1,r2,r3,by rw[hlen y'];exact r4,rfl⟩⟩
 ·have hl:=hE.len q2
  have hlens:=h1.lens hE
  have hkl:L.length<css.length:=by rw[h1.length];exact hk
  have e0:css[L.length]=cs2:=by rw[List.getElem?_eq_getElem hkl]at q1;exact Option.some.inj q1
  have e1:∀i,i<s→css.flatten[L.length*s+i]? = some (cs2.getD i undef):=by
   intro i hi
   have h1':=DM (vs:=cs2) hlens hl hkl
   have h2':(css.set L.length cs2)=css:=by rw[← e0];simp
   rw[h2']at h1'
   have hfl:=h1.flen hE
   have hks:L.length*s+s≤(L++y::R).length*s:=by rw[← Nat.succ_mul];exact Nat.mul_le_mul_right s hk
   rw[← h1',List.append_assoc,List.getElem?_append_right (by rw[List.length_take];omega),List.length_take,List.getElem?_append_left (by omega)]
   rw[show L.length*s+i-min (L.length*s) css.flatten.length=i from by omega]
   simp[hl,hi]
  simp only[Bt,hg]
  have h3:=e1 i zO
  have hks:L.length*s+s≤(L++y::R).length*s:=by rw[← Nat.succ_mul];exact Nat.mul_le_mul_right s hk
  rw[← r4,List.getElem?_take,if_pos (by omega)]at h3
  rw[Nat.zero_add]
  simpa using h3
 ·have h2:(css.set L.length cs2)=css:=by
   have hkl:L.length<css.length:=by rw[h1.length];exact hk
   have e0:css[L.length]=cs2:=by rw[List.getElem?_eq_getElem hkl]at q1;exact Option.some.inj q1
   rw[← e0];simp
  have h3:=q5 (H':=H') (cs':=cs2) (y':=y') (fun {c x C} hc hb=>hE.stable hc fun b hm=>hH b (z3 _ (hb b hm).1) (hb b hm).2) hy
  rwa [h2]at h3
end el
section ops
variable {P:Program} {ops:Array Oper} {w0:World} {Q:Act→World→Prop} {os:List Oper} {ks:List Nat} {N:Nat} {ρ:Nat→Value} {w:World}
 {d:Nat} {ty:TypeId} {pos:String} {aft:Array Edge} {g:Option (Nat×Bool)} {t e:TypeId} {α:Type} {E:B0 α} {s:Nat}
theorem Dm {st:TypeId}{x y:Operand}{v u:Value}{L R:List α}{z z':α}{F:List Nat}{k c:Nat}(hE:Bj s E)(hst:(P.info? st).map (·.size)=some 1)(hx:Ba N ρ x=Ar (AE v k s) c)(hy:Ba N ρ y=u)(hu1:u.cells=#[u]∧u.oneCell'=true)
  (hv:Be s E e w.heap v (L++z::R) F) (hn:F.Nodup) (hk:k=L.length) (hc:c<s) (hEc:∀ {H cs G},E H cs z G→E H (cs.set c u) z' G) (hu:Up ops N ρ ⟨none,.store st x y,ty,pos,aft,g⟩)
  (h:∀w1,AG F w w1→w1.heap.size=w.heap.size→Be s E e w1.heap v (L++z'::R) F→LW P ops w0 Q os ks (mk N ρ) w1) :
  LW P ops w0 Q (⟨none,.store st x y,ty,pos,aft,g⟩::os) (4::ks) (mk N ρ) w:=by
 subst hk
 obtain⟨css,b,cap,cur,F',hels,rfl,hg,r1,r2,r3,r4,rfl⟩:=hv.len_eq (ys:=L++z'::R) (by simp) (by simp)
 have hn':=List.nodup_cons.1 hn
 have hfl:=hels.flen hE
 have hlen:=hels.lens hE
 have hkl:L.length<css.length:=by rw[hels.length];simp
 have hll:(L++z::R).length=(L++z'::R).length:=by simp
 have hcs:(L++z'::R).length*s≤cur.size:=by rw[r3];exact Nat.mul_le_mul_right s r1
 have hjs:L.length*s+s≤(L++z'::R).length*s:=by rw[← Nat.succ_mul];exact Nat.mul_le_mul_right s (by simp)
 have hel:∀ {css:List (List Value)} {L:List α} {F:List Nat},Bg E w.heap css (L++z::R) F→∀cs,css[L.length]? = some cs→Bg E w.heap (css.set L.length (cs.set c u)) (L++z'::R) F:=by
  intro css
  induction css with
  |nil=>intro L F h cs hk;simp at hk
  |cons a css ih =>
   intro L F h cs hk
   cases L with
   |nil =>
    obtain⟨A,C,rfl,q1,q2⟩:=h
    have:a=cs:=by simpa using hk
    subst this
    exact⟨A,C,rfl,hEc q1,q2⟩
   |cons x L =>
    obtain⟨A,C,rfl,q1,q2⟩:=h
    exact⟨A,C,rfl,q1,ih q2 cs (by simpa using hk)⟩
 have hq:=List.getElem?_eq_getElem hkl
 have h2:=hel hels _ hq
 refine Iy rfl hu _ (CQ (p:=.pointer<|some ⟨b,L.length*s+c,none⟩) (by rw[hx,Dz,Nat.zero_add];rfl) hy<|EE hst hg zO hu1.1 hu1.2)<|h _ ((GK w b (L.length*s+c) u).sub fun x hx=>by rw[A9 hx];exact z0 ..) (by simp[World.setCell])<|.inr ⟨css.set L.length<|css[L.length].set c u,b,cap,_,F',?_,rfl,G8 hg,r1,r2,by simpa using r3,?_,rfl⟩
 ·exact h2.stable hE fun z hz=>Below.heap_setCell _ _ _ _ fun he=>by
   simp only at he
   subst he
   exact hn'.1 hz
 ·rw[Array.toList_setIfInBounds,List.take_set,r4];exact FE hlen hq hc
end ops
theorem Be.kidEO {e:TypeId}{d k:Nat}{w:World}{v:Value}{L R:List Ex}{y:Ex}{F:List Nat}(h:Be 5 (BR e d) e w.heap v (L++y::R) F)(hn:F.Nodup)(hk:k=L.length) :
  ∃d' u G,d=d'+1∧FY w.heap (Ar (AE v k 5) 4)=some u∧Be 5 (BR e d') e w.heap u y.kids G∧G.Nodup∧(∀b∈G,b∈F) ∧
   ∀w' ys,AG G w w'→Be 5 (BR e d') e w'.heap u ys G→Be 5 (BR e d) e w'.heap v (L++(.mk y.kind y.num y.pick y.count ys)::R) F:=by
 subst hk
 have hlt:=(Ad<|An e d).lt h
 obtain⟨cs,G,h1,h2,h3,h4,h5⟩:=h.updO (An e d) hn
 cases d with
 |zero=>exact h2.elim
 |succ d =>
  obtain⟨u,rfl,hr,h2⟩:=h2
  exact⟨d,u,G,rfl,h1.ld (i:=4) (by simp[Ch]),h2,h3,h4,fun w' ys hc hu=>h5 _ (.mk y.kind y.num y.pick y.count ys) (fun b hb hg=>hc.block b (hlt b hb) hg) ⟨u,rfl,⟨hr.1,hr.2,hr.3,hr.4⟩,hu⟩⟩
theorem Be.kidFO {e e':TypeId}{d k:Nat}{w:World}{v:Value}{L R:List Fn}{y:Fn}{F:List Nat}(h:Be 3 (CU e d) e' w.heap v (L++y::R) F)(hn:F.Nodup)(hk:k=L.length) :
  ∃u G,FY w.heap (Ar (AE v k 3) 2)=some u∧Be 5 (BR e d) e w.heap u y.outs G∧G.Nodup∧(∀b∈G,b∈F) ∧
   ∀w' ys,AG G w w'→Be 5 (BR e d) e w'.heap u ys G→Be 3 (CU e d) e' w'.heap v (L++⟨y.name,y.params,ys⟩::R) F:=by
 subst hk
 have hlt:=(Ad<|Aj e d).lt h
 obtain⟨cs,G,h1,h2,h3,h4,h5⟩:=h.updO (Aj e d) hn
 obtain⟨u,rfl,hr,h2⟩:=h2
 exact⟨u,G,h1.ld (i:=2) (by simp[Ci]),h2,h3,h4,fun w' ys hc hu=>h5 _ ⟨y.name,y.params,ys⟩ (fun b hb hg=>hc.block b (hlt b hb) hg) ⟨u,rfl,hr,hu⟩⟩
section set
variable {e:TypeId} {d:Nat} {H:Array Obj} {cs:List Value} {a b c q n:Int} {ks:List Ex} {G:List Nat}
theorem HU (hn:BF n)(h:BR e d H cs (.mk a b c q ks) G):BR e d H (cs.set 0 (.int .i64 n)) (.mk n b c q ks) G:=by
 cases d with
 |zero=>exact h.elim
 |succ d=>obtain⟨u,rfl,hr,h2⟩:=h;exact⟨u,rfl,⟨hn,hr.2,hr.3,hr.4⟩,h2⟩
theorem HV (hn:BF n)(h:BR e d H cs (.mk a b c q ks) G):BR e d H (cs.set 1 (.int .i64 n)) (.mk a n c q ks) G:=by
 cases d with
 |zero=>exact h.elim
 |succ d=>obtain⟨u,rfl,hr,h2⟩:=h;exact⟨u,rfl,⟨hr.1,hn,hr.3,hr.4⟩,h2⟩
theorem HW (hn:BF n)(h:BR e d H cs (.mk a b c q ks) G):BR e d H (cs.set 2 (.int .i64 n)) (.mk a b n q ks) G:=by
 cases d with
 |zero=>exact h.elim
 |succ d=>obtain⟨u,rfl,hr,h2⟩:=h;exact⟨u,rfl,⟨hr.1,hr.2,hn,hr.4⟩,h2⟩
theorem HX (hn:BF n)(h:BR e d H cs (.mk a b c q ks) G):BR e d H (cs.set 3 (.int .i64 n)) (.mk a b c n ks) G:=by
 cases d with
 |zero=>exact h.elim
 |succ d=>obtain⟨u,rfl,hr,h2⟩:=h;exact⟨u,rfl,⟨hr.1,hr.2,hr.3,hn⟩,h2⟩
theorem HY {f:Fn}{s:ByteArray}(h:CU e d H cs f G):CU e d H (cs.set 0 (.string s)) ⟨s,f.params,f.outs⟩ G:=by
 obtain⟨u,rfl,hr,h2⟩:=h;exact⟨u,rfl,hr,h2⟩
theorem HZ {f:Fn}(hn:BF n)(h:CU e d H cs f G):CU e d H (cs.set 1 (.int .i64 n)) ⟨f.name,n,f.outs⟩ G:=by
 obtain⟨u,rfl,hr,h2⟩:=h;exact⟨u,rfl,hn,h2⟩
end set
theorem JC (x:Ex):x=.mk x.kind x.num x.pick x.count x.kids:=by cases x;rfl
end
section
open Go Go.RowKit Go.ChangeShapes Go.WideShapes Go.Deep
theorem Gh {s:Nat}:∀ {css:List (List Value)}(k:Nat){j:Nat},(∀c∈css,c.length=s)→j<s→css.flatten[k*s+j]? = (css[k]?).bind fun c=>c[j]?
 |[],k,j,_,_=>by simp
 |c::css,0,j,h,hj=>by
  have hc:=h c (z0 ..)
  rw[Nat.zero_mul,Nat.zero_add,List.flatten_cons,List.getElem?_append_left (by omega)]
  simp
 |c::css,k+1,j,h,hj=>by
  have hc:=h c (z0 ..)
  rw[List.flatten_cons,List.getElem?_append_right (by rw[Nat.succ_mul];omega),show(k+1)*s+j-c.length=k*s+j from by rw[Nat.succ_mul];omega,
   Gh k (fun c hc=>h c (z3 _ hc)) hj]
  simp
theorem H2 {α:Type}{E:B0 α}{H:Array Obj}(U:Nat→List Value)(X:Nat→α):∀(n:Nat),(∀i,i<n→∃F,E H (U i) (X i) F)→∃F,Bg E H ((List.range n).map U) ((List.range n).map X) F
 |0,_=>⟨[],rfl⟩
 |n+1,h=>by
  obtain⟨F,hF⟩:=H2 U X n fun i hi=>h i zO
  obtain⟨G,hG⟩:=h n zO
  rw[List.range_succ,List.map_append,List.map_append]
  exact⟨F++(G++[]),hF.append ⟨G,[],rfl,hG,rfl⟩⟩
theorem IG {α:Type}{E:B0 α}{s:Nat}(hE:Bj s E)(hs:0<s){W:World}{a:Addr}{n cap:Nat}(hn:n≤maxLen)(hnc:n≤cap)(U:Nat→List Value)(X:Nat→α)
  (hc:∀i,i<n→∀j,j<s→W.cell? (a.add (i*s+j))=(U i)[j]?) (hX:∀i,i<n→∃F,E W.heap (U i) (X i) F):∃F,Ct s E W.heap (.slice (some a) n cap) ((List.range n).map X) F:=by
 by_cases h0:n=0
 ·subst h0
  exact⟨[],.inl ⟨some a,cap,rfl,rfl,rfl⟩⟩
 ·obtain⟨F,hF⟩:=H2 U X n hX
  have hlU:∀i,i<n→(U i).length=s:=fun i hi=>by obtain⟨G,hG⟩:=hX i hi;exact hE.len hG
  obtain⟨g,off,spot⟩:=a
  have h1:=hc 0 zO 0 hs
  rw[List.getElem?_eq_getElem (by rw[hlU 0 (by omega)];exact hs)]at h1
  have hsp:spot=none:=by simpa [Addr.add]using World.cell?_spot h1
  subst hsp
  have hcell:∀i,i<n→∀j,j<s→Bt W.heap g (off+(i*s+j))=(U i)[j]?:=fun i hi j hj=>by
   have:=hc i hi j hj
   rw[add_plain,BN]at this
   exact this
  have h2:=hcell 0 zO 0 hs
  rw[List.getElem?_eq_getElem (by rw[hlU 0 (by omega)];exact hs)]at h2
  unfold Bt at h2
  cases hg:W.heap[g]? with
  |none=>rw[hg]at h2;cases h2
  |some o =>
   cases o with
   |cells cur e fr =>
    refine⟨g::F,.inr ⟨(List.range n).map U,g,off,cap,cur,e,fr,F,hF,by simp,hg,?_,⟨by simpa using hn,by simpa using hnc⟩,rfl⟩⟩
    have hlen:∀c∈(List.range n).map U,c.length=s:=fun c hc=>by
     obtain⟨i,hi,rfl⟩:=List.mem_map.1 hc
     exact hlU i<|List.mem_range.1 hi
    have hfl:=hF.flen hE
    apply List.ext_getElem?
    intro q
    rw[List.getElem?_take,List.getElem?_drop]
    simp only[zg,List.length_range]at hfl ⊢
    by_cases hq:q<n*s
    ·have e1:q=q / s*s+q % s:=by rw[Nat.mul_comm,Nat.div_add_mod]
     have hj:q % s<s:=Nat.mod_lt _ hs
     have hi:q / s<n:=(Nat.div_lt_iff_lt_mul hs).2 hq
     have h3:=hcell (q / s) hi (q % s) hj
     unfold Bt at h3
     rw[hg,← e1]at h3
     have h4:=Gh (css:=(List.range n).map U) (q / s) hlen hj
     rw[← e1]at h4
     rw[if_pos hq,h4]
     simp only[Array.getElem?_toList]at *
     rw[h3]
     simp[hi]
    ·rw[if_neg hq,List.getElem?_eq_none (by omega)]
   |_=>rw[hg]at h2;cases h2
def Gu (P:Program)(t:TypeId)(l:List (Nat×TypeId)):Bool :=
 match P.underlying t with
 |some (.struct fs)=>decide (fs.toList.map (fun f=>(f.offset,f.type))=l)
 |_=>false
section
variable {H:Type} {enc:TypeId × Value→H} {P:Program} {W:World} {base:Nat} {held:Bool} {sp:Nat→Bool}
theorem EN {t:TypeId}{l:List (Nat×TypeId)}{fuel:Nat}{cs:List Value}{x:DataW H×List MemPlace}(ht:Gu P t l=true)(h:DataW.trod enc P W base sp held fuel t cs=some x) :
  ∃n,fuel=n+1∧cs.length=P.cellsOf t∧∀(i o:Nat) (ty:TypeId),l[i]? = some (o,ty)→∃y,DataW.trod enc P W base sp held n ty ((cs.drop o).take (P.cellsOf ty))=some y:=by
 unfold Gu at ht
 split at ht
 ·rename_i fs hfs
  have hl:=of_decide_eq_true ht
  obtain⟨xs,n,hfu,_,hlen,hxl,hf⟩:=DataW.trod_struct hfs h
  refine⟨n,hfu,hlen,fun i o ty hi=>?_⟩
  rw[← hl,List.getElem?_map]at hi
  obtain⟨f,hf1,hf2⟩:=Option.map_eq_some_iff.1 hi
  have hf3:fs[i]? = some f:=by simpa using hf1
  have hil:i<xs.length:=by
   rw[hxl]
   exact (Array.getElem?_eq_some_iff.1 hf3).1
  have h2:=hf i f hf3
  injection hf2 with e1 e2
  rw[← e1,← e2,h2]
  exact⟨xs[i],List.getElem?_eq_getElem hil⟩
 ·cases ht
theorem EO:∀ {d:Nat}{H:Array Obj}{cs:List Value}{x:Ex}{F:List Nat},DL d H cs x F→DL (d+1) H cs x F
 |0,_,_,_,_,h=>h.elim
 |d+1,_,_,_,_,⟨v,h1,h2,h3⟩=>⟨v,h1,h2,h3.imp fun h=>EO h⟩
theorem Gi {α:Type} [Inhabited α] {E:B0 α}{t e:TypeId}{s fuel:Nat}{u:Value}{x:DataW H×List MemPlace}(hE:Bj s E)(hs:0<s)(ht:P.underlying t=some (.slice e))(ce:P.cellsOf e=s)
  (hel:∀ {n:Nat} {cs:List Value} {x:DataW H×List MemPlace},fuel=n+1→DataW.trod enc P W base (fun _=>true) held n e cs=some x→∃(y:α) (F:List Nat),E W.heap cs y F)
  (hf:DataW.trod enc P W base (fun _=>true) held fuel t [u]=some x):∃(zs:List α) (F:List Nat),Ct s E W.heap u zs F:=by
 rcases DataW.trod_slice ht hf with⟨hcs,_⟩|⟨a,len,cap,elems,rest,n,hfu,hcs,_,_,hl,hm,hlen,helm,_,_⟩
 ·simp only[List.cons.injEq,and_true]at hcs
  subst hcs
  exact⟨[],[],.inl ⟨none,0,rfl,rfl,rfl⟩⟩
 ·simp only[List.cons.injEq,and_true]at hcs
  subst hcs
  have h1:∀i,i<len→∃c:List Value×α,(∀j,j<s→W.cell? (a.add (i*s+j))=c.1[j]?)∧∃F,E W.heap c.1 c.2 F:=by
   intro i hi
   have h2:=helm i hi
   rw[List.getElem?_eq_getElem (by omega)]at h2
   obtain⟨cs',q1,q2⟩:=Option.bind_eq_some_iff.1 h2
   obtain⟨_,ql,qc⟩:=World.cells?_some q1
   obtain⟨y,F,hy⟩:=hel hfu q2
   refine⟨(cs',y),fun j hj=>?_,F,hy⟩
   have:=qc j (by rw[ce];exact hj)
   rwa [add_add,ce]at this
  obtain⟨C,hC⟩:=choose_lt (α:=List Value×α) (n:=len) h1
  obtain⟨F,hF⟩:=IG hE hs (W:=W) (a:=a) (n:=len) (cap:=cap) zO hl (fun i=>(C i).1) (fun i=>(C i).2) (fun i hi=>(hC i hi).1) (fun i hi=>(hC i hi).2)
  exact⟨_,F,hF⟩
instance:Inhabited Ex:=⟨Ex.zero⟩
instance:Inhabited Fn:=⟨Fn.zero⟩
theorem I0 {tS tE ti:TypeId}(hS:P.underlying tS=some (.slice tE))(hE:Gu P tE [(0,ti),(1,ti),(2,ti),(3,ti),(4,tS)]=true)(hi:P.underlying ti=some (.int .i64))(cE:P.cellsOf tE=5)(ci:P.cellsOf ti=1)(cS:P.cellsOf tS=1) :
  ∀(fuel:Nat) (u:Value) (x:DataW H×List MemPlace),DataW.trod enc P W base (fun _=>true) held fuel tS [u]=some x→∃(zs:List Ex) (F:List Nat),Ct 5 (DL fuel) W.heap u zs F:=by
 intro fuel
 induction fuel using Nat.strongRecOn with
 |_ fuel ih =>
  intro u x hf
  refine Gi (AB fuel) (by decide) hS cE ?_ hf
  intro n cs y hfu hy
  obtain⟨m,hm,hlen,hfd⟩:=EN hE hy
  have num:∀o,o<4→∃z:Int,(cs.drop o).take 1=[.int .i64 z]∧BF z:=by
   intro o ho
   obtain⟨y',hy'⟩:=hfd o o ti (by match o,ho with|0,_=>rfl|1,_=>rfl|2,_=>rfl|3,_=>rfl)
   rw[ci]at hy'
   obtain⟨z,hz,_,hw⟩:=DataW.trod_int hi hy'
   exact⟨z,hz,FL hw⟩
  obtain⟨y4,hy4⟩:=hfd 4 4 tS rfl
  rw[cS]at hy4
  rw[cE]at hlen
  match cs,hlen with
  |[c0,c1,c2,c3,c4],_ =>
   obtain⟨z0,e0,r0⟩:=num 0 (by decide)
   obtain⟨z1,e1,r1⟩:=num 1 (by decide)
   obtain⟨z2,e2,r2⟩:=num 2 (by decide)
   obtain⟨z3,e3,r3⟩:=num 3 (by decide)
   have q0:c0=.int .i64 z0:=by simpa using e0
   have q1:c1=.int .i64 z1:=by simpa using e1
   have q2:c2=.int .i64 z2:=by simpa using e2
   have q3:c3=.int .i64 z3:=by simpa using e3
   subst q0;subst q1;subst q2;subst q3
   obtain⟨zs,F,hz⟩:=ih m zO c4 y4 hy4
   subst hm
   subst hfu
   exact⟨.mk z0 z1 z2 z3 zs,F,EO (d:=m+1) ⟨c4,rfl,⟨r0,r1,r2,r3⟩,hz⟩⟩
theorem Hr {t tF tN tS tE ti tz:TypeId}{d:DataW H}{ps:List MemPlace}{v:Value}{b0:Nat}{r:Reach}(hP:Gu P t [(0,tF)]=true)(hF:P.underlying tF=some (.slice tN))(hN:Gu P tN [(0,tz),(1,ti),(2,tS)]=true)
  (hS:P.underlying tS=some (.slice tE)) (hE:Gu P tE [(0,ti),(1,ti),(2,ti),(3,ti),(4,tS)]=true) (hi:P.underlying ti=some (.int .i64)) (hz:P.underlying tz=some .string)
  (cP:P.cellsOf t=1) (cF:P.cellsOf tF=1) (cN:P.cellsOf tN=3) (cE:P.cellsOf tE=5) (ci:P.cellsOf ti=1) (cS:P.cellsOf tS=1) (cz:P.cellsOf tz=1)
  (hval:Value.okWide P W r b0 t v) (hd:DataW.Trod enc P W base (fun _=>true) held t v d ps) :
  ∃(u:Value) (dp:Nat) (p:List Fn),v=.agg #[u]∧RP [] dp W.heap u p∧∀k,k<p.length→(p.getD k Fn.zero).name.size≤9223372036854775807:=by
 have hstr:∃fs,P.underlying t=some (.struct fs):=by
  unfold Gu at hP
  split at hP
  ·rename_i fs hfs;exact⟨fs,hfs⟩
  ·cases hP
 obtain⟨fs,hfs⟩:=hstr
 obtain⟨cs,rfl,hcs⟩:=okWide_struct hfs hval
 obtain⟨fuel,hf⟩:=hd
 obtain⟨n,hfu,hlen,hfd⟩:=EN hP hf
 obtain⟨y,hy⟩:=hfd 0 0 tF rfl
 rw[cF]at hy
 rw[cP]at hlen
 have hlen':cs.toList.length=1:=hlen
 match hcl:cs.toList,hlen' with
 |[u],_ =>
  have hcu:cs=#[u]:=by apply Array.ext';simpa using hcl
  subst hcu
  have hy':DataW.trod enc P W base (fun _=>true) held n tF [u]=some y:=hy
  obtain⟨zs,F,hzs⟩:=Gi (E:=fun H cs f F=>Jt n H cs f F∧f.name.size≤9223372036854775807) (s:=3)
   ⟨fun h=>(Aq n).len h.1,fun h=>(Aq n).one h.1,fun h=>(Aq n).lt h.1,fun h hb=>⟨(Aq n).stable h.1 hb,h.2⟩⟩ (by decide) hF cN (by
    intro m cs y hm hy
    obtain⟨q,hq,hlen,hfd⟩:=EN hN hy
    rw[cN]at hlen
    obtain⟨y0,h0⟩:=hfd 0 0 tz rfl
    obtain⟨y1,h1⟩:=hfd 1 1 ti rfl
    obtain⟨y2,h2⟩:=hfd 2 2 tS rfl
    rw[cz]at h0
    rw[ci]at h1
    rw[cS]at h2
    match cs,hlen with
    |[c0,c1,c2],_ =>
     obtain⟨s,e0,_,hs⟩:=DataW.trod_string hz h0
     obtain⟨z,e1,_,hw⟩:=DataW.trod_int hi h1
     have q0:c0=.string s:=by simpa using e0
     have q1:c1=.int .i64 z:=by simpa using e1
     subst q0;subst q1
     obtain⟨es,F,hes⟩:=I0 (enc:=enc) (W:=W) (base:=base) (held:=held) hS hE hi cE ci cS q c2 y2 h2
     have hup:∀k,Ct 5 (DL (q+k)) W.heap c2 es F:=by
      intro k
      induction k with
      |zero=>exact hes
      |succ k ih=>exact ih.imp fun h=>EO h
     have hn:Ct 5 (DL n) W.heap c2 es F:=by
      have:=hup (n-q)
      rwa [show q+(n-q)=n from by omega]at this
     exact⟨⟨s,z,es⟩,F,⟨c2,rfl,FL hw,hn⟩,by unfold maxLen at hs;exact hs⟩) hy'
  refine⟨u,n,zs,rfl,⟨F,hzs.imp fun h=>h.1,fun b hb hm=>by cases hm⟩,fun k hk=>?_⟩
  obtain⟨cs,G,hg,_⟩:=Ct.get (E:=fun H cs f F=>Jt n H cs f F∧f.name.size≤9223372036854775807) (s:=3) ⟨fun h=>(Aq n).len h.1,fun h=>(Aq n).one h.1,fun h=>(Aq n).lt h.1,fun h hb=>⟨(Aq n).stable h.1 hb,h.2⟩⟩ Fn.zero hzs hk
  exact hg.2
end
end
theorem mixed:Try.prog.follows .mixedOrders=true:=by kernel_rfl
abbrev BZ (k:Nat):Prop:=((Try.prog.funcs[k]?).map fun fn=>(fn.name != "runtime.NumGoroutine") && fn.body.isSome) = some true
theorem C0 {k:Nat} (h:((Try.prog.funcs[k]?).map fun fn=>(fn.name != "runtime.NumGoroutine") && fn.body.isSome) = some true):BZ k:=h
theorem KN:BZ 30:=C0 (by kernel_rfl)
theorem KO:BZ 31:=C0 (by kernel_rfl)
theorem II:BZ 32:=C0 (by kernel_rfl)
theorem JT:BZ 33:=C0 (by kernel_rfl)
theorem IJ:BZ 34:=C0 (by kernel_rfl)
theorem JU:BZ 35:=C0 (by kernel_rfl)
theorem JV:BZ 36:=C0 (by kernel_rfl)
theorem KP:BZ 65:=C0 (by kernel_rfl)
theorem KQ:BZ 76:=C0 (by kernel_rfl)
theorem JW:BZ 77:=C0 (by kernel_rfl)
theorem KR:BZ 78:=C0 (by kernel_rfl)
theorem DB:BZ 79:=C0 (by kernel_rfl)
theorem KS:BZ 80:=C0 (by kernel_rfl)
theorem KT:BZ 81:=C0 (by kernel_rfl)
theorem KU:BZ 82:=C0 (by kernel_rfl)
theorem Ek:BZ 83:=C0 (by kernel_rfl)
theorem JD:BZ 84:=C0 (by kernel_rfl)
theorem JX:BZ 85:=C0 (by kernel_rfl)
theorem JY:BZ 86:=C0 (by kernel_rfl)
theorem JZ:BZ 87:=C0 (by kernel_rfl)
theorem IK:BZ 88:=C0 (by kernel_rfl)
theorem KV:BZ 89:=C0 (by kernel_rfl)
theorem KW:BZ 90:=C0 (by kernel_rfl)
theorem KX:BZ 91:=C0 (by kernel_rfl)
theorem K0:BZ 104:=C0 (by kernel_rfl)
theorem K1:BZ 111:=C0 (by kernel_rfl)
theorem J3:BZ 112:=C0 (by kernel_rfl)
theorem K2:BZ 117:=C0 (by kernel_rfl)
theorem K3:BZ 118:=C0 (by kernel_rfl)
theorem J4:BZ 119:=C0 (by kernel_rfl)
theorem K4:BZ 120:=C0 (by kernel_rfl)
theorem K5:BZ 121:=C0 (by kernel_rfl)
theorem K6:BZ 122:=C0 (by kernel_rfl)
theorem J5:BZ 123:=C0 (by kernel_rfl)
theorem K7:BZ 124:=C0 (by kernel_rfl)
theorem K8:BZ 125:=C0 (by kernel_rfl)
theorem K9:BZ 126:=C0 (by kernel_rfl)
theorem I1:BZ 127:=C0 (by kernel_rfl)
theorem Ka:BZ 128:=C0 (by kernel_rfl)
theorem J6:BZ 129:=C0 (by kernel_rfl)
theorem J7:BZ 130:=C0 (by kernel_rfl)
theorem J8:BZ 131:=C0 (by kernel_rfl)
theorem Kb:BZ 133:=C0 (by kernel_rfl)
theorem J9:BZ 140:=C0 (by kernel_rfl)
theorem Kc:BZ 141:=C0 (by kernel_rfl)
theorem I2:BZ 142:=C0 (by kernel_rfl)
theorem Kd:BZ 143:=C0 (by kernel_rfl)
theorem Ja:BZ 144:=C0 (by kernel_rfl)
theorem Ke:BZ 145:=C0 (by kernel_rfl)
theorem Kf:BZ 146:=C0 (by kernel_rfl)
theorem Jb:BZ 147:=C0 (by kernel_rfl)
theorem H3:BZ 148:=C0 (by kernel_rfl)
theorem Jc:BZ 149:=C0 (by kernel_rfl)
theorem Kg:BZ 151:=C0 (by kernel_rfl)
theorem Kh:BZ 152:=C0 (by kernel_rfl)
theorem Jd:BZ 153:=C0 (by kernel_rfl)
theorem H4:BZ 154:=C0 (by kernel_rfl)
theorem Ki:BZ 155:=C0 (by kernel_rfl)
theorem Kj:BZ 156:=C0 (by kernel_rfl)
theorem Kk:BZ 158:=C0 (by kernel_rfl)
theorem Kl:BZ 159:=C0 (by kernel_rfl)
theorem Km:BZ 167:=C0 (by kernel_rfl)
theorem Kn:BZ 168:=C0 (by kernel_rfl)
theorem AT:Co Try.prog 2:=by unfold Co;kernel_rfl
theorem Dq:Co Try.prog 9:=by unfold Co;kernel_rfl
theorem Ko:Co Try.prog 25:=by unfold Co;kernel_rfl
theorem AU:Co Try.prog 44:=by unfold Co;kernel_rfl
theorem B7:Co Try.prog 50:=by unfold Co;kernel_rfl
theorem Je:Co Try.prog 63:=by unfold Co;kernel_rfl
theorem FV:Co Try.prog 151:=by unfold Co;kernel_rfl
theorem Ix:(Try.prog.info? 2).map (·.size)=some 1:=by kernel_rfl
theorem Le:(Try.prog.info? 9).map (·.size)=some 1:=by kernel_rfl
theorem E1:(Try.prog.info? 44).map (·.size)=some 1:=by kernel_rfl
theorem Hs:(Try.prog.info? 50).map (·.size)=some 1:=by kernel_rfl
theorem Lm:TI Try.prog 2 1 (.int .i64 0) 8:=by unfold TI;kernel_rfl
theorem Ln:TI Try.prog 5 1 (.int .u8 0) 1:=by unfold TI;kernel_rfl
theorem KY:TI Try.prog 25 1 (.slice none 0 0) 24:=by unfold TI;kernel_rfl
theorem u2:Try.prog.underlying 2=some (.int .i64):=by kernel_rfl
theorem u3:Try.prog.underlying 3=some (.int .i64):=by kernel_rfl
theorem u4:Try.prog.underlying 4=some (.bool):=by kernel_rfl
theorem u5:Try.prog.underlying 5=some (.int .u8):=by kernel_rfl
theorem u9:Try.prog.underlying 9=some (.string):=by kernel_rfl
theorem Lf:Try.prog.underlying 22=some (.slice 5):=by kernel_rfl
theorem KZ:Try.prog.underlying 25=some (.slice 2):=by kernel_rfl
theorem Lg:Try.prog.underlying 40=some (.slice 25):=by kernel_rfl
theorem Bw:Try.prog.underlying 44=some (.slice 46):=by kernel_rfl
theorem C1:Try.prog.underlying 50=some (.slice 49):=by kernel_rfl
theorem JE:Try.prog.underlying 63=some (.slice 153):=by kernel_rfl
theorem Gv:Try.prog.underlying 151=some (.slice 191):=by kernel_rfl
theorem B8:Cb Try.prog 46 5=true:=by kernel_rfl
theorem DC:(Try.prog.info? 46).map (·.zero)=some (some (.agg #[.int .i64 0,.int .i64 0,.int .i64 0,.int .i64 0,.slice none 0 0])):=by kernel_rfl
theorem B1:TI Try.prog 46 5 (.agg #[.int .i64 0,.int .i64 0,.int .i64 0,.int .i64 0,.slice none 0 0]) 56:=by unfold TI;kernel_rfl
theorem BH:Ei Try.prog 46 0 0=true:=by kernel_rfl
theorem Bx:Ei Try.prog 46 1 1=true:=by kernel_rfl
theorem Cy:Ei Try.prog 46 2 2=true:=by kernel_rfl
theorem C2:Ei Try.prog 46 3 3=true:=by kernel_rfl
theorem B5:Ei Try.prog 46 4 4=true:=by kernel_rfl
theorem BO:Cb Try.prog 49 3=true:=by kernel_rfl
theorem Fg:(Try.prog.info? 49).map (·.zero)=some (some (.agg #[.string ByteArray.empty,.int .i64 0,.slice none 0 0])):=by kernel_rfl
theorem B4:TI Try.prog 49 3 (.agg #[.string ByteArray.empty,.int .i64 0,.slice none 0 0]) 48:=by unfold TI;kernel_rfl
theorem BS:Ei Try.prog 49 0 0=true:=by kernel_rfl
theorem Bh:Ei Try.prog 49 1 1=true:=by kernel_rfl
theorem B2:Ei Try.prog 49 2 2=true:=by kernel_rfl
theorem AL:Cb Try.prog 52 1=true:=by kernel_rfl
theorem DD:(Try.prog.info? 52).map (·.zero)=some (some (.agg #[.slice none 0 0])):=by kernel_rfl
theorem AO:Ei Try.prog 52 0 0=true:=by kernel_rfl
theorem Gj:Cb Try.prog 65 1=true:=by kernel_rfl
theorem I3:Ei Try.prog 65 0 0=true:=by kernel_rfl
theorem I4:Cb Try.prog 153 3=true:=by kernel_rfl
theorem I5:TI Try.prog 153 3 (.agg #[.string ByteArray.empty,.int .i64 0,.slice none 0 0]) 48:=by unfold TI;kernel_rfl
theorem H5:Ei Try.prog 153 0 0=true:=by kernel_rfl
theorem IL:Ei Try.prog 153 1 1=true:=by kernel_rfl
theorem H6:Ei Try.prog 153 2 2=true:=by kernel_rfl
theorem Gw:Cb Try.prog 182 2=true:=by kernel_rfl
theorem IM:Ei Try.prog 182 0 0=true:=by kernel_rfl
theorem IN:Ei Try.prog 182 1 1=true:=by kernel_rfl
theorem I6:Cb Try.prog 191 5=true:=by kernel_rfl
theorem I7:TI Try.prog 191 5 (.agg #[.int .i64 0,.int .i64 0,.int .i64 0,.int .i64 0,.slice none 0 0]) 56:=by unfold TI;kernel_rfl
theorem IO:Ei Try.prog 191 0 0=true:=by kernel_rfl
theorem IP:Ei Try.prog 191 1 1=true:=by kernel_rfl
theorem IQ:Ei Try.prog 191 2 2=true:=by kernel_rfl
theorem IR:Ei Try.prog 191 3 3=true:=by kernel_rfl
theorem H7:Ei Try.prog 191 4 4=true:=by kernel_rfl
section
set_option maxHeartbeats 4000000
set_option maxRecDepth 100000
attribute [local irreducible] LW
theorem B3 (w:World)(n:Int)(low:Int)(high:Int)(_hn:BF n)(_hlow:BF low)(_hhigh:BF high)  :
  Calls Try.prog 83 #[zI n,zI low,zI high] w (fun e w'=>e=.returned (.bool (decide (low≤n) && decide (n≤high)))∧w'=w):=by
 refine Aw [zI n,zI low,zI high] 15 Try.func83 Z Z sM ?_
 have a0:w=w:=rfl
 refine La Z<|L9 [0,0,0,0,0,0,0,0,0] Z<|Ag 2 Z ?_
 by_cases a1:low≤n
 ·exact Cp true Z Z (A5 a1) Aa<|Ag 3 Z<|D8 (decide (n≤high)) Z Z Z (Ae (e:=10) Z Z Z)<|Ac 2 Z<|A1<|Af [6] Z (.bool<|decide (n≤high)) Z ⟨At (by simp[*]),a0⟩
 exact Cp false Z Z (A6 a1) Aa<|Ac 6 Z<|A1<|Af [6] Z (.bool false) Z ⟨At (by simp[*]),a0⟩
theorem AY (w:World)(n:Int)(low:Int)(high:Int)(_hn:BF n)(_hlow:BF low)(_hhigh:BF high)  :
  Calls Try.prog 79 #[zI n,zI low,zI high] w (fun e w'=>e=.returned (.bool (decide (low≤n) && decide (n≤high)))∧w'=w):=by
 refine Aw [zI n,zI low,zI high] 15 Try.func79 Z Z sM ?_
 have a0:w=w:=rfl
 refine La Z<|L9 [0,0,0,0,0,0,0,0,0] Z<|Ag 2 Z ?_
 by_cases a1:low≤n
 ·exact Cp true Z Z (A5 a1) Aa<|Ag 3 Z<|D8 (decide (n≤high)) Z Z Z (Ae (e:=10) Z Z Z)<|Ac 2 Z<|A1<|Af [6] Z (.bool<|decide (n≤high)) Z ⟨At (by simp[*]),a0⟩
 exact Cp false Z Z (A6 a1) Aa<|Ac 6 Z<|A1<|Af [6] Z (.bool false) Z ⟨At (by simp[*]),a0⟩
theorem CV (w:World)(n:Int)(_hn:BF n)  :
  Calls Try.prog 112 #[zI n] w (fun e w'=>e=.returned (.bool (FM n))∧w'=w):=by
 refine Aw [zI n] 5 Try.func112 Z Z sM ?_
 have a0:w=w:=rfl
 exact La Z<|L9 [0,0,0] Z<|Ag 1 Z<|AJ 83 [] [] [zI n,zI ((0:Nat):Int),zI ((1000002:Nat):Int)] Z Z Ek Aa (.bool (decide (((0:Nat):Int)≤n) && decide (n≤((1000002:Nat):Int)))) (fun wq=>B3 wq _ _ _ _hn oM oM)<|Ac 1 Z<|A1<|Af [2] Z (.bool (decide (((0:Nat):Int)≤n) && decide (n≤((1000002:Nat):Int)))) Z ⟨At (by unfold FM;rfl),a0⟩
theorem E2 (w:World)(n:Int)(_hn:BF n)  :
  Calls Try.prog 168 #[zI n] w (fun e w'=>e=.returned (.bool (FM n))∧w'=w):=by
 refine Aw [zI n] 5 Try.func168 Z Z sM ?_
 have a0:w=w:=rfl
 exact La Z<|L9 [0,0,0] Z<|Ag 1 Z<|AJ 79 [] [] [zI n,zI ((0:Nat):Int),zI ((1000002:Nat):Int)] Z Z DB Aa (.bool (decide (((0:Nat):Int)≤n) && decide (n≤((1000002:Nat):Int)))) (fun wq=>AY wq _ _ _ _hn oM oM)<|Ac 1 Z<|A1<|Af [2] Z (.bool (decide (((0:Nat):Int)≤n) && decide (n≤((1000002:Nat):Int)))) Z ⟨At (by unfold FM;rfl),a0⟩
theorem Dr (w:World)(n:Int)(_hn:BF n)  :
  Calls Try.prog 111 #[zI n] w (fun e w'=>e=.returned (.bool (!FM n))∧Az w w'):=by
 refine Aw [zI n] 6 Try.func111 Z Z sM ?_
 have a0:Az w w:=Az.refl w
 exact La Z<|L9 [0,0,0,0] Z<|Ag 1 Z<|AJ 112 [] [] [zI n] Z Z J3 Aa (.bool<|FM n) (fun wq=>CV wq _ _hn)<|AZ (!(FM n)) Z Z Aa<|Ac 1 Z<|A1<|Af [2] Z (.bool (!(FM n))) Z ⟨rfl,a0⟩
def ZS (D:Nat):Prop:=∀(w:World) (d:Nat) (va:Value) (a:List Ex) (left:Int) (ha:RN [] (Ct 5 (DL d)) w.heap va a) (_hleft:BF left) (hL:0≤left∧left≤1048576) (hd:d≤D),Calls Try.prog 140 #[va,.int .i64 left] w (fun e w'=>e=.returned (.int .i64 (DN (Ex.sizes a) left))∧Az w w')
theorem Fh (w:World)(dex:Nat)(ve:Value)(ex:Ex)(left:Int)(hex:RX [] dex w.heap ve ex)(_hleft:BF left)(hL:0≤left∧left≤1048576)(IH:ZS dex) :
  Calls Try.prog 151 #[(.agg #[(zI ex.kind),(zI ex.num),(zI ex.pick),(zI ex.count),ve]),zI left] w (fun e w'=>e=.returned (zI (DN (Ex.sizes ex.kids) left))∧Az w w'):=by
 refine Aw [.agg #[zI ex.kind,zI ex.num,zI ex.pick,zI ex.count,ve],zI left] 12 Try.func151 Z Z sM ?_
 have a6:Az w w:=Az.refl w
 have aa:=hex.rn.lenle
 unfold maxLen at aa
 refine L9 [3,0] Z (Bf (cs:=#[zI ex.kind,zI ex.num,zI ex.pick,zI ex.count,ve]) Z Aa fun w1 a2 a9 a0=>?_)
 have a7:=a2.size
 have a3:=a6.trans a2
 replace a0:BX w1.heap w.heap.size [zI ex.kind,zI ex.num,zI ex.pick,zI ex.count,ve]:=a0
 refine Ac 1 Z<|L9 [0,2,0,3,0] Z<|Ao (p:=zP w.heap.size) 4 H7 Z Z Aa<|Al (p:=Ar (zP w.heap.size) 4) (.inr Z) ve FV Z (a0.ldp (i:=4) sM) Aa<|Ag 1 Z<|As 140 [] [] [ve,zI left] Z Z J9 Aa (IH _ dex ve (ex.kids) _ (hex.rn.ext (Ax<|AB dex) a3) _hleft oM oM) ?_
 rintro e2 w2 ⟨rfl,a1⟩
 refine⟨_,rfl,a1,?_⟩
 have a8:=a1.size
 have a4:=a3.trans a1
 refine Ac 1 Z<|A0<|L9 [0,0] Z<|Ag 1 Z ?_
 by_cases a5:DN (Ex.sizes ex.kids) left<((0:Nat):Int)
 ·exact AA true Z Z (A5 a5) Aa<|Ai<|Ah Z<|La Z<|A1<|Am<|Af [4] Z (zI (-1)) Z ⟨(by have hn:=DO (t:=Ex.sizes ex.kids) (x:=left) oM oM;exact AK (Eg oM)),a4⟩
 exact AA false Z Z (A6 a5) Aa<|Ai<|Ak Z<|A2<|L9 [0,0] Z<|Ac 2 Z<|A1<|Af [4] Z (zI<|DN (Ex.sizes ex.kids) left) Z ⟨AK Z,a4⟩
theorem EP (w:World)(da:Nat)(va:Value)(a:List Ex)(left:Int)(ha:RN [] (Ct 5 (DL da)) w.heap va a)(_hleft:BF left)(hL:0≤left∧left≤1048576) :
  Calls Try.prog 140 #[va,zI left] w (fun e w'=>e=.returned (zI (DN (Ex.sizes a) left))∧Az w w'):=by
 induction da using Nat.strongRecOn generalizing w va a left
 rename_i da ih
 refine Aw [va,zI left] 27 Try.func140 Z Z sM ?_
 have a1:Az w w:=Az.refl w
 have ak:=ha.lenle
 unfold maxLen at ak
 have ad:=BW a 0
 refine La Z<|L9 [0,0,0,0,0] Z<|Ag 2 Z<|AS (v:=va) Gv Z ha.isSl Aa<|CE (left-(a.length:Int)) Z Z (Dy oM oM) Aa<|Ac 1 Z<|A0<|L9 [0,0] Z<|Ag 1 Z ?_
 by_cases a5:left-(a.length:Int)<((0:Nat):Int)
 ·exact AA true Z Z (A5 a5) Aa<|Ai<|Ah Z<|La Z<|A1<|Am<|Af [4] Z (zI (-1)) Z ⟨(by exact AK (Eg oM)),a1⟩
 refine AA false Z Z (A6 a5) Aa<|Ai<|Ak Z<|A2<|A0<|La Z<|A3 ?_
 refine AW (S:=Nat×Int) (fun⟨k,x⟩=>([(1,zI x),(5,zI (k:Int)),(0,va)])) (fun⟨k,x⟩ W=>Az w W∧k≤a.length∧x=left-(a.length:Int)-((Ex.sizes (a.take k):Nat):Int)+(k:Int)∧(0≤x∧x≤1048576)) (fun⟨k,x⟩=>a.length-k) (0,left-(a.length:Int)) ⟨rfl,rfl,rfl,trivial⟩ ⟨a1,sD,(by rw[List.take_zero,Cc];omega),oM⟩ ?_
 clear a1
 rintro⟨k,x⟩ ρ2 w2 ⟨a0,a6,hx,a7⟩
 have ae:w.heap.size≤w2.heap.size:=a0.size
 refine A0<|L9 [0,0,0,0] Z<|Ag 2 Z<|AS (v:=va) Gv Z ha.isSl Aa ?_
 by_cases a8:(k:Int)<(a.length:Int)
 ·refine AA true Z Z (A5 a8) Aa<|Ai<|Ah Z<|A2<|A0<|A3<|L9 [0,0,0,2,0,3,0] Z ?_
  have hst:=Bp (l:=a) (k:=k) oM
  have hge:=BW a (k+1)
  have hsk:=Bv<|a.getD k Ex.zero
  refine Ag 2 Z<|AN (v:=va) k Gv I7 Z Z ha.isSl Z sD Aa ?_
  obtain⟨cs4,af,ag⟩:=ha.get (AB da) Ex.zero (k:=k) sD
  obtain⟨dd4,a2,aj,rfl,aa⟩:=RX.of af
  have a3:=aa.rn.lenle
  unfold maxLen at a3
  refine Au (p:=AE va k 5) (.inr Z) [zI<|(a.getD k Ex.zero).kind,zI<|(a.getD k Ex.zero).num,zI<|(a.getD k Ex.zero).pick,zI<|(a.getD k Ex.zero).count,a2] I6 Z (fun al ah=>ag al<|AG.of_ext []<|a0.trans ah) Z Aa<|Ag 1 Z<|As 151 [] [] [.agg #[zI<|(a.getD k Ex.zero).kind,zI<|(a.getD k Ex.zero).num,zI<|(a.getD k Ex.zero).pick,zI<|(a.getD k Ex.zero).count,a2],zI x] Z Z Kg Aa (Fh _ dd4 a2 (a.getD k Ex.zero) _ (aa.ext a0) oM oM (by intro w9 d9 v9 a9 l9 h1 h2 h3 h4;exact ih d9 oM w9 v9 a9 l9 h1 h2 h3)) ?_
  rintro e5 w5 ⟨rfl,a4⟩
  refine⟨_,rfl,a4,?_⟩
  have ai:=a4.size
  have ab:=a0.trans a4
  refine Ac 1 Z<|L9 [0,0] Z ?_
  have hzr:=FR (Ex.sizes (a.getD k Ex.zero).kids) (x:=x) oM
  refine Ag 1 Z ?_
  by_cases ac:DN (Ex.sizes (a.getD k Ex.zero).kids) x<((0:Nat):Int)
  ·exact AA true Z Z (A5 ac) Aa<|Ai<|Ah Z<|La Z<|A1<|AC<|Am<|Am<|AC<|Am<|Af [4] Z (zI (-1)) Z ⟨(by have hn:=DO (t:=Ex.sizes (a.getD k Ex.zero).kids) (x:=x) oM oM;exact AK (Eg oM)),ab⟩
  refine AA false Z Z (A6 ac) Aa<|Ai<|Ak Z<|A2<|Ab _ [0,0,0] Z ?_
  have hzp:=Es (t:=Ex.sizes (a.getD k Ex.zero).kids) (x:=x) oM
  refine Ag 1 Z<|AQ ((k+1:Nat):Int) Z Z (Bn oM sD) Aa<|Ac 1 Z ?_
  exact⟨(k+1,DN (Ex.sizes (a.getD k Ex.zero).kids) x),_,rfl,zR,⟨ab,sD,oM,oM⟩,zD⟩
 exact AA false Z Z (A6 a8) Aa<|Ai<|Ak Z<|A4<|AD<|AD<|Ay<|L9 [0,0] Z<|Ac 2 Z<|A1<|Af [4] Z (zI x) Z ⟨(by have hsa:=CN (l:=a) (k:=k) oM;exact AK (HK oM oM)),a0⟩
theorem Fi (w:World)(dg:Nat)(vf:Value)(g:Fn)(left:Int)(hg:RF [] dg w.heap vf g)(_hleft:BF left)(hL:0≤left∧left≤1048576)(hnm:g.name.size≤9223372036854775807) :
  Calls Try.prog 117 #[(.agg #[(.string g.name),(zI g.params),vf]),zI left] w (fun e w'=>e=.returned (zI (DN g.sz left))∧Az w w'):=by
 refine Aw [.agg #[.string g.name,zI g.params,vf],zI left] 19 Try.func117 Z Z sM ?_
 have a7:Az w w:=Az.refl w
 have ab:=hg.rn.lenle
 unfold maxLen at ab
 have hgs:g.sz=g.name.size+Ex.sizes g.outs:=rfl
 refine L9 [3,0] Z (Bf (cs:=#[.string g.name,zI g.params,vf]) Z Aa fun w1 a3 aa a0=>?_)
 have a8:=a3.size
 have a1:=a7.trans a3
 replace a0:BX w1.heap w.heap.size [.string g.name,zI g.params,vf]:=a0
 refine Ac 1 Z<|L9 [0,0,2,0,0,0] Z<|Ag 1 Z<|Ao (p:=zP w.heap.size) 0 H5 Z Z Aa<|Al (p:=Ar (zP w.heap.size) 0) (.inr Z) (.string g.name) Dq Z (a0.ldp (i:=0) sM) Aa<|DW (s:=g.name) u9 Z Aa<|CE (left-(g.name.size:Int)) Z Z (Dy oM oM) Aa<|Ac 1 Z<|A0<|L9 [0,0] Z<|Ag 1 Z ?_
 by_cases a4:left-(g.name.size:Int)<((0:Nat):Int)
 ·exact AA true Z Z (A5 a4) Aa<|Ai<|Ah Z<|La Z<|A1<|Am<|Af [4] Z (zI (-1)) Z ⟨(by exact AK (Eg oM)),a1⟩
 refine AA false Z Z (A6 a4) Aa<|Ai<|Ak Z<|A2<|L9 [0,2,0,3,0] Z<|Ao (p:=zP w.heap.size) 2 H6 Z Z Aa<|Al (p:=Ar (zP w.heap.size) 2) (.inr Z) vf FV Z (a0.ldp (i:=2) sM) Aa<|Ag 1 Z<|As 140 [] [] [vf,zI (left-(g.name.size:Int))] Z Z J9 Aa (EP _ dg vf (g.outs) _ (hg.rn.ext (Ax<|AB dg) a1) oM oM) ?_
 rintro e3 w3 ⟨rfl,a2⟩
 refine⟨_,rfl,a2,?_⟩
 have a9:=a2.size
 have a5:=a1.trans a2
 refine Ac 1 Z<|A0<|L9 [0,0] Z ?_
 have hzr:=FR (Ex.sizes g.outs) (x:=left-(g.name.size:Int)) oM
 refine Ag 1 Z ?_
 by_cases a6:DN (Ex.sizes g.outs) (left-(g.name.size:Int))<((0:Nat):Int)
 ·exact AA true Z Z (A5 a6) Aa<|Ai<|Ah Z<|La Z<|A1<|Am<|Af [4] Z (zI (-1)) Z ⟨(by have hn:=DO (t:=Ex.sizes g.outs) (x:=left-(g.name.size:Int)) oM oM;exact AK (Eg oM)),a5⟩
 refine AA false Z Z (A6 a6) Aa<|Ai<|Ak Z<|A2<|L9 [0,0] Z ?_
 have hzp:=Es (t:=Ex.sizes g.outs) (x:=left-(g.name.size:Int)) oM
 exact Ac 2 Z<|A1<|Af [4] Z (zI<|DN (Ex.sizes g.outs) (left-(g.name.size:Int))) Z ⟨(by exact AK (HK oM oM)),a5⟩
theorem EQ (w:World)(da:Nat)(va:Value)(a:List Fn)(left:Int)(ha:RP [] da w.heap va a)(_hleft:BF left)(hL:0≤left∧left≤1048576)(hnm:∀k,k<a.length→(a.getD k Fn.zero).name.size≤9223372036854775807) :
  Calls Try.prog 76 #[va,zI left] w (fun e w'=>e=.returned (zI (DN (Gm a) left))∧Az w w'):=by
 refine Aw [va,zI left] 27 Try.func76 Z Z sM ?_
 have a1:Az w w:=Az.refl w
 have ah:=ha.lenle
 unfold maxLen at ah
 have hgs:Gm a=a.length+Fn.szs a:=rfl
 refine La Z<|L9 [0,0,0,0,0] Z<|Ag 2 Z<|AS (v:=va) JE Z ha.isSl Aa<|CE (left-(a.length:Int)) Z Z (Dy oM oM) Aa<|Ac 1 Z<|A0<|L9 [0,0] Z<|Ag 1 Z ?_
 by_cases a6:left-(a.length:Int)<((0:Nat):Int)
 ·exact AA true Z Z (A5 a6) Aa<|Ai<|Ah Z<|La Z<|A1<|Am<|Af [4] Z (zI (-1)) Z ⟨(by exact AK (Eg oM)),a1⟩
 refine AA false Z Z (A6 a6) Aa<|Ai<|Ak Z<|A2<|A0<|La Z<|A3 ?_
 refine AW (S:=Nat×Int) (fun⟨k,x⟩=>([(1,zI x),(5,zI (k:Int)),(0,va)])) (fun⟨k,x⟩ W=>Az w W∧k≤a.length∧x=left-(a.length:Int)-((Fn.szs (a.take k):Nat):Int)∧(0≤x∧x≤1048576)) (fun⟨k,x⟩=>a.length-k) (0,left-(a.length:Int)) ⟨rfl,rfl,rfl,trivial⟩ ⟨a1,sD,(by rw[List.take_zero,GU];omega),oM⟩ ?_
 clear a1
 rintro⟨k,x⟩ ρ2 w2 ⟨a0,a7,hx,a8⟩
 have ac:w.heap.size≤w2.heap.size:=a0.size
 refine A0<|L9 [0,0,0,0] Z<|Ag 2 Z<|AS (v:=va) JE Z ha.isSl Aa ?_
 by_cases a9:(k:Int)<(a.length:Int)
 ·refine AA true Z Z (A5 a9) Aa<|Ai<|Ah Z<|A2<|A0<|A3<|L9 [0,0,0,2,0,3,0] Z ?_
  have hst:=Gc (l:=a) (k:=k) oM
  have hge:=EK a (k+1)
  refine Ag 2 Z<|AN (v:=va) k JE I5 Z Z ha.isSl Z sD Aa ?_
  obtain⟨cs4,ad,ae⟩:=ha.get (Aq da) Fn.zero (k:=k) sD
  obtain⟨a2,rfl,a3⟩:=RF.of ad
  have a4:=a3.rn.lenle
  unfold maxLen at a4
  refine Au (p:=AE va k 3) (.inr Z) [.string<|(a.getD k Fn.zero).name,zI<|(a.getD k Fn.zero).params,a2] I4 Z (fun ai af=>ae ai<|AG.of_ext []<|a0.trans af) Z Aa<|Ag 1 Z<|As 117 [] [] [.agg #[.string<|(a.getD k Fn.zero).name,zI<|(a.getD k Fn.zero).params,a2],zI x] Z Z K2 Aa (Fi _ da a2 (a.getD k Fn.zero) _ ⟨a3.rng,a3.rn.ext (Ax<|AB da) a0⟩ oM oM (by exact hnm k oM)) ?_
  rintro e5 w5 ⟨rfl,a5⟩
  refine⟨_,rfl,a5,?_⟩
  have ag:=a5.size
  have aa:=a0.trans a5
  refine Ac 1 Z<|L9 [0,0] Z ?_
  have hzr:=FR (a.getD k Fn.zero).sz (x:=x) oM
  refine Ag 1 Z ?_
  by_cases ab:DN (a.getD k Fn.zero).sz x<((0:Nat):Int)
  ·exact AA true Z Z (A5 ab) Aa<|Ai<|Ah Z<|La Z<|A1<|AC<|Am<|Am<|AC<|Am<|Af [4] Z (zI (-1)) Z ⟨(by have hn:=DO (t:=(a.getD k Fn.zero).sz) (x:=x) oM oM;exact AK (Eg oM)),aa⟩
  refine AA false Z Z (A6 ab) Aa<|Ai<|Ak Z<|A2<|Ab _ [0,0,0] Z ?_
  have hzp:=Es (t:=(a.getD k Fn.zero).sz) (x:=x) oM
  refine Ag 1 Z<|AQ ((k+1:Nat):Int) Z Z (Bn oM sD) Aa<|Ac 1 Z ?_
  exact⟨(k+1,DN (a.getD k Fn.zero).sz x),_,rfl,zR,⟨aa,sD,oM,oM⟩,zD⟩
 exact AA false Z Z (A6 a9) Aa<|Ai<|Ak Z<|A4<|AD<|AD<|Ay<|L9 [0,0] Z<|Ac 2 Z<|A1<|Af [4] Z (zI x) Z ⟨(by rw[za (show a.length≤k by omega)]at hx;exact AK (HK oM oM)),a0⟩
theorem E3 (w:World)(dp:Nat)(vp:Value)(p:List Fn)(left:Int)(hp:RP [] dp w.heap vp p)(_hleft:BF left)(hL:0≤left∧left≤1048576)(hnm:∀k,k<p.length→(p.getD k Fn.zero).name.size≤9223372036854775807) :
  Calls Try.prog 30 #[(.agg #[vp]),zI left] w (fun e w'=>e=.returned (zI (DN (Gm p) left))∧Az w w'):=by
 refine Aw [.agg #[vp],zI left] 12 Try.func30 Z Z sM ?_
 have a6:Az w w:=Az.refl w
 have aa:=hp.lenle
 unfold maxLen at aa
 refine L9 [3,0] Z (Bf (cs:=#[vp]) Z Aa fun w1 a2 a9 a0=>?_)
 have a7:=a2.size
 have a3:=a6.trans a2
 replace a0:BX w1.heap w.heap.size [vp]:=a0
 refine Ac 1 Z<|L9 [0,2,0,3,0] Z<|Ao (p:=zP w.heap.size) 0 I3 Z Z Aa<|Al (p:=Ar (zP w.heap.size) 0) (.inr Z) vp Je Z (a0.ldp (i:=0) sM) Aa<|Ag 1 Z<|As 76 [] [] [vp,zI left] Z Z KQ Aa (EQ _ dp vp (p) _ (hp.ext (Ax<|Aq dp) a3) _hleft oM hnm) ?_
 rintro e2 w2 ⟨rfl,a1⟩
 refine⟨_,rfl,a1,?_⟩
 have a8:=a1.size
 have a4:=a3.trans a1
 refine Ac 1 Z<|A0<|L9 [0,0] Z<|Ag 1 Z ?_
 by_cases a5:DN (Gm p) left<((0:Nat):Int)
 ·exact AA true Z Z (A5 a5) Aa<|Ai<|Ah Z<|La Z<|A1<|Am<|Af [4] Z (zI (-1)) Z ⟨(by have hn:=DO (t:=Gm p) (x:=left) oM oM;exact AK (Eg oM)),a4⟩
 exact AA false Z Z (A6 a5) Aa<|Ai<|Ak Z<|A2<|L9 [0,0] Z<|Ac 2 Z<|A1<|Af [4] Z (zI<|DN (Gm p) left) Z ⟨AK Z,a4⟩
def QS (D:Nat):Prop:=∀(w:World) (d:Nat) (va:Value) (a:List Ex) (d':Nat) (vb:Value) (b:List Ex) (ha:RN [] (Ct 5 (DL d)) w.heap va a) (hb:RN [] (Ct 5 (DL d')) w.heap vb b) (hab:b=a) (hd:d≤D),Calls Try.prog 149 #[va,vb] w (fun e w'=>e=.returned (.bool true)∧Az w w')
theorem CG {p:Prop}(h:p:=by first|exact At Z|(exfalso;omega)|(exfalso;simp_all;done)):p:=h
theorem Fj (w:World)(da:Nat)(va:Value)(a:Ex)(db:Nat)(vb:Value)(b:Ex)(ha:RX [] da w.heap va a)(hb:RX [] db w.heap vb b)(hab:b=a)(IH:QS da) :
  Calls Try.prog 156 #[(.agg #[(zI a.kind),(zI a.num),(zI a.pick),(zI a.count),va]),(.agg #[(zI b.kind),(zI b.num),(zI b.pick),(zI b.count),vb])] w (fun e w'=>e=.returned (.bool true)∧Az w w'):=by
 refine Aw [.agg #[zI a.kind,zI a.num,zI a.pick,zI a.count,va],.agg #[zI b.kind,zI b.num,zI b.pick,zI b.count,vb]] 31 Try.func156 Z Z sM ?_
 have ab:Az w w:=Az.refl w
 have ao:=ha.rn.lenle
 unfold maxLen at ao
 have ap:=hb.rn.lenle
 unfold maxLen at ap
 have ah:b.kind=a.kind:=by rw[hab]
 have ai:b.num=a.num:=by rw[hab]
 have aj:b.pick=a.pick:=by rw[hab]
 have ak:b.count=a.count:=by rw[hab]
 refine L9 [3,3,0] Z (Bf (cs:=#[zI a.kind,zI a.num,zI a.pick,zI a.count,va]) Z Aa fun w1 a6 al a3=>?_)
 have ac:=a6.size
 have ad:=ab.trans a6
 replace a3:BX w1.heap w.heap.size [zI a.kind,zI a.num,zI a.pick,zI a.count,va]:=a3
 have am:=a3.lt
 refine Bf (cs:=#[zI b.kind,zI b.num,zI b.pick,zI b.count,vb]) Z Aa fun w2 a4 an a1=>?_
 have ae:=a4.size
 have a2:=ad.trans a4
 have a0:=a3.ext a4
 replace a1:BX w2.heap w1.heap.size [zI b.kind,zI b.num,zI b.pick,zI b.count,vb]:=a1
 refine Ac 1 Z<|A0<|L9 [0,2,0,2,0] Z<|Ao (p:=zP w.heap.size) 0 BH Z Z Aa<|Al (p:=Ar (zP w.heap.size) 0) (.inr Z) (zI a.kind) AT Z (a0.ldp (i:=0) sM) Aa<|Ao (p:=zP w1.heap.size) 0 BH Z Z Aa<|Al (p:=Ar (zP w1.heap.size) 0) (.inr Z) (zI b.kind) AT Z (a1.ldp (i:=0) sM) Aa ?_
 by_cases a7:a.kind≠b.kind
 ·exact AR true Z Z (A5 a7) Aa<|Ai<|Ah Z<|La Z<|A1<|Am<|Af [4] Z (.bool false) Z ⟨CG,a2⟩
 refine AR false Z Z (A6 a7) Aa<|Ai<|Ak Z<|A2<|A0<|L9 [0,2,0,2,0] Z<|Ao (p:=zP w.heap.size) 1 Bx Z Z Aa<|Al (p:=Ar (zP w.heap.size) 1) (.inr Z) (zI a.num) AT Z (a0.ldp (i:=1) sM) Aa<|Ao (p:=zP w1.heap.size) 1 Bx Z Z Aa<|Al (p:=Ar (zP w1.heap.size) 1) (.inr Z) (zI b.num) AT Z (a1.ldp (i:=1) sM) Aa ?_
 by_cases a8:a.num≠b.num
 ·exact AR true Z Z (A5 a8) Aa<|Ai<|Ah Z<|La Z<|A1<|Am<|Af [4] Z (.bool false) Z ⟨CG,a2⟩
 refine AR false Z Z (A6 a8) Aa<|Ai<|Ak Z<|A2<|A0<|L9 [0,2,0,2,0] Z<|Ao (p:=zP w.heap.size) 2 Cy Z Z Aa<|Al (p:=Ar (zP w.heap.size) 2) (.inr Z) (zI a.pick) AT Z (a0.ldp (i:=2) sM) Aa<|Ao (p:=zP w1.heap.size) 2 Cy Z Z Aa<|Al (p:=Ar (zP w1.heap.size) 2) (.inr Z) (zI b.pick) AT Z (a1.ldp (i:=2) sM) Aa ?_
 by_cases a9:a.pick≠b.pick
 ·exact AR true Z Z (A5 a9) Aa<|Ai<|Ah Z<|La Z<|A1<|Am<|Af [4] Z (.bool false) Z ⟨CG,a2⟩
 refine AR false Z Z (A6 a9) Aa<|Ai<|Ak Z<|A2<|A0<|L9 [0,2,0,2,0] Z<|Ao (p:=zP w.heap.size) 3 C2 Z Z Aa<|Al (p:=Ar (zP w.heap.size) 3) (.inr Z) (zI a.count) AT Z (a0.ldp (i:=3) sM) Aa<|Ao (p:=zP w1.heap.size) 3 C2 Z Z Aa<|Al (p:=Ar (zP w1.heap.size) 3) (.inr Z) (zI b.count) AT Z (a1.ldp (i:=3) sM) Aa ?_
 by_cases aa:a.count≠b.count
 ·exact AR true Z Z (A5 aa) Aa<|Ai<|Ah Z<|La Z<|A1<|Am<|Af [4] Z (.bool false) Z ⟨CG,a2⟩
 refine AR false Z Z (A6 aa) Aa<|Ai<|Ak Z<|A2<|A0<|L9 [0,2,0,2,3,0] Z<|Ao (p:=zP w.heap.size) 4 B5 Z Z Aa<|Al (p:=Ar (zP w.heap.size) 4) (.inr Z) va AU Z (a0.ldp (i:=4) sM) Aa<|Ao (p:=zP w1.heap.size) 4 B5 Z Z Aa<|Al (p:=Ar (zP w1.heap.size) 4) (.inr Z) vb AU Z (a1.ldp (i:=4) sM) Aa<|As 149 [] [] [va,vb] Z Z Jc Aa (IH _ da va (a.kids) db vb (b.kids) (ha.rn.ext (Ax<|AB da) a2) (hb.rn.ext (Ax<|AB db) a2) (by rw[hab]) oM) ?_
 rintro e8 w8 ⟨rfl,a5⟩
 refine⟨_,rfl,a5,?_⟩
 have af:=a5.size
 have ag:=a2.trans a5
 exact AZ false Z Z Aa<|Ai<|Ak Z<|A2<|La Z<|A1<|Af [4] Z (.bool true) Z ⟨CG,ag⟩
theorem ER (w:World)(da:Nat)(va:Value)(a:List Ex)(db:Nat)(vb:Value)(b:List Ex)(ha:RN [] (Ct 5 (DL da)) w.heap va a)(hb:RN [] (Ct 5 (DL db)) w.heap vb b)(hab:b=a) :
  Calls Try.prog 149 #[va,vb] w (fun e w'=>e=.returned (.bool true)∧Az w w'):=by
 induction da using Nat.strongRecOn generalizing w va a db vb b
 rename_i da ih
 refine Aw [va,vb] 27 Try.func149 Z Z sM ?_
 have a2:Az w w:=Az.refl w
 have ao:=ha.lenle
 unfold maxLen at ao
 have ap:=hb.lenle
 unfold maxLen at ap
 have al:b.length=a.length:=by rw[hab]
 refine La Z<|A0<|L9 [0,0,0,0,0] Z<|Ag 1 Z<|AS (v:=va) Bw Z ha.isSl Aa<|Ag 1 Z<|AS (v:=vb) Bw Z hb.isSl Aa ?_
 by_cases a8:(a.length:Int)≠(b.length:Int)
 ·exact AR true Z Z (A5 a8) Aa<|Ai<|Ah Z<|La Z<|A1<|Am<|Af [4] Z (.bool false) Z ⟨(by first|exact At Z|(exfalso;omega)|(exfalso;simp_all;done)),a2⟩
 refine AR false Z Z (A6 a8) Aa<|Ai<|Ak Z<|A2<|A0<|La Z<|A3<|AW (S:=Nat) (fun k=>([(5,zI (k:Int)),(0,va),(1,vb)])) (fun k W=>Az w W∧k≤a.length) (fun k=>a.length-k) 0 ⟨rfl,rfl,rfl,trivial⟩ ⟨a2,sD⟩ ?_
 clear a2
 rintro k ρ2 w2 ⟨a0,aa⟩
 have ae:w.heap.size≤w2.heap.size:=a0.size
 refine A0<|L9 [0,0,0,0] Z<|Ag 2 Z<|AS (v:=va) Bw Z ha.isSl Aa ?_
 by_cases ab:(k:Int)<(a.length:Int)
 ·refine AA true Z Z (A5 ab) Aa<|Ai<|Ah Z<|A2<|A0<|A3<|A0<|Bd _ [0,0,0,1,0,0,0,1,3,0] mixed (by kernel_rfl)<|Ag 2 Z<|AN (v:=va) k Bw B1 Z Z ha.isSl Z sD Aa ?_
  obtain⟨cs4,af,ag⟩:=ha.get (AB da) Ex.zero (k:=k) sD
  obtain⟨dd4,a3,am,rfl,ac⟩:=RX.of af
  have a4:=ac.rn.lenle
  unfold maxLen at a4
  refine Au (p:=AE va k 5) (.inl Z) [zI<|(a.getD k Ex.zero).kind,zI<|(a.getD k Ex.zero).num,zI<|(a.getD k Ex.zero).pick,zI<|(a.getD k Ex.zero).count,a3] B8 Z (fun aq a5=>ag aq<|AG.of_ext []<|a0.drew.trans a5) Z Aa<|Ag 2 Z<|AN (v:=vb) k Bw B1 Z Z hb.isSl Z sD Aa ?_
  obtain⟨cs5,ah,ai⟩:=hb.get (AB db) Ex.zero (k:=k) sD
  obtain⟨dd5,a6,an,rfl,ad⟩:=RX.of ah
  have a7:=ad.rn.lenle
  unfold maxLen at a7
  refine Au (p:=AE vb k 5) (.inl Z) [zI<|(b.getD k Ex.zero).kind,zI<|(b.getD k Ex.zero).num,zI<|(b.getD k Ex.zero).pick,zI<|(b.getD k Ex.zero).count,a6] B8 Z (fun aq a5=>ai aq<|AG.of_ext []<|a0.drew.trans a5) Z Aa ?_
  refine As 156 [] [] [.agg #[zI<|(a.getD k Ex.zero).kind,zI<|(a.getD k Ex.zero).num,zI<|(a.getD k Ex.zero).pick,zI<|(a.getD k Ex.zero).count,a3],.agg #[zI<|(b.getD k Ex.zero).kind,zI<|(b.getD k Ex.zero).num,zI<|(b.getD k Ex.zero).pick,zI<|(b.getD k Ex.zero).count,a6]] Z Z Kj Aa (Fj _ dd4 a3 (a.getD k Ex.zero) dd5 a6 (b.getD k Ex.zero) (ac.ext a0.drew) (ad.ext a0.drew) (by rw[hab]) (by intro w9 d9 v9 a9 e9 u9 b9 h1 h2 h3 h4;exact ih d9 oM w9 v9 a9 e9 u9 b9 h1 h2 h3)) ?_
  rintro e6 w6 ⟨rfl,a1⟩
  refine⟨_,rfl,a1,?_⟩
  replace a1:=a1.of_drew
  have aj:=a1.size
  have ak:=a0.trans a1
  refine AZ false Z Z Aa<|Ai<|Ak Z<|A2<|Ab _ [0,0,0] Z<|Ag 1 Z<|AQ ((k+1:Nat):Int) Z Z (Bn oM sD) Aa<|Ac 1 Z ?_
  exact⟨k+1,_,rfl,zR,⟨ak,sD⟩,zD⟩
 exact AA false Z Z (A6 ab) Aa<|Ai<|Ak Z<|A4<|AD<|AD<|Ay<|La Z<|A1<|Af [4] Z (.bool true) Z ⟨(by first|exact At Z|(exfalso;omega)|(exfalso;simp_all;done)),a0⟩
theorem Ht (s:ByteArray):BM s s=true:=by unfold BM;simp
theorem Fk (w:World)(da:Nat)(va:Value)(a:Fn)(db:Nat)(vb:Value)(b:Fn)(ha:RF [] da w.heap va a)(hb:RF [] db w.heap vb b)(hab:b=a) :
  Calls Try.prog 128 #[(.agg #[(.string a.name),(zI a.params),va]),(.agg #[(.string b.name),(zI b.params),vb])] w (fun e w'=>e=.returned (.bool true)∧Az w w'):=by
 refine Aw [.agg #[.string a.name,zI a.params,va],.agg #[.string b.name,zI b.params,vb]] 21 Try.func128 Z Z sM ?_
 have a9:Az w w:=Az.refl w
 have ak:=ha.rn.lenle
 unfold maxLen at ak
 have al:=hb.rn.lenle
 unfold maxLen at al
 have af:b.params=a.params:=by rw[hab]
 have ag:BM a.name b.name=true:=by rw[hab];exact Ht _
 refine L9 [3,3,0] Z (Bf (cs:=#[.string a.name,zI a.params,va]) Z Aa fun w1 a6 ah a3=>?_)
 have aa:=a6.size
 have ab:=a9.trans a6
 replace a3:BX w1.heap w.heap.size [.string a.name,zI a.params,va]:=a3
 have ai:=a3.lt
 refine Bf (cs:=#[.string b.name,zI b.params,vb]) Z Aa fun w2 a4 aj a1=>?_
 have ac:=a4.size
 have a2:=ab.trans a4
 have a0:=a3.ext a4
 replace a1:BX w2.heap w1.heap.size [.string b.name,zI b.params,vb]:=a1
 refine Ac 1 Z<|A0<|L9 [0,2,0,2,0] Z<|Ao (p:=zP w.heap.size) 0 BS Z Z Aa<|Al (p:=Ar (zP w.heap.size) 0) (.inr Z) (.string a.name) Dq Z (a0.ldp (i:=0) sM) Aa<|Ao (p:=zP w1.heap.size) 0 BS Z Z Aa<|Al (p:=Ar (zP w1.heap.size) 0) (.inr Z) (.string b.name) Dq Z (a1.ldp (i:=0) sM) Aa ?_
 cases a7:(!BM a.name b.name)
 ·refine FO false u9 Z Z a7 Aa<|Ai<|Ak Z<|A2<|A0<|L9 [0,2,0,2,0] Z<|Ao (p:=zP w.heap.size) 1 Bh Z Z Aa<|Al (p:=Ar (zP w.heap.size) 1) (.inr Z) (zI a.params) AT Z (a0.ldp (i:=1) sM) Aa<|Ao (p:=zP w1.heap.size) 1 Bh Z Z Aa<|Al (p:=Ar (zP w1.heap.size) 1) (.inr Z) (zI b.params) AT Z (a1.ldp (i:=1) sM) Aa ?_
  by_cases a8:a.params≠b.params
  ·exact AR true Z Z (A5 a8) Aa<|Ai<|Ah Z<|La Z<|A1<|Am<|Af [4] Z (.bool false) Z ⟨CG,a2⟩
  refine AR false Z Z (A6 a8) Aa<|Ai<|Ak Z<|A2<|A0<|L9 [0,2,0,2,3,0] Z<|Ao (p:=zP w.heap.size) 2 B2 Z Z Aa<|Al (p:=Ar (zP w.heap.size) 2) (.inr Z) va AU Z (a0.ldp (i:=2) sM) Aa<|Ao (p:=zP w1.heap.size) 2 B2 Z Z Aa<|Al (p:=Ar (zP w1.heap.size) 2) (.inr Z) vb AU Z (a1.ldp (i:=2) sM) Aa<|As 149 [] [] [va,vb] Z Z Jc Aa (ER _ da va (a.outs) db vb (b.outs) (ha.rn.ext (Ax<|AB da) a2) (hb.rn.ext (Ax<|AB db) a2) (by rw[hab])) ?_
  rintro e6 w6 ⟨rfl,a5⟩
  refine⟨_,rfl,a5,?_⟩
  have ad:=a5.size
  have ae:=a2.trans a5
  exact AZ false Z Z Aa<|Ai<|Ak Z<|A2<|La Z<|A1<|Af [4] Z (.bool true) Z ⟨CG,ae⟩
 exact FO true u9 Z Z a7 Aa<|Ai<|Ah Z<|La Z<|A1<|Am<|Af [4] Z (.bool false) Z ⟨CG,a2⟩
theorem ES (w:World)(da:Nat)(va:Value)(a:List Fn)(db:Nat)(vb:Value)(b:List Fn)(ha:RP [] da w.heap va a)(hb:RP [] db w.heap vb b)(hab:b=a) :
  Calls Try.prog 89 #[va,vb] w (fun e w'=>e=.returned (.bool true)∧Az w w'):=by
 refine Aw [va,vb] 27 Try.func89 Z Z sM ?_
 have a2:Az w w:=Az.refl w
 have al:=ha.lenle
 unfold maxLen at al
 have am:=hb.lenle
 unfold maxLen at am
 have ak:b.length=a.length:=by rw[hab]
 refine La Z<|A0<|L9 [0,0,0,0,0] Z<|Ag 1 Z<|AS (v:=va) C1 Z ha.isSl Aa<|Ag 1 Z<|AS (v:=vb) C1 Z hb.isSl Aa ?_
 by_cases aa:(a.length:Int)≠(b.length:Int)
 ·exact AR true Z Z (A5 aa) Aa<|Ai<|Ah Z<|La Z<|A1<|Am<|Af [4] Z (.bool false) Z ⟨CG,a2⟩
 refine AR false Z Z (A6 aa) Aa<|Ai<|Ak Z<|A2<|A0<|La Z<|A3<|AW (S:=Nat) (fun k=>([(5,zI (k:Int)),(0,va),(1,vb)])) (fun k W=>Az w W∧k≤a.length) (fun k=>a.length-k) 0 ⟨rfl,rfl,rfl,trivial⟩ ⟨a2,sD⟩ ?_
 clear a2
 rintro k ρ2 w2 ⟨a0,ab⟩
 have ad:w.heap.size≤w2.heap.size:=a0.size
 refine A0<|L9 [0,0,0,0] Z<|Ag 2 Z<|AS (v:=va) C1 Z ha.isSl Aa ?_
 by_cases ac:(k:Int)<(a.length:Int)
 ·refine AA true Z Z (A5 ac) Aa<|Ai<|Ah Z<|A2<|A0<|A3<|A0<|Bd _ [0,0,0,1,0,0,0,1,3,0] mixed (by kernel_rfl)<|Ag 2 Z<|AN (v:=va) k C1 B4 Z Z ha.isSl Z sD Aa ?_
  obtain⟨cs4,ae,af⟩:=ha.get (Aq da) Fn.zero (k:=k) sD
  obtain⟨a3,rfl,a4⟩:=RF.of ae
  have a5:=a4.rn.lenle
  unfold maxLen at a5
  refine Au (p:=AE va k 3) (.inl Z) [.string<|(a.getD k Fn.zero).name,zI<|(a.getD k Fn.zero).params,a3] BO Z (fun an a6=>af an<|AG.of_ext []<|a0.drew.trans a6) Z Aa<|Ag 2 Z<|AN (v:=vb) k C1 B4 Z Z hb.isSl Z sD Aa ?_
  obtain⟨cs5,ag,ah⟩:=hb.get (Aq db) Fn.zero (k:=k) sD
  obtain⟨a7,rfl,a8⟩:=RF.of ag
  have a9:=a8.rn.lenle
  unfold maxLen at a9
  refine Au (p:=AE vb k 3) (.inl Z) [.string<|(b.getD k Fn.zero).name,zI<|(b.getD k Fn.zero).params,a7] BO Z (fun an a6=>ah an<|AG.of_ext []<|a0.drew.trans a6) Z Aa<|As 128 [] [] [.agg #[.string<|(a.getD k Fn.zero).name,zI<|(a.getD k Fn.zero).params,a3],.agg #[.string<|(b.getD k Fn.zero).name,zI<|(b.getD k Fn.zero).params,a7]] Z Z Ka Aa (Fk _ da a3 (a.getD k Fn.zero) db a7 (b.getD k Fn.zero) ⟨a4.rng,a4.rn.ext (Ax<|AB da) a0.drew⟩ ⟨a8.rng,a8.rn.ext (Ax<|AB db) a0.drew⟩ (by rw[hab])) ?_
  rintro e6 w6 ⟨rfl,a1⟩
  refine⟨_,rfl,a1,?_⟩
  replace a1:=a1.of_drew
  have ai:=a1.size
  have aj:=a0.trans a1
  refine AZ false Z Z Aa<|Ai<|Ak Z<|A2<|Ab _ [0,0,0] Z<|Ag 1 Z<|AQ ((k+1:Nat):Int) Z Z (Bn oM sD) Aa<|Ac 1 Z ?_
  exact⟨k+1,_,rfl,zR,⟨aj,sD⟩,zD⟩
 exact AA false Z Z (A6 ac) Aa<|Ai<|Ak Z<|A4<|AD<|AD<|Ay<|La Z<|A1<|Af [4] Z (.bool true) Z ⟨CG,a0⟩
theorem BP (w:World)(da:Nat)(va:Value)(a:List Fn)(db:Nat)(vb:Value)(b:List Fn)(ha:RP [] da w.heap va a)(hb:RP [] db w.heap vb b)(hab:b=a) :
  Calls Try.prog 34 #[(.agg #[va]),(.agg #[vb])] w (fun e w'=>e=.returned (.bool true)∧Az w w'):=by
 refine Aw [.agg #[va],.agg #[vb]] 11 Try.func34 Z Z sM ?_
 have a7:Az w w:=Az.refl w
 have ag:=ha.lenle
 unfold maxLen at ag
 have ah:=hb.lenle
 unfold maxLen at ah
 refine L9 [3,3,0] Z (Bf (cs:=#[va]) Z Aa fun w1 a6 ad a1=>?_)
 have a8:=a6.size
 have a9:=a7.trans a6
 replace a1:BX w1.heap w.heap.size [va]:=a1
 have ae:=a1.lt
 refine Bf (cs:=#[vb]) Z Aa fun w2 a2 af a3=>?_
 have aa:=a2.size
 have a4:=a9.trans a2
 have a0:=a1.ext a2
 replace a3:BX w2.heap w1.heap.size [vb]:=a3
 refine Ac 1 Z<|A0<|L9 [0,2,0,2,3,0] Z<|Ao (p:=zP w.heap.size) 0 AO Z Z Aa<|Al (p:=Ar (zP w.heap.size) 0) (.inr Z) va B7 Z (a0.ldp (i:=0) sM) Aa<|Ao (p:=zP w1.heap.size) 0 AO Z Z Aa<|Al (p:=Ar (zP w1.heap.size) 0) (.inr Z) vb B7 Z (a3.ldp (i:=0) sM) Aa<|As 89 [] [] [va,vb] Z Z KV Aa (ES _ da va (a) db vb (b) (ha.ext (Ax<|Aq da) a4) (hb.ext (Ax<|Aq db) a4) hab) ?_
 rintro e4 w4 ⟨rfl,a5⟩
 refine⟨_,rfl,a5,?_⟩
 have ab:=a5.size
 have ac:=a4.trans a5
 exact AZ false Z Z Aa<|Ai<|Ak Z<|A2<|La Z<|A1<|Af [4] Z (.bool true) Z ⟨(by first|exact At Z|(exfalso;omega)|(exfalso;simp_all;done)),ac⟩
end
section
theorem Gk:∀(cs:List Value)(k:Nat)(A:Array Value),k+cs.length≤A.size→((cs.zipIdx k).foldl (fun A p=>A.setIfInBounds (0+p.2) p.1) A).toList=A.toList.take k++cs++A.toList.drop (k+cs.length)
 |[],k,A,_=>by simp
 |c::cs,k,A,h=>by
  rw[z9]at h
  rw[List.zipIdx_cons,List.foldl_cons,Gk cs (k+1) _ (by simp;omega)]
  simp only[Array.toList_setIfInBounds,Nat.zero_add]
  have h1:(A.toList.set k c).take (k+1)=A.toList.take k++[c]:=by
   rw[List.take_succ_eq_append_getElem (by simp;omega),List.take_set,List.set_eq_of_length_le (by simp;omega)]
   simp
  have h2:(A.toList.set k c).drop (k+1+cs.length)=A.toList.drop (k+(c::cs).length):=by
   rw[List.drop_set_of_lt zO,z9,show k+1+cs.length=k+(cs.length+1)from by omega]
  rw[h1,h2,List.append_assoc (A.toList.take k)];simp
theorem I8 {cs:List Value}{A:Array Value}(h:A.size=cs.length):cs.zipIdx.foldl (fun A p=>A.setIfInBounds p.2 p.1) A=cs.toArray:=by
 apply Array.ext'
 have:=Gk cs 0 A zO
 simp only[List.take_zero,zl,Nat.zero_add]at this
 rw[List.drop_of_length_le (by rw[Array.length_toList];omega),List.append_nil]at this
 simpa using this
section run
variable {P:Program} {w:World} {α:Type} {E:B0 α} {s:Nat} {t ty e:TypeId} {b:Nat} {z:Value}
theorem H8 {cs:List Value}(ht:P.underlying t=some (.slice e))(hi:TI P e s z b)(hs:0<s)(hs2:s≤1000)(hz:z.cells.size=s)(hc:cs.length=s) :
  (Instr.buildSlice t 1 #[(0,.agg cs.toArray)]).run P w=.ok (.slice (some ⟨w.heap.size,0,none⟩) 1 1) (w.alloc (.cells cs.toArray e)):=by
 obtain⟨i,h1,h2,h3,h4⟩:=hi.get
 have h0:¬(s=0):=by omega
 have hA:((Array.range s).map (fun x=>z.cells[x % s]!)).size=cs.length:=by simp[hc]
 have hf:=I8 hA
 have hbig:¬(s > 2 ^ 24):=by omega
 simp only[Instr.buildSlice,Sem.run_bind,run_underlying ht,Result.andThen_ok,sizeOf,typeInfo,zeroValue,h1,h2,h3,Nat.one_mul,Instr.fill,hz,Sem.run_pure]
 have hag:(Value.agg cs.toArray).cells=cs.toArray:=rfl
 simp[h0,hbig,hag,hc,newRow,hz,h1,h2,h3,Instr.fill,run_underlying ht,typeInfo]
 rw[hf]
def Ds (E:B0 α)(B U:Nat)(H:Array Obj)(cs:List Value)(x:α):Prop:=∃G,E H cs x G∧G.Nodup∧∀b∈G,B≤b∧b<U
theorem FW (hE:Bj s E){css:List (List Value)}{xs:List α}{F:List Nat}{cur:Array Value}{cap:Nat}(h:Bg E w.heap css xs F)(hl:xs.length≤cap)(hm:cap≤maxLen)(hsz:cur.size=cap*s)(hc:cur.toList.take (xs.length*s)=css.flatten) :
  Be s E e (w.alloc (.cells cur e)).heap (.slice (some ⟨w.heap.size,0,none⟩) xs.length cap) xs (w.heap.size::F):=by
 refine .inr ⟨css,w.heap.size,cap,cur,F,h.stable hE fun b hb=>?_,rfl,?_,hl,hm,hsz,hc,rfl⟩
 ·exact Below.heap_alloc _ _ _<|h.lt hE b hb
 ·show(w.heap.push _)[w.heap.size]? = _
  simp
def G1 {α β:Type}(E:Array Obj→β→α→List Nat→Prop)(S:Nat→Prop)(H:Array Obj)(v:β)(x:α):Prop:=∃F,E H v x F∧F.Nodup∧∀b∈F,S b
theorem G1.chg {α:Type}{E:Bu α}(hE:Ck E){S:Nat→Prop}{w w':World}{v:Value}{x:α}{F:List Nat}(h:G1 E S w.heap v x)(c:AG F w w')(hF:∀b∈F,¬S b):G1 E S w'.heap v x:=by
 obtain⟨G,h1,h2,h3⟩:=h
 exact⟨G,hE.stable h1 fun b hb=>c.block b (hE.lt h1 b hb) fun hm=>hF b hm (h3 b hb),h2,h3⟩
theorem G1.isSlS {α:Type}{E:B0 α}{s:Nat}{e:TypeId}{S:Nat→Prop}{H:Array Obj}{v:Value}{xs:List α}(h:G1 (Be s E e) S H v xs):Go.Proofs.Ytjnbnlniafmblaa.EC v xs.length:=by obtain⟨F,h,_⟩:=h;exact h.isSl
theorem G1.fr {α:Type}{E:Bu α}(hE:Ck E){S:Nat→Prop}{w:World}{v:Value}{x:α}{B:Nat}(h:G1 E S w.heap v x)(hB:∀b,S b→B≤b):Fr E B w.heap.size w.heap v x:=by
 obtain⟨G,h1,h2,h3⟩:=h
 exact⟨G,h1,h2,fun b hb=>⟨hB b (h3 b hb),hE.lt h1 b hb⟩⟩
theorem ET (hE:Bj s E)(ht:P.underlying t=some (.slice e))(hi:TI P e s z b)(hz:z.cells.size=s)(hs:0<s){v:Value}{xs:List α}{S T:Nat→Prop}(hv:G1 (Be s E e) S w.heap v xs)
  {a:Value} {y:α} (ha:G1 (Be s E e) T w.heap a [y]) (hST:∀b,S b→T b→False) (hbytes:(xs.length+1)*b≤140737488355328) (hmx:xs.length+1≤maxLen) :
  ∃v' w' F,(Builtin.append_ #[t,t] ty #[v,a]).run P w=.ok v' w'∧G1 (Be s E e) (fun b=>S b∨T b∨b=w.heap.size) w'.heap v' (xs++[y])∧AG F w w'∧∀c∈F,S c:=by
 obtain⟨F,hv1,hn,hF⟩:=hv
 obtain⟨G,ha1,hnG,hG⟩:=ha
 obtain⟨i,h1,h2,h3,h4⟩:=hi.get
 subst h4
 have hsmall:xs.length+1≤9223372036854775807:=by simp only[maxLen]at hmx;omega
 rcases ha1 with⟨_,h0,_⟩|⟨cas,ga,capa,cura,G',hels,rfl,hga,a1,a2,a3,a4,rfl⟩
 ·cases h0
 ·have hnG':=List.nodup_cons.1 hnG
  have hfl:cas.flatten.length=s:=by have:=hels.flen hE;simpa using this
  simp only[zd,Nat.one_mul]at a4 a1
  have hnews:∀j u,cas.flatten[j]? = some u→w.cell? ((⟨ga,0,none⟩:Addr).add j)=some u:=by
   intro j u hj
   have e1:(⟨ga,0,none⟩:Addr).add j=⟨ga,j,none⟩:=by
    unfold Addr.add
    split
    ·rename_i hh;subst hh;rfl
    ·simp
   rw[e1,BN]
   simp only[Bt,hga]
   rw[← a4,List.getElem?_take]at hj
   split at hj
   ·simpa using hj
   ·cases hj
  have h1c:∀u∈cas.flatten,u.oneCell'=true:=fun u hu=>(hels.one hE u hu).2
  have hl1:cas.flatten.length=1*i.size:=by rw[h3,hfl,Nat.one_mul]
  have made:∀(w1:World) (ous:List (List Value)) (F0:List Nat) (rest:Nat),w1.heap=w.heap→w1.os=w.os→w1.tape=w.tape→w1.output=w.output→Bg E w.heap ous xs F0→(∀c∈F0,c∈F)→F0.Nodup →
    (xs.length+1+rest)≤maxLen →
    G1 (Be s E e) (fun b=>S b∨T b∨b=w.heap.size) (w1.alloc (.cells (ous.flatten.toArray++cas.flatten.toArray++Builtin.zeroCells z.cells rest) e)).heap (.slice (some ⟨w.heap.size,0,none⟩) (xs.length+1) (xs.length+1+rest)) (xs++[y]) ∧
     AG ([]:List Nat) w (w1.alloc (.cells (ous.flatten.toArray++cas.flatten.toArray++Builtin.zeroCells z.cells rest) e)):=by
   intro w1 ous F0 rest hh ho htp hop hou hsub hnd hmax
   have happ:=hou.append hels
   have hofl:=hou.flen hE
   have hzc:(Builtin.zeroCells z.cells rest).size=rest*s:=by simp[Builtin.zeroCells,hz]
   have hsz:(ous.flatten.toArray++cas.flatten.toArray++Builtin.zeroCells z.cells rest).size=(xs.length+1+rest)*s:=by
    rw[Nat.add_mul,Nat.add_mul,Nat.one_mul]
    simp only[Array.size_append,List.size_toArray,hzc,hfl,hofl]
   have hlen:(xs++[y]).length=xs.length+1:=by simp
   have hnew:=FW (e:=e) (w:=w1) hE (css:=ous++cas) (xs:=xs++[y]) (F:=F0++G') (cur:=ous.flatten.toArray++cas.flatten.toArray++Builtin.zeroCells z.cells rest) (cap:=xs.length+1+rest)
    (by rw[hh];exact happ) (by rw[hlen];omega) hmax hsz (by
     rw[hlen,Array.toList_append,Array.toList_append,List.flatten_append]
     have e1:(xs.length+1)*s=(ous.flatten++cas.flatten).length:=by rw[z4,hofl,hfl,Nat.add_mul,Nat.one_mul]
     rw[e1];exact List.take_left)
   rw[hh,hlen]at hnew
   have hnn:(w.heap.size::(F0++G')).Nodup:=by
    rw[List.nodup_cons]
    refine⟨fun hm=>?_,?_⟩
    ·have:=happ.lt hE _ hm;omega
    ·rw[List.nodup_append]
     refine⟨hnd,hnG'.2,?_⟩
     rintro x hx y hy rfl
     exact hST _ (hF x<|hsub x hx)<|hG x<|z3 _ hy
   refine⟨⟨_,hnew,hnn,fun c hc=>?_⟩,ho,htp,hop,?_,fun k hk _=>?_⟩
   ·rcases ze.1 hc with rfl|hc
    ·exact .inr<|.inr rfl
    ·rcases zi.1 hc with hc|hc
     ·exact .inl<|hF c<|hsub c hc
     ·exact .inr<|.inl<|hG c<|z3 _ hc
   ·show w.heap.size≤(w1.heap.push _).size
    rw[hh];simp
   ·have:=Below.heap_alloc w1 (.cells (ous.flatten.toArray++cas.flatten.toArray++Builtin.zeroCells z.cells rest) e) k (by rw[hh];exact hk)
    rw[this,hh]
  rcases hv1 with⟨rfl,rfl,rfl⟩|⟨ous,gv,capv,curv,F0,hels0,rfl,hgv,r1,r2,r3,r4,rfl⟩
  ·have hr:=run_append_nil (P:=P) w t ty e i z ht h1 h2 ⟨ga,0,none⟩ 1 capa cas.flatten hl1 hnews (by decide) (by decide) (by simp at hbytes ⊢;omega)
   have hge:=grownCap_ge w 1 0 e
   have hgm:=grownCap_le_maxLen w 1 0 e (by simpa using hmx)
   obtain⟨q1,q2⟩:=made w.drew [] [] (grownCap w 1 0 e-1) rfl rfl rfl rfl rfl (fun c hc=>by cases hc) zk (by simp;omega)
   refine⟨_,_,[],hr,?_,?_,fun c hc=>by cases hc⟩
   ·have ea:(([]:List α).length+1+(grownCap w 1 0 e-1))=grownCap w 1 0 e:=by simp;omega
    rw[ea]at q1
    simpa using q1
   ·simpa using q2
  ·have hn':=List.nodup_cons.1 hn
   have hofl:=hels0.flen hE
   by_cases hroom:xs.length+1≤capv
   ·have hbnd:xs.length*s+s≤curv.size:=by rw[r3,← Nat.succ_mul];exact Nat.mul_le_mul_right s hroom
    have hr:=run_append_room (P:=P) w t ty e i ht h1 gv xs.length capv curv hgv ⟨ga,0,none⟩ 1 capa cas.flatten hl1 hnews h1c hroom (by rw[h3,hfl];exact hbnd)
    rw[h3]at hr
    have hgF:gv∉F0:=hn'.1
    have hgG:gv∉G':=fun hm=>hST _ (hF gv (z0 ..)) (hG gv (z3 _ hm))
    refine⟨_,_,[gv],hr,⟨gv::(F0++G'),.inr ⟨ous++cas,gv,capv,_,F0++G',?_,by rw[z4,zd],setRow_heap w gv curv _ e _ hgv,by rw[z4,zd];exact hroom,r2,?_,?_,rfl⟩,?_,fun c hc=>?_⟩,⟨rfl,rfl,rfl,by simp,fun k _ hk=>setRow_other w gv k _ fun hh=>hk (by simp[hh])⟩,fun c hc=>by rw[A9 hc];exact hF gv (z0 ..)⟩
    ·refine (hels0.append hels).stable hE fun c hc=>setRow_other w gv c _ fun hcg=>?_
     subst hcg
     rcases zi.1 hc with hc|hc
     ·exact hgF hc
     ·exact hgG hc
    ·rw[← r3]
     simp only[List.size_toArray,z4,List.length_take,List.length_drop,Array.length_toList]
     omega
    ·rw[z4,zd]
     simp only[List.flatten_append]
     rw[r4]
     have e1:(xs.length+1)*s=(ous.flatten++cas.flatten).length:=by rw[z4,hofl,hfl,Nat.add_mul,Nat.one_mul]
     rw[e1];exact List.take_left
    ·rw[List.nodup_cons,List.nodup_append]
     refine⟨fun hm=>?_,hn'.2,hnG'.2,?_⟩
     ·rcases zi.1 hm with hm|hm
      ·exact hgF hm
      ·exact hgG hm
     ·rintro x hx y hy rfl
      exact hST _ (hF x<|z3 _ hx)<|hG x<|z3 _ hy
    ·rcases ze.1 hc with rfl|hc
     ·exact .inl<|hF c (z0 ..)
     ·rcases zi.1 hc with hc|hc
      ·exact .inl<|hF c<|z3 _ hc
      ·exact .inr<|.inl<|hG c<|z3 _ hc
   ·have holds:∀j u,ous.flatten[j]? = some u→w.cell? ((⟨gv,0,none⟩:Addr).add j)=some u:=by
     intro j u hj
     have e1:(⟨gv,0,none⟩:Addr).add j=⟨gv,j,none⟩:=by
      unfold Addr.add
      split
      ·rename_i hh;subst hh;rfl
      ·simp
     rw[e1,BN]
     simp only[Bt,hgv]
     rw[← r4,List.getElem?_take]at hj
     split at hj
     ·simpa using hj
     ·cases hj
    have hr:=run_append_grow (P:=P) w t ty e i z ht h1 h2 ⟨gv,0,none⟩ xs.length capv ous.flatten (by rw[h3,hofl]) holds ⟨ga,0,none⟩ 1 capa cas.flatten hl1 hnews zO zO<|growslice_fits zO hbytes
    have hge:=grownCap_ge w (xs.length+1) capv e
    have hgm:=grownCap_le_maxLen w (xs.length+1) capv e hmx
    obtain⟨q1,q2⟩:=made w.drew ous F0 (grownCap w (xs.length+1) capv e-(xs.length+1)) rfl rfl rfl rfl hels0 (fun c hc=>z3 _ hc) hn'.2 zO
    refine⟨_,_,[],hr,?_,q2,fun c hc=>by cases hc⟩
    have ea:(xs.length+1+(grownCap w (xs.length+1) capv e-(xs.length+1)))=grownCap w (xs.length+1) capv e:=by omega
    rw[ea]at q1
    exact q1
theorem I9 (hE:Bj s E)(ht:P.underlying t=some (.slice e))(hi:TI P e s z b)(hz:z.cells.size=s)(hs:0<s){v:Value}{xs:List α}{B U:Nat}(hv:Fr (Be s E e) B U w.heap v xs)(hB:B≤w.heap.size)
  {a:Value} {y:α} {B' U':Nat} (ha:Fr (Be s E e) B' U' w.heap a [y]) (hU:U≤B') (hBB:B≤B') (hbytes:(xs.length+1)*b≤140737488355328) (hmx:xs.length+1≤maxLen) :
  ∃v' w' F,(Builtin.append_ #[t,t] ty #[v,a]).run P w=.ok v' w'∧Fr (Be s E e) B w'.heap.size w'.heap v' (xs++[y])∧AG F w w'∧∀c∈F,B≤c∧c<U:=by
 obtain⟨v',w',F,r1,⟨G,h1,h2,h3⟩,r3,r4⟩:=ET (P:=P) (ty:=ty) hE ht hi hz hs (S:=fun b=>B≤b∧b<U) (T:=fun b=>B'≤b∧b<U') hv ha (fun b h1 h2=>by omega) hbytes hmx
 exact⟨v',w',F,r1,⟨G,h1,h2,fun b hb=>⟨by have:=h3 b hb;omega,(Ad hE).lt h1 b hb⟩⟩,r3,r4⟩
end run
section ops
variable {P:Program} {ops:Array Oper} {w0:World} {Q:Act→World→Prop} {os:List Oper} {ks:List Nat} {N:Nat} {ρ:Nat→Value} {w:World}
 {d:Nat} {ty:TypeId} {pos:String} {aft:Array Edge} {g:Option (Nat×Bool)} {t e:TypeId} {z:Value} {b s:Nat} {α:Type} {E:B0 α}
theorem Ce (hE:Bj s E){x:Operand}{cs:List Value}{y:α}{B U:Nat}(ht:P.underlying t=some (.slice e))(hi:TI P e s z b)(hz:z.cells.size=s)(hs:0<s∧s≤1000)(hx:Ba N ρ x=.agg cs.toArray)(hy:Ds E B U w.heap cs y)(hB:B≤w.heap.size)
  (hu:Up ops N ρ ⟨some d,.buildSlice t 1 #[(0,x)],ty,pos,aft,g⟩)
  (h:∀v w1,Az w w1→w1.heap.size=w.heap.size+1→Fr (Be s E e) B w1.heap.size w1.heap v [y]→LW P ops w0 Q os ks (mk N (C7 ρ d v)) w1) :
  LW P ops w0 Q (⟨some d,.buildSlice t 1 #[(0,x)],ty,pos,aft,g⟩::os) (3::ks) (mk N ρ) w:=by
 obtain⟨F,h1,h2,h3⟩:=hy
 have hl:=hE.len h1
 have hr:=H8 (P:=P) (w:=w) ht hi hs.1 hs.2 hz hl
 have hrun:(execOp (Ba N ρ) ⟨some d,.buildSlice t 1 #[(0,x)],ty,pos,aft,g⟩).run P w=.ok (.value (.slice (some ⟨w.heap.size,0,none⟩) 1 1)) (w.alloc (.cells cs.toArray e)):=by
  simp only[execOp,zc,zf,zh,Sem.run_bind,hx,hr,Result.andThen_ok,Sem.run_pure]
 refine G5 rfl hu _ _ hrun (Bl _ _)<|h _ _ (Bl _ _) (by simp) ?_
 have hn:=FW (e:=e) (w:=w) hE (css:=[cs]) (xs:=[y]) (F:=F++[]) (cur:=cs.toArray) (cap:=1) ⟨F,[],rfl,h1,rfl⟩ (by simp) (by simp[maxLen]) (by simp[hl]) (by simp[← hl])
 refine⟨_,hn,?_,fun c hc=>?_⟩
 ·rw[List.append_nil,List.nodup_cons]
  exact⟨fun hm=>by have:=hE.lt h1 _ hm;omega,h2⟩
 ·have hlt:=(Ad hE).lt hn c hc
  refine⟨?_,hlt⟩
  rcases ze.1 hc with rfl|hc
  ·exact hB
  ·exact (h3 c (by simpa using hc)).1
theorem Cn (hE:Bj s E){x y:Operand}{v a:Value}{xs:List α}{y0:α}{B U B' U':Nat}(ht:P.underlying t=some (.slice e))(hi:TI P e s z b)(hz:z.cells.size=s)(hs:0<s)(hx:Ba N ρ x=v)(hy:Ba N ρ y=a)(hv:Fr (Be s E e) B U w.heap v xs)(hB:B≤w.heap.size)
  (ha:Fr (Be s E e) B' U' w.heap a [y0]) (hU:U≤B') (hBB:B≤B') (hbytes:(xs.length+1)*b≤140737488355328) (hmx:xs.length+1≤maxLen) (hu:Up ops N ρ ⟨some d,.call ⟨.builtin .append,#[x,y],#[t,t]⟩,ty,pos,aft,g⟩)
  (h:∀v1 w1 F,AG F w w1→(∀c∈F,B≤c∧c<U)→Fr (Be s E e) B w1.heap.size w1.heap v1 (xs++[y0])→LW P ops w0 Q os ks (mk N (C7 ρ d v1)) w1) :
  LW P ops w0 Q (⟨some d,.call ⟨.builtin .append,#[x,y],#[t,t]⟩,ty,pos,aft,g⟩::os) (4::ks) (mk N ρ) w:=by
 obtain⟨v1,w1,F,r1,r2,r3,r4⟩:=I9 (P:=P) (ty:=ty) hE ht hi hz hs hv hB ha hU hBB hbytes hmx
 exact Jo rfl hu v1 w1 (by simp only[execOp,resolve,invoke,builtin,zc,zf,zh,Sem.run_bind,Sem.run_pure,Result.andThen_ok,hx,hy,r1])<|h v1 w1 F r3 r4 r2
theorem JF (hE:Bj s E){x y:Operand}{v a:Value}{xs:List α}{y0:α}{B U B' U':Nat}(ht:P.underlying t=some (.slice e))(hi:TI P e s z b)(hz:z.cells.size=s)(hs:0<s)(hx:Ba N ρ x=v)(hy:Ba N ρ y=a)(hv:Fr (Be s E e) B U w.heap v xs)
  (ha:Fr (Be s E e) B' U' w.heap a [y0]) (hU:U≤B') (hbytes:(xs.length+1)*b≤140737488355328) (hmx:xs.length+1≤maxLen) (hu:Up ops N ρ ⟨some d,.call ⟨.builtin .append,#[x,y],#[t,t]⟩,ty,pos,aft,g⟩)
  (h:∀v1 w1 F,AG F w w1→(∀c∈F,B≤c∧c<U)→G1 (Be s E e) (fun b=>(B≤b∧b<U)∨(B'≤b∧b<U')∨b=w.heap.size) w1.heap v1 (xs++[y0])→LW P ops w0 Q os ks (mk N (C7 ρ d v1)) w1) :
  LW P ops w0 Q (⟨some d,.call ⟨.builtin .append,#[x,y],#[t,t]⟩,ty,pos,aft,g⟩::os) (4::ks) (mk N ρ) w:=by
 obtain⟨v1,w1,F,r1,r2,r3,r4⟩:=ET (P:=P) (ty:=ty) hE ht hi hz hs (S:=fun b=>B≤b∧b<U) (T:=fun b=>B'≤b∧b<U') hv ha (fun b h1 h2=>by omega) hbytes hmx
 exact Jo rfl hu v1 w1 (by simp only[execOp,resolve,invoke,builtin,zc,zf,zh,Sem.run_bind,Sem.run_pure,Result.andThen_ok,hx,hy,r1])<|h v1 w1 F r3 r4 r2
end ops
theorem BT {α:Type}{s:Nat}{E:B0 α}{e:TypeId}(B U:Nat)(H:Array Obj):Fr (Be s E e) B U H (.slice none 0 0) ([]:List α):=⟨[],.inl ⟨rfl,rfl,rfl⟩,zk,fun c hc=>by cases hc⟩
end
section
theorem E4 {a b c k:Int}{l:List Ex}(h1:-9223372036854775808≤a∧a≤9223372036854775807)(h2:-9223372036854775808≤b∧b≤9223372036854775807)(h3:-9223372036854775808≤c∧c≤9223372036854775807)(h4:-9223372036854775808≤k∧k≤9223372036854775807):Iu (.mk a b c k l):=⟨h1,h2,h3,h4⟩
theorem RN.of_frF2 {e e':TypeId}{d B U:Nat}{H:Array Obj}{v:Value}{S:List Nat}{xs:List Fn}(h:Fr (Be 3 (CU e d) e') B U H v xs)(hS:∀b∈S,b<B∨U≤b):RP S d H v xs:=by
 obtain⟨F,h,_,hF⟩:=h
 exact⟨F,(h.rd (Aj e d)).imp fun h=>HJ e h,fun b hb hm=>by have:=hF b hb;have:=hS b hm;omega⟩
theorem Ds.mk1 {e:TypeId}{d B U:Nat}{H:Array Obj}{v:Value}{x:Ex}(hd:1≤d)(hr:Iu x)(h:Fr (Be 5 (BR e (d-1)) e) B U H v x.kids):Ds (BR e d) B U H (Ch x v) x:=by
 obtain⟨d,rfl⟩:∃k,d=k+1:=⟨d-1,zO⟩
 obtain⟨G,h1,h2,h3⟩:=h
 exact⟨G,⟨v,rfl,hr,h1⟩,h2,h3⟩
theorem Ds.mkF {e:TypeId}{d B U:Nat}{H:Array Obj}{v:Value}{x:Fn}(hr:BF x.params)(h:Fr (Be 5 (BR e d) e) B U H v x.outs):Ds (CU e d) B U H (Ci x v) x:=by
 obtain⟨G,h1,h2,h3⟩:=h
 exact⟨G,⟨v,rfl,hr,h1⟩,h2,h3⟩
namespace Jx
variable [J:JR] {P:Program} {ops:Array Oper} {w0:World} {Q:Act→World→Prop}
end Jx
end
section
theorem EU {a:Int}(h:-9223372036854775808≤a∧a≤9223372036854775807):BF a:=h
section str
variable {P:Program} {ops:Array Oper} {w0:World} {Q:Act→World→Prop} {os:List Oper} {ks:List Nat} {N:Nat} {ρ:Nat→Value} {w:World}
 {d:Nat} {ty:TypeId} {pos:String} {aft:Array Edge} {g:Option (Nat×Bool)} {t e:TypeId}
theorem IS {st dt:TypeId}{x:Operand}{v:Value}{n:Int}{B U:Nat}(hs:P.underlying st=some (.slice e))(he:P.underlying e=some (.int .u8))(hd:P.underlying dt=some .string)(hx:Ba N ρ x=v)(hv:Fr (JN rV e) B U w.heap v [.int .u8 n])
  (hu:Up ops N ρ ⟨some d,.convert st dt x,ty,pos,aft,g⟩) (h:LW P ops w0 Q os ks (mk N (C7 ρ d (.string ⟨#[UInt8.ofNat n.toNat]⟩))) w) :
  LW P ops w0 Q (⟨some d,.convert st dt x,ty,pos,aft,g⟩::os) (2::ks) (mk N ρ) w:=by
 obtain⟨F,hv,_,_⟩:=hv
 rcases hv with⟨_,hc,_⟩|⟨us,b,cap,cur,F',hels,rfl,hg,q1,q2,q3,q4,rfl⟩
 ·cases hc
 ·obtain⟨rfl,rfl⟩:=GP hels
  refine BV (by decide) rfl hu _ (fun w' hcl=>?_) h
  have hcl:Az w w':=hcl
  have hcb:w'.heap[b]? = w.heap[b]?:=hcl.heap (getElem?_lt hg)
  have hlc:=run_loadCells_list (P:=P) w' ⟨b,0,none⟩ [.int .u8 n] (fun j u hj=>by
   rw[EF,BN]
   simp only[Bt,hcb,hg]
   have hj0:j=0:=by have:=(List.getElem?_eq_some_iff.1 hj).1;simpa using this
   subst hj0
   have e1:cur.toList[0]? = some (.int .u8 n):=by
    have:(cur.toList.take 1)[0]? = some (.int .u8 n):=by rw[show cur.toList.take 1=[.int .u8 n]from q4];rfl
    rwa [List.getElem?_take,if_pos (by decide)]at this
   have e2:u=.int .u8 n:=by simpa using hj.symm
   rw[e2]
   simpa using e1)
  have hb:=run_bytesToString (P:=P) w' ⟨b,0,none⟩ 1 cap [n] (by simpa using hlc)
  have hr:=run_convert_bytes_string (P:=P) w' st dt e (some ⟨b,0,none⟩) 1 cap hs he hd
  simp only[execOp,hx,zd,Sem.run_bind,hr,hb,Result.andThen_ok,Sem.run_pure]
  rfl
end str
theorem Ia (e:TypeId):∀ {d:Nat}{H:Array Obj}{cs:List Value}{x:Ex}{F:List Nat},BR e d H cs x F→BR e (d+1) H cs x F
 |0,_,_,_,_,h=>h.elim
 |d+1,_,_,_,_,⟨v,h1,h2,h3⟩=>⟨v,h1,h2,h3.imp fun h=>Ia e h⟩
theorem JG (e:TypeId){d:Nat}{H:Array Obj}{cs:List Value}{x:Ex}{F:List Nat}(h:BR e d H cs x F):∀ {d':Nat},d≤d'→BR e d' H cs x F:=by
 intro d' hd
 induction hd with
 |refl=>exact h
 |step _ ih=>exact Ia e ih
theorem Ds.le {e:TypeId}{d d' B U:Nat}{H:Array Obj}{cs:List Value}{x:Ex}(h:Ds (BR e d) B U H cs x)(hd:d≤d'):Ds (BR e d') B U H cs x:=by
 obtain⟨G,h1,h2,h3⟩:=h
 exact⟨G,JG e h1 hd,h2,h3⟩
section res
variable {P:Program} {N:Nat} {ρ:Nat→Value} {w:World}
theorem Ib:∀(l:List Nat),(((l.map ResultVar.tmp).mapM (m:=Sem) fun
  |.tmp t=>pure ((mk N ρ).tmps.getD t undef)
  |.cell a t=>do loadVar t (← asAddr ((mk N ρ).tmps.getD a undef)))).run P w=.ok (l.map fun t=>Ba N ρ (.tmp t)) w:=by
 intro l
 induction l with
 |nil=>rfl
 |cons t l ih =>
  simp only[zf,List.mapM_cons,Sem.run_bind,Sem.run_pure,Result.andThen_ok,Ep]at ih ⊢
  rw[ih]
  rfl
theorem Bk {fn:Func}{R:Ending→World→Prop}{k s b t0:Nat}{ts:List Nat}{ty:TypeId}{cs:List Value}(vs:List Value)(hr:fn.results=(ResultVar.cell k ty::((t0::ts).map ResultVar.tmp)).toArray)(ha:Cb P ty s=true)(hv:Ba N ρ (.tmp k)=.pointer (some ⟨b,0,none⟩))(hb:BX w.heap b cs)(hl:cs.length=s)
  (hvs:((t0::ts).map fun t=>Ba N ρ (.tmp t))=vs) (h:R (.returned (.tuple (.agg cs.toArray::vs).toArray)) w):bodyPost P fn R .ret (mk N ρ) w:=by
 subst hvs
 refine⟨rfl,_,?_,h⟩
 have hld:=DP (P:=P) ha (LD.of_box hb) hl
 have hg:(mk N ρ).tmps.getD k undef=.pointer (some ⟨b,0,none⟩):=by rw[Ep,hv]
 have hi:(asAddr (.pointer (some ⟨b,0,none⟩))).run P w=.ok ⟨b,0,none⟩ w:=rfl
 have key:=Ib (P:=P) (N:=N) (ρ:=ρ) (w:=w) (t0::ts)
 unfold results
 rw[hr]
 simp only[List.mapM_toArray,Sem.run_bind,Sem.run_map]
 have hfull:(((ResultVar.cell k ty::((t0::ts).map ResultVar.tmp)).mapM (m:=Sem) fun
  |.tmp t=>pure ((mk N ρ).tmps.getD t undef)
  |.cell a t=>do loadVar t (← asAddr ((mk N ρ).tmps.getD a undef)))).run P w=.ok (.agg cs.toArray::((t0::ts).map fun t=>Ba N ρ (.tmp t))) w:=by
  rw[List.mapM_cons]
  simp only[Sem.run_bind,Sem.run_pure,hg,hi,hld,Result.andThen_ok]
  rw[key]
  rfl
 refine (congrArg (fun r=>(Result.andThen (Result.andThen r fun a w'=>Result.ok a.toArray w') fun a w'=>Result.ok (if h:a.size=1 then a[0]else Value.tuple a) w')) hfull).trans ?_
 simp only[Result.andThen_ok]
 rfl
end res
end
def Cz (i:Nat):Nat→List Ex
 |0=>[]
 |r+1=>.mk 2 ((i:Nat):Int) 0 0 []::Cz (i+1) r
theorem CA:∀(r i:Nat),(Cz i r).length=r
 |0,_=>rfl
 |r+1,i=>by show(Cz (i+1) r).length+1=_;rw[CA r]
theorem Dn:∀(r i:Nat),Cz i (r+1)=Cz i r++[.mk 2 ((i+r:Nat):Int) 0 0 []]
 |0,i=>rfl
 |r+1,i=>by
  show _::Cz (i+1) (r+1)=_::Cz (i+1) r++_
  rw[Dn r (i+1),show i+1+r=i+(r+1)from by omega];rfl
section
section ops
variable {P:Program} {ops:Array Oper} {w0:World} {Q:Act→World→Prop} {os:List Oper} {ks:List Nat} {N:Nat} {ρ:Nat→Value} {w:World}
 {d:Nat} {ty:TypeId} {pos:String} {aft:Array Edge} {g:Option (Nat×Bool)} {t e:TypeId} {z:Value} {b s:Nat} {α:Type} {E:B0 α}
theorem Ic (hE:Bj s E){x:Operand}{cs:List Value}{y:α}{B U:Nat}(ht:P.underlying t=some (.slice e))(hi:TI P e s z b)(hz:z.cells.size=s)(hs:0<s∧s≤1000)(hx:Ba N ρ x=.agg cs.toArray)(hy:Ds E B U w.heap cs y)
  (hu:Up ops N ρ ⟨some d,.buildSlice t 1 #[(0,x)],ty,pos,aft,g⟩)
  (h:∀v w1,Az w w1→w1.heap.size=w.heap.size+1→G1 (Be s E e) (fun b=>(B≤b∧b<U)∨b=w.heap.size) w1.heap v [y]→LW P ops w0 Q os ks (mk N (C7 ρ d v)) w1) :
  LW P ops w0 Q (⟨some d,.buildSlice t 1 #[(0,x)],ty,pos,aft,g⟩::os) (3::ks) (mk N ρ) w:=by
 obtain⟨F,h1,h2,h3⟩:=hy
 have hl:=hE.len h1
 have hr:=H8 (P:=P) (w:=w) ht hi hs.1 hs.2 hz hl
 have hrun:(execOp (Ba N ρ) ⟨some d,.buildSlice t 1 #[(0,x)],ty,pos,aft,g⟩).run P w=.ok (.value (.slice (some ⟨w.heap.size,0,none⟩) 1 1)) (w.alloc (.cells cs.toArray e)):=by
  simp only[execOp,zc,zf,zh,Sem.run_bind,hx,hr,Result.andThen_ok,Sem.run_pure]
 refine G5 rfl hu _ _ hrun (Bl _ _)<|h _ _ (Bl _ _) (by simp) ?_
 have hn:=FW (e:=e) (w:=w) hE (css:=[cs]) (xs:=[y]) (F:=F++[]) (cur:=cs.toArray) (cap:=1) ⟨F,[],rfl,h1,rfl⟩ (by simp) (by simp[maxLen]) (by simp[hl]) (by simp[← hl])
 refine⟨_,hn,?_,fun c hc=>?_⟩
 ·rw[List.append_nil,List.nodup_cons]
  exact⟨fun hm=>by have:=hE.lt h1 _ hm;omega,h2⟩
 ·rcases ze.1 hc with rfl|hc
  ·exact .inr rfl
  ·exact .inl<|h3 c (by simpa using hc)
theorem Id (hE:Bj s E){x y:Operand}{v a:Value}{xs:List α}{y0:α}{B U:Nat}{T:Nat→Prop}(ht:P.underlying t=some (.slice e))(hi:TI P e s z b)(hz:z.cells.size=s)(hs:0<s)(hx:Ba N ρ x=v)(hy:Ba N ρ y=a)(hv:Fr (Be s E e) B U w.heap v xs)
  (ha:G1 (Be s E e) T w.heap a [y0]) (hT:∀b,(B≤b∧b<U)→T b→False) (hbytes:(xs.length+1)*b≤140737488355328) (hmx:xs.length+1≤maxLen) (hu:Up ops N ρ ⟨some d,.call ⟨.builtin .append,#[x,y],#[t,t]⟩,ty,pos,aft,g⟩)
  (h:∀v1 w1 F,AG F w w1→(∀c∈F,B≤c∧c<U)→G1 (Be s E e) (fun b=>(B≤b∧b<U)∨T b∨b=w.heap.size) w1.heap v1 (xs++[y0])→LW P ops w0 Q os ks (mk N (C7 ρ d v1)) w1) :
  LW P ops w0 Q (⟨some d,.call ⟨.builtin .append,#[x,y],#[t,t]⟩,ty,pos,aft,g⟩::os) (4::ks) (mk N ρ) w:=by
 obtain⟨v1,w1,F,r1,r2,r3,r4⟩:=ET (P:=P) (ty:=ty) hE ht hi hz hs (S:=fun b=>B≤b∧b<U) (T:=T) hv ha hT hbytes hmx
 exact Jo rfl hu v1 w1 (by simp only[execOp,resolve,invoke,builtin,zc,zf,zh,Sem.run_bind,Sem.run_pure,Result.andThen_ok,hx,hy,r1])<|h v1 w1 F r3 r4 r2
end ops
theorem H9:∀(r i:Nat),Ex.sizes (Cz i r)=r
 |0,_=>by show Ex.sizes []=0;rw[Ex.sizes]
 |r+1,i=>by
  show Ex.sizes (_::Cz (i+1) r)=_
  rw[Ex.sizes,H9 r,Ex.size,Ex.sizes];omega
end
theorem IT {S:List Nat}{H:Array Obj}:RN S (Do (Do rI)) H (.slice none 0 0) []:=⟨[],.inl ⟨none,0,rfl,rfl,rfl⟩,fun b hb=>by cases hb⟩
section
def Br (f m cnt:Nat)(i:Nat):Nat→List Ex
 |0=>[]
 |r+1=>.mk 11 ((f:Nat):Int) ((i:Nat):Int) ((cnt:Nat):Int) (Cz 0 m)::Br f m cnt (i+1) r
theorem C5 (f m cnt:Nat):∀(r i:Nat),(Br f m cnt i r).length=r
 |0,_=>rfl
 |r+1,i=>by show(Br f m cnt (i+1) r).length+1=_;rw[C5 f m cnt r]
theorem CS (f m cnt:Nat):∀(r i:Nat),Br f m cnt i (r+1)=Br f m cnt i r++[.mk 11 ((f:Nat):Int) ((i+r:Nat):Int) ((cnt:Nat):Int) (Cz 0 m)]
 |0,i=>rfl
 |r+1,i=>by
  show _::Br f m cnt (i+1) (r+1)=_::Br f m cnt (i+1) r++_
  rw[CS f m cnt r (i+1),show i+1+r=i+(r+1)from by omega];rfl
def Lo (p:List Fn)(f n:Int):Fn:=⟨⟨#[108,111,111,112]⟩,(p.getD f.toNat Fn.zero).params,Br f.toNat (p.getD f.toNat Fn.zero).params.toNat n.toNat 0 (p.getD f.toNat Fn.zero).outs.length⟩
def Fl (p:List Fn)(f n:Int):List Fn:=p++[Lo p f n]
def Fm (p:List Fn)(f n:Int):Int:=if D5 p f []=0 then(if D4 n 0 8=true then 0 else 2)else D5 p f []
def EV (p:List Fn):Bool:=p.any fun g=>BM g.name ⟨#[108,111,111,112]⟩
def CH (p:List Fn)(f n:Int):Int:=if Fm p f n=0 then(if EV p=true then 4 else if Cw (Fl p f n)=true then 0 else 3)else Fm p f n
def EW (p:List Fn)(f n:Int):List Fn:=if CH p f n=0 then Fl p f n else []
section
variable {p:List Fn} {f n:Int}
theorem IU:0≤Fm p f n∧Fm p f n≤2:=by
 have:=GS p f []
 unfold Fm;split <;> (try split) <;> omega
theorem Ie (h:D5 p f []≠0):Fm p f n=D5 p f []:=if_neg h
theorem If (h:D5 p f []=0)(h2:D4 n 0 8=false):Fm p f n=2:=by unfold Fm;rw[if_pos h,h2];rfl
theorem Ig (h:D5 p f []=0)(h2:D4 n 0 8=true):Fm p f n=0:=by unfold Fm;rw[if_pos h,h2];rfl
theorem Ih (h:Fm p f n≠0):CH p f n=Fm p f n:=if_neg h
theorem Cq (h:Fm p f n=0)(h2:EV p=true):CH p f n=4:=by unfold CH;rw[if_pos h,if_pos h2]
theorem BD (h:Fm p f n=0)(h2:EV p=false)(h3:Cw (Fl p f n)=false):CH p f n=3:=by unfold CH;rw[if_pos h,h2,h3];rfl
theorem BL (h:Fm p f n=0)(h2:EV p=false)(h3:Cw (Fl p f n)=true):CH p f n=0:=by unfold CH;rw[if_pos h,h2,h3];rfl
theorem FX:0≤CH p f n∧CH p f n≤4:=by
 have:=IU (p:=p) (f:=f) (n:=n)
 unfold CH;split <;> (try split) <;> (try split) <;> omega
theorem Jf (h:CH p f n≠0):EW p f n=[]:=if_neg h
theorem Ha (h:CH p f n=0):EW p f n=Fl p f n:=if_pos h
theorem Hb (h:D5 p f []=0):Cw p=true∧FQ p f=true:=by
 unfold D5 at h
 split at h
 ·rename_i h3
  split at h
  ·rename_i h4;exact⟨h3,h4⟩
  ·omega
 ·omega
theorem FH (h:Cw p=false):D5 p f []=1:=by unfold D5;rw[h];rfl
theorem CW (h:Cw p=true)(h2:FQ p f=false):D5 p f []=2:=by unfold D5;rw[if_pos h,h2];rfl
theorem Ca (h:Cw p=true)(h2:FQ p f=true):D5 p f []=0:=by unfold D5;rw[if_pos h,if_pos h2];rfl
theorem Hc (h:Fm p f n=0):Cw p=true∧FQ p f=true∧(0≤n∧n≤8):=by
 by_cases h1:D5 p f []=0
 ·cases h2:D4 n 0 8 with
  |true=>exact⟨(Hb h1).1,(Hb h1).2,BC.1 h2⟩
  |false=>rw[If h1 h2]at h;omega
 ·rw[Ie h1]at h;exact absurd h h1
theorem Kp (h:CH p f n=0):Fm p f n=0∧EV p=false∧Cw (Fl p f n)=true:=by
 by_cases h1:Fm p f n=0
 ·cases h2:EV p with
  |true=>rw[Cq h1 h2]at h;omega
  |false =>
   cases h3:Cw (Fl p f n)with
   |true=>exact⟨h1,rfl,rfl⟩
   |false=>rw[BD h1 h2 h3]at h;omega
 ·rw[Ih h1]at h;exact absurd h h1
theorem By (h:D5 p f []≠0):CH p f n=D5 p f []:=by rw[Ih (by rw[Ie h];exact h),Ie h]
theorem Bz (h:D5 p f []=0)(h2:D4 n 0 8=false):CH p f n=2:=by rw[Ih (by rw[If h h2];omega),If h h2]
theorem Gl (f m cnt:Nat):∀(r i:Nat),Ex.sizes (Br f m cnt i r)=r*(1+m)
 |0,_=>by show Ex.sizes []=_;rw[Ex.sizes];simp
 |r+1,i=>by
  show Ex.sizes (_::Br f m cnt (i+1) r)=_
  rw[Ex.sizes,Gl f m cnt r,Ex.size,H9,Nat.succ_mul];omega
theorem G0.lp (hz:G0 p)(hv:Ld p)(hf:0≤f∧f<((p.length:Nat):Int)):G0 (Fl p f n):=by
 intro k hk
 unfold Fl at hk ⊢
 rw[z4,zd]at hk
 by_cases h:k<p.length
 ·rw[KI h];exact hz k h
 ·rw[KJ (by omega)]
  have h1:=hv.par f.toNat zO
  have h2:=hv.outs f.toNat zO
  refine⟨?_,?_,?_⟩
  ·show Ex.sizes (Br _ _ _ _ _)≤_
   rw[Gl]
   have:=Nat.mul_le_mul h2.2 (show 1+(p.getD f.toNat Fn.zero).params.toNat≤13 by omega)
   omega
  ·show(Br _ _ _ _ _).length≤_
   rw[C5];omega
  ·show(⟨#[108,111,111,112]⟩:ByteArray).size≤_
   decide
theorem E5 {k:Nat}(hk:k<p.length)(h:BM (p.getD k Fn.zero).name ⟨#[108,111,111,112]⟩=true):EV p=true:=by
 unfold EV
 rw[List.any_eq_true]
 refine⟨p.getD k Fn.zero,?_,h⟩
 rw[List.getD_eq_getElem?_getD,List.getElem?_eq_getElem hk]
 exact List.getElem_mem hk
theorem JH (h:∀k,k<p.length→BM (p.getD k Fn.zero).name ⟨#[108,111,111,112]⟩=false):EV p=false:=by
 unfold EV
 rw[List.any_eq_false]
 intro g hg
 obtain⟨k,hk,rfl⟩:=List.mem_iff_getElem.1 hg
 have:=h k hk
 rw[List.getD_eq_getElem?_getD,List.getElem?_eq_getElem hk,Option.getD_some]at this
 rw[this];decide
end
end
end Go.Proofs.Ytjnbnlniafmblaa
