/- FwA, FwB, FwC, FwD, FwE, FwF, FwG, FwH, Ma, Mb, Mc, Md, Me, Mj, Ml, Mh, Mo, Mq, FwK, FwM, FwP, FwQ, FwI, FwO, FwR, Na, FwN, FwS, Nb, Lf, Lk, Lm, Nc, Nd, FwT: texts of this claim, joined; what the claim does not come to is left out. -/
import Derived.Test.YtbcopolhaljhhaaGreatProg
import Derived.Still
import Derived.Below
import Derived.WalkKit
import Derived.IntWalk
import Derived.Laws.CopyRow
import Derived.ProofKit
import Derived.Carry
import Derived.Deep.Matrix
set_option linter.unusedVariables false
set_option linter.unusedSimpArgs false
namespace Go.Proofs.YtbcopolhaljhhaaGreat
open Go Go.RowKit
theorem zK{p:Prop}(h:p:=by kernel_rfl):p:=h
theorem zV{p:Prop}(h:p:=by assumption):p:=h
theorem zz{v:Value}{p q:Prop}(h:p)(k:q):∃u,Ending.returned v=.returned u∧p∧q:=⟨_,rfl,h,k⟩

abbrev zI (x:Int):Value:=.int .i64 x
abbrev zP (g:Nat):Value:=.pointer (some ⟨g,0,none⟩)
abbrev zN:Value:=.slice none 0 0
theorem zA{c g B U:Nat}(h:c∈[g])(o:g<B∨U≤g:=by omega):c<B∨U≤c:=by rw[List.mem_singleton.1 h];exact o
theorem zE{c g B:Nat}(h:c∈[g])(o:B≤g:=by omega):B≤c:=by rw[List.mem_singleton.1 h];exact o
theorem zB{a g:Nat}(h:a∈[g])(o:a≠g:=by omega):False:=o (List.mem_singleton.1 h)
theorem zR{p:Prop}(h:p:=by repeat(first|exact trivial|exact rfl|refine ⟨rfl,?_⟩)):p:=h
theorem zD{p:Prop}(h:p:=by first|omega|(dsimp only;omega)):p:=h
theorem zW{a b:Bool}(h:a=b):Value.bool a=Value.bool b:=by rw[h]
theorem zO{p:Prop}(h:p:=by omega):p:=h
theorem zH{p q:Prop}(h:p)(o:p→q:=by intro h;omega):q:=o h
theorem z0:type_of% @List.mem_cons_self:=@List.mem_cons_self
theorem z1:type_of% @List.mem_append_right:=@List.mem_append_right
theorem z2:type_of% @List.not_mem_nil:=@List.not_mem_nil
theorem z3:type_of% @List.mem_cons_of_mem:=@List.mem_cons_of_mem
theorem z4:type_of% @List.length_append:=@List.length_append
theorem z5:type_of% @List.length_replicate:=@List.length_replicate
theorem z6:type_of% @List.length_set:=@List.length_set
theorem z7:type_of% @Bool.and_eq_true:=@Bool.and_eq_true
theorem z8:type_of% @List.mem_append_left:=@List.mem_append_left
theorem z9:type_of% @List.length_cons:=@List.length_cons
theorem za:type_of% @List.take_of_length_le:=@List.take_of_length_le
theorem zb:type_of% @List.length_nil:=@List.length_nil
theorem zc:type_of% @List.map_toArray:=@List.map_toArray
theorem zd:type_of% @List.length_singleton:=@List.length_singleton
theorem ze:type_of% @List.mem_cons:=@List.mem_cons
theorem zf:type_of% @List.map_cons:=@List.map_cons
theorem zg:type_of% @List.length_map:=@List.length_map
theorem zh:type_of% @List.map_nil:=@List.map_nil
theorem zi:type_of% @List.mem_append:=@List.mem_append
theorem zj:type_of% @List.mem_of_mem_take:=@List.mem_of_mem_take
theorem zk:type_of% @List.nodup_nil:=@List.nodup_nil
theorem zl:type_of% @List.nil_append:=@List.nil_append
theorem zm:type_of% @List.all_eq_true:=@List.all_eq_true
abbrev A0:=@wp_seq
abbrev A1:=@wp_ret
abbrev A2:=@wp_skip
abbrev A3:=@wp_block
abbrev A4:=@wp_exit
abbrev A5:=@decide_eq_true
abbrev A6:=@decide_eq_false
abbrev A7:=@Nat.le_refl
abbrev A8:=@Nat.le_trans
theorem A9 {α:Type}{a b:α}(h:a ∈ [b]):a=b:=List.mem_singleton.1 h
theorem R {α:Sort _}{a:α}:a=a:=rfl
section
def AK (w w':World):Prop:=Below w.heap.size w w'
theorem AK.refl (w:World):AK w w:=Below.refl _ _
theorem AK.trans {a b c:World}(h:AK a b)(k:AK b c):AK a c:=Below.trans h (k.mono h.size)
section
variable {P:Program} {ops:Array Oper} {md:Region.Mode}
def YR (P:Program)(r:Result Next)(w:World)(v:Value):Prop :=
 r=.ok (.value v) w∨(r=.ok .skip w∧v=undef)∨∃f args,r=.ok (.enter f args) w∧Calls P f args w (fun e w'=>e=.returned v∧w'=w)
def YA (P:Program)(o:Oper)(a:Act)(w:World)(v:Value):Prop:=YR P ((execOp a.eval o).run P w) w v
def Es (P:Program):Frame:={ fn:=P.funcs.size,tmps:=#[undef],todo:=[.inRegion #[⟨some 0,.move (.tmp 0),0,"",#[],none⟩] [0]],defers:=[],mode:=.returning,kind:=.report }
theorem HC (P:Program) (v:Value) (w:World):∃ o,step P (lone ((Es P).finish v) [] w) = .ended o w:=by
 have hf:P.funcs[P.funcs.size]? = none:=by simp
 refine ⟨.stuck "report: Error or String returned no string" "",step_lone_ended ?_⟩;simp [stepG,unwind,doReturn,Es,Frame.finish]
theorem HD {P:Program}{n k:Nat}{m x y:Machine}{o:Outcome}{w:World}(hx:runN P n m=.next x)(hy:runN P (n+k) m=.next y)(he:step P x=.ended o w):x=y:=by
 rw[runN_add,hx]at hy;cases k with
 |zero=>simp only[runN]at hy;injection hy
 |succ k=>simp only[runN,he]at hy;cases hy
theorem M2 {P:Program}{f:FuncId}{args:Array Value}{w:World}{v u:Value}(h:Calls P f args w (fun e w'=>e=.returned v∧w'=w))(k:Calls P f args w (fun e w'=>e=.returned u∧w'=w)):v=u:=by
 have go:∀ {x:Value},Calls P f args w (fun e w'=>e=.returned x∧w'=w)→Steps P (lone (Frame.enter P f args .normal) [Es P] w) (lone ((Es P).finish x) [] w):=by
  intro x hx;obtain⟨e,w',fr,⟨rfl,rfl⟩,hs,_,hl⟩:=hx [Es P];exact Steps.trans hs<|Steps.one<|step_leave_returned hl
 obtain⟨n,hn⟩:=go h;obtain⟨m,hm⟩:=go k;obtain⟨o1,e1⟩:=HC P v w;obtain⟨o2,e2⟩:=HC P u w;have he:lone ((Es P).finish v) [] w=lone ((Es P).finish u) [] w:=by
  rcases Nat.le_total n m with hle|hle;obtain⟨k,rfl⟩:=Nat.le.dest hle;exact HD hn hm e1;obtain⟨k,rfl⟩:=Nat.le.dest hle;exact (HD hm hn e2).symm
 simpa [lone,Es,Frame.finish]using he
theorem YA.unique {o:Oper}{a:Act}{w:World}{v u:Value}(h:YA P o a w v)(k:YA P o a w u):v=u:=by
 unfold YA at h k;rcases h with h|⟨h,rfl⟩|⟨f,args,h,hc⟩ <;> rcases k with k|⟨k,rfl⟩|⟨f',args',k,kc⟩ <;> rw[h]at k
 injection k with k _;injection k
 injection k with k _;cases k
 injection k with k _;cases k
 injection k with k _;cases k
 injection k with k _;cases k
 injection k with k _;cases k
 injection k with k _;cases k
 injection k with k _
 injection k with k1 k2;subst k1;subst k2;exact M2 hc kc
def NQ (Q:Act→World→Prop):Exit→Act→World→Prop
 |.normal,a,w=>Q a w
 |_,_,_=>False
def Cl (w0 w:World):Nat→World→Prop
 |0,_=>True
 |1,w'=>AK w0 w'
 |_,w'=>AK w w'
def Bk (P:Program)(w0:World)(o:Oper)(k:Nat)(a:Act)(w:World)(K:Act→World→Prop):Prop :=
 if k≤2 then ∃v,(∀w',Cl w0 w k w'→YA P o a w' v)∧K (a.put o.dst v) w
 else if k=3 then o.wp P a w (fun a' w'=>AK w w'∧K a' w') (NQ fun _ _=>False)
 else o.wp P a w K (NQ fun _ _=>False)
def LW (P:Program)(ops:Array Oper)(w0:World)(Q:Act→World→Prop):List Oper→List Nat→Act→World→Prop
 |[],_,a,w=>Q a w
 |_::_,[],_,_=>False
 |o::os,k::ks,a,w =>
  if Region.wanted o (yielded ops a.tmps)=true then Bk P w0 o k a w (LW P ops w0 Q os ks)else LW P ops w0 Q os ks (a.put o.dst undef) w
theorem Bk.mono {w0:World}{o:Oper}{k:Nat}{a:Act}{w:World}{K K':Act→World→Prop}(h:∀a w,K a w→K' a w)
  (hh:Bk P w0 o k a w K):Bk P w0 o k a w K':=by
 unfold Bk at *;split;rename_i hk;rw[if_pos hk]at hh;obtain⟨v,h1,h2⟩:=hh;exact⟨v,h1,h _ _ h2⟩;rename_i hk;rw[if_neg hk]at hh;split;rename_i h3;rw[if_pos h3]at hh;exact Oper.wp_mono (fun a w hx=>⟨hx.1,h _ _ hx.2⟩) hh;rename_i h3;rw[if_neg h3]at hh;exact Oper.wp_mono h hh
theorem JO {o:Oper}{a:Act}{w:World}{K:Act→World→Prop}(h:o.wp P a w K (NQ fun _ _=>False)):∃v w',K (a.put o.dst v) w'∨∃d,K ({ a with defers:=d::a.defers }.put o.dst v) w':=by
 unfold Oper.wp at h;generalize (execOp a.eval o).run P w=r at h;cases r with
 |ok n w' =>
  cases n <;> simp only[Oper.upon]at h;case value v=>exact⟨v,w',.inl h⟩
  case skip=>exact⟨undef,w',.inl h⟩
  case defer d=>exact⟨undef,w',.inr ⟨d,h⟩⟩
  case enter f args =>
   obtain⟨e,w1,fr,hR,_⟩:=h [];cases e with
   |returned v=>exact⟨v,w1,.inl hR⟩
   |panicked c=>exact hR.elim
   |outgrown=>obtain⟨a1,w2,hf⟩:=hR;exact hf.elim
  case row row args =>
   obtain⟨v,w1,hR,_⟩:=h default [];exact⟨v,w1,.inl hR⟩
 |halt x w'=>cases x <;> simp only[Oper.upon]at h;exact h.elim
theorem EV {o:Oper}(hs:∀cs b,o.op≠.select cs b){a:Act}{d:Option Tmp}{v:Value}{w:World}{K:Act→World→Prop}{Q:Act→World→Prop}
  (h1:∀x,d=some x→x∉o.looksAt ops) (h2:∀x,d=some x→o.dst≠some x)
  (h:o.wp P (a.put d v) w K (NQ Q)):o.wp P a w (fun a' w'=>K (a'.put d v) w') (NQ fun _ _=>False):=by
 unfold Oper.wp at *;rw[execOp_put (ops:=ops) o hs a d v h1]at h;generalize (execOp a.eval o).run P w=r at *;have hc:∀u,(a.put d v).put o.dst u=(a.put o.dst u).put d v:=fun u=>Act.put_comm a v u h2;cases r with
 |ok n w' =>
  cases n <;> simp only[Oper.upon]at h ⊢;case value u=>rw[← hc];exact h
  case skip=>rw[← hc];exact h
  case defer dd =>
   rw[Act.put_defers]at h;have:=Act.put_comm ({ a with defers:=dd::a.defers }:Act) v undef h2;rw[← this];exact h
  case enter f args =>
   refine Calls.mono h fun e w'' he=>?_;cases e with
   |returned u=>show K _ _;rw[← hc];exact he
   |panicked c=>exact he
   |outgrown=>obtain⟨_,_,hf⟩:=he;exact hf.elim
  case row row args=>exact Rows.mono h (fun u w'' he=>by show K _ _;rw[← hc];exact he)
 |halt x w'=>cases x <;> simp only[Oper.upon]at h ⊢;exact h
theorem Gf {o:Oper}(hs:∀cs b,o.op≠.select cs b){a:Act}{d:Option Tmp}{v:Value}{w:World}{K:Act→World→Prop}
  (h1:∀x,d=some x→x∉o.looksAt ops) (h2:∀x,d=some x→o.dst≠some x)
  (h:o.wp P a w (fun a' w'=>K (a'.put d v) w') (NQ fun _ _=>False)):o.wp P (a.put d v) w K (NQ fun _ _=>False):=by
 unfold Oper.wp at *;rw[execOp_put (ops:=ops) o hs a d v h1];generalize (execOp a.eval o).run P w=r at *;have hc:∀u,(a.put d v).put o.dst u=(a.put o.dst u).put d v:=fun u=>Act.put_comm a v u h2;cases r with
 |ok n w' =>
  cases n <;> simp only[Oper.upon]at h ⊢;case value u=>rw[hc];exact h
  case skip=>rw[hc];exact h
  case defer dd =>
   rw[Act.put_defers];have:=Act.put_comm ({ a with defers:=dd::a.defers }:Act) v undef h2;rw[this];exact h
  case enter f args =>
   refine Calls.mono h fun e w'' he=>?_;cases e with
   |returned u=>show K _ _;rw[hc];exact he
   |panicked c=>exact he
   |outgrown=>obtain⟨_,_,hf⟩:=he;exact hf.elim
  case row row args=>exact Rows.mono h (fun u w'' he=>by show K _ _;rw[hc];exact he)
 |halt x w'=>cases x <;> simp only[Oper.upon]at h ⊢;exact h
theorem YA.apart {o:Oper}(hs:∀cs b,o.op≠.select cs b){a:Act}{d:Option Tmp}{v u:Value}{w:World}
  (h1:∀x,d=some x→x∉o.looksAt ops):YA P o (a.put d v) w u↔YA P o a w u:=by
 unfold YA;rw[execOp_put (ops:=ops) o hs a d v h1]
variable (P ops) in
def LI (kd:Nat→Nat)(w0:World)(Q:Act→World→Prop):List Nat→Act→World→Prop
 |[],a,w=>Q a w
 |i::l,a,w =>
  match ops[i]? with
  |none=>False
  |some o=>if Region.wanted o (yielded ops a.tmps)=true then Bk P w0 o (kd i) a w (LI kd w0 Q l)else LI kd w0 Q l (a.put o.dst undef) w
def CS (ki kj:Nat):Bool :=
 (ki≤2 && kj≤2) || (ki≤2 && kj == 3) || (ki == 0 && kj == 4) || (ki == 3 && kj≤1) || (ki == 4 && kj == 0)
def VI (ops:Array Oper)(kd:Nat→Nat)(bs:Nat→Nat):Prop :=
 ∀i j oi oj,i<j→ops[i]? = some oi→ops[j]? = some oj→(bs j).testBit i=true∨(oi.apart ops oj=true∧CS (kd i) (kd j)=true)
def MY (md:Region.Mode)(ops:Array Oper)(bs:Nat→Nat):Prop :=
 ∀j oj,ops[j]? = some oj→∀i,(bs j).testBit i=true→∃e∈oj.after,Region.binds md e=true∧(i=e.on∨(bs e.on).testBit i=true)
def NU (kd:Nat→Nat)(w0 w:World)(l:List Nat):Prop:=(∃j∈l,kd j=1)→AK w0 w
def NV (kd:Nat→Nat)(l:List Nat):Prop:=∀l1 i l2,l=l1++i::l2→4≤kd i→∀j∈l2,kd j≠1
theorem NV.erase {kd:Nat→Nat}{l1 l2:List Nat}{i:Nat}(h:NV kd (l1++i::l2)):NV kd (l1++l2):=by
 intro m1 j m2 e hj x hx;by_cases hlt:m1.length<l1.length;have e1:l1=m1++j::(m2.take (l1.length-m1.length-1)):=by
  have:=congrArg (List.take l1.length) e;rw[List.take_left,List.take_append,za (by omega)]at this;rw[this];congr 1;obtain⟨n,hn⟩:∃n,l1.length-m1.length=n+1:=⟨l1.length-m1.length-1,zO⟩;rw[hn];simp
 have e2:l2=m2.drop (l1.length-m1.length-1):=by
  have:=congrArg (List.drop l1.length) e;rw[List.drop_left,List.drop_append]at this;rw[this,List.drop_of_length_le zO,zl];obtain⟨n,hn⟩:∃n,l1.length-m1.length=n+1:=⟨l1.length-m1.length-1,zO⟩;rw[hn];simp
 refine h m1 j (m2.take (l1.length-m1.length-1)++i::l2) (by rw[e1];simp[List.append_assoc]) hj x ?_;have hx':x∈m2.take (l1.length-m1.length-1)++m2.drop (l1.length-m1.length-1):=by rw[List.take_append_drop];exact hx
 rw[← e2]at hx';simp only[zi,ze]at hx' ⊢;rcases hx' with hx'|hx';exact .inl hx';exact .inr<|.inr hx';have e2:l2=m1.drop l1.length++j::m2:=by
  have:=congrArg (List.drop l1.length) e;rw[List.drop_left,List.drop_append_of_le_length (by omega)]at this;exact this
 exact h (l1++i::m1.drop l1.length) j m2 (by rw[e2];simp) hj x hx
def Yv (P:Program)(ops:Array Oper)(w0:World)(k:Nat)(o:Oper)(a:Act)(w:World)(v:Value):Prop :=
 (Region.wanted o (yielded ops a.tmps)=true∧∀w',Cl w0 w k w'→YA P o a w' v)∨(Region.wanted o (yielded ops a.tmps)=false∧v=undef)
theorem Cl.self {w0 w:World}{k:Nat}(h:k=1→AK w0 w):Cl w0 w k w:=by
 match k,h with
 |0,_=>exact trivial
 |1,h=>exact h rfl
 |_+2,_=>exact AK.refl w
theorem Yv.unique {w0 w:World}{k:Nat}{o:Oper}{a:Act}{v u:Value}(hk:k=1→AK w0 w)(h:Yv P ops w0 k o a w v)(h':Yv P ops w0 k o a w u):v=u:=by rcases h with⟨h1,h2⟩|⟨h1,h2⟩ <;> rcases h' with⟨g1,g2⟩|⟨g1,g2⟩;exact (h2 w<|Cl.self hk).unique<|g2 w<|Cl.self hk;rw[h1]at g1;cases g1;rw[h1]at g1;cases g1;rw[h2,g2]
theorem Yv.apart {w0 w:World}{k:Nat}{o:Oper}(hs:∀cs b,o.op≠.select cs b){a:Act}{d:Option Tmp}{u v:Value}
  (h1:∀x,d=some x→x∉o.looksAt ops):Yv P ops w0 k o (a.put d u) w v↔Yv P ops w0 k o a w v:=by
 unfold Yv;rw[wanted_put (ops:=ops) o a d u h1];simp only[YA.apart (ops:=ops) (P:=P) hs h1]
theorem Yv.defers {w0 w:World}{k:Nat}{o:Oper}{a:Act}{l:List Deferred}{v:Value}:Yv P ops w0 k o { a with defers:=l } w v↔Yv P ops w0 k o a w v:=by
 have he:Act.eval { a with defers:=l }=Act.eval a:=funext fun x=>by cases x <;> rfl
 unfold Yv YA;rw[he]
def Jn (a:Act)(d:Option Tmp)(a':Act):Prop:=∃u,a'=a.put d u∨∃x,a'=({ a with defers:=x::a.defers }:Act).put d u
theorem Dw {o:Oper}{a:Act}{w:World}{K:Act→World→Prop}{Q:Exit→Act→World→Prop}(h:o.wp P a w K Q) :
  o.wp P a w (fun a' w'=>K a' w'∧Jn a o.dst a') Q:=by
 unfold Oper.wp at *;generalize (execOp a.eval o).run P w=r at *;cases r with
 |ok n w' =>
  cases n <;> simp only[Oper.upon]at h ⊢;case value u=>exact⟨h,u,.inl rfl⟩
  case skip=>exact⟨h,undef,.inl rfl⟩
  case defer dd=>exact⟨h,undef,.inr ⟨dd,rfl⟩⟩
  case enter f args =>
   refine Calls.mono h fun e w'' he=>?_;cases e with
   |returned u=>exact⟨he,u,.inl rfl⟩
   |panicked c=>exact he
   |outgrown=>exact he
  case row row args=>exact Rows.mono h (fun u w'' he=>⟨he,u,.inl rfl⟩)
 |halt x w'=>cases x <;> simp only[Oper.upon]at h ⊢;exact h
theorem Yv.shape {w0 w:World}{k:Nat}{o:Oper}(hs:∀cs b,o.op≠.select cs b){a a':Act}{d:Option Tmp}{v:Value}
  (h1:∀x,d=some x→x∉o.looksAt ops) (h:Jn a d a'):Yv P ops w0 k o a' w v↔Yv P ops w0 k o a w v:=by
 obtain⟨u,rfl|⟨x,rfl⟩⟩:=h;exact Yv.apart hs h1;rw[Yv.apart hs h1];exact Yv.defers
theorem Dk {o:Oper}{a a':Act}{d:Option Tmp}(h1:∀x,d=some x→x∉o.looksAt ops)(h:Jn a d a') :
  Region.wanted o (yielded ops a'.tmps)=Region.wanted o (yielded ops a.tmps):=by
 obtain⟨u,rfl|⟨x,rfl⟩⟩:=h;exact wanted_put o a d u h1;rw[wanted_put o _ d u h1]
section main
variable {kd bs:Nat→Nat} {w0:World} {Q:Act→World→Prop}
theorem bI {ki kj:Nat}(h:CS ki kj=true)(hk:ki=3):kj≤1:=by simp[CS]at h;omega
theorem bJ {ki kj:Nat}(h:CS ki kj=true)(hk:4≤ki):kj=0:=by simp[CS]at h;omega
theorem Zx {ki kj:Nat}(h:CS ki kj=true)(hk:3≤kj):ki≤2∧(4≤kj→ki=0):=by simp[CS]at h;omega
theorem Ip (hsel:∀(j:Nat)(o:Oper) cs b,ops[j]? = some o→o.op≠.select cs b){j:Nat}{oj:Oper}(hj:ops[j]? = some oj)(hk:kd j≤2) :
  ∀(l1 l2:List Nat) (a:Act) (w:World),(∀i∈l1,∀oi,ops[i]? = some oi→oi.apart ops oj=true∧CS (kd i) (kd j)=true)→(kd j=1→AK w0 w) →
   LI P ops kd w0 Q (l1++j::l2) a w→∃v,Yv P ops w0 (kd j) oj a w v∧LI P ops kd w0 Q (l1++l2) (a.put oj.dst v) w
 |[],l2,a,w,_,_,h=>by
  simp only[zl,LI,hj]at h ⊢
  split at h
  rename_i hw
  unfold Bk at h
  rw[if_pos hk]at h
  obtain⟨v,h1,h2⟩:=h
  exact⟨v,.inl ⟨hw,h1⟩,h2⟩
  rename_i hw
  exact⟨undef,.inr ⟨by simpa using hw,rfl⟩,h⟩
 |i::l1,l2,a,w,hl,hx,h=>by
  have hi:=hl i (z0 ..)
  have hl':∀x∈l1,∀ox,ops[x]? = some ox→ox.apart ops oj=true∧CS (kd x) (kd j)=true:=fun x hx=>hl x (z3 _ hx)
  simp only[List.cons_append,LI]at h ⊢
  cases hoi:ops[i]? with
  |none=>rw[hoi]at h;exact h.elim
  |some oi =>
   rw[hoi]at h
   simp only at h ⊢
   obtain⟨hap,hok⟩:=hi oi hoi
   obtain⟨p1,p2,p3⟩:=Oper.apart_spec hap
   have p2':∀d,oj.dst=some d→oi.dst≠some d:=fun d hd he=>p2 d he hd
   have si:=fun cs b=>hsel i oi cs b hoi
   have sj:=fun cs b=>hsel j oj cs b hj
   by_cases hw:Region.wanted oi (yielded ops a.tmps)=true
   rw[if_pos hw]at h
   unfold Bk at h
   by_cases hki:kd i≤2
   rw[if_pos hki]at h
   obtain⟨vi,hy,h⟩:=h
   obtain⟨v,h1,h2⟩:=Ip hsel hj hk l1 l2 (a.put oi.dst vi) w hl' hx h
   refine⟨v,(Yv.apart sj p1).1 h1,?_⟩
   rw[wanted_put oi a oj.dst v p3,if_pos hw]
   unfold Bk
   rw[if_pos hki]
   refine⟨vi,fun w' hc=>(YA.apart (ops:=ops) si p3).2 (hy w' hc),?_⟩
   rw[Act.put_comm a v vi p2']
   exact h2
   rw[if_neg hki]at h
   have gen:∀(G:World→Prop),(∀w',G w'→kd j=1→AK w0 w')→(kd j=2→False) →
     oi.wp P a w (fun a' w'=>G w'∧LI P ops kd w0 Q (l1++j::l2) a' w') (NQ fun _ _=>False) →
     ∃v,Yv P ops w0 (kd j) oj a w v∧oi.wp P (a.put oj.dst v) w (fun a' w'=>G w'∧LI P ops kd w0 Q (l1++l2) a' w') (NQ fun _ _=>False):=by
    intro G hG hn2 hh;have hcl:∀w1 w2,Cl w0 w1 (kd j) w2→Cl w0 w (kd j) w2:=by
     intro w1 w2 hc;match hkj:kd j,hk,hn2 with
     |0,_,_=>trivial
     |1,_,_=>rw[hkj]at hc;exact hc
     |2,_,hn=>exact(hn rfl).elim
     |_+3,hle,_=>omega
    have hcl':∀w1 w2,Cl w0 w (kd j) w2→Cl w0 w1 (kd j) w2:=by
     intro w1 w2 hc;match hkj:kd j,hk,hn2 with
     |0,_,_=>trivial
     |1,_,_=>rw[hkj]at hc;exact hc
     |2,_,hn=>exact(hn rfl).elim
     |_+3,hle,_=>omega
    have hs:=Dw hh;have step:∀a' w',((G w'∧LI P ops kd w0 Q (l1++j::l2) a' w')∧Jn a oi.dst a') →
      ∃v,Yv P ops w0 (kd j) oj a w v∧LI P ops kd w0 Q (l1++l2) (a'.put oj.dst v) w':=by
     rintro a' w' ⟨⟨hg,hL⟩,hsh⟩;obtain⟨v,h1,h2⟩:=Ip hsel hj hk l1 l2 a' w' hl' (hG w' hg) hL;have h1':=(Yv.shape sj p1 hsh).1 h1;refine⟨v,?_,h2⟩;rcases h1' with⟨q1,q2⟩|⟨q1,q2⟩;exact .inl ⟨q1,fun w2 hc=>q2 w2<|hcl' w' w2 hc⟩;exact .inr ⟨q1,q2⟩
    obtain⟨v,hv⟩:∃v,Yv P ops w0 (kd j) oj a w v:=by
     obtain⟨u,w',hK|⟨d,hK⟩⟩:=JO hs;obtain⟨v,h1,_⟩:=step _ _ hK;exact⟨v,h1⟩;obtain⟨v,h1,_⟩:=step _ _ hK;exact⟨v,h1⟩
    refine⟨v,hv,Gf (ops:=ops) si p3 p2' ?_⟩;refine Oper.wp_mono (fun a' w' hK=>?_) hs;obtain⟨v',h1,h2⟩:=step a' w' hK;have:v'=v:=h1.unique hx hv;subst this;exact⟨hK.1.1,h2⟩
   by_cases h3:kd i=3;rw[if_pos h3]at h;have hj1:=bI hok h3;obtain⟨v,hv,hwp⟩:=gen (fun w'=>AK w w') (fun w' hg h1=>(hx h1).trans hg) (fun h2=>by omega) h;refine⟨v,hv,?_⟩;rw[wanted_put oi a oj.dst v p3,if_pos hw];unfold Bk;rw[if_neg hki,if_pos h3];exact hwp;rw[if_neg h3]at h;have hj0:=bJ hok zO;obtain⟨v,hv,hwp⟩:=gen (fun _=>True) (fun w' _ h1=>by omega) (fun h2=>by omega) (Oper.wp_mono (fun a w hh=>⟨trivial,hh⟩) h);refine⟨v,hv,?_⟩;rw[wanted_put oi a oj.dst v p3,if_pos hw];unfold Bk;rw[if_neg hki,if_neg h3];exact Oper.wp_mono (fun a w hh=>hh.2) hwp;rw[if_neg hw]at h;obtain⟨v,h1,h2⟩:=Ip hsel hj hk l1 l2 (a.put oi.dst undef) w hl' hx h;refine⟨v,(Yv.apart sj p1).1 h1,?_⟩;rw[wanted_put oi a oj.dst v p3,if_neg hw,Act.put_comm a v undef p2'];exact h2
theorem Ka (hsel:∀(j:Nat)(o:Oper) cs b,ops[j]? = some o→o.op≠.select cs b){j:Nat}{oj:Oper}(hj:ops[j]? = some oj)(hk:3≤kd j) :
  ∀(l1 l2:List Nat) (a:Act) (w:World),(∀i∈l1,∀oi,ops[i]? = some oi→oi.apart ops oj=true∧CS (kd i) (kd j)=true)→LI P ops kd w0 Q (l1++j::l2) a w →
   (Region.wanted oj (yielded ops a.tmps)=true→oj.wp P a w (fun a' w'=>(kd j=3→AK w w')∧LI P ops kd w0 Q (l1++l2) a' w') (NQ fun _ _=>False)) ∧
   (Region.wanted oj (yielded ops a.tmps)=false→LI P ops kd w0 Q (l1++l2) (a.put oj.dst undef) w)
 |[],l2,a,w,_,h=>by
  simp only[zl,LI,hj]at h ⊢
  refine⟨fun hw=>?_,fun hw=>?_⟩
  rw[if_pos hw]at h
  unfold Bk at h
  rw[if_neg (by omega)]at h
  split at h
  exact Oper.wp_mono (fun _ _ hh=>⟨fun _=>hh.1,hh.2⟩) h
  rename_i h3;exact Oper.wp_mono (fun _ _ hh=>⟨fun h'=>(h3 h').elim,hh⟩) h
  rw[if_neg (by simp[hw])]at h;exact h
 |i::l1,l2,a,w,hl,h=>by
  have hi:=hl i (z0 ..)
  have hl':∀x∈l1,∀ox,ops[x]? = some ox→ox.apart ops oj=true∧CS (kd x) (kd j)=true:=fun x hx=>hl x (z3 _ hx)
  simp only[List.cons_append,LI]at h ⊢
  cases hoi:ops[i]? with
  |none=>rw[hoi]at h;exact h.elim
  |some oi =>
   rw[hoi]at h
   simp only at h ⊢
   obtain⟨hap,hok⟩:=hi oi hoi
   obtain⟨p1,p2,p3⟩:=Oper.apart_spec hap
   have p2':∀d,oj.dst=some d→oi.dst≠some d:=fun d hd he=>p2 d he hd
   have si:=fun cs b=>hsel i oi cs b hoi
   have sj:=fun cs b=>hsel j oj cs b hj
   obtain⟨hki,hk4⟩:=Zx hok hk
   by_cases hw:Region.wanted oi (yielded ops a.tmps)=true
   rw[if_pos hw]at h
   unfold Bk at h
   rw[if_pos hki]at h
   obtain⟨vi,hy,h⟩:=h
   obtain⟨g1,g2⟩:=Ka hsel hj hk l1 l2 (a.put oi.dst vi) w hl' h
   rw[wanted_put oj a oi.dst vi p1]at g1 g2
   refine⟨fun hwj=>?_,fun hwj=>?_⟩
   have g:=EV (ops:=ops) (Q:=fun _ _=>False) sj p1 p2<|g1 hwj
   refine Oper.wp_mono (fun a' w' hK=>?_)<|Dw g
   obtain⟨⟨hE,hL⟩,hsh⟩:=hK
   refine⟨hE,?_⟩
   rw[Dk p3 hsh,if_pos hw]
   unfold Bk
   rw[if_pos hki]
   refine⟨vi,fun w'' hc=>?_,hL⟩
   have hya:YA P oi a w'' vi:=by
    refine hy w'' ?_;match hki':kd i,hki,hk4 with
    |0,_,_=>trivial
    |1,_,_=>rw[hki']at hc;exact hc
    |2,_,h4=>rw[hki']at hc;exact(hE (by have:¬4≤kd j:=(fun hh=>by have:=h4 hh;omega);omega)).trans hc
    |_+3,hle,_=>omega
   have he:∀b,YA P oi b w'' vi↔YR P ((execOp b.eval oi).run P w'') w'' vi:=fun _=>Iff.rfl;obtain⟨u,rfl|⟨x,rfl⟩⟩:=hsh;exact (YA.apart (ops:=ops) si p3).2 hya;refine (YA.apart (ops:=ops) si p3).2 ?_;have hee:Act.eval { a with defers:=x::a.defers }=Act.eval a:=funext fun y=>by cases y <;> rfl
   rw[he,hee,← he];exact hya;rw[wanted_put oi a oj.dst undef p3,if_pos hw];unfold Bk;rw[if_pos hki];refine⟨vi,fun w' hc=>(YA.apart (ops:=ops) si p3).2 (hy w' hc),?_⟩;rw[Act.put_comm a undef vi p2'];exact g2 hwj;rw[if_neg hw]at h;obtain⟨g1,g2⟩:=Ka hsel hj hk l1 l2 (a.put oi.dst undef) w hl' h;rw[wanted_put oj a oi.dst undef p1]at g1 g2;refine⟨fun hwj=>?_,fun hwj=>?_⟩;have g:=EV (ops:=ops) (Q:=fun _ _=>False) sj p1 p2<|g1 hwj;refine Oper.wp_mono (fun a' w' hK=>?_)<|Dw g;obtain⟨⟨hE,hL⟩,hsh⟩:=hK;refine⟨hE,?_⟩;rw[Dk p3 hsh,if_neg hw];exact hL;rw[wanted_put oi a oj.dst undef p3,if_neg hw,Act.put_comm a undef undef p2'];exact g2 hwj
end main
end
end
section
section
variable {P:Program} {ops:Array Oper} {md:Region.Mode} {kd bs:Nat→Nat} {w0:World} {Q:Act→World→Prop}
theorem Hi {o:Oper}{a:Act}{w:World}{K:Act→World→Prop}{Q':Exit→Act→World→Prop}(h:o.wp P a w K (NQ fun _ _=>False)):o.wp P a w K Q':=by
 unfold Oper.wp at *;generalize (execOp a.eval o).run P w=r at *;cases r with
 |ok n w' =>
  cases n <;> simp only[Oper.upon]at h ⊢ <;> try exact h
  case enter f args =>
   refine Calls.mono h fun e w'' he=>?_;cases e with
   |returned u=>exact he
   |panicked c=>exact he.elim
   |outgrown=>obtain⟨_,_,hf⟩:=he;exact hf.elim
 |halt x w'=>cases x <;> simp only[Oper.upon]at h ⊢;exact h.elim
theorem Iq {o:Oper}{a:Act}{w:World}{v:Value}{K:Act→World→Prop}{Q':Exit→Act→World→Prop}(h:YA P o a w v)(hK:K (a.put o.dst v) w):o.wp P a w K Q':=by
 unfold Oper.wp;unfold YA at h;rcases h with h|⟨h,rfl⟩|⟨f,args,h,hc⟩ <;> rw[h];exact hK;exact hK;exact Calls.mono hc fun e w' he=>by
  obtain⟨rfl,rfl⟩:=he;exact hK
def IZ (bs:Nat→Nat)(listed:Array Bool):Prop:=∀i,listed.getD i false=true→∀j,(bs i).testBit j=true→listed.getD j false=true
theorem EW {l:Array Bool}{i:Nat}(h:l.getD i true=false):l.getD i false=false:=by by_cases hi:i<l.size;simpa [hi]using h;simp[hi]at h
def Kb (md:Region.Mode)(ops:Array Oper)(kd bs:Nat→Nat)(x y:Nat):Prop :=
 (∀ox oy,ops[x]? = some ox→ops[y]? = some oy→(bs y).testBit x=true∨(ox.apart ops oy=true∧CS (kd x) (kd y)=true)) ∧
 (∀ox,ops[x]? = some ox→∀e∈ox.after,Region.binds md e=true→e.on≠y)
section lists
variable {l1 l2:List Nat} {i:Nat} {listed:Array Bool}
theorem HQ (hz:listed.size=ops.size){l:List Nat}(hm:∀x,x∈i::l↔listed.getD x true=false)(hself:∀x ox,ops[x]? = some ox→∀e∈ox.after,Region.binds md e=true→e.on<x)
  (hs:∀y∈l,∀ox,ops[i]? = some ox→∀e∈ox.after,Region.binds md e=true→e.on≠y):i∈Region.ready md ops listed:=by
 have hil:=(hm i).1 (z0 ..);have hlt:i<ops.size:=by
  rw[← hz];rcases Nat.lt_or_ge i listed.size with h'|h';exact h';simp[Array.getElem?_eq_none h']at hil
 refine mem_ready.2 ⟨hil,ops[i],by simp[hlt],fun e he hb=>?_⟩;have hlt':=hself i ops[i] (by simp[hlt]) e he hb;have hnot:e.on∉i::l:=by
  intro hmem;rcases ze.1 hmem with hh|hh;omega;exact hs _ hh ops[i] (by simp[hlt]) e he hb rfl
 have:listed.getD e.on true=true:=by
  cases hb':listed.getD e.on true with
  |true=>rfl
  |false=>exact absurd ((hm e.on).2 hb') hnot
 have hlt2:e.on<listed.size:=by omega
 simpa [hlt2]using this
theorem J0 (hm:∀x,x∈l1++i::l2↔listed.getD x true=false)(hnd:i∉l1++l2)(hsz:i<listed.size):∀x,x∈l1++l2↔(listed.setIfInBounds i true).getD x true=false:=by
 intro x;by_cases hxi:x=i;subst hxi;constructor;exact fun hh=>absurd hh hnd
 intro hh;simp[hsz]at hh;rw[getD_set_ne true (Ne.symm hxi),← hm x];simp only[zi,ze];constructor;exact fun hh=>hh.elim .inl fun y=>.inr<|.inr y
 exact fun hh=>hh.elim .inl fun y=>y.elim (fun z=>absurd z hxi) .inr
theorem HR (hc:IZ bs listed)(hbits:∀j,(bs i).testBit j=true→listed.getD j false=true):IZ bs (listed.setIfInBounds i true):=by intro x hx j hj;by_cases hxi:x=i;subst hxi;exact getD_set_true (hbits j hj);rw[getD_set_ne false (Ne.symm hxi)]at hx;exact getD_set_true (hc x hx j hj)
theorem Fv (hS:MY md ops bs)(hc:IZ bs listed){oi:Oper}(hoi:ops[i]? = some oi)(hall:∀e∈oi.after,Region.binds md e=true→listed.getD e.on false=true):∀j,(bs i).testBit j=true→listed.getD j false=true:=by intro j hj;obtain⟨e,he,hb,hh⟩:=hS i oi hoi j hj;have hl:=hall e he hb;rcases hh with rfl|hh;exact hl;exact hc e.on hl j hh
theorem Jo {oi:Oper}(hoi:ops[i]? = some oi)(hp:∀x∈l1,(∀ox oy,ops[x]? = some ox→ops[i]? = some oy→(bs i).testBit x=true∨(ox.apart ops oy=true∧CS (kd x) (kd i)=true)))
  (hm:∀x∈l1,listed.getD x true=false) (hbits:∀j,(bs i).testBit j=true→listed.getD j false=true):∀x∈l1,∀ox,ops[x]? = some ox→ox.apart ops oi=true∧CS (kd x) (kd i)=true:=by
 intro x hx ox hox;rcases hp x hx ox oi hox hoi with hb|hb;have h1:=hbits x hb;have h2:=EW<|hm x hx;rw[h1]at h2;cases h2;exact hb
theorem C7 (h:listed.getD i true=false):i<listed.size:=by rcases Nat.lt_or_ge i listed.size with h'|h';exact h';simp[Array.getElem?_eq_none h']at h
end lists
theorem FS (hsel:∀(j:Nat)(o:Oper) cs b,ops[j]? = some o→o.op≠.select cs b)(hS:MY md ops bs)
  (hlex:∀j oj,ops[j]? = some oj→∀e∈oj.after,Region.binds md e=true→e.on<j) :
  ∀(n:Nat) (l:List Nat) (listed:Array Bool) (a:Act) (w:World),l.length=n→l.Pairwise (Kb md ops kd bs)→l.Nodup→listed.size=ops.size →
   (∀i,i∈l↔listed.getD i true=false)→IZ bs listed→NV kd l→NU kd w0 w l→LI P ops kd w0 Q l a w→wpAny P md ops (NQ Q) n listed a w
 |0,l,listed,a,w,hn,_,_,_,hm,_,_,_,h=>by
  have hl:l=[]:=List.eq_nil_of_length_eq_zero hn
  subst hl
  refine⟨?_,h⟩
  cases hr:Region.ready md ops listed with
  |nil=>rfl
  |cons x xs =>
   have:=(mem_ready.1 (by rw[hr];exact z0 ..:x∈Region.ready md ops listed)).1
   exact absurd ((hm x).2 this) (by simp)
 |n+1,l,listed,a,w,hn,hs,hd,hz,hm,hc,h14,hi1,h=>by
  refine⟨fun h0=>?_,fun i hi=>?_⟩
  exfalso
  match l,hn with
  |i::l,hn =>
   have hready:=HQ (md:=md) hz hm hlex fun y hy ox hox=>((List.pairwise_cons.1 hs).1 y hy).2 ox hox
   rw[h0]at hready
   cases hready
  obtain⟨hun,oi,hoi,hall⟩:=mem_ready.1 hi
  obtain⟨l1,l2,rfl⟩:=List.append_of_mem ((hm i).2 hun)
  have hbits:=Fv hS hc hoi hall
  have hpi:∀x∈l1,Kb md ops kd bs x i:=fun x hx=>(List.pairwise_append.1 hs).2.2 x hx i (z0 ..)
  have hfree:=Jo (kd:=kd) (l1:=l1) hoi (fun x hx=>(hpi x hx).1) (fun x hx=>(hm x).1 (z8 _ hx)) hbits
  have hsz:=C7 hun
  have hsub0:(l1++l2).Sublist (l1++i::l2):=List.Sublist.append_left (List.sublist_cons_self _ _) _
  have hnd:i∉l1++l2:=by
   have h1:=List.nodup_append.1 hd
   intro hmem;rcases zi.1 hmem with hh|hh;exact h1.2.2 i hh i (z0 ..) rfl;exact (List.nodup_cons.1 h1.2.1).1 hh
  have hn':(l1++l2).length=n:=by simp at hn ⊢;omega
  have rec_:∀a' w',NU kd w0 w' (l1++l2)→LI P ops kd w0 Q (l1++l2) a' w'→wpAny P md ops (NQ Q) n (listed.setIfInBounds i true) a' w':=fun a' w' hi' hL =>
   FS hsel hS hlex n (l1++l2) _ a' w' hn' (hs.sublist hsub0) (hd.sublist hsub0) (by simpa using hz) (J0 hm hnd hsz) (HR hc hbits) (NV.erase h14) hi' hL
  have hsub:NU kd w0 w (l1++l2):=fun⟨j,hj,hk⟩=>hi1 ⟨j,hsub0.subset hj,hk⟩;by_cases hk:kd i≤2;obtain⟨v,hv,hL⟩:=Ip hsel hoi hk l1 l2 a w hfree (fun h1=>hi1 ⟨i,by simp,h1⟩) h;unfold wpOp;rw[hoi];rcases hv with⟨hw,hy⟩|⟨hw,rfl⟩;simp only[hw,if_true];exact .inl<|Iq (hy w (Cl.self fun h1=>hi1 ⟨i,by simp,h1⟩))<|rec_ _ _ hsub hL;simp only[hw,Bool.false_eq_true,if_false];exact rec_ _ _ hsub hL;obtain⟨g1,g2⟩:=Ka hsel hoi zO l1 l2 a w hfree h;unfold wpOp;rw[hoi];by_cases hw:Region.wanted oi (yielded ops a.tmps)=true;simp only[hw,if_true];refine .inl<|Oper.wp_mono (fun a' w' hK=>rec_ a' w' ?_ hK.2)<|Hi<|g1 hw;rintro⟨j,hj,hkj⟩;by_cases h3:kd i=3;exact (hsub ⟨j,hj,hkj⟩).trans<|hK.1 h3;exfalso;rcases zi.1 hj with hh|hh;obtain⟨oj,hoj⟩:∃oj,ops[j]? = some oj:=by
   have:=C7 ((hm j).1 (z8 _ hh));exact⟨ops[j]'(by omega),by simp[show j<ops.size by omega]⟩
  have:=(Zx (hfree j hh oj hoj).2 zO).2 zO;omega;exact h14 l1 i l2 rfl zO j hh hkj;simp only[hw,Bool.false_eq_true,if_false];exact rec_ _ _ hsub<|g2 (by simpa using hw)
def cJ (i j:Nat)(l1 l2:List Nat):Prop:=∃A M C,l1=A++i::(M++j::C)∧l2=A++(M++j::i::C)
theorem GU (ks:List Nat):∀(os:List Oper)(k:Nat)(a:Act)(w:World),(∀j,os[j]? = ops[k+j]?) →
  LW P ops w0 Q os (ks.drop k) a w→LI P ops (fun i=>ks.getD i 0) w0 Q (List.range' k os.length) a w
 |[],_,_,_,_,h=>by simpa [LI,LW]using h
 |o::os,k,a,w,ho,h=>by
  have h0:ops[k]? = some o:=by simpa using (ho 0).symm
  have hr:∀a w,LW P ops w0 Q os (ks.drop (k+1)) a w→LI P ops (fun i=>ks.getD i 0) w0 Q (List.range' (k+1) os.length) a w:=fun a w hh =>
   GU ks os (k+1) a w (fun j=>by have:=ho (j+1);simpa [Nat.add_assoc,Nat.add_comm 1 j]using this) hh
  have hlt:k<ks.length:=by
   rcases Nat.lt_or_ge k ks.length with hh|hh;exact hh;rw[List.drop_of_length_le hh]at h;exact h.elim
  have hd:ks.drop k=ks[k]::ks.drop (k+1):=List.drop_eq_getElem_cons hlt;rw[hd]at h;simp only[z9,List.range'_succ,LI,h0,LW]at h ⊢;have hg:ks.getD k 0=ks[k]:=by simp[hlt]
  split;rename_i hw;rw[if_pos hw]at h;rw[hg];exact h.mono hr;rename_i hw;rw[if_neg hw]at h;exact hr _ _ h
def Zy (ops:Array Oper)(ks:List Nat):Bool :=
  let b:=(Region.before ops).toList
  let os:=ops.toList
  Region.noSelect ops &&
  (os.zipIdx.all fun(o,j) =>
    (o.after.all fun e=>!Region.binds .any e || decide (e.on<j)) &&
    (let m:=o.after.foldl (fun s e=>if Region.binds .any e then s ||| 2 ^ e.on ||| b.getD e.on 0 else s) 0
     (b.getD j 0 == m)) &&
    (os.zipIdx.all fun(p,i)=>!(decide (i<j)) || (b.getD j 0).testBit i || (p.apart ops o && CS (ks.getD i 0) (ks.getD j 0)))) &&
  (os.zipIdx.all fun(_,i)=>!(decide (4≤ks.getD i 0)) || os.zipIdx.all fun(_,j)=>!(decide (i<j)) || ks.getD j 0 != 1)
theorem Gg (f:Edge→Nat):∀(l:List Edge)(s:Nat)(i:Nat),(l.foldl (fun s e=>if Region.binds .any e then s ||| 2 ^ e.on ||| f e else s) s).testBit i=true →
  s.testBit i=true∨∃e∈l,Region.binds .any e=true∧(i=e.on∨(f e).testBit i=true)
 |[],s,i,h=>.inl h
 |e::l,s,i,h=>by
  rcases Gg f l _ i h with h|⟨x,hx,hb⟩
  dsimp only at h
  split at h
  rename_i hb
  simp only[Nat.testBit_or,Bool.or_eq_true]at h
  rcases h with(h|h)|h
  exact .inl h
  refine .inr ⟨e,z0 ..,hb,.inl ?_⟩
  simp[Nat.testBit_two_pow]at h
  exact h.symm
  exact .inr ⟨e,z0 ..,hb,.inr h⟩
  exact .inl h
  exact .inr ⟨x,z3 _ hx,hb⟩
theorem HS {os:List Oper}{Q:Exit→Act→World→Prop}:∀(n:Nat)(listed:Array Bool)(a:Act)(w:World),wpAny P .any os.toArray (NQ fun a w=>Q .normal a w) n listed a w→wpAny P .any os.toArray Q n listed a w:=by
 intro n
 induction n with
 |zero=>exact fun listed a w h=>h
 |succ n ih =>
  intro listed a w h;refine⟨h.1,fun i hi=>?_⟩;have:=wpOp_mono (fun a w=>ih _ a w) (h.2 i hi);unfold wpOp at this ⊢;split;rename_i ho;rw[ho]at this;exact this
  ·rename_i o ho;rw[ho]at this;split
   ·rename_i hw;simp only[hw,if_true]at this;rcases this with this|⟨_,_,_,hf⟩
    ·left;unfold Oper.wp at *;generalize (execOp a.eval o).run P w=r at *;cases r with
     |ok m w' =>
      cases m <;> simp only[Oper.upon]at this ⊢ <;> try exact this
      case enter f args =>
       refine Calls.mono this fun e w'' he=>?_;cases e with
       |returned u=>exact he
       |panicked c=>exact he.elim
       |outgrown=>obtain⟨_,_,hf⟩:=he;exact hf.elim
     |halt x w'=>cases x <;> simp only[Oper.upon]at this ⊢;exact this.elim
    exact hf.elim
   rename_i hw;simp only[hw]at this;exact this
theorem Ir {md:Region.Mode}(hF:VI ops kd bs)(hlex:∀j oj,ops[j]? = some oj→∀e∈oj.after,Region.binds md e=true→e.on<j){l:List Nat}(h:l.Pairwise (· < ·)):l.Pairwise (Kb md ops kd bs) :=
 h.imp fun {x y} hxy=>⟨fun ox oy hox hoy=>hF x y ox oy hxy hox hoy,fun ox hox e he hb=>by have:=hlex x ox hox e he hb;omega⟩
theorem B2 {id:Nat}{Q:Exit→Act→World→Prop}{a:Act}{w:World}(os:List Oper)(ks:List Nat)(hm:P.follows .mixedOrders=true)(hB:Zy os.toArray ks=true)
  (h:LW P os.toArray w.drew (fun a w=>Q .normal a w) os ks a w.drew):(Code.region id os.toArray true).wp P Q a w:=by
 refine wp_region_any hm ?_;simp only[Zy,z7]at hB;obtain⟨⟨hsel,hpl⟩,h14⟩:=hB;have hz:∀ {j:Nat} {o:Oper},os.toArray[j]? = some o→(o,j)∈os.toArray.toList.zipIdx:=by
  intro j o ho;rw[List.mem_zipIdx_iff_getElem?];simpa using ho
 have hall:∀j oj,os.toArray[j]? = some oj→_:=fun j oj hj=>zm.1 hpl _ (hz hj);have hF:VI os.toArray (fun i=>ks.getD i 0) (fun j=>(Region.before os.toArray).toList.getD j 0):=by
  intro i j oi oj hij hi hj;have h3:=(z7 _ _ ▸ hall j oj hj:_∧_).2;have h4:=zm.1 h3 _<|hz hi;simp only[Bool.or_eq_true,Bool.not_eq_true',decide_eq_false_iff_not,z7]at h4;rcases h4 with(h4|h4)|h4;exact absurd hij h4;exact .inl h4;exact .inr h4
 have hlex:∀j oj,os.toArray[j]? = some oj→∀e∈oj.after,Region.binds .any e=true→e.on<j:=by
  intro j oj hj e he hb;have h1:=(z7 _ _ ▸ (z7 _ _ ▸ hall j oj hj:_∧_).1:_∧_).1;have h2:=(Array.all_eq_true_iff_forall_mem.1 h1) e he;simpa [hb]using h2
 have key:=FS (P:=P) (ops:=os.toArray) (md:=.any) (kd:=fun i=>ks.getD i 0) (bs:=fun j=>(Region.before os.toArray).toList.getD j 0) (w0:=w.drew) (Q:=fun a w=>Q .normal a w)
  (Region.noSelect_spec hsel) ?_ ?_ os.length (List.range' 0 os.length) (Array.replicate os.length false) a w.drew (by simp) ?_ List.nodup_range' (by simp) ?_ ?_ ?_ (fun _=>AK.refl _) ?_
 have:=HS _ _ _ _ key;simpa using this
 intro j oj hj i hb;have h3:=(z7 _ _ ▸ (z7 _ _ ▸ hall j oj hj:_∧_).1:_∧_).2;have h5:(Region.before os.toArray).toList.getD j 0=oj.after.foldl (fun s e=>if Region.binds .any e then s ||| 2 ^ e.on ||| (Region.before os.toArray).toList.getD e.on 0 else s) 0:=by simpa using h3
 dsimp only at hb;rw[h5,← Array.foldl_toList]at hb;rcases Gg _ _ _ _ hb with hb|⟨e,he,hbb,hh⟩;simp at hb;exact⟨e,Array.mem_toList_iff.1 he,hbb,hh⟩;exact hlex;exact Ir hF hlex List.pairwise_lt_range'
 intro i;simp only[List.mem_range',Nat.zero_add,Nat.one_mul];constructor;rintro⟨x,hx,rfl⟩;simp[hx]
 intro hh;rcases Nat.lt_or_ge i os.length with h'|h';exact⟨i,h',rfl⟩;simp[Array.getElem?_eq_none (show(Array.replicate os.length false).size≤i by simpa using h')]at hh
 intro i hi;rcases Nat.lt_or_ge i os.length with h'|h';simp[h']at hi;simp[Array.getElem?_eq_none (show(Array.replicate os.length false).size≤i by simpa using h')]at hi
 intro l1 i l2 hl hk j hj;have hs:(l1++i::l2).Pairwise (· < ·):=hl ▸ List.pairwise_lt_range';have hij:i<j:=List.rel_of_pairwise_cons (List.pairwise_append.1 hs).2.1 hj;have mem:∀x∈l1++i::l2,x<os.length:=by
  intro x hx;rw[← hl]at hx;simp only[List.mem_range',Nat.zero_add,Nat.one_mul]at hx;obtain⟨y,hy,rfl⟩:=hx;exact hy
 have hi:=mem i (by simp);have hj':=mem j (by simp[hj]);have h1:=zm.1 h14 _<|hz (j:=i) (o:=os[i]) (by simp[hi]);simp only[Bool.or_eq_true,Bool.not_eq_true',decide_eq_false_iff_not]at h1;rcases h1 with h1|h1;exact absurd hk h1;have h2:=zm.1 h1 _<|hz (j:=j) (o:=os[j]) (by simp[hj']);simp only[Bool.or_eq_true,Bool.not_eq_true',decide_eq_false_iff_not]at h2;rcases h2 with h2|h2;exact absurd hij h2;simpa using h2;exact GU ks os 0 a w.drew (by simp) (by simpa using h)
theorem FT:∀(rest:List Oper)(ks:List Nat)(a:Act)(w:World)(Q:Exit→Act→World→Prop),(∀k∈ks,k≠1)→LW P ops w0 (fun a w=>Q .normal a w) rest ks a w→wpList P ops Q rest a w
 |[],_,_,_,_,_,h=>h
 |_::_,[],_,_,_,_,h=>h.elim
 |o::os,k::ks,a,w,Q,hk,h=>by
  have hk':∀x∈ks,x≠1:=fun x hx=>hk x (z3 _ hx)
  have hk1:=hk k (z0 ..)
  refine wpList_step fun K hK=>?_
  simp only[LW]at h
  split
  rename_i hw
  rw[if_pos hw]at h
  unfold Bk at h
  split at h
  obtain⟨v,h1,h2⟩:=h
  exact Iq (h1 w (Cl.self fun hh=>absurd hh hk1))<|hK _ _<|FT os ks _ _ Q hk' h2
  split at h
  exact Oper.wp_mono (fun a w hh=>hK _ _<|FT os ks _ _ Q hk' hh.2)<|Hi h
  exact Oper.wp_mono (fun a w hh=>hK _ _<|FT os ks _ _ Q hk' hh)<|Hi h
  rename_i hw
  rw[if_neg hw]at h
  exact hK _ _<|FT os ks _ _ Q hk' h
theorem Ab {id:Nat}{Q:Exit→Act→World→Prop}{a:Act}{w:World}(os:List Oper)(ks:List Nat)(hk:ks.all (· != 1)=true)
  (h:LW P os.toArray w (fun a w=>Q .normal a w) os ks a w):(Code.region id os.toArray false).wp P Q a w :=
 wp_region_lit (FT os ks a w Q (fun k hh=>by simpa using zm.1 hk k hh) h)
end
end
section
def Cs (ρ:Nat→Value)(d:Nat)(v:Value):Nat→Value:=fun i=>cond (Nat.beq i d) v (ρ i)
def Zz (l:List Value):Nat→Value:=fun i=>l.getD i undef
def mk (N:Nat) (ρ:Nat→Value):Act:=⟨((List.range N).map ρ).toArray,[]⟩
def Bs (N:Nat) (ρ:Nat→Value):Operand→Value
 |.tmp t=>cond (Nat.blt t N) (ρ t) undef
 |.const v=>v
 |.global g=>.pointer (some ⟨g,0,none⟩)
 |.func f=>.func (.func f) #[] #[]
theorem MZ (ρ:Nat→Value)(d:Nat)(v:Value):Cs ρ d v d=v:=by simp[Cs]
theorem Qv (ρ:Nat→Value){d i:Nat}(v:Value)(h:i≠d):Cs ρ d v i=ρ i:=by
 have:Nat.beq i d=false:=by
  cases hb:Nat.beq i d with
  |false=>rfl
  |true=>exact absurd (Nat.eq_of_beq_eq_true hb) h
 simp[Cs,this]
theorem CT (N:Nat) (ρ:Nat→Value):(mk N ρ).eval=Bs N ρ:=by
 funext x;cases x with
 |tmp t =>
  simp only[Act.eval,Bs,mk];by_cases h:t<N;have:Nat.blt t N=true:=by simpa using h
  simp[h,this];have:Nat.blt t N=false:=by
   cases hb:Nat.blt t N with
   |false=>rfl
   |true=>exact absurd (by simpa using hb) h
  simp[this,Nat.not_lt.1 h]
 |_=>rfl
theorem DS (N:Nat) (ρ:Nat→Value)(d:Nat)(v:Value):(mk N ρ).put (some d) v=mk N (Cs ρ d v):=by
 simp only[Act.put,mk,Act.mk.injEq,and_true];apply Array.ext;simp
 intro i h1 h2;simp at h1;by_cases hi:i=d;subst hi;simp[MZ];simp[Ne.symm hi,Qv _ _ hi]
theorem At {P:Program}{f:FuncId}{fn:Func}{c:Code}{w:World}{R:Ending→World→Prop}(args:List Value)(N:Nat)
  (hf:P.funcs[f]? = some fn) (hb:fn.body=some c) (hN:fn.ntmps=N) (hl:args.length≤N)
  (h:c.wp P (bodyPost P fn R) (mk N (Zz args)) w):Calls P f args.toArray w R:=by
 refine calls_of_wp hf hb ?_;have:(mk N (Zz args)) = { tmps:=args.toArray++Array.replicate (fn.ntmps-args.toArray.size) undef,defers:=[] }:=by
  simp only[mk,Act.mk.injEq,and_true];apply Array.ext;simp;omega
  intro i h1 h2;simp at h1;by_cases hi:i<args.length;simp[Zz,hi];simp[Zz,hi,Array.getElem_append]
 rw[← this];exact h
def XS (N:Nat) (ρ:Nat→Value):List Nat→Value
 |[t]=>Bs N ρ (.tmp t)
 |ts=>.tuple (ts.map fun t=>Bs N ρ (.tmp t)).toArray
theorem JP (N:Nat) (ρ:Nat→Value)(t:Nat):(mk N ρ).tmps.getD t undef=Bs N ρ (.tmp t):=by rw[← CT];rfl
theorem N0 {P:Program}{fn:Func}{N:Nat} {ρ:Nat→Value}{w:World}(ts:List Nat)(hr:fn.results=(ts.map ResultVar.tmp).toArray) :
  (results fn (mk N ρ).tmps).run P w=.ok (XS N ρ ts) w:=by
 have key:∀(l:List Nat),(((l.map ResultVar.tmp).mapM (m:=Sem) fun
  |.tmp t=>pure ((mk N ρ).tmps.getD t undef)
  |.cell a t=>do loadVar t (← asAddr ((mk N ρ).tmps.getD a undef)))).run P w=.ok (l.map fun t=>Bs N ρ (.tmp t)) w:=by
  intro l
  induction l with
  |nil=>rfl
  |cons t l ih =>
   simp only[zf,List.mapM_cons,Sem.run_bind,Sem.run_pure,Result.andThen_ok,JP]at ih ⊢;rw[ih];rfl
 unfold results;rw[hr];simp only[List.mapM_toArray,Sem.run_bind,Sem.run_map];refine (congrArg (fun r=>(Result.andThen (Result.andThen r fun a w'=>Result.ok a.toArray w') fun a w'=>Result.ok (if h:a.size=1 then a[0]else Value.tuple a) w'))<|key ts).trans ?_;simp only[Result.andThen_ok];match ts with
 |[]=>rfl
 |[t]=>rfl
 |_::_::_=>rfl
theorem Ai {P:Program}{fn:Func}{N:Nat} {ρ:Nat→Value}{w:World}{R:Ending→World→Prop}(ts:List Nat)(hr:fn.results=(ts.map ResultVar.tmp).toArray)(v:Value)(hv:XS N ρ ts=v)
  (h:R (.returned v) w):bodyPost P fn R .ret (mk N ρ) w:=⟨rfl,v,by rw[← hv];exact N0 ts hr,h⟩
section code
variable {P:Program} {N:Nat} {ρ:Nat→Value} {Q:Exit→Act→World→Prop} {w:World}
theorem Ae {c:Operand}{x y:Code}(hc:Bs N ρ c=.bool true)(h:x.wp P Q (mk N ρ) w):(Code.cond c x y).wp P Q (mk N ρ) w :=
 wp_cond_true (by rw[CT];exact hc) h
theorem Ag {c:Operand}{x y:Code}(hc:Bs N ρ c=.bool false)(h:y.wp P Q (mk N ρ) w):(Code.cond c x y).wp P Q (mk N ρ) w :=
 wp_cond_false (by rw[CT];exact hc) h
theorem Am {id:Nat}{a:Act}(h:Q .normal a w):Exit.inBlock id Q (.exit id) a w:=by simpa [Exit.inBlock]using h
theorem As {id:Nat}{a:Act}{K:Act→World→Prop}(h:Q (.exit id) a w):Exit.then K Q (.exit id) a w:=h
theorem Ak {a:Act}{K:Act→World→Prop}(h:Q .ret a w):Exit.then K Q .ret a w:=h
theorem AO {id:Nat}{a:Act}(h:Q .ret a w):Exit.inBlock id Q .ret a w:=h
def Qw:List (Nat×Value)→(Nat→Value)→Nat→Value
 |[],ρ=>ρ
 |(i,v)::l,ρ=>Cs (Qw l ρ) i v
def J1 (ρ:Nat→Value):List (Nat×Value)→Prop
 |[]=>True
 |(i,v)::l=>ρ i=v∧J1 ρ l
theorem EX {ρ:Nat→Value}:∀ {l:List (Nat×Value)},J1 ρ l→Qw l ρ=ρ
 |[],_=>rfl
 |(i,v)::l,h=>by
  simp only[Qw,EX h.2]
  funext j
  by_cases hj:j=i
  subst hj;rw[MZ];exact h.1.symm
  rw[Qv _ _ hj]
theorem AV {S:Type}(fr:S→List (Nat×Value))(I:S→World→Prop)(m:S→Nat)(s0:S){body:Code}(hfr:J1 ρ (fr s0))(h0:I s0 w)
  (round:∀s ρ w,I s w→body.wp P (Exit.then (fun a' w'=>∃s' ρ',a'=mk N ρ'∧J1 ρ' (fr s')∧I s' w'∧m s'<m s) Q) (mk N (Qw (fr s) ρ)) w) :
  (Code.loop body).wp P Q (mk N ρ) w:=by
 intro b k cs;have key:∀n s ρ w,m s=n→J1 ρ (fr s)→I s w→∃e a' w',Q e a' w'∧Arrives P (lone (b.at (mk N ρ) (.code body :: .inLoop body::k)) cs w) b k cs e a' w':=by
  intro n
  induction n using Nat.strongRecOn with
  |_ n ih =>
   intro s ρ w hn hfr hI;have hr:=round s ρ w hI;rw[EX hfr]at hr;obtain⟨e,a₁,w₁,hq,harr⟩:=hr b (.inLoop body::k) cs;cases e with
   |normal =>
    obtain⟨s',ρ',rfl,hfr',hI',hlt⟩:=hq;obtain⟨e₂,a₂,w₂,hq₂,harr₂⟩:=ih (m s') (hn ▸ hlt) s' ρ' w₁ rfl hfr' hI';exact⟨e₂,a₂,w₂,hq₂,.of_steps (Steps.trans harr (.one step_inLoop)) harr₂⟩
   |exit id=>exact⟨_,a₁,w₁,hq,.pass (x:=.inLoop body) rfl (fun _ _=>.inl (by simp)) harr⟩
   |goto l=>exact⟨_,a₁,w₁,hq,.pass (x:=.inLoop body) rfl (fun _ _=>.inl (by simp)) harr⟩
   |ret=>exact⟨_,a₁,w₁,hq,.pass (x:=.inLoop body) rfl (fun _ _=>.inl (by simp)) harr⟩
   |panic ch=>exact⟨_,a₁,w₁,hq,.pass (x:=.inLoop body) rfl (fun _ _=>.inl (by simp)) harr⟩
   |outgrown=>exact⟨_,a₁,w₁,hq,.pass (x:=.inLoop body) rfl (fun _ _=>.inl (by simp)) harr⟩
 obtain⟨e,a',w',hq,harr⟩:=key _ s0 ρ w rfl hfr h0;exact⟨e,a',w',hq,.of_steps (.one step_loop) harr⟩
theorem Jp {S:Type}(fr:S→List (Nat×Value))(I:S→World→Prop){c:Code}{K:Act→World→Prop}{Q':Exit→Act→World→Prop}
  (h:c.wp P (Exit.then (fun a' w'=>∃s' ρ',a'=mk N ρ'∧J1 ρ' (fr s')∧I s' w') Q') (mk N ρ) w)
  (hn:∀s ρ w,I s w→K (mk N (Qw (fr s) ρ)) w):c.wp P (Exit.then K Q') (mk N ρ) w:=by
 refine wp_mono h ?_
 intro e a w hh;cases e with
 |normal =>
  obtain⟨s,ρ',rfl,h1,h2⟩:=hh;have:=hn s ρ' w h2;rw[EX h1]at this;exact this
 |_=>exact hh
end code
section ops
variable {P:Program} {ops:Array Oper} {w0:World} {Q:Act→World→Prop} {os:List Oper} {ks:List Nat} {N:Nat} {ρ:Nat→Value} {w:World}
abbrev Up (ops:Array Oper)(N:Nat) (ρ:Nat→Value)(o:Oper):Prop:=Region.wanted o (yielded ops (mk N ρ).tmps)=true
theorem Aa {d:Option Tmp}{op:Op}{ty:TypeId}{pos:String}{aft:Array Edge}:Up ops N ρ ⟨d,op,ty,pos,aft,none⟩:=rfl
theorem NW {j d:Nat}{b:Bool}(hd:(ops[j]?).bind (·.dst)=some d)(hlt:Nat.blt d N=true)(hv:ρ d=.bool b):yielded ops (mk N ρ).tmps j=some b:=by
 have h:d<N:=by simpa using hlt
 unfold yielded;rw[hd];simp[mk,h,hv]
theorem Ah {d:Option Tmp}{op:Op}{ty:TypeId}{pos:String}{aft:Array Edge}{j e:Nat}{b:Bool}(hd:(ops[j]?).bind (·.dst)=some e)(hlt:Nat.blt e N=true)(hv:ρ e=.bool b) :
  Up ops N ρ ⟨d,op,ty,pos,aft,some (j,b)⟩:=by
 unfold Up Region.wanted;simp[NW hd hlt hv]
theorem Cv {o:Oper}{k d:Nat}(hk:k≤2)(hd:o.dst=some d)(hu:Up ops N ρ o)(v:Value)(hr:∀w',Cl w0 w k w'→(execOp (Bs N ρ) o).run P w'=.ok (.value v) w')
  (h:LW P ops w0 Q os ks (mk N (Cs ρ d v)) w):LW P ops w0 Q (o::os) (k::ks) (mk N ρ) w:=by
 simp only[LW];rw[if_pos hu];unfold Bk;rw[if_pos hk];refine⟨v,fun w' hc=>.inl ?_,?_⟩;rw[CT];exact hr w' hc;rw[hd,DS];exact h
theorem J2 {o:Oper}{d:Nat}(hd:o.dst=some d)(hu:Up ops N ρ o)
  (v:Value) (w1:World) (hr:(execOp (Bs N ρ) o).run P w=.ok (.value v) w1) (hE:AK w w1) (h:LW P ops w0 Q os ks (mk N (Cs ρ d v)) w1):LW P ops w0 Q (o::os) (3::ks) (mk N ρ) w:=by
 simp only[LW];rw[if_pos hu];unfold Bk;rw[if_neg (by decide),if_pos rfl];unfold Oper.wp;rw[CT,hr];show AK w w1∧LW P ops w0 Q os ks ((mk N ρ).put o.dst v) w1;rw[hd,DS];exact⟨hE,h⟩
theorem M3 {o:Oper}{d:Nat}(hd:o.dst=some d)(hu:Up ops N ρ o)
  (v:Value) (w1:World) (hr:(execOp (Bs N ρ) o).run P w=.ok (.value v) w1) (h:LW P ops w0 Q os ks (mk N (Cs ρ d v)) w1):LW P ops w0 Q (o::os) (4::ks) (mk N ρ) w:=by
 simp only[LW];rw[if_pos hu];unfold Bk;rw[if_neg (by decide),if_neg (by decide)];unfold Oper.wp;rw[CT,hr];show LW P ops w0 Q os ks ((mk N ρ).put o.dst v) w1;rw[hd,DS];exact h
theorem VJ {o:Oper}(hd:o.dst=none)(hu:Up ops N ρ o)
  (w1:World) (hr:(execOp (Bs N ρ) o).run P w=.ok .skip w1) (h:LW P ops w0 Q os ks (mk N ρ) w1):LW P ops w0 Q (o::os) (4::ks) (mk N ρ) w:=by
 simp only[LW];rw[if_pos hu];unfold Bk;rw[if_neg (by decide),if_neg (by decide)];unfold Oper.wp;rw[CT,hr];show LW P ops w0 Q os ks ((mk N ρ).put o.dst undef) w1;rw[hd];exact h
theorem AB {d:Nat} {x:Operand} {xs:Array Operand} {ats:Array TypeId} {ty:TypeId} {pos:String} {aft:Array Edge} {g:Option (Nat × Bool)} (f:FuncId) (first cap:List Value) (args:List Value)
  (hx:Bs N ρ x = .func (.func f) first.toArray cap.toArray) (hxs:first++(xs.toList.map (Bs N ρ))++cap = args) (hf:((P.funcs[f]?).map fun fn=>(fn.name != "runtime.NumGoroutine") && fn.body.isSome) = some true)
  (hu:Up ops N ρ ⟨some d,.call ⟨.value x,xs,ats⟩,ty,pos,aft,g⟩) {R:Ending→World→Prop} (hc:Calls P f args.toArray w R)
  (h:∀ e w1,R e w1→∃ v,e = .returned v∧AK w w1∧LW P ops w0 Q os ks (mk N (Cs ρ d v)) w1) :
  LW P ops w0 Q (⟨some d,.call ⟨.value x,xs,ats⟩,ty,pos,aft,g⟩ :: os) (3 :: ks) (mk N ρ) w:=by
 simp only [LW];rw [if_pos hu];unfold Bk;rw [if_neg (by decide),if_pos rfl];unfold Oper.wp;rw [CT];have hrun:(execOp (Bs N ρ) ⟨some d,.call ⟨.value x,xs,ats⟩,ty,pos,aft,g⟩).run P w = .ok (.enter f args.toArray) w:=by
  obtain ⟨fn,hfn,hb⟩:=Option.map_eq_some_iff.1 hf;simp only [z7,bne_iff_ne,ne_eq] at hb;have hargs:first.toArray++xs.map (Bs N ρ)++cap.toArray = args.toArray:=by
   rw [← hxs]; apply Array.ext'; simp
  obtain ⟨c,hbc⟩:=Option.isSome_iff_exists.1 hb.2;have hcf:(callFunc f args.toArray).run P w = .ok (.enter f args.toArray) w:=by
   simp [callFunc,hfn,hb.1,hbc]
  simp [execOp,resolve,hargs,hx,Deferred.ofValue,invoke,hcf]
 rw [hrun];refine Calls.mono hc (fun e w1 he=>?_);obtain ⟨v,rfl,hE,hL⟩:=h e w1 he;show AK w w1∧LW P ops w0 Q os ks ((mk N ρ).put (some d) v) w1;rw [DS];exact ⟨hE,hL⟩
theorem AJ {d:Nat} {x:Operand} {xs:Array Operand} {ats:Array TypeId} {ty:TypeId} {pos:String} {aft:Array Edge} {g:Option (Nat × Bool)} (f:FuncId) (first cap:List Value) (args:List Value)
  (hx:Bs N ρ x = .func (.func f) first.toArray cap.toArray) (hxs:first++(xs.toList.map (Bs N ρ))++cap = args) (hf:((P.funcs[f]?).map fun fn=>(fn.name != "runtime.NumGoroutine") && fn.body.isSome) = some true)
  (hu:Up ops N ρ ⟨some d,.call ⟨.value x,xs,ats⟩,ty,pos,aft,g⟩) (v:Value) (hc:∀ w',Calls P f args.toArray w' (fun e w''=>e = .returned v∧w'' = w'))
  (h:LW P ops w0 Q os ks (mk N (Cs ρ d v)) w) :
  LW P ops w0 Q (⟨some d,.call ⟨.value x,xs,ats⟩,ty,pos,aft,g⟩ :: os) (0 :: ks) (mk N ρ) w:=by
 simp only [LW];rw [if_pos hu];unfold Bk;rw [if_pos (by decide)];have hrun:∀ w,(execOp (Bs N ρ) ⟨some d,.call ⟨.value x,xs,ats⟩,ty,pos,aft,g⟩).run P w = .ok (.enter f args.toArray) w:=by
  intro w;obtain ⟨fn,hfn,hb⟩:=Option.map_eq_some_iff.1 hf;simp only [z7,bne_iff_ne,ne_eq] at hb;have hargs:first.toArray++xs.map (Bs N ρ)++cap.toArray = args.toArray:=by
   rw [← hxs]; apply Array.ext'; simp
  obtain ⟨c,hbc⟩:=Option.isSome_iff_exists.1 hb.2;have hcf:(callFunc f args.toArray).run P w = .ok (.enter f args.toArray) w:=by
   simp [callFunc,hfn,hb.1,hbc]
  simp [execOp,resolve,hargs,hx,Deferred.ofValue,invoke,hcf]
 refine ⟨v,fun w' _=>.inr (.inr ⟨f,args.toArray,?_,hc w'⟩),?_⟩;rw [CT]; exact hrun w';show LW P ops w0 Q os ks ((mk N ρ).put (some d) v) w;rw [DS]; exact h
end ops
def it {σ:Type}(f:Nat→σ→σ):Nat→σ→σ
 |0,s=>s
 |k+1,s=>f k (it f k s)
def wr (x:Int):Int:=IntKind.i64.wrap x
theorem NX (x:Int):-9223372036854775808≤wr x∧wr x≤9223372036854775807:=by unfold wr;rw[IntKind.wrap_i64];omega
end
section
theorem Eh {x:Int}(h:-9223372036854775808≤x)(h':x≤9223372036854775807):IntKind.i64.wrap x=x:=IntWalk.i64_in x ⟨h,h'⟩
theorem Ba {x:Int}{n:Nat}(h:x=(n:Int))(h':x≤9223372036854775807):IntKind.i64.wrap x=(n:Int):=by rw[Eh zO h',h]
def TI (P:Program)(e:TypeId)(s:Nat)(z:Value)(b:Nat):Prop:=(P.info? e).map (fun i=>(i.zero,i.size,i.bytes))=some (some z,s,b)
theorem TI.get {P:Program}{e:TypeId}{s:Nat}{z:Value}{b:Nat}(h:TI P e s z b):∃i,P.info? e=some i∧i.zero=some z∧i.size=s∧i.bytes=b:=by obtain⟨i,hi,hh⟩:=Option.map_eq_some_iff.1 h;simp only[Prod.mk.injEq]at hh;exact⟨i,hi,hh⟩
def Ea (v:Value)(n:Nat):Prop:=∃a c,v=.slice a n c∧(a=none→n=0)
def AD (v:Value)(i s:Nat):Value :=
 match v with
 |.slice (some a) _ _=>.pointer (some (a.add (i*s)))
 |_=>undef
def C8 (H:Array Obj)(g o:Nat):Option Value :=
 match H[g]? with
 |some (.cells c _ _)=>c[o]?
 |_=>none
theorem BF (w:World)(g o:Nat):w.cell? ⟨g,o,none⟩=C8 w.heap g o:=by
 unfold World.cell? C8;cases w.heap[g]? with
 |none=>rfl
 |some o=>cases o <;> rfl
def JQ (H:Array Obj)(p:Value):Option Value :=
 match p with
 |.pointer (some ⟨g,o,none⟩)=>C8 H g o
 |_=>none
theorem AK.heap {w w':World}(h:AK w w'){k:Nat}(hk:k<w.heap.size):w'.heap[k]? = w.heap[k]?:=Below.block h k hk
theorem Qx {H:Array Obj}{g o:Nat}{v:Value}(h:C8 H g o=some v):g<H.size:=by unfold C8 at h;rcases Nat.lt_or_ge g H.size with hh|hh;exact hh;simp[Array.getElem?_eq_none hh]at h
theorem PZ {w w':World}(h:AK w w'){g o:Nat}{v:Value}(hc:C8 w.heap g o=some v):C8 w'.heap g o=some v:=by have:=h.heap (Qx hc);unfold C8 at *;rw[this];exact hc
theorem Bf {w w':World}(h:AK w w'){p v:Value}(hc:JQ w.heap p=some v):JQ w'.heap p=some v:=by unfold JQ at *;split at hc;exact PZ h hc;cases hc
def Ce (P:Program)(t:TypeId):Prop:=((P.underlying t).map fun d=>match d with|.struct _=>false|.array _ _=>false|_=>true)=some true
theorem Lx {P:Program}{t:TypeId}(ht:Ce P t){p v:Value}{w:World}(h:JQ w.heap p=some v):(Instr.loadAt t p).run P w=.ok v w:=by
 unfold JQ at h;split at h;rename_i g o;rw[← BF]at h;obtain⟨d,hd,hh⟩:=Option.map_eq_some_iff.1 ht;have hag:(isAgg t).run P w=.ok false w:=by
  unfold isAgg;simp only[Sem.run_bind,run_underlying hd,Result.andThen_ok];cases d <;> first|rfl|simp at hh
 simp[Instr.loadAt,Instr.sureAddr,loadVar,hag,h];cases h
section ops
variable {P:Program} {ops:Array Oper} {w0:World} {Q:Act→World→Prop} {os:List Oper} {ks:List Nat} {N:Nat} {ρ:Nat→Value} {w:World}
 {d:Nat} {ty:TypeId} {pos:String} {aft:Array Edge} {g:Option (Nat×Bool)}
theorem VK {x:Operand}(v:Value)(hx:Bs N ρ x=v)(hu:Up ops N ρ ⟨some d,.move x,ty,pos,aft,g⟩)(h:LW P ops w0 Q os ks (mk N (Cs ρ d v)) w) :
  LW P ops w0 Q (⟨some d,.move x,ty,pos,aft,g⟩::os) (0::ks) (mk N ρ) w :=
 Cv (by decide) rfl hu v (fun w' _=>by simp[execOp,hx]) h
theorem Qy {x:Operand}(v:Value)(hx:Bs N ρ x=v)(hu:Up ops N ρ ⟨some d,.assign x,ty,pos,aft,g⟩)(h:LW P ops w0 Q os ks (mk N (Cs ρ d v)) w) :
  LW P ops w0 Q (⟨some d,.assign x,ty,pos,aft,g⟩::os) (0::ks) (mk N ρ) w :=
 Cv (by decide) rfl hu v (fun w' _=>by simp[execOp,hx]) h
section Fs
variable {xt yt:TypeId} {x y:Operand} {k:IntKind} {a b:Int}
theorem DT {op:BinOp}{w:World}:(eqGuard op xt x y (.int k a) (.int k b)).run P w=.ok () w:=by unfold eqGuard;cases op <;> rfl
theorem AP (c:Int)(hx:Bs N ρ x=.int k a)(hy:Bs N ρ y=.int k b)(hc:k.wrap (a+b)=c)(hu:Up ops N ρ ⟨some d,.binOp .add xt x y yt,ty,pos,aft,g⟩)
  (h:LW P ops w0 Q os ks (mk N (Cs ρ d (.int k c))) w):LW P ops w0 Q (⟨some d,.binOp .add xt x y yt,ty,pos,aft,g⟩::os) (0::ks) (mk N ρ) w :=
 Cv (by decide) rfl hu _ (fun w' _=>by simp[execOp,hx,hy,DT,binOp,Op.intArith,hc]) h
theorem Cj (c:Int)(hx:Bs N ρ x=.int k a)(hy:Bs N ρ y=.int k b)(hc:k.wrap (a-b)=c)(hu:Up ops N ρ ⟨some d,.binOp .sub xt x y yt,ty,pos,aft,g⟩)
  (h:LW P ops w0 Q os ks (mk N (Cs ρ d (.int k c))) w):LW P ops w0 Q (⟨some d,.binOp .sub xt x y yt,ty,pos,aft,g⟩::os) (0::ks) (mk N ρ) w :=
 Cv (by decide) rfl hu _ (fun w' _=>by simp[execOp,hx,hy,DT,binOp,Op.intArith,hc]) h
theorem DU (c:Int)(hx:Bs N ρ x=.int k a)(hy:Bs N ρ y=.int k b)(hc:k.wrap (a*b)=c)(hu:Up ops N ρ ⟨some d,.binOp .mul xt x y yt,ty,pos,aft,g⟩)
  (h:LW P ops w0 Q os ks (mk N (Cs ρ d (.int k c))) w):LW P ops w0 Q (⟨some d,.binOp .mul xt x y yt,ty,pos,aft,g⟩::os) (0::ks) (mk N ρ) w :=
 Cv (by decide) rfl hu _ (fun w' _=>by simp[execOp,hx,hy,DT,binOp,Op.intArith,hc]) h
theorem Dr (c:Int)(hx:Bs N ρ x=.int k a)(hy:Bs N ρ y=.int k b)(hb:b≠0)(hc:a.tmod b=c)(hu:Up ops N ρ ⟨some d,.binOp .rem xt x y yt,ty,pos,aft,g⟩)
  (h:LW P ops w0 Q os ks (mk N (Cs ρ d (.int k c))) w):LW P ops w0 Q (⟨some d,.binOp .rem xt x y yt,ty,pos,aft,g⟩::os) (0::ks) (mk N ρ) w :=
 Cv (by decide) rfl hu _ (fun w' _=>by simp[execOp,hx,hy,DT,binOp,Op.intDiv,hb,hc]) h
theorem OL (c:Int)(hx:Bs N ρ x=.int k a)(hy:Bs N ρ y=.int k b)(hb:b≠0)(hc:k.wrap (a.tdiv b)=c)(hu:Up ops N ρ ⟨some d,.binOp .quo xt x y yt,ty,pos,aft,g⟩)
  (h:LW P ops w0 Q os ks (mk N (Cs ρ d (.int k c))) w):LW P ops w0 Q (⟨some d,.binOp .quo xt x y yt,ty,pos,aft,g⟩::os) (0::ks) (mk N ρ) w :=
 Cv (by decide) rfl hu _ (fun w' _=>by simp[execOp,hx,hy,DT,binOp,Op.intDiv,hb,hc]) h
theorem AE (c:Bool)(hx:Bs N ρ x=.int k a)(hy:Bs N ρ y=.int k b)(hc:decide (a<b)=c)(hu:Up ops N ρ ⟨some d,.binOp .lss xt x y yt,ty,pos,aft,g⟩)
  (h:LW P ops w0 Q os ks (mk N (Cs ρ d (.bool c))) w):LW P ops w0 Q (⟨some d,.binOp .lss xt x y yt,ty,pos,aft,g⟩::os) (0::ks) (mk N ρ) w :=
 Cv (by decide) rfl hu _ (fun w' _=>by simp[execOp,hx,hy,DT,binOp,Op.intCmp,← hc]) h
theorem Dd (c:Bool)(hx:Bs N ρ x=.int k a)(hy:Bs N ρ y=.int k b)(hc:decide (a≤b)=c)(hu:Up ops N ρ ⟨some d,.binOp .leq xt x y yt,ty,pos,aft,g⟩)
  (h:LW P ops w0 Q os ks (mk N (Cs ρ d (.bool c))) w):LW P ops w0 Q (⟨some d,.binOp .leq xt x y yt,ty,pos,aft,g⟩::os) (0::ks) (mk N ρ) w :=
 Cv (by decide) rfl hu _ (fun w' _=>by simp[execOp,hx,hy,DT,binOp,Op.intCmp,← hc]) h
theorem BG (c:Bool)(hx:Bs N ρ x=.int k a)(hy:Bs N ρ y=.int k b)(hc:decide (b<a)=c)(hu:Up ops N ρ ⟨some d,.binOp .gtr xt x y yt,ty,pos,aft,g⟩)
  (h:LW P ops w0 Q os ks (mk N (Cs ρ d (.bool c))) w):LW P ops w0 Q (⟨some d,.binOp .gtr xt x y yt,ty,pos,aft,g⟩::os) (0::ks) (mk N ρ) w :=
 Cv (by decide) rfl hu _ (fun w' _=>by simp[execOp,hx,hy,DT,binOp,Op.intCmp,← hc]) h
theorem Fl (c:Bool)(hx:Bs N ρ x=.int k a)(hy:Bs N ρ y=.int k b)(hc:decide (b≤a)=c)(hu:Up ops N ρ ⟨some d,.binOp .geq xt x y yt,ty,pos,aft,g⟩)
  (h:LW P ops w0 Q os ks (mk N (Cs ρ d (.bool c))) w):LW P ops w0 Q (⟨some d,.binOp .geq xt x y yt,ty,pos,aft,g⟩::os) (0::ks) (mk N ρ) w :=
 Cv (by decide) rfl hu _ (fun w' _=>by simp[execOp,hx,hy,DT,binOp,Op.intCmp,← hc]) h
theorem Ap (c:Bool)(hx:Bs N ρ x=.int k a)(hy:Bs N ρ y=.int k b)(hc:decide (a=b)=c)(hu:Up ops N ρ ⟨some d,.binOp .eql xt x y yt,ty,pos,aft,g⟩)
  (h:LW P ops w0 Q os ks (mk N (Cs ρ d (.bool c))) w):LW P ops w0 Q (⟨some d,.binOp .eql xt x y yt,ty,pos,aft,g⟩::os) (0::ks) (mk N ρ) w :=
 Cv (by decide) rfl hu _ (fun w' _=>by
  have:(a == b)=c:=by rw[← hc];rfl
  simp[execOp,hx,hy,DT,binOp,Op.intCmp,this]) h
theorem AY (c:Bool)(hx:Bs N ρ x=.int k a)(hy:Bs N ρ y=.int k b)(hc:decide (a≠b)=c)(hu:Up ops N ρ ⟨some d,.binOp .neq xt x y yt,ty,pos,aft,g⟩)
  (h:LW P ops w0 Q os ks (mk N (Cs ρ d (.bool c))) w):LW P ops w0 Q (⟨some d,.binOp .neq xt x y yt,ty,pos,aft,g⟩::os) (0::ks) (mk N ρ) w :=
 Cv (by decide) rfl hu _ (fun w' _=>by
  have:(a != b)=c:=by rw[← hc];simp[bne,BEq.beq]
  simp[execOp,hx,hy,DT,binOp,Op.intCmp,this]) h
end Fs
theorem BE {xt:TypeId}{x:Operand}{a:Bool}(c:Bool)(hx:Bs N ρ x=.bool a)(hc:(!a)=c)(hu:Up ops N ρ ⟨some d,.unOp .not xt x,ty,pos,aft,g⟩)
  (h:LW P ops w0 Q os ks (mk N (Cs ρ d (.bool c))) w):LW P ops w0 Q (⟨some d,.unOp .not xt x,ty,pos,aft,g⟩::os) (0::ks) (mk N ρ) w :=
 Cv (by decide) rfl hu _ (fun w' _=>by simp[execOp,hx,Op.unary,← hc]) h
theorem AU {t e:TypeId}{x:Operand}{v:Value}{n:Nat}(ht:P.underlying t=some (.slice e))(hx:Bs N ρ x=v)(hs:Ea v n)(hu:Up ops N ρ ⟨some d,.call ⟨.builtin .len,#[x],#[t]⟩,ty,pos,aft,g⟩)
  (h:LW P ops w0 Q os ks (mk N (Cs ρ d (.int .i64 (n:Int)))) w):LW P ops w0 Q (⟨some d,.call ⟨.builtin .len,#[x],#[t]⟩,ty,pos,aft,g⟩::os) (0::ks) (mk N ρ) w :=
 Cv (by decide) rfl hu _ (fun w' _=>by
  obtain⟨a,c,rfl,_⟩:=hs
  simp[execOp,resolve,invoke,builtin,hx,Builtin.len_,run_underlying ht,goInt]) h
theorem Kc {t:TypeId}{x:Operand}{s:ByteArray}(ht:P.underlying t=some .string)(hx:Bs N ρ x=.string s)(hu:Up ops N ρ ⟨some d,.call ⟨.builtin .len,#[x],#[t]⟩,ty,pos,aft,g⟩)
  (h:LW P ops w0 Q os ks (mk N (Cs ρ d (.int .i64 (s.size:Int)))) w):LW P ops w0 Q (⟨some d,.call ⟨.builtin .len,#[x],#[t]⟩,ty,pos,aft,g⟩::os) (0::ks) (mk N ρ) w :=
 Cv (by decide) rfl hu _ (fun w' _=>by
  simp[execOp,resolve,invoke,builtin,hx,Builtin.len_,run_underlying ht,goInt]) h
theorem AF {t e:TypeId}{x y:Operand}{v:Value}{n s:Nat}{k:IntKind}{i:Int}(j:Nat)(ht:P.underlying t=some (.slice e)){z:Value}{b:Nat}(hi:TI P e s z b)(hx:Bs N ρ x=v)(hy:Bs N ρ y=.int k i)
  (hs:Ea v n) (hj:i=(j:Int)) (hlt:j<n) (hu:Up ops N ρ ⟨some d,.indexAddr t x y,ty,pos,aft,g⟩)
  (h:LW P ops w0 Q os ks (mk N (Cs ρ d (AD v j s))) w):LW P ops w0 Q (⟨some d,.indexAddr t x y,ty,pos,aft,g⟩::os) (0::ks) (mk N ρ) w :=
 Cv (by decide) rfl hu _ (fun w' _=>by
  obtain⟨a,c,rfl,ha⟩:=hs
  obtain⟨inf,h1,_,h3,_⟩:=hi.get
  subst hj
  cases a with
  |none=>have:=ha rfl;omega
  |some a =>
   have hlt':(j:Int)<(n:Int):=by omega
   simp[execOp,hx,hy,Instr.indexAt,asIntOf,run_underlying ht,sizeOf,typeInfo,h1,h3,AD,hlt]) h
theorem Aj {k:Nat}(hk:k=1∨k=2){t:TypeId}{x:Operand}{p:Value}(u:Value)(ht:Ce P t)(hx:Bs N ρ x=p)(hc:JQ (if k=1 then w0.heap else w.heap) p=some u)(hu:Up ops N ρ ⟨some d,.load t x,ty,pos,aft,g⟩)
  (h:LW P ops w0 Q os ks (mk N (Cs ρ d u)) w):LW P ops w0 Q (⟨some d,.load t x,ty,pos,aft,g⟩::os) (k::ks) (mk N ρ) w :=
 Cv zO rfl hu _ (fun w' hcl=>by
  have hl:JQ w'.heap p=some u:=by
   rcases hk with rfl|rfl;exact Bf (w:=w0) hcl hc;exact Bf (w:=w) hcl hc
  simp[execOp,hx,Lx ht hl]) h
theorem AX {x:Operand}{vs:List Value}{i:Nat}(v:Value)(hx:Bs N ρ x=.tuple vs.toArray)(hv:vs[i]? = some v)(hu:Up ops N ρ ⟨some d,.extract x i,ty,pos,aft,g⟩)
  (h:LW P ops w0 Q os ks (mk N (Cs ρ d v)) w):LW P ops w0 Q (⟨some d,.extract x i,ty,pos,aft,g⟩::os) (0::ks) (mk N ρ) w :=
 Cv (by decide) rfl hu _ (fun w' _=>by simp[execOp,hx,Instr.extract,hv]) h
theorem J3 {st dt:TypeId}{x:Operand}{k k':IntKind}{a:Int}(c:Int){sd:TypeDesc}(hst:P.underlying st=some sd)(hdt:P.underlying dt=some (.int k'))(hx:Bs N ρ x=.int k a)(hc:k'.wrap a=c)(hu:Up ops N ρ ⟨some d,.convert st dt x,ty,pos,aft,g⟩)
  (h:LW P ops w0 Q os ks (mk N (Cs ρ d (.int k' c))) w):LW P ops w0 Q (⟨some d,.convert st dt x,ty,pos,aft,g⟩::os) (0::ks) (mk N ρ) w :=
 Cv (by decide) rfl hu _ (fun w' _=>by
  simp[execOp,hx,convert,run_underlying hst,run_underlying hdt,Conv.intToInt,hc]) h
theorem VL {fn:Fn}{first cap:Array Operand}(fs cs:List Value)(h1:first.toList.map (Bs N ρ)=fs)(h2:cap.toList.map (Bs N ρ)=cs)(hu:Up ops N ρ ⟨some d,.makeFunc fn first cap,ty,pos,aft,g⟩)
  (h:LW P ops w0 Q os ks (mk N (Cs ρ d (.func fn fs.toArray cs.toArray))) w):LW P ops w0 Q (⟨some d,.makeFunc fn first cap,ty,pos,aft,g⟩::os) (0::ks) (mk N ρ) w :=
 Cv (by decide) rfl hu _ (fun w' _=>by
  have e1:first.map (Bs N ρ)=fs.toArray:=by rw[← h1];apply Array.ext';simp
  have e2:cap.map (Bs N ρ)=cs.toArray:=by rw[← h2];apply Array.ext';simp
  simp[execOp,Instr.makeFunc,e1,e2]) h
end ops
end
section
abbrev Bx (α:Type):=Array Obj→Value→α→List Nat→Prop
structure Cb {α:Type}(E:Bx α):Prop where
 cells:∀ {H v x F},E H v x F→v.cells=#[v]
 one:∀ {H v x F},E H v x F→v.oneCell'=true
 lt:∀ {H v x F},E H v x F→∀b∈F,b<H.size
 stable:∀ {H H' v x F},E H v x F→(∀b∈F,H'[b]? = H[b]?)→E H' v x F
def els {α:Type}(E:Bx α)(H:Array Obj):List Value→List α→List Nat→Prop
 |[],[],F=>F=[]
 |u::us,x::xs,F=>∃F1 F2,F=F1++F2∧E H u x F1∧els E H us xs F2
 |_,_,_=>False
section els
variable {α:Type} {E:Bx α} {H H':Array Obj}
theorem els.length:∀ {us:List Value}{xs:List α}{F:List Nat},els E H us xs F→us.length=xs.length
 |[],[],_,_=>rfl
 |_::_,_::_,_,⟨_,_,_,_,h⟩=>by simp[els.length h]
 |[],_::_,_,h=>h.elim
 |_::_,[],_,h=>h.elim
theorem els.stable (hE:Cb E):∀ {us:List Value}{xs:List α}{F:List Nat},els E H us xs F→(∀b∈F,H'[b]? = H[b]?)→els E H' us xs F
 |[],[],_,h,_=>h
 |_::_,_::_,_,⟨F1,F2,rfl,h1,h2⟩,hb =>
  ⟨F1,F2,rfl,hE.stable h1 fun b hh=>hb b (z8 _ hh),els.stable hE h2 fun b hh=>hb b (z1 _ hh)⟩
 |[],_::_,_,h,_=>h.elim
 |_::_,[],_,h,_=>h.elim
theorem els.lt (hE:Cb E):∀ {us:List Value}{xs:List α}{F:List Nat},els E H us xs F→∀b∈F,b<H.size
 |[],[],_,h,b,hb=>by rw[show _=[]from h]at hb;cases hb
 |_::_,_::_,_,⟨F1,F2,rfl,h1,h2⟩,b,hb=>(zi.1 hb).elim (hE.lt h1 b) (els.lt hE h2 b)
 |[],_::_,_,h,_,_=>h.elim
 |_::_,[],_,h,_,_=>h.elim
theorem els.get:∀ {us:List Value}{xs:List α}{F:List Nat}{k:Nat}(d:α),els E H us xs F→k<xs.length →
  ∃u F1,us[k]? = some u∧E H u (xs.getD k d) F1∧∀b∈F1,b∈F
 |u::us,x::xs,_,0,d,⟨F1,F2,rfl,h1,h2⟩,_=>⟨u,F1,rfl,h1,fun b hb=>z8 _ hb⟩
 |u::us,x::xs,_,k+1,d,⟨F1,F2,rfl,h1,h2⟩,hk=>by
  obtain⟨u',G,hu,hx,hb⟩:=els.get d h2 (by simpa using hk)
  exact⟨u',G,by simpa using hu,by simpa using hx,fun b hh=>z1 _ (hb b hh)⟩
 |[],[],_,_,_,_,hk=>by simp at hk
 |[],_::_,_,_,_,h,_=>h.elim
theorem els.append:∀ {us vs:List Value}{xs ys:List α}{F G:List Nat},els E H us xs F→els E H vs ys G→els E H (us++vs) (xs++ys) (F++G)
 |[],_,[],_,_,_,h,k=>by rw[show _=[]from h];exact k
 |_::_,_,_::_,_,_,_,⟨F1,F2,rfl,h1,h2⟩,k=>⟨F1,_,by rw[List.append_assoc],h1,els.append h2 k⟩
 |[],_,_::_,_,_,_,h,_=>h.elim
 |_::_,_,[],_,_,_,h,_=>h.elim
theorem els.imp {E':Bx α}(h:∀ {H v x F},E H v x F→E' H v x F):∀ {us:List Value}{xs:List α}{F:List Nat},els E H us xs F→els E' H us xs F
 |[],[],_,hh=>hh
 |_::_,_::_,_,⟨F1,F2,e,h1,h2⟩=>⟨F1,F2,e,h h1,els.imp h h2⟩
 |[],_::_,_,hh=>hh.elim
 |_::_,[],_,hh=>hh.elim
theorem els.one (hE:Cb E):∀ {us:List Value}{xs:List α}{F:List Nat},els E H us xs F→∀u∈us,u.oneCell'=true
 |[],[],_,_,u,hu=>by cases hu
 |_::_,_::_,_,⟨F1,F2,rfl,h1,h2⟩,v,hv=>(ze.1 hv).elim (fun e=>e ▸ hE.one h1) (els.one hE h2 v)
 |[],_::_,_,h,_,_=>h.elim
 |_::_,[],_,h,_,_=>h.elim
end els
def rI:Bx Int:=fun _ v x F=>v=.int .i64 x∧F=[]∧-9223372036854775808≤x∧x≤9223372036854775807
def rU:Bx UInt8:=fun _ v x F=>v=.int .u8 (x.toNat:Int)∧F=[]
theorem Bi:Cb rI:=⟨fun h=>by rw[h.1];rfl,fun h=>by rw[h.1];rfl,fun h b hb=>(by rw[h.2.1]at hb;cases hb),fun h _=>h⟩
theorem Tq:Cb rU:=⟨fun h=>by rw[h.1];rfl,fun h=>by rw[h.1];rfl,fun h b hb=>(by rw[h.2]at hb;cases hb),fun h _=>h⟩
def Bg {α:Type}(E:Bx α):Bx (List α):=fun H v xs F =>
 (∃a cap,v=.slice a 0 cap∧xs=[]∧F=[]) ∨
 ∃us g off cap cur e fr F',els E H us xs F'∧v=.slice (some ⟨g,off,none⟩) xs.length cap∧H[g]? = some (.cells cur e fr)∧(cur.toList.drop off).take xs.length=us∧xs.length≤maxLen∧F=g::F'
def Bz {α:Type}(E:Bx α)(e:TypeId):Bx (List α):=fun H v xs F =>
 (v=.slice none 0 0∧xs=[]∧F=[]) ∨
 ∃us g cap cur F',els E H us xs F'∧v=.slice (some ⟨g,0,none⟩) xs.length cap∧H[g]? = some (.cells cur e (0,0))∧xs.length≤cap∧cap≤maxLen∧cur.size=cap∧cur.toList.take xs.length=us∧F=g::F'
theorem getElem?_lt {H:Array Obj}{g:Nat}{o:Obj}(h:H[g]? = some o):g<H.size:=(Array.getElem?_eq_some_iff.1 h).1
section lists
variable {α:Type} {E:Bx α} {e:TypeId} {H:Array Obj} {v:Value} {xs:List α} {F:List Nat}
theorem GV (hE:Cb E):Cb (Bg E) where
 cells:=by
  rintro H v xs F (⟨a,cap,rfl,_⟩|⟨us,g,off,cap,cur,e,fr,F',_,rfl,_⟩) <;> rfl
 one:=by
  rintro H v xs F (⟨a,cap,rfl,_⟩|⟨us,g,off,cap,cur,e,fr,F',_,rfl,_⟩) <;> rfl
 lt:=by
  rintro H v xs F (⟨a,cap,rfl,_,rfl⟩|⟨us,g,off,cap,cur,e,fr,F',h,rfl,hg,_,_,rfl⟩) b hb;cases hb;rcases ze.1 hb with rfl|hb;exact getElem?_lt hg;exact h.lt hE b hb
 stable:=by
  rintro H H' v xs F (⟨a,cap,rfl,h1,h2⟩|⟨us,g,off,cap,cur,e,fr,F',h,rfl,hg,hw,hml,rfl⟩) hb;exact .inl ⟨a,cap,rfl,h1,h2⟩;exact .inr ⟨us,g,off,cap,cur,e,fr,F',h.stable hE fun b hh=>hb b<|z3 _ hh,rfl,by rw[hb g (z0 ..)];exact hg,hw,hml,rfl⟩
theorem Dx (hE:Cb E):Cb (Bz E e) where
 cells:=by
  rintro H v xs F (⟨rfl,_⟩|⟨us,g,cap,cur,F',_,rfl,_⟩) <;> rfl
 one:=by
  rintro H v xs F (⟨rfl,_⟩|⟨us,g,cap,cur,F',_,rfl,_⟩) <;> rfl
 lt:=by
  rintro H v xs F (⟨rfl,_,rfl⟩|⟨us,g,cap,cur,F',h,rfl,hg,_,_,_,_,rfl⟩) b hb;cases hb;rcases ze.1 hb with rfl|hb;exact getElem?_lt hg;exact h.lt hE b hb
 stable:=by
  rintro H H' v xs F (⟨rfl,h1,h2⟩|⟨us,g,cap,cur,F',h,rfl,hg,r1,r2,r3,r4,rfl⟩) hb;exact .inl ⟨rfl,h1,h2⟩;exact .inr ⟨us,g,cap,cur,F',h.stable hE fun b hh=>hb b<|z3 _ hh,rfl,by rw[hb g (z0 ..)];exact hg,r1,r2,r3,r4,rfl⟩
theorem Bz.rd {E':Bx α}(hi:∀ {H v x F},E H v x F→E' H v x F)(h:Bz E e H v xs F):Bg E' H v xs F:=by rcases h with⟨rfl,rfl,rfl⟩|⟨us,g,cap,cur,F',h,rfl,hg,r1,r2,r3,r4,rfl⟩;exact .inl ⟨none,0,rfl,rfl,rfl⟩;exact .inr ⟨us,g,0,cap,cur,e,(0,0),F',h.imp hi,rfl,hg,by simpa using r4,zO,rfl⟩
theorem Bg.isSl (h:Bg E H v xs F):Ea v xs.length:=by rcases h with⟨a,cap,rfl,rfl,_⟩|⟨us,g,off,cap,cur,e,fr,F',_,rfl,_⟩;exact⟨a,cap,rfl,fun _=>rfl⟩;exact⟨_,cap,rfl,fun h=>by cases h⟩
theorem M4 (g off n cap k:Nat):AD (.slice (some ⟨g,off,none⟩) n cap) k 1=.pointer (some ⟨g,off+k,none⟩):=by unfold AD Addr.add;simp only[Nat.mul_one];split;rename_i h;subst h;rfl;rfl
theorem Bg.get (d:α){k:Nat}(h:Bg E H v xs F)(hk:k<xs.length):∃u F1,JQ H (AD v k 1)=some u∧E H u (xs.getD k d) F1∧∀b∈F1,b∈F:=by rcases h with⟨a,cap,rfl,rfl,_⟩|⟨us,g,off,cap,cur,e,fr,F',h,rfl,hg,hw,_,rfl⟩;simp at hk;obtain⟨u,F1,hu,hx,hb⟩:=h.get d hk;refine⟨u,F1,?_,hx,fun b hh=>z3 _ (hb b hh)⟩;rw[M4];simp only[JQ,C8,hg];rw[← hw,List.getElem?_take,if_pos hk,List.getElem?_drop]at hu;simpa using hu
theorem Bg.lenle (h:Bg E H v xs F):xs.length≤maxLen:=by rcases h with⟨a,cap,_,rfl,_⟩|⟨us,g,off,cap,cur,e,fr,F',_,_,_,_,h,_⟩;simp;exact h
end lists
structure Ax (F:List Nat)(w w':World):Prop where
 os:w'.os=w.os
 tape:w'.tape=w.tape
 output:w'.output=w.output
 size:w.heap.size≤w'.heap.size
 block:∀k,k<w.heap.size→k∉F→w'.heap[k]? = w.heap[k]?
theorem Ax.below {F:List Nat}{w0 w w':World}{B:Nat}(h:Below B w0 w)(c:Ax F w w')(hF:∀b∈F,B≤b)(hB:B≤w.heap.size):Below B w0 w' :=
 h.trans ⟨c.os,c.tape,c.output,c.size,fun k hk=>c.block k zO fun hm=>by have:=hF k hm;omega⟩
theorem AK.drew {w w':World}(h:AK w w'):AK w w'.drew:=⟨h.os,h.tape,h.output,h.size,h.block⟩
theorem AK.of_drew {w w':World}(h:AK w.drew w'):AK w w':=⟨h.os,h.tape,h.output,h.size,h.block⟩
def Fr {α:Type}(E:Bx α)(B U:Nat)(H:Array Obj)(v:Value)(x:α):Prop:=∃F,E H v x F∧F.Nodup∧∀b∈F,B≤b∧b<U
def Rd {α:Type}(E:Bx α)(H:Array Obj)(v:Value)(x:α):Prop:=∃F,E H v x F
section
variable {α:Type} {E:Bx α} {B U:Nat} {v:Value} {x:α} {w w':World}
theorem Fr.ext (hE:Cb E)(h:Fr E B U w.heap v x)(k:AK w w'):Fr E B U w'.heap v x:=by obtain⟨F,h1,h2,h3⟩:=h;exact⟨F,hE.stable h1 fun b hb=>k.heap (hE.lt h1 b hb),h2,h3⟩
theorem Fr.up (hE:Cb E){H:Array Obj}(h:Fr E B U H v x):Fr E B H.size H v x:=by obtain⟨F,h1,h2,h3⟩:=h;exact⟨F,h1,h2,fun b hb=>⟨(h3 b hb).1,hE.lt h1 b hb⟩⟩
theorem Fr.low {H:Array Obj}{B':Nat}(h:Fr E B U H v x)(hB:B'≤B):Fr E B' U H v x:=by obtain⟨F,h1,h2,h3⟩:=h;exact⟨F,h1,h2,fun b hb=>⟨A8 hB (h3 b hb).1,(h3 b hb).2⟩⟩
theorem Fr.chg (hE:Cb E){F:List Nat}(h:Fr E B U w.heap v x)(c:Ax F w w')(hF:∀b∈F,b<B∨U≤b):Fr E B U w'.heap v x:=by obtain⟨G,h1,h2,h3⟩:=h;refine⟨G,hE.stable h1 fun b hb=>c.block b (hE.lt h1 b hb) fun hm=>?_,h2,h3⟩;have:=h3 b hb;have:=hF b hm;omega
theorem Rd.ext (hE:Cb E)(h:Rd E w.heap v x)(k:AK w w'):Rd E w'.heap v x:=by obtain⟨F,h1⟩:=h;exact⟨F,hE.stable h1 fun b hb=>k.heap (hE.lt h1 b hb)⟩
end
section
variable {α:Type} {E:Bx α} {e:TypeId} {B U:Nat} {H:Array Obj} {v:Value} {xs:List α}
theorem Rd.lenle (h:Rd (Bg E) H v xs):xs.length≤9223372036854775807:=by obtain⟨F,h⟩:=h;have:=Bg.lenle h;simp only[maxLen]at this;omega
theorem Rd.isSl (h:Rd (Bg E) H v xs):Ea v xs.length:=by obtain⟨F,h⟩:=h;exact Bg.isSl h
theorem Rd.get (d:α){k:Nat}(h:Rd (Bg E) H v xs)(hk:k<xs.length):∃u,JQ H (AD v k 1)=some u∧Rd E H u (xs.getD k d):=by obtain⟨F,h⟩:=h;obtain⟨u,F1,h1,h2,_⟩:=Bg.get d h hk;exact⟨u,h1,F1,h2⟩
theorem Rd.getI {xs:List Int}{k:Nat}(h:Rd (Bg rI) H v xs)(hk:k<xs.length):JQ H (AD v k 1)=some (.int .i64 (xs.getD k 0))∧-9223372036854775808≤xs.getD k 0∧xs.getD k 0≤9223372036854775807:=by obtain⟨u,h1,F,h2,_,h3,h4⟩:=Rd.get (0:Int) h hk;rw[h1,h2];exact⟨rfl,h3,h4⟩
theorem Fr.rd {E':Bx α}(hi:∀ {H v x F},E H v x F→E' H v x F)(h:Fr (Bz E e) B U H v xs):Rd (Bg E') H v xs:=by obtain⟨F,h,_⟩:=h;exact⟨F,h.rd hi⟩
theorem Fr.rd1 {xs:List Int}(h:Fr (Bz rI e) B U H v xs):Rd (Bg rI) H v xs:=h.rd id
theorem Fr.rd2 {e':TypeId}{xs:List (List Int)}(h:Fr (Bz (Bz rI e) e') B U H v xs):Rd (Bg (Bg rI)) H v xs:=h.rd fun h=>h.rd id
theorem Fr.isSl (h:Fr (Bz E e) B U H v xs):Ea v xs.length:=by obtain⟨F,h,_⟩:=h;exact(h.rd id:Bg E H v xs F).isSl
end
theorem Kd {α:Type}{E:Bx α}{e:TypeId}(B U:Nat)(H:Array Obj):Fr (Bz E e) B U H (.slice none 0 0) []:=⟨[],.inl ⟨rfl,rfl,rfl⟩,zk,fun c hc=>(by cases hc)⟩
theorem Rd.getU {H:Array Obj}{v:Value}{xs:List UInt8}{k:Nat}(h:Rd (Bg rU) H v xs)(hk:k<xs.length):JQ H (AD v k 1)=some (.int .u8 ((xs.getD k 0).toNat:Int))∧0≤k:=by obtain⟨u,h1,F,h2,_⟩:=Rd.get (0:UInt8) h hk;rw[h1,h2];exact⟨rfl,Nat.zero_le _⟩
theorem B6 {a b:Int}(h:a=b):Ending.returned (.int .i64 a)=.returned (.int .i64 b):=by rw[h]
theorem AR {a b:Bool}(h:a=b):Ending.returned (.bool a)=.returned (.bool b):=by rw[h]
theorem DF:Cb (Bg rU):=GV Tq
theorem g1:Cb (Bg rI):=GV Bi
theorem g2:Cb (Bg (Bg rI)):=GV g1
theorem g3:Cb (Bg (Bg (Bg rI))):=GV g2
theorem o1 {e:TypeId}:Cb (Bz rI e):=Dx Bi
theorem o2 {e e':TypeId}:Cb (Bz (Bz rI e) e'):=Dx o1
end
section
theorem BM (w:World)(o:Obj):AK w (w.alloc o):=(Below.refl _ _).alloc (A7 _) o
theorem Hj {α:Type}{E:Bx α}(hE:Cb E){e:TypeId}{w:World}{us:List Value}{xs:List α}{F:List Nat}{cur:Array Value}(h:els E w.heap us xs F)(hm:cur.size≤maxLen)
  (hc:cur.toList.take xs.length=us) (hl:xs.length≤cur.size) :
  Bz E e (w.alloc (.cells cur e)).heap (.slice (some ⟨w.heap.size,0,none⟩) xs.length cur.size) xs (w.heap.size::F):=by
 refine .inr ⟨us,w.heap.size,cur.size,cur,F,h.stable hE fun b hb=>?_,rfl,?_,hl,hm,rfl,hc,rfl⟩;exact Below.heap_alloc _ _ _<|h.lt hE b hb;show(w.heap.push _)[w.heap.size]? = _;simp
theorem Ke {f:Nat→Value}(n:Nat):Array.map f (Array.range n)=((List.range n).map f).toArray:=by apply Array.ext';simp
section run
variable {P:Program} {w:World}
theorem OM {t e:TypeId}{s b:Nat}{z:Value}(ht:P.underlying t=some (.slice e))(hi:TI P e s z b) :
  (Instr.buildSlice t 0 #[]).run P w=.ok (.slice (some ⟨w.heap.size,0,none⟩) 0 0) (w.alloc (.cells #[] e)):=by
 obtain⟨i,h1,h2,h3,h4⟩:=hi.get;simp[Instr.buildSlice,run_underlying ht,sizeOf,typeInfo,h1,Instr.fill,newRow,Ke]
theorem ON {t e:TypeId}{b:Nat}{z u:Value}(ht:P.underlying t=some (.slice e))(hi:TI P e 1 z b)(hu:u.cells=#[u])(hz:z.cells=#[z]) :
  (Instr.buildSlice t 1 #[(0,u)]).run P w=.ok (.slice (some ⟨w.heap.size,0,none⟩) 1 1) (w.alloc (.cells #[u] e)):=by
 obtain⟨i,h1,h2,h3,h4⟩:=hi.get;simp[Instr.buildSlice,run_underlying ht,sizeOf,typeInfo,zeroValue,h1,h2,h3,Instr.fill,newRow,hu,hz,Ke,List.range_succ]
end run
section append
variable {P:Program} {w:World} {α:Type} {E:Bx α} {t ty e:TypeId} {b:Nat} {z:Value}
theorem JS (hE:Cb E) (ht:P.underlying t = some (.slice e)) (hi:TI P e 1 z b) (hz:z.cells = #[z]) {v:Value} {xs:List α} {F:List Nat} (hv:Bz E e w.heap v xs F) (hn:F.Nodup)
  {a:Value} {ys:List α} {G us:List Nat} (ha:Bg E w.heap a ys G) (hus:us = G.drop 1) (hbytes:(xs.length + ys.length) * b≤140737488355328) (hmx:xs.length + ys.length≤maxLen)
  (hdis:∀ c∈us,c∉F) (hnu:us.Nodup) :
  ∃ v' w' F',(Builtin.append_ #[t,t] ty #[v,a]).run P w = .ok v' w'∧Bz E e w'.heap v' (xs++ys) F'∧F'.Nodup∧(∀ c∈F',c∈F∨c∈us∨c = w.heap.size)∧Ax (F.take 1) w w':=by
 obtain ⟨i,h1,h2,h3,h4⟩:=hi.get;subst h4;have hsmall:xs.length + ys.length≤9223372036854775807:=by simp only [maxLen] at hmx; omega
 rcases ha with ⟨a0,cap0,rfl,rfl,rfl⟩ | ⟨asq,g,off,cap,cur,e',fr,G',hels,rfl,hg,hw,_,rfl⟩;-- nothing is appended
 have hle:Bz E e w.heap v xs F:=hv;have hsl:∃ b0 c0,v = .slice b0 xs.length c0∧xs.length≤c0∧(b0 = none→xs.length = 0):=by
  rcases hv with ⟨rfl,rfl,_⟩ | ⟨_,g,cap,cur,F',_,rfl,_,hh,_⟩;exact ⟨none,0,rfl,by simp,fun _=>rfl⟩;exact ⟨_,cap,rfl,hh,fun h=>by cases h⟩
 obtain ⟨b0,c0,rfl,hc0,hb0⟩:=hsl;refine ⟨_,w,F,?_,by simpa using hle,hn,fun c hc=>.inl hc,⟨rfl,rfl,rfl,A7 _,fun _ _ _=>rfl⟩⟩;have hf:(Builtin.firstCells 1 0 (.slice a0 0 cap0)).run P w = .ok #[] w:=by
  cases a0 <;> simp [Builtin.firstCells,loadCells,loadCellsFrom]
 cases b0 with
 | none=>simp [Builtin.append_,run_underlying ht,sizeOf,typeInfo,h1,h3,Builtin.lenOf,hc0,hf]
 | some a1=>simp [Builtin.append_,run_underlying ht,sizeOf,typeInfo,h1,h3,Builtin.lenOf,hc0,hf,storeCells]
 simp only [List.drop_succ_cons,List.drop_zero] at hus;subst hus;have hasl:asq.length = ys.length:=hels.length;have hnews:∀ j u,asq[j]? = some u→w.cell? ((⟨g,off,none⟩:Addr).add j) = some u:=by
  intro j u hj;have e1:(⟨g,off,none⟩:Addr).add j = ⟨g,off + j,none⟩:=by
   unfold Addr.add;split;rename_i hh; subst hh; rfl;rfl
  rw [e1,BF];simp only [C8,hg];rw [← hw,List.getElem?_take] at hj;split at hj;rw [List.getElem?_drop] at hj; simpa using hj;cases hj
 have h1c:∀ u∈asq,u.oneCell' = true:=hels.one hE;have hl1:asq.length = ys.length * i.size:=by rw [h3,hasl]; omega
 -- the new block
 have made:∀ (w1:World) (ous:List Value) (F0:List Nat) (rest:Nat),w1.heap = w.heap→w1.os = w.os→w1.tape = w.tape→w1.output = w.output→els E w.heap ous xs F0→(∀ c∈F0,c∈F)→F0.Nodup →
   (xs.length + ys.length + rest)≤maxLen→∀ (ow:List Nat),
   ∃ F',Bz E e (w1.alloc (.cells (ous.toArray++asq.toArray++Builtin.zeroCells z.cells rest) e)).heap (.slice (some ⟨w.heap.size,0,none⟩) (xs.length + ys.length) (xs.length + ys.length + rest)) (xs++ys) F'∧F'.Nodup ∧
    (∀ c∈F',c∈F∨c∈us∨c = w.heap.size)∧Ax ow w (w1.alloc (.cells (ous.toArray++asq.toArray++Builtin.zeroCells z.cells rest) e)):=by
  intro w1 ous F0 rest hh ho htp hop hou hsub hnd hmax ow;have happ:=hou.append hels;have hzc:(Builtin.zeroCells z.cells rest).size = rest:=by simp [Builtin.zeroCells,hz]
  have hsz:(ous.toArray++asq.toArray++Builtin.zeroCells z.cells rest).size = xs.length + ys.length + rest:=by
   simp only [Array.size_append,List.size_toArray,hzc,hasl,hou.length]
  have hnew:=Hj (e:=e) (w:=w1) hE (us:=ous++asq) (xs:=xs++ys) (F:=F0++us) (cur:=ous.toArray++asq.toArray++Builtin.zeroCells z.cells rest)
   (by rw [hh]; exact happ) (by rw [hsz]; exact hmax) (by
    rw [Array.toList_append,Array.toList_append];rw [show (xs++ys).length = (ous++asq).length from by simp [hou.length,hasl]];exact List.take_left) (by rw [hsz,z4]; omega)
  rw [hh,hsz,z4] at hnew;refine ⟨_,hnew,?_,?_,?_⟩;rw [List.nodup_cons];refine ⟨fun hm=>?_,?_⟩;have:=happ.lt hE _ hm; omega;rw [List.nodup_append];refine ⟨hnd,hnu,?_⟩;rintro x hx y hy rfl;exact hdis x hy<|hsub x hx
  intro c hc;rcases ze.1 hc with rfl | hc;exact .inr<|.inr rfl;rcases zi.1 hc with hc | hc;exact .inl<|hsub c hc;exact .inr<|.inl hc;refine ⟨ho,htp,hop,?_,fun k hk _=>?_⟩;show w.heap.size≤(w1.heap.push _).size;rw [hh]; simp;have:=Below.heap_alloc w1 (.cells (ous.toArray++asq.toArray++Builtin.zeroCells z.cells rest) e) k (by rw [hh]; exact hk);rw [this,hh]
 rcases hv with ⟨rfl,rfl,rfl⟩ | ⟨ous,gv,capv,curv,F0,hels0,rfl,hgv,hle,hcm,hcs,htk,rfl⟩;-- nil
 by_cases hy:ys.length = 0;have hy0:ys = []:=List.eq_nil_of_length_eq_zero hy;subst hy0;have has0:asq = []:=List.eq_nil_of_length_eq_zero hasl;subst has0;rw [show us = [] from hels];refine ⟨.slice none 0 0,w,[],?_,.inl ⟨rfl,rfl,rfl⟩,zk,fun c hc=>(by cases hc),⟨rfl,rfl,rfl,A7 _,fun _ _ _=>rfl⟩⟩;simp [Builtin.append_,run_underlying ht,sizeOf,typeInfo,h1,Builtin.lenOf,Builtin.firstCells,loadCells,loadCellsFrom];have hr:=run_append_nil (P:=P) w t ty e i z ht h1 h2 ⟨g,off,none⟩ ys.length cap asq hl1 hnews zO (by simp at hsmall; omega) (by simp only [zb,Nat.zero_add] at hbytes; omega);have hge:=grownCap_ge w ys.length 0 e;have hgm:=grownCap_le_maxLen w ys.length 0 e (by simpa using hmx);obtain ⟨F',q1,q2,q3,q4⟩:=made w.drew [] [] (grownCap w ys.length 0 e - ys.length) rfl rfl rfl rfl rfl (fun c hc=>by cases hc) zk (by simp; omega) (List.take 1 []);refine ⟨_,_,F',hr,?_,q2,q3,?_⟩;have ea:(([]:List α).length + ys.length + (grownCap w ys.length 0 e - ys.length)) = grownCap w ys.length 0 e:=by simp; omega
 rw [ea] at q1;simpa using q1;simpa using q4;by_cases hroom:xs.length + ys.length≤capv;-- room
 have hr:=run_append_room (P:=P) w t ty e i ht h1 gv xs.length capv curv hgv ⟨g,off,none⟩ ys.length cap asq hl1 hnews h1c hroom (by rw [h3,hasl,hcs]; omega);rw [h3] at hr;refine ⟨_,_,gv :: (F0++us),hr,?_,?_,?_,?_⟩;have hgF:gv∉F0:=(List.nodup_cons.1 hn).1;have hgU:gv∉us:=fun hm=>hdis gv hm (z0 ..);refine .inr ⟨ous++asq,gv,capv,_,F0++us,?_,by rw [z4],setRow_heap w gv curv _ e _ hgv,by rw [z4]; exact hroom,hcm,?_,?_,rfl⟩;refine (hels0.append hels).stable hE fun c hc=>setRow_other w gv c _ fun hcg=>?_;subst hcg;rcases zi.1 hc with hc | hc;exact hgF hc;exact hgU hc;simp only [List.size_toArray,z4,List.length_take,List.length_drop,Array.length_toList];omega;rw [z4];simp only [Nat.mul_one];rw [htk,show xs.length + ys.length = (ous++asq).length from by simp [hels0.length,hasl]];exact List.take_left;rw [List.nodup_cons,List.nodup_append];have hn':=List.nodup_cons.1 hn;refine ⟨?_,hn'.2,hnu,?_⟩
 intro hm;rcases zi.1 hm with hm | hm;exact hn'.1 hm;exact hdis gv hm (z0 ..);rintro x hx y hy rfl;exact hdis x hy<|z3 _ hx
 intro c hc;rcases ze.1 hc with rfl | hc;exact .inl (z0 ..);rcases zi.1 hc with hc | hc;exact .inl<|z3 _ hc;exact .inr<|.inl hc;refine ⟨rfl,rfl,rfl,by simp,fun k _ hk=>setRow_other w gv k _ fun hh=>hk (by simp [hh])⟩;-- grown
 have holds:∀ j u,ous[j]? = some u→w.cell? ((⟨gv,0,none⟩:Addr).add j) = some u:=by
  intro j u hj;have e1:(⟨gv,0,none⟩:Addr).add j = ⟨gv,j,none⟩:=by
   unfold Addr.add;split;rename_i hh; subst hh; rfl;simp
  rw [e1,BF];simp only [C8,hgv];rw [← htk,List.getElem?_take] at hj;split at hj;simpa using hj;cases hj
 have hr:=run_append_grow (P:=P) w t ty e i z ht h1 h2 ⟨gv,0,none⟩ xs.length capv ous (by rw [h3,hels0.length]; omega) holds ⟨g,off,none⟩ ys.length cap asq hl1 hnews zO zO<|growslice_fits zO hbytes;have hge:=grownCap_ge w (xs.length + ys.length) capv e;have hgm:=grownCap_le_maxLen w (xs.length + ys.length) capv e hmx;obtain ⟨F',q1,q2,q3,q4⟩:=made w.drew ous F0 (grownCap w (xs.length + ys.length) capv e - (xs.length + ys.length)) rfl rfl rfl rfl hels0 (fun c hc=>z3 _ hc) (List.nodup_cons.1 hn).2 zO (List.take 1 (gv :: F0));refine ⟨_,_,F',hr,?_,q2,q3,q4⟩;have ea:(xs.length + ys.length + (grownCap w (xs.length + ys.length) capv e - (xs.length + ys.length))) = grownCap w (xs.length + ys.length) capv e:=by omega
 rw [ea] at q1;exact q1
theorem Qz (ht:P.underlying t=some (.slice e))(hi:TI P e 1 z b)(hz:z.cells=#[z]){v:Value}{xs:List Int}{B U:Nat}(hv:Fr (Bz rI e) B U w.heap v xs)(hB:B≤w.heap.size)
  {a:Value} {ys:List Int} (ha:Rd (Bg rI) w.heap a ys) (hbytes:(xs.length+ys.length)*b≤140737488355328) (hmx:xs.length+ys.length≤maxLen) :
  ∃v' w' F,(Builtin.append_ #[t,t] ty #[v,a]).run P w=.ok v' w'∧Fr (Bz rI e) B w'.heap.size w'.heap v' (xs++ys)∧Ax F w w'∧∀c∈F,B≤c∧c<U:=by
 obtain⟨F,h1,h2,h3⟩:=hv;obtain⟨G,hG⟩:=ha;have hGe:G.drop 1=[]:=by
  rcases hG with⟨_,_,_,_,rfl⟩|⟨us,g,off,cap,cur,e',fr,F',hels,_,_,_,_,rfl⟩;rfl;show F'=[];have:∀ {us:List Value} {xs:List Int} {F:List Nat},els rI w.heap us xs F→F=[]:=by
   intro us xs
   induction us generalizing xs with
   |nil=>intro F h;cases xs with
    |nil=>exact h
    |cons=>exact h.elim
   |cons u us ih =>
    intro F h;cases xs with
    |nil=>exact h.elim
    |cons x xs =>
     obtain⟨F1,F2,rfl,q1,q2⟩:=h;rw[q1.2.1,ih q2];rfl
  exact this hels
 obtain⟨v',w',F',r1,r2,r3,r4,r5⟩:=JS (P:=P) (ty:=ty) Bi ht hi hz h1 h2 hG rfl hbytes hmx (by rw[hGe];intro c hc;cases hc) (by rw[hGe];exact zk);refine⟨v',w',F.take 1,r1,⟨F',r2,r3,fun c hc=>?_⟩,r5,fun c hc=>h3 c (zj hc)⟩;have hlt:=o1.lt r2 c hc;refine⟨?_,hlt⟩;rcases r4 c hc with hh|hh|hh;exact (h3 c hh).1;rw[hGe]at hh;cases hh;omega
theorem QA (hE:Cb E)(ht:P.underlying t=some (.slice e))(hi:TI P e 1 z b)(hz:z.cells=#[z]){v:Value}{xs:List α}{B U:Nat}(hv:Fr (Bz E e) B U w.heap v xs)(hB:B≤w.heap.size)
  {a:Value} {ys:List α} {B' U':Nat} (ha:Fr (Bz E e) B' U' w.heap a ys) (hU:U≤B') (hBB:B≤B') (hbytes:(xs.length+ys.length)*b≤140737488355328) (hmx:xs.length+ys.length≤maxLen) :
  ∃v' w' F,(Builtin.append_ #[t,t] ty #[v,a]).run P w=.ok v' w'∧Fr (Bz E e) B w'.heap.size w'.heap v' (xs++ys)∧Ax F w w'∧∀c∈F,B≤c∧c<U:=by
 obtain⟨F,h1,h2,h3⟩:=hv;obtain⟨G,g1,g2,g3⟩:=ha;have gd:∀c∈G.drop 1,c∈G:=fun c hc=>List.mem_of_mem_drop hc;obtain⟨v',w',F',r1,r2,r3,r4,r5⟩:=JS (P:=P) (ty:=ty) hE ht hi hz h1 h2 (g1.rd id) rfl hbytes hmx (fun c hc hF=>by have:=g3 c (gd c hc);have:=h3 c hF;omega)
  ((List.drop_sublist 1 G).nodup g2)
 refine⟨v',w',F.take 1,r1,⟨F',r2,r3,fun c hc=>?_⟩,r5,fun c hc=>h3 c (zj hc)⟩;have hlt:=(Dx hE).lt r2 c hc;refine⟨?_,hlt⟩;rcases r4 c hc with hh|hh|hh;exact (h3 c hh).1;have:=g3 c (gd c hh);omega;omega
end append
section ops
variable {P:Program} {ops:Array Oper} {w0:World} {Q:Act→World→Prop} {os:List Oper} {ks:List Nat} {N:Nat} {ρ:Nat→Value} {w:World}
 {d:Nat} {ty:TypeId} {pos:String} {aft:Array Edge} {g:Option (Nat×Bool)} {t e:TypeId} {z:Value} {b:Nat}
theorem CY {α:Type}(E:Bx α)(hE:Cb E){s:Nat}(ht:P.underlying t=some (.slice e))(hi:TI P e s z b)(hu:Up ops N ρ ⟨some d,.buildSlice t 0 #[],ty,pos,aft,g⟩)
  (h:∀v w1,AK w w1→w1.heap.size=w.heap.size+1→Fr (Bz E e) w.heap.size w1.heap.size w1.heap v ([]:List α)→LW P ops w0 Q os ks (mk N (Cs ρ d v)) w1) :
  LW P ops w0 Q (⟨some d,.buildSlice t 0 #[],ty,pos,aft,g⟩::os) (3::ks) (mk N ρ) w:=by
 have hrun:(execOp (Bs N ρ) ⟨some d,.buildSlice t 0 #[],ty,pos,aft,g⟩).run P w=.ok (.value (.slice (some ⟨w.heap.size,0,none⟩) 0 0)) (w.alloc (.cells #[] e)):=by
  simp only[execOp,zc,zh,Sem.run_bind,OM ht hi,Result.andThen_ok,Sem.run_pure]
 refine J2 rfl hu _ _ hrun (BM _ _)<|h _ _ (BM _ _) (by simp) ?_;refine⟨_,Hj (e:=e) (w:=w) hE (us:=[]) (xs:=([]:List α)) (F:=[]) (cur:=#[]) rfl (by simp) rfl (by simp),by simp,fun c hc=>?_⟩;simp at hc;subst hc;simp
theorem CH {α:Type}{E:Bx α}(hE:Cb E){x:Operand}{u:Value}{y:α}{B U:Nat}(ht:P.underlying t=some (.slice e))(hi:TI P e 1 z b)(hz:z.cells=#[z])(hx:Bs N ρ x=u)(hy:Fr E B U w.heap u y)(hB:B≤w.heap.size)
  (hu:Up ops N ρ ⟨some d,.buildSlice t 1 #[(0,x)],ty,pos,aft,g⟩)
  (h:∀v w1,AK w w1→w1.heap.size=w.heap.size+1→Fr (Bz E e) B w1.heap.size w1.heap v [y]→LW P ops w0 Q os ks (mk N (Cs ρ d v)) w1) :
  LW P ops w0 Q (⟨some d,.buildSlice t 1 #[(0,x)],ty,pos,aft,g⟩::os) (3::ks) (mk N ρ) w:=by
 obtain⟨F,h1,h2,h3⟩:=hy;have hr:=ON (P:=P) (w:=w) ht hi (hE.cells h1) hz;have hrun:(execOp (Bs N ρ) ⟨some d,.buildSlice t 1 #[(0,x)],ty,pos,aft,g⟩).run P w=.ok (.value (.slice (some ⟨w.heap.size,0,none⟩) 1 1)) (w.alloc (.cells #[u] e)):=by
  simp only[execOp,zc,zf,zh,Sem.run_bind,hx,hr,Result.andThen_ok,Sem.run_pure]
 refine J2 rfl hu _ _ hrun (BM _ _)<|h _ _ (BM _ _) (by simp) ?_;have hn:=Hj (e:=e) (w:=w) hE (us:=[u]) (xs:=[y]) (F:=F++[]) (cur:=#[u]) ⟨F,[],rfl,h1,rfl⟩ (by simp[maxLen]) rfl (by simp);refine⟨_,hn,?_,fun c hc=>?_⟩;rw[List.append_nil,List.nodup_cons];exact⟨fun hm=>by have:=hE.lt h1 _ hm;omega,h2⟩;have hlt:=(Dx hE).lt hn c hc;refine⟨?_,hlt⟩;rcases ze.1 hc with rfl|hc;exact hB;exact (h3 c (by simpa using hc)).1
theorem NY (B U:Nat)(H:Array Obj)(x:Int)(h:-9223372036854775808≤x∧x≤9223372036854775807):Fr rI B U H (.int .i64 x) x:=⟨[],⟨rfl,rfl,h.1,h.2⟩,zk,fun c hc=>by cases hc⟩
theorem EY {x y:Operand}{n:Nat}{c:Int}(ht:P.underlying t=some (.slice e))(hi:TI P e 1 (.int .i64 0) 8)(hx:Bs N ρ x=.int .i64 c)(hy:Bs N ρ y=.int .i64 c)(hc:c=(n:Int))(hn:n≤35184372088832)
  (hu:Up ops N ρ ⟨some d,.makeSlice t x y,ty,pos,aft,g⟩)
  (h:∀v w1,AK w w1→w1.heap.size=w.heap.size+1→Fr (Bz rI e) w.heap.size w1.heap.size w1.heap v (List.replicate n 0)→LW P ops w0 Q os ks (mk N (Cs ρ d v)) w1) :
  LW P ops w0 Q (⟨some d,.makeSlice t x y,ty,pos,aft,g⟩::os) (3::ks) (mk N ρ) w:=by
 subst hc;obtain⟨i,h1,h2,h3,h4⟩:=hi.get;have hr:=run_make (P:=P) w t e i _ ht h1 h2 .i64 .i64 n n zO zO (by rw[h4];omega) zO;have hrun:(execOp (Bs N ρ) ⟨some d,.makeSlice t x y,ty,pos,aft,g⟩).run P w=.ok (.value (.slice (some ⟨w.heap.size,0,none⟩) n n)) (w.alloc (.cells (madeCells (Value.int .i64 0).cells ((n:Int).toNat*i.size)) e)):=by
  simp only[execOp,Sem.run_bind,hx,hy,hr,Result.andThen_ok,Sem.run_pure,Int.toNat_natCast]
 refine J2 rfl hu _ _ hrun (BM _ _)<|h _ _ (BM _ _) (by simp) ?_;have hels:∀n,els rI w.heap (List.replicate n (.int .i64 0)) (List.replicate n (0:Int)) []:=by
  intro n
  induction n with
  |zero=>rfl
  |succ n ih=>exact⟨[],[],rfl,⟨rfl,rfl,zO,zO⟩,ih⟩
 have hmc:(madeCells (Value.int .i64 0).cells ((n:Int).toNat*i.size)).toList=List.replicate n (.int .i64 0):=by
  rw[h3];simp only[Int.toNat_natCast,Nat.mul_one,madeCells,Value.cells];apply List.ext_getElem;simp
  intro j q1 q2;simp[Nat.mod_one]
 have hcs:(madeCells (Value.int .i64 0).cells ((n:Int).toNat*i.size)).size=n:=by rw[size_madeCells,h3];simp
 have hn':=Hj (e:=e) (w:=w) Bi (us:=List.replicate n (.int .i64 0)) (xs:=List.replicate n (0:Int)) (F:=[]) (cur:=madeCells (Value.int .i64 0).cells ((n:Int).toNat*i.size)) (hels n) (by rw[hcs];simp only[maxLen];omega)
  (by rw[hmc,z5];exact za (by simp)) (by rw[hcs];simp)
 rw[hcs]at hn';simp only[z5]at hn';refine⟨_,by simpa using hn',by simp,fun c hc=>?_⟩;simp at hc;subst hc;simp
theorem DV {x y:Operand}{v a:Value}{xs ys:List Int}{B U:Nat}(ht:P.underlying t=some (.slice e))(hi:TI P e 1 z b)(hz:z.cells=#[z])(hx:Bs N ρ x=v)(hy:Bs N ρ y=a)(hv:Fr (Bz rI e) B U w.heap v xs)(hB:B≤w.heap.size)
  (ha:Rd (Bg rI) w.heap a ys) (hbytes:(xs.length+ys.length)*b≤140737488355328) (hmx:xs.length+ys.length≤maxLen) (hu:Up ops N ρ ⟨some d,.call ⟨.builtin .append,#[x,y],#[t,t]⟩,ty,pos,aft,g⟩)
  (h:∀v1 w1 F,Ax F w w1→(∀c∈F,B≤c∧c<U)→Fr (Bz rI e) B w1.heap.size w1.heap v1 (xs++ys)→LW P ops w0 Q os ks (mk N (Cs ρ d v1)) w1) :
  LW P ops w0 Q (⟨some d,.call ⟨.builtin .append,#[x,y],#[t,t]⟩,ty,pos,aft,g⟩::os) (4::ks) (mk N ρ) w:=by
 obtain⟨v1,w1,F,r1,r2,r3,r4⟩:=Qz (P:=P) (ty:=ty) ht hi hz hv hB ha hbytes hmx;exact M3 rfl hu v1 w1 (by simp only[execOp,resolve,invoke,builtin,zc,zf,zh,Sem.run_bind,Sem.run_pure,Result.andThen_ok,hx,hy,r1])<|h v1 w1 F r3 r4 r2
theorem Kf {α:Type}{E:Bx α}(hE:Cb E){x y:Operand}{v a:Value}{xs ys:List α}{B U B' U':Nat}(ht:P.underlying t=some (.slice e))(hi:TI P e 1 z b)(hz:z.cells=#[z])(hx:Bs N ρ x=v)(hy:Bs N ρ y=a)(hv:Fr (Bz E e) B U w.heap v xs)(hB:B≤w.heap.size)
  (ha:Fr (Bz E e) B' U' w.heap a ys) (hU:U≤B') (hBB:B≤B') (hbytes:(xs.length+ys.length)*b≤140737488355328) (hmx:xs.length+ys.length≤maxLen) (hu:Up ops N ρ ⟨some d,.call ⟨.builtin .append,#[x,y],#[t,t]⟩,ty,pos,aft,g⟩)
  (h:∀v1 w1 F,Ax F w w1→(∀c∈F,B≤c∧c<U)→Fr (Bz E e) B w1.heap.size w1.heap v1 (xs++ys)→LW P ops w0 Q os ks (mk N (Cs ρ d v1)) w1) :
  LW P ops w0 Q (⟨some d,.call ⟨.builtin .append,#[x,y],#[t,t]⟩,ty,pos,aft,g⟩::os) (4::ks) (mk N ρ) w:=by
 obtain⟨v1,w1,F,r1,r2,r3,r4⟩:=QA (P:=P) (ty:=ty) hE ht hi hz hv hB ha hU hBB hbytes hmx;exact M3 rfl hu v1 w1 (by simp only[execOp,resolve,invoke,builtin,zc,zf,zh,Sem.run_bind,Sem.run_pure,Result.andThen_ok,hx,hy,r1])<|h v1 w1 F r3 r4 r2
theorem Dt {st:TypeId}{x y:Operand}{v:Value}{n:Int}{xs:List Int}{B U j:Nat}(hst:(P.info? st).map (·.size)=some 1)(hx:Bs N ρ x=AD v j 1)(hy:Bs N ρ y=.int .i64 n)(hn:-9223372036854775808≤n∧n≤9223372036854775807)
  (hv:Fr (Bz rI e) B U w.heap v xs) (hj:j<xs.length) (hu:Up ops N ρ ⟨none,.store st x y,ty,pos,aft,g⟩)
  (h:∀w1 F,Ax F w w1→w1.heap.size=w.heap.size→(∀c∈F,B≤c∧c<U)→Fr (Bz rI e) B U w1.heap v (xs.set j n)→LW P ops w0 Q os ks (mk N ρ) w1) :
  LW P ops w0 Q (⟨none,.store st x y,ty,pos,aft,g⟩::os) (4::ks) (mk N ρ) w:=by
 obtain⟨F,h1,h2,h3⟩:=hv;rcases h1 with⟨rfl,rfl,rfl⟩|⟨us,gb,cap,cur,F',hels,rfl,hg,r1,r2,r3,r4,rfl⟩;simp at hj;obtain⟨i,hi1,hi2⟩:=Option.map_eq_some_iff.1 hst;rw[M4]at hx;have hsz:j<cur.size:=by omega
 have hcell:w.cell? ⟨gb,j,none⟩=some cur[j]:=by
  rw[BF];simp[C8,hg,hsz]
 have hfz:w.frozen? ⟨gb,j,none⟩=false:=by
  simp only[World.frozen?,hg];simp
 have hrun:(Instr.storeAt st (.pointer (some ⟨gb,0+j,none⟩)) (.int .i64 n)).run P w=.ok () (w.setCell ⟨gb,j,none⟩ (.int .i64 n)):=by
  have hadd:(⟨gb,j,none⟩:Addr).add 0=⟨gb,j,none⟩:=rfl;rw[Nat.zero_add];simp only[Instr.storeAt,Instr.sureAddr,Sem.run_bind,Sem.run_pure,Result.andThen_ok,storeVar,sizeOf,typeInfo,run_program,hi1,hi2,Value.cells];have hst1:(store ⟨gb,j,none⟩ (.int .i64 n)).run P w=.ok () (w.setCell ⟨gb,j,none⟩ (.int .i64 n)):=by
   rw[run_store P w _ _ _ rfl,hcell];simp only[hfz];rfl
  simp[storeCells,hadd,hst1]
 have hrun2:(execOp (Bs N ρ) ⟨none,.store st x y,ty,pos,aft,g⟩).run P w=.ok .skip (w.setCell ⟨gb,j,none⟩ (.int .i64 n)):=by
  simp only[execOp,hx,hy,Sem.run_bind,hrun,Result.andThen_ok,Sem.run_pure]
 refine VJ rfl hu _ hrun2<|h _ [gb] ?_ (by simp[World.setCell]) (fun c hc=>by simp at hc;subst hc;exact h3 _ (z0 ..)) ?_;refine⟨rfl,rfl,rfl,by simp[World.setCell],fun k hk hne=>Below.heap_setCell _ _ _ _ (by simpa using hne)⟩;have hheap:(w.setCell ⟨gb,j,none⟩ (.int .i64 n)).heap[gb]? = some (.cells (cur.setIfInBounds j (.int .i64 n)) e (0,0)):=by
  simp only[World.setCell,Array.getElem?_modify];simp[hg]
 have hset:∀ {us:List Value} {xs:List Int} {F:List Nat} {k:Nat} {H:Array Obj},els rI H us xs F→k<xs.length→els rI H (us.set k (.int .i64 n)) (xs.set k n) F:=by
  intro us
  induction us with
  |nil=>intro xs F k H hh hk;cases xs with
   |nil=>simp at hk
   |cons=>exact hh.elim
  |cons u us ih =>
   intro xs F k H hh hk;cases xs with
   |nil=>exact hh.elim
   |cons x xs =>
    obtain⟨F1,F2,rfl,q1,q2⟩:=hh;cases k with
    |zero=>exact⟨F1,F2,rfl,⟨rfl,q1.2.1,hn.1,hn.2⟩,q2⟩
    |succ k=>exact⟨F1,F2,rfl,q1,ih q2 (by simpa using hk)⟩
 refine⟨gb::F',.inr ⟨us.set j (.int .i64 n),gb,cap,_,F',?_,by simp,hheap,by simpa using r1,r2,by simpa using r3,?_,rfl⟩,h2,h3⟩;exact(hset hels hj).stable Bi fun c hc=>Below.heap_setCell _ _ _ _ fun he=>by
  simp only at he;subst he;exact (List.nodup_cons.1 h2).1 hc
 rw[z6,Array.toList_setIfInBounds,List.take_set,r4]
end ops
end
section
def rV:Bx Value:=fun _ v x F=>v=x∧F=[]∧v.cells=#[v]∧v.oneCell'=true
theorem Cw:Cb rV:=⟨fun h=>h.2.2.1,fun h=>h.2.2.2,fun h b hb=>(by rw[h.2.1]at hb;cases hb),fun h _=>h⟩
section run
variable {P:Program} {w:World}
theorem NZ {st:TypeId}(hst:(P.info? st).map (·.size)=some 1){g j:Nat}{cur:Array Value}{e:TypeId}(hg:w.heap[g]? = some (.cells cur e (0,0)))(hj:j<cur.size){u:Value}(hc:u.cells=#[u])(h1:u.oneCell'=true) :
  (Instr.storeAt st (.pointer (some ⟨g,j,none⟩)) u).run P w=.ok () (w.setCell ⟨g,j,none⟩ u):=by
 obtain⟨i,hi1,hi2⟩:=Option.map_eq_some_iff.1 hst;have hcell:w.cell? ⟨g,j,none⟩=some cur[j]:=by
  rw[BF];simp[C8,hg,hj]
 have hfz:w.frozen? ⟨g,j,none⟩=false:=by
  simp only[World.frozen?,hg];simp
 have hadd:(⟨g,j,none⟩:Addr).add 0=⟨g,j,none⟩:=rfl;have hst1:(store ⟨g,j,none⟩ u).run P w=.ok () (w.setCell ⟨g,j,none⟩ u):=by
  rw[run_store P w _ _ _ h1,hcell];simp only[hfz];rfl
 simp only[Instr.storeAt,Instr.sureAddr,Sem.run_bind,Sem.run_pure,Result.andThen_ok,storeVar,sizeOf,typeInfo,run_program,hi1,hi2,hc];simp[storeCells,hadd,hst1]
theorem Tr (w:World)(g j:Nat)(u:Value):Ax [g] w (w.setCell ⟨g,j,none⟩ u) :=
 ⟨rfl,rfl,rfl,by simp[World.setCell],fun k hk hne=>Below.heap_setCell _ _ _ _ (by simpa using hne)⟩
theorem QD {w:World}{g j:Nat}{u:Value}{cur:Array Value}{e:TypeId}(hg:w.heap[g]? = some (.cells cur e (0,0))):(w.setCell ⟨g,j,none⟩ u).heap[g]? = some (.cells (cur.setIfInBounds j u) e (0,0)):=by simp only[World.setCell,Array.getElem?_modify];simp[hg]
end run
section opn
variable {α:Type} {E:Bx α} {e:TypeId} {B U:Nat} {v:Value}
theorem QE {H:Array Obj}:∀ {us:List Value},(∀u∈us,u.cells=#[u]∧u.oneCell'=true)→els rV H us us []
 |[],_=>rfl
 |u::_,h=>⟨[],[],rfl,⟨rfl,rfl,h u (z0 ..)⟩,QE fun x hx=>h x (z3 _ hx)⟩
theorem els.cells1 (hE:Cb E){H:Array Obj}:∀ {us:List Value}{xs:List α}{F:List Nat},els E H us xs F→∀u∈us,u.cells=#[u]∧u.oneCell'=true
 |[],[],_,_,u,hu=>by cases hu
 |_::_,_::_,_,⟨F1,F2,rfl,h1,h2⟩,v,hv=>(ze.1 hv).elim (fun e=>e ▸ ⟨hE.cells h1,hE.one h1⟩) (els.cells1 hE h2 v)
 |[],_::_,_,h,_,_=>h.elim
 |_::_,[],_,h,_,_=>h.elim
end opn
section ops
variable {P:Program} {ops:Array Oper} {w0:World} {Q:Act→World→Prop} {os:List Oper} {ks:List Nat} {N:Nat} {ρ:Nat→Value} {w:World}
 {d:Nat} {ty:TypeId} {pos:String} {aft:Array Edge} {g:Option (Nat×Bool)} {t e:TypeId} {z:Value} {b:Nat}
theorem Kg {st:TypeId}{x y:Operand}{p u:Value}{w1:World}(hx:Bs N ρ x=p)(hy:Bs N ρ y=u)(hr:(Instr.storeAt st p u).run P w=.ok () w1) :
  (execOp (Bs N ρ) ⟨none,.store st x y,ty,pos,aft,g⟩).run P w=.ok .skip w1:=by
 simp only[execOp,hx,hy,Sem.run_bind,hr,Result.andThen_ok,Sem.run_pure]
theorem AG {x:Operand} {xs:Array Operand} {ats:Array TypeId} (f:FuncId) (first cap:List Value) (args:List Value)
  (hx:Bs N ρ x = .func (.func f) first.toArray cap.toArray) (hxs:first++(xs.toList.map (Bs N ρ))++cap = args) (hf:((P.funcs[f]?).map fun fn=>(fn.name != "runtime.NumGoroutine") && fn.body.isSome) = some true)
  (hu:Up ops N ρ ⟨some d,.call ⟨.value x,xs,ats⟩,ty,pos,aft,g⟩) {R:Ending→World→Prop} (hc:Calls P f args.toArray w R)
  (h:∀ e w1,R e w1→∃ v,e = .returned v∧LW P ops w0 Q os ks (mk N (Cs ρ d v)) w1) :
  LW P ops w0 Q (⟨some d,.call ⟨.value x,xs,ats⟩,ty,pos,aft,g⟩ :: os) (4 :: ks) (mk N ρ) w:=by
 simp only [LW];rw [if_pos hu];unfold Bk;rw [if_neg (by decide),if_neg (by decide)];unfold Oper.wp;rw [CT];have hrun:(execOp (Bs N ρ) ⟨some d,.call ⟨.value x,xs,ats⟩,ty,pos,aft,g⟩).run P w = .ok (.enter f args.toArray) w:=by
  obtain ⟨fn,hfn,hb⟩:=Option.map_eq_some_iff.1 hf;simp only [z7,bne_iff_ne,ne_eq] at hb;have hargs:first.toArray++xs.map (Bs N ρ)++cap.toArray = args.toArray:=by
   rw [← hxs]; apply Array.ext'; simp
  obtain ⟨c,hbc⟩:=Option.isSome_iff_exists.1 hb.2;have hcf:(callFunc f args.toArray).run P w = .ok (.enter f args.toArray) w:=by
   simp [callFunc,hfn,hb.1,hbc]
  simp [execOp,resolve,hargs,hx,Deferred.ofValue,invoke,hcf]
 rw [hrun];refine Calls.mono hc (fun e w1 he=>?_);obtain ⟨v,rfl,hL⟩:=h e w1 he;show LW P ops w0 Q os ks ((mk N ρ).put (some d) v) w1;rw [DS];exact hL
def O0:Value→Bool
 |.slice none _ _=>true
 |_=>false
theorem QF {x y:Operand}{xt yt:TypeId}{v:Value}{n:Nat}(c:Bool)(ht:P.underlying xt=some (.slice e))(hx:Bs N ρ x=v)(hy:Bs N ρ y=.slice none 0 0)(hs:Ea v n)(hc:O0 v=c)(hu:Up ops N ρ ⟨some d,.binOp .eql xt x y yt,ty,pos,aft,g⟩)
  (h:LW P ops w0 Q os ks (mk N (Cs ρ d (.bool c))) w):LW P ops w0 Q (⟨some d,.binOp .eql xt x y yt,ty,pos,aft,g⟩::os) (0::ks) (mk N ρ) w :=
 Cv (by decide) rfl hu _ (fun w' _=>by
  obtain⟨a,cp,rfl,_⟩:=hs
  subst hc
  have he:(eqGuard .eql xt x y (.slice a n cp) (.slice none 0 0)).run P w'=.ok () w':=rfl
  have hq:∀k,(Op.equalIn (k+1) xt (.slice a n cp) (.slice none 0 0)).run P w'=.ok a.isNone w':=by
   intro k;cases a <;> simp only[Op.equalIn,Sem.run_bind,run_underlying ht,Result.andThen_ok,Sem.run_pure] <;> rfl
  simp only[execOp,hx,hy,Sem.run_bind,he,Result.andThen_ok,binOp,Op.equal];rw[show Op.maxDepth=9999+1 from rfl,hq];cases a <;> rfl) h
end ops
end
section
theorem oM {p:Prop}(h:p:=by omega):p:=h
theorem sM {p:Prop}(h:p:=by simp):p:=h
theorem sD {p:Prop}(h:p:=by first|omega|assumption|(simp only[zb,z9,z4,z6,z5];omega)|(simp[zb,z9,z4,z6,z5];done)|(simp[zb,z9,z4,z6,z5];omega)):p:=h
theorem Ax.refl (F:List Nat)(w:World):Ax F w w:=⟨rfl,rfl,rfl,A7 _,fun _ _ _=>rfl⟩
theorem Ax.ext {F:List Nat}{a b c:World}(h:Ax F a b)(k:AK b c):Ax F a c :=
 ⟨k.os.trans h.os,k.tape.trans h.tape,k.output.trans h.output,A8 h.size k.size,fun i hi hm=>(k.heap (Nat.lt_of_lt_of_le hi h.size)).trans (h.block i hi hm)⟩
theorem Ax.trans {F:List Nat}{a b c:World}(h:Ax F a b)(k:Ax F b c):Ax F a c :=
 ⟨k.os.trans h.os,k.tape.trans h.tape,k.output.trans h.output,A8 h.size k.size,fun i hi hm=>(k.block i (Nat.lt_of_lt_of_le hi h.size) hm).trans (h.block i hi hm)⟩
theorem Ax.drew {F:List Nat}{a b:World}(h:Ax F a b):Ax F a b.drew:=⟨h.os,h.tape,h.output,h.size,h.block⟩
theorem Ax.of_drew {F:List Nat}{a b:World}(h:Ax F a.drew b):Ax F a b:=⟨h.os,h.tape,h.output,h.size,h.block⟩
theorem Ax.sub {F G:List Nat}{a b:World}(h:Ax F a b)(hs:∀x∈F,x∈G):Ax G a b:=⟨h.os,h.tape,h.output,h.size,fun k hk hm=>h.block k hk fun hh=>hm (hs k hh)⟩
theorem Ts {α:Type}{E:Bx α}(hE:Cb E){w w':World}{v:Value}{x:α}{F:List Nat}(h:E w.heap v x F)(k:AK w w'):E w'.heap v x F:=hE.stable h fun b hb=>k.heap (hE.lt h b hb)
theorem Rd.nil_of {α:Type}{E:Bx α}{H:Array Obj}{v:Value}{xs:List α}(h:Rd (Bg E) H v xs)(hv:O0 v=true):xs=[]:=by obtain⟨F,⟨a,cap,rfl,hx,_⟩|⟨us,g,off,cap,cur,e,fr,F',_,rfl,_⟩⟩:=h;exact hx;cases hv
section ops
variable {P:Program} {ops:Array Oper} {w0:World} {Q:Act→World→Prop} {os:List Oper} {ks:List Nat} {N:Nat} {ρ:Nat→Value} {w:World}
 {d:Nat} {ty:TypeId} {pos:String} {aft:Array Edge} {g:Option (Nat×Bool)} {t e:TypeId} {z:Value} {b:Nat}
theorem Af {a:Act}(h:Q a w):LW P ops w0 Q [] ks a w:=h
def yv (ops:Array Oper)(N:Nat) (ρ:Nat→Value)(j:Nat):Option Bool:=match (ops[j]?).bind (·.dst)with
 |some e=>match cond (Nat.blt e N) (ρ e) undef with
  |.bool c=>some c
  |_=>none
 |none=>none
theorem XT (ops:Array Oper)(N:Nat) (ρ:Nat→Value)(j:Nat):yielded ops (mk N ρ).tmps j=yv ops N ρ j:=by
 unfold yv yielded;cases(ops[j]?).bind (·.dst)with
 |none=>rfl
 |some e =>
  by_cases h:e<N;have hb:Nat.blt e N=true:=by simpa using h
  simp only[mk,hb,cond_true];have e1:((List.range N).map ρ).toArray[e]? = some (ρ e):=by simp[h]
  show(match ((List.range N).map ρ).toArray[e]? with|some (.bool b)=>some b|_=>none)=_;rw[e1];cases ρ e <;> rfl;have hb:Nat.blt e N=false:=by
   cases hb:Nat.blt e N with
   |false=>rfl
   |true=>exact absurd (by simpa using hb) h
  simp[mk,Nat.not_lt.1 h,hb,undef]
def ZA (ops:Array Oper)(N:Nat) (ρ:Nat→Value):Option (Nat×Bool)→Bool
 |none=>true
 |some (j,b)=>match yv ops N ρ j with
  |some c=>cond b c (!c)
  |none=>false
theorem VM (ops:Array Oper)(N:Nat) (ρ:Nat→Value)(o:Oper):Region.wanted o (yielded ops (mk N ρ).tmps)=ZA ops N ρ o.guard:=by
 unfold Region.wanted ZA;cases o.guard with
 |none=>rfl
 |some x =>
  obtain⟨j,b⟩:=x;simp only[XT];cases yv ops N ρ j with
  |none=>rfl
  |some c=>cases c <;> cases b <;> rfl
def bK (N:Nat) (ρ:Nat→Value)(d:Nat)(x:Operand):Nat→Value:=fun i=>cond (Nat.beq i d) (Bs N ρ x) (ρ i)
def cC (ρ:Nat→Value)(d:Nat):Nat→Value:=fun i=>cond (Nat.beq i d) undef (ρ i)
def cD (N:Nat) (ρ:Nat→Value)(d:Nat)(c x y:Operand):Nat→Value:=fun i=>cond (Nat.beq i d) (match Bs N ρ c with
 |.bool true=>Bs N ρ x
 |_=>Bs N ρ y) (ρ i)
def ZB (ops:Array Oper)(N:Nat)(o:Oper)(k:Nat) (ρ:Nat→Value):Option (Nat→Value) :=
 cond (ZA ops N ρ o.guard)
  (cond (Nat.ble k 2)
   (match o.dst with
   |none=>none
   |some d=>match o.op with
    |.move x=>some (bK N ρ d x)
    |.assign x=>some (bK N ρ d x)
    |.pick c x y=>match Bs N ρ c with
     |.bool _=>some (cD N ρ d c x y)
     |_=>none
    |_=>none) none)
  (match o.dst with
  |none=>some ρ
  |some d=>some (cC ρ d))
def tv (ops:Array Oper)(N:Nat):Nat→List Oper→List Nat→(Nat→Value)→Option (List Oper×List Nat×(Nat→Value))
 |0,os,ks,ρ=>some (os,ks,ρ)
 |n+1,o::os,k::ks,ρ=>match ZB ops N o k ρ with
  |some ρ'=>tv ops N n os ks ρ'
  |none=>none
 |_+1,_,_,_=>none
theorem VN {o:Oper}{k:Nat} {ρ':Nat→Value}(h:ZB ops N o k ρ=some ρ')(hn:LW P ops w0 Q os ks (mk N ρ') w):LW P ops w0 Q (o::os) (k::ks) (mk N ρ) w:=by
 simp only[LW];rw[VM];unfold ZB at h;cases hg:ZA ops N ρ o.guard with
 |false =>
  rw[hg]at h;rw[if_neg (by simp)];cases hd:o.dst with
  |none=>rw[hd]at h;cases h;exact hn
  |some d=>rw[hd]at h;injection h with h;rw[DS,show Cs ρ d undef=ρ' from h];exact hn
 |true =>
  rw[hg]at h;rw[if_pos rfl];cases hk:Nat.ble k 2 with
  |false=>rw[hk]at h;cases h
  |true =>
   rw[hk]at h;have hk2:k≤2:=by simpa using hk
   unfold Bk;rw[if_pos hk2];cases hd:o.dst with
   |none=>rw[hd]at h;cases h
   |some d =>
    rw[hd]at h;have key:∀v,ρ'=Cs ρ d v→(∀w',(execOp (Bs N ρ) o).run P w'=.ok (.value v) w')→∃v,(∀w',Cl w0 w k w'→YA P o (mk N ρ) w' v)∧LW P ops w0 Q os ks ((mk N ρ).put (some d) v) w:=fun v hv hr =>
     ⟨v,fun w' _=>.inl (by rw[CT];exact hr w'),by rw[DS,← hv];exact hn⟩
    obtain⟨od,oop,oty,opos,oaft,og⟩:=o;dsimp only at h;cases oop with
    |move x=>injection h with h;exact key (Bs N ρ x) h.symm fun w'=>by simp[execOp]
    |assign x=>injection h with h;exact key (Bs N ρ x) h.symm fun w'=>by simp[execOp]
    |pick c x y =>
     dsimp only at h;split at h;rename_i bb hc;injection h with h;refine key (match Bs N ρ c with
      |.bool true=>Bs N ρ x
      |_=>Bs N ρ y) h.symm fun w'=>?_
     rw[hc];cases bb <;> simp[execOp,hc,asBool];cases h
    |_=>cases h
theorem Ad {os':List Oper}{ks':List Nat} {ρ':Nat→Value}(n:Nat)(h:tv ops N n os ks ρ=some (os',ks',ρ'))(hn:LW P ops w0 Q os' ks' (mk N ρ') w):LW P ops w0 Q os ks (mk N ρ) w:=by
 induction n generalizing os ks ρ with
 |zero =>
  have h':(os,ks,ρ)=(os',ks',ρ'):=by injection h
  cases h';exact hn
 |succ n ih =>
  cases os with
  |nil=>cases ks <;> cases h
  |cons o os =>
   cases ks with
   |nil=>cases h
   |cons k ks =>
    have h':(match ZB ops N o k ρ with|some ρ'=>tv ops N n os ks ρ'|none=>none)=some (os',ks',ρ'):=h;split at h';rename_i r hr;exact VN hr (ih h');cases h'
theorem Ac {ks':List Nat} {ρ':Nat→Value}(n:Nat)(h:tv ops N n os ks ρ=some ([],ks',ρ'))(hn:Q (mk N ρ') w):LW P ops w0 Q os ks (mk N ρ) w :=
 Ad n h (show LW P ops w0 Q [] ks' (mk N ρ') w from hn)
end ops
theorem bL {P : Program}{y : Code}{id : Nat}{Q : Exit → Act → World → Prop}{a : Act}{w : World}{os : List Oper}(ks : List Nat)(hk : ks.all (· != 1)=true)(h : LW P os.toArray w (fun a w => y.wp P Q a w) os ks a w) : (Code.seq (Code.region id os.toArray false) y).wp P Q a w := A0 (Ab os ks hk h)
theorem bM {P : Program}{y : Code}{id : Nat}{Q : Exit → Act → World → Prop}{w : World}{o : Oper}{N : Nat} {ρ ρ' : Nat → Value}{ks' : List Nat}(h : tv #[o] N 1 [o] [0] ρ=some ([], ks', ρ'))(hn : y.wp P Q (mk N ρ') w) : (Code.seq (Code.region id #[o] false) y).wp P Q (mk N ρ) w := A0 (Ab [o] [0] rfl (Ac 1 h hn))
theorem bN {P : Program}{ops : Array Oper}{w0 : World}{Q : Act → World → Prop}{os : List Oper}{ks : List Nat}{N : Nat} {ρ : Nat → Value}{w : World}{ks' : List Nat} {ρ' : Nat → Value}(h : tv ops N 1 os ks ρ=some ([], ks', ρ'))(hn : Q (mk N ρ') w) : LW P ops w0 Q os ks (mk N ρ) w := Ac 1 h hn
theorem bO {P : Program}{ops : Array Oper}{w0 : World}{Q : Act → World → Prop}{os : List Oper}{ks : List Nat}{N : Nat} {ρ : Nat → Value}{w : World}{os' : List Oper}{ks' : List Nat} {ρ' : Nat → Value}(h : tv ops N 1 os ks ρ=some (os', ks', ρ'))(hn : LW P ops w0 Q os' ks' (mk N ρ') w) : LW P ops w0 Q os ks (mk N ρ) w := Ad 1 h hn
end
theorem XU {p:Prop}(h:p):RowKit.Hid p:=h
def md (x:Int):Int:=x % 1000003
theorem C3 (x:Int):0≤md x:=Int.emod_nonneg x (by decide)
theorem EZ (x:Int):md x<1000003:=Int.emod_lt_of_pos x (by decide)
theorem CA (x:Int):-9223372036854775808≤md x∧md x≤9223372036854775807:=by have:=C3 x;have:=EZ x;omega
theorem Is {x:Int}(h:0≤x)(h':x<1000003):md x=x:=Int.emod_eq_of_lt h h'
theorem GI (x:Int):md (md x)=md x:=Is (C3 x) (EZ x)
theorem Kh (a b:Int):md (md a+md b)=md (a+b):=by unfold md;rw[← Int.add_emod]
theorem DW (a b:Int):md (md a*md b)=md (a*b):=by unfold md;rw[← Int.mul_emod]
theorem M5 (a b:Int):md (md a-md b)=md (a-b):=by unfold md;rw[← Int.sub_emod]
theorem OO (a b:Int):md (md a+b)=md (a+b):=by rw[← Kh,GI,Kh]
theorem JT (a b:Int):md (a+md b)=md (a+b):=by rw[← Kh,GI,Kh]
theorem Tt (a b:Int):md (a*md b)=md (a*b):=by rw[← DW,GI,DW]
theorem OP (a b:Int):md (md a-b)=md (a-b):=by rw[← M5,GI,M5]
theorem M6 (a b:Int):md (a-md b)=md (a-b):=by rw[← M5,GI,M5]
theorem QG (a:Int):md (a+1000003)=md a:=by unfold md;omega
theorem O1 (a:Int):md (-(md a))=md (-a):=by have:=M6 0 a;simpa using this
theorem It {a b:Int}(ha:0≤a)(ha':a<1000003)(hb:0≤b)(hb':b<1000003):0≤a*b∧a*b≤1000004000004:=by refine⟨Int.mul_nonneg ha hb,?_⟩;have h1:a*b≤1000002*b:=Int.mul_le_mul_of_nonneg_right zO hb;have h2:1000002*b≤1000002*1000002:=Int.mul_le_mul_of_nonneg_left zO (by decide);omega
theorem tm (x:Int):x.tmod 1000003=if 0≤x then md x else -(md (-x)):=by unfold md;split;rename_i h;exact Int.tmod_eq_emod_of_nonneg h;rename_i h;have:=Int.tmod_eq_emod_of_nonneg (a:=-x) (b:=1000003) zO;rw[Int.neg_tmod]at this;omega
theorem FU {x:Int}(h:-9223372036854775808≤x)(h':x≤9223372036854775807):wr x=x:=Eh h h'
theorem VO (n:Int):(wr (n.tmod 1000003+((1000003:Nat):Int))).tmod 1000003=md n:=by have h1:=C3 n;have h2:=EZ n;have h3:=C3 (-n);have h4:=EZ (-n);rw[tm n];split;rw[FU zO zO,tm,if_pos (by omega)];have:=QG (md n);rw[GI]at this;simpa using this;rw[FU zO zO,tm,if_pos (by omega)];have e1:md (-(md (-n))+((1000003:Nat):Int))=md (-(md (-n))):=QG _;rw[e1,O1];simp
theorem M7 (a b:Int):(wr (md a+md b)).tmod 1000003=md (a+b):=by have h1:=C3 a;have h2:=EZ a;have h3:=C3 b;have h4:=EZ b;rw[FU zO zO,tm,if_pos zO,Kh]
theorem N1 (a b:Int):(wr (md a*md b)).tmod 1000003=md (a*b):=by have:=It (C3 a) (EZ a) (C3 b) (EZ b);rw[FU zO zO,tm,if_pos zO,DW]
theorem QH (a b:Int):md (a+wr (((1000003:Nat):Int)-md b))=md (a-b):=by have h3:=C3 b;have h4:=EZ b;rw[FU zO zO,show a+(((1000003:Nat):Int)-md b)=(a-md b)+1000003 from by omega,QG,M6]
theorem Ki (a:Int)(k:Nat):md ((md a) ^ k)=md (a ^ k):=by
 induction k with
 |zero=>rw[Int.pow_zero,Int.pow_zero]
 |succ k ih=>rw[Int.pow_succ,Int.pow_succ,← DW,ih,GI,DW]
def pw (a n:Int):Int:=if n<0 then 0 else md (a ^ n.toNat)
theorem VP (a n:Int):-9223372036854775808≤pw a n∧pw a n≤9223372036854775807:=by unfold pw;split;omega;exact CA _
theorem VQ (a n:Int):0≤pw a n∧pw a n<1000003:=by unfold pw;split;omega;exact⟨C3 _,EZ _⟩
def ER (a:Int):Int:=pw a ((1000001:Nat):Int)
theorem JU (a:Int):-9223372036854775808≤ER a∧ER a≤9223372036854775807:=VP _ _
theorem Iu (a:Int):0≤ER a∧ER a<1000003:=VQ _ _
theorem N2 (a:Int)(k:Nat):md (((1:Nat):Int)*(md a) ^ k)=md (a ^ k):=by rw[show((1:Nat):Int)*(md a) ^ k=(md a) ^ k from Int.one_mul _,Ki]
theorem VR {x b m R:Int}(h:md (x*b ^ m.toNat)=R)(h0:0<m)(h1:m % 2=1):md (md (x*b)*(md (b*b)) ^ (m / 2).toNat)=R:=by
 rw[← h,← DW,GI,Ki,DW];congr 1;have e:m.toNat=2*(m / 2).toNat+1:=by omega
 rw[e,Int.pow_succ,Int.pow_mul,show b ^ 2=b*b from by rw[Int.pow_succ,Int.pow_succ,Int.pow_zero,Int.one_mul]];rw[Int.mul_comm ((b*b) ^ (m / 2).toNat) b,Int.mul_assoc]
theorem Tu {x b m R:Int}(h:md (x*b ^ m.toNat)=R)(h0:0<m)(h1:¬m % 2=1):md (x*(md (b*b)) ^ (m / 2).toNat)=R:=by
 rw[← h,← DW,Ki,DW];congr 1;have e:m.toNat=2*(m / 2).toNat:=by omega
 rw[e,Int.pow_mul,show b ^ 2=b*b from by rw[Int.pow_succ,Int.pow_succ,Int.pow_zero,Int.one_mul]]
theorem QJ {x b m a n:Int}(h:md (x*b ^ m.toNat)=md (a ^ n.toNat))(h0:0≤m)(h1:¬((0:Nat):Int)<m)(hn:¬n<((0:Nat):Int))(hx:0≤x∧x<1000003):x=pw a n:=by
 have e:m=0:=by omega
 subst e;unfold pw;rw[if_neg zO,← h];simp only[Int.toNat_zero,Int.pow_zero,Int.mul_one];rw[Is hx.1 hx.2]
theorem QK {a n:Int}(h:n<((0:Nat):Int)):((0:Nat):Int)=pw a n:=by unfold pw;rw[if_pos (by omega)];rfl
theorem bP {m:Int}(h:0≤m):m.tmod ((2:Nat):Int)=m % 2:=Int.tmod_eq_emod_of_nonneg h
theorem ZC {m:Int}(h:0≤m)(h':m≤9223372036854775807):IntKind.i64.wrap (m.tdiv ((2:Nat):Int))=m / 2:=by rw[Int.tdiv_eq_ediv_of_nonneg h];exact FU (x:=m / 2) zO zO
theorem N3 {x b:Int}(hx:0≤x∧x<1000003)(hb:0≤b∧b<1000003):(wr (x*b)).tmod ((1000003:Nat):Int)=md (x*b):=by have:=It hx.1 hx.2 hb.1 hb.2;rw[FU zO (by omega)];have:=tm (x*b);rw[if_pos (by omega)]at this;exact this
theorem BN (x:Int):0≤md x∧md x<1000003:=⟨C3 x,EZ x⟩
def Io (n:Int):Bool:=decide (0≤n) && decide (n≤1000002)
theorem Dl {n:Int}:Io n=true↔0≤n∧n<1000003:=by unfold Io;simp only[z7,decide_eq_true_eq];omega
def Bd (l:List Int):Bool:=l.all Io
theorem QL (f:Int→Bool)(l:List Int):(l.take 0).all f=true:=rfl
theorem QM {α:Type}{f:α→Bool}{l:List α}{k:Nat}(d:α)(h:(l.take k).all f=true)(hk:k<l.length)(hf:f (l.getD k d)=true):(l.take (k+1)).all f=true:=by
 rw[List.take_succ_eq_append_getElem hk,List.all_append,h];have e:l.getD k d=l[k]:=by simp[hk]
 rw[e]at hf;simp[hf]
theorem QN {α:Type}{f:α→Bool}{l:List α}{k:Nat}(d:α)(hk:k<l.length)(hf:f (l.getD k d)=false):l.all f=false:=by
 have e:l.getD k d=l[k]:=by simp[hk]
 rw[e]at hf;rw[List.all_eq_false];exact⟨l[k],List.getElem_mem hk,by simp[hf]⟩
theorem QP {α:Type}{f:α→Bool}{l:List α}{k:Nat}(h:(l.take k).all f=true)(hk:l.length≤k):l.all f=true:=by rwa [za hk]at h
theorem Br {l:List Int}(h:Bd l=true)(k:Nat):0≤l.getD k 0∧l.getD k 0<1000003:=by
 by_cases hk:k<l.length;have e:l.getD k 0=l[k]:=by simp[hk]
 rw[e];exact Dl.1<|zm.1 h _<|List.getElem_mem hk;have e:l.getD k 0=0:=by simp[Nat.not_lt.1 hk]
 rw[e];omega
theorem BI {α:Type}{l:List α}{k:Nat}(d:α)(h:k<l.length):l.take (k+1)=l.take k++[l.getD k d]:=by rw[List.take_succ_eq_append_getElem h];simp[h]
def E8 {α:Type}(n:Nat)(f:Nat→α):List α:=(List.range n).map f
@[simp] theorem Bl {α:Type}(n:Nat)(f:Nat→α):(E8 n f).length=n:=by simp[E8]
theorem Bo {α:Type}{n:Nat}{f:Nat→α}{k:Nat}(d:α)(h:k<n):(E8 n f).getD k d=f k:=by simp[E8,h]
theorem Kj {α:Type}(n:Nat)(f:Nat→α):E8 (n+1) f=E8 n f++[f n]:=by simp[E8,List.range_succ]
theorem Tv {α:Type}{n:Nat}{f g:Nat→α}(h:∀k,k<n→f k=g k):E8 n f=E8 n g:=by unfold E8;exact List.map_congr_left fun k hk=>h k<|List.mem_range.1 hk
def Fp {α:Type}(k:Nat)(t z:List α):List α:=t.take k++z.drop k
theorem GW {α:Type}(t z:List α):Fp 0 t z=z:=by simp[Fp]
theorem Iv {α:Type}{k:Nat}{t z:List α}(h:t.length=z.length)(hk:z.length≤k):Fp k t z=t:=by simp[Fp,za (show t.length≤k by omega),List.drop_of_length_le hk]
@[simp] theorem Gh {α:Type}(k:Nat)(t z:List α)(h:t.length=z.length):(Fp k t z).length=z.length:=by simp[Fp];omega
theorem M8 {α:Type}{k:Nat}{t z:List α}(d:α)(h:t.length=z.length)(hk:k<z.length):(Fp k t z).set k (t.getD k d)=Fp (k+1) t z:=by
 unfold Fp;have hl:(t.take k).length=k:=by simp;omega
 rw[BI d zO,List.set_append_right _ _ zO,hl,Nat.sub_self,List.append_assoc];congr 1;rw[List.drop_eq_getElem_cons hk];rfl
theorem QQ {α:Type}{k j:Nat}{t z:List α}(d:α)(h:t.length=z.length)(hkj:k≤j)(hj:j<z.length):(Fp k t z).getD j d=z.getD j d:=by
 unfold Fp;have hl:(t.take k).length=k:=by simp;omega
 rw[List.getD_eq_getElem?_getD,List.getElem?_append_right zO,hl,List.getElem?_drop,List.getD_eq_getElem?_getD];congr 2;omega
theorem VS {α:Type}{k j:Nat}{t z:List α}(d:α)(hkj:j<k)(hj:j<t.length):(Fp k t z).getD j d=t.getD j d:=by unfold Fp;rw[List.getD_eq_getElem?_getD,List.getElem?_append_left (by simp;omega),List.getElem?_take,if_pos hkj,List.getD_eq_getElem?_getD]
theorem M9 {α:Type}{n k:Nat}{f:Nat→α}{z:List α}(hz:z.length=n)(hk:k<n):Fp (k+1) (E8 n f) z=(Fp k (E8 n f) z).set k (f k):=by rw[← M8 (f k) (by simp[hz]) zO,Bo _ hk]
theorem OQ (l:List Int):(!l.any fun x=>!Io x)=Bd l:=by unfold Bd;rw[← List.all_eq_not_any_not]
theorem QR {α:Type}(l:List α)(i j:Nat)(x d:α)(hi:i<l.length):(l.set i x).getD j d=if j=i then x else l.getD j d:=by rw[List.getD_eq_getElem?_getD,List.getElem?_set];by_cases h:i=j;subst h;simp[hi];simp[h,Ne.symm h]
def cE (a b:List Int)(y:Int):List Int:=E8 a.length fun k=>md (a.getD k 0-md (y*b.getD k 0))
theorem EJ {n:Nat}{f:Nat→Int}(h:∀k,k<n→0≤f k∧f k<1000003):Bd (E8 n f)=true:=by
 unfold Bd E8;rw[zm]
 intro x hx;obtain⟨k,hk,rfl⟩:=List.mem_map.1 hx;exact Dl.2<|h k<|List.mem_range.1 hk
def cF (c:Nat)(rc:List Int)(iv:Int):Nat→List (List Int)→List (List Int):=it fun j M=>M.set (c+1+j) (cE (M.getD (c+1+j) []) rc (md ((M.getD (c+1+j) []).getD c 0*iv)))
theorem Le {α:Type}(l:List α){r:Nat}(d:α)(h:r<l.length):l.set r (l.getD r d)=l:=by
 have:l.getD r d=l[r]:=by simp[h]
 rw[this,List.set_getElem_self]
theorem QS {α:Type}{a b:List α}{d:α}{k:Nat}(h:∀j,j<k→a.getD j d=b.getD j d)(hk:a.getD k d=b.getD k d):∀j,j<k+1→a.getD j d=b.getD j d:=by intro j hj;by_cases e:j=k;subst e;exact hk;exact h j zO
theorem N4 {α:Type}{a b:List α}{d:α}{k:Nat}(h:∀j,j<k→a.getD j d=b.getD j d)(hl:a.length=b.length)(hk:a.length≤k):a=b:=by
 apply List.ext_getElem hl
 intro i h1 h2;have:=h i zO;simpa [h1,h2]using this
theorem QT {α:Type}{a b:List α}{d:α}{k:Nat}(h:a.getD k d≠b.getD k d):a≠b:=fun e=>h (by rw[e])
theorem Tw {α:Type}{a b:List α}(h:a.length≠b.length):a≠b:=fun e=>h (by rw[e])
theorem FV {α β:Type}{f:α→β}{l:List α}{k:Nat}(d:α)(h:k<l.length):(l.take (k+1)).map f=(l.take k).map f++[f (l.getD k d)]:=by rw[BI d h,List.map_append];rfl
def XV (a b:List Int):Nat→Int
 |0=>0
 |k+1=>md (XV a b k+a.getD k 0*b.getD k 0)
def ZH (a b:List Int):Int:=XV a b a.length
theorem VT {s x y:Int}(hs:0≤s∧s<1000003)(hx:0≤x∧x<1000003)(hy:0≤y∧y<1000003):(wr (s+wr (x*y))).tmod ((1000003:Nat):Int)=md (s+x*y):=by have h:=It hx.1 hx.2 hy.1 hy.2;rw[FU (x:=x*y) zO zO,FU zO (by omega)];exact Int.tmod_eq_emod_of_nonneg zO
def XP (a:List Int)(y:Int):List Int:=a.map fun x=>md (x*y)
def cG (m:List (List Int))(v:List Int):List Int:=m.map fun r=>ZH r v
def nw (a:List (List Int))(s:List Int):Nat→List Int
 |0=>s
 |k+1=>XP (cG a (nw a s k)) (ER ((k+1:Nat):Int))
def up (n:Nat)(k:Int):List Int:=E8 n fun i=>k+(i:Int)
section
theorem Tx {α:Type}{l l':List α}{k:Nat}{d:α}(h:k<l.length):(l++l').getD k d=l.getD k d:=by rw[List.getD_eq_getElem?_getD,List.getElem?_append_left h,List.getD_eq_getElem?_getD]
theorem QU {α:Type}{l l':List α}{k:Nat}{d:α}(h:l.length≤k):(l++l').getD k d=l'.getD (k-l.length) d:=by rw[List.getD_eq_getElem?_getD,List.getElem?_append_right h,List.getD_eq_getElem?_getD]
theorem Ly:∀d,d<1001→2≤d→1000003 % d≠0:=by decide +kernel
theorem VU {d:Nat}(h:d ∣ 1000003)(h2:2≤d):d=1000003:=by
 obtain⟨e,he⟩:=h;by_cases h3:d<1001;exact absurd (by rw[he];exact Nat.mul_mod_right d e)<|Ly d h3 h2;by_cases h4:e<1001;by_cases h5:2≤e;exact absurd (by rw[he];exact Nat.mul_mod_left d e)<|Ly e h4 h5;have:e=0∨e=1:=by omega
 rcases this with rfl|rfl <;> omega;have:1001*1001≤d*e:=Nat.mul_le_mul zO zO;omega
structure Ar (α:Type) where
 q:α→α→α
 t:α→α→α→α
 z:α→Bool
 d:α
section hom
variable {α β:Type} {R:Ar α} {S:Ar β} {V:α→Prop} {h:α→β} {n m c p:Nat} {M:List (List α)}
theorem FW {row:List α}{k:Nat}{d:α}{d':β}(hk:k<row.length):(row.map h).getD k d'=h (row.getD k d):=by simp[hk]
end hom
end
def Lz (a b:List Int)(k:Nat):Nat→Int
 |0=>0
 |i+1=>md (Lz a b k i+a.getD i 0*b.getD (k-i) 0)
theorem OR (a b:List Int)(k:Nat):∀i,0≤Lz a b k i∧Lz a b k i<1000003
 |0=>by unfold Lz;omega
 |i+1=>BN _
def E5 (a b:List Int):List Int:=E8 a.length fun k=>Lz a b k (k+1)
@[simp] theorem XW (a b:List Int):(E5 a b).length=a.length:=by simp[E5]
theorem QW (a b:List Int):Bd (E5 a b)=true:=EJ fun _ _=>OR _ _ _ _
def MV (a b o:List Int)(k:Nat):Nat→Int
 |0=>a.getD k 0
 |i+1=>md (MV a b o k i-o.getD i 0*b.getD (k-i) 0)
def HT (a b:List Int):Nat→List Int
 |0=>[]
 |k+1=>HT a b k++[md (MV a b (HT a b k) k k*ER (b.getD 0 0))]
def De (a b:List Int):List Int:=HT a b a.length
@[simp] theorem DB (a b:List Int):∀k,(HT a b k).length=k
 |0=>rfl
 |k+1=>by simp[HT,DB a b k]
@[simp] theorem QX (a b:List Int):(De a b).length=a.length:=DB _ _ _
theorem OS (a b:List Int):∀k,Bd (HT a b k)=true
 |0=>rfl
 |k+1=>by
  unfold HT Bd
  rw[List.all_append]
  have h:=OS a b k
  unfold Bd at h
  simp only[h,List.all_cons,List.all_nil,Bool.and_true,Bool.true_and]
  exact Dl.2<|BN _
theorem N5 (a b:List Int):Bd (De a b)=true:=OS _ _ _
theorem OT (a b:List Int){i:Nat}:∀k m,i<k→k≤m→(HT a b m).getD i 0=(HT a b k).getD i 0
 |k,m,h,hm=>by
  induction m with
  |zero=>omega
  |succ m ih =>
   by_cases e:k=m+1
   subst e;rfl
   show(HT a b m++_).getD i 0=_
   rw[Tx (by rw[DB];omega)]
   exact ih zO
theorem LA {a b o o':List Int}{k:Nat}:∀i,(∀j,j<i→o.getD j 0=o'.getD j 0)→MV a b o k i=MV a b o' k i
 |0,_=>rfl
 |i+1,h=>by unfold MV;rw[LA i fun j hj=>h j zO,h i (by omega)]
theorem OU {a b:List Int}{k:Nat}(hk:k<a.length):(De a b).getD k 0=md (MV a b (De a b) k k*ER (b.getD 0 0)):=by unfold De;rw[OT a b (k+1) a.length zO (by omega)];show(HT a b k++[_]).getD k 0=_;rw[QU (by simp),DB,Nat.sub_self];show md _=_;rw[LA (o:=HT a b k) (o':=HT a b a.length) k fun j hj=>(OT a b k a.length hj zO).symm]
theorem Ty {a b:List Int}{k:Nat}(hk:k<a.length){z:List Int}(hz:z.length=a.length) :
  (Fp k (De a b) z).set k (md (MV a b (De a b) k k*ER (b.getD 0 0)))=Fp (k+1) (De a b) z:=by
 rw[← OU hk,M8 0 (by simp[hz]) (by omega)]
def Df (a b:List Int):List Int:=E8 a.length fun k=>md (a.getD k 0+b.getD k 0)
def DG (a:List Int)(n:Int):List Int:=E8 a.length fun k=>md (a.getD k 0*n)
def Fw (a b:List Int):List Int:=E8 a.length fun k=>md (a.getD k 0-b.getD k 0)
@[simp] theorem Iw (a b:List Int):(Df a b).length=a.length:=by simp[Df]
@[simp] theorem GY (a:List Int)(n:Int):(DG a n).length=a.length:=by simp[DG]
@[simp] theorem QY (a b:List Int):(Fw a b).length=a.length:=by simp[Fw]
theorem N6 (a b:List Int):Bd (Df a b)=true:=EJ fun _ _=>BN _
theorem Ix (a:List Int)(n:Int):Bd (DG a n)=true:=EJ fun _ _=>BN _
theorem QZ (a b:List Int):Bd (Fw a b)=true:=EJ fun _ _=>BN _
theorem R0 {a b:List Int}(h:a.length≤b.length):Df a (DG b 1000002)=Fw a b:=by unfold Df Fw;refine Tv fun k hk=>?_;unfold DG;rw[Bo _ zO,JT];unfold md;omega
theorem Tz {x y:Int}(hx:0≤x∧x<1000003)(hy:0≤y∧y<1000003):(wr (x+y)).tmod ((1000003:Nat):Int)=md (x+y):=by rw[FU zO (by omega)];exact Int.tmod_eq_emod_of_nonneg zO
theorem R1 {n k:Nat}{T:List Int}(hT:T.length=n)(hk:k<n):(Fp k T (List.replicate n 0)).set k 0=Fp k T (List.replicate n 0):=by
 have h1:(Fp k T (List.replicate n 0)).length=n:=by rw[Gh _ _ _ (by simp[hT])];simp
 have h2:(Fp k T (List.replicate n 0)).getD k 0=0:=by rw[QQ 0 (by simp[hT]) (A7 _) (by simpa using hk)];simp[hk]
 have h3:=Le (Fp k T<|List.replicate n 0) (r:=k) 0 zO;rw[h2]at h3;exact h3
theorem R2 {a b q:List Int}{k i:Nat}(hq:Bd q=true)(hb:Bd b=true):md (MV a b q k i-wr (q.getD i 0*b.getD (k-i) 0))=MV a b q k (i+1):=by have h1:=Br hq i;have h2:=Br hb (k-i);have h:=It h1.1 h1.2 h2.1 h2.2;rw[FU zO (by omega)];rfl
def Cx (N:Nat)(s:List Int):Prop:=s.length=N∧Bd s=true
def Ch (b:List Int):List (List Int):=b.map fun x=>[x]
def pm:Nat→Nat→Nat→Nat→Nat
 |0,_,_,acc=>acc
 |f+1,b,e,acc=>pm f (b*b % 1000003) (e / 2) (if e % 2=1 then acc*b % 1000003 else acc)
theorem OV:∀(f b e acc:Nat),e<2 ^ f→pm f b e acc % 1000003=acc*b ^ e % 1000003
 |0,b,e,acc,h=>by
  have:e=0:=by simp at h;exact h
  subst this;simp[pm]
 |f+1,b,e,acc,h=>by
  unfold pm
  rw[OV f _ _ _ (by rw[Nat.pow_succ]at h;omega)]
  have e1:(b*b % 1000003) ^ (e / 2) % 1000003=(b*b) ^ (e / 2) % 1000003:=(Nat.pow_mod ..).symm
  have e2:(b*b) ^ (e / 2)=b ^ (2*(e / 2)):=by rw[Nat.pow_mul];congr 1;rw[Nat.pow_succ,Nat.pow_one]
  split
  rename_i ho
  rw[Nat.mul_mod,e1,← Nat.mul_mod,Nat.mul_mod (acc*b % 1000003),Nat.mod_mod,← Nat.mul_mod,e2,Nat.mul_assoc,← Nat.pow_succ']
  congr 3;omega
  rw[Nat.mul_mod,e1,← Nat.mul_mod,e2]
  congr 3;omega
theorem Q0:∀a,a<1001→a=0∨pm 20 a 1000002 1=1:=by decide +kernel
theorem Ma {a e:Nat}(he:e=1000002)(h:0<a)(h':a<1001):a ^ e % 1000003=1:=by
 have h1:=(Q0 a h').resolve_left zO;have h2:∀e,e<2 ^ 20→pm 20 a e 1=1→a ^ e % 1000003=1:=fun e he h=>by
  have h3:=OV 20 a e 1 he;rw[Nat.one_mul,h]at h3;exact h3.symm
 exact h2 e (by subst he;decide) (by subst he;exact h1)
theorem Mb {x y:Int}(n:Nat)(h:md x=md y):md (x ^ n)=md (y ^ n):=by rw[← Ki,h,Ki]
theorem Mc (k:Nat):(-1:Int) ^ (2*k)=1:=by
 rw[Int.pow_mul];have:(-1:Int) ^ 2=1:=by decide
 rw[this,Int.one_pow]
theorem O2:∀(n a:Nat),a≤n→0<a→a<1000003→md ((a:Int) ^ 1000002)=1
 |0,a,h,h0,_=>by omega
 |n+1,a,h,h0,h1=>by
  by_cases hs:a<1001
  have:=Ma (e:=1000002) rfl h0 hs
  unfold md
  rw[← Int.natCast_pow]
  have e:((a ^ 1000002:Nat):Int) % 1000003=((a ^ 1000002 % 1000003:Nat):Int):=by omega
  rw[e,this];rfl
  have hq:1000003 / a<a:=by rw[Nat.div_lt_iff_lt_mul (by omega)];have:=Nat.mul_le_mul (show 1001≤a by omega) (show 1001≤a by omega);omega
  have hq0:0<1000003 / a:=Nat.div_pos zO h0
  have hr:1000003 % a<a:=Nat.mod_lt _ h0
  have hr0:0<1000003 % a:=by
   rcases Nat.eq_zero_or_pos (1000003 % a)with hz|hz;have:=VU (Nat.dvd_of_mod_eq_zero hz) (by omega);omega;exact hz
  have f1:=O2 n (1000003 / a) zO hq0 zO;have f2:=O2 n (1000003 % a) zO hr0 zO;have hdm:=Nat.div_add_mod 1000003 a;have key:md (((1000003 / a:Nat):Int)*(a:Int))=md (-1*((1000003 % a:Nat):Int)):=by
   have e:((1000003 / a:Nat):Int)*(a:Int)=1000003+(-1*((1000003 % a:Nat):Int)):=by
    have:((a*(1000003 / a)+1000003 % a:Nat):Int)=1000003:=by rw[hdm];rfl
    rw[Int.natCast_add,Int.natCast_mul,Int.mul_comm]at this;omega
   rw[e,Int.add_comm];exact QG _
  have k2:=Mb 1000002 key;rw[Int.mul_pow,Int.mul_pow,← DW,← DW (_ ^ _) (((1000003 % a:Nat):Int) ^ 1000002),f1,f2,show(1000002:Nat)=2*500001 from rfl,Mc]at k2;rw[show(2*500001:Nat)=1000002 from rfl,Int.one_mul,GI]at k2;rw[k2];decide
theorem OW {a:Int}(h:0<a)(h':a<1000003):md (a*ER a)=1:=by obtain⟨x,rfl⟩:=Int.eq_ofNat_of_zero_le (show 0≤a by omega);unfold ER pw;rw[if_neg zO,Tt];have:(((1000001:Nat):Int)).toNat=1000001:=rfl;rw[this,← Int.pow_succ'];exact O2 x x (A7 _) zO zO
def cv (f g:Nat→Int):Nat→Int
 |0=>f 0*g 0
 |k+1=>f 0*g (k+1)+cv (fun i=>f (i+1)) g k
def sm (n:Nat)(f:Nat→Int):Int:=match n with
 |0=>0
 |n+1=>sm n f+f n
theorem N7 {f g:Nat→Int}:∀ {n:Nat},(∀i,i<n→f i=g i)→sm n f=sm n g
 |0,_=>rfl
 |n+1,h=>by unfold sm;rw[N7 (n:=n) fun i hi=>h i zO,h n (by omega)]
theorem OX (f:Nat→Int):∀n,sm (n+1) f=f 0+sm n (fun i=>f (i+1))
 |0=>by unfold sm;unfold sm;omega
 |n+1=>by
  show sm (n+1) f+f (n+1)=f 0+(sm n (fun i=>f (i+1))+f (n+1))
  rw[OX f n];omega
theorem R3:∀(f g:Nat→Int)(k:Nat),cv f g k=sm (k+1) fun i=>f i*g (k-i)
 |f,g,0=>by unfold cv sm;unfold sm;simp
 |f,g,k+1=>by
  rw[OX]
  unfold cv
  rw[R3 (fun i=>f (i+1)) g k]
  congr 1
  exact N7 fun i hi=>by rw[show k+1-(i+1)=k-i from by omega]
theorem R4 (a b:List Int)(k:Nat):∀i,Lz a b k i=md (sm i fun j=>a.getD j 0*b.getD (k-j) 0)
 |0=>by unfold Lz sm;rfl
 |i+1=>by unfold Lz sm;rw[R4 a b k i,OO]
theorem TA {a b:List Int}{k:Nat}(hk:k<a.length):(E5 a b).getD k 0=md (cv (fun i=>a.getD i 0) (fun i=>b.getD i 0) k):=by unfold E5;rw[Bo _ hk,R4,R3]
theorem N8 (b:List Int):(Ch b).length=b.length:=by simp[Ch]
section
section ops
variable {N:Nat} {a b:List Int}
theorem R5 (a b o:List Int)(k:Nat):∀i,md (MV a b o k i)=md (a.getD k 0-sm i fun j=>o.getD j 0*b.getD (k-j) 0)
 |0=>by unfold MV sm;rw[Int.sub_zero]
 |i+1=>by
  unfold MV sm
  rw[GI,← OP,R5 a b o k i,OP]
  congr 1;omega
end ops
end
theorem Kk {α:Type}{l:List α}{j:Nat}{d:α}(h:j<l.length):l.getD j d=l[j]:=by simp[h]
def Q1 (s:List Int):Bool:=(decide (((1:Nat):Int)≤((s.length:Nat):Int)) && decide (((s.length:Nat):Int)≤((13:Nat):Int))) && Bd s
theorem Hk {s:List Int}:Q1 s=true↔(1≤s.length∧s.length≤13)∧Bd s=true:=by unfold Q1;simp only[z7,decide_eq_true_eq];constructor;rintro⟨⟨h1,h2⟩,h3⟩;exact⟨⟨zO,zO⟩,h3⟩;rintro⟨⟨h1,h2⟩,h3⟩;exact⟨⟨zO,zO⟩,h3⟩
section
theorem VV (B U:Nat)(H:Array Obj){u:Value}(h:u.cells=#[u]∧u.oneCell'=true):Fr rV B U H u u:=⟨[],⟨rfl,rfl,h.1,h.2⟩,zk,fun c hc=>by cases hc⟩
theorem oV {e:TypeId}:Cb (Bz rV e):=Dx Cw
section rd
variable {e e':TypeId} {B U:Nat} {H:Array Obj} {v:Value}
theorem Fr.rdV1 {us:List Value}(h:Fr (Bz rV e) B U H v us):Rd (Bg rV) H v us:=h.rd id
theorem Rd.getV {us:List Value}{k:Nat}(h:Rd (Bg rV) H v us)(hk:k<us.length):JQ H (AD v k 1)=some (us.getD k undef)∧(us.getD k undef).cells=#[us.getD k undef]∧(us.getD k undef).oneCell'=true:=by obtain⟨u,h1,F,h2,_,h3,h4⟩:=Rd.get undef h hk;rw[← h2];exact⟨h1,h3,h4⟩
end rd
end
section
def bQ (P:Program)(s:TypeId)(i off:Nat):Bool :=
 match P.underlying s with
 |some (.struct fs) =>
  match fs[i]? with
  |some f=>(f.offset == off) && (match P.info? f.type with|some inf=>inf.size != 0|none=>false)
  |none=>false
 |_=>false
def BX (H:Array Obj)(g:Nat)(cs:List Value):Prop:=∃e,H[g]? = some (.cells cs.toArray e (0,0))
theorem BX.lt {H:Array Obj}{g:Nat}{cs:List Value}(h:BX H g cs):g<H.size:=by obtain⟨e,h⟩:=h;exact getElem?_lt h
theorem BX.ext {w w':World}{g:Nat}{cs:List Value}(h:BX w.heap g cs)(k:AK w w'):BX w'.heap g cs:=by have hl:=h.lt;obtain⟨e,h⟩:=h;exact⟨e,by rw[k.heap hl];exact h⟩
theorem BX.chg {w w':World}{g:Nat}{cs:List Value}{F:List Nat}(h:BX w.heap g cs)(k:Ax F w w')(hg:g∉F):BX w'.heap g cs:=by have hl:=h.lt;obtain⟨e,h⟩:=h;exact⟨e,by rw[k.block g hl hg];exact h⟩
theorem BX.ld {H:Array Obj}{g k:Nat}{cs:List Value}(h:BX H g cs)(hk:k<cs.length):JQ H (.pointer (some ⟨g,k,none⟩))=some (cs.getD k undef):=by obtain⟨e,h⟩:=h;simp only[JQ,C8,h];simp[hk]
theorem Ax.fresh {F G:List Nat}{a b c:World}(h:Ax F a b)(k:Ax G b c)(hG:∀x∈G,a.heap.size≤x):Ax F a c :=
 ⟨k.os.trans h.os,k.tape.trans h.tape,k.output.trans h.output,A8 h.size k.size,fun i hi hm=>(k.block i (Nat.lt_of_lt_of_le hi h.size) fun hg=>by have:=hG i hg;omega).trans (h.block i hi hm)⟩
def EA (H:Array Obj)(g:Nat)(v:Value)(cs:List UInt8)(n:Nat):Prop:=∃sd:Int,BX H g [v,.int .i64 ((n:Nat):Int),.int .u64 sd]∧∃F,Bg rU H v cs F∧∀b∈F,b<g
theorem EA.lt {H:Array Obj}{g n:Nat}{v:Value}{cs:List UInt8}(h:EA H g v cs n):g<H.size:=by obtain⟨sd,h,_⟩:=h;exact h.lt
theorem EA.ext {w w':World}{g n:Nat}{v:Value}{cs:List UInt8}(h:EA w.heap g v cs n)(k:AK w w'):EA w'.heap g v cs n:=by obtain⟨sd,h,F,h1,h2⟩:=h;exact⟨sd,h.ext k,F,DF.stable h1 fun b hb=>k.heap (DF.lt h1 b hb),h2⟩
theorem EA.chg {w w':World}{g n:Nat}{v:Value}{cs:List UInt8}{G:List Nat}(h:EA w.heap g v cs n)(k:Ax G w w')(hG:∀b∈G,g<b):EA w'.heap g v cs n:=by obtain⟨sd,h,F,h1,h2⟩:=h;exact⟨sd,h.chg k fun hm=>by have:=hG g hm;omega,F,DF.stable h1 fun b hb=>k.block b (DF.lt h1 b hb) fun hm=>by have:=hG b hm;have:=h2 b hb;omega,h2⟩
theorem EA.parts {w:World}{g n:Nat}{v:Value}{cs:List UInt8}(h:EA w.heap g v cs n):∃sd:Int,BX w.heap g [v,.int .i64 ((n:Nat):Int),.int .u64 sd]∧∀w',Ax [g] w w'→Rd (Bg rU) w'.heap v cs:=by
 obtain⟨sd,h,F,h1,h2⟩:=h;refine⟨sd,h,fun w' k=>⟨F,DF.stable h1 fun b hb=>k.block b (DF.lt h1 b hb) fun hm=>?_⟩⟩;have:b=g:=by simpa using hm
 have:=h2 b hb;omega
theorem EA.close {w w':World}{g n n':Nat}{v:Value}{cs:List UInt8}{sd:Int}(h:EA w.heap g v cs n)(k:Ax [g] w w')(hb:BX w'.heap g [v,.int .i64 ((n':Nat):Int),.int .u64 sd]):EA w'.heap g v cs n':=by
 obtain⟨sd0,h,F,h1,h2⟩:=h;refine⟨sd,hb,F,DF.stable h1 fun b hb=>k.block b (DF.lt h1 b hb) fun hm=>?_,h2⟩;have:b=g:=by simpa using hm
 have:=h2 b hb;omega
theorem EA.new {w w':World}{g:Nat}{v:Value}{cs:List UInt8}(h:Rd (Bg rU) w.heap v cs)(k:AK w w')(hb:BX w'.heap g [v,.int .i64 0,.int .u64 0])(hg:w.heap.size≤g):EA w'.heap g v cs 0:=by obtain⟨F,h⟩:=h;exact⟨0,hb,F,DF.stable h fun b hb=>k.heap (DF.lt h b hb),fun b hb=>by have:=DF.lt h b hb;omega⟩
theorem bR (x:UInt8):-9223372036854775808≤((x.toNat:Nat):Int)∧((x.toNat:Nat):Int)≤9223372036854775807:=by have:=x.toNat_lt;omega
theorem w8 (x:UInt8):IntKind.i64.wrap ((x.toNat:Nat):Int)=((x.toNat:Nat):Int):=Eh (bR x).1 (bR x).2
theorem OY (x:UInt8):x.toNat<256:=x.toNat_lt
section ops
variable {P:Program} {ops:Array Oper} {w0:World} {Q:Act→World→Prop} {os:List Oper} {ks:List Nat} {N:Nat} {ρ:Nat→Value} {w:World}
 {d:Nat} {ty:TypeId} {pos:String} {aft:Array Edge} {g:Option (Nat×Bool)} {t e:TypeId}
theorem B7 {x:Operand}{a:Addr}(hx:Bs N ρ x=.pointer (some a))(hu:Up ops N ρ ⟨some d,.nilCheck x,ty,pos,aft,g⟩)
  (h:LW P ops w0 Q os ks (mk N (Cs ρ d (.pointer (some a)))) w):LW P ops w0 Q (⟨some d,.nilCheck x,ty,pos,aft,g⟩::os) (0::ks) (mk N ρ) w :=
 Cv (by decide) rfl hu _ (fun w' _=>by simp[execOp,hx]) h
theorem E9 {s:TypeId}{x:Operand}{b i:Nat}(off:Nat)(hf:bQ P s i off=true)(hx:Bs N ρ x=.pointer (some ⟨b,0,none⟩))(hu:Up ops N ρ ⟨some d,.fieldAddr s x i,ty,pos,aft,g⟩)
  (h:LW P ops w0 Q os ks (mk N (Cs ρ d (.pointer (some ⟨b,off,none⟩)))) w):LW P ops w0 Q (⟨some d,.fieldAddr s x i,ty,pos,aft,g⟩::os) (0::ks) (mk N ρ) w :=
 Cv (by decide) rfl hu _ (fun w' _=>by
  unfold bQ at hf
  split at hf
  rename_i fs hfs
  split at hf
  rename_i f hff
  simp only[z7,beq_iff_eq]at hf
  obtain⟨rfl,hf2⟩:=hf
  split at hf2
  rename_i inf hin
  have hne:inf.size≠0:=by simpa using hf2
  have ha:(⟨b,0,none⟩:Addr).add f.offset=⟨b,f.offset,none⟩:=by
   unfold Addr.add;split;rename_i h0;rw[h0];simp
  simp[execOp,Instr.fieldAt,Instr.sureAddr,run_underlying hfs,hff,hx,fieldPlace,sizeOf,typeInfo,hin,hne,ha];cases hf2;cases hf;cases hf) h
theorem UQ {xt yt:TypeId}{x y:Operand}{k k':IntKind}{a b:Int}(c:Int)(hx:Bs N ρ x=.int k a)(hy:Bs N ρ y=.int k' b)(hb:0≤b)(hc:a.fdiv (2 ^ (min b.toNat k.bits))=c)(hu:Up ops N ρ ⟨some d,.binOp .shr xt x y yt,ty,pos,aft,g⟩)
  (h:LW P ops w0 Q os ks (mk N (Cs ρ d (.int k c))) w):LW P ops w0 Q (⟨some d,.binOp .shr xt x y yt,ty,pos,aft,g⟩::os) (0::ks) (mk N ρ) w :=
 Cv (by decide) rfl hu _ (fun w' _=>by
  have he:(eqGuard .shr xt x y (.int k a) (.int k' b)).run P w'=.ok () w':=rfl
  simp[execOp,hx,hy,he,binOp,Op.shift,Int.not_lt.2 hb,hc]) h
def HU (k:IntKind)(a b:Int):Int:=k.wrap ((BitVec.ofInt k.bits a &&& BitVec.ofInt k.bits b).toNat:Int)
theorem OZ (a:Int):0≤HU .u64 a 255∧HU .u64 a 255≤255:=by
 have h:(BitVec.ofInt 64 a &&& BitVec.ofInt 64 255).toNat≤255:=by
  rw[BitVec.toNat_and];exact A8 Nat.and_le_right (by decide)
 have hw:∀m:Nat,m≤255→IntKind.u64.wrap (m:Int)=(m:Int):=fun m hm=>IntWalk.u64_in _ zO;have e:HU .u64 a 255=(((BitVec.ofInt 64 a &&& BitVec.ofInt 64 255).toNat:Nat):Int):=hw _ h;rw[e];generalize (BitVec.ofInt 64 a &&& BitVec.ofInt 64 255).toNat=m at h;omega
theorem UR (a:Int):-9223372036854775808≤HU .u64 a 255∧HU .u64 a 255≤9223372036854775807:=by have:=OZ a;omega
theorem XX (a:Int):IntKind.i64.wrap (HU .u64 a 255)=HU .u64 a 255:=Eh (UR a).1 (UR a).2
theorem US {xt yt:TypeId}{x y:Operand}{k:IntKind}{a b:Int}(hx:Bs N ρ x=.int k a)(hy:Bs N ρ y=.int k b)(hu:Up ops N ρ ⟨some d,.binOp .and xt x y yt,ty,pos,aft,g⟩)
  (h:LW P ops w0 Q os ks (mk N (Cs ρ d (.int k (HU k a b)))) w):LW P ops w0 Q (⟨some d,.binOp .and xt x y yt,ty,pos,aft,g⟩::os) (0::ks) (mk N ρ) w :=
 Cv (by decide) rfl hu _ (fun w' _=>by
  have he:(eqGuard .and xt x y (.int k a) (.int k b)).run P w'=.ok () w':=rfl
  simp[execOp,hx,hy,he,binOp,Op.intBits,HU]) h
theorem BB {st:TypeId}{x y:Operand}{b k:Nat}{u:Value}{cs:List Value}(hst:(P.info? st).map (·.size)=some 1)(hx:Bs N ρ x=.pointer (some ⟨b,k,none⟩))(hy:Bs N ρ y=u)(hc:u.cells=#[u]∧u.oneCell'=true)
  (hb:BX w.heap b cs) (hk:k<cs.length) (hu:Up ops N ρ ⟨none,.store st x y,ty,pos,aft,g⟩)
  (h:∀w1,Ax [b] w w1→w1.heap.size=w.heap.size→BX w1.heap b (cs.set k u)→LW P ops w0 Q os ks (mk N ρ) w1) :
  LW P ops w0 Q (⟨none,.store st x y,ty,pos,aft,g⟩::os) (4::ks) (mk N ρ) w:=by
 obtain⟨e,hb⟩:=hb;have hr:=NZ (P:=P) hst hb (j:=k) (by simpa using hk) hc.1 hc.2;refine VJ rfl hu _ (Kg hx hy hr)<|h _ (Tr _ _ _ _) (by simp[World.setCell]) ⟨e,?_⟩;rw[QD hb];simp
theorem Bp {parts:Array (Nat×Operand)}{ps:Array (Nat×Value)}(u:Value)(hp:(parts.map fun(i,x)=>(i,Bs N ρ x))=ps)(hr:∀w',(Instr.build t ps).run P w'=.ok u w')(hu:Up ops N ρ ⟨some d,.build t parts,ty,pos,aft,g⟩)
  (h:LW P ops w0 Q os ks (mk N (Cs ρ d u)) w):LW P ops w0 Q (⟨some d,.build t parts,ty,pos,aft,g⟩::os) (0::ks) (mk N ρ) w :=
 Cv (by decide) rfl hu _ (fun w' _=>by subst hp;simp[execOp,hr w']) h
theorem C4 {x:Operand}{cs:Array Value}(hx:Bs N ρ x=.agg cs)(hu:Up ops N ρ ⟨some d,.box t x,ty,pos,aft,g⟩)
  (h:∀w1,AK w w1→w1.heap.size=w.heap.size+1→BX w1.heap w.heap.size cs.toList→LW P ops w0 Q os ks (mk N (Cs ρ d (.pointer (some ⟨w.heap.size,0,none⟩)))) w1) :
  LW P ops w0 Q (⟨some d,.box t x,ty,pos,aft,g⟩::os) (3::ks) (mk N ρ) w:=by
 have hrun:(execOp (Bs N ρ) ⟨some d,.box t x,ty,pos,aft,g⟩).run P w=.ok (.value (.pointer (some ⟨w.heap.size,0,none⟩))) (w.alloc (.cells cs t)):=by
  simp[execOp,Instr.box,newVar,newRow,hx,Value.cells]
 refine J2 rfl hu _ _ hrun (BM _ _)<|h _ (BM _ _) (by simp) ⟨t,?_⟩;have:=heap_alloc_new w (.cells cs t);simpa using this
end ops
end
section
abbrev BC (α:Type):=Array Obj→List Value→α→List Nat→Prop
structure C5 {α:Type}(s:Nat)(E:BC α):Prop where
 len:∀ {H cs x F},E H cs x F→cs.length=s
 one:∀ {H cs x F},E H cs x F→∀u∈cs,u.cells=#[u]∧u.oneCell'=true
 lt:∀ {H cs x F},E H cs x F→∀b∈F,b<H.size
 stable:∀ {H H' cs x F},E H cs x F→(∀b∈F,H'[b]? = H[b]?)→E H' cs x F
def CI {α:Type}(E:BC α)(H:Array Obj):List (List Value)→List α→List Nat→Prop
 |[],[],F=>F=[]
 |c::css,x::xs,F=>∃F1 F2,F=F1++F2∧E H c x F1∧CI E H css xs F2
 |_,_,_=>False
section CI
variable {α:Type} {E:BC α} {s:Nat} {H H':Array Obj}
theorem CI.stable (hE:C5 s E):∀ {css:List (List Value)}{xs:List α}{F:List Nat},CI E H css xs F→(∀b∈F,H'[b]? = H[b]?)→CI E H' css xs F
 |[],[],_,h,_=>h
 |_::_,_::_,_,⟨F1,F2,rfl,h1,h2⟩,hb =>
  ⟨F1,F2,rfl,hE.stable h1 fun b hh=>hb b (z8 _ hh),CI.stable hE h2 fun b hh=>hb b (z1 _ hh)⟩
 |[],_::_,_,h,_=>h.elim
 |_::_,[],_,h,_=>h.elim
theorem CI.lt (hE:C5 s E):∀ {css:List (List Value)}{xs:List α}{F:List Nat},CI E H css xs F→∀b∈F,b<H.size
 |[],[],_,h,b,hb=>by rw[show _=[]from h]at hb;cases hb
 |_::_,_::_,_,⟨F1,F2,rfl,h1,h2⟩,b,hb=>(zi.1 hb).elim (hE.lt h1 b) (CI.lt hE h2 b)
 |[],_::_,_,h,_,_=>h.elim
 |_::_,[],_,h,_,_=>h.elim
theorem CI.get (hE:C5 s E):∀ {css:List (List Value)}{xs:List α}{F:List Nat}{k:Nat}(d:α),CI E H css xs F→k<xs.length →
  ∃cs F1,E H cs (xs.getD k d) F1∧(∀b∈F1,b∈F)∧∀i,i<s→css.flatten[k*s+i]? = some (cs.getD i undef)
 |c::css,x::xs,_,0,d,⟨F1,F2,rfl,h1,h2⟩,_=>⟨c,F1,h1,fun b hb=>z8 _ hb,fun i hi=>by
   have hl:=hE.len h1
   rw[List.flatten_cons,Nat.zero_mul,Nat.zero_add,List.getElem?_append_left (by omega)]
   simp[hl,hi]⟩
 |c::css,x::xs,_,k+1,d,⟨F1,F2,rfl,h1,h2⟩,hk=>by
  obtain⟨cs,G,q1,q2,q3⟩:=CI.get hE d h2 (by simpa using hk)
  refine⟨cs,G,by simpa using q1,fun b hh=>z1 _ (q2 b hh),fun i hi=>?_⟩
  have hl:=hE.len h1
  have e:(k+1)*s+i=c.length+(k*s+i):=by rw[Nat.succ_mul,hl];omega
  rw[List.flatten_cons,e,List.getElem?_append_right zO,Nat.add_sub_cancel_left]
  exact q3 i hi
 |[],[],_,_,_,_,hk=>by simp at hk
 |[],_::_,_,_,_,h,_=>h.elim
theorem CI.append:∀ {us vs:List (List Value)}{xs ys:List α}{F G:List Nat},CI E H us xs F→CI E H vs ys G→CI E H (us++vs) (xs++ys) (F++G)
 |[],_,[],_,_,_,h,k=>by rw[show _=[]from h];exact k
 |_::_,_,_::_,_,_,_,⟨F1,F2,rfl,h1,h2⟩,k=>⟨F1,_,by rw[List.append_assoc],h1,CI.append h2 k⟩
 |[],_,_::_,_,_,_,h,_=>h.elim
 |_::_,_,[],_,_,_,h,_=>h.elim
theorem CI.flen (hE:C5 s E):∀ {css:List (List Value)}{xs:List α}{F:List Nat},CI E H css xs F→css.flatten.length=xs.length*s
 |[],[],_,_=>by simp
 |c::css,x::xs,_,⟨F1,F2,rfl,h1,h2⟩=>by
  rw[List.flatten_cons,z4,hE.len h1,CI.flen hE h2,z9,Nat.succ_mul];omega
 |[],_::_,_,h=>h.elim
 |_::_,[],_,h=>h.elim
theorem CI.one (hE:C5 s E):∀ {css:List (List Value)}{xs:List α}{F:List Nat},CI E H css xs F→∀u∈css.flatten,u.cells=#[u]∧u.oneCell'=true
 |[],[],_,_,u,hu=>by cases hu
 |_::_,_::_,_,⟨F1,F2,rfl,h1,h2⟩,v,hv=>by
  rw[List.flatten_cons]at hv
  exact (zi.1 hv).elim (hE.one h1 v)<|CI.one hE h2 v
 |[],_::_,_,h,_,_=>h.elim
 |_::_,[],_,h,_,_=>h.elim
end CI
def D0 {α:Type}(s:Nat)(E:BC α):Bx (List α):=fun H v xs F =>
 (∃a cap,v=.slice a 0 cap∧xs=[]∧F=[]) ∨
 ∃css g off cap cur e fr F',CI E H css xs F'∧v=.slice (some ⟨g,off,none⟩) xs.length cap∧H[g]? = some (.cells cur e fr)∧(cur.toList.drop off).take (xs.length*s)=css.flatten∧(xs.length≤maxLen∧xs.length≤cap)∧F=g::F'
def LD (H:Array Obj)(p:Value)(cs:List Value):Prop:=∃g o,p=.pointer (some ⟨g,o,none⟩)∧∀i,i<cs.length→C8 H g (o+i)=some (cs.getD i undef)
def Az (p:Value)(k:Nat):Value :=
 match p with
 |.pointer (some ⟨g,o,none⟩)=>.pointer (some ⟨g,o+k,none⟩)
 |_=>undef
theorem LD.ld {H:Array Obj}{p:Value}{cs:List Value}(h:LD H p cs){i:Nat}(hi:i<cs.length):JQ H (Az p i)=some (cs.getD i undef):=by obtain⟨g,o,rfl,h⟩:=h;exact h i hi
theorem R6 (g off n cap k s:Nat):AD (.slice (some ⟨g,off,none⟩) n cap) k s=.pointer (some ⟨g,off+k*s,none⟩):=by unfold AD Addr.add;simp only;split;rename_i h;rw[h];rfl;rfl
section D0
variable {α:Type} {E:BC α} {s:Nat} {H H':Array Obj} {v:Value} {xs:List α} {F:List Nat}
theorem Aq (hE:C5 s E):Cb (D0 s E) where
 cells:=by
  rintro H v xs F (⟨a,cap,rfl,_⟩|⟨us,g,off,cap,cur,e,fr,F',_,rfl,_⟩) <;> rfl
 one:=by
  rintro H v xs F (⟨a,cap,rfl,_⟩|⟨us,g,off,cap,cur,e,fr,F',_,rfl,_⟩) <;> rfl
 lt:=by
  rintro H v xs F (⟨a,cap,rfl,_,rfl⟩|⟨us,g,off,cap,cur,e,fr,F',h,rfl,hg,_,_,rfl⟩) b hb;cases hb;rcases ze.1 hb with rfl|hb;exact getElem?_lt hg;exact h.lt hE b hb
 stable:=by
  rintro H H' v xs F (⟨a,cap,rfl,h1,h2⟩|⟨us,g,off,cap,cur,e,fr,F',h,rfl,hg,hw,hml,rfl⟩) hb;exact .inl ⟨a,cap,rfl,h1,h2⟩;exact .inr ⟨us,g,off,cap,cur,e,fr,F',h.stable hE fun b hh=>hb b<|z3 _ hh,rfl,by rw[hb g (z0 ..)];exact hg,hw,hml,rfl⟩
theorem D0.isSl (h:D0 s E H v xs F):Ea v xs.length:=by rcases h with⟨a,cap,rfl,rfl,_⟩|⟨us,g,off,cap,cur,e,fr,F',_,rfl,_⟩;exact⟨a,cap,rfl,fun _=>rfl⟩;exact⟨_,cap,rfl,fun h=>by cases h⟩
theorem D0.lenle (h:D0 s E H v xs F):xs.length≤maxLen:=by rcases h with⟨a,cap,_,rfl,_⟩|⟨us,g,off,cap,cur,e,fr,F',_,_,_,_,h,_⟩;simp;exact h.1
theorem D0.cap (h:D0 s E H v xs F):∃a c,v=.slice a xs.length c∧xs.length≤c:=by rcases h with⟨a,cap,rfl,rfl,_⟩|⟨us,g,off,cap,cur,e,fr,F',_,rfl,_,_,h,_⟩;exact⟨a,cap,rfl,Nat.zero_le _⟩;exact⟨_,cap,rfl,h.2⟩
theorem LB (hE:C5 s E):∀ {css:List (List Value)}{xs:List α}{F:List Nat}(k:Nat),CI E H css xs F→∃G,CI E H (css.take k) (xs.take k) G∧∀b∈G,b∈F
 |[],[],F,k,h=>⟨[],by simp[CI],fun b hb=>by cases hb⟩
 |c::css,x::xs,F,0,h=>⟨[],by simp[CI],fun b hb=>by cases hb⟩
 |c::css,x::xs,_,k+1,⟨F1,F2,rfl,h1,h2⟩=>by
  obtain⟨G,g1,g2⟩:=LB hE k h2
  exact⟨F1++G,⟨F1,G,rfl,h1,g1⟩,fun b hb=>(zi.1 hb).elim (fun h=>z8 _ h) (fun h=>z1 _ (g2 b h))⟩
 |[],_::_,_,_,h=>h.elim
 |_::_,[],_,_,h=>h.elim
theorem D0.take (hE:C5 s E){k:Nat}{a:Option Addr}{n c:Nat}(h:D0 s E H (.slice a n c) xs F)(hk:k≤xs.length):∃G,D0 s E H (.slice a k c) (xs.take k) G∧∀b∈G,b∈F:=by
 rcases h with⟨a',cap,hv,rfl,_⟩|⟨us,g,off,cap,cur,e,fr,F',h,hv,hg,hw,hl,rfl⟩;have:k=0:=by simpa using hk
 subst this;exact⟨[],.inl ⟨a,c,rfl,by simp,rfl⟩,fun b hb=>by cases hb⟩
 injection hv with h1 h2 h3;subst h1;subst h2;subst h3;obtain⟨G,g1,g2⟩:=LB hE k h;have hkl:(xs.take k).length=k:=by rw[List.length_take];omega
 refine⟨g::G,.inr ⟨us.take k,g,off,c,cur,e,fr,G,g1,by rw[hkl],hg,?_,by rw[hkl];omega,rfl⟩,fun b hb=>?_⟩;have hf:=h.flen hE;have ht:=g1.flen hE;rw[hkl]at ht;rw[hkl];have e1:us.flatten=(us.take k).flatten++(us.drop k).flatten:=by rw[← List.flatten_append,List.take_append_drop]
 have e2:(cur.toList.drop off).take (k*s)=((cur.toList.drop off).take (xs.length*s)).take (k*s):=by
  rw[List.take_take,Nat.min_eq_left (Nat.mul_le_mul_right s hk)]
 rw[e2,hw,e1,← ht,List.take_left];rcases ze.1 hb with rfl|hb;exact z0 ..;exact z3 _<|g2 b hb
theorem D0.get (hE:C5 s E)(d:α){k:Nat}(h:D0 s E H v xs F)(hk:k<xs.length) :
  ∃cs F1,E H cs (xs.getD k d) F1∧(∀b∈F1,b∈F)∧∀H':Array Obj,(∀b∈F,H'[b]? = H[b]?)→LD H' (AD v k s) cs:=by
 rcases h with⟨a,cap,rfl,rfl,_⟩|⟨css,g,off,cap,cur,e,fr,F',h,rfl,hg,hw,_,rfl⟩;simp at hk;obtain⟨cs,F1,q1,q2,q3⟩:=h.get hE d hk;refine⟨cs,F1,q1,fun b hb=>z3 _ (q2 b hb),fun H' hH=>⟨g,off+k*s,R6 ..,fun i hi=>?_⟩⟩;rw[hE.len q1]at hi;have h1:=q3 i hi;have hlt:k*s+i<xs.length*s:=by
  have:(k+1)*s≤xs.length*s:=Nat.mul_le_mul_right s hk;rw[Nat.succ_mul]at this;omega
 rw[← hw,List.getElem?_take,if_pos hlt,List.getElem?_drop]at h1;simp only[C8,hH g (z0 ..),hg];rw[Nat.add_assoc];simpa using h1
end D0
def RN {β α:Type}(S:List Nat)(E:Array Obj→β→α→List Nat→Prop)(H:Array Obj)(v:β)(x:α):Prop:=∃F,E H v x F∧∀b∈F,b∉S
section rn
variable {α:Type} {S:List Nat} {w w':World} {s:Nat} {E:BC α} {v:Value} {xs:List α} {cs:List Value} {x:α}
theorem RN.chg {E:Bx α}(hE:Cb E)(h:RN S E w.heap v x)(c:Ax S w w'):RN S E w'.heap v x:=by obtain⟨F,h,hb⟩:=h;exact⟨F,hE.stable h fun b hm=>c.block b (hE.lt h b hm) (hb b hm),hb⟩
theorem RN.ext {E:Bx α}(hE:Cb E)(h:RN S E w.heap v x)(c:AK w w'):RN S E w'.heap v x:=by obtain⟨F,h,hb⟩:=h;exact⟨F,hE.stable h fun b hm=>c.heap (hE.lt h b hm),hb⟩
theorem RN.chgN (hE:C5 s E)(h:RN S E w.heap cs x)(c:Ax S w w'):RN S E w'.heap cs x:=by obtain⟨F,h,hb⟩:=h;exact⟨F,hE.stable h fun b hm=>c.block b (hE.lt h b hm) (hb b hm),hb⟩
theorem RN.extN (hE:C5 s E)(h:RN S E w.heap cs x)(c:AK w w'):RN S E w'.heap cs x:=by obtain⟨F,h,hb⟩:=h;exact⟨F,hE.stable h fun b hm=>c.heap (hE.lt h b hm),hb⟩
theorem RN.rd {E:Bx α}{H:Array Obj}(h:RN S E H v x):Rd E H v x:=by obtain⟨F,h,_⟩:=h;exact⟨F,h⟩
theorem RN.isSl {H:Array Obj}(h:RN S (D0 s E) H v xs):Ea v xs.length:=by obtain⟨F,h,_⟩:=h;exact h.isSl
theorem RN.lenle {H:Array Obj}(h:RN S (D0 s E) H v xs):xs.length≤maxLen:=by obtain⟨F,h,_⟩:=h;exact h.lenle
theorem RN.get (hE:C5 s E)(d:α){k:Nat}(h:RN S (D0 s E) w.heap v xs)(hk:k<xs.length) :
  ∃cs,RN S E w.heap cs (xs.getD k d)∧∀w',Ax S w w'→LD w'.heap (AD v k s) cs:=by
 obtain⟨F,h,hb⟩:=h;have hlt:=(Aq hE).lt h;obtain⟨cs,F1,q1,q2,q3⟩:=D0.get hE d h hk;exact⟨cs,⟨F1,q1,fun b hm=>hb b (q2 b hm)⟩,fun w' c=>q3 _ fun b hm=>c.block b (hlt b hm) (hb b hm)⟩
end rn
theorem Ax.of_ext {w w':World}(S:List Nat)(h:AK w w'):Ax S w w':=⟨h.os,h.tape,h.output,h.size,fun k hk _=>h.heap hk⟩
def EG (P:Program)(t:TypeId)(s:Nat):Bool :=
 (match P.underlying t with|some (.struct _)=>true|_=>false) && (match P.info? t with|some i=>i.size == s|none=>false)
def GJ (P:Program)(s:TypeId)(i off:Nat):Bool :=
 match P.underlying s with
 |some (.struct fs) =>
  match fs[i]? with
  |some f=>(f.offset == off) && (match P.info? f.type with|some inf=>inf.size != 0|none=>false)
  |none=>false
 |_=>false
section ops
variable {P:Program} {ops:Array Oper} {w0:World} {Q:Act→World→Prop} {os:List Oper} {ks:List Nat} {N:Nat} {ρ:Nat→Value} {w:World}
 {d:Nat} {ty:TypeId} {pos:String} {aft:Array Edge} {g:Option (Nat×Bool)} {t e:TypeId}
theorem Gi (b o k:Nat):(⟨b,o,none⟩:Addr).add k=⟨b,o+k,none⟩:=by unfold Addr.add;split;rename_i h;rw[h];rfl;rfl
theorem Au {s:TypeId}{x:Operand}{i:Nat}{p:Value}{b o:Nat}(off:Nat)(hf:GJ P s i off=true)(hx:Bs N ρ x=p)(hp:p=.pointer (some ⟨b,o,none⟩))(hu:Up ops N ρ ⟨some d,.fieldAddr s x i,ty,pos,aft,g⟩)
  (h:LW P ops w0 Q os ks (mk N (Cs ρ d (Az p off))) w):LW P ops w0 Q (⟨some d,.fieldAddr s x i,ty,pos,aft,g⟩::os) (0::ks) (mk N ρ) w :=
 Cv (by decide) rfl hu _ (fun w' _=>by
  subst hp
  unfold GJ at hf
  split at hf
  rename_i fs hfs
  split at hf
  rename_i f hff
  simp only[z7,beq_iff_eq]at hf
  obtain⟨rfl,hf2⟩:=hf
  split at hf2
  rename_i inf hin
  have hne:inf.size≠0:=by simpa using hf2
  simp[execOp,Instr.fieldAt,Instr.sureAddr,run_underlying hfs,hff,hx,fieldPlace,sizeOf,typeInfo,hin,hne,Gi,Az]
  cases hf2
  cases hf
  cases hf) h
theorem LD.ptr {H:Array Obj}{p:Value}{cs:List Value}(h:LD H p cs):∃b o,p=.pointer (some ⟨b,o,none⟩):=by obtain⟨b,o,h,_⟩:=h;exact⟨b,o,h⟩
theorem AA {s:TypeId}{x:Operand}{i:Nat}{p:Value}{H:Array Obj}{cs:List Value}(off:Nat)(hf:GJ P s i off=true)(hx:Bs N ρ x=p)(hp:LD H p cs)(hu:Up ops N ρ ⟨some d,.fieldAddr s x i,ty,pos,aft,g⟩)
  (h:LW P ops w0 Q os ks (mk N (Cs ρ d (Az p off))) w):LW P ops w0 Q (⟨some d,.fieldAddr s x i,ty,pos,aft,g⟩::os) (0::ks) (mk N ρ) w:=by
 obtain⟨b,o,hp⟩:=hp.ptr;exact Au off hf hx hp hu h
theorem LC {s:Nat}(ht:EG P t s=true){p:Value}{cs:List Value}(h:LD w.heap p cs)(hl:cs.length=s):(Instr.loadAt t p).run P w=.ok (.agg cs.toArray) w:=by
 obtain⟨b,o,rfl,h⟩:=h;unfold EG at ht;simp only[z7]at ht;obtain⟨h1,h2⟩:=ht;split at h1;rename_i fs hfs;split at h2;rename_i inf hin;have hs:inf.size=s:=by simpa using h2
 have hag:(isAgg t).run P w=.ok true w:=by
  unfold isAgg;simp only[Sem.run_bind,run_underlying hfs,Result.andThen_ok];rfl
 have hlc:=run_loadCells_list (P:=P) w ⟨b,o,none⟩ cs (fun j v hj=>by
  rw[Gi,BF];have hjl:j<cs.length:=(List.getElem?_eq_some_iff.1 hj).1;rw[h j hjl];simp[List.getD,hj])
 rw[hl,← hs]at hlc;simp[Instr.loadAt,Instr.sureAddr,loadVar,hag,sizeOf,typeInfo,hin,hlc];cases h2;cases h1
theorem AS {k s:Nat}(hk:k=1∨k=2){x:Operand}{p:Value}(cs:List Value)(ht:EG P t s=true)(hx:Bs N ρ x=p)(hc:∀w',AK (if k=1 then w0 else w) w'→LD w'.heap p cs)(hl:cs.length=s)
  (hu:Up ops N ρ ⟨some d,.load t x,ty,pos,aft,g⟩)
  (h:LW P ops w0 Q os ks (mk N (Cs ρ d (.agg cs.toArray))) w):LW P ops w0 Q (⟨some d,.load t x,ty,pos,aft,g⟩::os) (k::ks) (mk N ρ) w :=
 Cv zO rfl hu _ (fun w' hcl=>by
  have hld:LD w'.heap p cs:=by
   rcases hk with rfl|rfl;exact hc w' hcl;exact hc w' hcl
  simp[execOp,hx,LC ht hld hl]) h
theorem LD.of_box {H:Array Obj}{b:Nat}{cs:List Value}(h:BX H b cs):LD H (.pointer (some ⟨b,0,none⟩)) cs:=by obtain⟨e,h⟩:=h;refine⟨b,0,rfl,fun i hi=>?_⟩;simp only[C8,h];simp[hi]
theorem BX.ldp {H:Array Obj}{b:Nat}{cs:List Value}(h:BX H b cs){i:Nat}(hi:i<cs.length):JQ H (Az (.pointer (some ⟨b,0,none⟩)) i)=some (cs.getD i undef):=(LD.of_box h).ld hi
theorem B9 {z:Value}(hz:(P.info? t).map (·.zero)=some (some z))(hu:Up ops N ρ ⟨some d,.alloc t,ty,pos,aft,g⟩)
  (h:∀w1,AK w w1→w1.heap.size=w.heap.size+1→BX w1.heap w.heap.size z.cells.toList→LW P ops w0 Q os ks (mk N (Cs ρ d (.pointer (some ⟨w.heap.size,0,none⟩)))) w1) :
  LW P ops w0 Q (⟨some d,.alloc t,ty,pos,aft,g⟩::os) (3::ks) (mk N ρ) w:=by
 obtain⟨i,hi1,hi2⟩:=Option.map_eq_some_iff.1 hz;have hrun:(execOp (Bs N ρ) ⟨some d,.alloc t,ty,pos,aft,g⟩).run P w=.ok (.value (.pointer (some ⟨w.heap.size,0,none⟩))) (w.alloc (.cells z.cells t)):=by
  simp[execOp,Instr.alloc,zeroValue,typeInfo,hi1,hi2,newVar,newRow]
 refine J2 rfl hu _ _ hrun (BM _ _)<|h _ (BM _ _) (by simp) ⟨t,?_⟩;have:=heap_alloc_new w (.cells z.cells t);simpa using this
theorem AZ {x y:Operand}{b s:Nat}{vs cs:List Value}(ht:EG P t s=true)(hx:Bs N ρ x=.pointer (some ⟨b,0,none⟩))(hy:Bs N ρ y=.agg vs.toArray)(h1:∀u∈vs,u.cells=#[u]∧u.oneCell'=true)
  (hb:BX w.heap b cs) (hl:vs.length=s) (hl2:cs.length=s) (hu:Up ops N ρ ⟨none,.store t x y,ty,pos,aft,g⟩)
  (h:∀w1,Ax [b] w w1→w1.heap.size=w.heap.size→BX w1.heap b vs→LW P ops w0 Q os ks (mk N ρ) w1) :
  LW P ops w0 Q (⟨none,.store t x y,ty,pos,aft,g⟩::os) (4::ks) (mk N ρ) w:=by
 obtain⟨e,hb⟩:=hb;unfold EG at ht;simp only[z7]at ht;obtain⟨q1,q2⟩:=ht;split at q2;rename_i inf hin;have hs:inf.size=s:=by simpa using q2
 have hst:=run_storeCells_at (P:=P) b 0 e vs 0 cs.toArray w hb (by simp;omega) fun v hv=>(h1 v hv).2;have hcs:(cs.toArray.toList.take (0+0)++vs++cs.toArray.toList.drop (0+0+vs.length))=vs:=by
  simp[List.drop_of_length_le (show cs.length≤vs.length by omega)]
 rw[hcs]at hst;have hr:(Instr.storeAt t (.pointer (some ⟨b,0,none⟩)) (.agg vs.toArray)).run P w=.ok () (w.setRow b vs.toArray):=by
  simp[Instr.storeAt,Instr.sureAddr,storeVar,sizeOf,typeInfo,hin,Value.cells,hl,hs,hst]
 refine VJ rfl hu _ (Kg hx hy hr)<|h _ ⟨rfl,rfl,rfl,by simp,fun k _ hk=>setRow_other w b k _ (by simpa using hk)⟩ (by simp) ⟨e,setRow_heap w b _ _ _ _ hb⟩;cases q2
end ops
theorem XY {P : Program}{ops : Array Oper}{w0 : World}{Q : Act → World → Prop}{os : List Oper}{ks : List Nat}{N : Nat} {ρ : Nat → Value}{w : World}{d : Nat}{ty : TypeId}{pos : String}{aft : Array Edge}{g : Option (Nat×Bool)}{t : TypeId}{x : Operand}{b : Nat}{cs : List Value}(i : Nat)(u : Value)(ht : Ce P t)(hb : BX w.heap b cs)(hu : Up ops N ρ ⟨some d, .load t x, ty, pos, aft, g⟩)(h : LW P ops w0 Q os ks (mk N (Cs ρ d u)) w)(hx : Bs N ρ x=Az (.pointer (some ⟨b, 0, none⟩)) i := by rfl) (hi : Nat.blt i cs.length=true := by rfl) (he : cs.getD i undef=u := by rfl) : LW P ops w0 Q (⟨some d, .load t x, ty, pos, aft, g⟩::os) (2::ks) (mk N ρ) w := by
 have hi : i<cs.length := by simpa using hi
 have hc := hb.ldp hi;rw[he]at hc;exact Aj (p := Az (.pointer<|some ⟨b, 0, none⟩) i) (.inr rfl) u ht hx hc hu h
theorem bS {P : Program}{ops : Array Oper}{w0 : World}{Q : Act → World → Prop}{os : List Oper}{ks : List Nat}{N : Nat} {ρ : Nat → Value}{w : World}{d : Nat}{ty : TypeId}{pos : String}{aft : Array Edge}{g : Option (Nat×Bool)}{t : TypeId}{x : Operand}{b : Nat}{cs : List Value}{s : TypeId}{x2 : Operand}{j d2 : Nat}{ty2 : TypeId}{pos2 : String}{aft2 : Array Edge}{g2 : Option (Nat×Bool)}(i : Nat)(hf : GJ P s j i=true)(u : Value)(ht : Ce P t)(hb : BX w.heap b cs)(hu : Up ops N ρ ⟨some d, .fieldAddr s x j, ty, pos, aft, g⟩)(hu2 : Up ops N (Cs ρ d (Az (.pointer (some ⟨b, 0, none⟩)) i)) ⟨some d2, .load t x2, ty2, pos2, aft2, g2⟩)(h : LW P ops w0 Q os ks (mk N (Cs (Cs ρ d (Az (.pointer (some ⟨b, 0, none⟩)) i)) d2 u)) w)(hx : Bs N ρ x=.pointer (some ⟨b, 0, none⟩) := by rfl) (hx2 : Bs N (Cs ρ d (Az (.pointer (some ⟨b, 0, none⟩)) i)) x2=Az (.pointer (some ⟨b, 0, none⟩)) i := by rfl) (hi : Nat.blt i cs.length=true := by rfl) (he : cs.getD i undef=u := by rfl) : LW P ops w0 Q (⟨some d, .fieldAddr s x j, ty, pos, aft, g⟩::⟨some d2, .load t x2, ty2, pos2, aft2, g2⟩::os) (0::2::ks) (mk N ρ) w :=
 Au (p := .pointer (some ⟨b, 0, none⟩)) (b := b) (o := 0) i hf hx rfl hu (XY i u ht hb hu2 h hx2 hi he)
theorem XZ {P : Program}{ops : Array Oper}{w0 : World}{Q : Act → World → Prop}{os : List Oper}{ks : List Nat}{N : Nat} {ρ : Nat → Value}{w : World}{d : Nat}{ty : TypeId}{pos : String}{aft : Array Edge}{g : Option (Nat×Bool)}{t : TypeId}{x : Operand}{b : Nat}{cs : List Value}(i : Nat)(u : Value)(ht : Ce P t)(hb : BX w0.heap b cs)(hu : Up ops N ρ ⟨some d, .load t x, ty, pos, aft, g⟩)(h : LW P ops w0 Q os ks (mk N (Cs ρ d u)) w)(hx : Bs N ρ x=Az (.pointer (some ⟨b, 0, none⟩)) i := by rfl) (hi : Nat.blt i cs.length=true := by rfl) (he : cs.getD i undef=u := by rfl) : LW P ops w0 Q (⟨some d, .load t x, ty, pos, aft, g⟩::os) (1::ks) (mk N ρ) w := by
 have hi : i<cs.length := by simpa using hi
 have hc := hb.ldp hi;rw[he]at hc;exact Aj (p := Az (.pointer<|some ⟨b, 0, none⟩) i) (.inl rfl) u ht hx hc hu h
theorem bT {P : Program}{ops : Array Oper}{w0 : World}{Q : Act → World → Prop}{os : List Oper}{ks : List Nat}{N : Nat} {ρ : Nat → Value}{w : World}{d : Nat}{ty : TypeId}{pos : String}{aft : Array Edge}{g : Option (Nat×Bool)}{t : TypeId}{x : Operand}{b : Nat}{cs : List Value}{s : TypeId}{x2 : Operand}{j d2 : Nat}{ty2 : TypeId}{pos2 : String}{aft2 : Array Edge}{g2 : Option (Nat×Bool)}(i : Nat)(hf : GJ P s j i=true)(u : Value)(ht : Ce P t)(hb : BX w0.heap b cs)(hu : Up ops N ρ ⟨some d, .fieldAddr s x j, ty, pos, aft, g⟩)(hu2 : Up ops N (Cs ρ d (Az (.pointer (some ⟨b, 0, none⟩)) i)) ⟨some d2, .load t x2, ty2, pos2, aft2, g2⟩)(h : LW P ops w0 Q os ks (mk N (Cs (Cs ρ d (Az (.pointer (some ⟨b, 0, none⟩)) i)) d2 u)) w)(hx : Bs N ρ x=.pointer (some ⟨b, 0, none⟩) := by rfl) (hx2 : Bs N (Cs ρ d (Az (.pointer (some ⟨b, 0, none⟩)) i)) x2=Az (.pointer (some ⟨b, 0, none⟩)) i := by rfl) (hi : Nat.blt i cs.length=true := by rfl) (he : cs.getD i undef=u := by rfl) : LW P ops w0 Q (⟨some d, .fieldAddr s x j, ty, pos, aft, g⟩::⟨some d2, .load t x2, ty2, pos2, aft2, g2⟩::os) (0::1::ks) (mk N ρ) w :=
 Au (p := .pointer (some ⟨b, 0, none⟩)) (b := b) (o := 0) i hf hx rfl hu (XZ i u ht hb hu2 h hx2 hi he)
theorem bU {ops : Array Oper}{N : Nat} {ρ : Nat → Value}{d : Option Tmp}{op : Op}{ty : TypeId}{pos : String}{aft : Array Edge}{j : Nat}{b : Bool}(e : Nat)(hd : (ops[j]?).bind (·.dst)=some e := by rfl) (hlt : Nat.blt e N=true := by rfl) (hv : ρ e=.bool b := by rfl) : Up ops N ρ ⟨d, op, ty, pos, aft, some (j, b)⟩ := Ah hd hlt hv
end
section
inductive Ex where
 |mk (kind num pick count:Int) (kids:List Ex)
namespace Ex
def kind:Ex→Int|mk k _ _ _ _=>k
def num:Ex→Int|mk _ n _ _ _=>n
def pick:Ex→Int|mk _ _ p _ _=>p
def count:Ex→Int|mk _ _ _ c _=>c
def kids:Ex→List Ex|mk _ _ _ _ l=>l
def zero:Ex:=mk 0 0 0 0 []
end Ex
abbrev BW (x:Int):Prop:=-9223372036854775808≤x∧x≤9223372036854775807
def FQ (e:Ex)(v:Value):List Value:=[.int .i64 e.kind,.int .i64 e.num,.int .i64 e.pick,.int .i64 e.count,v]
structure Tl (e:Ex):Prop where
 kind:BW e.kind
 num:BW e.num
 pick:BW e.pick
 count:BW e.count
def J4:Nat→BC Ex
 |0=>fun _ _ _ _=>False
 |d+1=>fun H cs e F=>∃v,cs=FQ e v∧Tl e∧D0 5 (J4 d) H v e.kids F
theorem An:∀d,C5 5 (J4 d)
 |0=>⟨fun h=>h.elim,fun h=>h.elim,fun h=>h.elim,fun h=>h.elim⟩
 |d+1=>by
  have ih:=An d
  refine⟨?_,?_,?_,?_⟩
  rintro H cs e F ⟨v,rfl,_,_⟩;rfl
  rintro H cs e F ⟨v,rfl,_,h⟩ u hu
  unfold FQ at hu
  simp only[ze,z2,or_false]at hu
  rcases hu with rfl|rfl|rfl|rfl|rfl
  exact⟨rfl,rfl⟩
  exact⟨rfl,rfl⟩
  exact⟨rfl,rfl⟩
  exact⟨rfl,rfl⟩
  exact⟨(Aq ih).cells h,(Aq ih).one h⟩
  rintro H cs e F ⟨v,rfl,_,h⟩ b hb
  exact (Aq ih).lt h b hb
  rintro H H' cs e F ⟨v,rfl,hr,h⟩ hb
  exact⟨v,rfl,hr,(Aq ih).stable h hb⟩
structure RX (S:List Nat)(d:Nat)(H:Array Obj)(v:Value)(e:Ex):Prop where
 rng:Tl e
 rn:RN S (D0 5 (J4 d)) H v e.kids
theorem RX.of {S:List Nat}{d:Nat}{H:Array Obj}{cs:List Value}{e:Ex}(h:RN S (J4 d) H cs e):∃d' v,d=d'+1∧cs=FQ e v∧RX S d' H v e:=by
 obtain⟨F,h,hb⟩:=h;cases d with
 |zero=>exact h.elim
 |succ d =>
  obtain⟨v,rfl,hr,h⟩:=h;exact⟨d,v,rfl,rfl,hr,F,h,hb⟩
theorem RX.mk' {S:List Nat}{d:Nat}{H:Array Obj}{v:Value}{e:Ex}(h:RX S d H v e):RN S (J4 (d+1)) H (FQ e v) e:=by obtain⟨hr,F,h,hb⟩:=h;exact⟨F,⟨v,rfl,hr,h⟩,hb⟩
section rx
variable {S:List Nat} {d:Nat} {w w':World} {v:Value} {e:Ex}
theorem RX.ext (h:RX S d w.heap v e)(k:AK w w'):RX S d w'.heap v e:=⟨h.rng,h.rn.ext (Aq (An d)) k⟩
theorem RX.ones {H:Array Obj}(h:RX S d H v e):∀u∈FQ e v,u.cells=#[u]∧u.oneCell'=true:=by obtain⟨F,h,_⟩:=h.mk';exact (An (d+1)).one h
end rx
structure Fn where
 name:ByteArray
 params:Int
 outs:List Ex
def Fn.zero:Fn:=⟨.empty,0,[]⟩
def FR (f:Fn)(v:Value):List Value:=[.string f.name,.int .i64 f.params,v]
def TB (d:Nat):BC Fn:=fun H cs f F=>∃v,cs=FR f v∧BW f.params∧D0 5 (J4 d) H v f.outs F
theorem AC (d:Nat):C5 3 (TB d):=by have ih:=Aq<|An d;refine⟨?_,?_,?_,?_⟩;rintro H cs e F ⟨v,rfl,_,_⟩;rfl;rintro H cs e F ⟨v,rfl,_,h⟩ u hu;unfold FR at hu;simp only[ze,z2,or_false]at hu;rcases hu with rfl|rfl|rfl;exact⟨rfl,rfl⟩;exact⟨rfl,rfl⟩;exact⟨ih.cells h,ih.one h⟩;rintro H cs e F ⟨v,rfl,_,h⟩ b hb;exact ih.lt h b hb;rintro H H' cs e F ⟨v,rfl,hr,h⟩ hb;exact⟨v,rfl,hr,ih.stable h hb⟩
structure RF (S:List Nat)(d:Nat)(H:Array Obj)(v:Value)(f:Fn):Prop where
 rng:BW f.params
 rn:RN S (D0 5 (J4 d)) H v f.outs
theorem RF.of {S:List Nat}{d:Nat}{H:Array Obj}{cs:List Value}{f:Fn}(h:RN S (TB d) H cs f):∃v,cs=FR f v∧RF S d H v f:=by obtain⟨F,⟨v,rfl,hr,h⟩,hb⟩:=h;exact⟨v,rfl,hr,F,h,hb⟩
theorem RF.one {S:List Nat}{d:Nat}{H:Array Obj}{v:Value}{f:Fn}(h:RF S d H v f):v.cells=#[v]∧v.oneCell'=true:=by obtain⟨_,F,h,_⟩:=h;exact⟨(Aq (An d)).cells h,(Aq (An d)).one h⟩
theorem RF.ones {S:List Nat}{d:Nat}{H:Array Obj}{v:Value}{f:Fn}(h:RF S d H v f):∀u∈FR f v,u.cells=#[u]∧u.oneCell'=true:=by intro u hu;unfold FR at hu;simp only[ze,z2,or_false]at hu;rcases hu with rfl|rfl|rfl;exact⟨rfl,rfl⟩;exact⟨rfl,rfl⟩;exact h.one
abbrev RP (S:List Nat)(d:Nat)(H:Array Obj)(v:Value)(p:List Fn):Prop:=RN S (D0 3 (TB d)) H v p
theorem AN {v:Value}{n:Nat}(h:Ea v n):v.cells=#[v]∧v.oneCell'=true:=by obtain⟨a,c,rfl,_⟩:=h;exact⟨rfl,rfl⟩
mutual
def Ex.size:Ex→Nat
 |.mk _ _ _ _ l=>1+Ex.sizes l
def Ex.sizes:List Ex→Nat
 |[]=>0
 |e::l=>e.size+Ex.sizes l
end
mutual
def Ex.deep:Ex→Nat
 |.mk _ _ _ _ l=>Ex.deeps l+1
def Ex.deeps:List Ex→Nat
 |[]=>0
 |e::l=>max e.deep (Ex.deeps l)
end
theorem DN (e:Ex):e.size=1+Ex.sizes e.kids:=by cases e;rw[Ex.size];rfl
theorem CJ (e:Ex):e.deep=Ex.deeps e.kids+1:=by cases e;rw[Ex.deep];rfl
theorem HV (l:List Ex)(e:Ex):Ex.sizes (l++[e])=Ex.sizes l+e.size:=by
 induction l with
 |nil=>rw[zl,Ex.sizes,Ex.sizes,Ex.sizes];omega
 |cons x l ih=>rw[List.cons_append,Ex.sizes,Ex.sizes,ih];omega
theorem HW (l:List Ex)(e:Ex):Ex.deeps (l++[e])=max (Ex.deeps l) e.deep:=by
 induction l with
 |nil=>rw[zl,Ex.deeps,Ex.deeps,Ex.deeps];omega
 |cons x l ih=>rw[List.cons_append,Ex.deeps,Ex.deeps,ih];omega
theorem DH {l:List Ex}{k:Nat}(hk:k<l.length):Ex.sizes (l.take (k+1))=Ex.sizes (l.take k)+(l.getD k Ex.zero).size:=by rw[List.take_succ_eq_append_getElem hk,HV];simp[hk]
theorem Gj {l:List Ex}{k:Nat}(hk:k<l.length):Ex.deeps (l.take (k+1))=max (Ex.deeps (l.take k)) (l.getD k Ex.zero).deep:=by rw[List.take_succ_eq_append_getElem hk,HW];simp[hk]
theorem Dg:∀(l:List Ex)(k:Nat),Ex.sizes (l.take k)≤Ex.sizes l
 |l,0=>by rw[List.take_zero,Ex.sizes];omega
 |[],k+1=>by simp
 |e::l,k+1=>by rw[List.take_succ_cons,Ex.sizes,Ex.sizes];have:=Dg l k;omega
theorem N9 {l:List Ex}{k:Nat}(hk:k<l.length):(l.getD k Ex.zero).size≤Ex.sizes l:=by have h1:=DH hk;have h2:=Dg l (k+1);omega
theorem LE:Ex.sizes []=0:=by rw[Ex.sizes]
theorem LF:Ex.deeps []=0:=by rw[Ex.deeps]
theorem LG {l:List Ex}{k:Nat}(hk:l.length≤k):Ex.sizes (l.take k)=Ex.sizes l:=by rw[za hk]
theorem J5 {l:List Ex}{k:Nat}(hk:l.length≤k):Ex.deeps (l.take k)=Ex.deeps l:=by rw[za hk]
mutual
theorem Eb:∀e:Ex,e.deep≤e.size
 |.mk _ _ _ _ l=>by rw[Ex.deep,Ex.size];have:=HX l;omega
theorem HX:∀l:List Ex,Ex.deeps l≤Ex.sizes l
 |[]=>by rw[Ex.deeps,Ex.sizes];omega
 |e::l=>by rw[Ex.deeps,Ex.sizes];have:=Eb e;have:=HX l;omega
end
section ops
variable {P:Program} {ops:Array Oper} {w0:World} {Q:Act→World→Prop} {os:List Oper} {ks:List Nat} {N:Nat} {ρ:Nat→Value} {w:World}
 {d:Nat} {ty:TypeId} {pos:String} {aft:Array Edge} {g:Option (Nat×Bool)}
theorem Y0 {t t':TypeId}{x y:Operand}{k:IntKind}{a b:Int}(c:Int)(hc:max a b=c)(hx:Bs N ρ x=.int k a)(hy:Bs N ρ y=.int k b)(hu:Up ops N ρ ⟨some d,.call ⟨.builtin .max,#[x,y],#[t,t']⟩,ty,pos,aft,g⟩)
  (h:LW P ops w0 Q os ks (mk N (Cs ρ d (.int k c))) w):LW P ops w0 Q (⟨some d,.call ⟨.builtin .max,#[x,y],#[t,t']⟩,ty,pos,aft,g⟩::os) (0::ks) (mk N ρ) w :=
 Cv (by decide) rfl hu _ (fun w' _=>by
  have e:(if b > a then b else a)=c:=by omega
  simp[execOp,resolve,invoke,builtin,hx,hy,Builtin.max_,Builtin.max2,List.foldlM,e]) h
end ops
end
section
open Go Go.ChangeShapes Go.WideShapes Go.RowKit Go.Deep
theorem R7 {α:Type}{E:Bx α}{H:Array Obj}(U:Nat→Value)(X:Nat→α):∀(n:Nat),(∀i,i<n→Rd E H (U i) (X i))→∃F,els E H ((List.range n).map U) ((List.range n).map X) F
 |0,_=>⟨[],rfl⟩
 |n+1,h=>by
  obtain⟨F,hF⟩:=R7 U X n fun i hi=>h i zO
  obtain⟨G,hG⟩:=h n zO
  refine⟨F++(G++[]),?_⟩
  rw[List.range_succ,List.map_append,List.map_append]
  exact els.append hF ⟨G,[],rfl,hG,rfl⟩
theorem VW {α:Type}{E:Bx α}{W:World}{a:Option Addr}{n cap:Nat}(ha:a=none→n=0)(hm:n≤maxLen)(U:Nat→Value)(X:Nat→α)
  (hc:∀a' i,a=some a'→i<n→W.cell? (a'.add i)=some (U i)) (hE:∀i,i<n→Rd E W.heap (U i) (X i)):Rd (Bg E) W.heap (.slice a n cap) ((List.range n).map X):=by
 by_cases h0:n=0;subst h0;exact⟨[],.inl ⟨a,cap,rfl,rfl,rfl⟩⟩;obtain⟨F,hF⟩:=R7 U X n hE;cases a with
 |none=>exact absurd (ha rfl) h0
 |some a' =>
  obtain⟨g,off,spot⟩:=a';have h1:=hc _ 0 rfl zO;have hs:spot=none:=by simpa [Addr.add]using World.cell?_spot h1
  subst hs;have hcell:∀i,i<n→C8 W.heap g (off+i)=some (U i):=fun i hi=>by
   have:=hc _ i rfl hi;rw[add_plain,BF]at this;exact this
  have h2:=hcell 0 zO;unfold C8 at h2;cases hg:W.heap[g]? with
  |none=>rw[hg]at h2;cases h2
  |some o =>
   cases o with
   |cells cur e fr =>
    refine⟨g::F,.inr ⟨(List.range n).map U,g,off,cap,cur,e,fr,F,hF,by simp,hg,?_,by simpa using hm,rfl⟩⟩;apply List.ext_getElem?
    intro i;simp only[zg,List.length_range,List.getElem?_take,List.getElem?_drop];by_cases hi:i<n;have:=hcell i hi;unfold C8 at this;rw[hg]at this;simp only[Array.getElem?_toList]at *;rw[if_pos hi,this];simp[hi];rw[if_neg hi];simp[hi]
   |_=>rw[hg]at h2;cases h2
section
variable {H:Type} {enc:TypeId × Value→H} {P:Program} {W:World}
theorem AK.trodAll (hl:laidOutB P=true){W':World}(hx:AK W W'):∀ {ts:List TypeId}{vs:List Value}{ds:List (DataW H)}{ps:List MemPlace},(∀t∈ts,P.readableRec t=true∧t<P.types.size)→(∀x∈ps,x.block<W.heap.size) →
  DataW.TrodAll enc P W 0 (fun _=>true) true ts vs ds ps→DataW.TrodAll enc P W' 0 (fun b=>decide (b<W.heap.size)) true ts vs ds ps
 |[],[],[],_,_,_,h=>h
 |t::ts,v::vs,d::ds,ps,hr,hlt,⟨p,q,h1,h2,e⟩=>by
  subst e
  exact⟨p,q,Below.trod hl (hr t (z0 ..)).1 (hr t (z0 ..)).2 h1 hx fun x hx=>hlt x (z8 _ hx),
   AK.trodAll hl hx (fun t ht=>hr t (z3 _ ht)) (fun x hx=>hlt x (z1 _ hx)) h2,rfl⟩
 |[],[],_::_,_,_,_,h=>h.elim
 |[],_::_,_,_,_,_,h=>h.elim
 |_::_,[],_,_,_,_,h=>h.elim
 |_::_,_::_,[],_,_,_,h=>h.elim
theorem R8 {fn:Func}{s:ChangeSpec}{W':World}{args:Array Value}{ds:List (DataW H)}{before:List MemPlace}{tb:TypeId}(hl:laidOutB P=true)
  (hr:∀t∈fn.params.toList,P.readableRec t=true∧t<P.types.size) (hv:s.vars=[]) (hres:fn.resultTypes=#[tb]) (hb:P.underlying tb=some .bool)
  (hW:DataW.Whole enc P fn.params.toList s.vars false W args.toList ds [] before) (he:s.fn H (ds++[]) = { results:=[.lit (.bool true)],args:=ds }) (hx:AK W W') :
  s.post enc P fn false true false false W args (.bool true) W':=by
 have hW':=hW;obtain⟨p,q,hA,hV,rfl,hfz,hnd⟩:=hW;have hlt:∀x∈p++q,x.block<W.heap.size:=fun x hx=>hW'.lt x hx;rw[hv]at hV;obtain⟨_,rfl⟩:=trodVars_none hV;refine⟨ds,[],_,[],p,[],hW',?_,?_,?_,Below.frame hx _,fun h=>by cases h⟩;rw[he,hres];exact trodAll_mk1 (shut_bool hb true);rw[he];exact AK.trodAll hl hx hr (fun x hx=>hlt x (z8 _ hx)) hA;rw[he,hv];rfl
end
end
section
open Go Go.ChangeShapes Go.WideShapes Go.RowKit Go.Deep
section
variable {H:Type} {enc:TypeId × Value→H} {P:Program} {W:World}
theorem TC {z:Int}(h:0≤z∧z≤255):(((UInt8.ofNat z.toNat).toNat:Nat):Int)=z:=by rw[UInt8.toNat_ofNat'];omega
theorem O3 {q:TypeId}{base fuel:Nat}{held:Bool}{u:Value}{x:DataW H×List MemPlace}{t:TypeId}(ht:P.underlying t=some (.slice q))(hq:P.underlying q=some (.int .u8))(cq:P.cellsOf q=1)
  (hf:DataW.trod enc P W base (fun _=>true) held fuel t [u]=some x):∃zsq:List UInt8,Rd (Bg rU) W.heap u zsq:=by
 rcases open_ints ht hq cq hf with⟨hcs,_⟩|⟨a,len,cap,zsq,hcs,_,hl,hm,hz,_,hc,hw⟩;simp only[List.cons.injEq,and_true]at hcs;subst hcs;exact⟨[],[],.inl ⟨none,0,rfl,rfl,rfl⟩⟩;simp only[List.cons.injEq,and_true]at hcs;subst hcs;simp only[if_true]at hz;refine⟨(List.range len).map fun i=>UInt8.ofNat (zsq.getD i 0).toNat,VW (fun h=>by cases h) zO (fun i=>.int .u8 (zsq.getD i 0)) _ (fun a' i ea hi=>by cases ea;exact hc i zO) fun i hi=>⟨[],?_,rfl⟩⟩;have hb:0≤zsq.getD i 0∧zsq.getD i 0≤255:=by
  have h:=hw (zsq.getD i 0) (by
   rw[List.getD_eq_getElem?_getD,List.getElem?_eq_getElem (show i<zsq.length by omega)];exact List.getElem_mem _)
  simp only[Lit.wf,z7,decide_eq_true_eq]at h;exact h
 rw[TC hb]
theorem Na {t q:TypeId}{base:Nat}{held:Bool}{v:Value}{d:DataW H}{ps:List MemPlace}(ht:P.underlying t=some (.slice q))(hq:P.underlying q=some (.int .u8))(cq:P.cellsOf q=1)
  (hv:∃a len cap,v=.slice a len cap) (h:DataW.Trod enc P W base (fun _=>true) held t v d ps):∃zsq:List UInt8,Rd (Bg rU) W.heap v zsq:=by
 obtain⟨a0,n0,c0,rfl⟩:=hv;obtain⟨fuel,hf⟩:=h;exact O3 ht hq cq hf
end
end
section
def IV (s:ByteArray)(i:Nat):Nat:=((s[i]?).getD 0).toNat
section ops
variable {P:Program} {ops:Array Oper} {w0:World} {Q:Act→World→Prop} {os:List Oper} {ks:List Nat} {N:Nat} {ρ:Nat→Value} {w:World}
 {d:Nat} {ty:TypeId} {pos:String} {aft:Array Edge} {g:Option (Nat×Bool)}
theorem D6 {t:TypeId}{x y:Operand}{s:ByteArray}{i:Int}(j:Nat)(ht:P.underlying t=some .string)(hx:Bs N ρ x=.string s)(hy:Bs N ρ y=.int .i64 i)(hj:i=(j:Int))(hlt:j<s.size)(hu:Up ops N ρ ⟨some d,.index t x y,ty,pos,aft,g⟩)
  (h:LW P ops w0 Q os ks (mk N (Cs ρ d (.int .u8 ((IV s j:Nat):Int)))) w):LW P ops w0 Q (⟨some d,.index t x y,ty,pos,aft,g⟩::os) (0::ks) (mk N ρ) w :=
 Cv (by decide) rfl hu _ (fun w' _=>by
  subst hj
  have e:s[j]? = some s[j]:=getElem?_pos s j hlt
  simp[execOp,hx,hy,Instr.index,asIntOf,run_underlying ht,e,IV]) h
end ops
end
def GS (x a b:Int):Bool:=decide (a≤x) && decide (x≤b)
def DI (e:Ex):Bool:=decide (e.pick=0) && decide (e.count=0)
def Gk (p:List Fn)(funcs vars:Int)(e:Ex):Bool :=
 if e.kind=1 then DI e && (decide (e.kids.length=0) && Io e.num)
 else if e.kind=2 then DI e && (decide (e.kids.length=0) && GS e.num 0 (vars-1))
 else if e.kind=3∨e.kind=4∨e.kind=5∨e.kind=6∨e.kind=9 then DI e && (decide (e.num=0) && decide (e.kids.length=2))
 else if e.kind=7 then DI e && (decide (e.num=0) && decide (e.kids.length=1))
 else if e.kind=8 then DI e && (decide (e.num=0) && decide (e.kids.length=3))
 else if e.kind=10∨e.kind=11 then
  GS e.num 0 (funcs-1) && (decide ((e.kids.length:Int)=(p.getD e.num.toNat Fn.zero).params) && (GS e.pick 0 (((p.getD e.num.toNat Fn.zero).outs.length:Int)-1) &&
   (if e.kind=10 then decide (e.count=0)else decide (((p.getD e.num.toNat Fn.zero).outs.length:Int)=(p.getD e.num.toNat Fn.zero).params) && GS e.count 0 8)))
 else false
mutual
def wf (p:List Fn)(funcs:Int):Ex→Int→Bool
 |.mk k n q c l,vars=>Gk p funcs vars (.mk k n q c l) && P0 p funcs (decide (k=9)) 0 l vars
def P0 (p:List Fn)(funcs:Int)(b:Bool):Nat→List Ex→Int→Bool
 |_,[],_=>true
 |i,e::l,vars=>wf p funcs e (if b=true∧i=1 then vars+1 else vars) && P0 p funcs b (i+1) l vars
end
theorem LH (p:List Fn)(funcs:Int)(e:Ex)(vars:Int):wf p funcs e vars=(Gk p funcs vars e && P0 p funcs (decide (e.kind=9)) 0 e.kids vars):=by cases e;rw[wf];rfl
theorem JV (p:List Fn)(funcs:Int)(b:Bool)(vars:Int):∀(l:List Ex)(i:Nat),P0 p funcs b i l vars=true↔∀j,j<l.length→wf p funcs (l.getD j Ex.zero) (if b=true∧i+j=1 then vars+1 else vars)=true
 |[],i=>by rw[P0];simp
 |e::l,i=>by
  rw[P0,z7,JV p funcs b vars l (i+1)]
  constructor
  rintro⟨h1,h2⟩ j hj
  cases j with
  |zero=>simpa using h1
  |succ j =>
   have:=h2 j (by simpa using hj)
   rw[show i+1+j=i+(j+1)from by omega]at this
   simpa using this
  intro h
  refine⟨by simpa using h 0 (by simp),fun j hj=>?_⟩
  have:=h (j+1) (by simpa using hj)
  rw[show i+(j+1)=i+1+j from by omega]at this
  simpa using this
theorem Md {p:List Fn}{funcs vars:Int}{e:Ex}(h:e.kids.length=0):wf p funcs e vars=Gk p funcs vars e:=by rw[LH];have:e.kids=[]:=List.eq_nil_of_length_eq_zero h;rw[this,P0,Bool.and_true]
theorem R9 {p:List Fn}{funcs vars:Int}{e:Ex}(h:Gk p funcs vars e=false):false=wf p funcs e vars:=by rw[LH,h];rfl
theorem Ra {p:List Fn}{funcs vars own:Int}{e:Ex}{k:Nat}(hk:k<e.kids.length)(ho:own=if e.kind=9∧k=1 then vars+1 else vars)(h:wf p funcs (e.kids.getD k Ex.zero) own=false):false=wf p funcs e vars:=by
 rw[LH];cases hw:P0 p funcs (decide (e.kind=9)) 0 e.kids vars with
 |false=>rw[Bool.and_false]
 |true =>
  have:=(JV p funcs _ vars e.kids 0).1 hw k hk;rw[Nat.zero_add]at this;simp only[decide_eq_true_eq]at this;rw[← ho,h]at this;cases this
theorem Me {p:List Fn}{funcs vars:Int}{e:Ex}(hn:Gk p funcs vars e=true)(h:∀j,j<e.kids.length→wf p funcs (e.kids.getD j Ex.zero) (if e.kind=9∧j=1 then vars+1 else vars)=true):true=wf p funcs e vars:=by rw[LH,hn,Bool.true_and];refine ((JV p funcs _ vars e.kids 0).2 fun j hj=>?_).symm;rw[Nat.zero_add];simp only[decide_eq_true_eq];exact h j hj
theorem CK {l:List Ex}{k:Nat}(hk:k<l.length):(l.getD k Ex.zero).deep≤Ex.deeps l:=by
 have h1:=Gj hk;have h2:∀(l:List Ex) (k:Nat),Ex.deeps (l.take k)≤Ex.deeps l:=by
  intro l
  induction l with
  |nil=>intro k;simp
  |cons e l ih =>
   intro k;cases k with
   |zero=>rw[List.take_zero,Ex.deeps];omega
   |succ k=>rw[List.take_succ_cons,Ex.deeps,Ex.deeps];have:=ih k;omega
 have h3:=h2 l (k+1);omega
section
structure Ow {α:Type}(E:Bx α)(B T:Nat)(H:Array Obj)(v:Value)(x:α)(F:List Nat):Prop where
 own:E H v x F
 nodup:F.Nodup
 low:∀b∈F,B≤b
 high:∀b∈F,b<T
section
variable {α:Type} {E:Bx α} {B T U:Nat} {w w':World} {v:Value} {x:α} {F G:List Nat}
theorem Ow.of_fr (h:Fr E B U w.heap v x)(hT:U≤T):∃F,Ow E B T w.heap v x F:=by obtain⟨F,h1,h2,h3⟩:=h;exact⟨F,h1,h2,fun b hb=>(h3 b hb).1,fun b hb=>by have:=h3 b hb;omega⟩
theorem Ow.fr (h:Ow E B T w.heap v x F):Fr E B T w.heap v x:=⟨F,h.own,h.nodup,fun b hb=>⟨h.low b hb,h.high b hb⟩⟩
theorem Ow.ext (hE:Cb E)(h:Ow E B T w.heap v x F)(k:AK w w'):Ow E B T w'.heap v x F:=⟨Ts hE h.own k,h.nodup,h.low,h.high⟩
theorem Ow.up {T':Nat}(h:Ow E B T w.heap v x F)(hT:T≤T'):Ow E B T' w.heap v x F:=⟨h.own,h.nodup,h.low,fun b hb=>Nat.lt_of_lt_of_le (h.high b hb) hT⟩
end
section ops
variable {P:Program} {ops:Array Oper} {w0:World} {Q:Act→World→Prop} {os:List Oper} {ks:List Nat} {N:Nat} {ρ:Nat→Value} {w:World}
 {d:Nat} {ty:TypeId} {pos:String} {aft:Array Edge} {g:Option (Nat×Bool)} {t e:TypeId} {z:Value} {b:Nat}
theorem VX {α:Type}{E:Bx α}(hE:Cb E){x y:Operand}{v a:Value}{xs ys:List α}{B T B' U':Nat}{F:List Nat}(ht:P.underlying t=some (.slice e))(hi:TI P e 1 z b)(hz:z.cells=#[z])(hx:Bs N ρ x=v)(hy:Bs N ρ y=a)(hv:Ow (Bz E e) B T w.heap v xs F)
  (ha:Fr (Bz E e) B' U' w.heap a ys) (hT:T≤B') (hBB:B≤B') (hBw:B'≤w.heap.size) (hbytes:(xs.length+ys.length)*b≤140737488355328) (hmx:xs.length+ys.length≤maxLen) (hu:Up ops N ρ ⟨some d,.call ⟨.builtin .append,#[x,y],#[t,t]⟩,ty,pos,aft,g⟩)
  (h:∀v1 w1 F1,Ax (F.take 1) w w1→Ow (Bz E e) B w1.heap.size w1.heap v1 (xs++ys) F1→(∀c∈F1,c∈F∨B'≤c)→LW P ops w0 Q os ks (mk N (Cs ρ d v1)) w1) :
  LW P ops w0 Q (⟨some d,.call ⟨.builtin .append,#[x,y],#[t,t]⟩,ty,pos,aft,g⟩::os) (4::ks) (mk N ρ) w:=by
 obtain⟨h1,h2,h3,h4⟩:=hv;obtain⟨G,g1,g2,g3⟩:=ha;have gd:∀c∈G.drop 1,c∈G:=fun c hc=>List.mem_of_mem_drop hc;obtain⟨v',w',F',r1,r2,r3,r4,r5⟩:=JS (P:=P) (ty:=ty) hE ht hi hz h1 h2 (g1.rd id) rfl hbytes hmx (fun c hc hF=>by have:=g3 c (gd c hc);have:=h4 c hF;omega)
  ((List.drop_sublist 1 G).nodup g2)
 refine M3 rfl hu v' w' (by simp only[execOp,resolve,invoke,builtin,zc,zf,zh,Sem.run_bind,Sem.run_pure,Result.andThen_ok,hx,hy,r1]) (h v' w' F' r5 ⟨r2,r3,fun c hc=>?_,fun c hc=>(Dx hE).lt r2 c hc⟩ fun c hc=>?_);rcases r4 c hc with hh|hh|hh;exact h3 c hh;have:=g3 c (gd c hh);omega;omega;rcases r4 c hc with hh|hh|hh;exact .inl hh;exact .inr (g3 c<|gd c hh).1;exact .inr zO
end ops
end
section
theorem JA {β:Type}{l r:List β}{k:Nat}{d:β}(h:k<l.length):(l++r).getD k d=l.getD k d:=by rw[List.getD_eq_getElem?_getD,List.getD_eq_getElem?_getD,List.getElem?_append_left h]
theorem Kl {β:Type}{l:List β}{x d:β}{k:Nat}(h:k=l.length):(l++[x]).getD k d=x:=by subst h;rw[List.getD_eq_getElem?_getD,List.getElem?_append_right (A7 _)];simp
theorem Aw {g:Nat}{S:List Nat}(hg:g∈S):∀x∈[g],x∈S:=fun x hx=>by rw[A9 hx];exact hg
theorem Lf {g:Nat}{S F:List Nat}(hg:g∈S):∀x∈[g],x∈S++F:=fun x hx=>z8 _ (Aw hg x hx)
theorem Bg.get2 {α:Type}{E:Bx α}{H:Array Obj}{v:Value}{xs:List α}{F:List Nat}(d:α){k:Nat}(h:Bg E H v xs F)(hk:k<xs.length) :
  ∃u F1,(∀H':Array Obj,(∀b∈F,H'[b]? = H[b]?)→JQ H' (AD v k 1)=some u)∧E H u (xs.getD k d) F1∧∀b∈F1,b∈F:=by
 rcases h with⟨a,cap,rfl,rfl,_⟩|⟨us,g,off,cap,cur,e,fr,F',h,rfl,hg,hw,_,rfl⟩;simp at hk;obtain⟨u,F1,hu,hx,hb⟩:=h.get d hk;refine⟨u,F1,fun H' hH=>?_,hx,fun b hh=>z3 _ (hb b hh)⟩;rw[M4];simp only[JQ,C8,hH g (z0 ..),hg];rw[← hw,List.getElem?_take,if_pos hk,List.getElem?_drop]at hu;simpa using hu
section rn
variable {α:Type} {S F:List Nat} {w w':World} {E:Bx α} {v:Value} {xs:List α} {x:α} {g:Nat}
theorem RN.run (hE:Cb E)(h:RN S E w.heap v x)(hg:g∈S)(c:Ax [g] w w'):RN S E w'.heap v x:=h.chg hE (c.sub (Aw hg))
theorem RN.add (hE:Cb E)(h:RN S E w.heap v x)(hF:∀b∈F,w.heap.size≤b):RN (S++F) E w.heap v x:=by obtain⟨G,h1,h2⟩:=h;refine⟨G,h1,fun b hb hm=>(zi.1 hm).elim (h2 b hb) fun hf=>?_⟩;have:=hE.lt h1 b hb;have:=hF b hf;omega
theorem RN.getL (hE:Cb E)(d:α){k:Nat}(h:RN S (Bg E) w.heap v xs)(hk:k<xs.length) :
  ∃u,(∀w',Ax S w w'→JQ w'.heap (AD v k 1)=some u)∧RN S E w.heap u (xs.getD k d):=by
 obtain⟨F,h,hb⟩:=h;have hlt:=(GV hE).lt h;obtain⟨u,F1,h1,h2,h3⟩:=Bg.get2 d h hk;exact⟨u,fun w' c=>h1 _ fun b hm=>c.block b (hlt b hm) (hb b hm),F1,h2,fun b hm=>hb b (h3 b hm)⟩
theorem RN.getI {xs:List Int}{k:Nat}(h:RN S (Bg rI) w.heap v xs)(hk:k<xs.length) :
  (∀w',Ax S w w'→JQ w'.heap (AD v k 1)=some (.int .i64 (xs.getD k 0)))∧-9223372036854775808≤xs.getD k 0∧xs.getD k 0≤9223372036854775807:=by
 obtain⟨u,h1,F1,h2,_⟩:=h.getL Bi 0 hk;rw[h2.1]at h1;exact⟨h1,h2.2.2⟩
theorem RN.slL {H:Array Obj}(h:RN S (Bg E) H v xs):Go.Proofs.YtbcopolhaljhhaaGreat.Ea v xs.length:=by obtain⟨F,h,_⟩:=h;exact Bg.isSl h
theorem RN.lenL {H:Array Obj}(h:RN S (Bg E) H v xs):xs.length≤maxLen:=by obtain⟨F,h,_⟩:=h;exact h.lenle
theorem RN.of_fr1 {e:TypeId}{B U:Nat}{H:Array Obj}{xs:List Int}(h:Fr (Bz rI e) B U H v xs)(hS:∀b∈S,b<B):RN S (Bg rI) H v xs:=by obtain⟨F,h1,_,h3⟩:=h;exact⟨F,h1.rd id,fun b hb hm=>by have:=h3 b hb;have:=hS b hm;omega⟩
theorem RN.of_fr2 {e e':TypeId}{B U:Nat}{H:Array Obj}{xs:List (List Int)}(h:Fr (Bz (Bz rI e) e') B U H v xs)(hS:∀b∈S,b<B):RN S (Bg (Bg rI)) H v xs:=by obtain⟨F,h1,_,h3⟩:=h;exact⟨F,h1.rd fun h=>h.rd id,fun b hb hm=>by have:=h3 b hb;have:=hS b hm;omega⟩
theorem RN.one1 {H:Array Obj}(hE:Cb E)(h:RN S E H v x):v.cells=#[v]∧v.oneCell'=true:=by obtain⟨F,h,_⟩:=h;exact⟨hE.cells h,hE.one h⟩
end rn
def rP {α:Type}(E:BC α):Bx α:=fun H v x F=>∃cs F' g o,v=.pointer (some ⟨g,o,none⟩)∧g<H.size∧(∀i,i<cs.length→C8 H g (o+i)=some (cs.getD i undef))∧E H cs x F'∧F=g::F'
theorem Ay {α:Type}{s:Nat}{E:BC α}(hE:C5 s E):Cb (rP E) where
 cells:=by rintro H v x F ⟨cs,F',g,o,rfl,_⟩;rfl
 one:=by rintro H v x F ⟨cs,F',g,o,rfl,_⟩;rfl
 lt:=by
  rintro H v x F ⟨cs,F',g,o,rfl,hg,hc,he,rfl⟩ b hb;rcases ze.1 hb with rfl|hb;exact hg;exact hE.lt he b hb
 stable:=by
  rintro H H' v x F ⟨cs,F',g,o,rfl,hg,hc,he,rfl⟩ hb;refine⟨cs,F',g,o,rfl,?_,fun i hi=>?_,hE.stable he fun b hm=>hb b (z3 _ hm),rfl⟩;have:=hb g (z0 ..);rcases Nat.lt_or_ge g H'.size with h|h;exact h;rw[Array.getElem?_eq_none h,Array.getElem?_eq_getElem hg]at this;cases this;have:=hc i hi;unfold C8 at this ⊢;rw[hb g (z0 ..)];exact this
section rp
variable {α:Type} {S:List Nat} {w w':World} {s:Nat} {E:BC α} {v p:Value} {xs:List α} {x:α}
theorem RN.ptr (hE:C5 s E)(hs:0<s)(d:α){k:Nat}{H:Array Obj}(h:RN S (D0 s E) H v xs)(hk:k<xs.length):RN S (rP E) H (AD v k s) (xs.getD k d):=by
 obtain⟨F,h,hb⟩:=h;rcases h with⟨a,cap,rfl,rfl,_⟩|⟨css,g,off,cap,cur,e,fr,F',h,rfl,hg,hw,_,rfl⟩;simp at hk;obtain⟨cs,F1,q1,q2,q3⟩:=h.get hE d hk;rw[R6];refine⟨g::F1,⟨cs,F1,g,off+k*s,rfl,getElem?_lt hg,fun i hi=>?_,q1,rfl⟩,fun b hm=>?_⟩;rw[hE.len q1]at hi;have h1:=q3 i hi;have hlt:k*s+i<xs.length*s:=by
  have:(k+1)*s≤xs.length*s:=Nat.mul_le_mul_right s hk;rw[Nat.succ_mul]at this;omega
 rw[← hw,List.getElem?_take,if_pos hlt,List.getElem?_drop]at h1;simp only[C8,hg];rw[Nat.add_assoc];simpa using h1;rcases ze.1 hm with rfl|hm;exact hb _ (z0 ..);exact hb b<|z3 _<|q2 b hm
theorem RN.at (hE:C5 s E)(h:RN S (rP E) w.heap p x):∃cs,RN S E w.heap cs x∧∀w',Ax S w w'→LD w'.heap p cs:=by obtain⟨F,h,hb⟩:=h;have hlt:=(Ay hE).lt h;obtain⟨cs,F',g,o,rfl,hg,hc,he,rfl⟩:=h;refine⟨cs,⟨F',he,fun b hm=>hb b (z3 _ hm)⟩,fun w' c=>⟨g,o,rfl,fun i hi=>?_⟩⟩;have:=hc i hi;unfold C8 at this ⊢;rw[c.block g hg (hb g (z0 ..))];exact this
theorem RN.isPtr {H:Array Obj}(h:RN S (rP E) H p x):∃g o,p=.pointer (some ⟨g,o,Option.none⟩):=by obtain⟨F,⟨cs,F',g,o,rfl,_⟩,_⟩:=h;exact⟨g,o,rfl⟩
theorem RN.box {b:Nat}{H:Array Obj}{cs:List Value}(hB:BX H b cs)(h:RN S E H cs x)(hb:b∉S):RN S (rP E) H (.pointer (some ⟨b,0,Option.none⟩)) x:=by have hl:=hB.lt;obtain⟨e,hB⟩:=hB;obtain⟨F,h1,h2⟩:=h;refine⟨b::F,⟨cs,F,b,0,rfl,hl,fun i hi=>?_,h1,rfl⟩,fun c hc=>?_⟩;simp only[C8,hB];simp[hi];rcases ze.1 hc with rfl|hc;exact hb;exact h2 c hc
end rp
def Gd (d:Nat):BC (List Fn):=fun H cs p F=>∃v,cs=[v]∧D0 3 (TB d) H v p F
theorem Ao (d:Nat):C5 1 (Gd d):=by have ih:=Aq<|AC d;refine⟨?_,?_,?_,?_⟩;rintro H cs e F ⟨v,rfl,_⟩;rfl;rintro H cs e F ⟨v,rfl,h⟩ u hu;rw[A9 hu];exact⟨ih.cells h,ih.one h⟩;rintro H cs e F ⟨v,rfl,h⟩ b hb;exact ih.lt h b hb;rintro H H' cs e F ⟨v,rfl,h⟩ hb;exact⟨v,rfl,ih.stable h hb⟩
theorem RPr.of {S:List Nat}{d:Nat}{H:Array Obj}{cs:List Value}{p:List Fn}(h:RN S (Gd d) H cs p):∃v,cs=[v]∧RP S d H v p:=by obtain⟨F,⟨v,rfl,h⟩,hb⟩:=h;exact⟨v,rfl,F,h,hb⟩
theorem RP.mk' {S:List Nat}{d:Nat}{H:Array Obj}{v:Value}{p:List Fn}(h:RP S d H v p):RN S (Gd d) H [v] p:=by obtain⟨F,h,hb⟩:=h;exact⟨F,⟨v,rfl,h⟩,hb⟩
structure Mf (e:TypeId)(S:List Nat)(B:Nat)(H:Array Obj)(v:Value)(xs:List (List Int))(us:List Value)(F:List Nat):Prop where
 own:Bz rV e H v us F
 nd:F.Nodup
 low:∀b∈F,B≤b
 len:us.length=xs.length
 els:∀k,k<xs.length→RN (S++F) (Bg rI) H (us.getD k undef) (xs.getD k [])
def Q2 (e:TypeId)(S:List Nat)(B:Nat)(H:Array Obj)(v:Value)(xs:List (List Int)):Prop:=∃us F,Mf e S B H v xs us F
section bld
variable {e:TypeId} {S F:List Nat} {B:Nat} {w w':World} {v:Value} {xs:List (List Int)} {us:List Value} {g:Nat}
theorem Mf.nil {U:Nat}{H:Array Obj}(h:Fr (Bz rV e) B U H v []):Q2 e S B H v []:=by obtain⟨F,h1,h2,h3⟩:=h;exact⟨[],F,h1,h2,fun b hb=>(h3 b hb).1,rfl,fun k hk=>by simp at hk⟩
theorem Mf.lt {H:Array Obj}(h:Mf e S B H v xs us F):∀b∈F,b<H.size:=(Dx Cw).lt h.own
theorem Mf.ext (h:Mf e S B w.heap v xs us F)(k:AK w w'):Mf e S B w'.heap v xs us F :=
 ⟨(Dx Cw).stable h.own fun b hb=>k.heap (h.lt b hb),h.nd,h.low,h.len,fun i hi=>(h.els i hi).ext g1 k⟩
theorem Mf.run (h:Mf e S B w.heap v xs us F)(hg:g∈S)(hgB:g<B)(c:Ax [g] w w'):Mf e S B w'.heap v xs us F :=
  ⟨(Dx Cw).stable h.own fun b hb=>c.block b (h.lt b hb) fun hm=>by have:=h.low b hb;rw[A9 hm]at this;omega,h.nd,h.low,h.len,
   fun i hi=>(h.els i hi).chg g1 (c.sub (Lf hg))⟩
theorem LJ {S:List Nat}{H:Array Obj}:∀ {us:List Value}{xs:List (List Int)},us.length=xs.length→(∀k,k<xs.length→RN S (Bg rI) H (us.getD k undef) (xs.getD k []))→∃G,els (Bg rI) H us xs G∧∀b∈G,b∉S
 |[],[],_,_=>⟨[],rfl,fun b hb=>by cases hb⟩
 |u::us,x::xs,hl,h=>by
  obtain⟨G1,q1,q2⟩:=h 0 (by simp)
  obtain⟨G2,r1,r2⟩:=LJ (us:=us) (xs:=xs) (by simpa using hl) fun k hk=>by
   have:=h (k+1) (by simpa using hk)
   simpa using this
  exact⟨G1++G2,⟨G1,G2,rfl,by simpa using q1,r1⟩,fun b hb=>(zi.1 hb).elim (q2 b) (r2 b)⟩
theorem Hl {H:Array Obj}:∀ {us vs:List Value}{F:List Nat},els rV H us vs F→us=vs∧F=[]
 |[],[],_,h=>⟨rfl,h⟩
 |_::_,_::_,_,⟨F1,F2,rfl,h1,h2⟩=>by
  obtain⟨rfl,rfl⟩:=Hl h2
  rw[h1.1,h1.2.1];exact⟨rfl,rfl⟩
 |[],_::_,_,h=>h.elim
 |_::_,[],_,h=>h.elim
theorem Mf.done {H:Array Obj}(h:Mf e S B H v xs us F)(hS:∀b∈S,b<B):RN S (Bg (Bg rI)) H v xs:=by obtain⟨G,g1,g2⟩:=LJ h.len h.els;have g2':∀b∈G,b∉S:=fun b hb hm=>g2 b hb (z8 _ hm);rcases h.own with⟨rfl,hus,rfl⟩|⟨vs,gb,cap,cur,F',hels,rfl,hg,r1,r2,r3,r4,hF⟩;have:xs=[]:=List.eq_nil_of_length_eq_zero (by rw[← h.len,hus];rfl);subst this;exact⟨[],.inl ⟨none,0,rfl,rfl,rfl⟩,fun b hb=>by cases hb⟩;obtain⟨hv,hF0⟩:=Hl hels;subst hv;have hl:=h.len;refine⟨gb::G,.inr ⟨vs,gb,0,cap,cur,e,(0,0),G,g1,by rw[hl],hg,by simpa [hl]using r4,zO,rfl⟩,fun b hb hm=>?_⟩;rcases ze.1 hb with rfl|hb;have:=h.low b (by rw[hF];exact z0 ..);have:=hS b hm;omega;exact g2' b hb hm
end bld
section ops
variable {P:Program} {ops:Array Oper} {w0:World} {Q:Act→World→Prop} {os:List Oper} {ks:List Nat} {N:Nat} {ρ:Nat→Value} {w:World}
 {d:Nat} {ty:TypeId} {pos:String} {aft:Array Edge} {g:Option (Nat×Bool)} {t e:TypeId} {z:Value} {b:Nat}
theorem Km {x y:Operand}{v a u:Value}{xs:List (List Int)}{r:List Int}{us:List Value}{S F:List Nat}{B B' U':Nat}(ht:P.underlying t=some (.slice e))(hi:TI P e 1 z b)(hz:z.cells=#[z])(hx:Bs N ρ x=v)(hy:Bs N ρ y=a)
  (hv:Mf e S B w.heap v xs us F) (hB:B≤w.heap.size) (ha:Fr (Bz rV e) B' U' w.heap a [u]) (hr:RN (S++F) (Bg rI) w.heap u r) (hbytes:(xs.length+1)*b≤140737488355328) (hmx:xs.length+1≤maxLen)
  (hu:Up ops N ρ ⟨some d,.call ⟨.builtin .append,#[x,y],#[t,t]⟩,ty,pos,aft,g⟩)
  (h:∀v1 w1 F0,Ax F0 w w1→(∀c∈F0,c∈F)→Q2 e S B w1.heap v1 (xs++[r])→LW P ops w0 Q os ks (mk N (Cs ρ d v1)) w1) :
  LW P ops w0 Q (⟨some d,.call ⟨.builtin .append,#[x,y],#[t,t]⟩,ty,pos,aft,g⟩::os) (4::ks) (mk N ρ) w:=by
 obtain⟨G,g1',g2',g3'⟩:=ha;have hG1:G.drop 1=[]:=by
  rcases g1' with⟨_,hc,_⟩|⟨vs,gb,cap,cur,F',hels,_,_,_,_,_,_,rfl⟩;cases hc;rw[(Hl hels).2];rfl
 obtain⟨v',w',F',r1,r2,r3,r4,r5⟩:=JS (P:=P) (ty:=ty) Cw ht hi hz hv.own hv.nd (g1'.rd id) rfl (by rw[hv.len];exact hbytes) (by rw[hv.len];exact hmx) (by rw[hG1];intro c hc;cases hc) (by rw[hG1];exact zk);rw[hG1]at r4;refine M3 rfl hu v' w' (by simp only[execOp,resolve,invoke,builtin,zc,zf,zh,Sem.run_bind,Sem.run_pure,Result.andThen_ok,hx,hy,r1])<|h v' w' (F.take 1) r5 (fun c hc=>zj hc) ⟨us++[u],F',r2,r3,fun c hc=>?_,by simp[hv.len],fun k hk=>?_⟩;rcases r4 c hc with hh|hh|hh;exact hv.low c hh;cases hh;omega;have key:∀ {v0:Value} {x0:List Int},RN (S++F) (Bg rI) w.heap v0 x0→RN (S++F') (Bg rI) w'.heap v0 x0:=by
  rintro v0 x0 ⟨K,k1,k2⟩;have hlt:=g1.lt k1;refine⟨K,g1.stable k1 fun c hc=>r5.block c (hlt c hc) fun hm=>k2 c hc (z1 _ (zj hm)),fun c hc hm=>?_⟩;rcases zi.1 hm with hm|hm;exact k2 c hc<|z8 _ hm;rcases r4 c hm with hh|hh|hh;exact k2 c hc<|z1 _ hh;cases hh;have:=hlt c hc;omega
 rw[z4,zd]at hk;by_cases hkx:k<xs.length;have h1:=key<|hv.els k hkx;have hku:k<us.length:=by rw[hv.len];exact hkx
 rw[JA hku,JA hkx];exact h1;have e1:k=xs.length:=by omega
 have e2:k=us.length:=by rw[hv.len];exact e1
 rw[Kl e2,Kl e1];exact key hr
def E6:Value→Prop
 |.slice _ n c=>n≤c
 |_=>False
theorem Bz.cap {α:Type}{E:Bx α}{e:TypeId}{H:Array Obj}{v:Value}{xs:List α}{F:List Nat}(h:Bz E e H v xs F):E6 v:=by rcases h with⟨rfl,_⟩|⟨us,g,cap,cur,F',_,rfl,_,h,_⟩;exact A7 _;exact h
theorem Fr.cap {α:Type}{E:Bx α}{e:TypeId}{B U:Nat}{H:Array Obj}{v:Value}{xs:List α}(h:Fr (Bz E e) B U H v xs):E6 v:=by obtain⟨F,h,_⟩:=h;exact h.cap
theorem Mf.cap {e:TypeId}{S F:List Nat}{B:Nat}{H:Array Obj}{v:Value}{xs:List (List Int)}{us:List Value}(h:Mf e S B H v xs us F):E6 v:=h.own.cap
def FX:Value→Value
 |.slice a n _=>.slice a n n
 |v=>v
theorem VY {x y:Operand} {v a u:Value} {xs:List (List Int)} {r:List Int} {S:List Nat} {B' U':Nat} (ht:P.underlying t = some (.slice e)) (hi:TI P e 1 z b) (hz:z.cells = #[z]) (hx:Bs N ρ x = FX v) (hy:Bs N ρ y = a)
  (hv:RN S (Bg (Bg rI)) w.heap v xs) (ha:Fr (Bz rV e) B' U' w.heap a [u]) (hr:RN S (Bg rI) w.heap u r) (hS:∀ c∈S,c < w.heap.size) (hbytes:(xs.length + 1) * b≤140737488355328) (hmx:xs.length + 1≤maxLen)
  (hu:Up ops N ρ ⟨some d,.call ⟨.builtin .append,#[x,y],#[t,t]⟩,ty,pos,aft,g⟩)
  (h:∀ v1 w1,AK w w1→RN S (Bg (Bg rI)) w1.heap v1 (xs++[r])→E6 v1→LW P ops w0 Q os ks (mk N (Cs ρ d v1)) w1) :
  LW P ops w0 Q (⟨some d,.call ⟨.builtin .append,#[x,y],#[t,t]⟩,ty,pos,aft,g⟩ :: os) (4 :: ks) (mk N ρ) w:=by
 obtain ⟨G,g1',g2',g3'⟩:=ha;obtain ⟨K,k1,k2⟩:=hv;obtain ⟨R,r1,r2⟩:=hr;obtain ⟨i,h1,h2,h3,h4⟩:=hi.get;subst h4;have hone:=g1.one r1;rcases g1' with ⟨_,hc,_⟩ | ⟨asq,ga,capa,cura,Fa,helsa,hav,hga,qa1,qa2,qa3,qa4,rfl⟩;cases hc
 ·obtain ⟨hq,hFa⟩:=Hl helsa;subst hq;subst hav;have hnews:∀ j q,[u][j]? = some q→w.cell? ((⟨ga,0,none⟩:Addr).add j) = some q:=by
   intro j q hj;rw [Gi,BF];simp only [C8,hga];rw [← qa4,List.getElem?_take] at hj;split at hj;simpa using hj;cases hj
  have made:∀ (w1:World) (ous:List Value) (K0:List Nat) (rest:Nat),w1.heap = w.heap→w1.os = w.os→w1.tape = w.tape→w1.output = w.output→els (Bg rI) w.heap ous xs K0→(∀ c∈K0,c∈K)→xs.length + 1 + rest≤maxLen →
    AK w (w1.alloc (.cells (ous.toArray++[u].toArray++Builtin.zeroCells z.cells rest) e))∧RN S (Bg (Bg rI)) (w1.alloc (.cells (ous.toArray++[u].toArray++Builtin.zeroCells z.cells rest) e)).heap (.slice (some ⟨w.heap.size,0,none⟩) (xs.length + 1) (xs.length + 1 + rest)) (xs++[r]):=by
   intro w1 ous K0 rest hh ho htp hop hou hsub hmax;have hE:AK w (w1.alloc (.cells (ous.toArray++[u].toArray++Builtin.zeroCells z.cells rest) e)):=by
    refine ⟨ho,htp,hop,?_,fun k hk=>?_⟩;show w.heap.size≤(w1.heap.push _).size;rw [hh]; simp;have:=Below.heap_alloc w1 (.cells (ous.toArray++[u].toArray++Builtin.zeroCells z.cells rest) e) k (by rw [hh]; exact hk);rw [this,hh]
   refine ⟨hE,w.heap.size :: (K0++R),.inr ⟨ous++[u],w.heap.size,0,xs.length + 1 + rest,(ous.toArray++[u].toArray++Builtin.zeroCells z.cells rest),e,(0,0),K0++R,?_,by simp,?_,?_,by simp; omega,rfl⟩,?_⟩;refine els.stable g1 (hou.append (show els (Bg rI) w.heap [u] [r] R from ⟨R,[],by simp,r1,rfl⟩)) fun c hc=>hE.heap ?_;exact (hou.append (show els (Bg rI) w.heap [u] [r] R from ⟨R,[],by simp,r1,rfl⟩)).lt g1 c hc;have:=heap_alloc_new w1 (.cells (ous.toArray++[u].toArray++Builtin.zeroCells z.cells rest) e);rw [hh] at this; exact this;have hl:=hou.length;simp only [Array.toList_append,List.drop_zero];rw [show (xs++[r]).length = (ous++[u]).length from by simp [hl]];exact List.take_left
   intro c hc hm;rcases ze.1 hc with rfl | hc;have:=hS _ hm; omega;rcases zi.1 hc with hc | hc;exact k2 c (hsub c hc) hm;exact r2 c hc hm
  have hone1:[u].length = [u].length * i.size:=by rw [h3,Nat.mul_one]
  rcases k1 with ⟨a0,cap0,rfl,rfl,rfl⟩ | ⟨ous,gv,off,cap,cur,e',fr,K',hels,rfl,hg,hw,_,rfl⟩
  ·-- nothing so far
   cases a0 with
   | none =>
    have hrr:=run_append_nil (P:=P) w t ty e i z ht h1 h2 ⟨ga,0,none⟩ 1 capa [u] hone1 hnews (by decide) (by decide) (by simp at hbytes; omega);have hge:=grownCap_ge w 1 0 e;have hgm:=grownCap_le_maxLen w 1 0 e (by simpa using hmx);obtain ⟨q1,q2⟩:=made w.drew [] [] (grownCap w 1 0 e - 1) rfl rfl rfl rfl rfl (fun c hc=>by cases hc) (by simp; omega);refine M3 rfl hu _ _ (by simp only [execOp,resolve,invoke,builtin,zc,zf,zh,Sem.run_bind,Sem.run_pure,Result.andThen_ok,hx,hy,FX]; rw [show [u].length = 1 from rfl,hrr]; rfl)<|h _ _ ?_ ?_ ?_;simpa using q1;have ea:(([]:List (List Int)).length + 1 + (grownCap w 1 0 e - 1)) = grownCap w 1 0 e:=by simp; omega
    rw [ea] at q2;simpa using q2;exact hge
   | some a1 =>
    have hrr:=run_append_grow (P:=P) w t ty e i z ht h1 h2 a1 0 0 [] (by rw [h3]; rfl) (by intro j q hj; cases hj) ⟨ga,0,none⟩ 1 capa [u] hone1 hnews zO (by decide)<|growslice_fits zO (by simpa using hbytes);have hge:=grownCap_ge w (0 + 1) 0 e;have hgm:=grownCap_le_maxLen w (0 + 1) 0 e (by simpa using hmx);obtain ⟨q1,q2⟩:=made w.drew [] [] (grownCap w (0 + 1) 0 e - (0 + 1)) rfl rfl rfl rfl rfl (fun c hc=>by cases hc) (by show 0 + 1 + (grownCap w (0 + 1) 0 e - (0 + 1))≤maxLen; omega);refine M3 rfl hu _ _ (by simp only [execOp,resolve,invoke,builtin,zc,zf,zh,Sem.run_bind,Sem.run_pure,Result.andThen_ok,hx,hy,FX]; rw [show [u].length = 1 from rfl,hrr]; rfl)<|h _ _ q1 ?_ ?_;rotate_left;exact hge;have ea:(([]:List (List Int)).length + 1 + (grownCap w (0 + 1) 0 e - (0 + 1))) = grownCap w (0 + 1) 0 e:=by show 0 + 1 + (grownCap w (0 + 1) 0 e - (0 + 1)) = _; omega
    rw [ea] at q2;simpa using q2
  ·have holds:∀ j q,ous[j]? = some q→w.cell? ((⟨gv,off,none⟩:Addr).add j) = some q:=by
    intro j q hj;rw [Gi,BF];simp only [C8,hg];rw [← hw,List.getElem?_take] at hj;split at hj;rw [List.getElem?_drop] at hj; simpa using hj;cases hj
   have hrr:=run_append_grow (P:=P) w t ty e i z ht h1 h2 ⟨gv,off,none⟩ xs.length xs.length ous (by rw [h3,hels.length]; omega) holds ⟨ga,0,none⟩ 1 capa [u] hone1 hnews zO (by simp only [maxLen] at hmx; omega)<|growslice_fits zO hbytes;have hge:=grownCap_ge w (xs.length + 1) xs.length e;have hgm:=grownCap_le_maxLen w (xs.length + 1) xs.length e hmx;obtain ⟨q1,q2⟩:=made w.drew ous K' (grownCap w (xs.length + 1) xs.length e - (xs.length + 1)) rfl rfl rfl rfl hels (fun c hc=>z3 _ hc) zO;refine M3 rfl hu _ _ (by simp only [execOp,resolve,invoke,builtin,zc,zf,zh,Sem.run_bind,Sem.run_pure,Result.andThen_ok,hx,hy,FX]; rw [show [u].length = 1 from rfl,hrr]; rfl)<|h _ _ q1 ?_ ?_;rotate_left;exact hge;have ea:(xs.length + 1 + (grownCap w (xs.length + 1) xs.length e - (xs.length + 1))) = grownCap w (xs.length + 1) xs.length e:=by omega
   rw [ea] at q2;exact q2
end ops
end
abbrev Sr:=List Int
def GP (n:Nat)(x:Int):Sr:=(List.replicate n 0).set 0 x
inductive Rs (α:Type) where
 |ok (x:α) (s:Nat)
 |err (c:Int)
structure Ca where
 one:Nat→Nat→List Sr→Nat→Rs Sr
 all:Nat→List Sr→Nat→Rs (List Sr)
def Rs.bind {α β:Type}(r:Rs α)(f:α→Nat→Rs β):Rs β:=match r with
 |.ok x s=>f x s
 |.err c=>.err c
theorem Rs.bind_ok {α β:Type}(x:α)(s:Nat)(f:α→Nat→Rs β):(Rs.ok x s).bind f=f x s:=rfl
theorem Rs.bind_err {α β:Type}(c:Int)(f:α→Nat→Rs β):(Rs.err c:Rs α).bind f=.err c:=rfl
theorem Rs.bind_assoc {α β γ:Type}(r:Rs α)(f:α→Nat→Rs β)(h:β→Nat→Rs γ):(r.bind f).bind h=r.bind fun x s=>(f x s).bind h:=by cases r <;> rfl
def IW (f:List Sr→Nat→Rs (List Sr)):Nat→List Sr→Nat→Rs (List Sr)
 |0,a,s=>.ok a s
 |k+1,a,s=>(IW f k a s).bind f
def MW (k:Int)(xs:List Sr)(t:Nat):Rs Sr :=
 if k=3 then .ok (Df (xs.getD 0 []) (xs.getD 1 [])) t
 else if k=4 then .ok (Fw (xs.getD 0 []) (xs.getD 1 [])) t
 else if k=5 then .ok (E5 (xs.getD 0 []) (xs.getD 1 [])) t
 else if k=7 then .ok (DG (xs.getD 0 []) 1000002) t
 else if (xs.getD 1 []).getD 0 0=0 then .err 6 else .ok (De (xs.getD 0 []) (xs.getD 1 [])) t
mutual
def CF (n:Nat)(C:Ca):Ex→List Sr→Nat→Rs Sr
 |.mk k num pick cnt l,env,s =>
  if 3000≤s then .err 7
  else if k=1 then .ok (GP n num) (s+1)
  else if k=2 then .ok (env.getD num.toNat []) (s+1)
  else if k=8 then(Iy n C l 0 env (s+1)).bind fun x t=>if x.getD 0 0=0 then Iy n C l 1 env t else Iy n C l 2 env t
  else if k=9 then(Iy n C l 0 env (s+1)).bind fun x t=>Iy n C l 1 (env++[x]) t
  else(DP n C l env (s+1)).bind fun xs t =>
   if k=10 then C.one num.toNat pick.toNat xs t
   else if k=11 then(IW (C.all num.toNat) cnt.toNat xs t).bind fun ys u=>.ok (ys.getD pick.toNat []) u
   else MW k xs t
def Iy (n:Nat)(C:Ca):List Ex→Nat→List Sr→Nat→Rs Sr
 |[],_,_,_=>.err 0
 |e::_,0,env,s=>CF n C e env s
 |_::l,j+1,env,s=>Iy n C l j env s
def DP (n:Nat)(C:Ca):List Ex→List Sr→Nat→Rs (List Sr)
 |[],_,s=>.ok [] s
 |e::l,env,s=>(CF n C e env s).bind fun x t=>(DP n C l env t).bind fun xs u=>.ok (x::xs) u
end
theorem Fx (n:Nat)(C:Ca)(env:List Sr)(s:Nat):∀(l:List Ex)(j:Nat),j<l.length→Iy n C l j env s=CF n C (l.getD j Ex.zero) env s
 |[],j,h=>by simp at h
 |e::l,0,_=>by rw[Iy];rfl
 |e::l,j+1,h=>by rw[Iy,Fx n C env s l j (by simpa using h)];simp
theorem Nb (n:Nat)(C:Ca)(env:List Sr)(e:Ex):∀(l:List Ex)(s:Nat),DP n C (l++[e]) env s=(DP n C l env s).bind fun xs t=>(CF n C e env t).bind fun x u=>.ok (xs++[x]) u
 |[],s=>by
  rw[zl,DP,DP]
  simp only[Rs.bind_ok]
  cases CF n C e env s <;> simp only[Rs.bind_ok,Rs.bind_err,DP] <;> rfl
 |a::l,s=>by
  rw[List.cons_append,DP,DP]
  cases CF n C a env s with
  |err c=>rfl
  |ok x t =>
   simp only[Rs.bind_ok]
   rw[Nb n C env e l t]
   simp only[Rs.bind_assoc]
   cases DP n C l env t with
   |err c=>rfl
   |ok xs u =>
    simp only[Rs.bind_ok]
    cases CF n C e env u <;> rfl
theorem Rb {n:Nat}{C:Ca}{env:List Sr}{s:Nat}{l:List Ex}{k:Nat}(hk:k<l.length):DP n C (l.take (k+1)) env s=(DP n C (l.take k) env s).bind fun xs t=>(CF n C (l.getD k Ex.zero) env t).bind fun x u=>.ok (xs++[x]) u:=by rw[List.take_succ_eq_append_getElem hk,Nb];simp[hk]
theorem Fy (n:Nat)(C:Ca)(e:Ex)(env:List Sr)(s:Nat):CF n C e env s =
  if 3000≤s then .err 7
  else if e.kind=1 then .ok (GP n e.num) (s+1)
  else if e.kind=2 then .ok (env.getD e.num.toNat []) (s+1)
  else if e.kind=8 then(Iy n C e.kids 0 env (s+1)).bind fun x t=>if x.getD 0 0=0 then Iy n C e.kids 1 env t else Iy n C e.kids 2 env t
  else if e.kind=9 then(Iy n C e.kids 0 env (s+1)).bind fun x t=>Iy n C e.kids 1 (env++[x]) t
  else(DP n C e.kids env (s+1)).bind fun xs t =>
   if e.kind=10 then C.one e.num.toNat e.pick.toNat xs t
   else if e.kind=11 then(IW (C.all e.num.toNat) e.count.toNat xs t).bind fun ys u=>.ok (ys.getD e.pick.toNat []) u
   else MW e.kind xs t:=by cases e;rw[CF];rfl
def ES (p:List Fn)(n:Nat):Nat→Ca
 |0=>⟨fun _ _ _ _=>.err 0,fun _ _ _=>.err 0⟩
 |k+1=>⟨fun f j a s=>if f=k then CF n (ES p n k) ((p.getD k Fn.zero).outs.getD j Ex.zero) a s else(ES p n k).one f j a s,
   fun f a s=>if f=k then DP n (ES p n k) (p.getD k Fn.zero).outs a s else(ES p n k).all f a s⟩
theorem Mg {p:List Fn}{n f j:Nat}{a:List Sr}{s:Nat}:∀ {F:Nat},f<F→(ES p n F).one f j a s=CF n (ES p n f) ((p.getD f Fn.zero).outs.getD j Ex.zero) a s
 |0,h=>by omega
 |F+1,h=>by
  show(if f=F then _ else _)=_
  split
  rename_i e;rw[e]
  exact Mg zO
theorem JW {p:List Fn}{n f:Nat}{a:List Sr}{s:Nat}:∀ {F:Nat},f<F→(ES p n F).all f a s=DP n (ES p n f) (p.getD f Fn.zero).outs a s
 |0,h=>by omega
 |F+1,h=>by
  show(if f=F then _ else _)=_
  split
  rename_i e;rw[e]
  exact JW zO
def ev (p:List Fn)(n f:Nat)(a:List Sr):Rs (List Sr):=DP n (ES p n f) (p.getD f Fn.zero).outs a 0
def go {α:Type}(c:Int)(r:Rs α):Rs α:=if c=0 then r else .err c
theorem BS {α:Type}(r:Rs α):go 0 r=r:=rfl
theorem BO {α:Type}{c:Int}(h:c≠0)(r:Rs α):go c r=.err c:=if_neg h
def HE (n:Nat)(env:List Sr):Prop:=∀k,k<env.length→Cx n (env.getD k [])
def AH {α:Type}(r:Rs α)(x:α)(s:Nat)(c:Int):Prop:=match r with
 |.ok y t=>x=y∧s=t∧c=0
 |.err d=>c=d∧d≠0
theorem AH.ok {α:Type}{r:Rs α}{x:α}{s:Nat}(h:AH r x s 0):r=.ok x s:=by
 cases r with
 |ok y t=>obtain⟨rfl,rfl,_⟩:=h;rfl
 |err d=>exact absurd h.1.symm h.2
theorem AH.err {α:Type}{r:Rs α}{x:α}{s:Nat}{c:Int}(h:AH r x s c)(hc:c≠0):r=.err c:=by
 cases r with
 |ok y t=>exact absurd h.2.2 hc
 |err d=>rw[h.1]
theorem AH.mk_ok {α:Type}{r:Rs α}{x:α}{s:Nat}(h:r=.ok x s):AH r x s 0:=by subst h;exact⟨rfl,rfl,rfl⟩
theorem AH.mk_err {α:Type}{r:Rs α}{x:α}{s:Nat}{c:Int}(h:r=.err c)(hc:c≠0):AH r x s c:=by subst h;exact⟨rfl,hc⟩
theorem AH.bindE {α β:Type}{r:Rs α}{x:α}{s:Nat}{c:Int}(h:AH r x s c)(hc:c≠0){f:α→Nat→Rs β}:r.bind f=.err c:=by rw[h.err hc];rfl
theorem AH.bindO {α β:Type}{r:Rs α}{x:α}{s:Nat}(h:AH r x s 0){f:α→Nat→Rs β}:r.bind f=f x s:=by rw[h.ok];rfl
theorem D7 (n:Nat)(x:Int):(GP n x).length=n:=by simp[GP]
theorem Nc (n:Nat):Bd (List.replicate n 0)=true:=by
 unfold Bd;rw[zm]
 intro y hy;rw[List.eq_of_mem_replicate hy];decide
theorem Gl {n:Nat}{x:Int}(h:Io x=true):Cx n (GP n x):=by
 refine⟨D7 n x,?_⟩;unfold GP Bd;rw[zm]
 intro y hy;rcases List.mem_or_eq_of_mem_set hy with hy|rfl;rw[List.eq_of_mem_replicate hy];decide;exact h
theorem HE.snoc {n:Nat}{env:List Sr}{x:Sr}(h:HE n env)(hx:Cx n x):HE n (env++[x]):=by
 intro k hk;rw[z4,zd]at hk;by_cases e:k<env.length;rw[JA e];exact h k e;have:k=env.length:=by omega
 rw[Kl this];exact hx
section
def Fq (x:Int):Fin 1000003:=Fin.ofNat 1000003 (x % 1000003).toNat
theorem EH (x:Int):Fq (md x)=Fq x:=by unfold Fq md;rw[Int.emod_emod_of_dvd _ (Int.dvd_refl _)]
theorem VZ {x y:Int}(h:Fq x=Fq y):md x=md y:=by unfold Fq at h;have:=congrArg Fin.val h;simp only[Fin.ofNat]at this;unfold md;omega
theorem Fz (x y:Int):Fq (x+y)=Fq x+Fq y:=by unfold Fq;apply Fin.ext;simp only[Fin.ofNat,Fin.val_add];omega
theorem Ec (x y:Int):Fq (x*y)=Fq x*Fq y:=by unfold Fq;apply Fin.ext;simp only[Fin.ofNat,Fin.val_mul];rw[Int.mul_emod];have h1:=Int.emod_nonneg x (show(1000003:Int)≠0 by decide);have h2:=Int.emod_nonneg y (show(1000003:Int)≠0 by decide);have h3:=Int.emod_lt_of_pos x (show(0:Int)<1000003 by decide);have h4:=Int.emod_lt_of_pos y (show(0:Int)<1000003 by decide);generalize x % 1000003=a at *;generalize y % 1000003=b at *;obtain⟨a,rfl⟩:=Int.eq_ofNat_of_zero_le h1;obtain⟨b,rfl⟩:=Int.eq_ofNat_of_zero_le h2;rw[← Int.natCast_mul,Int.toNat_natCast,Int.toNat_natCast,Nat.mod_eq_of_lt (show a<1000003 by omega),Nat.mod_eq_of_lt (show b<1000003 by omega)];generalize a*b=c;omega
theorem O4 (x y:Int):Fq (x-y)=Fq x-Fq y:=by unfold Fq;apply Fin.ext;simp only[Fin.ofNat,Fin.sub_def];omega
theorem O5:Fq 0=0:=rfl
theorem Rc:Fq 1=1:=rfl
theorem Nd {x y:Int}(hx:0≤x∧x<1000003)(hy:0≤y∧y<1000003)(h:Fq x=Fq y):x=y:=by have:=VZ h;rwa [Is hx.1 hx.2,Is hy.1 hy.2]at this
theorem O6 {a:Int}(h:0<a)(h':a<1000003):Fq a*Fq (ER a)=1:=by rw[← Ec,← EH,OW h h'];rfl
theorem Re {a:Int}{y:Fin 1000003}(h:0<a)(h':a<1000003)(e:Fq a*y=0):y=0:=by
 have h1:=O6 h h';have:y=Fq (ER a)*(Fq a*y):=by grind
 rw[this,e];grind
abbrev Fm:=Fin 1000003
def Fi (s:List Int)(x:Fm):Fm:=s.foldr (fun c acc=>acc*x+Fq c) 0
theorem Fb (c:Int)(r:List Int)(x:Fm):Fi (c::r) x=Fi r x*x+Fq c:=rfl
def Et (s:List Int)(t:Int):Int:=s.foldr (fun c acc=>md (acc*md t+c)) 0
theorem Iz (s:List Int)(t:Int):0≤Et s t∧Et s t<1000003:=by
 cases s with
 |nil=>exact⟨Int.le_refl 0,(by decide:(0:Int)<1000003)⟩
 |cons c r=>exact BN _
theorem Mh (s:List Int)(t:Int):Fq (Et s t)=Fi s (Fq t):=by
 induction s with
 |nil=>rfl
 |cons c r ih =>
  show Fq (md (Et r t*md t+c))=Fi r (Fq t)*Fq t+Fq c;rw[EH,Fz,Ec,EH,ih]
theorem Q3 {s:List Int}{t:Int}{k:Nat}(h:k<s.length):Et (s.drop k) t=md (Et (s.drop (k+1)) t*md t+s.getD k 0):=by rw[List.drop_eq_getElem_cons h,List.getD_eq_getElem?_getD,List.getElem?_eq_getElem h];rfl
def Mi (s:List Fm)(x:Fm):Fm:=s.foldr (fun c acc=>acc*x+c) 0
theorem IA (c:Fm)(r:List Fm)(x:Fm):Mi (c::r) x=Mi r x*x+c:=rfl
def qd (a:Fm):List Fm→List Fm
 |[]=>[]
 |[_]=>[]
 |_::c::r=>Mi (c::r) a::qd a (c::r)
theorem Rf (a:Fm):∀s:List Fm,(qd a s).length=s.length-1
 |[]=>rfl
 |[_]=>rfl
 |b::c::r=>by
  show(qd a (c::r)).length+1=_
  rw[Rf a (c::r)];simp
theorem UT (a x:Fm):∀s:List Fm,Mi s x=Mi s a+(x-a)*Mi (qd a s) x
 |[]=>by show(0:Fm)=0+(x-a)*0;grind
 |[c]=>by show(0:Fm)*x+c=0*a+c+(x-a)*0;grind
 |b::c::r=>by
  have ih:=UT a x (c::r)
  rw[IA b,IA b]
  show Mi (c::r) x*x+b=Mi (c::r) a*a+b+(x-a)*(Mi (qd a (c::r)) x*x+Mi (c::r) a)
  generalize Mi (c::r) x=A at *
  generalize Mi (c::r) a=B at *
  generalize Mi (qd a (c::r)) x=C at *
  grind
theorem P1 (a:Fm):∀s:List Fm,(∀c∈qd a s,c=0)→Mi s a=0→∀c∈s,c=0
 |[],_,_,c,h=>by cases h
 |[c],_,h2,d,hd=>by
  have:c=0:=by have h3:(0:Fm)*a+c=0:=h2;grind
  rw[A9 hd,this]
 |b::c::r,h1,h2,d,hd=>by
  have h3:Mi (c::r) a=0:=h1 _ (z0 ..)
  have ih:=P1 a (c::r) (fun e he=>h1 e<|z3 _ he) h3
  rcases ze.1 hd with e|e
  rw[IA,h3]at h2
  rw[e];grind
  exact ih d e
theorem Rg:∀(n:Nat)(s:List Fm),s.length=n→n≤1000003→(∀i,i<n→Mi s (Fq ((i:Nat):Int))=0)→∀c∈s,c=0:=by
 intro n
 induction n with
 |zero=>intro s h _ _ c hc;rw[List.length_eq_zero_iff.1 h]at hc;cases hc
 |succ n ih =>
  intro s h hn hz;have ha:=hz n zO;refine P1 (Fq ((n:Nat):Int)) s (ih _ (by rw[Rf,h];omega) zO fun i hi=>?_) ha;have h1:=UT (Fq ((n:Nat):Int)) (Fq ((i:Nat):Int)) s;rw[hz i zO,ha]at h1;have h2:Fq (((n:Nat):Int)-((i:Nat):Int))*Mi (qd (Fq ((n:Nat):Int)) s) (Fq ((i:Nat):Int))=0:=by
   rw[O4];generalize Fq ((n:Nat):Int)=A at *;generalize Fq ((i:Nat):Int)=B at *;generalize Mi (qd A s) B=C at *;grind
  exact Re zO zO h2
theorem P2:∀(s t:List Int)(x:Fm),s.length=t.length→Mi (List.zipWith (fun a b=>Fq a-Fq b) s t) x=Fi s x-Fi t x
 |[],[],x,_=>by show(0:Fm)=0-0;grind
 |[],_::_,_,h=>by simp at h
 |_::_,[],_,h=>by simp at h
 |a::s,b::t,x,h=>by
  have ih:=P2 s t x (by simpa using h)
  rw[List.zipWith_cons_cons,IA,Fb,Fb,ih]
  generalize Fi s x=A
  generalize Fi t x=B
  grind
theorem Rh:∀(s t:List Int),s.length=t.length→Bd s=true→Bd t=true→(∀c∈List.zipWith (fun a b=>Fq a-Fq b) s t,c=0)→s=t
 |[],[],_,_,_,_=>rfl
 |[],_::_,h,_,_,_=>by simp at h
 |_::_,[],h,_,_,_=>by simp at h
 |a::s,b::t,h,hs,ht,hz=>by
  have h1:Fq a-Fq b=0:=hz _ (by rw[List.zipWith_cons_cons];exact z0 ..)
  have ha:=Br hs 0
  have hb:=Br ht 0
  have e:a=b:=Nd ha hb (by grind)
  rw[e,Rh s t (by simpa using h) (by simp only[Bd,List.all_cons,z7]at hs ⊢;exact hs.2) (by simp only[Bd,List.all_cons,z7]at ht ⊢;exact ht.2) fun c hc=>hz c (by rw[List.zipWith_cons_cons];exact z3 _ hc)]
theorem Nf {s t:List Int}(hl:s.length=t.length)(hn:s.length≤13)(hs:Bd s=true)(ht:Bd t=true)(h:∀i,i<s.length→Fi s (Fq ((i:Nat):Int))=Fi t (Fq ((i:Nat):Int))):s=t:=by refine Rh s t hl hs ht (Rg s.length _ (by rw[List.length_zipWith,← hl];omega) zO fun i hi=>?_);rw[P2 s t _ hl,h i hi];grind
def Fs:Nat→Nat→Nat
 |_,0=>1
 |0,_+1=>0
 |i+1,k+1=>Fs i k+Fs i (k+1)
theorem LK (i:Nat):Fs i 0=1:=by cases i <;> rfl
theorem IB:∀(i k:Nat),i<k→Fs i k=0
 |i,0,h=>by omega
 |0,k+1,_=>rfl
 |i+1,k+1,h=>by show Fs i k+Fs i (k+1)=0;rw[IB i k zO,IB i (k+1) (by omega)]
theorem Mj:∀(i k:Nat),(k+1)*Fs i (k+1)+k*Fs i k=i*Fs i k
 |0,0=>rfl
 |0,k+1=>by rw[IB 0 (k+1) zO,IB 0 (k+2) (by omega)];simp
 |i+1,0=>by
  have:=Mj i 0
  rw[LK]at this ⊢
  show(0+1)*(Fs i 0+Fs i (0+1))+0*1=(i+1)*1
  rw[LK]
  generalize Fs i (0+1)=y at *
  omega
 |i+1,k+1=>by
  have h1:=Mj i (k+1)
  have h0:=Mj i k
  show(k+2)*(Fs i (k+1)+Fs i (k+2))+(k+1)*(Fs i k+Fs i (k+1))=(i+1)*(Fs i k+Fs i (k+1))
  generalize Fs i k=x at *
  generalize Fs i (k+1)=y at *
  generalize Fs i (k+2)=z at *
  have e1:(k+1+1)*z=(k+2)*z:=rfl
  grind
def FA (f:Nat→Fm):Nat→Fm
 |0=>0
 |m+1=>FA f m+f m
theorem Gm {f g:Nat→Fm}:∀m,(∀j,j<m→f j=g j)→FA f m=FA g m
 |0,_=>rfl
 |m+1,h=>by show FA f m+f m=FA g m+g m;rw[Gm m fun j hj=>h j zO,h m (by omega)]
theorem Ng (i:Nat)(g:Nat→Fm):∀m,FA (fun j=>Fq ((Fs i j:Nat):Int)*g j) (m+1)+FA (fun j=>Fq ((Fs i j:Nat):Int)*g (j+1)) m=FA (fun j=>Fq ((Fs (i+1) j:Nat):Int)*g j) (m+1)
 |0=>by
  show(0+Fq ((Fs i 0:Nat):Int)*g 0)+0=0+Fq ((Fs (i+1) 0:Nat):Int)*g 0
  rw[LK,LK];grind
 |m+1=>by
  have ih:=Ng i g m
  show(FA _ (m+1)+Fq ((Fs i (m+1):Nat):Int)*g (m+1))+(FA _ m+Fq ((Fs i m:Nat):Int)*g (m+1))=FA _ (m+1)+Fq ((Fs (i+1) (m+1):Nat):Int)*g (m+1)
  have e:Fq ((Fs (i+1) (m+1):Nat):Int)=Fq ((Fs i m:Nat):Int)+Fq ((Fs i (m+1):Nat):Int):=by rw[← Fz];rfl
  rw[e,← ih]
  generalize FA _ (m+1)=A
  generalize FA _ m=B
  grind
theorem ZI {n:Nat}{G:Nat→Nat→Fm}(hG:∀k i,k+i+1<n→G (k+1) i=G k (i+1)-G k i):∀(i k m:Nat),k+i<n→i<m→G k i=FA (fun j=>Fq ((Fs i j:Nat):Int)*G (k+j) 0) m:=by
 intro i
 induction i with
 |zero =>
  intro k m _ hm;have H:∀m,FA (fun j=>Fq ((Fs 0 j:Nat):Int)*G (k+j) 0) (m+1)=G k 0:=by
   intro m
   induction m with
   |zero=>show 0+Fq ((Fs 0 0:Nat):Int)*G (k+0) 0=G k 0;rw[LK];show 0+(1:Fm)*G k 0=_;grind
   |succ m ih =>
    show FA _ (m+1)+Fq ((Fs 0 (m+1):Nat):Int)*G (k+(m+1)) 0=G k 0;rw[ih,IB 0 (m+1) (by omega)];show _+(0:Fm)*_=_;grind
  obtain⟨m',rfl⟩:∃m',m=m'+1:=⟨m-1,zO⟩;exact (H m').symm
 |succ i ih =>
  intro k m hk hm;obtain⟨m',rfl⟩:∃m',m=m'+1:=⟨m-1,zO⟩;have h1:=ih k (m'+1) zO zO;have h2:=ih (k+1) m' zO zO;have h3:=hG k i zO;rw[← Ng i (fun j=>G (k+j) 0) m',← h1];have e:FA (fun j=>Fq ((Fs i j:Nat):Int)*G (k+1+j) 0) m'=FA (fun j=>Fq ((Fs i j:Nat):Int)*G (k+(j+1)) 0) m':=Gm m' fun j _=>by rw[show k+1+j=k+(j+1)from by omega]
  rw[← e,← h2,h3];grind
def Gn (a:List Int):Nat→List Int
 |0=>a
 |k+1=>E8 (a.length-(k+1)) fun i=>md ((Gn a k).getD (i+1) 0-(Gn a k).getD i 0)
def UU (b:List Int)(k i:Nat):Int:=md ((if 0<i then b.getD (i-1) 0 else 0)-b.getD i 0*((k:Nat):Int))
def IX (b:List Int)(k:Nat):List Int:=E8 b.length (UU b k)
def FY (n:Nat):Nat→List Int
 |0=>(List.replicate n 0).set 0 1
 |k+1=>DG (IX (FY n k) k) (ER (((k+1:Nat)):Int))
def TD (a:List Int):Nat→List Int
 |0=>List.replicate a.length 0
 |k+1=>Df (TD a k) (DG (FY a.length k) ((Gn a k).getD 0 0))
def Q4 (a:List Int):List Int:=TD a a.length
section
variable {a:List Int} {n k i:Nat} {x:Fm}
theorem EK:∀k,k≤a.length→(Gn a k).length=a.length-k
 |0,_=>rfl
 |k+1,_=>by show(E8 _ _).length=_;rw[Bl]
theorem TE (h:Bd a=true):∀k,Bd (Gn a k)=true
 |0=>h
 |k+1=>EJ fun _ _=>BN _
theorem Ft:∀k,(FY n k).length=n
 |0=>by show((List.replicate n 0).set 0 1).length=n;simp
 |k+1=>by show(DG _ _).length=n;rw[GY];show(E8 _ _).length=n;rw[Bl,Ft k]
theorem TF:∀k,Bd (FY n k)=true
 |0=>by
  show Bd ((List.replicate n 0).set 0 1)=true
  cases n with
  |zero=>rfl
  |succ n =>
   show Bd (1::List.replicate n 0)=true
   have:=Nc n
   unfold Bd at this ⊢
   rw[List.all_cons,this];rfl
 |k+1=>Ix _ _
theorem JX:∀k,(TD a k).length=a.length
 |0=>by show(List.replicate a.length 0).length=_;simp
 |k+1=>by show(Df _ _).length=_;rw[Iw,JX k]
theorem P3:∀k,Bd (TD a k)=true
 |0=>Nc _
 |k+1=>N6 _ _
def JB (x:Fm):Nat→Fm
 |0=>1
 |m+1=>x*JB x m
def CD (f:Nat→Fm)(x:Fm)(m:Nat):Fm:=FA (fun j=>f j*JB x j) m
theorem Cf (f:Nat→Fm)(x:Fm):∀m,CD f x (m+1)=f 0+x*CD (fun j=>f (j+1)) x m
 |0=>by show(0+f 0*1:Fm)=f 0+x*0;grind
 |m+1=>by
  have ih:=Cf f x m
  show CD f x (m+1)+f (m+1)*JB x (m+1)=f 0+x*(CD (fun j=>f (j+1)) x m+f (m+1)*JB x m)
  rw[ih]
  show _+f (m+1)*(x*JB x m)=_
  generalize CD (fun j=>f (j+1)) x m=A
  grind
theorem Dh:∀(s:List Int)(x:Fm),Fi s x=CD (fun j=>Fq (s.getD j 0)) x s.length
 |[],x=>rfl
 |c::r,x=>by
  rw[Fb,Dh r x]
  show _=CD (fun j=>Fq ((c::r).getD j 0)) x (r.length+1)
  rw[Cf]
  show _=Fq c+x*CD (fun j=>Fq (r.getD j 0)) x r.length
  grind
theorem Dm {f g:Nat→Fm}(m:Nat)(h:∀j,j<m→f j=g j):CD f x m=CD g x m:=Gm m fun j hj=>by rw[h j hj]
theorem EL (f g:Nat→Fm):∀m,CD (fun j=>f j+g j) x m=CD f x m+CD g x m
 |0=>by show(0:Fm)=0+0;grind
 |m+1=>by
  have ih:=EL f g m
  show CD _ x m+(f m+g m)*JB x m=(CD f x m+f m*JB x m)+(CD g x m+g m*JB x m)
  rw[ih];grind
theorem Gp (f:Nat→Fm)(c:Fm):∀m,CD (fun j=>f j*c) x m=CD f x m*c
 |0=>by show(0:Fm)=0*c;grind
 |m+1=>by
  have ih:=Gp f c m
  show CD _ x m+f m*c*JB x m=(CD f x m+f m*JB x m)*c
  rw[ih];grind
theorem O7 {s t:List Int}(h:s.length=t.length):Fi (Df s t) x=Fi s x+Fi t x:=by rw[Dh,Dh s,Dh t,Iw,← h,← EL];refine Dm _ fun j hj=>?_;rw[show(Df s t).getD j 0=md (s.getD j 0+t.getD j 0)from Bo 0 hj,EH,Fz]
theorem O8 {s:List Int}{c:Int}:Fi (DG s c) x=Fi s x*Fq c:=by rw[Dh,Dh s,GY,← Gp];refine Dm _ fun j hj=>?_;rw[show(DG s c).getD j 0=md (s.getD j 0*c)from Bo 0 hj,EH,Ec]
theorem Y1 {b:List Int}(hn:1≤b.length)(ht:b.getD (b.length-1) 0=0):Fi (IX b k) x=(x-Fq ((k:Nat):Int))*Fi b x:=by
 have hl:(IX b k).length=b.length:=by unfold IX;rw[Bl]
 rw[Dh,Dh b,hl];have e1:CD (fun j=>Fq ((IX b k).getD j 0)) x b.length=CD (fun j=>(if 0<j then Fq (b.getD (j-1) 0)else 0)+Fq (b.getD j 0)*(0-Fq ((k:Nat):Int))) x b.length:=by
  refine Dm _ fun j hj=>?_;rw[show(IX b k).getD j 0=UU b k j from Bo 0 hj];unfold UU;rw[EH,O4,Ec];split;grind;rw[O5];grind
 rw[e1,EL,Gp];obtain⟨m,hm⟩:∃m,b.length=m+1:=⟨b.length-1,zO⟩;have e2:CD (fun j=>if 0<j then Fq (b.getD (j-1) 0)else 0) x b.length=x*CD (fun j=>Fq (b.getD j 0)) x m:=by
  rw[hm,Cf];have:(if 0<0 then Fq (b.getD (0-1) 0)else 0:Fm)=0:=rfl;rw[this];have e3:CD (fun j=>if 0<j+1 then Fq (b.getD (j+1-1) 0)else 0) x m=CD (fun j=>Fq (b.getD j 0)) x m:=Dm m fun j hj=>by rw[if_pos (by omega)];rfl
  rw[e3];grind
 have e4:CD (fun j=>Fq (b.getD j 0)) x b.length=CD (fun j=>Fq (b.getD j 0)) x m:=by
  rw[hm];show CD _ x m+Fq (b.getD m 0)*JB x m=_;rw[show m=b.length-1 from by omega,ht,O5];grind
 rw[e2,e4];generalize CD (fun j=>Fq (b.getD j 0)) x m=A;grind
theorem TG (hk:k<i):(FY n k).getD i 0=0:=by
 induction k generalizing i with
 |zero =>
  show((List.replicate n 0).set 0 1).getD i 0=0;cases n with
  |zero=>rfl
  |succ n =>
   show((1::List.replicate n 0:List Int)).getD i 0=0;obtain⟨j,rfl⟩:∃j,i=j+1:=⟨i-1,zO⟩;show(List.replicate n (0:Int)).getD j 0=0;rw[List.getD_eq_getElem?_getD,List.getElem?_replicate];split <;> rfl
 |succ k ih =>
  show(DG (IX (FY n k) k) _).getD i 0=0;by_cases hi:i<n;have hl:(IX (FY n k) k).length=n:=by unfold IX;rw[Bl,Ft]
  rw[show(DG (IX (FY n k) k) (ER (((k+1:Nat)):Int))).getD i 0=md ((IX (FY n k) k).getD i 0*ER (((k+1:Nat)):Int))from Bo 0 (by rw[hl];exact hi)];rw[show(IX (FY n k) k).getD i 0=UU (FY n k) k i from Bo 0 (by rw[Ft];exact hi)];unfold UU;rw[ih zO,if_pos zO,ih (by omega)];simp[md];rw[List.getD_eq_getElem?_getD,List.getElem?_eq_none (by rw[GY];unfold IX;rw[Bl,Ft];omega)];rfl
theorem Ri (hn:n≤13):∀k,k<n→Fi (FY n k) (Fq ((i:Nat):Int))=Fq ((Fs i k:Nat):Int)
 |0,h=>by
  rw[LK]
  show Fi ((List.replicate n 0).set 0 1) _=1
  obtain⟨m,rfl⟩:∃m,n=m+1:=⟨n-1,zO⟩
  show Fi (1::List.replicate m 0) _=1
  have hz:∀m,Fi (List.replicate m 0) (Fq ((i:Nat):Int))=0:=by
   intro m
   induction m with
   |zero=>rfl
   |succ m ih=>rw[List.replicate_succ,Fb,ih,O5];grind
  rw[Fb,hz,Rc];grind
 |k+1,h=>by
  have ih:=Ri hn k zO;show Fi (DG (IX (FY n k) k) (ER (((k+1:Nat)):Int))) _=_;rw[O8,Y1 (by rw[Ft];omega) (TG (by rw[Ft];omega)),ih];have h1:=congrArg (fun z:Nat=>Fq ((z:Nat):Int))<|Mj i k;simp only[Int.natCast_add,Int.natCast_mul,Fz,Ec]at h1;have h2:=O6 (a:=((k+1:Nat):Int)) zO zO;have e0:Fq (((k+1:Nat)):Int)=Fq ((k:Nat):Int)+Fq 1:=by rw[← Fz];rfl
  rw[e0]at h2;have e1:Fq (((1:Nat)):Int)=Fq 1:=rfl;rw[e1]at h1;generalize Fq ((Fs i k:Nat):Int)=A at *;generalize Fq ((Fs i (k+1):Nat):Int)=B at *;generalize Fq ((k:Nat):Int)=K at *;generalize Fq ((i:Nat):Int)=X at *;generalize Fq (ER (((k+1:Nat)):Int))=V at *;generalize Fq 1=O at *;grind
theorem Rj (hn:a.length≤13):∀k,k≤a.length→Fi (TD a k) (Fq ((i:Nat):Int))=FA (fun j=>Fq ((Fs i j:Nat):Int)*Fq ((Gn a j).getD 0 0)) k
 |0,_=>by
  show Fi (List.replicate a.length 0) _=0
  generalize a.length=m
  induction m with
  |zero=>rfl
  |succ m ih=>rw[List.replicate_succ,Fb,ih,O5];grind
 |k+1,h=>by
  have ih:=Rj hn k zO
  show Fi (Df (TD a k) (DG (FY a.length k) ((Gn a k).getD 0 0))) _=FA _ k+_
  rw[O7 (by rw[JX,GY,Ft]),ih,O8,Ri hn k (by omega)]
theorem X0 (hn:a.length≤13)(hi:i<a.length):Fi (Q4 a) (Fq ((i:Nat):Int))=Fq (a.getD i 0):=by
 unfold Q4;rw[Rj hn _ (A7 _)];have:=ZI (n:=a.length) (G:=fun k i=>Fq ((Gn a k).getD i 0)) (fun k j hkj=>by
  show Fq ((Gn a (k+1)).getD j 0)=_;rw[show(Gn a (k+1)).getD j 0=md ((Gn a k).getD (j+1) 0-(Gn a k).getD j 0)from Bo 0 zO,EH,O4]) i 0 a.length zO hi
 rw[Gm a.length fun j _=>by rw[show Fq ((Gn a j).getD 0 0)=Fq ((Gn a (0+j)).getD 0 0)from by rw[Nat.zero_add]]];exact this.symm
theorem IC:(Q4 a).length=a.length:=JX _
theorem P4:Bd (Q4 a)=true:=P3 _
theorem Rk {b vs:List Int}(hb:b.length≤13)(hN:Bd b=true)(hl:vs.length=b.length)(hv:∀i,i<b.length→vs.getD i 0=Et b ((i:Nat):Int)):Q4 vs=b :=
 Nf (by rw[IC,hl]) (by rw[IC,hl];exact hb) P4 hN fun i hi=>by
  rw[IC]at hi
  rw[X0 zO hi,hv i zO,Mh]
end
end
structure Tm where
 ex:List Int
 co:Int
def Cn:List Int→List Int→Int
 |a::asq,b::bs=>if a<b then -1 else if b<a then 1 else Cn asq bs
 |_,_=>0
theorem Mk:∀ {a b:List Int},a.length=b.length→Cn a b=0→a=b
 |[],[],_,_=>rfl
 |[],_::_,h,_=>by simp at h
 |_::_,[],h,_=>by simp at h
 |a::asq,b::bs,h,h0=>by
  unfold Cn at h0
  split at h0
  omega
  split at h0
  omega
  rw[show a=b from by omega,Mk (by simpa using h) h0]
def C2:List Tm→List Int→Int→List Tm
 |[],e,c=>if c=0 then []else [⟨e,c⟩]
 |t::ts,e,c =>
  if Cn t.ex e<0 then t::C2 ts e c
  else if Cn t.ex e=0 then(if md (c+t.co)=0 then ts else⟨e,md (c+t.co)⟩::ts)
  else(if c=0 then t::ts else⟨e,c⟩::t::ts)
def Rl (x:Fm)(n:Int):Fm:=JB x n.toNat
def DX:List Int→List Fm→Fm
 |e::es,x::xs=>Rl x e*DX es xs
 |_,_=>1
def Dy (ts:List Tm)(xs:List Fm):Fm:=ts.foldr (fun t acc=>Fq t.co*DX t.ex xs+acc) 0
theorem BU (t:Tm)(ts:List Tm)(xs:List Fm):Dy (t::ts) xs=Fq t.co*DX t.ex xs+Dy ts xs:=rfl
theorem Ml {xs:List Fm}{e:List Int}{c:Int}:∀ts:List Tm,(∀t∈ts,t.ex.length=e.length)→Dy (C2 ts e c) xs=Dy ts xs+Fq c*DX e xs
 |[],_=>by
  unfold C2
  split
  rename_i h;rw[h,O5];show(0:Fm)=0+0*_;grind
  rw[BU];show Fq c*DX e xs+0=0+_;grind
 |t::ts,h=>by
  have ih:=Ml (xs:=xs) (e:=e) (c:=c) ts fun q hq=>h q<|z3 _ hq
  unfold C2
  split
  rw[BU,BU,ih];grind
  split
  rename_i h0
  have he:=Mk (h t (z0 ..)) h0
  split
  rename_i h1
  have h2:Fq c+Fq t.co=0:=by rw[← Fz,← EH,h1];rfl
  rw[BU,he]
  generalize DX e xs=M
  generalize Dy ts xs=A
  grind
  rw[BU,BU,he]
  show Fq (md (c+t.co))*DX e xs+_=_
  rw[EH,Fz];grind
  split
  rename_i h1;rw[h1,O5];grind
  rw[BU]
  show Fq c*DX e xs+Dy (t::ts) xs=_
  grind
def CE (ts:List Tm)(c:Int):List Tm:=if c=0 then []else ts.map fun t=>⟨t.ex,md (t.co*c)⟩
def ID (a b:List Tm)(c:Int):List Tm:=b.foldl (fun out t=>C2 out t.ex (md (t.co*c))) (CE a 1)
def IY (e f:List Int):List Int:=List.zipWith (· + ·) e f
def GZ (x:Tm)(b:List Tm)(out:List Tm):List Tm:=b.foldl (fun out y=>C2 out (IY x.ex y.ex) (md (x.co*y.co))) out
def JC (a b:List Tm):List Tm:=a.foldl (fun out x=>GZ x b out) []
def Do (n:Nat)(ts:List Tm):Prop:=∀t∈ts,t.ex.length=n∧∀e∈t.ex,0≤e
theorem Do.put {n:Nat}{e:List Int}{c:Int}(he:e.length=n∧∀x∈e,0≤x):∀ {ts:List Tm},Do n ts→Do n (C2 ts e c)
 |[],_=>by
  unfold C2
  split
  intro t ht;cases ht
  intro t ht;rw[List.mem_singleton]at ht;rw[ht];exact he
 |t::ts,h=>by
  have ht:=h t (z0 ..)
  have hts:Do n ts:=fun q hq=>h q (z3 _ hq)
  have ih:=Do.put (c:=c) he hts
  unfold C2
  split
  intro q hq
  rcases ze.1 hq with e1|e1
  rw[e1];exact ht
  exact ih q e1
  split
  split
  exact hts
  intro q hq
  rcases ze.1 hq with e1|e1
  rw[e1];exact he
  exact hts q e1
  split
  exact h
  intro q hq
  rcases ze.1 hq with e1|e1
  rw[e1];exact he
  exact h q e1
theorem Mm {xs:List Fm}{c:Int}(ts:List Tm):Dy (CE ts c) xs=Dy ts xs*Fq c:=by
 unfold CE;split;rename_i h;rw[h,O5];show(0:Fm)=_*0;grind
 induction ts with
 |nil=>show(0:Fm)=0*_;grind
 |cons t ts ih =>
  rw[zf,BU,BU,ih];show Fq (md (t.co*c))*_+_=_;rw[EH,Ec];grind
theorem Do.scl {n:Nat}{c:Int}{ts:List Tm}(h:Do n ts):Do n (CE ts c):=by
 unfold CE;split
 intro t ht;cases ht
 intro t ht;obtain⟨q,hq,rfl⟩:=List.mem_map.1 ht;exact h q hq
theorem P5 {xs:List Fm}{c:Int}{n:Nat}{a b:List Tm}(ha:Do n a)(hb:Do n b):Dy (ID a b c) xs=Dy a xs+Dy b xs*Fq c∧Do n (ID a b c):=by
 have H:∀(b out:List Tm),Do n b→Do n out→Dy (b.foldl (fun out t=>C2 out t.ex (md (t.co*c))) out) xs=Dy out xs+Dy b xs*Fq c∧Do n (b.foldl (fun out t=>C2 out t.ex (md (t.co*c))) out):=by
  intro b
  induction b with
  |nil=>intro out _ ho;exact⟨by show Dy out xs=Dy out xs+0*_;grind,ho⟩
  |cons t b ih =>
   intro out hb ho;have ht:=hb t (z0 ..);have h1:=ih (C2 out t.ex<|md (t.co*c)) (fun q hq=>hb q<|z3 _ hq)<|ho.put ht;refine⟨?_,h1.2⟩;rw[List.foldl_cons,h1.1,Ml out fun q hq=>by rw[(ho q hq).1,ht.1],BU,EH,Ec];generalize DX t.ex xs=M;grind
 have h:=H b (CE a 1) hb ha.scl;refine⟨?_,h.2⟩;unfold ID;rw[h.1,Mm,Rc];grind
theorem P6 (x:Fm):∀m n:Nat,JB x (m+n)=JB x m*JB x n
 |0,n=>by rw[Nat.zero_add];show _=1*JB x n;grind
 |m+1,n=>by
  rw[show m+1+n=(m+n)+1 from by omega]
  show x*JB x (m+n)=x*JB x m*JB x n
  rw[P6 x m n];grind
theorem P7:∀(e f:List Int)(xs:List Fm),e.length=f.length→(∀a∈e,0≤a)→(∀a∈f,0≤a)→DX (IY e f) xs=DX e xs*DX f xs
 |[],[],xs,_,_,_=>by show(1:Fm)=1*1;grind
 |[],_::_,_,h,_,_=>by simp at h
 |_::_,[],_,h,_,_=>by simp at h
 |a::e,b::f,[],_,_,_=>by show(1:Fm)=1*1;grind
 |a::e,b::f,x::xs,h,ha,hb=>by
  have ih:=P7 e f xs (by simpa using h) (fun c hc=>ha c<|z3 _ hc) fun c hc=>hb c<|z3 _ hc
  have h1:=ha a (z0 ..)
  have h2:=hb b (z0 ..)
  show Rl x (a+b)*DX (IY e f) xs=Rl x a*DX e xs*(Rl x b*DX f xs)
  rw[ih]
  have:Rl x (a+b)=Rl x a*Rl x b:=by
   unfold Rl;rw[show(a+b).toNat=a.toNat+b.toNat from by omega,P6]
  rw[this];generalize DX e xs=A;generalize DX f xs=B;grind
theorem Mn {n:Nat}{e f:List Int}(he:e.length=n∧∀a∈e,0≤a)(hf:f.length=n∧∀a∈f,0≤a):(IY e f).length=n∧∀a∈IY e f,0≤a:=by refine⟨by unfold IY;rw[List.length_zipWith,he.1,hf.1];omega,fun a ha=>?_⟩;unfold IY at ha;obtain⟨i,hi,rfl⟩:=List.mem_iff_getElem.1 ha;rw[List.length_zipWith]at hi;rw[List.getElem_zipWith];have h1:=he.2 _<|List.getElem_mem (show i<e.length by omega);have h2:=hf.2 _<|List.getElem_mem (show i<f.length by omega);omega
theorem TH {xs:List Fm}{n:Nat}{x:Tm}(hx:x.ex.length=n∧∀a∈x.ex,0≤a):∀(b out:List Tm),Do n b→Do n out→Dy (GZ x b out) xs=Dy out xs+Fq x.co*DX x.ex xs*Dy b xs∧Do n (GZ x b out):=by
 intro b
 induction b with
 |nil=>intro out _ ho;exact⟨by show Dy out xs=Dy out xs+_*0;grind,ho⟩
 |cons y b ih =>
  intro out hb ho;have hy:=hb y (z0 ..);have he:=Mn hx hy;have h1:=ih (C2 out (IY x.ex y.ex)<|md (x.co*y.co)) (fun q hq=>hb q<|z3 _ hq)<|ho.put he;refine⟨?_,h1.2⟩;show Dy (GZ x b (C2 out (IY x.ex y.ex) (md (x.co*y.co)))) xs=_;rw[h1.1,Ml out fun q hq=>by rw[(ho q hq).1,he.1],BU,EH,Ec,P7 _ _ _ (by rw[hx.1,hy.1]) hx.2 hy.2];generalize DX x.ex xs=A;generalize DX y.ex xs=B;grind
theorem TJ {xs:List Fm}{n:Nat}{b:List Tm}(hb:Do n b):∀(a out:List Tm),Do n a→Do n out→Dy (a.foldl (fun out x=>GZ x b out) out) xs=Dy out xs+Dy a xs*Dy b xs∧Do n (a.foldl (fun out x=>GZ x b out) out):=by
 intro a
 induction a with
 |nil=>intro out _ ho;exact⟨by show Dy out xs=Dy out xs+0*_;grind,ho⟩
 |cons x a ih =>
  intro out ha ho;have h0:=TH (xs:=xs) (ha x (z0 ..)) b out hb ho;have h1:=ih (GZ x b out) (fun q hq=>ha q<|z3 _ hq) h0.2;refine⟨?_,h1.2⟩;rw[List.foldl_cons,h1.1,h0.1,BU];grind
def BR (e:List Int):Int:=e.foldr (· + ·) 0
def J6 (d:Int)(ts:List Tm):Prop:=∀t∈ts,BR t.ex≤d
theorem Mo {e:List Int}{c:Int}{q:Tm}:∀ {ts:List Tm},q∈C2 ts e c→q.ex=e∨q∈ts
 |[],h=>by
  unfold C2 at h
  split at h
  cases h
  rw[List.mem_singleton]at h;exact .inl (by rw[h])
 |t::ts,h=>by
  unfold C2 at h
  split at h
  rcases ze.1 h with h|h
  exact .inr (by rw[h];exact z0 ..)
  exact (Mo h).elim .inl fun h=>.inr<|z3 _ h
  split at h
  split at h
  exact .inr<|z3 _ h
  rcases ze.1 h with h|h
  exact .inl (by rw[h])
  exact .inr<|z3 _ h
  split at h
  exact .inr h
  rcases ze.1 h with h|h
  exact .inl (by rw[h])
  exact .inr h
theorem J6.put {d:Int}{e:List Int}{c:Int}{ts:List Tm}(h:J6 d ts)(he:BR e≤d):J6 d (C2 ts e c):=fun q hq=>(Mo hq).elim (fun h1=>by rw[h1];exact he) (h q)
theorem Nh:∀(e f:List Int),e.length=f.length→BR (IY e f)=BR e+BR f
 |[],[],_=>rfl
 |[],_::_,h=>by simp at h
 |_::_,[],h=>by simp at h
 |a::e,b::f,h=>by
  have ih:=Nh e f (by simpa using h)
  show a+b+BR (IY e f)=a+BR e+(b+BR f)
  omega
theorem P8:∀a:List Int,Cn a a=0
 |[]=>rfl
 |a::asq=>by
  simp only[Cn]
  rw[if_neg zO,if_neg (by omega)];exact P8 asq
theorem Ni:∀a b:List Int,-1≤Cn a b∧Cn a b≤1
 |[],[]=>by simp only[Cn];omega
 |[],_::_=>by simp only[Cn];omega
 |_::_,[]=>by simp only[Cn];omega
 |a::asq,b::bs=>by
  have:=Ni asq bs
  simp only[Cn]
  split
  omega
  split <;> omega
theorem P9:∀ {a b:List Int},a.length=b.length→Cn b a = - Cn a b
 |[],[],_=>rfl
 |[],_::_,h=>by simp at h
 |_::_,[],h=>by simp at h
 |a::asq,b::bs,h=>by
  simp only[Cn]
  by_cases h1:a<b
  rw[if_neg (show ¬b<a by omega),if_pos h1,if_pos h1];rfl
  by_cases h2:b<a
  rw[if_pos h2,if_neg h1,if_pos h2]
  rw[if_neg h2,if_neg h1,if_neg h1,if_neg h2];exact P9 (by simpa using h)
theorem Pa:∀ {a b c:List Int},a.length=b.length→b.length=c.length→Cn a b<0→Cn b c<0→Cn a c<0
 |[],[],_,_,_,h1,_=>by simp[Cn]at h1
 |[],_::_,_,h,_,_,_=>by simp at h
 |_::_,[],_,h,_,_,_=>by simp at h
 |_::_,_::_,[],_,k,_,_=>by simp at k
 |a::asq,b::bs,c::cs,h,k,h1,h2=>by
  simp only[Cn]at h1 h2 ⊢
  split at h1
  split at h2
  rw[if_pos (by omega)];decide
  split at h2
  omega
  rw[if_pos (by omega)];decide
  split at h1
  omega
  split at h2
  rw[if_pos (by omega)];decide
  split at h2
  omega
  rw[if_neg zO,if_neg (by omega)];exact Pa (by simpa using h) (by simpa using k) h1 h2
def Q5:List Tm→Prop
 |[]=>True
 |t::ts=>(∀q∈ts,Cn t.ex q.ex<0)∧Q5 ts
theorem Q5.put {n:Nat}{e:List Int}{c:Int}(he:e.length=n):∀ {ts:List Tm},(∀t∈ts,t.ex.length=n)→Q5 ts→Q5 (C2 ts e c)
 |[],_,_=>by
  unfold C2
  split
  trivial
  exact⟨fun q hq=>(by cases hq),trivial⟩
 |t::ts,hl,h=>by
  have ht:=hl t (z0 ..)
  have hts:∀q∈ts,q.ex.length=n:=fun q hq=>hl q (z3 _ hq)
  have ih:=Q5.put (c:=c) he hts h.2
  unfold C2
  split
  rename_i h0
  refine⟨fun q hq=>?_,ih⟩
  rcases Mo hq with h1|h1
  rw[h1];exact h0
  exact h.1 q h1
  split
  rename_i h0 h1
  have e1:=Mk (by rw[ht,he]) h1
  split
  exact h.2
  exact⟨fun q hq=>by rw[← e1];exact h.1 q hq,h.2⟩
  rename_i h0 h1
  split
  exact h
  have h2:Cn e t.ex<0:=by
   rw[P9 (by rw[ht,he])];have:=Ni t.ex e;omega
  refine⟨fun q hq=>?_,h⟩;rcases ze.1 hq with h3|h3;rw[h3];exact h2;exact Pa (by rw[he,ht]) (by rw[ht,hts q h3]) h2<|h.1 q h3
def X1 (ts:List Tm):Prop:=∀t∈ts,1≤t.co∧t.co<1000003
theorem X1.put {e:List Int}{c:Int}(hc:0≤c∧c<1000003):∀ {ts:List Tm},X1 ts→X1 (C2 ts e c)
 |[],_=>by
  unfold C2
  split
  intro t ht;cases ht
  intro t ht;rw[List.mem_singleton]at ht;rw[ht];exact⟨by show 1≤c;omega,by show c<_;omega⟩
 |t::ts,h=>by
  have ht:=h t (z0 ..)
  have hts:X1 ts:=fun q hq=>h q (z3 _ hq)
  have ih:=X1.put (e:=e) hc hts
  unfold C2
  split
  intro q hq
  rcases ze.1 hq with e1|e1
  rw[e1];exact ht
  exact ih q e1
  split
  split
  exact hts
  rename_i h1
  intro q hq
  rcases ze.1 hq with e1|e1
  rw[e1]
  have:0≤md (c+t.co)∧md (c+t.co)<1000003:=by unfold md;omega
  exact⟨by show 1≤md _;omega,this.2⟩
  exact hts q e1
  split
  exact h
  intro q hq
  rcases ze.1 hq with e1|e1
  rw[e1];exact⟨by show 1≤c;omega,by show c<_;omega⟩
  exact h q e1
theorem Mp {e:List Int}{c:Int}:∀ {ts:List Tm},(C2 ts e c).length≤ts.length+1
 |[]=>by unfold C2;split <;> simp
 |t::ts=>by
  have:=Mp (e:=e) (c:=c) (ts:=ts)
  unfold C2
  split
  simp only[z9];omega
  split
  split <;> simp only[z9] <;> omega
  split <;> simp only[z9] <;> omega
theorem Q6 {a b:Int}(ha:1≤a∧a<1000003)(hb:1≤b∧b<1000003):1≤md (a*b)∧md (a*b)<1000003:=by
 have h1:0≤md (a*b)∧md (a*b)<1000003:=by unfold md;omega
 have h2:md (a*b)≠0:=fun h0=>by
  have h3:Fq a*Fq b=0:=by rw[← Ec,← EH,h0];rfl
  have h4:=Re zO ha.2 h3;have h5:b=0:=Nd zO (by decide) (by rw[h4];rfl);omega
 omega
structure GK (m:Nat)(d:Int)(q:List Tm):Prop where
 len:Do m q
 deg:J6 d q
 srt:Q5 q
 co:X1 q
theorem GK.nil (m:Nat)(d:Int):GK m d []:=⟨fun t h=>(by cases h),fun t h=>(by cases h),trivial,fun t h=>(by cases h)⟩
theorem GK.put {m:Nat}{d:Int}{q:List Tm}(h:GK m d q){e:List Int}{c:Int}(he:e.length=m∧∀x∈e,0≤x)(hs:BR e≤d)(hc:0≤c∧c<1000003):GK m d (C2 q e c) :=
 ⟨h.len.put he,h.deg.put hs,h.srt.put he.1 fun t ht=>(h.len t ht).1,h.co.put hc⟩
theorem GK.scl {m:Nat}{d:Int}{q:List Tm}(h:GK m d q){c:Int}(hc:0≤c∧c<1000003):GK m d (CE q c):=by
 refine⟨h.len.scl,?_,?_,?_⟩;unfold CE;split
 intro t ht;cases ht
 intro t ht;obtain⟨u,hu,rfl⟩:=List.mem_map.1 ht;exact h.deg u hu;unfold CE;split;trivial;have:=h.srt;clear h
 induction q with
 |nil=>trivial
 |cons t ts ih =>
  refine⟨fun u hu=>?_,ih this.2⟩;obtain⟨v,hv,rfl⟩:=List.mem_map.1 hu;exact this.1 v hv
 unfold CE;split
 intro t ht;cases ht;rename_i h0
 intro t ht;obtain⟨u,hu,rfl⟩:=List.mem_map.1 ht;exact Q6 (h.co u hu) zO
theorem Kn (q:List Tm)(c:Int):(CE q c).length≤q.length:=by unfold CE;split <;> simp
theorem Nj {m:Nat}{d:Int}{c:Int}:∀(b out:List Tm),GK m d b→GK m d out→GK m d (b.foldl (fun out t=>C2 out t.ex (md (t.co*c))) out)
 |[],out,_,ho=>ho
 |t::b,out,hb,ho=>Nj b _ ⟨fun q hq=>hb.len q (z3 _ hq),fun q hq=>hb.deg q (z3 _ hq),hb.srt.2,fun q hq=>hb.co q (z3 _ hq)⟩
   (ho.put (hb.len t (z0 ..)) (hb.deg t (z0 ..)) (by unfold md;omega))
theorem GK.add {m:Nat}{d:Int}{a b:List Tm}(ha:GK m d a)(hb:GK m d b)(c:Int):GK m d (ID a b c):=Nj b _ hb (ha.scl (by decide))
theorem Pb {m:Nat}{d d1:Int}{x:Tm}(hx:x.ex.length=m∧∀a∈x.ex,0≤a)(hd:BR x.ex+d1≤d):∀(b out:List Tm),GK m d1 b→GK m d out→GK m d (GZ x b out)
 |[],out,_,ho=>ho
 |y::b,out,hb,ho=>by
  have hy:=hb.len y (z0 ..)
  have h1:=hb.deg y (z0 ..)
  exact Pb hx hd b _ ⟨fun q hq=>hb.len q (z3 _ hq),fun q hq=>hb.deg q (z3 _ hq),hb.srt.2,fun q hq=>hb.co q (z3 _ hq)⟩
   (ho.put (Mn hx hy) (by rw[Nh _ _ (by rw[hx.1,hy.1])];omega) (by unfold md;omega))
theorem Mq {m:Nat}{d d0 d1:Int}{b:List Tm}(hb:GK m d1 b)(hd:d0+d1≤d):∀(a out:List Tm),GK m d0 a→GK m d out→GK m d (a.foldl (fun out x=>GZ x b out) out)
 |[],out,_,ho=>ho
 |x::a,out,ha,ho=>by
  have h1:=ha.deg x (z0 ..)
  exact Mq hb hd a _ ⟨fun q hq=>ha.len q (z3 _ hq),fun q hq=>ha.deg q (z3 _ hq),ha.srt.2,fun q hq=>ha.co q (z3 _ hq)⟩
   (Pb (ha.len x (z0 ..)) zO b out hb ho)
def Cm (q:List Tm):Int:=q.foldl (fun m t=>max m (BR t.ex)) (-1)
theorem Rm (q:List Tm)(t:Tm):Cm (q++[t])=max (Cm q) (BR t.ex):=by unfold Cm;rw[List.foldl_append];rfl
theorem IE:∀(q:List Tm)(m:Int),m≤q.foldl (fun m t=>max m (BR t.ex)) m∧(∀t∈q,BR t.ex≤q.foldl (fun m t=>max m (BR t.ex)) m)∧∀d,m≤d→(∀t∈q,BR t.ex≤d)→q.foldl (fun m t=>max m (BR t.ex)) m≤d
 |[],m=>⟨Int.le_refl _,(fun t h=>(by cases h)),fun d h _=>h⟩
 |t::q,m=>by
  obtain⟨h1,h2,h3⟩:=IE q (max m (BR t.ex))
  refine⟨Int.le_trans (Int.le_max_left ..) h1,fun u hu=>?_,fun d hd hu=>h3 d (Int.max_le.2 ⟨hd,hu t (z0 ..)⟩) fun u h=>hu u (z3 _ h)⟩
  rcases ze.1 hu with e|e
  rw[e];exact Int.le_trans (Int.le_max_right ..) h1
  exact h2 u e
theorem ET (q:List Tm):J6 (Cm q) q:=(IE q (-1)).2.1
theorem JY {d:Int}{q:List Tm}(hd:-1≤d)(h:J6 d q):Cm q≤d:=(IE q (-1)).2.2 d hd h
theorem IF (q:List Tm):-1≤Cm q:=(IE q (-1)).1
theorem Gq:∀ {e:List Int},(∀x∈e,0≤x)→0≤BR e
 |[],_=>by show(0:Int)≤0;omega
 |a::e,h=>by
  have h1:=Gq (e:=e) fun x hx=>h x<|z3 _ hx
  have h2:=h a (z0 ..)
  show 0≤a+BR e;omega
theorem Ko:∀ {e:List Int},(∀x∈e,0≤x)→∀x∈e,x≤BR e
 |a::e,h,x,hx=>by
  have h0:∀x∈e,0≤x:=fun x hx=>h x (z3 _ hx)
  have h1:=Gq h0
  have h2:=h a (z0 ..)
  rcases ze.1 hx with e1|e1
  rw[e1];show a≤a+BR e;omega
  have:=Ko h0 x e1
  show x≤a+BR e;omega
theorem Rn {e:List Int}{m:Nat}(hl:e.length=m)(h:∀x∈e,0≤x)(h0:BR e≤0):e=List.replicate m 0:=by rw[List.eq_replicate_iff];exact⟨hl,fun x hx=>by have:=Ko h x hx;have:=h x hx;omega⟩
def MX (q:List Tm):Int:=match q with
 |[]=>0
 |t::_=>t.co
theorem JZ:∀(m:Nat)(xs:List Fm),DX (List.replicate m 0) xs=1
 |0,_=>rfl
 |m+1,[]=>rfl
 |m+1,x::xs=>by
  rw[List.replicate_succ]
  show Rl x 0*DX _ xs=1
  rw[JZ m xs]
  show(1:Fm)*1=1
  decide
theorem LL {m:Nat}{d:Int}{q:List Tm}(h:GK m d q)(h0:Cm q≤0)(xs:List Fm):Dy q xs=Fq (MX q)∧(0≤MX q∧MX q<1000003):=by
 have hd:J6 0 q:=fun t ht=>Int.le_trans (ET q t ht) h0;cases q with
 |nil=>exact⟨rfl,by decide⟩
 |cons t ts =>
  have e1:=Rn (h.len t (z0 ..)).1 (h.len t (z0 ..)).2 (hd t (z0 ..));have hc:=h.co t (z0 ..);cases ts with
  |nil =>
   refine⟨?_,by show 0≤t.co;omega,hc.2⟩;rw[BU,e1,JZ];show Fq t.co*1+0=Fq t.co;generalize Fq t.co=z;grind
  |cons u us =>
   have hu:u∈t::u::us:=z3 _ (z0 ..);have e2:=Rn (h.len u hu).1 (h.len u hu).2 (hd u hu);have:=h.srt.1 u (z0 ..);rw[e1,e2,P8]at this;omega
section
structure IG (p:List Fn):Prop where
 par:∀k,k<p.length→0≤(p.getD k Fn.zero).params∧(p.getD k Fn.zero).params≤12
 outs:∀k,k<p.length→1≤(p.getD k Fn.zero).outs.length∧(p.getD k Fn.zero).outs.length≤12
 deep:∀k,k<p.length→∀j,j<(p.getD k Fn.zero).outs.length→((p.getD k Fn.zero).outs.getD j Ex.zero).deep≤60
 wf:∀k,k<p.length→∀j,j<(p.getD k Fn.zero).outs.length→wf p ((k:Nat):Int) ((p.getD k Fn.zero).outs.getD j Ex.zero) (p.getD k Fn.zero).params=true
theorem BQ {x a b:Int}:GS x a b=true↔a≤x∧x≤b:=by unfold GS;simp
theorem DC {p:List Fn}{F vars:Int}{e:Ex}(h:Gk p F vars e=true) :
  (e.kind=1∨e.kind=2∨e.kind=3∨e.kind=4∨e.kind=5∨e.kind=6∨e.kind=7∨e.kind=8∨e.kind=9∨e.kind=10∨e.kind=11) ∧
  (e.kind=2→0≤e.num∧e.num≤vars-1)∧(e.kind=3∨e.kind=4∨e.kind=5∨e.kind=6∨e.kind=9→e.kids.length=2)∧(e.kind=7→e.kids.length=1)∧(e.kind=8→e.kids.length=3) ∧
  (e.kind=10∨e.kind=11→0≤e.num∧e.num≤F-1∧(e.kids.length:Int)=(p.getD e.num.toNat Fn.zero).params∧0≤e.pick∧e.pick≤((p.getD e.num.toNat Fn.zero).outs.length:Int)-1) ∧
  (e.kind=11→((p.getD e.num.toNat Fn.zero).outs.length:Int)=(p.getD e.num.toNat Fn.zero).params∧0≤e.count∧e.count≤8)∧(e.kind=1→0≤e.num∧e.num<1000003):=by
 unfold Gk at h;split at h;simp only[z7,decide_eq_true_eq,Dl]at h;omega;split at h;simp only[z7,decide_eq_true_eq,BQ]at h;omega;split at h;simp only[z7,decide_eq_true_eq]at h;omega;split at h;simp only[z7,decide_eq_true_eq]at h;omega;split at h;simp only[z7,decide_eq_true_eq]at h;omega;split at h;simp only[z7,decide_eq_true_eq,BQ]at h;obtain⟨h1,h2,h3,h4⟩:=h;split at h4;simp only[decide_eq_true_eq]at h4;omega;simp only[z7,decide_eq_true_eq,BQ]at h4;omega;cases h
theorem Dp {p:List Fn}{F vars:Int}{e:Ex}(h:wf p F e vars=true):Gk p F vars e=true:=by rw[LH,z7]at h;exact h.1
theorem UV {p:List Fn}{F vars:Int}{e:Ex}(h:wf p F e vars=true){j:Nat}(hj:j<e.kids.length):wf p F (e.kids.getD j Ex.zero) (if e.kind=9∧j=1 then vars+1 else vars)=true:=by rw[LH,z7]at h;have:=(JV p F _ vars e.kids 0).1 h.2 j hj;rw[Nat.zero_add]at this;simpa only[decide_eq_true_eq]using this
theorem Du {p:List Fn}{F vars:Int}{e:Ex}(h:wf p F e vars=true){j:Nat}(hj:j<e.kids.length)(hn:¬(e.kind=9∧j=1)):wf p F (e.kids.getD j Ex.zero) vars=true:=by have:=UV h hj;rwa [if_neg hn]at this
theorem Mr {p:List Fn}{F vars:Int}{e:Ex}(h:wf p F e vars=true)(hj:1<e.kids.length)(hk:e.kind=9):wf p F (e.kids.getD 1 Ex.zero) (vars+1)=true:=by have:=UV h hj;rwa [if_pos ⟨hk,rfl⟩]at this
section
variable {p:List Fn} {F:Nat} {vars:Int} {e:Ex}
theorem O9 (h:wf p ((F:Nat):Int) e vars=true)(hk:e.kind=1):0≤e.num∧e.num<1000003:=(DC (Dp h)).2.2.2.2.2.2.2 hk
theorem Oa (h:wf p ((F:Nat):Int) e vars=true)(hk:e.kind=2):0≤e.num∧e.num≤vars-1:=(DC (Dp h)).2.1 hk
theorem Pc (h:wf p ((F:Nat):Int) e vars=true)(hk:e.kind=8):e.kids.length=3:=(DC (Dp h)).2.2.2.2.1 hk
theorem Ob (h:wf p ((F:Nat):Int) e vars=true)(hk:e.kind=9):e.kids.length=2:=(DC (Dp h)).2.2.1 zO
theorem Oc (h:wf p ((F:Nat):Int) e vars=true)(hk:e.kind=7):e.kids.length=1:=(DC (Dp h)).2.2.2.1 hk
theorem J7 (h:wf p ((F:Nat):Int) e vars=true)(hk:e.kind=3∨e.kind=4∨e.kind=5∨e.kind=6):e.kids.length=2:=(DC (Dp h)).2.2.1 zO
theorem II (h:wf p ((F:Nat):Int) e vars=true)(hk:e.kind=10∨e.kind=11):(0≤e.num∧e.num≤((F:Nat):Int)-1)∧(e.kids.length:Int)=(p.getD e.num.toNat Fn.zero).params∧(0≤e.pick∧e.pick≤((p.getD e.num.toNat Fn.zero).outs.length:Int)-1):=by have:=(DC (Dp h)).2.2.2.2.2.1 hk;exact⟨⟨this.1,this.2.1⟩,this.2.2.1,this.2.2.2⟩
theorem Ms (h:wf p ((F:Nat):Int) e vars=true)(hk:e.kind=11):((p.getD e.num.toNat Fn.zero).outs.length:Int)=(p.getD e.num.toNat Fn.zero).params∧(0≤e.count∧e.count≤8):=(DC (Dp h)).2.2.2.2.2.2.1 hk
theorem X2 (h:wf p ((F:Nat):Int) e vars=true)(hk:(e.kind≠1∧e.kind≠2∧e.kind≠8∧e.kind≠9)∧(e.kind≠10∧e.kind≠11∧e.kind≠3∧e.kind≠4∧e.kind≠5∧e.kind≠7)):e.kind=6:=by have:=(DC (Dp h)).1;omega
theorem Ro (h:wf p ((F:Nat):Int) e vars=true)(hk:(e.kind≠1∧e.kind≠2∧e.kind≠7∧e.kind≠8)∧(e.kind≠9∧e.kind≠10∧e.kind≠11)):e.kind=3∨e.kind=4∨e.kind=5∨e.kind=6:=by have:=(DC (Dp h)).1;omega
theorem X3 (h:wf p ((F:Nat):Int) e vars=true)(hv:IG p)(hF:F≤p.length):e.kids.length≤12:=by have hq:=DC<|Dp h;by_cases h10:e.kind=10∨e.kind=11;have h1:=II h h10;have:=hv.par e.num.toNat zO;omega;have h1:=hq.1;have h2:=hq.2.2.1;have h3:=hq.2.2.2.1;have h4:=hq.2.2.2.2.1;by_cases hl:e.kind=1∨e.kind=2;have h5:=Dp h;unfold Gk at h5;rcases hl with hl|hl;rw[if_pos hl]at h5;simp only[z7,decide_eq_true_eq]at h5;omega;rw[if_neg zO,if_pos hl]at h5;simp only[z7,decide_eq_true_eq]at h5;omega;omega
end
section
variable {n:Nat} {C:Ca} {e:Ex} {env:List Sr} {s s1 s2:Nat} {c c1 c2:Int} {x y:Sr} {xs ys:List Sr}
theorem Dz (hc:c≠0){r:Rs Sr}:AH (go c r) x s c:=AH.mk_err (BO hc r) hc
theorem CB (hc:c=0)(hs:s=3000):AH (go c (CF n C e env s)) x s1 7:=by subst hc;rw[BS,Fy,if_pos (by omega)];exact AH.mk_err rfl (by decide)
theorem Ei (hc:c=0)(hs:s+1≤3000)(hk:e.kind=1):AH (go c (CF n C e env s)) (GP n e.num) (s+1) c:=by subst hc;rw[BS,Fy,if_neg zO,if_pos hk];exact AH.mk_ok rfl
theorem Ej (hc:c=0)(hs:s+1≤3000)(hk:e.kind=2):AH (go c (CF n C e env s)) (env.getD e.num.toNat []) (s+1) c:=by subst hc;rw[BS,Fy,if_neg zO,if_neg zO,if_pos hk];exact AH.mk_ok rfl
theorem Ek (hc:c=0)(hs:s+1≤3000)(hk:e.kind=8)(hl:e.kids.length=3)(h1:AH (go c (CF n C (e.kids.getD 0 Ex.zero) env (s+1))) x s1 c1)(hx:x.getD 0 0=0)
  (h2:AH (go c1 (CF n C (e.kids.getD 1 Ex.zero) env s1)) y s2 c2):AH (go c (CF n C e env s)) y s2 c2:=by
 subst hc;rw[BS,Fy,if_neg zO,if_neg zO,if_neg zO,if_pos hk,Fx _ _ _ _ _ _ (by omega)];rw[BS]at h1;by_cases h0:c1=0;subst h0;rw[h1.bindO,if_pos hx,Fx _ _ _ _ _ _ (by omega)];exact h2;rw[h1.bindE h0];rw[BO h0]at h2;exact h2
theorem El (hc:c=0)(hs:s+1≤3000)(hk:e.kind=8)(hl:e.kids.length=3)(h1:AH (go c (CF n C (e.kids.getD 0 Ex.zero) env (s+1))) x s1 c1)(hx:¬x.getD 0 0=0)
  (h2:AH (go c1 (CF n C (e.kids.getD 2 Ex.zero) env s1)) y s2 c2):AH (go c (CF n C e env s)) y s2 c2:=by
 subst hc;rw[BS,Fy,if_neg zO,if_neg zO,if_neg zO,if_pos hk,Fx _ _ _ _ _ _ (by omega)];rw[BS]at h1;by_cases h0:c1=0;subst h0;rw[h1.bindO,if_neg hx,Fx _ _ _ _ _ _ (by omega)];exact h2;rw[h1.bindE h0];rw[BO h0]at h2;exact h2
theorem Em (hc:c=0)(hs:s+1≤3000)(hk:e.kind=9)(hl:e.kids.length=2)(h1:AH (go c (CF n C (e.kids.getD 0 Ex.zero) env (s+1))) x s1 c1)
  (h2:AH (go c1 (CF n C (e.kids.getD 1 Ex.zero) (env++[x]) s1)) y s2 c2):AH (go c (CF n C e env s)) y s2 c2:=by
 subst hc;rw[BS,Fy,if_neg zO,if_neg zO,if_neg zO,if_neg zO,if_pos hk,Fx _ _ _ _ _ _ (by omega)];rw[BS]at h1;by_cases h0:c1=0;subst h0;rw[h1.bindO,Fx _ _ _ _ _ _ (by omega)];exact h2;rw[h1.bindE h0];rw[BO h0]at h2;exact h2
theorem H0 (hs : s + 1 ≤ 3000) (h1 : e.kind ≠ 1) (h2 : e.kind ≠ 2) (h8 : e.kind ≠ 8) (h9 : e.kind ≠ 9) : CF n C e env s = (DP n C e.kids env (s + 1)).bind fun xs t =>
      if e.kind = 10 then C.one e.num.toNat e.pick.toNat xs t
      else if e.kind = 11 then (IW (C.all e.num.toNat) e.count.toNat xs t).bind fun ys u=>.ok (ys.getD e.pick.toNat []) u
      else MW e.kind xs t:=by
  rw [Fy,if_neg zO,if_neg h1,if_neg h2,if_neg h8,if_neg h9]
theorem D1 (hc:c=0)(hs:s+1≤3000)(h1:e.kind≠1)(h2:e.kind≠2)(h8:e.kind≠8)(h9:e.kind≠9)(hr:AH (go c (DP n C e.kids env (s+1))) xs s1 c1)(hc1:c1≠0):AH (go c (CF n C e env s)) x s2 c1:=by subst hc;rw[BS]at hr ⊢;rw[H0 hs h1 h2 h8 h9,hr.bindE hc1];exact AH.mk_err rfl hc1
theorem DY {p:List Fn}{F:Nat}(hc:c=0)(hs:s+1≤3000)(hk:e.kind=10)(hF:e.num.toNat<F)(hr:AH (go c (DP n (ES p n F) e.kids env (s+1))) xs s1 c1)(hc1:c1=0)
  (h2:AH (go c1 (CF n (ES p n e.num.toNat) ((p.getD e.num.toNat Fn.zero).outs.getD e.pick.toNat Ex.zero) xs s1)) y s2 c2):AH (go c (CF n (ES p n F) e env s)) y s2 c2:=by
 subst hc;subst hc1;rw[BS]at hr h2 ⊢;rw[H0 hs zO zO zO zO,hr.bindO,if_pos hk,Mg hF];exact h2
theorem DZ {p:List Fn}{F:Nat}(hc:c=0)(hs:s+1≤3000)(hk:e.kind=11)(hF:e.num.toNat<F)(hr:AH (go c (DP n (ES p n F) e.kids env (s+1))) xs s1 c1)(hc1:c1=0)
  (h2:AH (IW (fun a t=>DP n (ES p n e.num.toNat) (p.getD e.num.toNat Fn.zero).outs a t) e.count.toNat xs s1) ys s2 c2):AH (go c (CF n (ES p n F) e env s)) (ys.getD e.pick.toNat []) s2 c2:=by
 subst hc;subst hc1;rw[BS]at hr ⊢;rw[H0 hs zO zO zO zO,hr.bindO,if_neg zO,if_pos hk];have hl:(ES p n F).all e.num.toNat=fun a t=>DP n (ES p n e.num.toNat) (p.getD e.num.toNat Fn.zero).outs a t:=funext fun a=>funext fun t=>JW hF;rw[hl];by_cases h0:c2=0;subst h0;rw[h2.bindO];exact AH.mk_ok rfl;rw[h2.bindE h0];exact AH.mk_err rfl h0
theorem Bb (hc:c=0)(hs:s+1≤3000)(h1:e.kind≠1)(h2:e.kind≠2)(h8:e.kind≠8)(h9:e.kind≠9)(h10:e.kind≠10)(h11:e.kind≠11)(hr:AH (go c (DP n C e.kids env (s+1))) xs s1 c1)(hc1:c1=0)
  (h:AH (MW e.kind xs s1) y s2 c2):AH (go c (CF n C e env s)) y s2 c2:=by
 subst hc;subst hc1;rw[BS]at hr ⊢;rw[H0 hs h1 h2 h8 h9,hr.bindO,if_neg h10,if_neg h11];exact h
theorem FB {k:Int}(hk:k=3):AH (MW k xs s) (Df (xs.getD 0 []) (xs.getD 1 [])) s 0:=by subst hk;exact AH.mk_ok rfl
theorem FC {k:Int}(hk:k=4):AH (MW k xs s) (Fw (xs.getD 0 []) (xs.getD 1 [])) s 0:=by subst hk;exact AH.mk_ok rfl
theorem FD {k:Int}(hk:k=5):AH (MW k xs s) (E5 (xs.getD 0 []) (xs.getD 1 [])) s 0:=by subst hk;exact AH.mk_ok rfl
theorem FE {k:Int}(hk:k=7):AH (MW k xs s) (DG (xs.getD 0 []) 1000002) s 0:=by subst hk;exact AH.mk_ok rfl
theorem En {k:Int}(hk:k=6)(hz:(xs.getD 1 []).getD 0 0=0):AH (MW k xs s) x s1 6:=by
 subst hk;have:MW 6 xs s=.err 6:=by
  show(if (xs.getD 1 []).getD 0 0=0 then _ else _)=_;rw[if_pos hz]
 exact AH.mk_err this (by decide)
theorem FF {k:Int}(hk:k=6)(hz:¬(xs.getD 1 []).getD 0 0=0):AH (MW k xs s) (De (xs.getD 0 []) (xs.getD 1 [])) s 0:=by
 subst hk;have:MW 6 xs s=.ok (De (xs.getD 0 []) (xs.getD 1 [])) s:=by
  show(if (xs.getD 1 []).getD 0 0=0 then _ else _)=_;rw[if_neg hz]
 exact AH.mk_ok this
theorem FZ {l:List Ex}{k:Nat}(hk:k<l.length)(h:AH (go c (DP n C (l.take k) env s)) xs s1 c1)(h2:AH (go c1 (CF n C (l.getD k Ex.zero) env s1)) x s2 c2) :
  AH (go c (DP n C (l.take (k+1)) env s)) (xs++[x]) s2 c2:=by
 by_cases hc:c=0;subst hc;rw[BS]at h ⊢;rw[Rb hk];by_cases h0:c1=0;subst h0;rw[BS]at h2;rw[h.bindO];by_cases h3:c2=0;subst h3;rw[h2.bindO];exact AH.mk_ok rfl;rw[h2.bindE h3];exact AH.mk_err rfl h3;rw[h.bindE h0];rw[BO h0]at h2;exact AH.mk_err (by rw[h2.1]) (by rw[h2.1];exact h2.2);rw[BO hc]at h ⊢;have hc1:c1≠0:=by rw[h.1];exact hc
 rw[BO hc1]at h2;exact AH.mk_err (by rw[h2.1,h.1]) (by rw[h2.1];exact hc1)
theorem TK {f:List Sr→Nat→Rs (List Sr)}{k:Nat}(h:AH (IW f k xs s) ys s1 c1)(hc:c1=0){zsq:List Sr}(h2:AH (go c1 (f ys s1)) zsq s2 c2):AH (IW f (k+1) xs s) zsq s2 c2:=by subst hc;show AH ((IW f k xs s).bind f) _ _ _;rw[h.bindO];rw[BS]at h2;exact h2
theorem Pd {f:List Sr→Nat→Rs (List Sr)} {d:Int}:∀ {m k:Nat},IW f k xs s = .err d→k≤m→IW f m xs s = .err d
  | 0, k, h, hk => by have : k = 0 := by omega
                      subst this; exact h
  | m + 1,k,h,hk=>by
    by_cases e:k = m + 1
    subst e; exact h
    show (IW f m xs s).bind f = _
    rw [Pd h (by omega)]; rfl
theorem E0 {f:List Sr→Nat→Rs (List Sr)}{k m:Nat}(h:AH (IW f k xs s) ys s1 c1)(hk:k≤m)(hs:k=m∨c1≠0):AH (IW f m xs s) ys s1 c1:=by by_cases hc:c1=0;rcases hs with rfl|hh;exact h;exact absurd hc hh;exact AH.mk_err (Pd (h.err hc) hk) hc
end
theorem G0 (n:Nat)(C:Ca)(l:List Ex)(env:List Sr)(s:Nat)(c:Int):AH (go c (DP n C (l.take 0) env s)) [] s c:=by rw[List.take_zero,DP];by_cases h:c=0;subst h;exact AH.mk_ok rfl;exact AH.mk_err (BO h _) h
theorem IJ {n:Nat}{a b:Sr}(ha:Cx n a):Cx n (Df a b):=⟨by unfold Df;rw[Bl];exact ha.1,N6 _ _⟩
theorem G3 {n:Nat}{a b:Sr}(ha:Cx n a):Cx n (Fw a b):=⟨by rw[QY];exact ha.1,QZ _ _⟩
theorem H1 {n:Nat}{a b:Sr}(ha:Cx n a):Cx n (E5 a b):=⟨by unfold E5;rw[Bl];exact ha.1,QW _ _⟩
theorem Fc {n:Nat}{a b:Sr}(ha:Cx n a):Cx n (De a b):=⟨by rw[QX];exact ha.1,N5 _ _⟩
theorem Kp {n:Nat}{a:Sr}{y:Int}(ha:Cx n a):Cx n (DG a y):=⟨by unfold DG;rw[Bl];exact ha.1,Ix _ _⟩
end
section
def Hm (p:List Fn)(n f:Nat)(a:List Sr):List Sr:=match ev p n f a with
 |.ok xs _=>xs
 |.err _=>[]
def HY (p:List Fn)(n f:Nat)(a:List Sr):Nat:=match ev p n f a with
 |.ok _ s=>s
 |.err _=>0
def Eo (p:List Fn)(n f:Nat)(a:List Sr):Int:=match ev p n f a with
 |.ok _ _=>0
 |.err c=>c
section
variable {p:List Fn} {n f s:Nat} {a x:List Sr} {c:Int}
theorem Kq (h:AH (go 0 (DP n (ES p n f) (p.getD f Fn.zero).outs a 0)) x s c)(hc:c=0):ev p n f a=.ok x s:=by subst hc;exact h.ok
theorem HZ (h:AH (go 0 (DP n (ES p n f) (p.getD f Fn.zero).outs a 0)) x s c)(hc:c≠0):ev p n f a=.err c:=h.err hc
theorem Nk (h:ev p n f a=.ok x s):Hm p n f a=x:=by unfold Hm;rw[h]
theorem Rp (h:ev p n f a=.ok x s):HY p n f a=s:=by unfold HY;rw[h]
theorem Nl (h:ev p n f a=.ok x s):Eo p n f a=0:=by unfold Eo;rw[h]
theorem Rq (h:ev p n f a=.err c):Hm p n f a=[]:=by unfold Hm;rw[h]
theorem Rr (h:ev p n f a=.err c):HY p n f a=0:=by unfold HY;rw[h]
theorem Nm (h:ev p n f a=.err c):Eo p n f a=c:=by unfold Eo;rw[h]
end
structure Qp (p:List Fn)(n f:Nat)(a:List Sr):Prop where
 code:0≤Eo p n f a∧Eo p n f a≤9
 steps:HY p n f a≤3000
 len:Eo p n f a=0→(Hm p n f a).length=(p.getD f Fn.zero).outs.length
 ser:HE n (Hm p n f a)
 non:Eo p n f a≠0→Hm p n f a=[]
theorem Qp.mk' {p:List Fn}{n f s:Nat}{a x:List Sr}{c:Int}(h:AH (go 0 (DP n (ES p n f) (p.getD f Fn.zero).outs a 0)) x s c)(hc:0≤c∧c≤9)(hs:s≤3000)(hl:x.length=(p.getD f Fn.zero).outs.length)(hx:HE n x):Qp p n f a:=by by_cases h0:c=0;have e:=Kq h h0;exact⟨by rw[Nl e];omega,by rw[Rp e];exact hs,fun _=>by rw[Nk e];exact hl,by rw[Nk e];exact hx,fun hh=>absurd (Nl e) hh⟩;have e:=HZ h h0;exact⟨by rw[Nm e];exact hc,by rw[Rr e];omega,fun hh=>absurd (by rw[← hh,Nm e]) h0,by rw[Rq e];intro k hk;simp at hk,fun _=>Rq e⟩
end
section
set_option linter.unusedSectionVars false
class JR where
 rel:World→World→Prop
 refl:∀w,rel w w
 trans:∀ {a b c},rel a b→rel b c→rel a c
 ext:∀ {a b},AK a b→rel a b
@[reducible] def TL (F:List Nat):JR:=⟨Ax F,Ax.refl F,Ax.trans,Ax.of_ext F⟩
namespace Jx
variable [J:JR]
def AK (w w':World):Prop:=J.rel w w'
theorem AK.refl (w:World):AK w w:=J.refl w
theorem AK.trans {a b c:World}(h:AK a b)(k:AK b c):AK a c:=J.trans h k
section
variable {P:Program} {ops:Array Oper} {md:Region.Mode}
def Cl (w0 w:World):Nat→World→Prop
 |0,_=>True
 |1,w'=>AK w0 w'
 |_,w'=>AK w w'
def Bk (P:Program)(w0:World)(o:Oper)(k:Nat)(a:Act)(w:World)(K:Act→World→Prop):Prop :=
 if k≤2 then ∃v,(∀w',Cl w0 w k w'→YA P o a w' v)∧K (a.put o.dst v) w
 else if k=3 then o.wp P a w (fun a' w'=>AK w w'∧K a' w') (NQ fun _ _=>False)
 else o.wp P a w K (NQ fun _ _=>False)
def LW (P:Program)(ops:Array Oper)(w0:World)(Q:Act→World→Prop):List Oper→List Nat→Act→World→Prop
 |[],_,a,w=>Q a w
 |_::_,[],_,_=>False
 |o::os,k::ks,a,w =>
  if Region.wanted o (yielded ops a.tmps)=true then Bk P w0 o k a w (LW P ops w0 Q os ks)else LW P ops w0 Q os ks (a.put o.dst undef) w
theorem Bk.mono {w0:World}{o:Oper}{k:Nat}{a:Act}{w:World}{K K':Act→World→Prop}(h:∀a w,K a w→K' a w)
  (hh:Bk P w0 o k a w K):Bk P w0 o k a w K':=by
 unfold Bk at *;split;rename_i hk;rw[if_pos hk]at hh;obtain⟨v,h1,h2⟩:=hh;exact⟨v,h1,h _ _ h2⟩;rename_i hk;rw[if_neg hk]at hh;split;rename_i h3;rw[if_pos h3]at hh;exact Oper.wp_mono (fun a w hx=>⟨hx.1,h _ _ hx.2⟩) hh;rename_i h3;rw[if_neg h3]at hh;exact Oper.wp_mono h hh
variable (P ops) in
def LI (kd:Nat→Nat)(w0:World)(Q:Act→World→Prop):List Nat→Act→World→Prop
 |[],a,w=>Q a w
 |i::l,a,w =>
  match ops[i]? with
  |none=>False
  |some o=>if Region.wanted o (yielded ops a.tmps)=true then Bk P w0 o (kd i) a w (LI kd w0 Q l)else LI kd w0 Q l (a.put o.dst undef) w
def NU (kd:Nat→Nat)(w0 w:World)(l:List Nat):Prop:=(∃j∈l,kd j=1)→AK w0 w
def Yv (P:Program)(ops:Array Oper)(w0:World)(k:Nat)(o:Oper)(a:Act)(w:World)(v:Value):Prop :=
 (Region.wanted o (yielded ops a.tmps)=true∧∀w',Cl w0 w k w'→YA P o a w' v)∨(Region.wanted o (yielded ops a.tmps)=false∧v=undef)
theorem Cl.self {w0 w:World}{k:Nat}(h:k=1→AK w0 w):Cl w0 w k w:=by
 match k,h with
 |0,_=>exact trivial
 |1,h=>exact h rfl
 |_+2,_=>exact AK.refl w
theorem Yv.unique {w0 w:World}{k:Nat}{o:Oper}{a:Act}{v u:Value}(hk:k=1→AK w0 w)(h:Yv P ops w0 k o a w v)(h':Yv P ops w0 k o a w u):v=u:=by rcases h with⟨h1,h2⟩|⟨h1,h2⟩ <;> rcases h' with⟨g1,g2⟩|⟨g1,g2⟩;exact (h2 w<|Cl.self hk).unique<|g2 w<|Cl.self hk;rw[h1]at g1;cases g1;rw[h1]at g1;cases g1;rw[h2,g2]
theorem Yv.apart {w0 w:World}{k:Nat}{o:Oper}(hs:∀cs b,o.op≠.select cs b){a:Act}{d:Option Tmp}{u v:Value}
  (h1:∀x,d=some x→x∉o.looksAt ops):Yv P ops w0 k o (a.put d u) w v↔Yv P ops w0 k o a w v:=by
 unfold Yv;rw[wanted_put (ops:=ops) o a d u h1];simp only[YA.apart (ops:=ops) (P:=P) hs h1]
theorem Yv.defers {w0 w:World}{k:Nat}{o:Oper}{a:Act}{l:List Deferred}{v:Value}:Yv P ops w0 k o { a with defers:=l } w v↔Yv P ops w0 k o a w v:=by
 have he:Act.eval { a with defers:=l }=Act.eval a:=funext fun x=>by cases x <;> rfl
 unfold Yv YA;rw[he]
theorem Yv.shape {w0 w:World}{k:Nat}{o:Oper}(hs:∀cs b,o.op≠.select cs b){a a':Act}{d:Option Tmp}{v:Value}
  (h1:∀x,d=some x→x∉o.looksAt ops) (h:Jn a d a'):Yv P ops w0 k o a' w v↔Yv P ops w0 k o a w v:=by
 obtain⟨u,rfl|⟨x,rfl⟩⟩:=h;exact Yv.apart hs h1;rw[Yv.apart hs h1];exact Yv.defers
section main
variable {kd bs:Nat→Nat} {w0:World} {Q:Act→World→Prop}
theorem Ip (hsel:∀(j:Nat)(o:Oper) cs b,ops[j]? = some o→o.op≠.select cs b){j:Nat}{oj:Oper}(hj:ops[j]? = some oj)(hk:kd j≤2) :
  ∀(l1 l2:List Nat) (a:Act) (w:World),(∀i∈l1,∀oi,ops[i]? = some oi→oi.apart ops oj=true∧CS (kd i) (kd j)=true)→(kd j=1→AK w0 w) →
   LI P ops kd w0 Q (l1++j::l2) a w→∃v,Yv P ops w0 (kd j) oj a w v∧LI P ops kd w0 Q (l1++l2) (a.put oj.dst v) w
 |[],l2,a,w,_,_,h=>by
  simp only[zl,LI,hj]at h ⊢
  split at h
  rename_i hw
  unfold Bk at h
  rw[if_pos hk]at h
  obtain⟨v,h1,h2⟩:=h
  exact⟨v,.inl ⟨hw,h1⟩,h2⟩
  rename_i hw
  exact⟨undef,.inr ⟨by simpa using hw,rfl⟩,h⟩
 |i::l1,l2,a,w,hl,hx,h=>by
  have hi:=hl i (z0 ..)
  have hl':∀x∈l1,∀ox,ops[x]? = some ox→ox.apart ops oj=true∧CS (kd x) (kd j)=true:=fun x hx=>hl x (z3 _ hx)
  simp only[List.cons_append,LI]at h ⊢
  cases hoi:ops[i]? with
  |none=>rw[hoi]at h;exact h.elim
  |some oi =>
   rw[hoi]at h
   simp only at h ⊢
   obtain⟨hap,hok⟩:=hi oi hoi
   obtain⟨p1,p2,p3⟩:=Oper.apart_spec hap
   have p2':∀d,oj.dst=some d→oi.dst≠some d:=fun d hd he=>p2 d he hd
   have si:=fun cs b=>hsel i oi cs b hoi
   have sj:=fun cs b=>hsel j oj cs b hj
   by_cases hw:Region.wanted oi (yielded ops a.tmps)=true
   rw[if_pos hw]at h
   unfold Bk at h
   by_cases hki:kd i≤2
   rw[if_pos hki]at h
   obtain⟨vi,hy,h⟩:=h
   obtain⟨v,h1,h2⟩:=Ip hsel hj hk l1 l2 (a.put oi.dst vi) w hl' hx h
   refine⟨v,(Yv.apart sj p1).1 h1,?_⟩
   rw[wanted_put oi a oj.dst v p3,if_pos hw]
   unfold Bk
   rw[if_pos hki]
   refine⟨vi,fun w' hc=>(YA.apart (ops:=ops) si p3).2 (hy w' hc),?_⟩
   rw[Act.put_comm a v vi p2']
   exact h2
   rw[if_neg hki]at h
   have gen:∀(G:World→Prop),(∀w',G w'→kd j=1→AK w0 w')→(kd j=2→False) →
     oi.wp P a w (fun a' w'=>G w'∧LI P ops kd w0 Q (l1++j::l2) a' w') (NQ fun _ _=>False) →
     ∃v,Yv P ops w0 (kd j) oj a w v∧oi.wp P (a.put oj.dst v) w (fun a' w'=>G w'∧LI P ops kd w0 Q (l1++l2) a' w') (NQ fun _ _=>False):=by
    intro G hG hn2 hh;have hcl:∀w1 w2,Cl w0 w1 (kd j) w2→Cl w0 w (kd j) w2:=by
     intro w1 w2 hc;match hkj:kd j,hk,hn2 with
     |0,_,_=>trivial
     |1,_,_=>rw[hkj]at hc;exact hc
     |2,_,hn=>exact(hn rfl).elim
     |_+3,hle,_=>omega
    have hcl':∀w1 w2,Cl w0 w (kd j) w2→Cl w0 w1 (kd j) w2:=by
     intro w1 w2 hc;match hkj:kd j,hk,hn2 with
     |0,_,_=>trivial
     |1,_,_=>rw[hkj]at hc;exact hc
     |2,_,hn=>exact(hn rfl).elim
     |_+3,hle,_=>omega
    have hs:=Dw hh;have step:∀a' w',((G w'∧LI P ops kd w0 Q (l1++j::l2) a' w')∧Jn a oi.dst a') →
      ∃v,Yv P ops w0 (kd j) oj a w v∧LI P ops kd w0 Q (l1++l2) (a'.put oj.dst v) w':=by
     rintro a' w' ⟨⟨hg,hL⟩,hsh⟩;obtain⟨v,h1,h2⟩:=Ip hsel hj hk l1 l2 a' w' hl' (hG w' hg) hL;have h1':=(Yv.shape sj p1 hsh).1 h1;refine⟨v,?_,h2⟩;rcases h1' with⟨q1,q2⟩|⟨q1,q2⟩;exact .inl ⟨q1,fun w2 hc=>q2 w2<|hcl' w' w2 hc⟩;exact .inr ⟨q1,q2⟩
    obtain⟨v,hv⟩:∃v,Yv P ops w0 (kd j) oj a w v:=by
     obtain⟨u,w',hK|⟨d,hK⟩⟩:=JO hs;obtain⟨v,h1,_⟩:=step _ _ hK;exact⟨v,h1⟩;obtain⟨v,h1,_⟩:=step _ _ hK;exact⟨v,h1⟩
    refine⟨v,hv,Gf (ops:=ops) si p3 p2' ?_⟩;refine Oper.wp_mono (fun a' w' hK=>?_) hs;obtain⟨v',h1,h2⟩:=step a' w' hK;have:v'=v:=h1.unique hx hv;subst this;exact⟨hK.1.1,h2⟩
   by_cases h3:kd i=3;rw[if_pos h3]at h;have hj1:=bI hok h3;obtain⟨v,hv,hwp⟩:=gen (fun w'=>AK w w') (fun w' hg h1=>(hx h1).trans hg) (fun h2=>by omega) h;refine⟨v,hv,?_⟩;rw[wanted_put oi a oj.dst v p3,if_pos hw];unfold Bk;rw[if_neg hki,if_pos h3];exact hwp;rw[if_neg h3]at h;have hj0:=bJ hok zO;obtain⟨v,hv,hwp⟩:=gen (fun _=>True) (fun w' _ h1=>by omega) (fun h2=>by omega) (Oper.wp_mono (fun a w hh=>⟨trivial,hh⟩) h);refine⟨v,hv,?_⟩;rw[wanted_put oi a oj.dst v p3,if_pos hw];unfold Bk;rw[if_neg hki,if_neg h3];exact Oper.wp_mono (fun a w hh=>hh.2) hwp;rw[if_neg hw]at h;obtain⟨v,h1,h2⟩:=Ip hsel hj hk l1 l2 (a.put oi.dst undef) w hl' hx h;refine⟨v,(Yv.apart sj p1).1 h1,?_⟩;rw[wanted_put oi a oj.dst v p3,if_neg hw,Act.put_comm a v undef p2'];exact h2
theorem Ka (hsel:∀(j:Nat)(o:Oper) cs b,ops[j]? = some o→o.op≠.select cs b){j:Nat}{oj:Oper}(hj:ops[j]? = some oj)(hk:3≤kd j) :
  ∀(l1 l2:List Nat) (a:Act) (w:World),(∀i∈l1,∀oi,ops[i]? = some oi→oi.apart ops oj=true∧CS (kd i) (kd j)=true)→LI P ops kd w0 Q (l1++j::l2) a w →
   (Region.wanted oj (yielded ops a.tmps)=true→oj.wp P a w (fun a' w'=>(kd j=3→AK w w')∧LI P ops kd w0 Q (l1++l2) a' w') (NQ fun _ _=>False)) ∧
   (Region.wanted oj (yielded ops a.tmps)=false→LI P ops kd w0 Q (l1++l2) (a.put oj.dst undef) w)
 |[],l2,a,w,_,h=>by
  simp only[zl,LI,hj]at h ⊢
  refine⟨fun hw=>?_,fun hw=>?_⟩
  rw[if_pos hw]at h
  unfold Bk at h
  rw[if_neg (by omega)]at h
  split at h
  exact Oper.wp_mono (fun _ _ hh=>⟨fun _=>hh.1,hh.2⟩) h
  rename_i h3;exact Oper.wp_mono (fun _ _ hh=>⟨fun h'=>(h3 h').elim,hh⟩) h
  rw[if_neg (by simp[hw])]at h;exact h
 |i::l1,l2,a,w,hl,h=>by
  have hi:=hl i (z0 ..)
  have hl':∀x∈l1,∀ox,ops[x]? = some ox→ox.apart ops oj=true∧CS (kd x) (kd j)=true:=fun x hx=>hl x (z3 _ hx)
  simp only[List.cons_append,LI]at h ⊢
  cases hoi:ops[i]? with
  |none=>rw[hoi]at h;exact h.elim
  |some oi =>
   rw[hoi]at h
   simp only at h ⊢
   obtain⟨hap,hok⟩:=hi oi hoi
   obtain⟨p1,p2,p3⟩:=Oper.apart_spec hap
   have p2':∀d,oj.dst=some d→oi.dst≠some d:=fun d hd he=>p2 d he hd
   have si:=fun cs b=>hsel i oi cs b hoi
   have sj:=fun cs b=>hsel j oj cs b hj
   obtain⟨hki,hk4⟩:=Zx hok hk
   by_cases hw:Region.wanted oi (yielded ops a.tmps)=true
   rw[if_pos hw]at h
   unfold Bk at h
   rw[if_pos hki]at h
   obtain⟨vi,hy,h⟩:=h
   obtain⟨g1,g2⟩:=Ka hsel hj hk l1 l2 (a.put oi.dst vi) w hl' h
   rw[wanted_put oj a oi.dst vi p1]at g1 g2
   refine⟨fun hwj=>?_,fun hwj=>?_⟩
   have g:=EV (ops:=ops) (Q:=fun _ _=>False) sj p1 p2<|g1 hwj
   refine Oper.wp_mono (fun a' w' hK=>?_)<|Dw g
   obtain⟨⟨hE,hL⟩,hsh⟩:=hK
   refine⟨hE,?_⟩
   rw[Dk p3 hsh,if_pos hw]
   unfold Bk
   rw[if_pos hki]
   refine⟨vi,fun w'' hc=>?_,hL⟩
   have hya:YA P oi a w'' vi:=by
    refine hy w'' ?_;match hki':kd i,hki,hk4 with
    |0,_,_=>trivial
    |1,_,_=>rw[hki']at hc;exact hc
    |2,_,h4=>rw[hki']at hc;exact(hE (by have:¬4≤kd j:=(fun hh=>by have:=h4 hh;omega);omega)).trans hc
    |_+3,hle,_=>omega
   have he:∀b,YA P oi b w'' vi↔YR P ((execOp b.eval oi).run P w'') w'' vi:=fun _=>Iff.rfl;obtain⟨u,rfl|⟨x,rfl⟩⟩:=hsh;exact (YA.apart (ops:=ops) si p3).2 hya;refine (YA.apart (ops:=ops) si p3).2 ?_;have hee:Act.eval { a with defers:=x::a.defers }=Act.eval a:=funext fun y=>by cases y <;> rfl
   rw[he,hee,← he];exact hya;rw[wanted_put oi a oj.dst undef p3,if_pos hw];unfold Bk;rw[if_pos hki];refine⟨vi,fun w' hc=>(YA.apart (ops:=ops) si p3).2 (hy w' hc),?_⟩;rw[Act.put_comm a undef vi p2'];exact g2 hwj;rw[if_neg hw]at h;obtain⟨g1,g2⟩:=Ka hsel hj hk l1 l2 (a.put oi.dst undef) w hl' h;rw[wanted_put oj a oi.dst undef p1]at g1 g2;refine⟨fun hwj=>?_,fun hwj=>?_⟩;have g:=EV (ops:=ops) (Q:=fun _ _=>False) sj p1 p2<|g1 hwj;refine Oper.wp_mono (fun a' w' hK=>?_)<|Dw g;obtain⟨⟨hE,hL⟩,hsh⟩:=hK;refine⟨hE,?_⟩;rw[Dk p3 hsh,if_neg hw];exact hL;rw[wanted_put oi a oj.dst undef p3,if_neg hw,Act.put_comm a undef undef p2'];exact g2 hwj
end main
end
section
variable {P:Program} {ops:Array Oper} {md:Region.Mode} {kd bs:Nat→Nat} {w0:World} {Q:Act→World→Prop}
theorem FS (hsel:∀(j:Nat)(o:Oper) cs b,ops[j]? = some o→o.op≠.select cs b)(hS:MY md ops bs)
  (hlex:∀j oj,ops[j]? = some oj→∀e∈oj.after,Region.binds md e=true→e.on<j) :
  ∀(n:Nat) (l:List Nat) (listed:Array Bool) (a:Act) (w:World),l.length=n→l.Pairwise (Kb md ops kd bs)→l.Nodup→listed.size=ops.size →
   (∀i,i∈l↔listed.getD i true=false)→IZ bs listed→NV kd l→NU kd w0 w l→LI P ops kd w0 Q l a w→wpAny P md ops (NQ Q) n listed a w
 |0,l,listed,a,w,hn,_,_,_,hm,_,_,_,h=>by
  have hl:l=[]:=List.eq_nil_of_length_eq_zero hn
  subst hl
  refine⟨?_,h⟩
  cases hr:Region.ready md ops listed with
  |nil=>rfl
  |cons x xs =>
   have:=(mem_ready.1 (by rw[hr];exact z0 ..:x∈Region.ready md ops listed)).1
   exact absurd ((hm x).2 this) (by simp)
 |n+1,l,listed,a,w,hn,hs,hd,hz,hm,hc,h14,hi1,h=>by
  refine⟨fun h0=>?_,fun i hi=>?_⟩
  exfalso
  match l,hn with
  |i::l,hn =>
   have hready:=HQ (md:=md) hz hm hlex fun y hy ox hox=>((List.pairwise_cons.1 hs).1 y hy).2 ox hox
   rw[h0]at hready
   cases hready
  obtain⟨hun,oi,hoi,hall⟩:=mem_ready.1 hi
  obtain⟨l1,l2,rfl⟩:=List.append_of_mem ((hm i).2 hun)
  have hbits:=Fv hS hc hoi hall
  have hpi:∀x∈l1,Kb md ops kd bs x i:=fun x hx=>(List.pairwise_append.1 hs).2.2 x hx i (z0 ..)
  have hfree:=Jo (kd:=kd) (l1:=l1) hoi (fun x hx=>(hpi x hx).1) (fun x hx=>(hm x).1 (z8 _ hx)) hbits
  have hsz:=C7 hun
  have hsub0:(l1++l2).Sublist (l1++i::l2):=List.Sublist.append_left (List.sublist_cons_self _ _) _
  have hnd:i∉l1++l2:=by
   have h1:=List.nodup_append.1 hd
   intro hmem;rcases zi.1 hmem with hh|hh;exact h1.2.2 i hh i (z0 ..) rfl;exact (List.nodup_cons.1 h1.2.1).1 hh
  have hn':(l1++l2).length=n:=by simp at hn ⊢;omega
  have rec_:∀a' w',NU kd w0 w' (l1++l2)→LI P ops kd w0 Q (l1++l2) a' w'→wpAny P md ops (NQ Q) n (listed.setIfInBounds i true) a' w':=fun a' w' hi' hL =>
   FS hsel hS hlex n (l1++l2) _ a' w' hn' (hs.sublist hsub0) (hd.sublist hsub0) (by simpa using hz) (J0 hm hnd hsz) (HR hc hbits) (NV.erase h14) hi' hL
  have hsub:NU kd w0 w (l1++l2):=fun⟨j,hj,hk⟩=>hi1 ⟨j,hsub0.subset hj,hk⟩;by_cases hk:kd i≤2;obtain⟨v,hv,hL⟩:=Ip hsel hoi hk l1 l2 a w hfree (fun h1=>hi1 ⟨i,by simp,h1⟩) h;unfold wpOp;rw[hoi];rcases hv with⟨hw,hy⟩|⟨hw,rfl⟩;simp only[hw,if_true];exact .inl<|Iq (hy w (Cl.self fun h1=>hi1 ⟨i,by simp,h1⟩))<|rec_ _ _ hsub hL;simp only[hw,Bool.false_eq_true,if_false];exact rec_ _ _ hsub hL;obtain⟨g1,g2⟩:=Ka hsel hoi zO l1 l2 a w hfree h;unfold wpOp;rw[hoi];by_cases hw:Region.wanted oi (yielded ops a.tmps)=true;simp only[hw,if_true];refine .inl<|Oper.wp_mono (fun a' w' hK=>rec_ a' w' ?_ hK.2)<|Hi<|g1 hw;rintro⟨j,hj,hkj⟩;by_cases h3:kd i=3;exact (hsub ⟨j,hj,hkj⟩).trans<|hK.1 h3;exfalso;rcases zi.1 hj with hh|hh;obtain⟨oj,hoj⟩:∃oj,ops[j]? = some oj:=by
   have:=C7 ((hm j).1 (z8 _ hh));exact⟨ops[j]'(by omega),by simp[show j<ops.size by omega]⟩
  have:=(Zx (hfree j hh oj hoj).2 zO).2 zO;omega;exact h14 l1 i l2 rfl zO j hh hkj;simp only[hw,Bool.false_eq_true,if_false];exact rec_ _ _ hsub<|g2 (by simpa using hw)
theorem GU (ks:List Nat):∀(os:List Oper)(k:Nat)(a:Act)(w:World),(∀j,os[j]? = ops[k+j]?) →
  LW P ops w0 Q os (ks.drop k) a w→LI P ops (fun i=>ks.getD i 0) w0 Q (List.range' k os.length) a w
 |[],_,_,_,_,h=>by simpa [LI,LW]using h
 |o::os,k,a,w,ho,h=>by
  have h0:ops[k]? = some o:=by simpa using (ho 0).symm
  have hr:∀a w,LW P ops w0 Q os (ks.drop (k+1)) a w→LI P ops (fun i=>ks.getD i 0) w0 Q (List.range' (k+1) os.length) a w:=fun a w hh =>
   GU ks os (k+1) a w (fun j=>by have:=ho (j+1);simpa [Nat.add_assoc,Nat.add_comm 1 j]using this) hh
  have hlt:k<ks.length:=by
   rcases Nat.lt_or_ge k ks.length with hh|hh;exact hh;rw[List.drop_of_length_le hh]at h;exact h.elim
  have hd:ks.drop k=ks[k]::ks.drop (k+1):=List.drop_eq_getElem_cons hlt;rw[hd]at h;simp only[z9,List.range'_succ,LI,h0,LW]at h ⊢;have hg:ks.getD k 0=ks[k]:=by simp[hlt]
  split;rename_i hw;rw[if_pos hw]at h;rw[hg];exact h.mono hr;rename_i hw;rw[if_neg hw]at h;exact hr _ _ h
theorem B2 {id:Nat}{Q:Exit→Act→World→Prop}{a:Act}{w:World}(os:List Oper)(ks:List Nat)(hm:P.follows .mixedOrders=true)(hB:Zy os.toArray ks=true)
  (h:LW P os.toArray w.drew (fun a w=>Q .normal a w) os ks a w.drew):(Code.region id os.toArray true).wp P Q a w:=by
 refine wp_region_any hm ?_;simp only[Zy,z7]at hB;obtain⟨⟨hsel,hpl⟩,h14⟩:=hB;have hz:∀ {j:Nat} {o:Oper},os.toArray[j]? = some o→(o,j)∈os.toArray.toList.zipIdx:=by
  intro j o ho;rw[List.mem_zipIdx_iff_getElem?];simpa using ho
 have hall:∀j oj,os.toArray[j]? = some oj→_:=fun j oj hj=>zm.1 hpl _ (hz hj);have hF:VI os.toArray (fun i=>ks.getD i 0) (fun j=>(Region.before os.toArray).toList.getD j 0):=by
  intro i j oi oj hij hi hj;have h3:=(z7 _ _ ▸ hall j oj hj:_∧_).2;have h4:=zm.1 h3 _<|hz hi;simp only[Bool.or_eq_true,Bool.not_eq_true',decide_eq_false_iff_not,z7]at h4;rcases h4 with(h4|h4)|h4;exact absurd hij h4;exact .inl h4;exact .inr h4
 have hlex:∀j oj,os.toArray[j]? = some oj→∀e∈oj.after,Region.binds .any e=true→e.on<j:=by
  intro j oj hj e he hb;have h1:=(z7 _ _ ▸ (z7 _ _ ▸ hall j oj hj:_∧_).1:_∧_).1;have h2:=(Array.all_eq_true_iff_forall_mem.1 h1) e he;simpa [hb]using h2
 have key:=FS (P:=P) (ops:=os.toArray) (md:=.any) (kd:=fun i=>ks.getD i 0) (bs:=fun j=>(Region.before os.toArray).toList.getD j 0) (w0:=w.drew) (Q:=fun a w=>Q .normal a w)
  (Region.noSelect_spec hsel) ?_ ?_ os.length (List.range' 0 os.length) (Array.replicate os.length false) a w.drew (by simp) ?_ List.nodup_range' (by simp) ?_ ?_ ?_ (fun _=>AK.refl _) ?_
 have:=HS _ _ _ _ key;simpa using this
 intro j oj hj i hb;have h3:=(z7 _ _ ▸ (z7 _ _ ▸ hall j oj hj:_∧_).1:_∧_).2;have h5:(Region.before os.toArray).toList.getD j 0=oj.after.foldl (fun s e=>if Region.binds .any e then s ||| 2 ^ e.on ||| (Region.before os.toArray).toList.getD e.on 0 else s) 0:=by simpa using h3
 dsimp only at hb;rw[h5,← Array.foldl_toList]at hb;rcases Gg _ _ _ _ hb with hb|⟨e,he,hbb,hh⟩;simp at hb;exact⟨e,Array.mem_toList_iff.1 he,hbb,hh⟩;exact hlex;exact Ir hF hlex List.pairwise_lt_range'
 intro i;simp only[List.mem_range',Nat.zero_add,Nat.one_mul];constructor;rintro⟨x,hx,rfl⟩;simp[hx]
 intro hh;rcases Nat.lt_or_ge i os.length with h'|h';exact⟨i,h',rfl⟩;simp[Array.getElem?_eq_none (show(Array.replicate os.length false).size≤i by simpa using h')]at hh
 intro i hi;rcases Nat.lt_or_ge i os.length with h'|h';simp[h']at hi;simp[Array.getElem?_eq_none (show(Array.replicate os.length false).size≤i by simpa using h')]at hi
 intro l1 i l2 hl hk j hj;have hs:(l1++i::l2).Pairwise (· < ·):=hl ▸ List.pairwise_lt_range';have hij:i<j:=List.rel_of_pairwise_cons (List.pairwise_append.1 hs).2.1 hj;have mem:∀x∈l1++i::l2,x<os.length:=by
  intro x hx;rw[← hl]at hx;simp only[List.mem_range',Nat.zero_add,Nat.one_mul]at hx;obtain⟨y,hy,rfl⟩:=hx;exact hy
 have hi:=mem i (by simp);have hj':=mem j (by simp[hj]);have h1:=zm.1 h14 _<|hz (j:=i) (o:=os[i]) (by simp[hi]);simp only[Bool.or_eq_true,Bool.not_eq_true',decide_eq_false_iff_not]at h1;rcases h1 with h1|h1;exact absurd hk h1;have h2:=zm.1 h1 _<|hz (j:=j) (o:=os[j]) (by simp[hj']);simp only[Bool.or_eq_true,Bool.not_eq_true',decide_eq_false_iff_not]at h2;rcases h2 with h2|h2;exact absurd hij h2;simpa using h2;exact GU ks os 0 a w.drew (by simp) (by simpa using h)
end
section
variable {P:Program} {ops:Array Oper} {w0:World} {Q:Act→World→Prop} {os:List Oper} {ks:List Nat} {N:Nat} {ρ:Nat→Value} {w:World}
theorem Af {a:Act}(h:Q a w):LW P ops w0 Q [] ks a w:=h
theorem Cv {o:Oper}{k d:Nat}(hk:k≤2)(hd:o.dst=some d)(hu:Up ops N ρ o)(v:Value)(hr:∀w',Cl w0 w k w'→(execOp (Bs N ρ) o).run P w'=.ok (.value v) w')
  (h:LW P ops w0 Q os ks (mk N (Cs ρ d v)) w):LW P ops w0 Q (o::os) (k::ks) (mk N ρ) w:=by
 simp only[LW];rw[if_pos hu];unfold Bk;rw[if_pos hk];refine⟨v,fun w' hc=>.inl ?_,?_⟩;rw[CT];exact hr w' hc;rw[hd,DS];exact h
theorem J2 {o:Oper}{d:Nat}(hd:o.dst=some d)(hu:Up ops N ρ o)
  (v:Value) (w1:World) (hr:(execOp (Bs N ρ) o).run P w=.ok (.value v) w1) (hE:AK w w1) (h:LW P ops w0 Q os ks (mk N (Cs ρ d v)) w1):LW P ops w0 Q (o::os) (3::ks) (mk N ρ) w:=by
 simp only[LW];rw[if_pos hu];unfold Bk;rw[if_neg (by decide),if_pos rfl];unfold Oper.wp;rw[CT,hr];show AK w w1∧LW P ops w0 Q os ks ((mk N ρ).put o.dst v) w1;rw[hd,DS];exact⟨hE,h⟩
theorem AB {d:Nat} {x:Operand} {xs:Array Operand} {ats:Array TypeId} {ty:TypeId} {pos:String} {aft:Array Edge} {g:Option (Nat × Bool)} (f:FuncId) (first cap:List Value) (args:List Value)
  (hx:Bs N ρ x = .func (.func f) first.toArray cap.toArray) (hxs:first++(xs.toList.map (Bs N ρ))++cap = args) (hf:((P.funcs[f]?).map fun fn=>(fn.name != "runtime.NumGoroutine") && fn.body.isSome) = some true)
  (hu:Up ops N ρ ⟨some d,.call ⟨.value x,xs,ats⟩,ty,pos,aft,g⟩) {R:Ending→World→Prop} (hc:Calls P f args.toArray w R)
  (h:∀ e w1,R e w1→∃ v,e = .returned v∧AK w w1∧LW P ops w0 Q os ks (mk N (Cs ρ d v)) w1) :
  LW P ops w0 Q (⟨some d,.call ⟨.value x,xs,ats⟩,ty,pos,aft,g⟩ :: os) (3 :: ks) (mk N ρ) w:=by
 simp only [LW];rw [if_pos hu];unfold Bk;rw [if_neg (by decide),if_pos rfl];unfold Oper.wp;rw [CT];have hrun:(execOp (Bs N ρ) ⟨some d,.call ⟨.value x,xs,ats⟩,ty,pos,aft,g⟩).run P w = .ok (.enter f args.toArray) w:=by
  obtain ⟨fn,hfn,hb⟩:=Option.map_eq_some_iff.1 hf;simp only [z7,bne_iff_ne,ne_eq] at hb;have hargs:first.toArray++xs.map (Bs N ρ)++cap.toArray = args.toArray:=by
   rw [← hxs]; apply Array.ext'; simp
  obtain ⟨c,hbc⟩:=Option.isSome_iff_exists.1 hb.2;have hcf:(callFunc f args.toArray).run P w = .ok (.enter f args.toArray) w:=by
   simp [callFunc,hfn,hb.1,hbc]
  simp [execOp,resolve,hargs,hx,Deferred.ofValue,invoke,hcf]
 rw [hrun];refine Calls.mono hc (fun e w1 he=>?_);obtain ⟨v,rfl,hE,hL⟩:=h e w1 he;show AK w w1∧LW P ops w0 Q os ks ((mk N ρ).put (some d) v) w1;rw [DS];exact ⟨hE,hL⟩
theorem AJ {d:Nat} {x:Operand} {xs:Array Operand} {ats:Array TypeId} {ty:TypeId} {pos:String} {aft:Array Edge} {g:Option (Nat × Bool)} (f:FuncId) (first cap:List Value) (args:List Value)
  (hx:Bs N ρ x = .func (.func f) first.toArray cap.toArray) (hxs:first++(xs.toList.map (Bs N ρ))++cap = args) (hf:((P.funcs[f]?).map fun fn=>(fn.name != "runtime.NumGoroutine") && fn.body.isSome) = some true)
  (hu:Up ops N ρ ⟨some d,.call ⟨.value x,xs,ats⟩,ty,pos,aft,g⟩) (v:Value) (hc:∀ w',Calls P f args.toArray w' (fun e w''=>e = .returned v∧w'' = w'))
  (h:LW P ops w0 Q os ks (mk N (Cs ρ d v)) w) :
  LW P ops w0 Q (⟨some d,.call ⟨.value x,xs,ats⟩,ty,pos,aft,g⟩ :: os) (0 :: ks) (mk N ρ) w:=by
 simp only [LW];rw [if_pos hu];unfold Bk;rw [if_pos (by decide)];have hrun:∀ w,(execOp (Bs N ρ) ⟨some d,.call ⟨.value x,xs,ats⟩,ty,pos,aft,g⟩).run P w = .ok (.enter f args.toArray) w:=by
  intro w;obtain ⟨fn,hfn,hb⟩:=Option.map_eq_some_iff.1 hf;simp only [z7,bne_iff_ne,ne_eq] at hb;have hargs:first.toArray++xs.map (Bs N ρ)++cap.toArray = args.toArray:=by
   rw [← hxs]; apply Array.ext'; simp
  obtain ⟨c,hbc⟩:=Option.isSome_iff_exists.1 hb.2;have hcf:(callFunc f args.toArray).run P w = .ok (.enter f args.toArray) w:=by
   simp [callFunc,hfn,hb.1,hbc]
  simp [execOp,resolve,hargs,hx,Deferred.ofValue,invoke,hcf]
 refine ⟨v,fun w' _=>.inr (.inr ⟨f,args.toArray,?_,hc w'⟩),?_⟩;rw [CT]; exact hrun w';show LW P ops w0 Q os ks ((mk N ρ).put (some d) v) w;rw [DS]; exact h
end
section
variable {P:Program} {ops:Array Oper} {w0:World} {Q:Act→World→Prop} {os:List Oper} {ks:List Nat} {N:Nat} {ρ:Nat→Value} {w:World}
 {d:Nat} {ty:TypeId} {pos:String} {aft:Array Edge} {g:Option (Nat×Bool)} {t e:TypeId}
theorem VK {x:Operand}(v:Value)(hx:Bs N ρ x=v)(hu:Up ops N ρ ⟨some d,.move x,ty,pos,aft,g⟩)(h:LW P ops w0 Q os ks (mk N (Cs ρ d v)) w) :
  LW P ops w0 Q (⟨some d,.move x,ty,pos,aft,g⟩::os) (0::ks) (mk N ρ) w :=
 Cv (by decide) rfl hu v (fun w' _=>by simp[execOp,hx]) h
theorem Qy {x:Operand}(v:Value)(hx:Bs N ρ x=v)(hu:Up ops N ρ ⟨some d,.assign x,ty,pos,aft,g⟩)(h:LW P ops w0 Q os ks (mk N (Cs ρ d v)) w) :
  LW P ops w0 Q (⟨some d,.assign x,ty,pos,aft,g⟩::os) (0::ks) (mk N ρ) w :=
 Cv (by decide) rfl hu v (fun w' _=>by simp[execOp,hx]) h
theorem AF {t e:TypeId}{x y:Operand}{v:Value}{n s:Nat}{k:IntKind}{i:Int}(j:Nat)(ht:P.underlying t=some (.slice e)){z:Value}{b:Nat}(hi:TI P e s z b)(hx:Bs N ρ x=v)(hy:Bs N ρ y=.int k i)
  (hs:Ea v n) (hj:i=(j:Int)) (hlt:j<n) (hu:Up ops N ρ ⟨some d,.indexAddr t x y,ty,pos,aft,g⟩)
  (h:LW P ops w0 Q os ks (mk N (Cs ρ d (AD v j s))) w):LW P ops w0 Q (⟨some d,.indexAddr t x y,ty,pos,aft,g⟩::os) (0::ks) (mk N ρ) w :=
 Cv (by decide) rfl hu _ (fun w' _=>by
  obtain⟨a,c,rfl,ha⟩:=hs
  obtain⟨inf,h1,_,h3,_⟩:=hi.get
  subst hj
  cases a with
  |none=>have:=ha rfl;omega
  |some a =>
   have hlt':(j:Int)<(n:Int):=by omega
   simp[execOp,hx,hy,Instr.indexAt,asIntOf,run_underlying ht,sizeOf,typeInfo,h1,h3,AD,hlt]) h
theorem Au {s:TypeId}{x:Operand}{i:Nat}{p:Value}{b o:Nat}(off:Nat)(hf:GJ P s i off=true)(hx:Bs N ρ x=p)(hp:p=.pointer (some ⟨b,o,none⟩))(hu:Up ops N ρ ⟨some d,.fieldAddr s x i,ty,pos,aft,g⟩)
  (h:LW P ops w0 Q os ks (mk N (Cs ρ d (Az p off))) w):LW P ops w0 Q (⟨some d,.fieldAddr s x i,ty,pos,aft,g⟩::os) (0::ks) (mk N ρ) w :=
 Cv (by decide) rfl hu _ (fun w' _=>by
  subst hp
  unfold GJ at hf
  split at hf
  rename_i fs hfs
  split at hf
  rename_i f hff
  simp only[z7,beq_iff_eq]at hf
  obtain⟨rfl,hf2⟩:=hf
  split at hf2
  rename_i inf hin
  have hne:inf.size≠0:=by simpa using hf2
  simp[execOp,Instr.fieldAt,Instr.sureAddr,run_underlying hfs,hff,hx,fieldPlace,sizeOf,typeInfo,hin,hne,Gi,Az]
  cases hf2
  cases hf
  cases hf) h
theorem ZD {x:Operand}{p:Value}(u:Value)(ht:Ce P t)(hx:Bs N ρ x=p)(hc:∀w',AK w0 w'→JQ w'.heap p=some u)(hu:Up ops N ρ ⟨some d,.load t x,ty,pos,aft,g⟩)
  (h:LW P ops w0 Q os ks (mk N (Cs ρ d u)) w):LW P ops w0 Q (⟨some d,.load t x,ty,pos,aft,g⟩::os) (1::ks) (mk N ρ) w :=
 Cv (by decide) rfl hu _ (fun w' hcl=>by simp[execOp,hx,Lx ht (hc w' hcl)]) h
theorem Y2 {s:Nat}{x:Operand}{p:Value}(cs:List Value)(ht:EG P t s=true)(hx:Bs N ρ x=p)(hc:∀w',AK w0 w'→LD w'.heap p cs)(hl:cs.length=s)
  (hu:Up ops N ρ ⟨some d,.load t x,ty,pos,aft,g⟩)
  (h:LW P ops w0 Q os ks (mk N (Cs ρ d (.agg cs.toArray))) w):LW P ops w0 Q (⟨some d,.load t x,ty,pos,aft,g⟩::os) (1::ks) (mk N ρ) w :=
 Cv (by decide) rfl hu _ (fun w' hcl=>by simp[execOp,hx,LC ht (hc w' hcl) hl]) h
end
section
variable {P:Program} {ops:Array Oper} {w0:World} {Q:Act→World→Prop} {os:List Oper} {ks:List Nat} {N:Nat} {ρ:Nat→Value} {w:World}
 {d:Nat} {ty:TypeId} {pos:String} {aft:Array Edge} {g:Option (Nat×Bool)} {t e:TypeId} {z:Value} {b:Nat}
theorem CH {α:Type}{E:Bx α}(hE:Cb E){x:Operand}{u:Value}{y:α}{B U:Nat}(ht:P.underlying t=some (.slice e))(hi:TI P e 1 z b)(hz:z.cells=#[z])(hx:Bs N ρ x=u)(hy:Fr E B U w.heap u y)(hB:B≤w.heap.size)
  (hu:Up ops N ρ ⟨some d,.buildSlice t 1 #[(0,x)],ty,pos,aft,g⟩)
  (h:∀v w1,_root_.Go.Proofs.YtbcopolhaljhhaaGreat.AK w w1→w1.heap.size=w.heap.size+1→Fr (Bz E e) B w1.heap.size w1.heap v [y]→LW P ops w0 Q os ks (mk N (Cs ρ d v)) w1) :
  LW P ops w0 Q (⟨some d,.buildSlice t 1 #[(0,x)],ty,pos,aft,g⟩::os) (3::ks) (mk N ρ) w:=by
 obtain⟨F,h1,h2,h3⟩:=hy;have hr:=ON (P:=P) (w:=w) ht hi (hE.cells h1) hz;have hrun:(execOp (Bs N ρ) ⟨some d,.buildSlice t 1 #[(0,x)],ty,pos,aft,g⟩).run P w=.ok (.value (.slice (some ⟨w.heap.size,0,none⟩) 1 1)) (w.alloc (.cells #[u] e)):=by
  simp only[execOp,zc,zf,zh,Sem.run_bind,hx,hr,Result.andThen_ok,Sem.run_pure]
 refine J2 rfl hu _ _ hrun (J.ext<|BM _ _)<|h _ _ (BM _ _) (by simp) ?_;have hn:=Hj (e:=e) (w:=w) hE (us:=[u]) (xs:=[y]) (F:=F++[]) (cur:=#[u]) ⟨F,[],rfl,h1,rfl⟩ (by simp[maxLen]) rfl (by simp);refine⟨_,hn,?_,fun c hc=>?_⟩;rw[List.append_nil,List.nodup_cons];exact⟨fun hm=>by have:=hE.lt h1 _ hm;omega,h2⟩;have hlt:=(Dx hE).lt hn c hc;refine⟨?_,hlt⟩;rcases ze.1 hc with rfl|hc;exact hB;exact (h3 c (by simpa using hc)).1
theorem VY {x y:Operand} {v a u:Value} {xs:List (List Int)} {r:List Int} {S:List Nat} {B' U':Nat} (ht:P.underlying t = some (.slice e)) (hi:TI P e 1 z b) (hz:z.cells = #[z]) (hx:Bs N ρ x = FX v) (hy:Bs N ρ y = a)
  (hv:RN S (Bg (Bg rI)) w.heap v xs) (ha:Fr (Bz rV e) B' U' w.heap a [u]) (hr:RN S (Bg rI) w.heap u r) (hS:∀ c∈S,c < w.heap.size) (hbytes:(xs.length + 1) * b≤140737488355328) (hmx:xs.length + 1≤maxLen)
  (hu:Up ops N ρ ⟨some d,.call ⟨.builtin .append,#[x,y],#[t,t]⟩,ty,pos,aft,g⟩)
  (h:∀ v1 w1,_root_.Go.Proofs.YtbcopolhaljhhaaGreat.AK w w1→RN S (Bg (Bg rI)) w1.heap v1 (xs++[r])→E6 v1→LW P ops w0 Q os ks (mk N (Cs ρ d v1)) w1) :
  LW P ops w0 Q (⟨some d,.call ⟨.builtin .append,#[x,y],#[t,t]⟩,ty,pos,aft,g⟩ :: os) (3 :: ks) (mk N ρ) w:=by
 obtain ⟨G,g1',g2',g3'⟩:=ha;obtain ⟨K,k1,k2⟩:=hv;obtain ⟨R,r1,r2⟩:=hr;obtain ⟨i,h1,h2,h3,h4⟩:=hi.get;subst h4;have hone:=g1.one r1;rcases g1' with ⟨_,hc,_⟩ | ⟨asq,ga,capa,cura,Fa,helsa,hav,hga,qa1,qa2,qa3,qa4,rfl⟩;cases hc
 ·obtain ⟨hq,hFa⟩:=Hl helsa;subst hq;subst hav;have hnews:∀ j q,[u][j]? = some q→w.cell? ((⟨ga,0,none⟩:Addr).add j) = some q:=by
   intro j q hj;rw [Gi,BF];simp only [C8,hga];rw [← qa4,List.getElem?_take] at hj;split at hj;simpa using hj;cases hj
  have made:∀ (w1:World) (ous:List Value) (K0:List Nat) (rest:Nat),w1.heap = w.heap→w1.os = w.os→w1.tape = w.tape→w1.output = w.output→els (Bg rI) w.heap ous xs K0→(∀ c∈K0,c∈K)→xs.length + 1 + rest≤maxLen →
    _root_.Go.Proofs.YtbcopolhaljhhaaGreat.AK w (w1.alloc (.cells (ous.toArray++[u].toArray++Builtin.zeroCells z.cells rest) e))∧RN S (Bg (Bg rI)) (w1.alloc (.cells (ous.toArray++[u].toArray++Builtin.zeroCells z.cells rest) e)).heap (.slice (some ⟨w.heap.size,0,none⟩) (xs.length + 1) (xs.length + 1 + rest)) (xs++[r]):=by
   intro w1 ous K0 rest hh ho htp hop hou hsub hmax;have hE:_root_.Go.Proofs.YtbcopolhaljhhaaGreat.AK w (w1.alloc (.cells (ous.toArray++[u].toArray++Builtin.zeroCells z.cells rest) e)):=by
    refine ⟨ho,htp,hop,?_,fun k hk=>?_⟩;show w.heap.size≤(w1.heap.push _).size;rw [hh]; simp;have:=Below.heap_alloc w1 (.cells (ous.toArray++[u].toArray++Builtin.zeroCells z.cells rest) e) k (by rw [hh]; exact hk);rw [this,hh]
   refine ⟨hE,w.heap.size :: (K0++R),.inr ⟨ous++[u],w.heap.size,0,xs.length + 1 + rest,(ous.toArray++[u].toArray++Builtin.zeroCells z.cells rest),e,(0,0),K0++R,?_,by simp,?_,?_,by simp; omega,rfl⟩,?_⟩;refine els.stable g1 (hou.append (show els (Bg rI) w.heap [u] [r] R from ⟨R,[],by simp,r1,rfl⟩)) fun c hc=>hE.heap ?_;exact (hou.append (show els (Bg rI) w.heap [u] [r] R from ⟨R,[],by simp,r1,rfl⟩)).lt g1 c hc;have:=heap_alloc_new w1 (.cells (ous.toArray++[u].toArray++Builtin.zeroCells z.cells rest) e);rw [hh] at this; exact this;have hl:=hou.length;simp only [Array.toList_append,List.drop_zero];rw [show (xs++[r]).length = (ous++[u]).length from by simp [hl]];exact List.take_left
   intro c hc hm;rcases ze.1 hc with rfl | hc;have:=hS _ hm; omega;rcases zi.1 hc with hc | hc;exact k2 c (hsub c hc) hm;exact r2 c hc hm
  have hone1:[u].length = [u].length * i.size:=by rw [h3,Nat.mul_one]
  rcases k1 with ⟨a0,cap0,rfl,rfl,rfl⟩ | ⟨ous,gv,off,cap,cur,e',fr,K',hels,rfl,hg,hw,_,rfl⟩
  ·-- nothing so far
   cases a0 with
   | none =>
    have hrr:=run_append_nil (P:=P) w t ty e i z ht h1 h2 ⟨ga,0,none⟩ 1 capa [u] hone1 hnews (by decide) (by decide) (by simp at hbytes; omega);have hge:=grownCap_ge w 1 0 e;have hgm:=grownCap_le_maxLen w 1 0 e (by simpa using hmx);obtain ⟨q1,q2⟩:=made w.drew [] [] (grownCap w 1 0 e - 1) rfl rfl rfl rfl rfl (fun c hc=>by cases hc) (by simp; omega);refine J2 rfl hu _ _ (by simp only [execOp,resolve,invoke,builtin,zc,zf,zh,Sem.run_bind,Sem.run_pure,Result.andThen_ok,hx,hy,FX]; rw [show [u].length = 1 from rfl,hrr]; rfl) (J.ext (by simpa using q1))<|h _ _ ?_ ?_ ?_;simpa using q1;have ea:(([]:List (List Int)).length + 1 + (grownCap w 1 0 e - 1)) = grownCap w 1 0 e:=by simp; omega
    rw [ea] at q2;simpa using q2;exact hge
   | some a1 =>
    have hrr:=run_append_grow (P:=P) w t ty e i z ht h1 h2 a1 0 0 [] (by rw [h3]; rfl) (by intro j q hj; cases hj) ⟨ga,0,none⟩ 1 capa [u] hone1 hnews zO (by decide)<|growslice_fits zO (by simpa using hbytes);have hge:=grownCap_ge w (0 + 1) 0 e;have hgm:=grownCap_le_maxLen w (0 + 1) 0 e (by simpa using hmx);obtain ⟨q1,q2⟩:=made w.drew [] [] (grownCap w (0 + 1) 0 e - (0 + 1)) rfl rfl rfl rfl rfl (fun c hc=>by cases hc) (by show 0 + 1 + (grownCap w (0 + 1) 0 e - (0 + 1))≤maxLen; omega);refine J2 rfl hu _ _ (by simp only [execOp,resolve,invoke,builtin,zc,zf,zh,Sem.run_bind,Sem.run_pure,Result.andThen_ok,hx,hy,FX]; rw [show [u].length = 1 from rfl,hrr]; rfl) (J.ext (by simpa using q1))<|h _ _ q1 ?_ ?_;rotate_left;exact hge;have ea:(([]:List (List Int)).length + 1 + (grownCap w (0 + 1) 0 e - (0 + 1))) = grownCap w (0 + 1) 0 e:=by show 0 + 1 + (grownCap w (0 + 1) 0 e - (0 + 1)) = _; omega
    rw [ea] at q2;simpa using q2
  ·have holds:∀ j q,ous[j]? = some q→w.cell? ((⟨gv,off,none⟩:Addr).add j) = some q:=by
    intro j q hj;rw [Gi,BF];simp only [C8,hg];rw [← hw,List.getElem?_take] at hj;split at hj;rw [List.getElem?_drop] at hj; simpa using hj;cases hj
   have hrr:=run_append_grow (P:=P) w t ty e i z ht h1 h2 ⟨gv,off,none⟩ xs.length xs.length ous (by rw [h3,hels.length]; omega) holds ⟨ga,0,none⟩ 1 capa [u] hone1 hnews zO (by simp only [maxLen] at hmx; omega)<|growslice_fits zO hbytes;have hge:=grownCap_ge w (xs.length + 1) xs.length e;have hgm:=grownCap_le_maxLen w (xs.length + 1) xs.length e hmx;obtain ⟨q1,q2⟩:=made w.drew ous K' (grownCap w (xs.length + 1) xs.length e - (xs.length + 1)) rfl rfl rfl rfl hels (fun c hc=>z3 _ hc) zO;refine J2 rfl hu _ _ (by simp only [execOp,resolve,invoke,builtin,zc,zf,zh,Sem.run_bind,Sem.run_pure,Result.andThen_ok,hx,hy,FX]; rw [show [u].length = 1 from rfl,hrr]; rfl) (J.ext (by simpa using q1))<|h _ _ q1 ?_ ?_;rotate_left;exact hge;have ea:(xs.length + 1 + (grownCap w (xs.length + 1) xs.length e - (xs.length + 1))) = grownCap w (xs.length + 1) xs.length e:=by omega
   rw [ea] at q2;exact q2
end
end Jx
end
end Go.Proofs.YtbcopolhaljhhaaGreat
