/- FwA, FwB, FwC, FwD, FwE, FwF, FwG, FwH, FwK, FwM, FwP, FwQ, FwI, FwO, FwR, FwS, FwT, FwU, FwV, FwW, FwX, Ig, Id, Ih, Ij, Is, It, Ik, FwY: texts of this claim, joined; what the claim does not come to is left out. -/
import Derived.Test.YtlbefjfhfodnlaaGreatDoorProg
import Derived.Still
import Derived.Below
import Derived.WalkKit
import Derived.IntWalk
import Derived.Laws.CopyRow
import Derived.ProofKit
import Derived.Carry
import Derived.Deep.Matrix
import Derived.WideKeyEntry
import Derived.Maps.OwnSet
set_option linter.unusedVariables false
set_option linter.unusedSimpArgs false
namespace Go.Proofs.YtlbefjfhfodnlaaGreatDoor
open Go Go.RowKit
def Ext (w w':World):Prop:=Below w.heap.size w w'
theorem Ext.refl (w:World):Ext w w:=Below.refl _ _
theorem Ext.trans {a b c:World} (h:Ext a b) (k:Ext b c):Ext a c:=Below.trans h (k.mono h.size)
section
variable {P:Program} {ops:Array Oper} {md:Region.Mode}
def YR (P:Program) (r:Result Next) (w:World) (v:Value):Prop :=
  r = .ok (.value v) w∨(r = .ok .skip w∧v = undef)∨∃ f args,r = .ok (.enter f args) w∧Calls P f args w (fun e w'=>e = .returned v∧w' = w)
def YA (P:Program) (o:Oper) (a:Act) (w:World) (v:Value):Prop:=YR P ((execOp a.eval o).run P w) w v
def endFrame (P:Program):Frame:={ fn:=P.funcs.size,tmps:=#[undef],todo:=[.inRegion #[⟨some 0,.move (.tmp 0),0,"",#[],none⟩] [0]],defers:=[],mode:=.returning,kind:=.report }
theorem endFrame_step (P:Program) (v:Value) (w:World):∃ o,step P (lone ((endFrame P).finish v) [] w) = .ended o w:=by
  have hf:P.funcs[P.funcs.size]? = none:=by simp
  refine ⟨.stuck "report: Error or String returned no string" "",step_lone_ended ?_⟩
  simp [stepG,unwind,doReturn,endFrame,Frame.finish]
theorem runN_next_end {P:Program} {n k:Nat} {m x y:Machine} {o:Outcome} {w:World} (hx:runN P n m = .next x) (hy:runN P (n + k) m = .next y) (he:step P x = .ended o w):x = y:=by
  rw [runN_add,hx] at hy
  cases k with
  | zero=>simp only [runN] at hy; injection hy
  | succ k=>simp only [runN,he] at hy; cases hy
theorem calls_unique {P:Program} {f:FuncId} {args:Array Value} {w:World} {v u:Value} (h:Calls P f args w (fun e w'=>e = .returned v∧w' = w)) (k:Calls P f args w (fun e w'=>e = .returned u∧w' = w)):v = u:=by
  have go:∀ {x:Value},Calls P f args w (fun e w'=>e = .returned x∧w' = w)→Steps P (lone (Frame.enter P f args .normal) [endFrame P] w) (lone ((endFrame P).finish x) [] w):=by
    intro x hx
    obtain ⟨e,w',fr,⟨rfl,rfl⟩,hs,_,hl⟩:=hx [endFrame P]
    exact Steps.trans hs (Steps.one (step_leave_returned hl))
  obtain ⟨n,hn⟩:=go h
  obtain ⟨m,hm⟩:=go k
  obtain ⟨o1,e1⟩:=endFrame_step P v w
  obtain ⟨o2,e2⟩:=endFrame_step P u w
  have he:lone ((endFrame P).finish v) [] w = lone ((endFrame P).finish u) [] w:=by
    rcases Nat.le_total n m with hle | hle
    · obtain ⟨k,rfl⟩:=Nat.le.dest hle
      exact runN_next_end hn hm e1
    · obtain ⟨k,rfl⟩:=Nat.le.dest hle
      exact (runN_next_end hm hn e2).symm
  simpa [lone,endFrame,Frame.finish] using he
theorem YA.unique {o:Oper} {a:Act} {w:World} {v u:Value} (h:YA P o a w v) (k:YA P o a w u):v = u:=by
  unfold YA at h k
  rcases h with h | ⟨h,rfl⟩ | ⟨f,args,h,hc⟩ <;> rcases k with k | ⟨k,rfl⟩ | ⟨f',args',k,kc⟩ <;> rw [h] at k
  · injection k with k _; injection k
  · injection k with k _; cases k
  · injection k with k _; cases k
  · injection k with k _; cases k
  · injection k with k _; cases k
  · injection k with k _; cases k
  · injection k with k _; cases k
  · injection k with k _
    injection k with k1 k2
    subst k1; subst k2
    exact calls_unique hc kc
def NQ (Q:Act→World→Prop):Exit→Act→World→Prop
  | .normal,a,w=>Q a w
  | _,_,_=>False
def Cl (w0 w:World):Nat→World→Prop
  | 0,_=>True
  | 1,w'=>Ext w0 w'
  | _,w'=>Ext w w'
def OneOp (P:Program) (w0:World) (o:Oper) (k:Nat) (a:Act) (w:World) (K:Act→World→Prop):Prop :=
  if k≤2 then ∃ v,(∀ w',Cl w0 w k w'→YA P o a w' v)∧K (a.put o.dst v) w
  else if k = 3 then o.wp P a w (fun a' w'=>Ext w w'∧K a' w') (NQ fun _ _=>False)
  else o.wp P a w K (NQ fun _ _=>False)
def LW (P:Program) (ops:Array Oper) (w0:World) (Q:Act→World→Prop):List Oper→List Nat→Act→World→Prop
  | [],_,a,w=>Q a w
  | _ :: _,[],_,_=>False
  | o :: os,k :: ks,a,w =>
    if Region.wanted o (yielded ops a.tmps) = true then OneOp P w0 o k a w (LW P ops w0 Q os ks) else LW P ops w0 Q os ks (a.put o.dst undef) w
theorem OneOp.mono {w0:World} {o:Oper} {k:Nat} {a:Act} {w:World} {K K':Act→World→Prop} (h:∀ a w,K a w→K' a w)
    (hh:OneOp P w0 o k a w K):OneOp P w0 o k a w K':=by
  unfold OneOp at *
  split
  · rename_i hk
    rw [if_pos hk] at hh
    obtain ⟨v,h1,h2⟩:=hh
    exact ⟨v,h1,h _ _ h2⟩
  · rename_i hk
    rw [if_neg hk] at hh
    split
    · rename_i h3
      rw [if_pos h3] at hh
      exact Oper.wp_mono (fun a w hx=>⟨hx.1,h _ _ hx.2⟩) hh
    · rename_i h3
      rw [if_neg h3] at hh
      exact Oper.wp_mono h hh
theorem wp_some {o:Oper} {a:Act} {w:World} {K:Act→World→Prop} (h:o.wp P a w K (NQ fun _ _=>False)):∃ v w',K (a.put o.dst v) w'∨∃ d,K ({ a with defers:=d :: a.defers }.put o.dst v) w':=by
  unfold Oper.wp at h
  generalize (execOp a.eval o).run P w = r at h
  cases r with
  | ok n w' =>
    cases n <;> simp only [Oper.upon] at h
    case value v=>exact ⟨v,w',.inl h⟩
    case skip=>exact ⟨undef,w',.inl h⟩
    case defer d=>exact ⟨undef,w',.inr ⟨d,h⟩⟩
    case enter f args =>
      obtain ⟨e,w1,fr,hR,_⟩:=h []
      cases e with
      | returned v=>exact ⟨v,w1,.inl hR⟩
      | panicked c=>exact hR.elim
      | outgrown=>obtain ⟨a1,w2,hf⟩:=hR; exact hf.elim
    case row row args =>
      obtain ⟨v,w1,hR,_⟩:=h default []
      exact ⟨v,w1,.inl hR⟩
  | halt x w'=>cases x <;> simp only [Oper.upon] at h; exact h.elim
theorem wp_apart {o:Oper} (hs:∀ cs b,o.op≠.select cs b) {a:Act} {d:Option Tmp} {v:Value} {w:World} {K:Act→World→Prop} {Q:Act→World→Prop}
    (h1:∀ x,d = some x→x∉o.looksAt ops) (h2:∀ x,d = some x→o.dst≠some x)
    (h:o.wp P (a.put d v) w K (NQ Q)):o.wp P a w (fun a' w'=>K (a'.put d v) w') (NQ fun _ _=>False):=by
  unfold Oper.wp at *
  rw [execOp_put (ops:=ops) o hs a d v h1] at h
  generalize (execOp a.eval o).run P w = r at *
  have hc:∀ u,(a.put d v).put o.dst u = (a.put o.dst u).put d v:=fun u=>Act.put_comm a v u h2
  cases r with
  | ok n w' =>
    cases n <;> simp only [Oper.upon] at h ⊢
    case value u=>rw [← hc]; exact h
    case skip=>rw [← hc]; exact h
    case defer dd =>
      rw [Act.put_defers] at h
      have:=Act.put_comm ({ a with defers:=dd :: a.defers }:Act) v undef h2
      rw [← this]; exact h
    case enter f args =>
      refine Calls.mono h (fun e w'' he=>?_)
      cases e with
      | returned u=>show K _ _; rw [← hc]; exact he
      | panicked c=>exact he
      | outgrown=>obtain ⟨_,_,hf⟩:=he; exact hf.elim
    case row row args=>exact Rows.mono h (fun u w'' he=>by show K _ _; rw [← hc]; exact he)
  | halt x w'=>cases x <;> simp only [Oper.upon] at h ⊢; exact h
theorem wp_unapart {o:Oper} (hs:∀ cs b,o.op≠.select cs b) {a:Act} {d:Option Tmp} {v:Value} {w:World} {K:Act→World→Prop}
    (h1:∀ x,d = some x→x∉o.looksAt ops) (h2:∀ x,d = some x→o.dst≠some x)
    (h:o.wp P a w (fun a' w'=>K (a'.put d v) w') (NQ fun _ _=>False)):o.wp P (a.put d v) w K (NQ fun _ _=>False):=by
  unfold Oper.wp at *
  rw [execOp_put (ops:=ops) o hs a d v h1]
  generalize (execOp a.eval o).run P w = r at *
  have hc:∀ u,(a.put d v).put o.dst u = (a.put o.dst u).put d v:=fun u=>Act.put_comm a v u h2
  cases r with
  | ok n w' =>
    cases n <;> simp only [Oper.upon] at h ⊢
    case value u=>rw [hc]; exact h
    case skip=>rw [hc]; exact h
    case defer dd =>
      rw [Act.put_defers]
      have:=Act.put_comm ({ a with defers:=dd :: a.defers }:Act) v undef h2
      rw [this]; exact h
    case enter f args =>
      refine Calls.mono h (fun e w'' he=>?_)
      cases e with
      | returned u=>show K _ _; rw [hc]; exact he
      | panicked c=>exact he
      | outgrown=>obtain ⟨_,_,hf⟩:=he; exact hf.elim
    case row row args=>exact Rows.mono h (fun u w'' he=>by show K _ _; rw [hc]; exact he)
  | halt x w'=>cases x <;> simp only [Oper.upon] at h ⊢; exact h
theorem YA.apart {o:Oper} (hs:∀ cs b,o.op≠.select cs b) {a:Act} {d:Option Tmp} {v u:Value} {w:World}
    (h1:∀ x,d = some x→x∉o.looksAt ops):YA P o (a.put d v) w u↔YA P o a w u:=by
  unfold YA
  rw [execOp_put (ops:=ops) o hs a d v h1]
variable (P ops) in
def LI (kd:Nat→Nat) (w0:World) (Q:Act→World→Prop):List Nat→Act→World→Prop
  | [],a,w=>Q a w
  | i :: l,a,w =>
    match ops[i]? with
    | none=>False
    | some o=>if Region.wanted o (yielded ops a.tmps) = true then OneOp P w0 o (kd i) a w (LI kd w0 Q l) else LI kd w0 Q l (a.put o.dst undef) w
def okPair (ki kj:Nat):Bool :=
  (ki≤2 && kj≤2) || (ki≤2 && kj == 3) || (ki == 0 && kj == 4) || (ki == 3 && kj≤1) || (ki == 4 && kj == 0)
def Free (ops:Array Oper) (kd:Nat→Nat) (bs:Nat→Nat):Prop :=
  ∀ i j oi oj,i < j→ops[i]? = some oi→ops[j]? = some oj→(bs j).testBit i = true∨(oi.apart ops oj = true∧okPair (kd i) (kd j) = true)
def Sound (md:Region.Mode) (ops:Array Oper) (bs:Nat→Nat):Prop :=
  ∀ j oj,ops[j]? = some oj→∀ i,(bs j).testBit i = true→∃ e∈oj.after,Region.binds md e = true∧(i = e.on∨(bs e.on).testBit i = true)
def Inv1 (kd:Nat→Nat) (w0 w:World) (l:List Nat):Prop:=(∃ j∈l,kd j = 1)→Ext w0 w
def No14 (kd:Nat→Nat) (l:List Nat):Prop:=∀ l1 i l2,l = l1++i :: l2→4≤kd i→∀ j∈l2,kd j≠1
theorem No14.erase {kd:Nat→Nat} {l1 l2:List Nat} {i:Nat} (h:No14 kd (l1++i :: l2)):No14 kd (l1++l2):=by
  intro m1 j m2 e hj x hx
  by_cases hlt:m1.length < l1.length
  · have e1:l1 = m1++j :: (m2.take (l1.length - m1.length - 1)):=by
      have:=congrArg (List.take l1.length) e
      rw [List.take_left,List.take_append,List.take_of_length_le (by omega)] at this
      rw [this]
      congr 1
      obtain ⟨n,hn⟩:∃ n,l1.length - m1.length = n + 1:=⟨l1.length - m1.length - 1,by omega⟩
      rw [hn]; simp
    have e2:l2 = m2.drop (l1.length - m1.length - 1):=by
      have:=congrArg (List.drop l1.length) e
      rw [List.drop_left,List.drop_append] at this
      rw [this,List.drop_of_length_le (by omega),List.nil_append]
      obtain ⟨n,hn⟩:∃ n,l1.length - m1.length = n + 1:=⟨l1.length - m1.length - 1,by omega⟩
      rw [hn]; simp
    refine h m1 j (m2.take (l1.length - m1.length - 1)++i :: l2) (by rw [e1]; simp [List.append_assoc]) hj x ?_
    have hx':x∈m2.take (l1.length - m1.length - 1)++m2.drop (l1.length - m1.length - 1):=by rw [List.take_append_drop]; exact hx
    rw [← e2] at hx'
    simp only [List.mem_append,List.mem_cons] at hx' ⊢
    rcases hx' with hx' | hx'
    · exact .inl hx'
    · exact .inr (.inr hx')
  · have e2:l2 = m1.drop l1.length++j :: m2:=by
      have:=congrArg (List.drop l1.length) e
      rw [List.drop_left,List.drop_append_of_le_length (by omega)] at this
      exact this
    exact h (l1++i :: m1.drop l1.length) j m2 (by rw [e2]; simp) hj x hx
def Yv (P:Program) (ops:Array Oper) (w0:World) (k:Nat) (o:Oper) (a:Act) (w:World) (v:Value):Prop :=
  (Region.wanted o (yielded ops a.tmps) = true∧∀ w',Cl w0 w k w'→YA P o a w' v)∨(Region.wanted o (yielded ops a.tmps) = false∧v = undef)
theorem Cl.self {w0 w:World} {k:Nat} (h:k = 1→Ext w0 w):Cl w0 w k w:=by
  match k,h with
  | 0,_=>exact trivial
  | 1,h=>exact h rfl
  | _ + 2,_=>exact Ext.refl w
theorem Yv.unique {w0 w:World} {k:Nat} {o:Oper} {a:Act} {v u:Value} (hk:k = 1→Ext w0 w) (h:Yv P ops w0 k o a w v) (h':Yv P ops w0 k o a w u):v = u:=by
  rcases h with ⟨h1,h2⟩ | ⟨h1,h2⟩ <;> rcases h' with ⟨g1,g2⟩ | ⟨g1,g2⟩
  · exact (h2 w (Cl.self hk)).unique (g2 w (Cl.self hk))
  · rw [h1] at g1; cases g1
  · rw [h1] at g1; cases g1
  · rw [h2,g2]
theorem Yv.apart {w0 w:World} {k:Nat} {o:Oper} (hs:∀ cs b,o.op≠.select cs b) {a:Act} {d:Option Tmp} {u v:Value}
    (h1:∀ x,d = some x→x∉o.looksAt ops):Yv P ops w0 k o (a.put d u) w v↔Yv P ops w0 k o a w v:=by
  unfold Yv
  rw [wanted_put (ops:=ops) o a d u h1]
  simp only [YA.apart (ops:=ops) (P:=P) hs h1]
theorem Yv.defers {w0 w:World} {k:Nat} {o:Oper} {a:Act} {l:List Deferred} {v:Value}:Yv P ops w0 k o { a with defers:=l } w v↔Yv P ops w0 k o a w v:=by
  have he:Act.eval { a with defers:=l } = Act.eval a:=funext fun x=>by cases x <;> rfl
  unfold Yv YA
  rw [he]
def Shape (a:Act) (d:Option Tmp) (a':Act):Prop:=∃ u,a' = a.put d u∨∃ x,a' = ({ a with defers:=x :: a.defers }:Act).put d u
theorem wp_shape {o:Oper} {a:Act} {w:World} {K:Act→World→Prop} {Q:Exit→Act→World→Prop} (h:o.wp P a w K Q) :
    o.wp P a w (fun a' w'=>K a' w'∧Shape a o.dst a') Q:=by
  unfold Oper.wp at *
  generalize (execOp a.eval o).run P w = r at *
  cases r with
  | ok n w' =>
    cases n <;> simp only [Oper.upon] at h ⊢
    case value u=>exact ⟨h,u,.inl rfl⟩
    case skip=>exact ⟨h,undef,.inl rfl⟩
    case defer dd=>exact ⟨h,undef,.inr ⟨dd,rfl⟩⟩
    case enter f args =>
      refine Calls.mono h (fun e w'' he=>?_)
      cases e with
      | returned u=>exact ⟨he,u,.inl rfl⟩
      | panicked c=>exact he
      | outgrown=>exact he
    case row row args=>exact Rows.mono h (fun u w'' he=>⟨he,u,.inl rfl⟩)
  | halt x w'=>cases x <;> simp only [Oper.upon] at h ⊢; exact h
theorem Yv.shape {w0 w:World} {k:Nat} {o:Oper} (hs:∀ cs b,o.op≠.select cs b) {a a':Act} {d:Option Tmp} {v:Value}
    (h1:∀ x,d = some x→x∉o.looksAt ops) (h:Shape a d a'):Yv P ops w0 k o a' w v↔Yv P ops w0 k o a w v:=by
  obtain ⟨u,rfl | ⟨x,rfl⟩⟩:=h
  · exact Yv.apart hs h1
  · rw [Yv.apart hs h1]; exact Yv.defers
theorem wanted_shape {o:Oper} {a a':Act} {d:Option Tmp} (h1:∀ x,d = some x→x∉o.looksAt ops) (h:Shape a d a') :
    Region.wanted o (yielded ops a'.tmps) = Region.wanted o (yielded ops a.tmps):=by
  obtain ⟨u,rfl | ⟨x,rfl⟩⟩:=h
  · exact wanted_put o a d u h1
  · rw [wanted_put o _ d u h1]
section main
variable {kd bs:Nat→Nat} {w0:World} {Q:Act→World→Prop}
theorem ok3 {ki kj:Nat} (h:okPair ki kj = true) (hk:ki = 3):kj≤1:=by simp [okPair] at h; omega
theorem ok4 {ki kj:Nat} (h:okPair ki kj = true) (hk:4≤ki):kj = 0:=by simp [okPair] at h; omega
theorem okj {ki kj:Nat} (h:okPair ki kj = true) (hk:3≤kj):ki≤2∧(4≤kj→ki = 0):=by simp [okPair] at h; omega
theorem takeQ (hsel:∀ (j:Nat) (o:Oper) cs b,ops[j]? = some o→o.op≠.select cs b) {j:Nat} {oj:Oper} (hj:ops[j]? = some oj) (hk:kd j≤2) :
    ∀ (l1 l2:List Nat) (a:Act) (w:World),(∀ i∈l1,∀ oi,ops[i]? = some oi→oi.apart ops oj = true∧okPair (kd i) (kd j) = true)→(kd j = 1→Ext w0 w) →
      LI P ops kd w0 Q (l1++j :: l2) a w→∃ v,Yv P ops w0 (kd j) oj a w v∧LI P ops kd w0 Q (l1++l2) (a.put oj.dst v) w
  | [],l2,a,w,_,_,h=>by
    simp only [List.nil_append,LI,hj] at h ⊢
    split at h
    · rename_i hw
      unfold OneOp at h
      rw [if_pos hk] at h
      obtain ⟨v,h1,h2⟩:=h
      exact ⟨v,.inl ⟨hw,h1⟩,h2⟩
    · rename_i hw
      exact ⟨undef,.inr ⟨by simpa using hw,rfl⟩,h⟩
  | i :: l1,l2,a,w,hl,hx,h=>by
    have hi:=hl i (List.mem_cons_self ..)
    have hl':∀ x∈l1,∀ ox,ops[x]? = some ox→ox.apart ops oj = true∧okPair (kd x) (kd j) = true:=fun x hx=>hl x (List.mem_cons_of_mem _ hx)
    simp only [List.cons_append,LI] at h ⊢
    cases hoi:ops[i]? with
    | none=>rw [hoi] at h; exact h.elim
    | some oi =>
      rw [hoi] at h
      simp only at h ⊢
      obtain ⟨hap,hok⟩:=hi oi hoi
      obtain ⟨p1,p2,p3⟩:=Oper.apart_spec hap
      have p2':∀ d,oj.dst = some d→oi.dst≠some d:=fun d hd he=>p2 d he hd
      have si:=fun cs b=>hsel i oi cs b hoi
      have sj:=fun cs b=>hsel j oj cs b hj
      by_cases hw:Region.wanted oi (yielded ops a.tmps) = true
      · rw [if_pos hw] at h
        unfold OneOp at h
        by_cases hki:kd i≤2
        · rw [if_pos hki] at h
          obtain ⟨vi,hy,h⟩:=h
          obtain ⟨v,h1,h2⟩:=takeQ hsel hj hk l1 l2 (a.put oi.dst vi) w hl' hx h
          refine ⟨v,(Yv.apart sj p1).1 h1,?_⟩
          rw [wanted_put oi a oj.dst v p3,if_pos hw]
          unfold OneOp
          rw [if_pos hki]
          refine ⟨vi,fun w' hc=>(YA.apart (ops:=ops) si p3).2 (hy w' hc),?_⟩
          rw [Act.put_comm a v vi p2']
          exact h2
        · rw [if_neg hki] at h
          have gen:∀ (G:World→Prop),(∀ w',G w'→kd j = 1→Ext w0 w')→(kd j = 2→False) →
              oi.wp P a w (fun a' w'=>G w'∧LI P ops kd w0 Q (l1++j :: l2) a' w') (NQ fun _ _=>False) →
              ∃ v,Yv P ops w0 (kd j) oj a w v∧oi.wp P (a.put oj.dst v) w (fun a' w'=>G w'∧LI P ops kd w0 Q (l1++l2) a' w') (NQ fun _ _=>False):=by
            intro G hG hn2 hh
            have hcl:∀ w1 w2,Cl w0 w1 (kd j) w2→Cl w0 w (kd j) w2:=by
              intro w1 w2 hc
              match hkj:kd j,hk,hn2 with
              | 0,_,_=>trivial
              | 1,_,_=>rw [hkj] at hc; exact hc
              | 2,_,hn=>exact (hn rfl).elim
              | _ + 3,hle,_=>omega
            have hcl':∀ w1 w2,Cl w0 w (kd j) w2→Cl w0 w1 (kd j) w2:=by
              intro w1 w2 hc
              match hkj:kd j,hk,hn2 with
              | 0,_,_=>trivial
              | 1,_,_=>rw [hkj] at hc; exact hc
              | 2,_,hn=>exact (hn rfl).elim
              | _ + 3,hle,_=>omega
            have hs:=wp_shape hh
            have step:∀ a' w',((G w'∧LI P ops kd w0 Q (l1++j :: l2) a' w')∧Shape a oi.dst a') →
                ∃ v,Yv P ops w0 (kd j) oj a w v∧LI P ops kd w0 Q (l1++l2) (a'.put oj.dst v) w':=by
              rintro a' w' ⟨⟨hg,hL⟩,hsh⟩
              obtain ⟨v,h1,h2⟩:=takeQ hsel hj hk l1 l2 a' w' hl' (hG w' hg) hL
              have h1':=(Yv.shape sj p1 hsh).1 h1
              refine ⟨v,?_,h2⟩
              rcases h1' with ⟨q1,q2⟩ | ⟨q1,q2⟩
              · exact .inl ⟨q1,fun w2 hc=>q2 w2 (hcl' w' w2 hc)⟩
              · exact .inr ⟨q1,q2⟩
            obtain ⟨v,hv⟩:∃ v,Yv P ops w0 (kd j) oj a w v:=by
              obtain ⟨u,w',hK | ⟨d,hK⟩⟩:=wp_some hs
              · obtain ⟨v,h1,_⟩:=step _ _ hK; exact ⟨v,h1⟩
              · obtain ⟨v,h1,_⟩:=step _ _ hK; exact ⟨v,h1⟩
            refine ⟨v,hv,wp_unapart (ops:=ops) si p3 p2' ?_⟩
            refine Oper.wp_mono (fun a' w' hK=>?_) hs
            obtain ⟨v',h1,h2⟩:=step a' w' hK
            have:v' = v:=h1.unique hx hv
            subst this
            exact ⟨hK.1.1,h2⟩
          by_cases h3:kd i = 3
          · rw [if_pos h3] at h
            have hj1:=ok3 hok h3
            obtain ⟨v,hv,hwp⟩:=gen (fun w'=>Ext w w') (fun w' hg h1=>(hx h1).trans hg) (fun h2=>by omega) h
            refine ⟨v,hv,?_⟩
            rw [wanted_put oi a oj.dst v p3,if_pos hw]
            unfold OneOp
            rw [if_neg hki,if_pos h3]
            exact hwp
          · rw [if_neg h3] at h
            have hj0:=ok4 hok (by omega)
            obtain ⟨v,hv,hwp⟩:=gen (fun _=>True) (fun w' _ h1=>by omega) (fun h2=>by omega) (Oper.wp_mono (fun a w hh=>⟨trivial,hh⟩) h)
            refine ⟨v,hv,?_⟩
            rw [wanted_put oi a oj.dst v p3,if_pos hw]
            unfold OneOp
            rw [if_neg hki,if_neg h3]
            exact Oper.wp_mono (fun a w hh=>hh.2) hwp
      · rw [if_neg hw] at h
        obtain ⟨v,h1,h2⟩:=takeQ hsel hj hk l1 l2 (a.put oi.dst undef) w hl' hx h
        refine ⟨v,(Yv.apart sj p1).1 h1,?_⟩
        rw [wanted_put oi a oj.dst v p3,if_neg hw,Act.put_comm a v undef p2']
        exact h2
theorem takeR (hsel:∀ (j:Nat) (o:Oper) cs b,ops[j]? = some o→o.op≠.select cs b) {j:Nat} {oj:Oper} (hj:ops[j]? = some oj) (hk:3≤kd j) :
    ∀ (l1 l2:List Nat) (a:Act) (w:World),(∀ i∈l1,∀ oi,ops[i]? = some oi→oi.apart ops oj = true∧okPair (kd i) (kd j) = true)→LI P ops kd w0 Q (l1++j :: l2) a w →
      (Region.wanted oj (yielded ops a.tmps) = true→oj.wp P a w (fun a' w'=>(kd j = 3→Ext w w')∧LI P ops kd w0 Q (l1++l2) a' w') (NQ fun _ _=>False)) ∧
      (Region.wanted oj (yielded ops a.tmps) = false→LI P ops kd w0 Q (l1++l2) (a.put oj.dst undef) w)
  | [],l2,a,w,_,h=>by
    simp only [List.nil_append,LI,hj] at h ⊢
    refine ⟨fun hw=>?_,fun hw=>?_⟩
    · rw [if_pos hw] at h
      unfold OneOp at h
      rw [if_neg (by omega)] at h
      split at h
      · exact Oper.wp_mono (fun _ _ hh=>⟨fun _=>hh.1,hh.2⟩) h
      · rename_i h3; exact Oper.wp_mono (fun _ _ hh=>⟨fun h'=>(h3 h').elim,hh⟩) h
    · rw [if_neg (by simp [hw])] at h; exact h
  | i :: l1,l2,a,w,hl,h=>by
    have hi:=hl i (List.mem_cons_self ..)
    have hl':∀ x∈l1,∀ ox,ops[x]? = some ox→ox.apart ops oj = true∧okPair (kd x) (kd j) = true:=fun x hx=>hl x (List.mem_cons_of_mem _ hx)
    simp only [List.cons_append,LI] at h ⊢
    cases hoi:ops[i]? with
    | none=>rw [hoi] at h; exact h.elim
    | some oi =>
      rw [hoi] at h
      simp only at h ⊢
      obtain ⟨hap,hok⟩:=hi oi hoi
      obtain ⟨p1,p2,p3⟩:=Oper.apart_spec hap
      have p2':∀ d,oj.dst = some d→oi.dst≠some d:=fun d hd he=>p2 d he hd
      have si:=fun cs b=>hsel i oi cs b hoi
      have sj:=fun cs b=>hsel j oj cs b hj
      obtain ⟨hki,hk4⟩:=okj hok hk
      by_cases hw:Region.wanted oi (yielded ops a.tmps) = true
      · rw [if_pos hw] at h
        unfold OneOp at h
        rw [if_pos hki] at h
        obtain ⟨vi,hy,h⟩:=h
        obtain ⟨g1,g2⟩:=takeR hsel hj hk l1 l2 (a.put oi.dst vi) w hl' h
        rw [wanted_put oj a oi.dst vi p1] at g1 g2
        refine ⟨fun hwj=>?_,fun hwj=>?_⟩
        · have g:=wp_apart (ops:=ops) (Q:=fun _ _=>False) sj p1 p2 (g1 hwj)
          refine Oper.wp_mono (fun a' w' hK=>?_) (wp_shape g)
          obtain ⟨⟨hE,hL⟩,hsh⟩:=hK
          refine ⟨hE,?_⟩
          rw [wanted_shape p3 hsh,if_pos hw]
          unfold OneOp
          rw [if_pos hki]
          refine ⟨vi,fun w'' hc=>?_,hL⟩
          have hya:YA P oi a w'' vi:=by
            refine hy w'' ?_
            match hki':kd i,hki,hk4 with
            | 0,_,_=>trivial
            | 1,_,_=>rw [hki'] at hc; exact hc
            | 2,_,h4=>rw [hki'] at hc; exact (hE (by have:¬ 4≤kd j:=(fun hh=>by have:=h4 hh; omega); omega)).trans hc
            | _ + 3,hle,_=>omega
          have he:∀ b,YA P oi b w'' vi↔YR P ((execOp b.eval oi).run P w'') w'' vi:=fun _=>Iff.rfl
          obtain ⟨u,rfl | ⟨x,rfl⟩⟩:=hsh
          · exact (YA.apart (ops:=ops) si p3).2 hya
          · refine (YA.apart (ops:=ops) si p3).2 ?_
            have hee:Act.eval { a with defers:=x :: a.defers } = Act.eval a:=funext fun y=>by cases y <;> rfl
            rw [he,hee,← he]; exact hya
        · rw [wanted_put oi a oj.dst undef p3,if_pos hw]
          unfold OneOp
          rw [if_pos hki]
          refine ⟨vi,fun w' hc=>(YA.apart (ops:=ops) si p3).2 (hy w' hc),?_⟩
          rw [Act.put_comm a undef vi p2']
          exact g2 hwj
      · rw [if_neg hw] at h
        obtain ⟨g1,g2⟩:=takeR hsel hj hk l1 l2 (a.put oi.dst undef) w hl' h
        rw [wanted_put oj a oi.dst undef p1] at g1 g2
        refine ⟨fun hwj=>?_,fun hwj=>?_⟩
        · have g:=wp_apart (ops:=ops) (Q:=fun _ _=>False) sj p1 p2 (g1 hwj)
          refine Oper.wp_mono (fun a' w' hK=>?_) (wp_shape g)
          obtain ⟨⟨hE,hL⟩,hsh⟩:=hK
          refine ⟨hE,?_⟩
          rw [wanted_shape p3 hsh,if_neg hw]
          exact hL
        · rw [wanted_put oi a oj.dst undef p3,if_neg hw,Act.put_comm a undef undef p2']
          exact g2 hwj
end main
end
end Go.Proofs.YtlbefjfhfodnlaaGreatDoor
namespace Go.Proofs.YtlbefjfhfodnlaaGreatDoor
open Go Go.RowKit
section
variable {P:Program} {ops:Array Oper} {md:Region.Mode} {kd bs:Nat→Nat} {w0:World} {Q:Act→World→Prop}
theorem wp_weak {o:Oper} {a:Act} {w:World} {K:Act→World→Prop} {Q':Exit→Act→World→Prop} (h:o.wp P a w K (NQ fun _ _=>False)):o.wp P a w K Q':=by
  unfold Oper.wp at *
  generalize (execOp a.eval o).run P w = r at *
  cases r with
  | ok n w' =>
    cases n <;> simp only [Oper.upon] at h ⊢ <;> try exact h
    case enter f args =>
      refine Calls.mono h (fun e w'' he=>?_)
      cases e with
      | returned u=>exact he
      | panicked c=>exact he.elim
      | outgrown=>obtain ⟨_,_,hf⟩:=he; exact hf.elim
  | halt x w'=>cases x <;> simp only [Oper.upon] at h ⊢; exact h.elim
theorem wp_of_YA {o:Oper} {a:Act} {w:World} {v:Value} {K:Act→World→Prop} {Q':Exit→Act→World→Prop} (h:YA P o a w v) (hK:K (a.put o.dst v) w):o.wp P a w K Q':=by
  unfold Oper.wp
  unfold YA at h
  rcases h with h | ⟨h,rfl⟩ | ⟨f,args,h,hc⟩ <;> rw [h]
  · exact hK
  · exact hK
  · exact Calls.mono hc fun e w' he=>by
      obtain ⟨rfl,rfl⟩:=he
      exact hK
def Closed (bs:Nat→Nat) (listed:Array Bool):Prop:=∀ i,listed.getD i false = true→∀ j,(bs i).testBit j = true→listed.getD j false = true
theorem getD_false_of_true {l:Array Bool} {i:Nat} (h:l.getD i true = false):l.getD i false = false:=by
  by_cases hi:i < l.size
  · simpa [hi] using h
  · simp [hi] at h
def PairOK (md:Region.Mode) (ops:Array Oper) (kd bs:Nat→Nat) (x y:Nat):Prop :=
  (∀ ox oy,ops[x]? = some ox→ops[y]? = some oy→(bs y).testBit x = true∨(ox.apart ops oy = true∧okPair (kd x) (kd y) = true)) ∧
  (∀ ox,ops[x]? = some ox→∀ e∈ox.after,Region.binds md e = true→e.on≠y)
section lists
variable {l1 l2:List Nat} {i:Nat} {listed:Array Bool}
theorem head_ready (hz:listed.size = ops.size) {l:List Nat} (hm:∀ x,x∈i :: l↔listed.getD x true = false) (hself:∀ x ox,ops[x]? = some ox→∀ e∈ox.after,Region.binds md e = true→e.on < x)
    (hs:∀ y∈l,∀ ox,ops[i]? = some ox→∀ e∈ox.after,Region.binds md e = true→e.on≠y):i∈Region.ready md ops listed:=by
  have hil:=(hm i).1 (List.mem_cons_self ..)
  have hlt:i < ops.size:=by
    rw [← hz]
    rcases Nat.lt_or_ge i listed.size with h' | h'
    · exact h'
    · simp [Array.getElem?_eq_none h'] at hil
  refine mem_ready.2 ⟨hil,ops[i],by simp [hlt],fun e he hb=>?_⟩
  have hlt':=hself i ops[i] (by simp [hlt]) e he hb
  have hnot:e.on∉i :: l:=by
    intro hmem
    rcases List.mem_cons.1 hmem with hh | hh
    · omega
    · exact hs _ hh ops[i] (by simp [hlt]) e he hb rfl
  have:listed.getD e.on true = true:=by
    cases hb':listed.getD e.on true with
    | true=>rfl
    | false=>exact absurd ((hm e.on).2 hb') hnot
  have hlt2:e.on < listed.size:=by omega
  simpa [hlt2] using this
theorem mem_erase (hm:∀ x,x∈l1++i :: l2↔listed.getD x true = false) (hnd:i∉l1++l2) (hsz:i < listed.size):∀ x,x∈l1++l2↔(listed.setIfInBounds i true).getD x true = false:=by
  intro x
  by_cases hxi:x = i
  · subst hxi
    constructor
    · exact fun hh=>absurd hh hnd
    · intro hh; simp [hsz] at hh
  · rw [getD_set_ne true (Ne.symm hxi),← hm x]
    simp only [List.mem_append,List.mem_cons]
    constructor
    · exact fun hh=>hh.elim .inl fun y=>.inr (.inr y)
    · exact fun hh=>hh.elim .inl fun y=>y.elim (fun z=>absurd z hxi) .inr
theorem closed_set (hc:Closed bs listed) (hbits:∀ j,(bs i).testBit j = true→listed.getD j false = true):Closed bs (listed.setIfInBounds i true):=by
  intro x hx j hj
  by_cases hxi:x = i
  · subst hxi; exact getD_set_true (hbits j hj)
  · rw [getD_set_ne false (Ne.symm hxi)] at hx; exact getD_set_true (hc x hx j hj)
theorem bits_of_ready (hS:Sound md ops bs) (hc:Closed bs listed) {oi:Oper} (hoi:ops[i]? = some oi) (hall:∀ e∈oi.after,Region.binds md e = true→listed.getD e.on false = true):∀ j,(bs i).testBit j = true→listed.getD j false = true:=by
  intro j hj
  obtain ⟨e,he,hb,hh⟩:=hS i oi hoi j hj
  have hl:=hall e he hb
  rcases hh with rfl | hh
  · exact hl
  · exact hc e.on hl j hh
theorem prefix_free {oi:Oper} (hoi:ops[i]? = some oi) (hp:∀ x∈l1,(∀ ox oy,ops[x]? = some ox→ops[i]? = some oy→(bs i).testBit x = true∨(ox.apart ops oy = true∧okPair (kd x) (kd i) = true)))
    (hm:∀ x∈l1,listed.getD x true = false) (hbits:∀ j,(bs i).testBit j = true→listed.getD j false = true):∀ x∈l1,∀ ox,ops[x]? = some ox→ox.apart ops oi = true∧okPair (kd x) (kd i) = true:=by
  intro x hx ox hox
  rcases hp x hx ox oi hox hoi with hb | hb
  · have h1:=hbits x hb
    have h2:=getD_false_of_true (hm x hx)
    rw [h1] at h2; cases h2
  · exact hb
theorem lt_of_unlisted (h:listed.getD i true = false):i < listed.size:=by
  rcases Nat.lt_or_ge i listed.size with h' | h'
  · exact h'
  · simp [Array.getElem?_eq_none h'] at h
end lists
theorem any_of_LI (hsel:∀ (j:Nat) (o:Oper) cs b,ops[j]? = some o→o.op≠.select cs b) (hS:Sound md ops bs)
    (hlex:∀ j oj,ops[j]? = some oj→∀ e∈oj.after,Region.binds md e = true→e.on < j) :
    ∀ (n:Nat) (l:List Nat) (listed:Array Bool) (a:Act) (w:World),l.length = n→l.Pairwise (PairOK md ops kd bs)→l.Nodup→listed.size = ops.size →
      (∀ i,i∈l↔listed.getD i true = false)→Closed bs listed→No14 kd l→Inv1 kd w0 w l→LI P ops kd w0 Q l a w→wpAny P md ops (NQ Q) n listed a w
  | 0,l,listed,a,w,hn,_,_,_,hm,_,_,_,h=>by
    have hl:l = []:=List.eq_nil_of_length_eq_zero hn
    subst hl
    refine ⟨?_,h⟩
    cases hr:Region.ready md ops listed with
    | nil=>rfl
    | cons x xs =>
      have:=(mem_ready.1 (by rw [hr]; exact List.mem_cons_self ..:x∈Region.ready md ops listed)).1
      exact absurd ((hm x).2 this) (by simp)
  | n + 1,l,listed,a,w,hn,hs,hd,hz,hm,hc,h14,hi1,h=>by
    refine ⟨fun h0=>?_,fun i hi=>?_⟩
    · exfalso
      match l,hn with
      | i :: l,hn =>
        have hready:=head_ready (md:=md) hz hm hlex (fun y hy ox hox=>((List.pairwise_cons.1 hs).1 y hy).2 ox hox)
        rw [h0] at hready
        cases hready
    · obtain ⟨hun,oi,hoi,hall⟩:=mem_ready.1 hi
      obtain ⟨l1,l2,rfl⟩:=List.append_of_mem ((hm i).2 hun)
      have hbits:=bits_of_ready hS hc hoi hall
      have hpi:∀ x∈l1,PairOK md ops kd bs x i:=fun x hx=>(List.pairwise_append.1 hs).2.2 x hx i (List.mem_cons_self ..)
      have hfree:=prefix_free (kd:=kd) (l1:=l1) hoi (fun x hx=>(hpi x hx).1) (fun x hx=>(hm x).1 (List.mem_append_left _ hx)) hbits
      have hsz:=lt_of_unlisted hun
      have hsub0:(l1++l2).Sublist (l1++i :: l2):=List.Sublist.append_left (List.sublist_cons_self _ _) _
      have hnd:i∉l1++l2:=by
        have h1:=List.nodup_append.1 hd
        intro hmem
        rcases List.mem_append.1 hmem with hh | hh
        · exact h1.2.2 i hh i (List.mem_cons_self ..) rfl
        · exact (List.nodup_cons.1 h1.2.1).1 hh
      have hn':(l1++l2).length = n:=by simp at hn ⊢; omega
      have rec_:∀ a' w',Inv1 kd w0 w' (l1++l2)→LI P ops kd w0 Q (l1++l2) a' w'→wpAny P md ops (NQ Q) n (listed.setIfInBounds i true) a' w':=fun a' w' hi' hL =>
        any_of_LI hsel hS hlex n (l1++l2) _ a' w' hn' (hs.sublist hsub0) (hd.sublist hsub0) (by simpa using hz) (mem_erase hm hnd hsz) (closed_set hc hbits) (No14.erase h14) hi' hL
      have hsub:Inv1 kd w0 w (l1++l2):=fun ⟨j,hj,hk⟩=>hi1 ⟨j,hsub0.subset hj,hk⟩
      by_cases hk:kd i≤2
      · obtain ⟨v,hv,hL⟩:=takeQ hsel hoi hk l1 l2 a w hfree (fun h1=>hi1 ⟨i,by simp,h1⟩) h
        unfold wpOp
        rw [hoi]
        rcases hv with ⟨hw,hy⟩ | ⟨hw,rfl⟩
        · simp only [hw,if_true]
          exact .inl (wp_of_YA (hy w (Cl.self fun h1=>hi1 ⟨i,by simp,h1⟩)) (rec_ _ _ hsub hL))
        · simp only [hw,Bool.false_eq_true,if_false]
          exact rec_ _ _ hsub hL
      · obtain ⟨g1,g2⟩:=takeR hsel hoi (by omega) l1 l2 a w hfree h
        unfold wpOp
        rw [hoi]
        by_cases hw:Region.wanted oi (yielded ops a.tmps) = true
        · simp only [hw,if_true]
          refine .inl (Oper.wp_mono (fun a' w' hK=>rec_ a' w' ?_ hK.2) (wp_weak (g1 hw)))
          rintro ⟨j,hj,hkj⟩
          by_cases h3:kd i = 3
          · exact (hsub ⟨j,hj,hkj⟩).trans (hK.1 h3)
          · exfalso
            rcases List.mem_append.1 hj with hh | hh
            · obtain ⟨oj,hoj⟩:∃ oj,ops[j]? = some oj:=by
                have:=lt_of_unlisted ((hm j).1 (List.mem_append_left _ hh))
                exact ⟨ops[j]'(by omega),by simp [show j < ops.size by omega]⟩
              have:=(okj (hfree j hh oj hoj).2 (by omega)).2 (by omega)
              omega
            · exact h14 l1 i l2 rfl (by omega) j hh hkj
        · simp only [hw,Bool.false_eq_true,if_false]
          exact rec_ _ _ hsub (g2 (by simpa using hw))
def Two (i j:Nat) (l1 l2:List Nat):Prop:=∃ A M C,l1 = A++i :: (M++j :: C)∧l2 = A++(M++j :: i :: C)
theorem LI_of_LW (ks:List Nat):∀ (os:List Oper) (k:Nat) (a:Act) (w:World),(∀ j,os[j]? = ops[k + j]?) →
    LW P ops w0 Q os (ks.drop k) a w→LI P ops (fun i=>ks.getD i 0) w0 Q (List.range' k os.length) a w
  | [],_,_,_,_,h=>by simpa [LI,LW] using h
  | o :: os,k,a,w,ho,h=>by
    have h0:ops[k]? = some o:=by simpa using (ho 0).symm
    have hr:∀ a w,LW P ops w0 Q os (ks.drop (k + 1)) a w→LI P ops (fun i=>ks.getD i 0) w0 Q (List.range' (k + 1) os.length) a w:=fun a w hh =>
      LI_of_LW ks os (k + 1) a w (fun j=>by have:=ho (j + 1); simpa [Nat.add_assoc,Nat.add_comm 1 j] using this) hh
    have hlt:k < ks.length:=by
      rcases Nat.lt_or_ge k ks.length with hh | hh
      · exact hh
      · rw [List.drop_of_length_le hh] at h; exact h.elim
    have hd:ks.drop k = ks[k] :: ks.drop (k + 1):=List.drop_eq_getElem_cons hlt
    rw [hd] at h
    simp only [List.length_cons,List.range'_succ,LI,h0,LW] at h ⊢
    have hg:ks.getD k 0 = ks[k]:=by simp [hlt]
    split
    · rename_i hw
      rw [if_pos hw] at h
      rw [hg]
      exact h.mono hr
    · rename_i hw
      rw [if_neg hw] at h
      exact hr _ _ h
def chk (ops:Array Oper) (ks:List Nat):Bool :=
  let b:=(Region.before ops).toList
  let os:=ops.toList
  Region.noSelect ops &&
  (os.zipIdx.all fun (o,j) =>
    (o.after.all fun e=>!Region.binds .any e || decide (e.on < j)) &&
    (let m:=o.after.foldl (fun s e=>if Region.binds .any e then s ||| 2 ^ e.on ||| b.getD e.on 0 else s) 0
     (b.getD j 0 == m)) &&
    (os.zipIdx.all fun (p,i)=>!(decide (i < j)) || (b.getD j 0).testBit i || (p.apart ops o && okPair (ks.getD i 0) (ks.getD j 0)))) &&
  (os.zipIdx.all fun (_,i)=>!(decide (4≤ks.getD i 0)) || os.zipIdx.all fun (_,j)=>!(decide (i < j)) || ks.getD j 0 != 1)
theorem foldl_bits (f:Edge→Nat):∀ (l:List Edge) (s:Nat) (i:Nat),(l.foldl (fun s e=>if Region.binds .any e then s ||| 2 ^ e.on ||| f e else s) s).testBit i = true →
    s.testBit i = true∨∃ e∈l,Region.binds .any e = true∧(i = e.on∨(f e).testBit i = true)
  | [],s,i,h=>.inl h
  | e :: l,s,i,h=>by
    rcases foldl_bits f l _ i h with h | ⟨x,hx,hb⟩
    · dsimp only at h
      split at h
      · rename_i hb
        simp only [Nat.testBit_or,Bool.or_eq_true] at h
        rcases h with (h | h) | h
        · exact .inl h
        · refine .inr ⟨e,List.mem_cons_self ..,hb,.inl ?_⟩
          simp [Nat.testBit_two_pow] at h
          exact h.symm
        · exact .inr ⟨e,List.mem_cons_self ..,hb,.inr h⟩
      · exact .inl h
    · exact .inr ⟨x,List.mem_cons_of_mem _ hx,hb⟩
theorem wpAny_weak {os:List Oper} {Q:Exit→Act→World→Prop}:∀ (n:Nat) (listed:Array Bool) (a:Act) (w:World),wpAny P .any os.toArray (NQ fun a w=>Q .normal a w) n listed a w→wpAny P .any os.toArray Q n listed a w:=by
  intro n
  induction n with
  | zero=>exact fun listed a w h=>h
  | succ n ih =>
    intro listed a w h
    refine ⟨h.1,fun i hi=>?_⟩
    have:=wpOp_mono (fun a w=>ih _ a w) (h.2 i hi)
    unfold wpOp at this ⊢
    split
    · rename_i ho; rw [ho] at this; exact this
    · rename_i o ho
      rw [ho] at this
      split
      · rename_i hw
        simp only [hw,if_true] at this
        rcases this with this | ⟨_,_,_,hf⟩
        · left
          unfold Oper.wp at *
          generalize (execOp a.eval o).run P w = r at *
          cases r with
          | ok m w' =>
            cases m <;> simp only [Oper.upon] at this ⊢ <;> try exact this
            case enter f args =>
              refine Calls.mono this (fun e w'' he=>?_)
              cases e with
              | returned u=>exact he
              | panicked c=>exact he.elim
              | outgrown=>obtain ⟨_,_,hf⟩:=he; exact hf.elim
          | halt x w'=>cases x <;> simp only [Oper.upon] at this ⊢; exact this.elim
        · exact hf.elim
      · rename_i hw
        simp only [hw] at this
        exact this
theorem pairs_sorted {md:Region.Mode} (hF:Free ops kd bs) (hlex:∀ j oj,ops[j]? = some oj→∀ e∈oj.after,Region.binds md e = true→e.on < j) {l:List Nat} (h:l.Pairwise (· < ·)):l.Pairwise (PairOK md ops kd bs) :=
  h.imp fun {x y} hxy=>⟨fun ox oy hox hoy=>hF x y ox oy hxy hox hoy,fun ox hox e he hb=>by have:=hlex x ox hox e he hb; omega⟩
theorem wp_draw {id:Nat} {Q:Exit→Act→World→Prop} {a:Act} {w:World} (os:List Oper) (ks:List Nat) (hm:P.follows .mixedOrders = true) (hB:chk os.toArray ks = true)
    (h:LW P os.toArray w.drew (fun a w=>Q .normal a w) os ks a w.drew):(Code.region id os.toArray true).wp P Q a w:=by
  refine wp_region_any hm ?_
  simp only [chk,Bool.and_eq_true] at hB
  obtain ⟨⟨hsel,hpl⟩,h14⟩:=hB
  have hz:∀ {j:Nat} {o:Oper},os.toArray[j]? = some o→(o,j)∈os.toArray.toList.zipIdx:=by
    intro j o ho
    rw [List.mem_zipIdx_iff_getElem?]
    simpa using ho
  have hall:∀ j oj,os.toArray[j]? = some oj→_:=fun j oj hj=>List.all_eq_true.1 hpl _ (hz hj)
  have hF:Free os.toArray (fun i=>ks.getD i 0) (fun j=>(Region.before os.toArray).toList.getD j 0):=by
    intro i j oi oj hij hi hj
    have h3:=(Bool.and_eq_true _ _ ▸ hall j oj hj:_∧_).2
    have h4:=List.all_eq_true.1 h3 _ (hz hi)
    simp only [Bool.or_eq_true,Bool.not_eq_true',decide_eq_false_iff_not,Bool.and_eq_true] at h4
    rcases h4 with (h4 | h4) | h4
    · exact absurd hij h4
    · exact .inl h4
    · exact .inr h4
  have hlex:∀ j oj,os.toArray[j]? = some oj→∀ e∈oj.after,Region.binds .any e = true→e.on < j:=by
    intro j oj hj e he hb
    have h1:=(Bool.and_eq_true _ _ ▸ (Bool.and_eq_true _ _ ▸ hall j oj hj:_∧_).1:_∧_).1
    have h2:=(Array.all_eq_true_iff_forall_mem.1 h1) e he
    simpa [hb] using h2
  have key:=any_of_LI (P:=P) (ops:=os.toArray) (md:=.any) (kd:=fun i=>ks.getD i 0) (bs:=fun j=>(Region.before os.toArray).toList.getD j 0) (w0:=w.drew) (Q:=fun a w=>Q .normal a w)
    (Region.noSelect_spec hsel) ?_ ?_ os.length (List.range' 0 os.length) (Array.replicate os.length false) a w.drew (by simp) ?_ List.nodup_range' (by simp) ?_ ?_ ?_ (fun _=>Ext.refl _) ?_
  · have:=wpAny_weak _ _ _ _ key
    simpa using this
  · intro j oj hj i hb
    have h3:=(Bool.and_eq_true _ _ ▸ (Bool.and_eq_true _ _ ▸ hall j oj hj:_∧_).1:_∧_).2
    have h5:(Region.before os.toArray).toList.getD j 0 = oj.after.foldl (fun s e=>if Region.binds .any e then s ||| 2 ^ e.on ||| (Region.before os.toArray).toList.getD e.on 0 else s) 0:=by simpa using h3
    dsimp only at hb
    rw [h5,← Array.foldl_toList] at hb
    rcases foldl_bits _ _ _ _ hb with hb | ⟨e,he,hbb,hh⟩
    · simp at hb
    · exact ⟨e,Array.mem_toList_iff.1 he,hbb,hh⟩
  · exact hlex
  · exact pairs_sorted hF hlex List.pairwise_lt_range'
  · intro i
    simp only [List.mem_range',Nat.zero_add,Nat.one_mul]
    constructor
    · rintro ⟨x,hx,rfl⟩; simp [hx]
    · intro hh
      rcases Nat.lt_or_ge i os.length with h' | h'
      · exact ⟨i,h',rfl⟩
      · simp [Array.getElem?_eq_none (show (Array.replicate os.length false).size≤i by simpa using h')] at hh
  · intro i hi
    rcases Nat.lt_or_ge i os.length with h' | h'
    · simp [h'] at hi
    · simp [Array.getElem?_eq_none (show (Array.replicate os.length false).size≤i by simpa using h')] at hi
  · intro l1 i l2 hl hk j hj
    have hs:(l1++i :: l2).Pairwise (· < ·):=hl ▸ List.pairwise_lt_range'
    have hij:i < j:=List.rel_of_pairwise_cons (List.pairwise_append.1 hs).2.1 hj
    have mem:∀ x∈l1++i :: l2,x < os.length:=by
      intro x hx
      rw [← hl] at hx
      simp only [List.mem_range',Nat.zero_add,Nat.one_mul] at hx
      obtain ⟨y,hy,rfl⟩:=hx
      exact hy
    have hi:=mem i (by simp)
    have hj':=mem j (by simp [hj])
    have h1:=List.all_eq_true.1 h14 _ (hz (j:=i) (o:=os[i]) (by simp [hi]))
    simp only [Bool.or_eq_true,Bool.not_eq_true',decide_eq_false_iff_not] at h1
    rcases h1 with h1 | h1
    · exact absurd hk h1
    · have h2:=List.all_eq_true.1 h1 _ (hz (j:=j) (o:=os[j]) (by simp [hj']))
      simp only [Bool.or_eq_true,Bool.not_eq_true',decide_eq_false_iff_not] at h2
      rcases h2 with h2 | h2
      · exact absurd hij h2
      · simpa using h2
  · exact LI_of_LW ks os 0 a w.drew (by simp) (by simpa using h)
theorem wpl_of_LW:∀ (rest:List Oper) (ks:List Nat) (a:Act) (w:World) (Q:Exit→Act→World→Prop),(∀ k∈ks,k≠1)→LW P ops w0 (fun a w=>Q .normal a w) rest ks a w→wpList P ops Q rest a w
  | [],_,_,_,_,_,h=>h
  | _ :: _,[],_,_,_,_,h=>h.elim
  | o :: os,k :: ks,a,w,Q,hk,h=>by
    have hk':∀ x∈ks,x≠1:=fun x hx=>hk x (List.mem_cons_of_mem _ hx)
    have hk1:=hk k (List.mem_cons_self ..)
    refine wpList_step fun K hK=>?_
    simp only [LW] at h
    split
    · rename_i hw
      rw [if_pos hw] at h
      unfold OneOp at h
      split at h
      · obtain ⟨v,h1,h2⟩:=h
        exact wp_of_YA (h1 w (Cl.self fun hh=>absurd hh hk1)) (hK _ _ (wpl_of_LW os ks _ _ Q hk' h2))
      · split at h
        · exact Oper.wp_mono (fun a w hh=>hK _ _ (wpl_of_LW os ks _ _ Q hk' hh.2)) (wp_weak h)
        · exact Oper.wp_mono (fun a w hh=>hK _ _ (wpl_of_LW os ks _ _ Q hk' hh)) (wp_weak h)
    · rename_i hw
      rw [if_neg hw] at h
      exact hK _ _ (wpl_of_LW os ks _ _ Q hk' h)
theorem wp_plain {id:Nat} {Q:Exit→Act→World→Prop} {a:Act} {w:World} (os:List Oper) (ks:List Nat) (hk:ks.all (· != 1) = true)
    (h:LW P os.toArray w (fun a w=>Q .normal a w) os ks a w):(Code.region id os.toArray false).wp P Q a w :=
  wp_region_lit (wpl_of_LW os ks a w Q (fun k hh=>by simpa using List.all_eq_true.1 hk k hh) h)
end
end Go.Proofs.YtlbefjfhfodnlaaGreatDoor
namespace Go.Proofs.YtlbefjfhfodnlaaGreatDoor
open Go Go.RowKit
def upd (ρ:Nat→Value) (d:Nat) (v:Value):Nat→Value:=fun i=>cond (Nat.beq i d) v (ρ i)
def ini (l:List Value):Nat→Value:=fun i=>l.getD i undef
def mk (N:Nat) (ρ:Nat→Value):Act:=⟨((List.range N).map ρ).toArray,[]⟩
def evF (N:Nat) (ρ:Nat→Value):Operand→Value
  | .tmp t=>cond (Nat.blt t N) (ρ t) undef
  | .const v=>v
  | .global g=>.pointer (some ⟨g,0,none⟩)
  | .func f=>.func (.func f) #[] #[]
theorem upd_same (ρ:Nat→Value) (d:Nat) (v:Value):upd ρ d v d = v:=by simp [upd]
theorem upd_ne (ρ:Nat→Value) {d i:Nat} (v:Value) (h:i≠d):upd ρ d v i = ρ i:=by
  have:Nat.beq i d = false:=by
    cases hb:Nat.beq i d with
    | false=>rfl
    | true=>exact absurd (Nat.eq_of_beq_eq_true hb) h
  simp [upd,this]
theorem mk_eval (N:Nat) (ρ:Nat→Value):(mk N ρ).eval = evF N ρ:=by
  funext x
  cases x with
  | tmp t =>
    simp only [Act.eval,evF,mk]
    by_cases h:t < N
    · have:Nat.blt t N = true:=by simpa using h
      simp [h,this]
    · have:Nat.blt t N = false:=by
        cases hb:Nat.blt t N with
        | false=>rfl
        | true=>exact absurd (by simpa using hb) h
      simp [this,Nat.not_lt.1 h]
  | _=>rfl
theorem mk_put (N:Nat) (ρ:Nat→Value) (d:Nat) (v:Value):(mk N ρ).put (some d) v = mk N (upd ρ d v):=by
  simp only [Act.put,mk,Act.mk.injEq,and_true]
  apply Array.ext
  · simp
  · intro i h1 h2
    simp at h1
    by_cases hi:i = d
    · subst hi; simp [upd_same]
    · simp [Ne.symm hi,upd_ne _ _ hi]
theorem calls_mk {P:Program} {f:FuncId} {fn:Func} {c:Code} {w:World} {R:Ending→World→Prop} (args:List Value) (N:Nat)
    (hf:P.funcs[f]? = some fn) (hb:fn.body = some c) (hN:fn.ntmps = N) (hl:args.length≤N)
    (h:c.wp P (bodyPost P fn R) (mk N (ini args)) w):Calls P f args.toArray w R:=by
  refine calls_of_wp hf hb ?_
  have:(mk N (ini args)) = { tmps:=args.toArray++Array.replicate (fn.ntmps - args.toArray.size) undef,defers:=[] }:=by
    simp only [mk,Act.mk.injEq,and_true]
    apply Array.ext
    · simp; omega
    · intro i h1 h2
      simp at h1
      by_cases hi:i < args.length
      · simp [ini,hi]
      · simp [ini,hi,Array.getElem_append]
  rw [← this]; exact h
def resF (N:Nat) (ρ:Nat→Value):List Nat→Value
  | [t]=>evF N ρ (.tmp t)
  | ts=>.tuple (ts.map fun t=>evF N ρ (.tmp t)).toArray
theorem mk_getD (N:Nat) (ρ:Nat→Value) (t:Nat):(mk N ρ).tmps.getD t undef = evF N ρ (.tmp t):=by
  rw [← mk_eval]; rfl
theorem run_results {P:Program} {fn:Func} {N:Nat} {ρ:Nat→Value} {w:World} (ts:List Nat) (hr:fn.results = (ts.map ResultVar.tmp).toArray) :
    (results fn (mk N ρ).tmps).run P w = .ok (resF N ρ ts) w:=by
  have key:∀ (l:List Nat),(((l.map ResultVar.tmp).mapM (m:=Sem) fun
    | .tmp t=>pure ((mk N ρ).tmps.getD t undef)
    | .cell a t=>do loadVar t (← asAddr ((mk N ρ).tmps.getD a undef)))).run P w = .ok (l.map fun t=>evF N ρ (.tmp t)) w:=by
    intro l
    induction l with
    | nil=>rfl
    | cons t l ih =>
      simp only [List.map_cons,List.mapM_cons,Sem.run_bind,Sem.run_pure,Result.andThen_ok,mk_getD] at ih ⊢
      rw [ih]
      rfl
  unfold results
  rw [hr]
  simp only [List.mapM_toArray,Sem.run_bind,Sem.run_map]
  refine (congrArg (fun r=>(Result.andThen (Result.andThen r fun a w'=>Result.ok a.toArray w') fun a w'=>Result.ok (if h:a.size = 1 then a[0] else Value.tuple a) w')) (key ts)).trans ?_
  simp only [Result.andThen_ok]
  match ts with
  | []=>rfl
  | [t]=>rfl
  | _ :: _ :: _=>rfl
theorem post_ret {P:Program} {fn:Func} {N:Nat} {ρ:Nat→Value} {w:World} {R:Ending→World→Prop} (ts:List Nat) (hr:fn.results = (ts.map ResultVar.tmp).toArray) (v:Value) (hv:resF N ρ ts = v)
    (h:R (.returned v) w):bodyPost P fn R .ret (mk N ρ) w:=⟨rfl,v,by rw [← hv]; exact run_results ts hr,h⟩
theorem post_end {P:Program} {fn:Func} {N:Nat} {ρ:Nat→Value} {w:World} {R:Ending→World→Prop} (ts:List Nat) (hr:fn.results = (ts.map ResultVar.tmp).toArray) (v:Value) (hv:resF N ρ ts = v)
    (h:R (.returned v) w):bodyPost P fn R .normal (mk N ρ) w:=⟨rfl,v,by rw [← hv]; exact run_results ts hr,h⟩
section code
variable {P:Program} {N:Nat} {ρ:Nat→Value} {Q:Exit→Act→World→Prop} {w:World}
theorem c_cond_t {c:Operand} {x y:Code} (hc:evF N ρ c = .bool true) (h:x.wp P Q (mk N ρ) w):(Code.cond c x y).wp P Q (mk N ρ) w :=
  wp_cond_true (by rw [mk_eval]; exact hc) h
theorem c_cond_f {c:Operand} {x y:Code} (hc:evF N ρ c = .bool false) (h:y.wp P Q (mk N ρ) w):(Code.cond c x y).wp P Q (mk N ρ) w :=
  wp_cond_false (by rw [mk_eval]; exact hc) h
theorem c_exit_here {id:Nat} {a:Act} (h:Q .normal a w):Exit.inBlock id Q (.exit id) a w:=by
  simpa [Exit.inBlock] using h
theorem c_exit_out {id id':Nat} {a:Act} (hne:Nat.beq id' id = false) (h:Q (.exit id') a w):Exit.inBlock id Q (.exit id') a w:=by
  have:id'≠id:=fun e=>by rw [e,Nat.beq_refl] at hne; cases hne
  simpa [Exit.inBlock,this] using h
theorem t_exit {id:Nat} {a:Act} {K:Act→World→Prop} (h:Q (.exit id) a w):Exit.then K Q (.exit id) a w:=h
theorem t_ret {a:Act} {K:Act→World→Prop} (h:Q .ret a w):Exit.then K Q .ret a w:=h
theorem b_ret {id:Nat} {a:Act} (h:Q .ret a w):Exit.inBlock id Q .ret a w:=h
def over:List (Nat × Value)→(Nat→Value)→Nat→Value
  | [],ρ=>ρ
  | (i,v) :: l,ρ=>upd (over l ρ) i v
def agrees (ρ:Nat→Value):List (Nat × Value)→Prop
  | []=>True
  | (i,v) :: l=>ρ i = v∧agrees ρ l
theorem over_of_agrees {ρ:Nat→Value}:∀ {l:List (Nat × Value)},agrees ρ l→over l ρ = ρ
  | [],_=>rfl
  | (i,v) :: l,h=>by
    simp only [over,over_of_agrees h.2]
    funext j
    by_cases hj:j = i
    · subst hj; rw [upd_same]; exact h.1.symm
    · rw [upd_ne _ _ hj]
theorem c_loop {S:Type} (fr:S→List (Nat × Value)) (I:S→World→Prop) (m:S→Nat) (s0:S) {body:Code} (hfr:agrees ρ (fr s0)) (h0:I s0 w)
    (round:∀ s ρ w,I s w→body.wp P (Exit.then (fun a' w'=>∃ s' ρ',a' = mk N ρ'∧agrees ρ' (fr s')∧I s' w'∧m s' < m s) Q) (mk N (over (fr s) ρ)) w) :
    (Code.loop body).wp P Q (mk N ρ) w:=by
  intro b k cs
  have key:∀ n s ρ w,m s = n→agrees ρ (fr s)→I s w→∃ e a' w',Q e a' w'∧Arrives P (lone (b.at (mk N ρ) (.code body :: .inLoop body :: k)) cs w) b k cs e a' w':=by
    intro n
    induction n using Nat.strongRecOn with
    | _ n ih =>
      intro s ρ w hn hfr hI
      have hr:=round s ρ w hI
      rw [over_of_agrees hfr] at hr
      obtain ⟨e,a₁,w₁,hq,harr⟩:=hr b (.inLoop body :: k) cs
      cases e with
      | normal =>
        obtain ⟨s',ρ',rfl,hfr',hI',hlt⟩:=hq
        obtain ⟨e₂,a₂,w₂,hq₂,harr₂⟩:=ih (m s') (hn ▸ hlt) s' ρ' w₁ rfl hfr' hI'
        exact ⟨e₂,a₂,w₂,hq₂,.of_steps (Steps.trans harr (.one step_inLoop)) harr₂⟩
      | exit id=>exact ⟨_,a₁,w₁,hq,.pass (x:=.inLoop body) rfl (fun _ _=>.inl (by simp)) harr⟩
      | goto l=>exact ⟨_,a₁,w₁,hq,.pass (x:=.inLoop body) rfl (fun _ _=>.inl (by simp)) harr⟩
      | ret=>exact ⟨_,a₁,w₁,hq,.pass (x:=.inLoop body) rfl (fun _ _=>.inl (by simp)) harr⟩
      | panic ch=>exact ⟨_,a₁,w₁,hq,.pass (x:=.inLoop body) rfl (fun _ _=>.inl (by simp)) harr⟩
      | outgrown=>exact ⟨_,a₁,w₁,hq,.pass (x:=.inLoop body) rfl (fun _ _=>.inl (by simp)) harr⟩
  obtain ⟨e,a',w',hq,harr⟩:=key _ s0 ρ w rfl hfr h0
  exact ⟨e,a',w',hq,.of_steps (.one step_loop) harr⟩
theorem c_cut {S:Type} (fr:S→List (Nat × Value)) (I:S→World→Prop) {c:Code} {K:Act→World→Prop} {Q':Exit→Act→World→Prop}
    (h:c.wp P (Exit.then (fun a' w'=>∃ s' ρ',a' = mk N ρ'∧agrees ρ' (fr s')∧I s' w') Q') (mk N ρ) w)
    (hn:∀ s ρ w,I s w→K (mk N (over (fr s) ρ)) w):c.wp P (Exit.then K Q') (mk N ρ) w:=by
  refine wp_mono h ?_
  intro e a w hh
  cases e with
  | normal =>
    obtain ⟨s,ρ',rfl,h1,h2⟩:=hh
    have:=hn s ρ' w h2
    rw [over_of_agrees h1] at this
    exact this
  | _=>exact hh
end code
section ops
variable {P:Program} {ops:Array Oper} {w0:World} {Q:Act→World→Prop} {os:List Oper} {ks:List Nat} {N:Nat} {ρ:Nat→Value} {w:World}
abbrev Up (ops:Array Oper) (N:Nat) (ρ:Nat→Value) (o:Oper):Prop:=Region.wanted o (yielded ops (mk N ρ).tmps) = true
theorem zN {d:Option Tmp} {op:Op} {ty:TypeId} {pos:String} {aft:Array Edge}:Up ops N ρ ⟨d,op,ty,pos,aft,none⟩:=rfl
theorem yielded_mk {j d:Nat} {b:Bool} (hd:(ops[j]?).bind (·.dst) = some d) (hlt:Nat.blt d N = true) (hv:ρ d = .bool b):yielded ops (mk N ρ).tmps j = some b:=by
  have h:d < N:=by simpa using hlt
  unfold yielded
  rw [hd]
  simp [mk,h,hv]
theorem zS {d:Option Tmp} {op:Op} {ty:TypeId} {pos:String} {aft:Array Edge} {j e:Nat} {b:Bool} (hd:(ops[j]?).bind (·.dst) = some e) (hlt:Nat.blt e N = true) (hv:ρ e = .bool b) :
    Up ops N ρ ⟨d,op,ty,pos,aft,some (j,b)⟩:=by
  unfold Up Region.wanted
  simp [yielded_mk hd hlt hv]
theorem lw_q {o:Oper} {k d:Nat} (hk:k≤2) (hd:o.dst = some d) (hu:Up ops N ρ o) (v:Value) (hr:∀ w',Cl w0 w k w'→(execOp (evF N ρ) o).run P w' = .ok (.value v) w')
    (h:LW P ops w0 Q os ks (mk N (upd ρ d v)) w):LW P ops w0 Q (o :: os) (k :: ks) (mk N ρ) w:=by
  simp only [LW]
  rw [if_pos hu]
  unfold OneOp
  rw [if_pos hk]
  refine ⟨v,fun w' hc=>.inl ?_,?_⟩
  · rw [mk_eval]; exact hr w' hc
  · rw [hd,mk_put]; exact h
theorem lw_r {o:Oper} {d:Nat} (hd:o.dst = some d) (hu:Up ops N ρ o)
    (v:Value) (w1:World) (hr:(execOp (evF N ρ) o).run P w = .ok (.value v) w1) (hE:Ext w w1) (h:LW P ops w0 Q os ks (mk N (upd ρ d v)) w1):LW P ops w0 Q (o :: os) (3 :: ks) (mk N ρ) w:=by
  simp only [LW]
  rw [if_pos hu]
  unfold OneOp
  rw [if_neg (by decide),if_pos rfl]
  unfold Oper.wp
  rw [mk_eval,hr]
  show Ext w w1∧LW P ops w0 Q os ks ((mk N ρ).put o.dst v) w1
  rw [hd,mk_put]
  exact ⟨hE,h⟩
theorem lw_e {o:Oper} {d:Nat} (hd:o.dst = some d) (hu:Up ops N ρ o)
    (v:Value) (w1:World) (hr:(execOp (evF N ρ) o).run P w = .ok (.value v) w1) (h:LW P ops w0 Q os ks (mk N (upd ρ d v)) w1):LW P ops w0 Q (o :: os) (4 :: ks) (mk N ρ) w:=by
  simp only [LW]
  rw [if_pos hu]
  unfold OneOp
  rw [if_neg (by decide),if_neg (by decide)]
  unfold Oper.wp
  rw [mk_eval,hr]
  show LW P ops w0 Q os ks ((mk N ρ).put o.dst v) w1
  rw [hd,mk_put]
  exact h
theorem lw_s {o:Oper} (hd:o.dst = none) (hu:Up ops N ρ o)
    (w1:World) (hr:(execOp (evF N ρ) o).run P w = .ok .skip w1) (h:LW P ops w0 Q os ks (mk N ρ) w1):LW P ops w0 Q (o :: os) (4 :: ks) (mk N ρ) w:=by
  simp only [LW]
  rw [if_pos hu]
  unfold OneOp
  rw [if_neg (by decide),if_neg (by decide)]
  unfold Oper.wp
  rw [mk_eval,hr]
  show LW P ops w0 Q os ks ((mk N ρ).put o.dst undef) w1
  rw [hd]
  exact h
theorem lw_call {d:Nat} {x:Operand} {xs:Array Operand} {ats:Array TypeId} {ty:TypeId} {pos:String} {aft:Array Edge} {g:Option (Nat × Bool)} (f:FuncId) (first cap:List Value) (args:List Value)
    (hx:evF N ρ x = .func (.func f) first.toArray cap.toArray) (hxs:first++(xs.toList.map (evF N ρ))++cap = args) (hf:((P.funcs[f]?).map fun fn=>(fn.name != "runtime.NumGoroutine") && fn.body.isSome) = some true)
    (hu:Up ops N ρ ⟨some d,.call ⟨.value x,xs,ats⟩,ty,pos,aft,g⟩) {R:Ending→World→Prop} (hc:Calls P f args.toArray w R)
    (h:∀ e w1,R e w1→∃ v,e = .returned v∧Ext w w1∧LW P ops w0 Q os ks (mk N (upd ρ d v)) w1) :
    LW P ops w0 Q (⟨some d,.call ⟨.value x,xs,ats⟩,ty,pos,aft,g⟩ :: os) (3 :: ks) (mk N ρ) w:=by
  simp only [LW]
  rw [if_pos hu]
  unfold OneOp
  rw [if_neg (by decide),if_pos rfl]
  unfold Oper.wp
  rw [mk_eval]
  have hrun:(execOp (evF N ρ) ⟨some d,.call ⟨.value x,xs,ats⟩,ty,pos,aft,g⟩).run P w = .ok (.enter f args.toArray) w:=by
    obtain ⟨fn,hfn,hb⟩:=Option.map_eq_some_iff.1 hf
    simp only [Bool.and_eq_true,bne_iff_ne,ne_eq] at hb
    have hargs:first.toArray++xs.map (evF N ρ)++cap.toArray = args.toArray:=by
      rw [← hxs]; apply Array.ext'; simp
    obtain ⟨c,hbc⟩:=Option.isSome_iff_exists.1 hb.2
    have hcf:(callFunc f args.toArray).run P w = .ok (.enter f args.toArray) w:=by
      simp [callFunc,hfn,hb.1,hbc]
    simp [execOp,resolve,hargs,hx,Deferred.ofValue,invoke,hcf]
  rw [hrun]
  refine Calls.mono hc (fun e w1 he=>?_)
  obtain ⟨v,rfl,hE,hL⟩:=h e w1 he
  show Ext w w1∧LW P ops w0 Q os ks ((mk N ρ).put (some d) v) w1
  rw [mk_put]
  exact ⟨hE,hL⟩
theorem lw_callq {d:Nat} {x:Operand} {xs:Array Operand} {ats:Array TypeId} {ty:TypeId} {pos:String} {aft:Array Edge} {g:Option (Nat × Bool)} (f:FuncId) (first cap:List Value) (args:List Value)
    (hx:evF N ρ x = .func (.func f) first.toArray cap.toArray) (hxs:first++(xs.toList.map (evF N ρ))++cap = args) (hf:((P.funcs[f]?).map fun fn=>(fn.name != "runtime.NumGoroutine") && fn.body.isSome) = some true)
    (hu:Up ops N ρ ⟨some d,.call ⟨.value x,xs,ats⟩,ty,pos,aft,g⟩) (v:Value) (hc:∀ w',Calls P f args.toArray w' (fun e w''=>e = .returned v∧w'' = w'))
    (h:LW P ops w0 Q os ks (mk N (upd ρ d v)) w) :
    LW P ops w0 Q (⟨some d,.call ⟨.value x,xs,ats⟩,ty,pos,aft,g⟩ :: os) (0 :: ks) (mk N ρ) w:=by
  simp only [LW]
  rw [if_pos hu]
  unfold OneOp
  rw [if_pos (by decide)]
  have hrun:∀ w,(execOp (evF N ρ) ⟨some d,.call ⟨.value x,xs,ats⟩,ty,pos,aft,g⟩).run P w = .ok (.enter f args.toArray) w:=by
    intro w
    obtain ⟨fn,hfn,hb⟩:=Option.map_eq_some_iff.1 hf
    simp only [Bool.and_eq_true,bne_iff_ne,ne_eq] at hb
    have hargs:first.toArray++xs.map (evF N ρ)++cap.toArray = args.toArray:=by
      rw [← hxs]; apply Array.ext'; simp
    obtain ⟨c,hbc⟩:=Option.isSome_iff_exists.1 hb.2
    have hcf:(callFunc f args.toArray).run P w = .ok (.enter f args.toArray) w:=by
      simp [callFunc,hfn,hb.1,hbc]
    simp [execOp,resolve,hargs,hx,Deferred.ofValue,invoke,hcf]
  refine ⟨v,fun w' _=>.inr (.inr ⟨f,args.toArray,?_,hc w'⟩),?_⟩
  · rw [mk_eval]; exact hrun w'
  · show LW P ops w0 Q os ks ((mk N ρ).put (some d) v) w
    rw [mk_put]; exact h
end ops
def it {σ:Type} (f:Nat→σ→σ):Nat→σ→σ
  | 0,s=>s
  | k + 1,s=>f k (it f k s)
end Go.Proofs.YtlbefjfhfodnlaaGreatDoor
namespace Go.Proofs.YtlbefjfhfodnlaaGreatDoor
open Go Go.RowKit
theorem w64 {x:Int} (h:-9223372036854775808≤x) (h':x≤9223372036854775807):IntKind.i64.wrap x = x:=IntWalk.i64_in x ⟨h,h'⟩
theorem w64n {x:Int} {n:Nat} (h:x = (n:Int)) (h':x≤9223372036854775807):IntKind.i64.wrap x = (n:Int):=by rw [w64 (by omega) h',h]
def TI (P:Program) (e:TypeId) (s:Nat) (z:Value) (b:Nat):Prop:=(P.info? e).map (fun i=>(i.zero,i.size,i.bytes)) = some (some z,s,b)
theorem TI.get {P:Program} {e:TypeId} {s:Nat} {z:Value} {b:Nat} (h:TI P e s z b):∃ i,P.info? e = some i∧i.zero = some z∧i.size = s∧i.bytes = b:=by
  obtain ⟨i,hi,hh⟩:=Option.map_eq_some_iff.1 h
  simp only [Prod.mk.injEq] at hh
  exact ⟨i,hi,hh⟩
def isSl (v:Value) (n:Nat):Prop:=∃ a c,v = .slice a n c∧(a = none→n = 0)
def eptr (v:Value) (i s:Nat):Value :=
  match v with
  | .slice (some a) _ _=>.pointer (some (a.add (i * s)))
  | _=>undef
def cellH (H:Array Obj) (g o:Nat):Option Value :=
  match H[g]? with
  | some (.cells c _ _)=>c[o]?
  | _=>none
theorem cell_cellH (w:World) (g o:Nat):w.cell? ⟨g,o,none⟩ = cellH w.heap g o:=by
  unfold World.cell? cellH
  cases w.heap[g]? with
  | none=>rfl
  | some o=>cases o <;> rfl
def ldH (H:Array Obj) (p:Value):Option Value :=
  match p with
  | .pointer (some ⟨g,o,none⟩)=>cellH H g o
  | _=>none
theorem Ext.heap {w w':World} (h:Ext w w') {k:Nat} (hk:k < w.heap.size):w'.heap[k]? = w.heap[k]?:=Below.block h k hk
theorem cellH_lt {H:Array Obj} {g o:Nat} {v:Value} (h:cellH H g o = some v):g < H.size:=by
  unfold cellH at h
  rcases Nat.lt_or_ge g H.size with hh | hh
  · exact hh
  · simp [Array.getElem?_eq_none hh] at h
theorem cellH_ext {w w':World} (h:Ext w w') {g o:Nat} {v:Value} (hc:cellH w.heap g o = some v):cellH w'.heap g o = some v:=by
  have:=h.heap (cellH_lt hc)
  unfold cellH at *
  rw [this]; exact hc
theorem ldH_ext {w w':World} (h:Ext w w') {p v:Value} (hc:ldH w.heap p = some v):ldH w'.heap p = some v:=by
  unfold ldH at *
  split at hc
  · exact cellH_ext h hc
  · cases hc
def oneTy (P:Program) (t:TypeId):Prop:=((P.underlying t).map fun d=>match d with | .struct _=>false | .array _ _=>false | _=>true) = some true
theorem run_load1 {P:Program} {t:TypeId} (ht:oneTy P t) {p v:Value} {w:World} (h:ldH w.heap p = some v):(Instr.loadAt t p).run P w = .ok v w:=by
  unfold ldH at h
  split at h
  · rename_i g o
    rw [← cell_cellH] at h
    obtain ⟨d,hd,hh⟩:=Option.map_eq_some_iff.1 ht
    have hag:(isAgg t).run P w = .ok false w:=by
      unfold isAgg
      simp only [Sem.run_bind,run_underlying hd,Result.andThen_ok]
      cases d <;> first | rfl | simp at hh
    simp [Instr.loadAt,Instr.sureAddr,loadVar,hag,h]
  · cases h
section ops
variable {P:Program} {ops:Array Oper} {w0:World} {Q:Act→World→Prop} {os:List Oper} {ks:List Nat} {N:Nat} {ρ:Nat→Value} {w:World}
  {d:Nat} {ty:TypeId} {pos:String} {aft:Array Edge} {g:Option (Nat × Bool)}
theorem q_move {x:Operand} (v:Value) (hx:evF N ρ x = v) (hu:Up ops N ρ ⟨some d,.move x,ty,pos,aft,g⟩) (h:LW P ops w0 Q os ks (mk N (upd ρ d v)) w) :
    LW P ops w0 Q (⟨some d,.move x,ty,pos,aft,g⟩ :: os) (0 :: ks) (mk N ρ) w :=
  lw_q (by decide) rfl hu v (fun w' _=>by simp [execOp,hx]) h
section bin
variable {xt yt:TypeId} {x y:Operand} {k:IntKind} {a b:Int}
theorem run_eqg {op:BinOp} {w:World}:(eqGuard op xt x y (.int k a) (.int k b)).run P w = .ok () w:=by
  unfold eqGuard
  cases op <;> rfl
theorem q_add (c:Int) (hx:evF N ρ x = .int k a) (hy:evF N ρ y = .int k b) (hc:k.wrap (a + b) = c) (hu:Up ops N ρ ⟨some d,.binOp .add xt x y yt,ty,pos,aft,g⟩)
    (h:LW P ops w0 Q os ks (mk N (upd ρ d (.int k c))) w):LW P ops w0 Q (⟨some d,.binOp .add xt x y yt,ty,pos,aft,g⟩ :: os) (0 :: ks) (mk N ρ) w :=
  lw_q (by decide) rfl hu _ (fun w' _=>by simp [execOp,hx,hy,run_eqg,binOp,Op.intArith,hc]) h
theorem q_sub (c:Int) (hx:evF N ρ x = .int k a) (hy:evF N ρ y = .int k b) (hc:k.wrap (a - b) = c) (hu:Up ops N ρ ⟨some d,.binOp .sub xt x y yt,ty,pos,aft,g⟩)
    (h:LW P ops w0 Q os ks (mk N (upd ρ d (.int k c))) w):LW P ops w0 Q (⟨some d,.binOp .sub xt x y yt,ty,pos,aft,g⟩ :: os) (0 :: ks) (mk N ρ) w :=
  lw_q (by decide) rfl hu _ (fun w' _=>by simp [execOp,hx,hy,run_eqg,binOp,Op.intArith,hc]) h
theorem q_mul (c:Int) (hx:evF N ρ x = .int k a) (hy:evF N ρ y = .int k b) (hc:k.wrap (a * b) = c) (hu:Up ops N ρ ⟨some d,.binOp .mul xt x y yt,ty,pos,aft,g⟩)
    (h:LW P ops w0 Q os ks (mk N (upd ρ d (.int k c))) w):LW P ops w0 Q (⟨some d,.binOp .mul xt x y yt,ty,pos,aft,g⟩ :: os) (0 :: ks) (mk N ρ) w :=
  lw_q (by decide) rfl hu _ (fun w' _=>by simp [execOp,hx,hy,run_eqg,binOp,Op.intArith,hc]) h
theorem q_rem (c:Int) (hx:evF N ρ x = .int k a) (hy:evF N ρ y = .int k b) (hb:b≠0) (hc:a.tmod b = c) (hu:Up ops N ρ ⟨some d,.binOp .rem xt x y yt,ty,pos,aft,g⟩)
    (h:LW P ops w0 Q os ks (mk N (upd ρ d (.int k c))) w):LW P ops w0 Q (⟨some d,.binOp .rem xt x y yt,ty,pos,aft,g⟩ :: os) (0 :: ks) (mk N ρ) w :=
  lw_q (by decide) rfl hu _ (fun w' _=>by simp [execOp,hx,hy,run_eqg,binOp,Op.intDiv,hb,hc]) h
theorem q_quo (c:Int) (hx:evF N ρ x = .int k a) (hy:evF N ρ y = .int k b) (hb:b≠0) (hc:k.wrap (a.tdiv b) = c) (hu:Up ops N ρ ⟨some d,.binOp .quo xt x y yt,ty,pos,aft,g⟩)
    (h:LW P ops w0 Q os ks (mk N (upd ρ d (.int k c))) w):LW P ops w0 Q (⟨some d,.binOp .quo xt x y yt,ty,pos,aft,g⟩ :: os) (0 :: ks) (mk N ρ) w :=
  lw_q (by decide) rfl hu _ (fun w' _=>by simp [execOp,hx,hy,run_eqg,binOp,Op.intDiv,hb,hc]) h
theorem q_lss (c:Bool) (hx:evF N ρ x = .int k a) (hy:evF N ρ y = .int k b) (hc:decide (a < b) = c) (hu:Up ops N ρ ⟨some d,.binOp .lss xt x y yt,ty,pos,aft,g⟩)
    (h:LW P ops w0 Q os ks (mk N (upd ρ d (.bool c))) w):LW P ops w0 Q (⟨some d,.binOp .lss xt x y yt,ty,pos,aft,g⟩ :: os) (0 :: ks) (mk N ρ) w :=
  lw_q (by decide) rfl hu _ (fun w' _=>by simp [execOp,hx,hy,run_eqg,binOp,Op.intCmp,← hc]) h
theorem q_leq (c:Bool) (hx:evF N ρ x = .int k a) (hy:evF N ρ y = .int k b) (hc:decide (a≤b) = c) (hu:Up ops N ρ ⟨some d,.binOp .leq xt x y yt,ty,pos,aft,g⟩)
    (h:LW P ops w0 Q os ks (mk N (upd ρ d (.bool c))) w):LW P ops w0 Q (⟨some d,.binOp .leq xt x y yt,ty,pos,aft,g⟩ :: os) (0 :: ks) (mk N ρ) w :=
  lw_q (by decide) rfl hu _ (fun w' _=>by simp [execOp,hx,hy,run_eqg,binOp,Op.intCmp,← hc]) h
theorem q_gtr (c:Bool) (hx:evF N ρ x = .int k a) (hy:evF N ρ y = .int k b) (hc:decide (b < a) = c) (hu:Up ops N ρ ⟨some d,.binOp .gtr xt x y yt,ty,pos,aft,g⟩)
    (h:LW P ops w0 Q os ks (mk N (upd ρ d (.bool c))) w):LW P ops w0 Q (⟨some d,.binOp .gtr xt x y yt,ty,pos,aft,g⟩ :: os) (0 :: ks) (mk N ρ) w :=
  lw_q (by decide) rfl hu _ (fun w' _=>by simp [execOp,hx,hy,run_eqg,binOp,Op.intCmp,← hc]) h
theorem q_geq (c:Bool) (hx:evF N ρ x = .int k a) (hy:evF N ρ y = .int k b) (hc:decide (b≤a) = c) (hu:Up ops N ρ ⟨some d,.binOp .geq xt x y yt,ty,pos,aft,g⟩)
    (h:LW P ops w0 Q os ks (mk N (upd ρ d (.bool c))) w):LW P ops w0 Q (⟨some d,.binOp .geq xt x y yt,ty,pos,aft,g⟩ :: os) (0 :: ks) (mk N ρ) w :=
  lw_q (by decide) rfl hu _ (fun w' _=>by simp [execOp,hx,hy,run_eqg,binOp,Op.intCmp,← hc]) h
theorem q_eql (c:Bool) (hx:evF N ρ x = .int k a) (hy:evF N ρ y = .int k b) (hc:decide (a = b) = c) (hu:Up ops N ρ ⟨some d,.binOp .eql xt x y yt,ty,pos,aft,g⟩)
    (h:LW P ops w0 Q os ks (mk N (upd ρ d (.bool c))) w):LW P ops w0 Q (⟨some d,.binOp .eql xt x y yt,ty,pos,aft,g⟩ :: os) (0 :: ks) (mk N ρ) w :=
  lw_q (by decide) rfl hu _ (fun w' _=>by
    have:(a == b) = c:=by rw [← hc]; rfl
    simp [execOp,hx,hy,run_eqg,binOp,Op.intCmp,this]) h
theorem q_neq (c:Bool) (hx:evF N ρ x = .int k a) (hy:evF N ρ y = .int k b) (hc:decide (a≠b) = c) (hu:Up ops N ρ ⟨some d,.binOp .neq xt x y yt,ty,pos,aft,g⟩)
    (h:LW P ops w0 Q os ks (mk N (upd ρ d (.bool c))) w):LW P ops w0 Q (⟨some d,.binOp .neq xt x y yt,ty,pos,aft,g⟩ :: os) (0 :: ks) (mk N ρ) w :=
  lw_q (by decide) rfl hu _ (fun w' _=>by
    have:(a != b) = c:=by rw [← hc]; simp [bne,BEq.beq]
    simp [execOp,hx,hy,run_eqg,binOp,Op.intCmp,this]) h
end bin
theorem q_not {xt:TypeId} {x:Operand} {a:Bool} (c:Bool) (hx:evF N ρ x = .bool a) (hc:(!a) = c) (hu:Up ops N ρ ⟨some d,.unOp .not xt x,ty,pos,aft,g⟩)
    (h:LW P ops w0 Q os ks (mk N (upd ρ d (.bool c))) w):LW P ops w0 Q (⟨some d,.unOp .not xt x,ty,pos,aft,g⟩ :: os) (0 :: ks) (mk N ρ) w :=
  lw_q (by decide) rfl hu _ (fun w' _=>by simp [execOp,hx,Op.unary,← hc]) h
theorem q_len {t e:TypeId} {x:Operand} {v:Value} {n:Nat} (ht:P.underlying t = some (.slice e)) (hx:evF N ρ x = v) (hs:isSl v n) (hu:Up ops N ρ ⟨some d,.call ⟨.builtin .len,#[x],#[t]⟩,ty,pos,aft,g⟩)
    (h:LW P ops w0 Q os ks (mk N (upd ρ d (.int .i64 (n:Int)))) w):LW P ops w0 Q (⟨some d,.call ⟨.builtin .len,#[x],#[t]⟩,ty,pos,aft,g⟩ :: os) (0 :: ks) (mk N ρ) w :=
  lw_q (by decide) rfl hu _ (fun w' _=>by
    obtain ⟨a,c,rfl,_⟩:=hs
    simp [execOp,resolve,invoke,builtin,hx,Builtin.len_,run_underlying ht,goInt]) h
theorem q_lens {t:TypeId} {x:Operand} {s:ByteArray} (ht:P.underlying t = some .string) (hx:evF N ρ x = .string s) (hu:Up ops N ρ ⟨some d,.call ⟨.builtin .len,#[x],#[t]⟩,ty,pos,aft,g⟩)
    (h:LW P ops w0 Q os ks (mk N (upd ρ d (.int .i64 (s.size:Int)))) w):LW P ops w0 Q (⟨some d,.call ⟨.builtin .len,#[x],#[t]⟩,ty,pos,aft,g⟩ :: os) (0 :: ks) (mk N ρ) w :=
  lw_q (by decide) rfl hu _ (fun w' _=>by
    simp [execOp,resolve,invoke,builtin,hx,Builtin.len_,run_underlying ht,goInt]) h
theorem q_idx {t e:TypeId} {x y:Operand} {v:Value} {n s:Nat} {k:IntKind} {i:Int} (j:Nat) (ht:P.underlying t = some (.slice e)) {z:Value} {b:Nat} (hi:TI P e s z b) (hx:evF N ρ x = v) (hy:evF N ρ y = .int k i)
    (hs:isSl v n) (hj:i = (j:Int)) (hlt:j < n) (hu:Up ops N ρ ⟨some d,.indexAddr t x y,ty,pos,aft,g⟩)
    (h:LW P ops w0 Q os ks (mk N (upd ρ d (eptr v j s))) w):LW P ops w0 Q (⟨some d,.indexAddr t x y,ty,pos,aft,g⟩ :: os) (0 :: ks) (mk N ρ) w :=
  lw_q (by decide) rfl hu _ (fun w' _=>by
    obtain ⟨a,c,rfl,ha⟩:=hs
    obtain ⟨inf,h1,_,h3,_⟩:=hi.get
    subst hj
    cases a with
    | none=>have:=ha rfl; omega
    | some a =>
      have hlt':(j:Int) < (n:Int):=by omega
      simp [execOp,hx,hy,Instr.indexAt,asIntOf,run_underlying ht,sizeOf,typeInfo,h1,h3,eptr,hlt]) h
theorem q_load {k:Nat} (hk:k = 1∨k = 2) {t:TypeId} {x:Operand} {p:Value} (u:Value) (ht:oneTy P t) (hx:evF N ρ x = p) (hc:ldH (if k = 1 then w0.heap else w.heap) p = some u) (hu:Up ops N ρ ⟨some d,.load t x,ty,pos,aft,g⟩)
    (h:LW P ops w0 Q os ks (mk N (upd ρ d u)) w):LW P ops w0 Q (⟨some d,.load t x,ty,pos,aft,g⟩ :: os) (k :: ks) (mk N ρ) w :=
  lw_q (by omega) rfl hu _ (fun w' hcl=>by
    have hl:ldH w'.heap p = some u:=by
      rcases hk with rfl | rfl
      · exact ldH_ext (w:=w0) hcl hc
      · exact ldH_ext (w:=w) hcl hc
    simp [execOp,hx,run_load1 ht hl]) h
theorem q_extract {x:Operand} {vs:List Value} {i:Nat} (v:Value) (hx:evF N ρ x = .tuple vs.toArray) (hv:vs[i]? = some v) (hu:Up ops N ρ ⟨some d,.extract x i,ty,pos,aft,g⟩)
    (h:LW P ops w0 Q os ks (mk N (upd ρ d v)) w):LW P ops w0 Q (⟨some d,.extract x i,ty,pos,aft,g⟩ :: os) (0 :: ks) (mk N ρ) w :=
  lw_q (by decide) rfl hu _ (fun w' _=>by simp [execOp,hx,Instr.extract,hv]) h
theorem q_conv {st dt:TypeId} {x:Operand} {k k':IntKind} {a:Int} (c:Int) {sd:TypeDesc} (hst:P.underlying st = some sd) (hdt:P.underlying dt = some (.int k')) (hx:evF N ρ x = .int k a) (hc:k'.wrap a = c) (hu:Up ops N ρ ⟨some d,.convert st dt x,ty,pos,aft,g⟩)
    (h:LW P ops w0 Q os ks (mk N (upd ρ d (.int k' c))) w):LW P ops w0 Q (⟨some d,.convert st dt x,ty,pos,aft,g⟩ :: os) (0 :: ks) (mk N ρ) w :=
  lw_q (by decide) rfl hu _ (fun w' _=>by
    simp [execOp,hx,convert,run_underlying hst,run_underlying hdt,Conv.intToInt,hc]) h
end ops
end Go.Proofs.YtlbefjfhfodnlaaGreatDoor
namespace Go.Proofs.YtlbefjfhfodnlaaGreatDoor
open Go Go.RowKit
abbrev Stand (α:Type):=Array Obj→Value→α→List Nat→Prop
structure Good {α:Type} (E:Stand α):Prop where
  cells:∀ {H v x F},E H v x F→v.cells = #[v]
  one:∀ {H v x F},E H v x F→v.oneCell' = true
  lt:∀ {H v x F},E H v x F→∀ b∈F,b < H.size
  stable:∀ {H H' v x F},E H v x F→(∀ b∈F,H'[b]? = H[b]?)→E H' v x F
def els {α:Type} (E:Stand α) (H:Array Obj):List Value→List α→List Nat→Prop
  | [],[],F=>F = []
  | u :: us,x :: xs,F=>∃ F1 F2,F = F1++F2∧E H u x F1∧els E H us xs F2
  | _,_,_=>False
section els
variable {α:Type} {E:Stand α} {H H':Array Obj}
theorem els.length:∀ {us:List Value} {xs:List α} {F:List Nat},els E H us xs F→us.length = xs.length
  | [],[],_,_=>rfl
  | _ :: _,_ :: _,_,⟨_,_,_,_,h⟩=>by simp [els.length h]
  | [],_ :: _,_,h=>h.elim
  | _ :: _,[],_,h=>h.elim
theorem els.stable (hE:Good E):∀ {us:List Value} {xs:List α} {F:List Nat},els E H us xs F→(∀ b∈F,H'[b]? = H[b]?)→els E H' us xs F
  | [],[],_,h,_=>h
  | _ :: _,_ :: _,_,⟨F1,F2,rfl,h1,h2⟩,hb =>
    ⟨F1,F2,rfl,hE.stable h1 fun b hh=>hb b (List.mem_append_left _ hh),els.stable hE h2 fun b hh=>hb b (List.mem_append_right _ hh)⟩
  | [],_ :: _,_,h,_=>h.elim
  | _ :: _,[],_,h,_=>h.elim
theorem els.lt (hE:Good E):∀ {us:List Value} {xs:List α} {F:List Nat},els E H us xs F→∀ b∈F,b < H.size
  | [],[],_,h,b,hb=>by rw [show _ = [] from h] at hb; cases hb
  | _ :: _,_ :: _,_,⟨F1,F2,rfl,h1,h2⟩,b,hb=>(List.mem_append.1 hb).elim (hE.lt h1 b) (els.lt hE h2 b)
  | [],_ :: _,_,h,_,_=>h.elim
  | _ :: _,[],_,h,_,_=>h.elim
theorem els.get:∀ {us:List Value} {xs:List α} {F:List Nat} {k:Nat} (d:α),els E H us xs F→k < xs.length →
    ∃ u F1,us[k]? = some u∧E H u (xs.getD k d) F1∧∀ b∈F1,b∈F
  | u :: us,x :: xs,_,0,d,⟨F1,F2,rfl,h1,h2⟩,_=>⟨u,F1,rfl,h1,fun b hb=>List.mem_append_left _ hb⟩
  | u :: us,x :: xs,_,k + 1,d,⟨F1,F2,rfl,h1,h2⟩,hk=>by
    obtain ⟨u',G,hu,hx,hb⟩:=els.get d h2 (by simpa using hk)
    exact ⟨u',G,by simpa using hu,by simpa using hx,fun b hh=>List.mem_append_right _ (hb b hh)⟩
  | [],[],_,_,_,_,hk=>by simp at hk
  | [],_ :: _,_,_,_,h,_=>h.elim
theorem els.append:∀ {us vs:List Value} {xs ys:List α} {F G:List Nat},els E H us xs F→els E H vs ys G→els E H (us++vs) (xs++ys) (F++G)
  | [],_,[],_,_,_,h,k=>by rw [show _ = [] from h]; exact k
  | _ :: _,_,_ :: _,_,_,_,⟨F1,F2,rfl,h1,h2⟩,k=>⟨F1,_,by rw [List.append_assoc],h1,els.append h2 k⟩
  | [],_,_ :: _,_,_,_,h,_=>h.elim
  | _ :: _,_,[],_,_,_,h,_=>h.elim
theorem els.imp {E':Stand α} (h:∀ {H v x F},E H v x F→E' H v x F):∀ {us:List Value} {xs:List α} {F:List Nat},els E H us xs F→els E' H us xs F
  | [],[],_,hh=>hh
  | _ :: _,_ :: _,_,⟨F1,F2,e,h1,h2⟩=>⟨F1,F2,e,h h1,els.imp h h2⟩
  | [],_ :: _,_,hh=>hh.elim
  | _ :: _,[],_,hh=>hh.elim
theorem els.one (hE:Good E):∀ {us:List Value} {xs:List α} {F:List Nat},els E H us xs F→∀ u∈us,u.oneCell' = true
  | [],[],_,_,u,hu=>by cases hu
  | _ :: _,_ :: _,_,⟨F1,F2,rfl,h1,h2⟩,v,hv=>(List.mem_cons.1 hv).elim (fun e=>e ▸ hE.one h1) (els.one hE h2 v)
  | [],_ :: _,_,h,_,_=>h.elim
  | _ :: _,[],_,h,_,_=>h.elim
end els
def rI:Stand Int:=fun _ v x F=>v = .int .i64 x∧F = []∧-9223372036854775808≤x∧x≤9223372036854775807
def rU:Stand UInt8:=fun _ v x F=>v = .int .u8 (x.toNat:Int)∧F = []
theorem good_rI:Good rI:=⟨fun h=>by rw [h.1]; rfl,fun h=>by rw [h.1]; rfl,fun h b hb=>(by rw [h.2.1] at hb; cases hb),fun h _=>h⟩
theorem good_rU:Good rU:=⟨fun h=>by rw [h.1]; rfl,fun h=>by rw [h.1]; rfl,fun h b hb=>(by rw [h.2] at hb; cases hb),fun h _=>h⟩
def rdL {α:Type} (E:Stand α):Stand (List α):=fun H v xs F =>
  (∃ a cap,v = .slice a 0 cap∧xs = []∧F = []) ∨
  ∃ us g off cap cur e fr F',els E H us xs F'∧v = .slice (some ⟨g,off,none⟩) xs.length cap∧H[g]? = some (.cells cur e fr)∧(cur.toList.drop off).take xs.length = us∧xs.length≤maxLen∧F = g :: F'
def owL {α:Type} (E:Stand α) (e:TypeId):Stand (List α):=fun H v xs F =>
  (v = .slice none 0 0∧xs = []∧F = []) ∨
  ∃ us g cap cur F',els E H us xs F'∧v = .slice (some ⟨g,0,none⟩) xs.length cap∧H[g]? = some (.cells cur e (0,0))∧xs.length≤cap∧cap≤maxLen∧cur.size = cap∧cur.toList.take xs.length = us∧F = g :: F'
theorem getElem?_lt {H:Array Obj} {g:Nat} {o:Obj} (h:H[g]? = some o):g < H.size:=(Array.getElem?_eq_some_iff.1 h).1
section lists
variable {α:Type} {E:Stand α} {e:TypeId} {H:Array Obj} {v:Value} {xs:List α} {F:List Nat}
theorem good_rdL (hE:Good E):Good (rdL E) where
  cells:=by
    rintro H v xs F (⟨a,cap,rfl,_⟩ | ⟨us,g,off,cap,cur,e,fr,F',_,rfl,_⟩) <;> rfl
  one:=by
    rintro H v xs F (⟨a,cap,rfl,_⟩ | ⟨us,g,off,cap,cur,e,fr,F',_,rfl,_⟩) <;> rfl
  lt:=by
    rintro H v xs F (⟨a,cap,rfl,_,rfl⟩ | ⟨us,g,off,cap,cur,e,fr,F',h,rfl,hg,_,_,rfl⟩) b hb
    · cases hb
    · rcases List.mem_cons.1 hb with rfl | hb
      · exact getElem?_lt hg
      · exact h.lt hE b hb
  stable:=by
    rintro H H' v xs F (⟨a,cap,rfl,h1,h2⟩ | ⟨us,g,off,cap,cur,e,fr,F',h,rfl,hg,hw,hml,rfl⟩) hb
    · exact .inl ⟨a,cap,rfl,h1,h2⟩
    · exact .inr ⟨us,g,off,cap,cur,e,fr,F',h.stable hE fun b hh=>hb b (List.mem_cons_of_mem _ hh),rfl,by rw [hb g (List.mem_cons_self ..)]; exact hg,hw,hml,rfl⟩
theorem good_owL (hE:Good E):Good (owL E e) where
  cells:=by
    rintro H v xs F (⟨rfl,_⟩ | ⟨us,g,cap,cur,F',_,rfl,_⟩) <;> rfl
  one:=by
    rintro H v xs F (⟨rfl,_⟩ | ⟨us,g,cap,cur,F',_,rfl,_⟩) <;> rfl
  lt:=by
    rintro H v xs F (⟨rfl,_,rfl⟩ | ⟨us,g,cap,cur,F',h,rfl,hg,_,_,_,_,rfl⟩) b hb
    · cases hb
    · rcases List.mem_cons.1 hb with rfl | hb
      · exact getElem?_lt hg
      · exact h.lt hE b hb
  stable:=by
    rintro H H' v xs F (⟨rfl,h1,h2⟩ | ⟨us,g,cap,cur,F',h,rfl,hg,r1,r2,r3,r4,rfl⟩) hb
    · exact .inl ⟨rfl,h1,h2⟩
    · exact .inr ⟨us,g,cap,cur,F',h.stable hE fun b hh=>hb b (List.mem_cons_of_mem _ hh),rfl,by rw [hb g (List.mem_cons_self ..)]; exact hg,r1,r2,r3,r4,rfl⟩
theorem owL.rd {E':Stand α} (hi:∀ {H v x F},E H v x F→E' H v x F) (h:owL E e H v xs F):rdL E' H v xs F:=by
  rcases h with ⟨rfl,rfl,rfl⟩ | ⟨us,g,cap,cur,F',h,rfl,hg,r1,r2,r3,r4,rfl⟩
  · exact .inl ⟨none,0,rfl,rfl,rfl⟩
  · exact .inr ⟨us,g,0,cap,cur,e,(0,0),F',h.imp hi,rfl,hg,by simpa using r4,by omega,rfl⟩
theorem rdL.isSl (h:rdL E H v xs F):isSl v xs.length:=by
  rcases h with ⟨a,cap,rfl,rfl,_⟩ | ⟨us,g,off,cap,cur,e,fr,F',_,rfl,_⟩
  · exact ⟨a,cap,rfl,fun _=>rfl⟩
  · exact ⟨_,cap,rfl,fun h=>by cases h⟩
theorem eptr_mk (g off n cap k:Nat):eptr (.slice (some ⟨g,off,none⟩) n cap) k 1 = .pointer (some ⟨g,off + k,none⟩):=by
  unfold eptr Addr.add
  simp only [Nat.mul_one]
  split
  · rename_i h; subst h; rfl
  · rfl
theorem rdL.get (d:α) {k:Nat} (h:rdL E H v xs F) (hk:k < xs.length):∃ u F1,ldH H (eptr v k 1) = some u∧E H u (xs.getD k d) F1∧∀ b∈F1,b∈F:=by
  rcases h with ⟨a,cap,rfl,rfl,_⟩ | ⟨us,g,off,cap,cur,e,fr,F',h,rfl,hg,hw,_,rfl⟩
  · simp at hk
  · obtain ⟨u,F1,hu,hx,hb⟩:=h.get d hk
    refine ⟨u,F1,?_,hx,fun b hh=>List.mem_cons_of_mem _ (hb b hh)⟩
    rw [eptr_mk]
    simp only [ldH,cellH,hg]
    rw [← hw,List.getElem?_take,if_pos hk,List.getElem?_drop] at hu
    simpa using hu
theorem rdL.lenle (h:rdL E H v xs F):xs.length≤maxLen:=by
  rcases h with ⟨a,cap,_,rfl,_⟩ | ⟨us,g,off,cap,cur,e,fr,F',_,_,_,_,h,_⟩
  · simp
  · exact h
theorem owL.lenle (h:owL E e H v xs F):xs.length≤maxLen:=by
  rcases h with ⟨_,rfl,_⟩ | ⟨us,g,cap,cur,F',_,_,_,r1,r2,_⟩
  · simp
  · omega
end lists
structure Chg (F:List Nat) (w w':World):Prop where
  os:w'.os = w.os
  tape:w'.tape = w.tape
  output:w'.output = w.output
  size:w.heap.size≤w'.heap.size
  block:∀ k,k < w.heap.size→k∉F→w'.heap[k]? = w.heap[k]?
theorem Chg.below {F:List Nat} {w0 w w':World} {B:Nat} (h:Below B w0 w) (c:Chg F w w') (hF:∀ b∈F,B≤b) (hB:B≤w.heap.size):Below B w0 w' :=
  h.trans ⟨c.os,c.tape,c.output,c.size,fun k hk=>c.block k (by omega) fun hm=>by have:=hF k hm; omega⟩
theorem Ext.drew {w w':World} (h:Ext w w'):Ext w w'.drew:=⟨h.os,h.tape,h.output,h.size,h.block⟩
theorem Ext.of_drew {w w':World} (h:Ext w.drew w'):Ext w w':=⟨h.os,h.tape,h.output,h.size,h.block⟩
def Fr {α:Type} (E:Stand α) (B U:Nat) (H:Array Obj) (v:Value) (x:α):Prop:=∃ F,E H v x F∧F.Nodup∧∀ b∈F,B≤b∧b < U
def Rd {α:Type} (E:Stand α) (H:Array Obj) (v:Value) (x:α):Prop:=∃ F,E H v x F
section
variable {α:Type} {E:Stand α} {B U:Nat} {v:Value} {x:α} {w w':World}
theorem Fr.ext (hE:Good E) (h:Fr E B U w.heap v x) (k:Ext w w'):Fr E B U w'.heap v x:=by
  obtain ⟨F,h1,h2,h3⟩:=h
  exact ⟨F,hE.stable h1 fun b hb=>k.heap (hE.lt h1 b hb),h2,h3⟩
theorem Fr.up (hE:Good E) {H:Array Obj} (h:Fr E B U H v x):Fr E B H.size H v x:=by
  obtain ⟨F,h1,h2,h3⟩:=h
  exact ⟨F,h1,h2,fun b hb=>⟨(h3 b hb).1,hE.lt h1 b hb⟩⟩
theorem Fr.low {H:Array Obj} {B':Nat} (h:Fr E B U H v x) (hB:B'≤B):Fr E B' U H v x:=by
  obtain ⟨F,h1,h2,h3⟩:=h
  exact ⟨F,h1,h2,fun b hb=>⟨Nat.le_trans hB (h3 b hb).1,(h3 b hb).2⟩⟩
theorem Fr.chg (hE:Good E) {F:List Nat} (h:Fr E B U w.heap v x) (c:Chg F w w') (hF:∀ b∈F,b < B∨U≤b):Fr E B U w'.heap v x:=by
  obtain ⟨G,h1,h2,h3⟩:=h
  refine ⟨G,hE.stable h1 fun b hb=>c.block b (hE.lt h1 b hb) fun hm=>?_,h2,h3⟩
  have:=h3 b hb
  have:=hF b hm
  omega
theorem Rd.ext (hE:Good E) (h:Rd E w.heap v x) (k:Ext w w'):Rd E w'.heap v x:=by
  obtain ⟨F,h1⟩:=h
  exact ⟨F,hE.stable h1 fun b hb=>k.heap (hE.lt h1 b hb)⟩
end
section
variable {α:Type} {E:Stand α} {e:TypeId} {B U:Nat} {H:Array Obj} {v:Value} {xs:List α}
theorem Rd.lenle (h:Rd (rdL E) H v xs):xs.length≤9223372036854775807:=by
  obtain ⟨F,h⟩:=h
  have:=rdL.lenle h
  simp only [maxLen] at this
  omega
theorem Rd.isSl (h:Rd (rdL E) H v xs):isSl v xs.length:=by obtain ⟨F,h⟩:=h; exact rdL.isSl h
theorem Rd.get (d:α) {k:Nat} (h:Rd (rdL E) H v xs) (hk:k < xs.length):∃ u,ldH H (eptr v k 1) = some u∧Rd E H u (xs.getD k d):=by
  obtain ⟨F,h⟩:=h
  obtain ⟨u,F1,h1,h2,_⟩:=rdL.get d h hk
  exact ⟨u,h1,F1,h2⟩
theorem Rd.getI {xs:List Int} {k:Nat} (h:Rd (rdL rI) H v xs) (hk:k < xs.length):ldH H (eptr v k 1) = some (.int .i64 (xs.getD k 0))∧-9223372036854775808≤xs.getD k 0∧xs.getD k 0≤9223372036854775807:=by
  obtain ⟨u,h1,F,h2,_,h3,h4⟩:=Rd.get (0:Int) h hk
  rw [h1,h2]
  exact ⟨rfl,h3,h4⟩
theorem Fr.rd {E':Stand α} (hi:∀ {H v x F},E H v x F→E' H v x F) (h:Fr (owL E e) B U H v xs):Rd (rdL E') H v xs:=by
  obtain ⟨F,h,_⟩:=h
  exact ⟨F,h.rd hi⟩
theorem Fr.rd1 {xs:List Int} (h:Fr (owL rI e) B U H v xs):Rd (rdL rI) H v xs:=h.rd id
theorem Fr.isSl (h:Fr (owL E e) B U H v xs):isSl v xs.length:=by obtain ⟨F,h,_⟩:=h; exact (h.rd id:rdL E H v xs F).isSl
end
theorem Rd.getU {H:Array Obj} {v:Value} {xs:List UInt8} {k:Nat} (h:Rd (rdL rU) H v xs) (hk:k < xs.length):ldH H (eptr v k 1) = some (.int .u8 ((xs.getD k 0).toNat:Int))∧0≤k:=by
  obtain ⟨u,h1,F,h2,_⟩:=Rd.get (0:UInt8) h hk
  rw [h1,h2]
  exact ⟨rfl,Nat.zero_le _⟩
theorem ret_int {a b:Int} (h:a = b):Ending.returned (.int .i64 a) = .returned (.int .i64 b):=by rw [h]
theorem ret_bool {a b:Bool} (h:a = b):Ending.returned (.bool a) = .returned (.bool b):=by rw [h]
theorem good_u:Good (rdL rU):=good_rdL good_rU
theorem g1:Good (rdL rI):=good_rdL good_rI
theorem g2:Good (rdL (rdL rI)):=good_rdL g1
theorem g3:Good (rdL (rdL (rdL rI))):=good_rdL g2
theorem o1 {e:TypeId}:Good (owL rI e):=good_owL good_rI
theorem o2 {e e':TypeId}:Good (owL (owL rI e) e'):=good_owL o1
theorem o3 {e e' e'':TypeId}:Good (owL (owL (owL rI e) e') e''):=good_owL o2
end Go.Proofs.YtlbefjfhfodnlaaGreatDoor
namespace Go.Proofs.YtlbefjfhfodnlaaGreatDoor
open Go Go.RowKit
theorem ext_alloc (w:World) (o:Obj):Ext w (w.alloc o):=(Below.refl _ _).alloc (Nat.le_refl _) o
theorem owL_new {α:Type} {E:Stand α} (hE:Good E) {e:TypeId} {w:World} {us:List Value} {xs:List α} {F:List Nat} {cur:Array Value} (h:els E w.heap us xs F) (hm:cur.size≤maxLen)
    (hc:cur.toList.take xs.length = us) (hl:xs.length≤cur.size) :
    owL E e (w.alloc (.cells cur e)).heap (.slice (some ⟨w.heap.size,0,none⟩) xs.length cur.size) xs (w.heap.size :: F):=by
  refine .inr ⟨us,w.heap.size,cur.size,cur,F,h.stable hE fun b hb=>?_,rfl,?_,hl,hm,rfl,hc,rfl⟩
  · exact Below.heap_alloc _ _ _ (h.lt hE b hb)
  · show (w.heap.push _)[w.heap.size]? = _
    simp
theorem mapRange {f:Nat→Value} (n:Nat):Array.map f (Array.range n) = ((List.range n).map f).toArray:=by
  apply Array.ext'; simp
section run
variable {P:Program} {w:World}
theorem run_bs0 {t e:TypeId} {s b:Nat} {z:Value} (ht:P.underlying t = some (.slice e)) (hi:TI P e s z b) :
    (Instr.buildSlice t 0 #[]).run P w = .ok (.slice (some ⟨w.heap.size,0,none⟩) 0 0) (w.alloc (.cells #[] e)):=by
  obtain ⟨i,h1,h2,h3,h4⟩:=hi.get
  simp [Instr.buildSlice,run_underlying ht,sizeOf,typeInfo,h1,Instr.fill,newRow,mapRange]
theorem run_bs1 {t e:TypeId} {b:Nat} {z u:Value} (ht:P.underlying t = some (.slice e)) (hi:TI P e 1 z b) (hu:u.cells = #[u]) (hz:z.cells = #[z]) :
    (Instr.buildSlice t 1 #[(0,u)]).run P w = .ok (.slice (some ⟨w.heap.size,0,none⟩) 1 1) (w.alloc (.cells #[u] e)):=by
  obtain ⟨i,h1,h2,h3,h4⟩:=hi.get
  simp [Instr.buildSlice,run_underlying ht,sizeOf,typeInfo,zeroValue,h1,h2,h3,Instr.fill,newRow,hu,hz,mapRange,List.range_succ]
end run
section append
variable {P:Program} {w:World} {α:Type} {E:Stand α} {t ty e:TypeId} {b:Nat} {z:Value}
theorem run_app (hE:Good E) (ht:P.underlying t = some (.slice e)) (hi:TI P e 1 z b) (hz:z.cells = #[z]) {v:Value} {xs:List α} {F:List Nat} (hv:owL E e w.heap v xs F) (hn:F.Nodup)
    {a:Value} {ys:List α} {G us:List Nat} (ha:rdL E w.heap a ys G) (hus:us = G.drop 1) (hbytes:(xs.length + ys.length) * b≤140737488355328) (hmx:xs.length + ys.length≤maxLen)
    (hdis:∀ c∈us,c∉F) (hnu:us.Nodup) :
    ∃ v' w' F',(Builtin.append_ #[t,t] ty #[v,a]).run P w = .ok v' w'∧owL E e w'.heap v' (xs++ys) F'∧F'.Nodup∧(∀ c∈F',c∈F∨c∈us∨c = w.heap.size)∧Chg (F.take 1) w w':=by
  obtain ⟨i,h1,h2,h3,h4⟩:=hi.get
  subst h4
  have hsmall:xs.length + ys.length≤9223372036854775807:=by simp only [maxLen] at hmx; omega
  rcases ha with ⟨a0,cap0,rfl,rfl,rfl⟩ | ⟨asq,g,off,cap,cur,e',fr,G',hels,rfl,hg,hw,_,rfl⟩
  · -- nothing is appended
    have hle:owL E e w.heap v xs F:=hv
    have hsl:∃ b0 c0,v = .slice b0 xs.length c0∧xs.length≤c0∧(b0 = none→xs.length = 0):=by
      rcases hv with ⟨rfl,rfl,_⟩ | ⟨_,g,cap,cur,F',_,rfl,_,hh,_⟩
      · exact ⟨none,0,rfl,by simp,fun _=>rfl⟩
      · exact ⟨_,cap,rfl,hh,fun h=>by cases h⟩
    obtain ⟨b0,c0,rfl,hc0,hb0⟩:=hsl
    refine ⟨_,w,F,?_,by simpa using hle,hn,fun c hc=>.inl hc,⟨rfl,rfl,rfl,Nat.le_refl _,fun _ _ _=>rfl⟩⟩
    have hf:(Builtin.firstCells 1 0 (.slice a0 0 cap0)).run P w = .ok #[] w:=by
      cases a0 <;> simp [Builtin.firstCells,loadCells,loadCellsFrom]
    cases b0 with
    | none=>simp [Builtin.append_,run_underlying ht,sizeOf,typeInfo,h1,h3,Builtin.lenOf,hc0,hf]
    | some a1=>simp [Builtin.append_,run_underlying ht,sizeOf,typeInfo,h1,h3,Builtin.lenOf,hc0,hf,storeCells]
  · simp only [List.drop_succ_cons,List.drop_zero] at hus
    subst hus
    have hasl:asq.length = ys.length:=hels.length
    have hnews:∀ j u,asq[j]? = some u→w.cell? ((⟨g,off,none⟩:Addr).add j) = some u:=by
      intro j u hj
      have e1:(⟨g,off,none⟩:Addr).add j = ⟨g,off + j,none⟩:=by
        unfold Addr.add
        split
        · rename_i hh; subst hh; rfl
        · rfl
      rw [e1,cell_cellH]
      simp only [cellH,hg]
      rw [← hw,List.getElem?_take] at hj
      split at hj
      · rw [List.getElem?_drop] at hj; simpa using hj
      · cases hj
    have h1c:∀ u∈asq,u.oneCell' = true:=hels.one hE
    have hl1:asq.length = ys.length * i.size:=by rw [h3,hasl]; omega
    -- the new block
    have made:∀ (w1:World) (ous:List Value) (F0:List Nat) (rest:Nat),w1.heap = w.heap→w1.os = w.os→w1.tape = w.tape→w1.output = w.output→els E w.heap ous xs F0→(∀ c∈F0,c∈F)→F0.Nodup →
        (xs.length + ys.length + rest)≤maxLen→∀ (ow:List Nat),
        ∃ F',owL E e (w1.alloc (.cells (ous.toArray++asq.toArray++Builtin.zeroCells z.cells rest) e)).heap (.slice (some ⟨w.heap.size,0,none⟩) (xs.length + ys.length) (xs.length + ys.length + rest)) (xs++ys) F'∧F'.Nodup ∧
          (∀ c∈F',c∈F∨c∈us∨c = w.heap.size)∧Chg ow w (w1.alloc (.cells (ous.toArray++asq.toArray++Builtin.zeroCells z.cells rest) e)):=by
      intro w1 ous F0 rest hh ho htp hop hou hsub hnd hmax ow
      have happ:=hou.append hels
      have hzc:(Builtin.zeroCells z.cells rest).size = rest:=by simp [Builtin.zeroCells,hz]
      have hsz:(ous.toArray++asq.toArray++Builtin.zeroCells z.cells rest).size = xs.length + ys.length + rest:=by
        simp only [Array.size_append,List.size_toArray,hzc,hasl,hou.length]
      have hnew:=owL_new (e:=e) (w:=w1) hE (us:=ous++asq) (xs:=xs++ys) (F:=F0++us) (cur:=ous.toArray++asq.toArray++Builtin.zeroCells z.cells rest)
        (by rw [hh]; exact happ) (by rw [hsz]; exact hmax) (by
          rw [Array.toList_append,Array.toList_append]
          rw [show (xs++ys).length = (ous++asq).length from by simp [hou.length,hasl]]
          exact List.take_left) (by rw [hsz,List.length_append]; omega)
      rw [hh,hsz,List.length_append] at hnew
      refine ⟨_,hnew,?_,?_,?_⟩
      · rw [List.nodup_cons]
        refine ⟨fun hm=>?_,?_⟩
        · have:=happ.lt hE _ hm; omega
        · rw [List.nodup_append]
          refine ⟨hnd,hnu,?_⟩
          rintro x hx y hy rfl
          exact hdis x hy (hsub x hx)
      · intro c hc
        rcases List.mem_cons.1 hc with rfl | hc
        · exact .inr (.inr rfl)
        · rcases List.mem_append.1 hc with hc | hc
          · exact .inl (hsub c hc)
          · exact .inr (.inl hc)
      · refine ⟨ho,htp,hop,?_,fun k hk _=>?_⟩
        · show w.heap.size≤(w1.heap.push _).size
          rw [hh]; simp
        · have:=Below.heap_alloc w1 (.cells (ous.toArray++asq.toArray++Builtin.zeroCells z.cells rest) e) k (by rw [hh]; exact hk)
          rw [this,hh]
    rcases hv with ⟨rfl,rfl,rfl⟩ | ⟨ous,gv,capv,curv,F0,hels0,rfl,hgv,hle,hcm,hcs,htk,rfl⟩
    · -- nil
      by_cases hy:ys.length = 0
      · have hy0:ys = []:=List.eq_nil_of_length_eq_zero hy
        subst hy0
        have has0:asq = []:=List.eq_nil_of_length_eq_zero hasl
        subst has0
        rw [show us = [] from hels]
        refine ⟨.slice none 0 0,w,[],?_,.inl ⟨rfl,rfl,rfl⟩,List.nodup_nil,fun c hc=>(by cases hc),⟨rfl,rfl,rfl,Nat.le_refl _,fun _ _ _=>rfl⟩⟩
        simp [Builtin.append_,run_underlying ht,sizeOf,typeInfo,h1,Builtin.lenOf,Builtin.firstCells,loadCells,loadCellsFrom]
      · have hr:=run_append_nil (P:=P) w t ty e i z ht h1 h2 ⟨g,off,none⟩ ys.length cap asq hl1 hnews (by omega) (by simp at hsmall; omega) (by simp only [List.length_nil,Nat.zero_add] at hbytes; omega)
        have hge:=grownCap_ge w ys.length 0 e
        have hgm:=grownCap_le_maxLen w ys.length 0 e (by simpa using hmx)
        obtain ⟨F',q1,q2,q3,q4⟩:=made w.drew [] [] (grownCap w ys.length 0 e - ys.length) rfl rfl rfl rfl rfl (fun c hc=>by cases hc) List.nodup_nil (by simp; omega) (List.take 1 [])
        refine ⟨_,_,F',hr,?_,q2,q3,?_⟩
        · have ea:(([]:List α).length + ys.length + (grownCap w ys.length 0 e - ys.length)) = grownCap w ys.length 0 e:=by simp; omega
          rw [ea] at q1
          simpa using q1
        · simpa using q4
    · by_cases hroom:xs.length + ys.length≤capv
      · -- room
        have hr:=run_append_room (P:=P) w t ty e i ht h1 gv xs.length capv curv hgv ⟨g,off,none⟩ ys.length cap asq hl1 hnews h1c hroom (by rw [h3,hasl,hcs]; omega)
        rw [h3] at hr
        refine ⟨_,_,gv :: (F0++us),hr,?_,?_,?_,?_⟩
        · have hgF:gv∉F0:=(List.nodup_cons.1 hn).1
          have hgU:gv∉us:=fun hm=>hdis gv hm (List.mem_cons_self ..)
          refine .inr ⟨ous++asq,gv,capv,_,F0++us,?_,by rw [List.length_append],setRow_heap w gv curv _ e _ hgv,by rw [List.length_append]; exact hroom,hcm,?_,?_,rfl⟩
          · refine (hels0.append hels).stable hE fun c hc=>setRow_other w gv c _ fun hcg=>?_
            subst hcg
            rcases List.mem_append.1 hc with hc | hc
            · exact hgF hc
            · exact hgU hc
          · simp only [List.size_toArray,List.length_append,List.length_take,List.length_drop,Array.length_toList]
            omega
          · rw [List.length_append]
            simp only [Nat.mul_one]
            rw [htk,show xs.length + ys.length = (ous++asq).length from by simp [hels0.length,hasl]]
            exact List.take_left
        · rw [List.nodup_cons,List.nodup_append]
          have hn':=List.nodup_cons.1 hn
          refine ⟨?_,hn'.2,hnu,?_⟩
          · intro hm
            rcases List.mem_append.1 hm with hm | hm
            · exact hn'.1 hm
            · exact hdis gv hm (List.mem_cons_self ..)
          · rintro x hx y hy rfl
            exact hdis x hy (List.mem_cons_of_mem _ hx)
        · intro c hc
          rcases List.mem_cons.1 hc with rfl | hc
          · exact .inl (List.mem_cons_self ..)
          · rcases List.mem_append.1 hc with hc | hc
            · exact .inl (List.mem_cons_of_mem _ hc)
            · exact .inr (.inl hc)
        · refine ⟨rfl,rfl,rfl,by simp,fun k _ hk=>setRow_other w gv k _ fun hh=>hk (by simp [hh])⟩
      · -- grown
        have holds:∀ j u,ous[j]? = some u→w.cell? ((⟨gv,0,none⟩:Addr).add j) = some u:=by
          intro j u hj
          have e1:(⟨gv,0,none⟩:Addr).add j = ⟨gv,j,none⟩:=by
            unfold Addr.add
            split
            · rename_i hh; subst hh; rfl
            · simp
          rw [e1,cell_cellH]
          simp only [cellH,hgv]
          rw [← htk,List.getElem?_take] at hj
          split at hj
          · simpa using hj
          · cases hj
        have hr:=run_append_grow (P:=P) w t ty e i z ht h1 h2 ⟨gv,0,none⟩ xs.length capv ous (by rw [h3,hels0.length]; omega) holds ⟨g,off,none⟩ ys.length cap asq hl1 hnews (by omega) (by omega) (growslice_fits (by omega) hbytes)
        have hge:=grownCap_ge w (xs.length + ys.length) capv e
        have hgm:=grownCap_le_maxLen w (xs.length + ys.length) capv e hmx
        obtain ⟨F',q1,q2,q3,q4⟩:=made w.drew ous F0 (grownCap w (xs.length + ys.length) capv e - (xs.length + ys.length)) rfl rfl rfl rfl hels0 (fun c hc=>List.mem_cons_of_mem _ hc) (List.nodup_cons.1 hn).2 (by omega) (List.take 1 (gv :: F0))
        refine ⟨_,_,F',hr,?_,q2,q3,q4⟩
        have ea:(xs.length + ys.length + (grownCap w (xs.length + ys.length) capv e - (xs.length + ys.length))) = grownCap w (xs.length + ys.length) capv e:=by omega
        rw [ea] at q1
        exact q1
theorem run_appI (ht:P.underlying t = some (.slice e)) (hi:TI P e 1 z b) (hz:z.cells = #[z]) {v:Value} {xs:List Int} {B U:Nat} (hv:Fr (owL rI e) B U w.heap v xs) (hB:B≤w.heap.size)
    {a:Value} {ys:List Int} (ha:Rd (rdL rI) w.heap a ys) (hbytes:(xs.length + ys.length) * b≤140737488355328) (hmx:xs.length + ys.length≤maxLen) :
    ∃ v' w' F,(Builtin.append_ #[t,t] ty #[v,a]).run P w = .ok v' w'∧Fr (owL rI e) B w'.heap.size w'.heap v' (xs++ys)∧Chg F w w'∧∀ c∈F,B≤c∧c < U:=by
  obtain ⟨F,h1,h2,h3⟩:=hv
  obtain ⟨G,hG⟩:=ha
  have hGe:G.drop 1 = []:=by
    rcases hG with ⟨_,_,_,_,rfl⟩ | ⟨us,g,off,cap,cur,e',fr,F',hels,_,_,_,_,rfl⟩
    · rfl
    · show F' = []
      have:∀ {us:List Value} {xs:List Int} {F:List Nat},els rI w.heap us xs F→F = []:=by
        intro us xs
        induction us generalizing xs with
        | nil=>intro F h; cases xs with
          | nil=>exact h
          | cons=>exact h.elim
        | cons u us ih =>
          intro F h
          cases xs with
          | nil=>exact h.elim
          | cons x xs =>
            obtain ⟨F1,F2,rfl,q1,q2⟩:=h
            rw [q1.2.1,ih q2]; rfl
      exact this hels
  obtain ⟨v',w',F',r1,r2,r3,r4,r5⟩:=run_app (P:=P) (ty:=ty) good_rI ht hi hz h1 h2 hG rfl hbytes hmx (by rw [hGe]; intro c hc; cases hc) (by rw [hGe]; exact List.nodup_nil)
  refine ⟨v',w',F.take 1,r1,⟨F',r2,r3,fun c hc=>?_⟩,r5,fun c hc=>h3 c (List.mem_of_mem_take hc)⟩
  have hlt:=o1.lt r2 c hc
  refine ⟨?_,hlt⟩
  rcases r4 c hc with hh | hh | hh
  · exact (h3 c hh).1
  · rw [hGe] at hh; cases hh
  · omega
theorem run_appF (hE:Good E) (ht:P.underlying t = some (.slice e)) (hi:TI P e 1 z b) (hz:z.cells = #[z]) {v:Value} {xs:List α} {B U:Nat} (hv:Fr (owL E e) B U w.heap v xs) (hB:B≤w.heap.size)
    {a:Value} {ys:List α} {B' U':Nat} (ha:Fr (owL E e) B' U' w.heap a ys) (hU:U≤B') (hBB:B≤B') (hbytes:(xs.length + ys.length) * b≤140737488355328) (hmx:xs.length + ys.length≤maxLen) :
    ∃ v' w' F,(Builtin.append_ #[t,t] ty #[v,a]).run P w = .ok v' w'∧Fr (owL E e) B w'.heap.size w'.heap v' (xs++ys)∧Chg F w w'∧∀ c∈F,B≤c∧c < U:=by
  obtain ⟨F,h1,h2,h3⟩:=hv
  obtain ⟨G,g1,g2,g3⟩:=ha
  have gd:∀ c∈G.drop 1,c∈G:=fun c hc=>List.mem_of_mem_drop hc
  obtain ⟨v',w',F',r1,r2,r3,r4,r5⟩:=run_app (P:=P) (ty:=ty) hE ht hi hz h1 h2 (g1.rd id) rfl hbytes hmx (fun c hc hF=>by have:=g3 c (gd c hc); have:=h3 c hF; omega)
    ((List.drop_sublist 1 G).nodup g2)
  refine ⟨v',w',F.take 1,r1,⟨F',r2,r3,fun c hc=>?_⟩,r5,fun c hc=>h3 c (List.mem_of_mem_take hc)⟩
  have hlt:=(good_owL hE).lt r2 c hc
  refine ⟨?_,hlt⟩
  rcases r4 c hc with hh | hh | hh
  · exact (h3 c hh).1
  · have:=g3 c (gd c hh); omega
  · omega
end append
section ops
variable {P:Program} {ops:Array Oper} {w0:World} {Q:Act→World→Prop} {os:List Oper} {ks:List Nat} {N:Nat} {ρ:Nat→Value} {w:World}
  {d:Nat} {ty:TypeId} {pos:String} {aft:Array Edge} {g:Option (Nat × Bool)} {t e:TypeId} {z:Value} {b:Nat}
theorem r_nil {α:Type} (E:Stand α) (hE:Good E) {s:Nat} (ht:P.underlying t = some (.slice e)) (hi:TI P e s z b) (hu:Up ops N ρ ⟨some d,.buildSlice t 0 #[],ty,pos,aft,g⟩)
    (h:∀ v w1,Ext w w1→w1.heap.size = w.heap.size + 1→Fr (owL E e) w.heap.size w1.heap.size w1.heap v ([]:List α)→LW P ops w0 Q os ks (mk N (upd ρ d v)) w1) :
    LW P ops w0 Q (⟨some d,.buildSlice t 0 #[],ty,pos,aft,g⟩ :: os) (3 :: ks) (mk N ρ) w:=by
  have hrun:(execOp (evF N ρ) ⟨some d,.buildSlice t 0 #[],ty,pos,aft,g⟩).run P w = .ok (.value (.slice (some ⟨w.heap.size,0,none⟩) 0 0)) (w.alloc (.cells #[] e)):=by
    simp only [execOp,List.map_toArray,List.map_nil,Sem.run_bind,run_bs0 ht hi,Result.andThen_ok,Sem.run_pure]
  refine lw_r rfl hu _ _ hrun (ext_alloc _ _) (h _ _ (ext_alloc _ _) (by simp) ?_)
  refine ⟨_,owL_new (e:=e) (w:=w) hE (us:=[]) (xs:=([]:List α)) (F:=[]) (cur:=#[]) rfl (by simp) rfl (by simp),by simp,fun c hc=>?_⟩
  simp at hc
  subst hc
  simp
theorem r_one {α:Type} {E:Stand α} (hE:Good E) {x:Operand} {u:Value} {y:α} {B U:Nat} (ht:P.underlying t = some (.slice e)) (hi:TI P e 1 z b) (hz:z.cells = #[z]) (hx:evF N ρ x = u) (hy:Fr E B U w.heap u y) (hB:B≤w.heap.size)
    (hu:Up ops N ρ ⟨some d,.buildSlice t 1 #[(0,x)],ty,pos,aft,g⟩)
    (h:∀ v w1,Ext w w1→w1.heap.size = w.heap.size + 1→Fr (owL E e) B w1.heap.size w1.heap v [y]→LW P ops w0 Q os ks (mk N (upd ρ d v)) w1) :
    LW P ops w0 Q (⟨some d,.buildSlice t 1 #[(0,x)],ty,pos,aft,g⟩ :: os) (3 :: ks) (mk N ρ) w:=by
  obtain ⟨F,h1,h2,h3⟩:=hy
  have hr:=run_bs1 (P:=P) (w:=w) ht hi (hE.cells h1) hz
  have hrun:(execOp (evF N ρ) ⟨some d,.buildSlice t 1 #[(0,x)],ty,pos,aft,g⟩).run P w = .ok (.value (.slice (some ⟨w.heap.size,0,none⟩) 1 1)) (w.alloc (.cells #[u] e)):=by
    simp only [execOp,List.map_toArray,List.map_cons,List.map_nil,Sem.run_bind,hx,hr,Result.andThen_ok,Sem.run_pure]
  refine lw_r rfl hu _ _ hrun (ext_alloc _ _) (h _ _ (ext_alloc _ _) (by simp) ?_)
  have hn:=owL_new (e:=e) (w:=w) hE (us:=[u]) (xs:=[y]) (F:=F++[]) (cur:=#[u]) ⟨F,[],rfl,h1,rfl⟩ (by simp [maxLen]) rfl (by simp)
  refine ⟨_,hn,?_,fun c hc=>?_⟩
  · rw [List.append_nil,List.nodup_cons]
    exact ⟨fun hm=>by have:=hE.lt h1 _ hm; omega,h2⟩
  · have hlt:=(good_owL hE).lt hn c hc
    refine ⟨?_,hlt⟩
    rcases List.mem_cons.1 hc with rfl | hc
    · exact hB
    · exact (h3 c (by simpa using hc)).1
theorem frI (B U:Nat) (H:Array Obj) (x:Int) (h:-9223372036854775808≤x∧x≤9223372036854775807):Fr rI B U H (.int .i64 x) x:=⟨[],⟨rfl,rfl,h.1,h.2⟩,List.nodup_nil,fun c hc=>by cases hc⟩
theorem r_make {x y:Operand} {n:Nat} {c:Int} (ht:P.underlying t = some (.slice e)) (hi:TI P e 1 (.int .i64 0) 8) (hx:evF N ρ x = .int .i64 c) (hy:evF N ρ y = .int .i64 c) (hc:c = (n:Int)) (hn:n≤35184372088832)
    (hu:Up ops N ρ ⟨some d,.makeSlice t x y,ty,pos,aft,g⟩)
    (h:∀ v w1,Ext w w1→w1.heap.size = w.heap.size + 1→Fr (owL rI e) w.heap.size w1.heap.size w1.heap v (List.replicate n 0)→LW P ops w0 Q os ks (mk N (upd ρ d v)) w1) :
    LW P ops w0 Q (⟨some d,.makeSlice t x y,ty,pos,aft,g⟩ :: os) (3 :: ks) (mk N ρ) w:=by
  subst hc
  obtain ⟨i,h1,h2,h3,h4⟩:=hi.get
  have hr:=run_make (P:=P) w t e i _ ht h1 h2 .i64 .i64 n n (by omega) (by omega) (by rw [h4]; omega) (by omega)
  have hrun:(execOp (evF N ρ) ⟨some d,.makeSlice t x y,ty,pos,aft,g⟩).run P w = .ok (.value (.slice (some ⟨w.heap.size,0,none⟩) n n)) (w.alloc (.cells (madeCells (Value.int .i64 0).cells ((n:Int).toNat * i.size)) e)):=by
    simp only [execOp,Sem.run_bind,hx,hy,hr,Result.andThen_ok,Sem.run_pure,Int.toNat_natCast]
  refine lw_r rfl hu _ _ hrun (ext_alloc _ _) (h _ _ (ext_alloc _ _) (by simp) ?_)
  have hels:∀ n,els rI w.heap (List.replicate n (.int .i64 0)) (List.replicate n (0:Int)) []:=by
    intro n
    induction n with
    | zero=>rfl
    | succ n ih=>exact ⟨[],[],rfl,⟨rfl,rfl,by omega,by omega⟩,ih⟩
  have hmc:(madeCells (Value.int .i64 0).cells ((n:Int).toNat * i.size)).toList = List.replicate n (.int .i64 0):=by
    rw [h3]
    simp only [Int.toNat_natCast,Nat.mul_one,madeCells,Value.cells]
    apply List.ext_getElem
    · simp
    · intro j q1 q2
      simp [Nat.mod_one]
  have hcs:(madeCells (Value.int .i64 0).cells ((n:Int).toNat * i.size)).size = n:=by rw [size_madeCells,h3]; simp
  have hn':=owL_new (e:=e) (w:=w) good_rI (us:=List.replicate n (.int .i64 0)) (xs:=List.replicate n (0:Int)) (F:=[]) (cur:=madeCells (Value.int .i64 0).cells ((n:Int).toNat * i.size)) (hels n) (by rw [hcs]; simp only [maxLen]; omega)
    (by rw [hmc,List.length_replicate]; exact List.take_of_length_le (by simp)) (by rw [hcs]; simp)
  rw [hcs] at hn'
  simp only [List.length_replicate] at hn'
  refine ⟨_,by simpa using hn',by simp,fun c hc=>?_⟩
  simp at hc
  subst hc
  simp
theorem e_appI {x y:Operand} {v a:Value} {xs ys:List Int} {B U:Nat} (ht:P.underlying t = some (.slice e)) (hi:TI P e 1 z b) (hz:z.cells = #[z]) (hx:evF N ρ x = v) (hy:evF N ρ y = a) (hv:Fr (owL rI e) B U w.heap v xs) (hB:B≤w.heap.size)
    (ha:Rd (rdL rI) w.heap a ys) (hbytes:(xs.length + ys.length) * b≤140737488355328) (hmx:xs.length + ys.length≤maxLen) (hu:Up ops N ρ ⟨some d,.call ⟨.builtin .append,#[x,y],#[t,t]⟩,ty,pos,aft,g⟩)
    (h:∀ v1 w1 F,Chg F w w1→(∀ c∈F,B≤c∧c < U)→Fr (owL rI e) B w1.heap.size w1.heap v1 (xs++ys)→LW P ops w0 Q os ks (mk N (upd ρ d v1)) w1) :
    LW P ops w0 Q (⟨some d,.call ⟨.builtin .append,#[x,y],#[t,t]⟩,ty,pos,aft,g⟩ :: os) (4 :: ks) (mk N ρ) w:=by
  obtain ⟨v1,w1,F,r1,r2,r3,r4⟩:=run_appI (P:=P) (ty:=ty) ht hi hz hv hB ha hbytes hmx
  exact lw_e rfl hu v1 w1 (by simp only [execOp,resolve,invoke,builtin,List.map_toArray,List.map_cons,List.map_nil,Sem.run_bind,Sem.run_pure,Result.andThen_ok,hx,hy,r1]) (h v1 w1 F r3 r4 r2)
theorem e_appF {α:Type} {E:Stand α} (hE:Good E) {x y:Operand} {v a:Value} {xs ys:List α} {B U B' U':Nat} (ht:P.underlying t = some (.slice e)) (hi:TI P e 1 z b) (hz:z.cells = #[z]) (hx:evF N ρ x = v) (hy:evF N ρ y = a) (hv:Fr (owL E e) B U w.heap v xs) (hB:B≤w.heap.size)
    (ha:Fr (owL E e) B' U' w.heap a ys) (hU:U≤B') (hBB:B≤B') (hbytes:(xs.length + ys.length) * b≤140737488355328) (hmx:xs.length + ys.length≤maxLen) (hu:Up ops N ρ ⟨some d,.call ⟨.builtin .append,#[x,y],#[t,t]⟩,ty,pos,aft,g⟩)
    (h:∀ v1 w1 F,Chg F w w1→(∀ c∈F,B≤c∧c < U)→Fr (owL E e) B w1.heap.size w1.heap v1 (xs++ys)→LW P ops w0 Q os ks (mk N (upd ρ d v1)) w1) :
    LW P ops w0 Q (⟨some d,.call ⟨.builtin .append,#[x,y],#[t,t]⟩,ty,pos,aft,g⟩ :: os) (4 :: ks) (mk N ρ) w:=by
  obtain ⟨v1,w1,F,r1,r2,r3,r4⟩:=run_appF (P:=P) (ty:=ty) hE ht hi hz hv hB ha hU hBB hbytes hmx
  exact lw_e rfl hu v1 w1 (by simp only [execOp,resolve,invoke,builtin,List.map_toArray,List.map_cons,List.map_nil,Sem.run_bind,Sem.run_pure,Result.andThen_ok,hx,hy,r1]) (h v1 w1 F r3 r4 r2)
end ops
end Go.Proofs.YtlbefjfhfodnlaaGreatDoor
namespace Go.Proofs.YtlbefjfhfodnlaaGreatDoor
open Go Go.RowKit
section els
variable {α:Type} {E:Stand α} {H:Array Obj}
theorem els.set:∀ {us:List Value} {xs:List α} {F G:List Nat} {k:Nat} {u:Value} {y:α},els E H us xs F→k < xs.length→F.Nodup→E H u y G→G.Nodup→(∀ b∈G,b∉F) →
    ∃ F',els E H (us.set k u) (xs.set k y) F'∧F'.Nodup∧∀ b∈F',b∈F∨b∈G
  | u0 :: us,x :: xs,_,G,0,u,y,⟨F1,F2,rfl,h1,h2⟩,_,hn,hy,hg,hd=>by
    have hn':=List.nodup_append.1 hn
    refine ⟨G++F2,⟨G,F2,rfl,hy,h2⟩,List.nodup_append.2 ⟨hg,hn'.2.1,?_⟩,fun b hb=>(List.mem_append.1 hb).elim .inr fun h=>.inl (List.mem_append_right _ h)⟩
    rintro a ha b hb rfl
    exact hd a ha (List.mem_append_right _ hb)
  | u0 :: us,x :: xs,_,G,k + 1,u,y,⟨F1,F2,rfl,h1,h2⟩,hk,hn,hy,hg,hd=>by
    have hn':=List.nodup_append.1 hn
    obtain ⟨F',q1,q2,q3⟩:=els.set h2 (by simpa using hk) hn'.2.1 hy hg fun b hb hc=>hd b hb (List.mem_append_right _ hc)
    refine ⟨F1++F',⟨F1,F',rfl,h1,q1⟩,List.nodup_append.2 ⟨hn'.1,q2,?_⟩,fun b hb=>?_⟩
    · rintro a ha b hb rfl
      rcases q3 a hb with hh | hh
      · exact hn'.2.2 a ha a hh rfl
      · exact hd a hh (List.mem_append_left _ ha)
    · rcases List.mem_append.1 hb with hh | hh
      · exact .inl (List.mem_append_left _ hh)
      · rcases q3 b hh with h' | h'
        · exact .inl (List.mem_append_right _ h')
        · exact .inr h'
  | [],[],_,_,_,_,_,_,hk,_,_,_,_=>by simp at hk
  | [],_ :: _,_,_,_,_,_,h,_,_,_,_,_=>h.elim
  | _ :: _,[],_,_,_,_,_,h,_,_,_,_,_=>h.elim
end els
def rV:Stand Value:=fun _ v x F=>v = x∧F = []∧v.cells = #[v]∧v.oneCell' = true
theorem good_rV:Good rV:=⟨fun h=>h.2.2.1,fun h=>h.2.2.2,fun h b hb=>(by rw [h.2.1] at hb; cases hb),fun h _=>h⟩
section run
variable {P:Program} {w:World}
theorem run_store1 {st:TypeId} (hst:(P.info? st).map (·.size) = some 1) {g j:Nat} {cur:Array Value} {e:TypeId} (hg:w.heap[g]? = some (.cells cur e (0,0))) (hj:j < cur.size) {u:Value} (hc:u.cells = #[u]) (h1:u.oneCell' = true) :
    (Instr.storeAt st (.pointer (some ⟨g,j,none⟩)) u).run P w = .ok () (w.setCell ⟨g,j,none⟩ u):=by
  obtain ⟨i,hi1,hi2⟩:=Option.map_eq_some_iff.1 hst
  have hcell:w.cell? ⟨g,j,none⟩ = some cur[j]:=by
    rw [cell_cellH]; simp [cellH,hg,hj]
  have hfz:w.frozen? ⟨g,j,none⟩ = false:=by
    simp only [World.frozen?,hg]; simp
  have hadd:(⟨g,j,none⟩:Addr).add 0 = ⟨g,j,none⟩:=rfl
  have hst1:(store ⟨g,j,none⟩ u).run P w = .ok () (w.setCell ⟨g,j,none⟩ u):=by
    rw [run_store P w _ _ _ h1,hcell]
    simp only [hfz]
    rfl
  simp only [Instr.storeAt,Instr.sureAddr,Sem.run_bind,Sem.run_pure,Result.andThen_ok,storeVar,sizeOf,typeInfo,run_program,hi1,hi2,hc]
  simp [storeCells,hadd,hst1]
theorem chg_set (w:World) (g j:Nat) (u:Value):Chg [g] w (w.setCell ⟨g,j,none⟩ u) :=
  ⟨rfl,rfl,rfl,by simp [World.setCell],fun k hk hne=>Below.heap_setCell _ _ _ _ (by simpa using hne)⟩
theorem heap_set {w:World} {g j:Nat} {u:Value} {cur:Array Value} {e:TypeId} (hg:w.heap[g]? = some (.cells cur e (0,0))):(w.setCell ⟨g,j,none⟩ u).heap[g]? = some (.cells (cur.setIfInBounds j u) e (0,0)):=by
  simp only [World.setCell,Array.getElem?_modify]
  simp [hg]
theorem run_set {α:Type} {E:Stand α} (hE:Good E) {st e:TypeId} (hst:(P.info? st).map (·.size) = some 1) {v:Value} {xs:List α} {F:List Nat} (hv:owL E e w.heap v xs F) (hn:F.Nodup) {j:Nat} (hj:j < xs.length)
    {u:Value} {y:α} {G:List Nat} (hy:E w.heap u y G) (hg:G.Nodup) (hd:∀ b∈G,b∉F) :
    ∃ w' F',(Instr.storeAt st (eptr v j 1) u).run P w = .ok () w'∧owL E e w'.heap v (xs.set j y) F'∧F'.Nodup∧(∀ b∈F',b∈F∨b∈G)∧Chg (F.take 1) w w'∧w'.heap.size = w.heap.size:=by
  rcases hv with ⟨rfl,rfl,rfl⟩ | ⟨us,g,cap,cur,F0,hels,rfl,hgc,r1,r2,r3,r4,rfl⟩
  · simp at hj
  · have hn':=List.nodup_cons.1 hn
    obtain ⟨F',q1,q2,q3⟩:=hels.set hj hn'.2 hy hg fun b hb hc=>hd b hb (List.mem_cons_of_mem _ hc)
    have hgF':g∉F':=fun hm=>(q3 g hm).elim hn'.1 fun h=>hd g h (List.mem_cons_self ..)
    rw [eptr_mk,Nat.zero_add]
    refine ⟨_,g :: F',run_store1 hst hgc (by omega) (hE.cells hy) (hE.one hy),.inr ⟨us.set j u,g,cap,_,F',?_,by simp,heap_set hgc,by simpa using r1,r2,by simpa using r3,?_,rfl⟩,List.nodup_cons.2 ⟨hgF',q2⟩,fun b hb=>?_,chg_set _ _ _ _,by simp [World.setCell]⟩
    · exact q1.stable hE fun c hc=>Below.heap_setCell _ _ _ _ fun he=>by
        simp only at he
        subst he
        exact hgF' hc
    · rw [List.length_set,Array.toList_setIfInBounds,List.take_set,r4]
    · rcases List.mem_cons.1 hb with rfl | hb
      · exact .inl (List.mem_cons_self ..)
      · exact (q3 b hb).elim (fun h=>.inl (List.mem_cons_of_mem _ h)) .inr
end run
section ops
variable {P:Program} {ops:Array Oper} {w0:World} {Q:Act→World→Prop} {os:List Oper} {ks:List Nat} {N:Nat} {ρ:Nat→Value} {w:World}
  {d:Nat} {ty:TypeId} {pos:String} {aft:Array Edge} {g:Option (Nat × Bool)} {t e:TypeId} {z:Value} {b:Nat}
theorem exec_store {st:TypeId} {x y:Operand} {p u:Value} {w1:World} (hx:evF N ρ x = p) (hy:evF N ρ y = u) (hr:(Instr.storeAt st p u).run P w = .ok () w1) :
    (execOp (evF N ρ) ⟨none,.store st x y,ty,pos,aft,g⟩).run P w = .ok .skip w1:=by
  simp only [execOp,hx,hy,Sem.run_bind,hr,Result.andThen_ok,Sem.run_pure]
theorem lw_callE {x:Operand} {xs:Array Operand} {ats:Array TypeId} (f:FuncId) (first cap:List Value) (args:List Value)
    (hx:evF N ρ x = .func (.func f) first.toArray cap.toArray) (hxs:first++(xs.toList.map (evF N ρ))++cap = args) (hf:((P.funcs[f]?).map fun fn=>(fn.name != "runtime.NumGoroutine") && fn.body.isSome) = some true)
    (hu:Up ops N ρ ⟨some d,.call ⟨.value x,xs,ats⟩,ty,pos,aft,g⟩) {R:Ending→World→Prop} (hc:Calls P f args.toArray w R)
    (h:∀ e w1,R e w1→∃ v,e = .returned v∧LW P ops w0 Q os ks (mk N (upd ρ d v)) w1) :
    LW P ops w0 Q (⟨some d,.call ⟨.value x,xs,ats⟩,ty,pos,aft,g⟩ :: os) (4 :: ks) (mk N ρ) w:=by
  simp only [LW]
  rw [if_pos hu]
  unfold OneOp
  rw [if_neg (by decide),if_neg (by decide)]
  unfold Oper.wp
  rw [mk_eval]
  have hrun:(execOp (evF N ρ) ⟨some d,.call ⟨.value x,xs,ats⟩,ty,pos,aft,g⟩).run P w = .ok (.enter f args.toArray) w:=by
    obtain ⟨fn,hfn,hb⟩:=Option.map_eq_some_iff.1 hf
    simp only [Bool.and_eq_true,bne_iff_ne,ne_eq] at hb
    have hargs:first.toArray++xs.map (evF N ρ)++cap.toArray = args.toArray:=by
      rw [← hxs]; apply Array.ext'; simp
    obtain ⟨c,hbc⟩:=Option.isSome_iff_exists.1 hb.2
    have hcf:(callFunc f args.toArray).run P w = .ok (.enter f args.toArray) w:=by
      simp [callFunc,hfn,hb.1,hbc]
    simp [execOp,resolve,hargs,hx,Deferred.ofValue,invoke,hcf]
  rw [hrun]
  refine Calls.mono hc (fun e w1 he=>?_)
  obtain ⟨v,rfl,hL⟩:=h e w1 he
  show LW P ops w0 Q os ks ((mk N ρ).put (some d) v) w1
  rw [mk_put]
  exact hL
end ops
end Go.Proofs.YtlbefjfhfodnlaaGreatDoor
namespace Go.Proofs.YtlbefjfhfodnlaaGreatDoor
open Go Go.RowKit
theorem oM {p:Prop} (h:p:=by omega):p:=h
theorem sM {p:Prop} (h:p:=by simp):p:=h
theorem sD {p:Prop} (h:p:=by first | omega | assumption | (simp only [List.length_nil,List.length_cons,List.length_append,List.length_set,List.length_replicate]; omega) | (simp [List.length_nil,List.length_cons,List.length_append,List.length_set,List.length_replicate]; done) | (simp [List.length_nil,List.length_cons,List.length_append,List.length_set,List.length_replicate]; omega)):p:=h
theorem Chg.refl (F:List Nat) (w:World):Chg F w w:=⟨rfl,rfl,rfl,Nat.le_refl _,fun _ _ _=>rfl⟩
theorem Chg.ext {F:List Nat} {a b c:World} (h:Chg F a b) (k:Ext b c):Chg F a c :=
  ⟨k.os.trans h.os,k.tape.trans h.tape,k.output.trans h.output,Nat.le_trans h.size k.size,fun i hi hm=>(k.heap (Nat.lt_of_lt_of_le hi h.size)).trans (h.block i hi hm)⟩
theorem Chg.trans {F:List Nat} {a b c:World} (h:Chg F a b) (k:Chg F b c):Chg F a c :=
  ⟨k.os.trans h.os,k.tape.trans h.tape,k.output.trans h.output,Nat.le_trans h.size k.size,fun i hi hm=>(k.block i (Nat.lt_of_lt_of_le hi h.size) hm).trans (h.block i hi hm)⟩
theorem Chg.drew {F:List Nat} {a b:World} (h:Chg F a b):Chg F a b.drew:=⟨h.os,h.tape,h.output,h.size,h.block⟩
theorem Chg.of_drew {F:List Nat} {a b:World} (h:Chg F a.drew b):Chg F a b:=⟨h.os,h.tape,h.output,h.size,h.block⟩
theorem Chg.sub {F G:List Nat} {a b:World} (h:Chg F a b) (hs:∀ x∈F,x∈G):Chg G a b:=⟨h.os,h.tape,h.output,h.size,fun k hk hm=>h.block k hk fun hh=>hm (hs k hh)⟩
theorem own_rdI {e:TypeId} {H:Array Obj} {v:Value} {xs:List Int} {F:List Nat} (h:owL rI e H v xs F):Rd (rdL rI) H v xs:=⟨F,h.rd id⟩
theorem own_ext {α:Type} {E:Stand α} (hE:Good E) {w w':World} {v:Value} {x:α} {F:List Nat} (h:E w.heap v x F) (k:Ext w w'):E w'.heap v x F:=hE.stable h fun b hb=>k.heap (hE.lt h b hb)
theorem els_rI_nil:∀ {us:List Value} {xs:List Int} {F:List Nat} {H:Array Obj},els rI H us xs F→F = []:=by
  intro us
  induction us with
  | nil=>intro xs F H h; cases xs with
    | nil=>exact h
    | cons=>exact h.elim
  | cons u us ih =>
    intro xs F H h
    cases xs with
    | nil=>exact h.elim
    | cons x xs=>obtain ⟨A,C,rfl,p1,p2⟩:=h; rw [p1.2.1,ih p2]; rfl
theorem run_setI {P:Program} {w:World} {st e:TypeId} {u:Value} {n:Int} {xs:List Int} {G:List Nat} {j:Nat} (hst:(P.info? st).map (·.size) = some 1) (q1:owL rI e w.heap u xs G) (q2:G.Nodup) (hj:j < xs.length) (hn:-9223372036854775808≤n∧n≤9223372036854775807) :
    ∃ w1,(Instr.storeAt st (eptr u j 1) (.int .i64 n)).run P w = .ok () w1∧owL rI e w1.heap u (xs.set j n) G∧Chg G w w1∧w1.heap.size = w.heap.size:=by
  obtain ⟨w1,F',p1,p2,p3,p4,p5,p6⟩:=run_set (P:=P) good_rI hst q1 q2 hj (u:=.int .i64 n) (y:=n) (G:=[]) ⟨rfl,rfl,hn.1,hn.2⟩ List.nodup_nil (fun b hb=>by cases hb)
  refine ⟨w1,p1,?_,p5.sub fun x hx=>List.mem_of_mem_take hx,p6⟩
  rcases q1 with ⟨rfl,hx0,rfl⟩ | ⟨us,g1,cap,cur,F1,hels,rfl,_,_,_,_,_,rfl⟩
  · rw [hx0] at hj; simp at hj
  · rw [els_rI_nil hels]
    rcases p2 with ⟨hh,_⟩ | ⟨us2,g2,cap2,cur2,F2,hels2,hv2,r⟩
    · cases hh
    · rw [els_rI_nil hels2] at hels2
      have:g2 = g1:=by injection hv2 with hv2 _ _; injection hv2 with hv2; injection hv2 with hv2 _; exact hv2.symm
      subst this
      exact .inr ⟨us2,g2,cap2,cur2,[],hels2,hv2,r.1,r.2.1,r.2.2.1,r.2.2.2.1,r.2.2.2.2.1,rfl⟩
section ops
variable {P:Program} {ops:Array Oper} {w0:World} {Q:Act→World→Prop} {os:List Oper} {ks:List Nat} {N:Nat} {ρ:Nat→Value} {w:World}
  {d:Nat} {ty:TypeId} {pos:String} {aft:Array Edge} {g:Option (Nat × Bool)} {t e:TypeId} {z:Value} {b:Nat}
theorem e_set0 {st:TypeId} {x y:Operand} {v:Value} {n:Int} {xs:List Int} {F:List Nat} {j:Nat} (hst:(P.info? st).map (·.size) = some 1) (hx:evF N ρ x = eptr v j 1) (hy:evF N ρ y = .int .i64 n) (hn:-9223372036854775808≤n∧n≤9223372036854775807)
    (hv:owL rI e w.heap v xs F) (hnd:F.Nodup) (hj:j < xs.length) (hu:Up ops N ρ ⟨none,.store st x y,ty,pos,aft,g⟩)
    (h:∀ w1,Chg F w w1→w1.heap.size = w.heap.size→owL rI e w1.heap v (xs.set j n) F→LW P ops w0 Q os ks (mk N ρ) w1) :
    LW P ops w0 Q (⟨none,.store st x y,ty,pos,aft,g⟩ :: os) (4 :: ks) (mk N ρ) w:=by
  obtain ⟨w1,p1,p2,p3,p4⟩:=run_setI (P:=P) hst hv hnd hj hn
  exact lw_s rfl hu w1 (exec_store hx hy p1) (h w1 p3 p4 p2)
theorem lw_nil {a:Act} (h:Q a w):LW P ops w0 Q [] ks a w:=h
def yv (ops:Array Oper) (N:Nat) (ρ:Nat→Value) (j:Nat):Option Bool:=match (ops[j]?).bind (·.dst) with
  | some e=>match cond (Nat.blt e N) (ρ e) undef with
    | .bool c=>some c
    | _=>none
  | none=>none
theorem yv_eq (ops:Array Oper) (N:Nat) (ρ:Nat→Value) (j:Nat):yielded ops (mk N ρ).tmps j = yv ops N ρ j:=by
  unfold yv yielded
  cases (ops[j]?).bind (·.dst) with
  | none=>rfl
  | some e =>
    by_cases h:e < N
    · have hb:Nat.blt e N = true:=by simpa using h
      simp only [mk,hb,cond_true]
      have e1:((List.range N).map ρ).toArray[e]? = some (ρ e):=by simp [h]
      show (match ((List.range N).map ρ).toArray[e]? with | some (.bool b)=>some b | _=>none) = _
      rw [e1]
      cases ρ e <;> rfl
    · have hb:Nat.blt e N = false:=by
        cases hb:Nat.blt e N with
        | false=>rfl
        | true=>exact absurd (by simpa using hb) h
      simp [mk,Nat.not_lt.1 h,hb,undef]
def gdB (ops:Array Oper) (N:Nat) (ρ:Nat→Value):Option (Nat × Bool)→Bool
  | none=>true
  | some (j,b)=>match yv ops N ρ j with
    | some c=>cond b c (!c)
    | none=>false
theorem gdB_eq (ops:Array Oper) (N:Nat) (ρ:Nat→Value) (o:Oper):Region.wanted o (yielded ops (mk N ρ).tmps) = gdB ops N ρ o.guard:=by
  unfold Region.wanted gdB
  cases o.guard with
  | none=>rfl
  | some x =>
    obtain ⟨j,b⟩:=x
    simp only [yv_eq]
    cases yv ops N ρ j with
    | none=>rfl
    | some c=>cases c <;> cases b <;> rfl
def mvF (N:Nat) (ρ:Nat→Value) (d:Nat) (x:Operand):Nat→Value:=fun i=>cond (Nat.beq i d) (evF N ρ x) (ρ i)
def skF (ρ:Nat→Value) (d:Nat):Nat→Value:=fun i=>cond (Nat.beq i d) undef (ρ i)
def pkF (N:Nat) (ρ:Nat→Value) (d:Nat) (c x y:Operand):Nat→Value:=fun i=>cond (Nat.beq i d) (match evF N ρ c with
  | .bool true=>evF N ρ x
  | _=>evF N ρ y) (ρ i)
def tv1 (ops:Array Oper) (N:Nat) (o:Oper) (k:Nat) (ρ:Nat→Value):Option (Nat→Value) :=
  cond (gdB ops N ρ o.guard)
    (cond (Nat.ble k 2)
      (match o.dst with
      | none=>none
      | some d=>match o.op with
        | .move x=>some (mvF N ρ d x)
        | .assign x=>some (mvF N ρ d x)
        | .pick c x y=>match evF N ρ c with
          | .bool _=>some (pkF N ρ d c x y)
          | _=>none
        | _=>none) none)
    (match o.dst with
    | none=>some ρ
    | some d=>some (skF ρ d))
def tv (ops:Array Oper) (N:Nat):Nat→List Oper→List Nat→(Nat→Value)→Option (List Oper × List Nat × (Nat→Value))
  | 0,os,ks,ρ=>some (os,ks,ρ)
  | n + 1,o :: os,k :: ks,ρ=>match tv1 ops N o k ρ with
    | some ρ'=>tv ops N n os ks ρ'
    | none=>none
  | _ + 1,_,_,_=>none
theorem lw_tv1 {o:Oper} {k:Nat} {ρ':Nat→Value} (h:tv1 ops N o k ρ = some ρ') (hn:LW P ops w0 Q os ks (mk N ρ') w):LW P ops w0 Q (o :: os) (k :: ks) (mk N ρ) w:=by
  simp only [LW]
  rw [gdB_eq]
  unfold tv1 at h
  cases hg:gdB ops N ρ o.guard with
  | false =>
    rw [hg] at h
    rw [if_neg (by simp)]
    cases hd:o.dst with
    | none=>rw [hd] at h; cases h; exact hn
    | some d=>rw [hd] at h; injection h with h; rw [mk_put,show upd ρ d undef = ρ' from h]; exact hn
  | true =>
    rw [hg] at h
    rw [if_pos rfl]
    cases hk:Nat.ble k 2 with
    | false=>rw [hk] at h; cases h
    | true =>
      rw [hk] at h
      have hk2:k≤2:=by simpa using hk
      unfold OneOp
      rw [if_pos hk2]
      cases hd:o.dst with
      | none=>rw [hd] at h; cases h
      | some d =>
        rw [hd] at h
        have key:∀ v,ρ' = upd ρ d v→(∀ w',(execOp (evF N ρ) o).run P w' = .ok (.value v) w')→∃ v,(∀ w',Cl w0 w k w'→YA P o (mk N ρ) w' v)∧LW P ops w0 Q os ks ((mk N ρ).put (some d) v) w:=fun v hv hr =>
          ⟨v,fun w' _=>.inl (by rw [mk_eval]; exact hr w'),by rw [mk_put,← hv]; exact hn⟩
        obtain ⟨od,oop,oty,opos,oaft,og⟩:=o
        dsimp only at h
        cases oop with
        | move x=>injection h with h; exact key (evF N ρ x) h.symm fun w'=>by simp [execOp]
        | assign x=>injection h with h; exact key (evF N ρ x) h.symm fun w'=>by simp [execOp]
        | pick c x y =>
          dsimp only at h
          split at h
          · rename_i bb hc; injection h with h
            refine key (match evF N ρ c with
              | .bool true=>evF N ρ x
              | _=>evF N ρ y) h.symm fun w'=>?_
            rw [hc]
            cases bb <;> simp [execOp,hc,asBool]
          · cases h
        | _=>cases h
theorem lw_tv {os':List Oper} {ks':List Nat} {ρ':Nat→Value} (n:Nat) (h:tv ops N n os ks ρ = some (os',ks',ρ')) (hn:LW P ops w0 Q os' ks' (mk N ρ') w):LW P ops w0 Q os ks (mk N ρ) w:=by
  induction n generalizing os ks ρ with
  | zero =>
    have h':(os,ks,ρ) = (os',ks',ρ'):=by injection h
    cases h'; exact hn
  | succ n ih =>
    cases os with
    | nil=>cases ks <;> cases h
    | cons o os =>
      cases ks with
      | nil=>cases h
      | cons k ks =>
        have h':(match tv1 ops N o k ρ with | some ρ'=>tv ops N n os ks ρ' | none=>none) = some (os',ks',ρ'):=h
        split at h'
        · rename_i r hr; exact lw_tv1 hr (ih h')
        · cases h'
theorem lw_tvn {ks':List Nat} {ρ':Nat→Value} (n:Nat) (h:tv ops N n os ks ρ = some ([],ks',ρ')) (hn:Q (mk N ρ') w):LW P ops w0 Q os ks (mk N ρ) w :=
  lw_tv n h (show LW P ops w0 Q [] ks' (mk N ρ') w from hn)
end ops
end Go.Proofs.YtlbefjfhfodnlaaGreatDoor
namespace Go.Proofs.YtlbefjfhfodnlaaGreatDoor
open Go Go.RowKit
set_option linter.unusedVariables false
set_option linter.unusedSimpArgs false
theorem frV (B U:Nat) (H:Array Obj) {u:Value} (h:u.cells = #[u]∧u.oneCell' = true):Fr rV B U H u u:=⟨[],⟨rfl,rfl,h.1,h.2⟩,List.nodup_nil,fun c hc=>by cases hc⟩
theorem oV {e:TypeId}:Good (owL rV e):=good_owL good_rV
end Go.Proofs.YtlbefjfhfodnlaaGreatDoor
namespace Go.Proofs.YtlbefjfhfodnlaaGreatDoor
open Go Go.RowKit
set_option linter.unusedVariables false
set_option linter.unusedSimpArgs false
def fdB (P:Program) (s:TypeId) (i off:Nat):Bool :=
  match P.underlying s with
  | some (.struct fs) =>
    match fs[i]? with
    | some f=>(f.offset == off) && (match P.info? f.type with | some inf=>inf.size != 0 | none=>false)
    | none=>false
  | _=>false
def BX (H:Array Obj) (g:Nat) (cs:List Value):Prop:=∃ e,H[g]? = some (.cells cs.toArray e (0,0))
theorem BX.lt {H:Array Obj} {g:Nat} {cs:List Value} (h:BX H g cs):g < H.size:=by obtain ⟨e,h⟩:=h; exact getElem?_lt h
theorem BX.ext {w w':World} {g:Nat} {cs:List Value} (h:BX w.heap g cs) (k:Ext w w'):BX w'.heap g cs:=by
  have hl:=h.lt
  obtain ⟨e,h⟩:=h
  exact ⟨e,by rw [k.heap hl]; exact h⟩
theorem BX.chg {w w':World} {g:Nat} {cs:List Value} {F:List Nat} (h:BX w.heap g cs) (k:Chg F w w') (hg:g∉F):BX w'.heap g cs:=by
  have hl:=h.lt
  obtain ⟨e,h⟩:=h
  exact ⟨e,by rw [k.block g hl hg]; exact h⟩
theorem BX.ld {H:Array Obj} {g k:Nat} {cs:List Value} (h:BX H g cs) (hk:k < cs.length):ldH H (.pointer (some ⟨g,k,none⟩)) = some (cs.getD k undef):=by
  obtain ⟨e,h⟩:=h
  simp only [ldH,cellH,h]
  simp [hk]
theorem Chg.fresh {F G:List Nat} {a b c:World} (h:Chg F a b) (k:Chg G b c) (hG:∀ x∈G,a.heap.size≤x):Chg F a c :=
  ⟨k.os.trans h.os,k.tape.trans h.tape,k.output.trans h.output,Nat.le_trans h.size k.size,fun i hi hm=>(k.block i (Nat.lt_of_lt_of_le hi h.size) fun hg=>by have:=hG i hg; omega).trans (h.block i hi hm)⟩
def Src (H:Array Obj) (g:Nat) (v:Value) (cs:List UInt8) (n:Nat):Prop:=∃ sd:Int,BX H g [v,.int .i64 ((n:Nat):Int),.int .u64 sd]∧∃ F,rdL rU H v cs F∧∀ b∈F,b < g
theorem Src.parts {w:World} {g n:Nat} {v:Value} {cs:List UInt8} (h:Src w.heap g v cs n):∃ sd:Int,BX w.heap g [v,.int .i64 ((n:Nat):Int),.int .u64 sd]∧∀ w',Chg [g] w w'→Rd (rdL rU) w'.heap v cs:=by
  obtain ⟨sd,h,F,h1,h2⟩:=h
  refine ⟨sd,h,fun w' k=>⟨F,good_u.stable h1 fun b hb=>k.block b (good_u.lt h1 b hb) fun hm=>?_⟩⟩
  have:b = g:=by simpa using hm
  have:=h2 b hb
  omega
theorem Src.close {w w':World} {g n n':Nat} {v:Value} {cs:List UInt8} {sd:Int} (h:Src w.heap g v cs n) (k:Chg [g] w w') (hb:BX w'.heap g [v,.int .i64 ((n':Nat):Int),.int .u64 sd]):Src w'.heap g v cs n':=by
  obtain ⟨sd0,h,F,h1,h2⟩:=h
  refine ⟨sd,hb,F,good_u.stable h1 fun b hb=>k.block b (good_u.lt h1 b hb) fun hm=>?_,h2⟩
  have:b = g:=by simpa using hm
  have:=h2 b hb
  omega
theorem Src.new {w w':World} {g:Nat} {v:Value} {cs:List UInt8} (h:Rd (rdL rU) w.heap v cs) (k:Ext w w') (hb:BX w'.heap g [v,.int .i64 0,.int .u64 0]) (hg:w.heap.size≤g):Src w'.heap g v cs 0:=by
  obtain ⟨F,h⟩:=h
  exact ⟨0,hb,F,good_u.stable h fun b hb=>k.heap (good_u.lt h b hb),fun b hb=>by have:=good_u.lt h b hb; omega⟩
theorem w8r (x:UInt8):-9223372036854775808≤((x.toNat:Nat):Int)∧((x.toNat:Nat):Int)≤9223372036854775807:=by
  have:=x.toNat_lt; omega
theorem w8 (x:UInt8):IntKind.i64.wrap ((x.toNat:Nat):Int) = ((x.toNat:Nat):Int):=w64 (w8r x).1 (w8r x).2
theorem u8_lt (x:UInt8):x.toNat < 256:=x.toNat_lt
section ops
variable {P:Program} {ops:Array Oper} {w0:World} {Q:Act→World→Prop} {os:List Oper} {ks:List Nat} {N:Nat} {ρ:Nat→Value} {w:World}
  {d:Nat} {ty:TypeId} {pos:String} {aft:Array Edge} {g:Option (Nat × Bool)} {t e:TypeId}
theorem q_nil {x:Operand} {a:Addr} (hx:evF N ρ x = .pointer (some a)) (hu:Up ops N ρ ⟨some d,.nilCheck x,ty,pos,aft,g⟩)
    (h:LW P ops w0 Q os ks (mk N (upd ρ d (.pointer (some a)))) w):LW P ops w0 Q (⟨some d,.nilCheck x,ty,pos,aft,g⟩ :: os) (0 :: ks) (mk N ρ) w :=
  lw_q (by decide) rfl hu _ (fun w' _=>by simp [execOp,hx]) h
theorem q_fld {s:TypeId} {x:Operand} {b i:Nat} (off:Nat) (hf:fdB P s i off = true) (hx:evF N ρ x = .pointer (some ⟨b,0,none⟩)) (hu:Up ops N ρ ⟨some d,.fieldAddr s x i,ty,pos,aft,g⟩)
    (h:LW P ops w0 Q os ks (mk N (upd ρ d (.pointer (some ⟨b,off,none⟩)))) w):LW P ops w0 Q (⟨some d,.fieldAddr s x i,ty,pos,aft,g⟩ :: os) (0 :: ks) (mk N ρ) w :=
  lw_q (by decide) rfl hu _ (fun w' _=>by
    unfold fdB at hf
    split at hf
    · rename_i fs hfs
      split at hf
      · rename_i f hff
        simp only [Bool.and_eq_true,beq_iff_eq] at hf
        obtain ⟨rfl,hf2⟩:=hf
        split at hf2
        · rename_i inf hin
          have hne:inf.size≠0:=by simpa using hf2
          have ha:(⟨b,0,none⟩:Addr).add f.offset = ⟨b,f.offset,none⟩:=by
            unfold Addr.add
            split
            · rename_i h0; rw [h0]
            · simp
          simp [execOp,Instr.fieldAt,Instr.sureAddr,run_underlying hfs,hff,hx,fieldPlace,sizeOf,typeInfo,hin,hne,ha]
        · cases hf2
      · cases hf
    · cases hf) h
theorem q_shr {xt yt:TypeId} {x y:Operand} {k k':IntKind} {a b:Int} (c:Int) (hx:evF N ρ x = .int k a) (hy:evF N ρ y = .int k' b) (hb:0≤b) (hc:a.fdiv (2 ^ (min b.toNat k.bits)) = c) (hu:Up ops N ρ ⟨some d,.binOp .shr xt x y yt,ty,pos,aft,g⟩)
    (h:LW P ops w0 Q os ks (mk N (upd ρ d (.int k c))) w):LW P ops w0 Q (⟨some d,.binOp .shr xt x y yt,ty,pos,aft,g⟩ :: os) (0 :: ks) (mk N ρ) w :=
  lw_q (by decide) rfl hu _ (fun w' _=>by
    have he:(eqGuard .shr xt x y (.int k a) (.int k' b)).run P w' = .ok () w':=rfl
    simp [execOp,hx,hy,he,binOp,Op.shift,Int.not_lt.2 hb,hc]) h
def andV (k:IntKind) (a b:Int):Int:=k.wrap ((BitVec.ofInt k.bits a &&& BitVec.ofInt k.bits b).toNat:Int)
theorem and_255 (a:Int):0≤andV .u64 a 255∧andV .u64 a 255≤255:=by
  have h:(BitVec.ofInt 64 a &&& BitVec.ofInt 64 255).toNat≤255:=by
    rw [BitVec.toNat_and]
    exact Nat.le_trans Nat.and_le_right (by decide)
  have hw:∀ m:Nat,m≤255→IntKind.u64.wrap (m:Int) = (m:Int):=fun m hm=>IntWalk.u64_in _ (by omega)
  have e:andV .u64 a 255 = (((BitVec.ofInt 64 a &&& BitVec.ofInt 64 255).toNat:Nat):Int):=hw _ h
  rw [e]
  generalize (BitVec.ofInt 64 a &&& BitVec.ofInt 64 255).toNat = m at h
  omega
theorem wandr (a:Int):-9223372036854775808≤andV .u64 a 255∧andV .u64 a 255≤9223372036854775807:=by have:=and_255 a; omega
theorem wand (a:Int):IntKind.i64.wrap (andV .u64 a 255) = andV .u64 a 255:=w64 (wandr a).1 (wandr a).2
theorem q_and {xt yt:TypeId} {x y:Operand} {k:IntKind} {a b:Int} (hx:evF N ρ x = .int k a) (hy:evF N ρ y = .int k b) (hu:Up ops N ρ ⟨some d,.binOp .and xt x y yt,ty,pos,aft,g⟩)
    (h:LW P ops w0 Q os ks (mk N (upd ρ d (.int k (andV k a b)))) w):LW P ops w0 Q (⟨some d,.binOp .and xt x y yt,ty,pos,aft,g⟩ :: os) (0 :: ks) (mk N ρ) w :=
  lw_q (by decide) rfl hu _ (fun w' _=>by
    have he:(eqGuard .and xt x y (.int k a) (.int k b)).run P w' = .ok () w':=rfl
    simp [execOp,hx,hy,he,binOp,Op.intBits,andV]) h
theorem e_setB {st:TypeId} {x y:Operand} {b k:Nat} {u:Value} {cs:List Value} (hst:(P.info? st).map (·.size) = some 1) (hx:evF N ρ x = .pointer (some ⟨b,k,none⟩)) (hy:evF N ρ y = u) (hc:u.cells = #[u]∧u.oneCell' = true)
    (hb:BX w.heap b cs) (hk:k < cs.length) (hu:Up ops N ρ ⟨none,.store st x y,ty,pos,aft,g⟩)
    (h:∀ w1,Chg [b] w w1→w1.heap.size = w.heap.size→BX w1.heap b (cs.set k u)→LW P ops w0 Q os ks (mk N ρ) w1) :
    LW P ops w0 Q (⟨none,.store st x y,ty,pos,aft,g⟩ :: os) (4 :: ks) (mk N ρ) w:=by
  obtain ⟨e,hb⟩:=hb
  have hr:=run_store1 (P:=P) hst hb (j:=k) (by simpa using hk) hc.1 hc.2
  refine lw_s rfl hu _ (exec_store hx hy hr) (h _ (chg_set _ _ _ _) (by simp [World.setCell]) ⟨e,?_⟩)
  rw [heap_set hb]
  simp
theorem q_build {parts:Array (Nat × Operand)} {ps:Array (Nat × Value)} (u:Value) (hp:(parts.map fun (i,x)=>(i,evF N ρ x)) = ps) (hr:∀ w',(Instr.build t ps).run P w' = .ok u w') (hu:Up ops N ρ ⟨some d,.build t parts,ty,pos,aft,g⟩)
    (h:LW P ops w0 Q os ks (mk N (upd ρ d u)) w):LW P ops w0 Q (⟨some d,.build t parts,ty,pos,aft,g⟩ :: os) (0 :: ks) (mk N ρ) w :=
  lw_q (by decide) rfl hu _ (fun w' _=>by subst hp; simp [execOp,hr w']) h
theorem r_boxA {x:Operand} {cs:Array Value} (hx:evF N ρ x = .agg cs) (hu:Up ops N ρ ⟨some d,.box t x,ty,pos,aft,g⟩)
    (h:∀ w1,Ext w w1→w1.heap.size = w.heap.size + 1→BX w1.heap w.heap.size cs.toList→LW P ops w0 Q os ks (mk N (upd ρ d (.pointer (some ⟨w.heap.size,0,none⟩)))) w1) :
    LW P ops w0 Q (⟨some d,.box t x,ty,pos,aft,g⟩ :: os) (3 :: ks) (mk N ρ) w:=by
  have hrun:(execOp (evF N ρ) ⟨some d,.box t x,ty,pos,aft,g⟩).run P w = .ok (.value (.pointer (some ⟨w.heap.size,0,none⟩))) (w.alloc (.cells cs t)):=by
    simp [execOp,Instr.box,newVar,newRow,hx,Value.cells]
  refine lw_r rfl hu _ _ hrun (ext_alloc _ _) (h _ (ext_alloc _ _) (by simp) ⟨t,?_⟩)
  have:=heap_alloc_new w (.cells cs t)
  simpa using this
end ops
end Go.Proofs.YtlbefjfhfodnlaaGreatDoor
namespace Go.Proofs.YtlbefjfhfodnlaaGreatDoor
open Go Go.RowKit
set_option linter.unusedVariables false
set_option linter.unusedSimpArgs false
abbrev StandN (α:Type):=Array Obj→List Value→α→List Nat→Prop
structure GoodN {α:Type} (s:Nat) (E:StandN α):Prop where
  len:∀ {H cs x F},E H cs x F→cs.length = s
  one:∀ {H cs x F},E H cs x F→∀ u∈cs,u.cells = #[u]∧u.oneCell' = true
  lt:∀ {H cs x F},E H cs x F→∀ b∈F,b < H.size
  stable:∀ {H H' cs x F},E H cs x F→(∀ b∈F,H'[b]? = H[b]?)→E H' cs x F
def elsN {α:Type} (E:StandN α) (H:Array Obj):List (List Value)→List α→List Nat→Prop
  | [],[],F=>F = []
  | c :: css,x :: xs,F=>∃ F1 F2,F = F1++F2∧E H c x F1∧elsN E H css xs F2
  | _,_,_=>False
section elsN
variable {α:Type} {E:StandN α} {s:Nat} {H H':Array Obj}
theorem elsN.length:∀ {css:List (List Value)} {xs:List α} {F:List Nat},elsN E H css xs F→css.length = xs.length
  | [],[],_,_=>rfl
  | _ :: _,_ :: _,_,⟨_,_,_,_,h⟩=>by simp [elsN.length h]
  | [],_ :: _,_,h=>h.elim
  | _ :: _,[],_,h=>h.elim
theorem elsN.stable (hE:GoodN s E):∀ {css:List (List Value)} {xs:List α} {F:List Nat},elsN E H css xs F→(∀ b∈F,H'[b]? = H[b]?)→elsN E H' css xs F
  | [],[],_,h,_=>h
  | _ :: _,_ :: _,_,⟨F1,F2,rfl,h1,h2⟩,hb =>
    ⟨F1,F2,rfl,hE.stable h1 fun b hh=>hb b (List.mem_append_left _ hh),elsN.stable hE h2 fun b hh=>hb b (List.mem_append_right _ hh)⟩
  | [],_ :: _,_,h,_=>h.elim
  | _ :: _,[],_,h,_=>h.elim
theorem elsN.lt (hE:GoodN s E):∀ {css:List (List Value)} {xs:List α} {F:List Nat},elsN E H css xs F→∀ b∈F,b < H.size
  | [],[],_,h,b,hb=>by rw [show _ = [] from h] at hb; cases hb
  | _ :: _,_ :: _,_,⟨F1,F2,rfl,h1,h2⟩,b,hb=>(List.mem_append.1 hb).elim (hE.lt h1 b) (elsN.lt hE h2 b)
  | [],_ :: _,_,h,_,_=>h.elim
  | _ :: _,[],_,h,_,_=>h.elim
theorem elsN.get (hE:GoodN s E):∀ {css:List (List Value)} {xs:List α} {F:List Nat} {k:Nat} (d:α),elsN E H css xs F→k < xs.length →
    ∃ cs F1,E H cs (xs.getD k d) F1∧(∀ b∈F1,b∈F)∧∀ i,i < s→css.flatten[k * s + i]? = some (cs.getD i undef)
  | c :: css,x :: xs,_,0,d,⟨F1,F2,rfl,h1,h2⟩,_=>⟨c,F1,h1,fun b hb=>List.mem_append_left _ hb,fun i hi=>by
      have hl:=hE.len h1
      rw [List.flatten_cons,Nat.zero_mul,Nat.zero_add,List.getElem?_append_left (by omega)]
      simp [hl,hi]⟩
  | c :: css,x :: xs,_,k + 1,d,⟨F1,F2,rfl,h1,h2⟩,hk=>by
    obtain ⟨cs,G,q1,q2,q3⟩:=elsN.get hE d h2 (by simpa using hk)
    refine ⟨cs,G,by simpa using q1,fun b hh=>List.mem_append_right _ (q2 b hh),fun i hi=>?_⟩
    have hl:=hE.len h1
    have e:(k + 1) * s + i = c.length + (k * s + i):=by rw [Nat.succ_mul,hl]; omega
    rw [List.flatten_cons,e,List.getElem?_append_right (by omega),Nat.add_sub_cancel_left]
    exact q3 i hi
  | [],[],_,_,_,_,hk=>by simp at hk
  | [],_ :: _,_,_,_,h,_=>h.elim
theorem elsN.append:∀ {us vs:List (List Value)} {xs ys:List α} {F G:List Nat},elsN E H us xs F→elsN E H vs ys G→elsN E H (us++vs) (xs++ys) (F++G)
  | [],_,[],_,_,_,h,k=>by rw [show _ = [] from h]; exact k
  | _ :: _,_,_ :: _,_,_,_,⟨F1,F2,rfl,h1,h2⟩,k=>⟨F1,_,by rw [List.append_assoc],h1,elsN.append h2 k⟩
  | [],_,_ :: _,_,_,_,h,_=>h.elim
  | _ :: _,_,[],_,_,_,h,_=>h.elim
theorem elsN.flen (hE:GoodN s E):∀ {css:List (List Value)} {xs:List α} {F:List Nat},elsN E H css xs F→css.flatten.length = xs.length * s
  | [],[],_,_=>by simp
  | c :: css,x :: xs,_,⟨F1,F2,rfl,h1,h2⟩=>by
    rw [List.flatten_cons,List.length_append,hE.len h1,elsN.flen hE h2,List.length_cons,Nat.succ_mul]; omega
  | [],_ :: _,_,h=>h.elim
  | _ :: _,[],_,h=>h.elim
theorem elsN.one (hE:GoodN s E):∀ {css:List (List Value)} {xs:List α} {F:List Nat},elsN E H css xs F→∀ u∈css.flatten,u.cells = #[u]∧u.oneCell' = true
  | [],[],_,_,u,hu=>by cases hu
  | _ :: _,_ :: _,_,⟨F1,F2,rfl,h1,h2⟩,v,hv=>by
    rw [List.flatten_cons] at hv
    exact (List.mem_append.1 hv).elim (hE.one h1 v) (elsN.one hE h2 v)
  | [],_ :: _,_,h,_,_=>h.elim
  | _ :: _,[],_,h,_,_=>h.elim
end elsN
def rdS {α:Type} (s:Nat) (E:StandN α):Stand (List α):=fun H v xs F =>
  (∃ a cap,v = .slice a 0 cap∧xs = []∧F = []) ∨
  ∃ css g off cap cur e fr F',elsN E H css xs F'∧v = .slice (some ⟨g,off,none⟩) xs.length cap∧H[g]? = some (.cells cur e fr)∧(cur.toList.drop off).take (xs.length * s) = css.flatten∧(xs.length≤maxLen∧xs.length≤cap)∧F = g :: F'
def LD (H:Array Obj) (p:Value) (cs:List Value):Prop:=∃ g o,p = .pointer (some ⟨g,o,none⟩)∧∀ i,i < cs.length→cellH H g (o + i) = some (cs.getD i undef)
def padd (p:Value) (k:Nat):Value :=
  match p with
  | .pointer (some ⟨g,o,none⟩)=>.pointer (some ⟨g,o + k,none⟩)
  | _=>undef
theorem LD.ld {H:Array Obj} {p:Value} {cs:List Value} (h:LD H p cs) {i:Nat} (hi:i < cs.length):ldH H (padd p i) = some (cs.getD i undef):=by
  obtain ⟨g,o,rfl,h⟩:=h
  exact h i hi
theorem eptr_s (g off n cap k s:Nat):eptr (.slice (some ⟨g,off,none⟩) n cap) k s = .pointer (some ⟨g,off + k * s,none⟩):=by
  unfold eptr Addr.add
  simp only
  split
  · rename_i h; rw [h]; rfl
  · rfl
section rdS
variable {α:Type} {E:StandN α} {s:Nat} {H H':Array Obj} {v:Value} {xs:List α} {F:List Nat}
theorem good_rdS (hE:GoodN s E):Good (rdS s E) where
  cells:=by
    rintro H v xs F (⟨a,cap,rfl,_⟩ | ⟨us,g,off,cap,cur,e,fr,F',_,rfl,_⟩) <;> rfl
  one:=by
    rintro H v xs F (⟨a,cap,rfl,_⟩ | ⟨us,g,off,cap,cur,e,fr,F',_,rfl,_⟩) <;> rfl
  lt:=by
    rintro H v xs F (⟨a,cap,rfl,_,rfl⟩ | ⟨us,g,off,cap,cur,e,fr,F',h,rfl,hg,_,_,rfl⟩) b hb
    · cases hb
    · rcases List.mem_cons.1 hb with rfl | hb
      · exact getElem?_lt hg
      · exact h.lt hE b hb
  stable:=by
    rintro H H' v xs F (⟨a,cap,rfl,h1,h2⟩ | ⟨us,g,off,cap,cur,e,fr,F',h,rfl,hg,hw,hml,rfl⟩) hb
    · exact .inl ⟨a,cap,rfl,h1,h2⟩
    · exact .inr ⟨us,g,off,cap,cur,e,fr,F',h.stable hE fun b hh=>hb b (List.mem_cons_of_mem _ hh),rfl,by rw [hb g (List.mem_cons_self ..)]; exact hg,hw,hml,rfl⟩
theorem rdS.isSl (h:rdS s E H v xs F):isSl v xs.length:=by
  rcases h with ⟨a,cap,rfl,rfl,_⟩ | ⟨us,g,off,cap,cur,e,fr,F',_,rfl,_⟩
  · exact ⟨a,cap,rfl,fun _=>rfl⟩
  · exact ⟨_,cap,rfl,fun h=>by cases h⟩
theorem rdS.cap (h:rdS s E H v xs F):∃ a c,v = .slice a xs.length c∧xs.length≤c:=by
  rcases h with ⟨a,cap,rfl,rfl,_⟩ | ⟨us,g,off,cap,cur,e,fr,F',_,rfl,_,_,h,_⟩
  · exact ⟨a,cap,rfl,Nat.zero_le _⟩
  · exact ⟨_,cap,rfl,h.2⟩
theorem elsN_take (hE:GoodN s E):∀ {css:List (List Value)} {xs:List α} {F:List Nat} (k:Nat),elsN E H css xs F→∃ G,elsN E H (css.take k) (xs.take k) G∧∀ b∈G,b∈F
  | [],[],F,k,h=>⟨[],by simp [elsN],fun b hb=>by cases hb⟩
  | c :: css,x :: xs,F,0,h=>⟨[],by simp [elsN],fun b hb=>by cases hb⟩
  | c :: css,x :: xs,_,k + 1,⟨F1,F2,rfl,h1,h2⟩=>by
    obtain ⟨G,g1,g2⟩:=elsN_take hE k h2
    exact ⟨F1++G,⟨F1,G,rfl,h1,g1⟩,fun b hb=>(List.mem_append.1 hb).elim (fun h=>List.mem_append_left _ h) (fun h=>List.mem_append_right _ (g2 b h))⟩
  | [],_ :: _,_,_,h=>h.elim
  | _ :: _,[],_,_,h=>h.elim
theorem rdS.take (hE:GoodN s E) {k:Nat} {a:Option Addr} {n c:Nat} (h:rdS s E H (.slice a n c) xs F) (hk:k≤xs.length):∃ G,rdS s E H (.slice a k c) (xs.take k) G∧∀ b∈G,b∈F:=by
  rcases h with ⟨a',cap,hv,rfl,_⟩ | ⟨us,g,off,cap,cur,e,fr,F',h,hv,hg,hw,hl,rfl⟩
  · have:k = 0:=by simpa using hk
    subst this
    exact ⟨[],.inl ⟨a,c,rfl,by simp,rfl⟩,fun b hb=>by cases hb⟩
  · injection hv with h1 h2 h3
    subst h1; subst h2; subst h3
    obtain ⟨G,g1,g2⟩:=elsN_take hE k h
    have hkl:(xs.take k).length = k:=by rw [List.length_take]; omega
    refine ⟨g :: G,.inr ⟨us.take k,g,off,c,cur,e,fr,G,g1,by rw [hkl],hg,?_,by rw [hkl]; omega,rfl⟩,fun b hb=>?_⟩
    · have hf:=h.flen hE
      have ht:=g1.flen hE
      rw [hkl] at ht
      rw [hkl]
      have e1:us.flatten = (us.take k).flatten++(us.drop k).flatten:=by rw [← List.flatten_append,List.take_append_drop]
      have e2:(cur.toList.drop off).take (k * s) = ((cur.toList.drop off).take (xs.length * s)).take (k * s):=by
        rw [List.take_take,Nat.min_eq_left (Nat.mul_le_mul_right s hk)]
      rw [e2,hw,e1,← ht,List.take_left]
    · rcases List.mem_cons.1 hb with rfl | hb
      · exact List.mem_cons_self ..
      · exact List.mem_cons_of_mem _ (g2 b hb)
theorem rdS.get (hE:GoodN s E) (d:α) {k:Nat} (h:rdS s E H v xs F) (hk:k < xs.length) :
    ∃ cs F1,E H cs (xs.getD k d) F1∧(∀ b∈F1,b∈F)∧∀ H':Array Obj,(∀ b∈F,H'[b]? = H[b]?)→LD H' (eptr v k s) cs:=by
  rcases h with ⟨a,cap,rfl,rfl,_⟩ | ⟨css,g,off,cap,cur,e,fr,F',h,rfl,hg,hw,_,rfl⟩
  · simp at hk
  · obtain ⟨cs,F1,q1,q2,q3⟩:=h.get hE d hk
    refine ⟨cs,F1,q1,fun b hb=>List.mem_cons_of_mem _ (q2 b hb),fun H' hH=>⟨g,off + k * s,eptr_s ..,fun i hi=>?_⟩⟩
    rw [hE.len q1] at hi
    have h1:=q3 i hi
    have hlt:k * s + i < xs.length * s:=by
      have:(k + 1) * s≤xs.length * s:=Nat.mul_le_mul_right s hk
      rw [Nat.succ_mul] at this; omega
    rw [← hw,List.getElem?_take,if_pos hlt,List.getElem?_drop] at h1
    simp only [cellH,hH g (List.mem_cons_self ..),hg]
    rw [Nat.add_assoc]
    simpa using h1
end rdS
def RN {β α:Type} (S:List Nat) (E:Array Obj→β→α→List Nat→Prop) (H:Array Obj) (v:β) (x:α):Prop:=∃ F,E H v x F∧∀ b∈F,b∉S
section rn
variable {α:Type} {S:List Nat} {w w':World} {s:Nat} {E:StandN α} {v:Value} {xs:List α} {cs:List Value} {x:α}
theorem RN.chg {E:Stand α} (hE:Good E) (h:RN S E w.heap v x) (c:Chg S w w'):RN S E w'.heap v x:=by
  obtain ⟨F,h,hb⟩:=h
  exact ⟨F,hE.stable h fun b hm=>c.block b (hE.lt h b hm) (hb b hm),hb⟩
theorem RN.ext {E:Stand α} (hE:Good E) (h:RN S E w.heap v x) (c:Ext w w'):RN S E w'.heap v x:=by
  obtain ⟨F,h,hb⟩:=h
  exact ⟨F,hE.stable h fun b hm=>c.heap (hE.lt h b hm),hb⟩
theorem RN.isSl {H:Array Obj} (h:RN S (rdS s E) H v xs):isSl v xs.length:=by obtain ⟨F,h,_⟩:=h; exact h.isSl
theorem RN.get (hE:GoodN s E) (d:α) {k:Nat} (h:RN S (rdS s E) w.heap v xs) (hk:k < xs.length) :
    ∃ cs,RN S E w.heap cs (xs.getD k d)∧∀ w',Chg S w w'→LD w'.heap (eptr v k s) cs:=by
  obtain ⟨F,h,hb⟩:=h
  have hlt:=(good_rdS hE).lt h
  obtain ⟨cs,F1,q1,q2,q3⟩:=rdS.get hE d h hk
  exact ⟨cs,⟨F1,q1,fun b hm=>hb b (q2 b hm)⟩,fun w' c=>q3 _ fun b hm=>c.block b (hlt b hm) (hb b hm)⟩
end rn
theorem Chg.of_ext {w w':World} (S:List Nat) (h:Ext w w'):Chg S w w':=⟨h.os,h.tape,h.output,h.size,fun k hk _=>h.heap hk⟩
def aggTy (P:Program) (t:TypeId) (s:Nat):Bool :=
  (match P.underlying t with | some (.struct _)=>true | _=>false) && (match P.info? t with | some i=>i.size == s | none=>false)
def fdO (P:Program) (s:TypeId) (i off:Nat):Bool :=
  match P.underlying s with
  | some (.struct fs) =>
    match fs[i]? with
    | some f=>(f.offset == off) && (match P.info? f.type with | some inf=>inf.size != 0 | none=>false)
    | none=>false
  | _=>false
section ops
variable {P:Program} {ops:Array Oper} {w0:World} {Q:Act→World→Prop} {os:List Oper} {ks:List Nat} {N:Nat} {ρ:Nat→Value} {w:World}
  {d:Nat} {ty:TypeId} {pos:String} {aft:Array Edge} {g:Option (Nat × Bool)} {t e:TypeId}
theorem add_mk (b o k:Nat):(⟨b,o,none⟩:Addr).add k = ⟨b,o + k,none⟩:=by
  unfold Addr.add
  split
  · rename_i h; rw [h]; rfl
  · rfl
theorem q_fldP {s:TypeId} {x:Operand} {i:Nat} {p:Value} {b o:Nat} (off:Nat) (hf:fdO P s i off = true) (hx:evF N ρ x = p) (hp:p = .pointer (some ⟨b,o,none⟩)) (hu:Up ops N ρ ⟨some d,.fieldAddr s x i,ty,pos,aft,g⟩)
    (h:LW P ops w0 Q os ks (mk N (upd ρ d (padd p off))) w):LW P ops w0 Q (⟨some d,.fieldAddr s x i,ty,pos,aft,g⟩ :: os) (0 :: ks) (mk N ρ) w :=
  lw_q (by decide) rfl hu _ (fun w' _=>by
    subst hp
    unfold fdO at hf
    split at hf
    · rename_i fs hfs
      split at hf
      · rename_i f hff
        simp only [Bool.and_eq_true,beq_iff_eq] at hf
        obtain ⟨rfl,hf2⟩:=hf
        split at hf2
        · rename_i inf hin
          have hne:inf.size≠0:=by simpa using hf2
          simp [execOp,Instr.fieldAt,Instr.sureAddr,run_underlying hfs,hff,hx,fieldPlace,sizeOf,typeInfo,hin,hne,add_mk,padd]
        · cases hf2
      · cases hf
    · cases hf) h
theorem LD.ptr {H:Array Obj} {p:Value} {cs:List Value} (h:LD H p cs):∃ b o,p = .pointer (some ⟨b,o,none⟩):=by obtain ⟨b,o,h,_⟩:=h; exact ⟨b,o,h⟩
theorem q_fldL {s:TypeId} {x:Operand} {i:Nat} {p:Value} {H:Array Obj} {cs:List Value} (off:Nat) (hf:fdO P s i off = true) (hx:evF N ρ x = p) (hp:LD H p cs) (hu:Up ops N ρ ⟨some d,.fieldAddr s x i,ty,pos,aft,g⟩)
    (h:LW P ops w0 Q os ks (mk N (upd ρ d (padd p off))) w):LW P ops w0 Q (⟨some d,.fieldAddr s x i,ty,pos,aft,g⟩ :: os) (0 :: ks) (mk N ρ) w:=by
  obtain ⟨b,o,hp⟩:=hp.ptr
  exact q_fldP off hf hx hp hu h
theorem run_loadA {s:Nat} (ht:aggTy P t s = true) {p:Value} {cs:List Value} (h:LD w.heap p cs) (hl:cs.length = s):(Instr.loadAt t p).run P w = .ok (.agg cs.toArray) w:=by
  obtain ⟨b,o,rfl,h⟩:=h
  unfold aggTy at ht
  simp only [Bool.and_eq_true] at ht
  obtain ⟨h1,h2⟩:=ht
  split at h1
  · rename_i fs hfs
    split at h2
    · rename_i inf hin
      have hs:inf.size = s:=by simpa using h2
      have hag:(isAgg t).run P w = .ok true w:=by
        unfold isAgg
        simp only [Sem.run_bind,run_underlying hfs,Result.andThen_ok]
        rfl
      have hlc:=run_loadCells_list (P:=P) w ⟨b,o,none⟩ cs (fun j v hj=>by
        rw [add_mk,cell_cellH]
        have hjl:j < cs.length:=(List.getElem?_eq_some_iff.1 hj).1
        rw [h j hjl]
        simp [List.getD,hj])
      rw [hl,← hs] at hlc
      simp [Instr.loadAt,Instr.sureAddr,loadVar,hag,sizeOf,typeInfo,hin,hlc]
    · cases h2
  · cases h1
theorem q_loadA {k s:Nat} (hk:k = 1∨k = 2) {x:Operand} {p:Value} (cs:List Value) (ht:aggTy P t s = true) (hx:evF N ρ x = p) (hc:∀ w',Ext (if k = 1 then w0 else w) w'→LD w'.heap p cs) (hl:cs.length = s)
    (hu:Up ops N ρ ⟨some d,.load t x,ty,pos,aft,g⟩)
    (h:LW P ops w0 Q os ks (mk N (upd ρ d (.agg cs.toArray))) w):LW P ops w0 Q (⟨some d,.load t x,ty,pos,aft,g⟩ :: os) (k :: ks) (mk N ρ) w :=
  lw_q (by omega) rfl hu _ (fun w' hcl=>by
    have hld:LD w'.heap p cs:=by
      rcases hk with rfl | rfl
      · exact hc w' hcl
      · exact hc w' hcl
    simp [execOp,hx,run_loadA ht hld hl]) h
theorem LD.of_box {H:Array Obj} {b:Nat} {cs:List Value} (h:BX H b cs):LD H (.pointer (some ⟨b,0,none⟩)) cs:=by
  obtain ⟨e,h⟩:=h
  refine ⟨b,0,rfl,fun i hi=>?_⟩
  simp only [cellH,h]
  simp [hi]
theorem BX.ldp {H:Array Obj} {b:Nat} {cs:List Value} (h:BX H b cs) {i:Nat} (hi:i < cs.length):ldH H (padd (.pointer (some ⟨b,0,none⟩)) i) = some (cs.getD i undef):=(LD.of_box h).ld hi
theorem r_allocA {z:Value} (hz:(P.info? t).map (·.zero) = some (some z)) (hu:Up ops N ρ ⟨some d,.alloc t,ty,pos,aft,g⟩)
    (h:∀ w1,Ext w w1→w1.heap.size = w.heap.size + 1→BX w1.heap w.heap.size z.cells.toList→LW P ops w0 Q os ks (mk N (upd ρ d (.pointer (some ⟨w.heap.size,0,none⟩)))) w1) :
    LW P ops w0 Q (⟨some d,.alloc t,ty,pos,aft,g⟩ :: os) (3 :: ks) (mk N ρ) w:=by
  obtain ⟨i,hi1,hi2⟩:=Option.map_eq_some_iff.1 hz
  have hrun:(execOp (evF N ρ) ⟨some d,.alloc t,ty,pos,aft,g⟩).run P w = .ok (.value (.pointer (some ⟨w.heap.size,0,none⟩))) (w.alloc (.cells z.cells t)):=by
    simp [execOp,Instr.alloc,zeroValue,typeInfo,hi1,hi2,newVar,newRow]
  refine lw_r rfl hu _ _ hrun (ext_alloc _ _) (h _ (ext_alloc _ _) (by simp) ⟨t,?_⟩)
  have:=heap_alloc_new w (.cells z.cells t)
  simpa using this
theorem e_setA {x y:Operand} {b s:Nat} {vs cs:List Value} (ht:aggTy P t s = true) (hx:evF N ρ x = .pointer (some ⟨b,0,none⟩)) (hy:evF N ρ y = .agg vs.toArray) (h1:∀ u∈vs,u.cells = #[u]∧u.oneCell' = true)
    (hb:BX w.heap b cs) (hl:vs.length = s) (hl2:cs.length = s) (hu:Up ops N ρ ⟨none,.store t x y,ty,pos,aft,g⟩)
    (h:∀ w1,Chg [b] w w1→w1.heap.size = w.heap.size→BX w1.heap b vs→LW P ops w0 Q os ks (mk N ρ) w1) :
    LW P ops w0 Q (⟨none,.store t x y,ty,pos,aft,g⟩ :: os) (4 :: ks) (mk N ρ) w:=by
  obtain ⟨e,hb⟩:=hb
  unfold aggTy at ht
  simp only [Bool.and_eq_true] at ht
  obtain ⟨q1,q2⟩:=ht
  split at q2
  · rename_i inf hin
    have hs:inf.size = s:=by simpa using q2
    have hst:=run_storeCells_at (P:=P) b 0 e vs 0 cs.toArray w hb (by simp; omega) (fun v hv=>(h1 v hv).2)
    have hcs:(cs.toArray.toList.take (0 + 0)++vs++cs.toArray.toList.drop (0 + 0 + vs.length)) = vs:=by
      simp [List.drop_of_length_le (show cs.length≤vs.length by omega)]
    rw [hcs] at hst
    have hr:(Instr.storeAt t (.pointer (some ⟨b,0,none⟩)) (.agg vs.toArray)).run P w = .ok () (w.setRow b vs.toArray):=by
      simp [Instr.storeAt,Instr.sureAddr,storeVar,sizeOf,typeInfo,hin,Value.cells,hl,hs,hst]
    refine lw_s rfl hu _ (exec_store hx hy hr) (h _ ⟨rfl,rfl,rfl,by simp,fun k _ hk=>setRow_other w b k _ (by simpa using hk)⟩ (by simp) ⟨e,setRow_heap w b _ _ _ _ hb⟩)
  · cases q2
end ops
end Go.Proofs.YtlbefjfhfodnlaaGreatDoor
namespace Go.Proofs.YtlbefjfhfodnlaaGreatDoor
open Go Go.RowKit
set_option linter.unusedVariables false
set_option linter.unusedSimpArgs false
inductive Ex where
  | mk (kind num pick count:Int) (kids:List Ex)
namespace Ex
def kind:Ex→Int | mk k _ _ _ _=>k
def num:Ex→Int | mk _ n _ _ _=>n
def pick:Ex→Int | mk _ _ p _ _=>p
def count:Ex→Int | mk _ _ _ c _=>c
def kids:Ex→List Ex | mk _ _ _ _ l=>l
def zero:Ex:=mk 0 0 0 0 []
end Ex
abbrev i64 (x:Int):Prop:=-9223372036854775808≤x∧x≤9223372036854775807
def exC (e:Ex) (v:Value):List Value:=[.int .i64 e.kind,.int .i64 e.num,.int .i64 e.pick,.int .i64 e.count,v]
structure Fn where
  name:ByteArray
  params:Int
  outs:List Ex
def fnC (f:Fn) (v:Value):List Value:=[.string f.name,.int .i64 f.params,v]
theorem isSl_one {v:Value} {n:Nat} (h:isSl v n):v.cells = #[v]∧v.oneCell' = true:=by
  obtain ⟨a,c,rfl,_⟩:=h; exact ⟨rfl,rfl⟩
end Go.Proofs.YtlbefjfhfodnlaaGreatDoor
namespace Go.Proofs.YtlbefjfhfodnlaaGreatDoor
open Go Go.ChangeShapes Go.WideShapes Go.RowKit Go.Deep
theorem els_of {α:Type} {E:Stand α} {H:Array Obj} (U:Nat→Value) (X:Nat→α):∀ (n:Nat),(∀ i,i < n→Rd E H (U i) (X i))→∃ F,els E H ((List.range n).map U) ((List.range n).map X) F
  | 0,_=>⟨[],rfl⟩
  | n + 1,h=>by
    obtain ⟨F,hF⟩:=els_of U X n fun i hi=>h i (by omega)
    obtain ⟨G,hG⟩:=h n (by omega)
    refine ⟨F++(G++[]),?_⟩
    rw [List.range_succ,List.map_append,List.map_append]
    exact els.append hF ⟨G,[],rfl,hG,rfl⟩
theorem rd_row {α:Type} {E:Stand α} {W:World} {a:Option Addr} {n cap:Nat} (ha:a = none→n = 0) (hm:n≤maxLen) (U:Nat→Value) (X:Nat→α)
    (hc:∀ a' i,a = some a'→i < n→W.cell? (a'.add i) = some (U i)) (hE:∀ i,i < n→Rd E W.heap (U i) (X i)):Rd (rdL E) W.heap (.slice a n cap) ((List.range n).map X):=by
  by_cases h0:n = 0
  · subst h0
    exact ⟨[],.inl ⟨a,cap,rfl,rfl,rfl⟩⟩
  · obtain ⟨F,hF⟩:=els_of U X n hE
    cases a with
    | none=>exact absurd (ha rfl) h0
    | some a' =>
      obtain ⟨g,off,spot⟩:=a'
      have h1:=hc _ 0 rfl (by omega)
      have hs:spot = none:=by simpa [Addr.add] using World.cell?_spot h1
      subst hs
      have hcell:∀ i,i < n→cellH W.heap g (off + i) = some (U i):=fun i hi=>by
        have:=hc _ i rfl hi
        rw [add_plain,cell_cellH] at this
        exact this
      have h2:=hcell 0 (by omega)
      unfold cellH at h2
      cases hg:W.heap[g]? with
      | none=>rw [hg] at h2; cases h2
      | some o =>
        cases o with
        | cells cur e fr =>
          refine ⟨g :: F,.inr ⟨(List.range n).map U,g,off,cap,cur,e,fr,F,hF,by simp,hg,?_,by simpa using hm,rfl⟩⟩
          apply List.ext_getElem?
          intro i
          simp only [List.length_map,List.length_range,List.getElem?_take,List.getElem?_drop]
          by_cases hi:i < n
          · have:=hcell i hi
            unfold cellH at this
            rw [hg] at this
            simp only [Array.getElem?_toList] at *
            rw [if_pos hi,this]
            simp [hi]
          · rw [if_neg hi]
            simp [hi]
        | _=>rw [hg] at h2; cases h2
section
variable {H:Type} {enc:TypeId × Value→H} {P:Program} {W:World}
theorem Ext.trodAll (hl:laidOutB P = true) {W':World} (hx:Ext W W'):∀ {ts:List TypeId} {vs:List Value} {ds:List (DataW H)} {ps:List MemPlace},(∀ t∈ts,P.readableRec t = true∧t < P.types.size)→(∀ x∈ps,x.block < W.heap.size) →
    DataW.TrodAll enc P W 0 (fun _=>true) true ts vs ds ps→DataW.TrodAll enc P W' 0 (fun b=>decide (b < W.heap.size)) true ts vs ds ps
  | [],[],[],_,_,_,h=>h
  | t :: ts,v :: vs,d :: ds,ps,hr,hlt,⟨p,q,h1,h2,e⟩=>by
    subst e
    exact ⟨p,q,Below.trod hl (hr t (List.mem_cons_self ..)).1 (hr t (List.mem_cons_self ..)).2 h1 hx fun x hx=>hlt x (List.mem_append_left _ hx),
      Ext.trodAll hl hx (fun t ht=>hr t (List.mem_cons_of_mem _ ht)) (fun x hx=>hlt x (List.mem_append_right _ hx)) h2,rfl⟩
  | [],[],_ :: _,_,_,_,h=>h.elim
  | [],_ :: _,_,_,_,_,h=>h.elim
  | _ :: _,[],_,_,_,_,h=>h.elim
  | _ :: _,_ :: _,[],_,_,_,h=>h.elim
theorem law_post {fn:Func} {s:ChangeSpec} {W':World} {args:Array Value} {ds:List (DataW H)} {before:List MemPlace} {tb:TypeId} (hl:laidOutB P = true)
    (hr:∀ t∈fn.params.toList,P.readableRec t = true∧t < P.types.size) (hv:s.vars = []) (hres:fn.resultTypes = #[tb]) (hb:P.underlying tb = some .bool)
    (hW:DataW.Whole enc P fn.params.toList s.vars false W args.toList ds [] before) (he:s.fn H (ds++[]) = { results:=[.lit (.bool true)],args:=ds }) (hx:Ext W W') :
    s.post enc P fn false true false false W args (.bool true) W':=by
  have hW':=hW
  obtain ⟨p,q,hA,hV,rfl,hfz,hnd⟩:=hW
  have hlt:∀ x∈p++q,x.block < W.heap.size:=fun x hx=>hW'.lt x hx
  rw [hv] at hV
  obtain ⟨_,rfl⟩:=trodVars_none hV
  refine ⟨ds,[],_,[],p,[],hW',?_,?_,?_,Below.frame hx _,fun h=>by cases h⟩
  · rw [he,hres]; exact trodAll_mk1 (shut_bool hb true)
  · rw [he]; exact Ext.trodAll hl hx hr (fun x hx=>hlt x (List.mem_append_left _ hx)) hA
  · rw [he,hv]; rfl
end
end Go.Proofs.YtlbefjfhfodnlaaGreatDoor
namespace Go.Proofs.YtlbefjfhfodnlaaGreatDoor
open Go Go.ChangeShapes Go.WideShapes Go.RowKit Go.Deep
set_option linter.unusedVariables false
set_option linter.unusedSimpArgs false
section
variable {H:Type} {enc:TypeId × Value→H} {P:Program} {W:World}
theorem u8_back {z:Int} (h:0≤z∧z≤255):(((UInt8.ofNat z.toNat).toNat:Nat):Int) = z:=by
  rw [UInt8.toNat_ofNat']
  omega
theorem open_u8_el {q:TypeId} {base fuel:Nat} {held:Bool} {u:Value} {x:DataW H × List MemPlace} {t:TypeId} (ht:P.underlying t = some (.slice q)) (hq:P.underlying q = some (.int .u8)) (cq:P.cellsOf q = 1)
    (hf:DataW.trod enc P W base (fun _=>true) held fuel t [u] = some x):∃ zs:List UInt8,Rd (rdL rU) W.heap u zs:=by
  rcases open_ints ht hq cq hf with ⟨hcs,_⟩ | ⟨a,len,cap,zs,hcs,_,hl,hm,hz,_,hc,hw⟩
  · simp only [List.cons.injEq,and_true] at hcs
    subst hcs
    exact ⟨[],[],.inl ⟨none,0,rfl,rfl,rfl⟩⟩
  · simp only [List.cons.injEq,and_true] at hcs
    subst hcs
    simp only [if_true] at hz
    refine ⟨(List.range len).map fun i=>UInt8.ofNat (zs.getD i 0).toNat,rd_row (fun h=>by cases h) (by omega) (fun i=>.int .u8 (zs.getD i 0)) _ (fun a' i ea hi=>by cases ea; exact hc i (by omega)) fun i hi=>⟨[],?_,rfl⟩⟩
    have hb:0≤zs.getD i 0∧zs.getD i 0≤255:=by
      have h:=hw (zs.getD i 0) (by
        rw [List.getD_eq_getElem?_getD,List.getElem?_eq_getElem (show i < zs.length by omega)]
        exact List.getElem_mem _)
      simp only [Lit.wf,Bool.and_eq_true,decide_eq_true_eq] at h
      exact h
    rw [u8_back hb]
theorem open_rdU {t q:TypeId} {base:Nat} {held:Bool} {v:Value} {d:DataW H} {ps:List MemPlace} (ht:P.underlying t = some (.slice q)) (hq:P.underlying q = some (.int .u8)) (cq:P.cellsOf q = 1)
    (hv:∃ a len cap,v = .slice a len cap) (h:DataW.Trod enc P W base (fun _=>true) held t v d ps):∃ zs:List UInt8,Rd (rdL rU) W.heap v zs:=by
  obtain ⟨a0,n0,c0,rfl⟩:=hv
  obtain ⟨fuel,hf⟩:=h
  exact open_u8_el ht hq cq hf
end
end Go.Proofs.YtlbefjfhfodnlaaGreatDoor
namespace Go.Proofs.YtlbefjfhfodnlaaGreatDoor
open Go Go.RowKit
set_option linter.unusedVariables false
set_option linter.unusedSimpArgs false
def sAt (s:ByteArray) (i:Nat):Nat:=((s[i]?).getD 0).toNat
section ops
variable {P:Program} {ops:Array Oper} {w0:World} {Q:Act→World→Prop} {os:List Oper} {ks:List Nat} {N:Nat} {ρ:Nat→Value} {w:World}
  {d:Nat} {ty:TypeId} {pos:String} {aft:Array Edge} {g:Option (Nat × Bool)}
theorem q_index {t:TypeId} {x y:Operand} {s:ByteArray} {i:Int} (j:Nat) (ht:P.underlying t = some .string) (hx:evF N ρ x = .string s) (hy:evF N ρ y = .int .i64 i) (hj:i = (j:Int)) (hlt:j < s.size) (hu:Up ops N ρ ⟨some d,.index t x y,ty,pos,aft,g⟩)
    (h:LW P ops w0 Q os ks (mk N (upd ρ d (.int .u8 ((sAt s j:Nat):Int)))) w):LW P ops w0 Q (⟨some d,.index t x y,ty,pos,aft,g⟩ :: os) (0 :: ks) (mk N ρ) w :=
  lw_q (by decide) rfl hu _ (fun w' _=>by
    subst hj
    have e:s[j]? = some s[j]:=getElem?_pos s j hlt
    simp [execOp,hx,hy,Instr.index,asIntOf,run_underlying ht,e,sAt]) h
end ops
end Go.Proofs.YtlbefjfhfodnlaaGreatDoor
namespace Go.Proofs.YtlbefjfhfodnlaaGreatDoor
open Go Go.RowKit
set_option linter.unusedVariables false
set_option linter.unusedSimpArgs false
section bld
variable {e:TypeId} {S F:List Nat} {B:Nat} {w w':World} {v:Value} {xs:List (List Int)} {us:List Value} {g:Nat}
theorem els_rVe {H:Array Obj}:∀ {us vs:List Value} {F:List Nat},els rV H us vs F→us = vs∧F = []
  | [],[],_,h=>⟨rfl,h⟩
  | _ :: _,_ :: _,_,⟨F1,F2,rfl,h1,h2⟩=>by
    obtain ⟨rfl,rfl⟩:=els_rVe h2
    rw [h1.1,h1.2.1]; exact ⟨rfl,rfl⟩
  | [],_ :: _,_,h=>h.elim
  | _ :: _,[],_,h=>h.elim
end bld
section ops
variable {P:Program} {ops:Array Oper} {w0:World} {Q:Act→World→Prop} {os:List Oper} {ks:List Nat} {N:Nat} {ρ:Nat→Value} {w:World}
  {d:Nat} {ty:TypeId} {pos:String} {aft:Array Edge} {g:Option (Nat × Bool)} {t e:TypeId} {z:Value} {b:Nat}
def CapS:Value→Prop
  | .slice _ n c=>n≤c
  | _=>False
end ops
end Go.Proofs.YtlbefjfhfodnlaaGreatDoor
namespace Go.Proofs.YtlbefjfhfodnlaaGreatDoor
open Go Go.RowKit
set_option linter.unusedVariables false
set_option linter.unusedSimpArgs false
set_option linter.unusedSectionVars false
class JR where
  rel:World→World→Prop
  refl:∀ w,rel w w
  trans:∀ {a b c},rel a b→rel b c→rel a c
  ext:∀ {a b},Ext a b→rel a b
@[reducible] def jrC (F:List Nat):JR:=⟨Chg F,Chg.refl F,Chg.trans,Chg.of_ext F⟩
namespace Jx
variable [J:JR]
def Ext (w w':World):Prop:=J.rel w w'
theorem Ext.refl (w:World):Ext w w:=J.refl w
theorem Ext.trans {a b c:World} (h:Ext a b) (k:Ext b c):Ext a c:=J.trans h k
section
variable {P:Program} {ops:Array Oper} {md:Region.Mode}
def Cl (w0 w:World):Nat→World→Prop
  | 0,_=>True
  | 1,w'=>Ext w0 w'
  | _,w'=>Ext w w'
def OneOp (P:Program) (w0:World) (o:Oper) (k:Nat) (a:Act) (w:World) (K:Act→World→Prop):Prop :=
  if k≤2 then ∃ v,(∀ w',Cl w0 w k w'→YA P o a w' v)∧K (a.put o.dst v) w
  else if k = 3 then o.wp P a w (fun a' w'=>Ext w w'∧K a' w') (NQ fun _ _=>False)
  else o.wp P a w K (NQ fun _ _=>False)
def LW (P:Program) (ops:Array Oper) (w0:World) (Q:Act→World→Prop):List Oper→List Nat→Act→World→Prop
  | [],_,a,w=>Q a w
  | _ :: _,[],_,_=>False
  | o :: os,k :: ks,a,w =>
    if Region.wanted o (yielded ops a.tmps) = true then OneOp P w0 o k a w (LW P ops w0 Q os ks) else LW P ops w0 Q os ks (a.put o.dst undef) w
theorem OneOp.mono {w0:World} {o:Oper} {k:Nat} {a:Act} {w:World} {K K':Act→World→Prop} (h:∀ a w,K a w→K' a w)
    (hh:OneOp P w0 o k a w K):OneOp P w0 o k a w K':=by
  unfold OneOp at *
  split
  · rename_i hk
    rw [if_pos hk] at hh
    obtain ⟨v,h1,h2⟩:=hh
    exact ⟨v,h1,h _ _ h2⟩
  · rename_i hk
    rw [if_neg hk] at hh
    split
    · rename_i h3
      rw [if_pos h3] at hh
      exact Oper.wp_mono (fun a w hx=>⟨hx.1,h _ _ hx.2⟩) hh
    · rename_i h3
      rw [if_neg h3] at hh
      exact Oper.wp_mono h hh
variable (P ops) in
def LI (kd:Nat→Nat) (w0:World) (Q:Act→World→Prop):List Nat→Act→World→Prop
  | [],a,w=>Q a w
  | i :: l,a,w =>
    match ops[i]? with
    | none=>False
    | some o=>if Region.wanted o (yielded ops a.tmps) = true then OneOp P w0 o (kd i) a w (LI kd w0 Q l) else LI kd w0 Q l (a.put o.dst undef) w
def Inv1 (kd:Nat→Nat) (w0 w:World) (l:List Nat):Prop:=(∃ j∈l,kd j = 1)→Ext w0 w
def Yv (P:Program) (ops:Array Oper) (w0:World) (k:Nat) (o:Oper) (a:Act) (w:World) (v:Value):Prop :=
  (Region.wanted o (yielded ops a.tmps) = true∧∀ w',Cl w0 w k w'→YA P o a w' v)∨(Region.wanted o (yielded ops a.tmps) = false∧v = undef)
theorem Cl.self {w0 w:World} {k:Nat} (h:k = 1→Ext w0 w):Cl w0 w k w:=by
  match k,h with
  | 0,_=>exact trivial
  | 1,h=>exact h rfl
  | _ + 2,_=>exact Ext.refl w
theorem Yv.unique {w0 w:World} {k:Nat} {o:Oper} {a:Act} {v u:Value} (hk:k = 1→Ext w0 w) (h:Yv P ops w0 k o a w v) (h':Yv P ops w0 k o a w u):v = u:=by
  rcases h with ⟨h1,h2⟩ | ⟨h1,h2⟩ <;> rcases h' with ⟨g1,g2⟩ | ⟨g1,g2⟩
  · exact (h2 w (Cl.self hk)).unique (g2 w (Cl.self hk))
  · rw [h1] at g1; cases g1
  · rw [h1] at g1; cases g1
  · rw [h2,g2]
theorem Yv.apart {w0 w:World} {k:Nat} {o:Oper} (hs:∀ cs b,o.op≠.select cs b) {a:Act} {d:Option Tmp} {u v:Value}
    (h1:∀ x,d = some x→x∉o.looksAt ops):Yv P ops w0 k o (a.put d u) w v↔Yv P ops w0 k o a w v:=by
  unfold Yv
  rw [wanted_put (ops:=ops) o a d u h1]
  simp only [YA.apart (ops:=ops) (P:=P) hs h1]
theorem Yv.defers {w0 w:World} {k:Nat} {o:Oper} {a:Act} {l:List Deferred} {v:Value}:Yv P ops w0 k o { a with defers:=l } w v↔Yv P ops w0 k o a w v:=by
  have he:Act.eval { a with defers:=l } = Act.eval a:=funext fun x=>by cases x <;> rfl
  unfold Yv YA
  rw [he]
theorem Yv.shape {w0 w:World} {k:Nat} {o:Oper} (hs:∀ cs b,o.op≠.select cs b) {a a':Act} {d:Option Tmp} {v:Value}
    (h1:∀ x,d = some x→x∉o.looksAt ops) (h:Shape a d a'):Yv P ops w0 k o a' w v↔Yv P ops w0 k o a w v:=by
  obtain ⟨u,rfl | ⟨x,rfl⟩⟩:=h
  · exact Yv.apart hs h1
  · rw [Yv.apart hs h1]; exact Yv.defers
section main
variable {kd bs:Nat→Nat} {w0:World} {Q:Act→World→Prop}
theorem takeQ (hsel:∀ (j:Nat) (o:Oper) cs b,ops[j]? = some o→o.op≠.select cs b) {j:Nat} {oj:Oper} (hj:ops[j]? = some oj) (hk:kd j≤2) :
    ∀ (l1 l2:List Nat) (a:Act) (w:World),(∀ i∈l1,∀ oi,ops[i]? = some oi→oi.apart ops oj = true∧okPair (kd i) (kd j) = true)→(kd j = 1→Ext w0 w) →
      LI P ops kd w0 Q (l1++j :: l2) a w→∃ v,Yv P ops w0 (kd j) oj a w v∧LI P ops kd w0 Q (l1++l2) (a.put oj.dst v) w
  | [],l2,a,w,_,_,h=>by
    simp only [List.nil_append,LI,hj] at h ⊢
    split at h
    · rename_i hw
      unfold OneOp at h
      rw [if_pos hk] at h
      obtain ⟨v,h1,h2⟩:=h
      exact ⟨v,.inl ⟨hw,h1⟩,h2⟩
    · rename_i hw
      exact ⟨undef,.inr ⟨by simpa using hw,rfl⟩,h⟩
  | i :: l1,l2,a,w,hl,hx,h=>by
    have hi:=hl i (List.mem_cons_self ..)
    have hl':∀ x∈l1,∀ ox,ops[x]? = some ox→ox.apart ops oj = true∧okPair (kd x) (kd j) = true:=fun x hx=>hl x (List.mem_cons_of_mem _ hx)
    simp only [List.cons_append,LI] at h ⊢
    cases hoi:ops[i]? with
    | none=>rw [hoi] at h; exact h.elim
    | some oi =>
      rw [hoi] at h
      simp only at h ⊢
      obtain ⟨hap,hok⟩:=hi oi hoi
      obtain ⟨p1,p2,p3⟩:=Oper.apart_spec hap
      have p2':∀ d,oj.dst = some d→oi.dst≠some d:=fun d hd he=>p2 d he hd
      have si:=fun cs b=>hsel i oi cs b hoi
      have sj:=fun cs b=>hsel j oj cs b hj
      by_cases hw:Region.wanted oi (yielded ops a.tmps) = true
      · rw [if_pos hw] at h
        unfold OneOp at h
        by_cases hki:kd i≤2
        · rw [if_pos hki] at h
          obtain ⟨vi,hy,h⟩:=h
          obtain ⟨v,h1,h2⟩:=takeQ hsel hj hk l1 l2 (a.put oi.dst vi) w hl' hx h
          refine ⟨v,(Yv.apart sj p1).1 h1,?_⟩
          rw [wanted_put oi a oj.dst v p3,if_pos hw]
          unfold OneOp
          rw [if_pos hki]
          refine ⟨vi,fun w' hc=>(YA.apart (ops:=ops) si p3).2 (hy w' hc),?_⟩
          rw [Act.put_comm a v vi p2']
          exact h2
        · rw [if_neg hki] at h
          have gen:∀ (G:World→Prop),(∀ w',G w'→kd j = 1→Ext w0 w')→(kd j = 2→False) →
              oi.wp P a w (fun a' w'=>G w'∧LI P ops kd w0 Q (l1++j :: l2) a' w') (NQ fun _ _=>False) →
              ∃ v,Yv P ops w0 (kd j) oj a w v∧oi.wp P (a.put oj.dst v) w (fun a' w'=>G w'∧LI P ops kd w0 Q (l1++l2) a' w') (NQ fun _ _=>False):=by
            intro G hG hn2 hh
            have hcl:∀ w1 w2,Cl w0 w1 (kd j) w2→Cl w0 w (kd j) w2:=by
              intro w1 w2 hc
              match hkj:kd j,hk,hn2 with
              | 0,_,_=>trivial
              | 1,_,_=>rw [hkj] at hc; exact hc
              | 2,_,hn=>exact (hn rfl).elim
              | _ + 3,hle,_=>omega
            have hcl':∀ w1 w2,Cl w0 w (kd j) w2→Cl w0 w1 (kd j) w2:=by
              intro w1 w2 hc
              match hkj:kd j,hk,hn2 with
              | 0,_,_=>trivial
              | 1,_,_=>rw [hkj] at hc; exact hc
              | 2,_,hn=>exact (hn rfl).elim
              | _ + 3,hle,_=>omega
            have hs:=wp_shape hh
            have step:∀ a' w',((G w'∧LI P ops kd w0 Q (l1++j :: l2) a' w')∧Shape a oi.dst a') →
                ∃ v,Yv P ops w0 (kd j) oj a w v∧LI P ops kd w0 Q (l1++l2) (a'.put oj.dst v) w':=by
              rintro a' w' ⟨⟨hg,hL⟩,hsh⟩
              obtain ⟨v,h1,h2⟩:=takeQ hsel hj hk l1 l2 a' w' hl' (hG w' hg) hL
              have h1':=(Yv.shape sj p1 hsh).1 h1
              refine ⟨v,?_,h2⟩
              rcases h1' with ⟨q1,q2⟩ | ⟨q1,q2⟩
              · exact .inl ⟨q1,fun w2 hc=>q2 w2 (hcl' w' w2 hc)⟩
              · exact .inr ⟨q1,q2⟩
            obtain ⟨v,hv⟩:∃ v,Yv P ops w0 (kd j) oj a w v:=by
              obtain ⟨u,w',hK | ⟨d,hK⟩⟩:=wp_some hs
              · obtain ⟨v,h1,_⟩:=step _ _ hK; exact ⟨v,h1⟩
              · obtain ⟨v,h1,_⟩:=step _ _ hK; exact ⟨v,h1⟩
            refine ⟨v,hv,wp_unapart (ops:=ops) si p3 p2' ?_⟩
            refine Oper.wp_mono (fun a' w' hK=>?_) hs
            obtain ⟨v',h1,h2⟩:=step a' w' hK
            have:v' = v:=h1.unique hx hv
            subst this
            exact ⟨hK.1.1,h2⟩
          by_cases h3:kd i = 3
          · rw [if_pos h3] at h
            have hj1:=ok3 hok h3
            obtain ⟨v,hv,hwp⟩:=gen (fun w'=>Ext w w') (fun w' hg h1=>(hx h1).trans hg) (fun h2=>by omega) h
            refine ⟨v,hv,?_⟩
            rw [wanted_put oi a oj.dst v p3,if_pos hw]
            unfold OneOp
            rw [if_neg hki,if_pos h3]
            exact hwp
          · rw [if_neg h3] at h
            have hj0:=ok4 hok (by omega)
            obtain ⟨v,hv,hwp⟩:=gen (fun _=>True) (fun w' _ h1=>by omega) (fun h2=>by omega) (Oper.wp_mono (fun a w hh=>⟨trivial,hh⟩) h)
            refine ⟨v,hv,?_⟩
            rw [wanted_put oi a oj.dst v p3,if_pos hw]
            unfold OneOp
            rw [if_neg hki,if_neg h3]
            exact Oper.wp_mono (fun a w hh=>hh.2) hwp
      · rw [if_neg hw] at h
        obtain ⟨v,h1,h2⟩:=takeQ hsel hj hk l1 l2 (a.put oi.dst undef) w hl' hx h
        refine ⟨v,(Yv.apart sj p1).1 h1,?_⟩
        rw [wanted_put oi a oj.dst v p3,if_neg hw,Act.put_comm a v undef p2']
        exact h2
theorem takeR (hsel:∀ (j:Nat) (o:Oper) cs b,ops[j]? = some o→o.op≠.select cs b) {j:Nat} {oj:Oper} (hj:ops[j]? = some oj) (hk:3≤kd j) :
    ∀ (l1 l2:List Nat) (a:Act) (w:World),(∀ i∈l1,∀ oi,ops[i]? = some oi→oi.apart ops oj = true∧okPair (kd i) (kd j) = true)→LI P ops kd w0 Q (l1++j :: l2) a w →
      (Region.wanted oj (yielded ops a.tmps) = true→oj.wp P a w (fun a' w'=>(kd j = 3→Ext w w')∧LI P ops kd w0 Q (l1++l2) a' w') (NQ fun _ _=>False)) ∧
      (Region.wanted oj (yielded ops a.tmps) = false→LI P ops kd w0 Q (l1++l2) (a.put oj.dst undef) w)
  | [],l2,a,w,_,h=>by
    simp only [List.nil_append,LI,hj] at h ⊢
    refine ⟨fun hw=>?_,fun hw=>?_⟩
    · rw [if_pos hw] at h
      unfold OneOp at h
      rw [if_neg (by omega)] at h
      split at h
      · exact Oper.wp_mono (fun _ _ hh=>⟨fun _=>hh.1,hh.2⟩) h
      · rename_i h3; exact Oper.wp_mono (fun _ _ hh=>⟨fun h'=>(h3 h').elim,hh⟩) h
    · rw [if_neg (by simp [hw])] at h; exact h
  | i :: l1,l2,a,w,hl,h=>by
    have hi:=hl i (List.mem_cons_self ..)
    have hl':∀ x∈l1,∀ ox,ops[x]? = some ox→ox.apart ops oj = true∧okPair (kd x) (kd j) = true:=fun x hx=>hl x (List.mem_cons_of_mem _ hx)
    simp only [List.cons_append,LI] at h ⊢
    cases hoi:ops[i]? with
    | none=>rw [hoi] at h; exact h.elim
    | some oi =>
      rw [hoi] at h
      simp only at h ⊢
      obtain ⟨hap,hok⟩:=hi oi hoi
      obtain ⟨p1,p2,p3⟩:=Oper.apart_spec hap
      have p2':∀ d,oj.dst = some d→oi.dst≠some d:=fun d hd he=>p2 d he hd
      have si:=fun cs b=>hsel i oi cs b hoi
      have sj:=fun cs b=>hsel j oj cs b hj
      obtain ⟨hki,hk4⟩:=okj hok hk
      by_cases hw:Region.wanted oi (yielded ops a.tmps) = true
      · rw [if_pos hw] at h
        unfold OneOp at h
        rw [if_pos hki] at h
        obtain ⟨vi,hy,h⟩:=h
        obtain ⟨g1,g2⟩:=takeR hsel hj hk l1 l2 (a.put oi.dst vi) w hl' h
        rw [wanted_put oj a oi.dst vi p1] at g1 g2
        refine ⟨fun hwj=>?_,fun hwj=>?_⟩
        · have g:=wp_apart (ops:=ops) (Q:=fun _ _=>False) sj p1 p2 (g1 hwj)
          refine Oper.wp_mono (fun a' w' hK=>?_) (wp_shape g)
          obtain ⟨⟨hE,hL⟩,hsh⟩:=hK
          refine ⟨hE,?_⟩
          rw [wanted_shape p3 hsh,if_pos hw]
          unfold OneOp
          rw [if_pos hki]
          refine ⟨vi,fun w'' hc=>?_,hL⟩
          have hya:YA P oi a w'' vi:=by
            refine hy w'' ?_
            match hki':kd i,hki,hk4 with
            | 0,_,_=>trivial
            | 1,_,_=>rw [hki'] at hc; exact hc
            | 2,_,h4=>rw [hki'] at hc; exact (hE (by have:¬ 4≤kd j:=(fun hh=>by have:=h4 hh; omega); omega)).trans hc
            | _ + 3,hle,_=>omega
          have he:∀ b,YA P oi b w'' vi↔YR P ((execOp b.eval oi).run P w'') w'' vi:=fun _=>Iff.rfl
          obtain ⟨u,rfl | ⟨x,rfl⟩⟩:=hsh
          · exact (YA.apart (ops:=ops) si p3).2 hya
          · refine (YA.apart (ops:=ops) si p3).2 ?_
            have hee:Act.eval { a with defers:=x :: a.defers } = Act.eval a:=funext fun y=>by cases y <;> rfl
            rw [he,hee,← he]; exact hya
        · rw [wanted_put oi a oj.dst undef p3,if_pos hw]
          unfold OneOp
          rw [if_pos hki]
          refine ⟨vi,fun w' hc=>(YA.apart (ops:=ops) si p3).2 (hy w' hc),?_⟩
          rw [Act.put_comm a undef vi p2']
          exact g2 hwj
      · rw [if_neg hw] at h
        obtain ⟨g1,g2⟩:=takeR hsel hj hk l1 l2 (a.put oi.dst undef) w hl' h
        rw [wanted_put oj a oi.dst undef p1] at g1 g2
        refine ⟨fun hwj=>?_,fun hwj=>?_⟩
        · have g:=wp_apart (ops:=ops) (Q:=fun _ _=>False) sj p1 p2 (g1 hwj)
          refine Oper.wp_mono (fun a' w' hK=>?_) (wp_shape g)
          obtain ⟨⟨hE,hL⟩,hsh⟩:=hK
          refine ⟨hE,?_⟩
          rw [wanted_shape p3 hsh,if_neg hw]
          exact hL
        · rw [wanted_put oi a oj.dst undef p3,if_neg hw,Act.put_comm a undef undef p2']
          exact g2 hwj
end main
end
section
variable {P:Program} {ops:Array Oper} {md:Region.Mode} {kd bs:Nat→Nat} {w0:World} {Q:Act→World→Prop}
theorem any_of_LI (hsel:∀ (j:Nat) (o:Oper) cs b,ops[j]? = some o→o.op≠.select cs b) (hS:Sound md ops bs)
    (hlex:∀ j oj,ops[j]? = some oj→∀ e∈oj.after,Region.binds md e = true→e.on < j) :
    ∀ (n:Nat) (l:List Nat) (listed:Array Bool) (a:Act) (w:World),l.length = n→l.Pairwise (PairOK md ops kd bs)→l.Nodup→listed.size = ops.size →
      (∀ i,i∈l↔listed.getD i true = false)→Closed bs listed→No14 kd l→Inv1 kd w0 w l→LI P ops kd w0 Q l a w→wpAny P md ops (NQ Q) n listed a w
  | 0,l,listed,a,w,hn,_,_,_,hm,_,_,_,h=>by
    have hl:l = []:=List.eq_nil_of_length_eq_zero hn
    subst hl
    refine ⟨?_,h⟩
    cases hr:Region.ready md ops listed with
    | nil=>rfl
    | cons x xs =>
      have:=(mem_ready.1 (by rw [hr]; exact List.mem_cons_self ..:x∈Region.ready md ops listed)).1
      exact absurd ((hm x).2 this) (by simp)
  | n + 1,l,listed,a,w,hn,hs,hd,hz,hm,hc,h14,hi1,h=>by
    refine ⟨fun h0=>?_,fun i hi=>?_⟩
    · exfalso
      match l,hn with
      | i :: l,hn =>
        have hready:=head_ready (md:=md) hz hm hlex (fun y hy ox hox=>((List.pairwise_cons.1 hs).1 y hy).2 ox hox)
        rw [h0] at hready
        cases hready
    · obtain ⟨hun,oi,hoi,hall⟩:=mem_ready.1 hi
      obtain ⟨l1,l2,rfl⟩:=List.append_of_mem ((hm i).2 hun)
      have hbits:=bits_of_ready hS hc hoi hall
      have hpi:∀ x∈l1,PairOK md ops kd bs x i:=fun x hx=>(List.pairwise_append.1 hs).2.2 x hx i (List.mem_cons_self ..)
      have hfree:=prefix_free (kd:=kd) (l1:=l1) hoi (fun x hx=>(hpi x hx).1) (fun x hx=>(hm x).1 (List.mem_append_left _ hx)) hbits
      have hsz:=lt_of_unlisted hun
      have hsub0:(l1++l2).Sublist (l1++i :: l2):=List.Sublist.append_left (List.sublist_cons_self _ _) _
      have hnd:i∉l1++l2:=by
        have h1:=List.nodup_append.1 hd
        intro hmem
        rcases List.mem_append.1 hmem with hh | hh
        · exact h1.2.2 i hh i (List.mem_cons_self ..) rfl
        · exact (List.nodup_cons.1 h1.2.1).1 hh
      have hn':(l1++l2).length = n:=by simp at hn ⊢; omega
      have rec_:∀ a' w',Inv1 kd w0 w' (l1++l2)→LI P ops kd w0 Q (l1++l2) a' w'→wpAny P md ops (NQ Q) n (listed.setIfInBounds i true) a' w':=fun a' w' hi' hL =>
        any_of_LI hsel hS hlex n (l1++l2) _ a' w' hn' (hs.sublist hsub0) (hd.sublist hsub0) (by simpa using hz) (mem_erase hm hnd hsz) (closed_set hc hbits) (No14.erase h14) hi' hL
      have hsub:Inv1 kd w0 w (l1++l2):=fun ⟨j,hj,hk⟩=>hi1 ⟨j,hsub0.subset hj,hk⟩
      by_cases hk:kd i≤2
      · obtain ⟨v,hv,hL⟩:=takeQ hsel hoi hk l1 l2 a w hfree (fun h1=>hi1 ⟨i,by simp,h1⟩) h
        unfold wpOp
        rw [hoi]
        rcases hv with ⟨hw,hy⟩ | ⟨hw,rfl⟩
        · simp only [hw,if_true]
          exact .inl (wp_of_YA (hy w (Cl.self fun h1=>hi1 ⟨i,by simp,h1⟩)) (rec_ _ _ hsub hL))
        · simp only [hw,Bool.false_eq_true,if_false]
          exact rec_ _ _ hsub hL
      · obtain ⟨g1,g2⟩:=takeR hsel hoi (by omega) l1 l2 a w hfree h
        unfold wpOp
        rw [hoi]
        by_cases hw:Region.wanted oi (yielded ops a.tmps) = true
        · simp only [hw,if_true]
          refine .inl (Oper.wp_mono (fun a' w' hK=>rec_ a' w' ?_ hK.2) (wp_weak (g1 hw)))
          rintro ⟨j,hj,hkj⟩
          by_cases h3:kd i = 3
          · exact (hsub ⟨j,hj,hkj⟩).trans (hK.1 h3)
          · exfalso
            rcases List.mem_append.1 hj with hh | hh
            · obtain ⟨oj,hoj⟩:∃ oj,ops[j]? = some oj:=by
                have:=lt_of_unlisted ((hm j).1 (List.mem_append_left _ hh))
                exact ⟨ops[j]'(by omega),by simp [show j < ops.size by omega]⟩
              have:=(okj (hfree j hh oj hoj).2 (by omega)).2 (by omega)
              omega
            · exact h14 l1 i l2 rfl (by omega) j hh hkj
        · simp only [hw,Bool.false_eq_true,if_false]
          exact rec_ _ _ hsub (g2 (by simpa using hw))
theorem LI_of_LW (ks:List Nat):∀ (os:List Oper) (k:Nat) (a:Act) (w:World),(∀ j,os[j]? = ops[k + j]?) →
    LW P ops w0 Q os (ks.drop k) a w→LI P ops (fun i=>ks.getD i 0) w0 Q (List.range' k os.length) a w
  | [],_,_,_,_,h=>by simpa [LI,LW] using h
  | o :: os,k,a,w,ho,h=>by
    have h0:ops[k]? = some o:=by simpa using (ho 0).symm
    have hr:∀ a w,LW P ops w0 Q os (ks.drop (k + 1)) a w→LI P ops (fun i=>ks.getD i 0) w0 Q (List.range' (k + 1) os.length) a w:=fun a w hh =>
      LI_of_LW ks os (k + 1) a w (fun j=>by have:=ho (j + 1); simpa [Nat.add_assoc,Nat.add_comm 1 j] using this) hh
    have hlt:k < ks.length:=by
      rcases Nat.lt_or_ge k ks.length with hh | hh
      · exact hh
      · rw [List.drop_of_length_le hh] at h; exact h.elim
    have hd:ks.drop k = ks[k] :: ks.drop (k + 1):=List.drop_eq_getElem_cons hlt
    rw [hd] at h
    simp only [List.length_cons,List.range'_succ,LI,h0,LW] at h ⊢
    have hg:ks.getD k 0 = ks[k]:=by simp [hlt]
    split
    · rename_i hw
      rw [if_pos hw] at h
      rw [hg]
      exact h.mono hr
    · rename_i hw
      rw [if_neg hw] at h
      exact hr _ _ h
theorem wp_draw {id:Nat} {Q:Exit→Act→World→Prop} {a:Act} {w:World} (os:List Oper) (ks:List Nat) (hm:P.follows .mixedOrders = true) (hB:chk os.toArray ks = true)
    (h:LW P os.toArray w.drew (fun a w=>Q .normal a w) os ks a w.drew):(Code.region id os.toArray true).wp P Q a w:=by
  refine wp_region_any hm ?_
  simp only [chk,Bool.and_eq_true] at hB
  obtain ⟨⟨hsel,hpl⟩,h14⟩:=hB
  have hz:∀ {j:Nat} {o:Oper},os.toArray[j]? = some o→(o,j)∈os.toArray.toList.zipIdx:=by
    intro j o ho
    rw [List.mem_zipIdx_iff_getElem?]
    simpa using ho
  have hall:∀ j oj,os.toArray[j]? = some oj→_:=fun j oj hj=>List.all_eq_true.1 hpl _ (hz hj)
  have hF:Free os.toArray (fun i=>ks.getD i 0) (fun j=>(Region.before os.toArray).toList.getD j 0):=by
    intro i j oi oj hij hi hj
    have h3:=(Bool.and_eq_true _ _ ▸ hall j oj hj:_∧_).2
    have h4:=List.all_eq_true.1 h3 _ (hz hi)
    simp only [Bool.or_eq_true,Bool.not_eq_true',decide_eq_false_iff_not,Bool.and_eq_true] at h4
    rcases h4 with (h4 | h4) | h4
    · exact absurd hij h4
    · exact .inl h4
    · exact .inr h4
  have hlex:∀ j oj,os.toArray[j]? = some oj→∀ e∈oj.after,Region.binds .any e = true→e.on < j:=by
    intro j oj hj e he hb
    have h1:=(Bool.and_eq_true _ _ ▸ (Bool.and_eq_true _ _ ▸ hall j oj hj:_∧_).1:_∧_).1
    have h2:=(Array.all_eq_true_iff_forall_mem.1 h1) e he
    simpa [hb] using h2
  have key:=any_of_LI (P:=P) (ops:=os.toArray) (md:=.any) (kd:=fun i=>ks.getD i 0) (bs:=fun j=>(Region.before os.toArray).toList.getD j 0) (w0:=w.drew) (Q:=fun a w=>Q .normal a w)
    (Region.noSelect_spec hsel) ?_ ?_ os.length (List.range' 0 os.length) (Array.replicate os.length false) a w.drew (by simp) ?_ List.nodup_range' (by simp) ?_ ?_ ?_ (fun _=>Ext.refl _) ?_
  · have:=wpAny_weak _ _ _ _ key
    simpa using this
  · intro j oj hj i hb
    have h3:=(Bool.and_eq_true _ _ ▸ (Bool.and_eq_true _ _ ▸ hall j oj hj:_∧_).1:_∧_).2
    have h5:(Region.before os.toArray).toList.getD j 0 = oj.after.foldl (fun s e=>if Region.binds .any e then s ||| 2 ^ e.on ||| (Region.before os.toArray).toList.getD e.on 0 else s) 0:=by simpa using h3
    dsimp only at hb
    rw [h5,← Array.foldl_toList] at hb
    rcases foldl_bits _ _ _ _ hb with hb | ⟨e,he,hbb,hh⟩
    · simp at hb
    · exact ⟨e,Array.mem_toList_iff.1 he,hbb,hh⟩
  · exact hlex
  · exact pairs_sorted hF hlex List.pairwise_lt_range'
  · intro i
    simp only [List.mem_range',Nat.zero_add,Nat.one_mul]
    constructor
    · rintro ⟨x,hx,rfl⟩; simp [hx]
    · intro hh
      rcases Nat.lt_or_ge i os.length with h' | h'
      · exact ⟨i,h',rfl⟩
      · simp [Array.getElem?_eq_none (show (Array.replicate os.length false).size≤i by simpa using h')] at hh
  · intro i hi
    rcases Nat.lt_or_ge i os.length with h' | h'
    · simp [h'] at hi
    · simp [Array.getElem?_eq_none (show (Array.replicate os.length false).size≤i by simpa using h')] at hi
  · intro l1 i l2 hl hk j hj
    have hs:(l1++i :: l2).Pairwise (· < ·):=hl ▸ List.pairwise_lt_range'
    have hij:i < j:=List.rel_of_pairwise_cons (List.pairwise_append.1 hs).2.1 hj
    have mem:∀ x∈l1++i :: l2,x < os.length:=by
      intro x hx
      rw [← hl] at hx
      simp only [List.mem_range',Nat.zero_add,Nat.one_mul] at hx
      obtain ⟨y,hy,rfl⟩:=hx
      exact hy
    have hi:=mem i (by simp)
    have hj':=mem j (by simp [hj])
    have h1:=List.all_eq_true.1 h14 _ (hz (j:=i) (o:=os[i]) (by simp [hi]))
    simp only [Bool.or_eq_true,Bool.not_eq_true',decide_eq_false_iff_not] at h1
    rcases h1 with h1 | h1
    · exact absurd hk h1
    · have h2:=List.all_eq_true.1 h1 _ (hz (j:=j) (o:=os[j]) (by simp [hj']))
      simp only [Bool.or_eq_true,Bool.not_eq_true',decide_eq_false_iff_not] at h2
      rcases h2 with h2 | h2
      · exact absurd hij h2
      · simpa using h2
  · exact LI_of_LW ks os 0 a w.drew (by simp) (by simpa using h)
end
section
variable {P:Program} {ops:Array Oper} {w0:World} {Q:Act→World→Prop} {os:List Oper} {ks:List Nat} {N:Nat} {ρ:Nat→Value} {w:World}
theorem lw_nil {a:Act} (h:Q a w):LW P ops w0 Q [] ks a w:=h
theorem lw_q {o:Oper} {k d:Nat} (hk:k≤2) (hd:o.dst = some d) (hu:Up ops N ρ o) (v:Value) (hr:∀ w',Cl w0 w k w'→(execOp (evF N ρ) o).run P w' = .ok (.value v) w')
    (h:LW P ops w0 Q os ks (mk N (upd ρ d v)) w):LW P ops w0 Q (o :: os) (k :: ks) (mk N ρ) w:=by
  simp only [LW]
  rw [if_pos hu]
  unfold OneOp
  rw [if_pos hk]
  refine ⟨v,fun w' hc=>.inl ?_,?_⟩
  · rw [mk_eval]; exact hr w' hc
  · rw [hd,mk_put]; exact h
theorem lw_r {o:Oper} {d:Nat} (hd:o.dst = some d) (hu:Up ops N ρ o)
    (v:Value) (w1:World) (hr:(execOp (evF N ρ) o).run P w = .ok (.value v) w1) (hE:Ext w w1) (h:LW P ops w0 Q os ks (mk N (upd ρ d v)) w1):LW P ops w0 Q (o :: os) (3 :: ks) (mk N ρ) w:=by
  simp only [LW]
  rw [if_pos hu]
  unfold OneOp
  rw [if_neg (by decide),if_pos rfl]
  unfold Oper.wp
  rw [mk_eval,hr]
  show Ext w w1∧LW P ops w0 Q os ks ((mk N ρ).put o.dst v) w1
  rw [hd,mk_put]
  exact ⟨hE,h⟩
theorem lw_call {d:Nat} {x:Operand} {xs:Array Operand} {ats:Array TypeId} {ty:TypeId} {pos:String} {aft:Array Edge} {g:Option (Nat × Bool)} (f:FuncId) (first cap:List Value) (args:List Value)
    (hx:evF N ρ x = .func (.func f) first.toArray cap.toArray) (hxs:first++(xs.toList.map (evF N ρ))++cap = args) (hf:((P.funcs[f]?).map fun fn=>(fn.name != "runtime.NumGoroutine") && fn.body.isSome) = some true)
    (hu:Up ops N ρ ⟨some d,.call ⟨.value x,xs,ats⟩,ty,pos,aft,g⟩) {R:Ending→World→Prop} (hc:Calls P f args.toArray w R)
    (h:∀ e w1,R e w1→∃ v,e = .returned v∧Ext w w1∧LW P ops w0 Q os ks (mk N (upd ρ d v)) w1) :
    LW P ops w0 Q (⟨some d,.call ⟨.value x,xs,ats⟩,ty,pos,aft,g⟩ :: os) (3 :: ks) (mk N ρ) w:=by
  simp only [LW]
  rw [if_pos hu]
  unfold OneOp
  rw [if_neg (by decide),if_pos rfl]
  unfold Oper.wp
  rw [mk_eval]
  have hrun:(execOp (evF N ρ) ⟨some d,.call ⟨.value x,xs,ats⟩,ty,pos,aft,g⟩).run P w = .ok (.enter f args.toArray) w:=by
    obtain ⟨fn,hfn,hb⟩:=Option.map_eq_some_iff.1 hf
    simp only [Bool.and_eq_true,bne_iff_ne,ne_eq] at hb
    have hargs:first.toArray++xs.map (evF N ρ)++cap.toArray = args.toArray:=by
      rw [← hxs]; apply Array.ext'; simp
    obtain ⟨c,hbc⟩:=Option.isSome_iff_exists.1 hb.2
    have hcf:(callFunc f args.toArray).run P w = .ok (.enter f args.toArray) w:=by
      simp [callFunc,hfn,hb.1,hbc]
    simp [execOp,resolve,hargs,hx,Deferred.ofValue,invoke,hcf]
  rw [hrun]
  refine Calls.mono hc (fun e w1 he=>?_)
  obtain ⟨v,rfl,hE,hL⟩:=h e w1 he
  show Ext w w1∧LW P ops w0 Q os ks ((mk N ρ).put (some d) v) w1
  rw [mk_put]
  exact ⟨hE,hL⟩
theorem lw_callq {d:Nat} {x:Operand} {xs:Array Operand} {ats:Array TypeId} {ty:TypeId} {pos:String} {aft:Array Edge} {g:Option (Nat × Bool)} (f:FuncId) (first cap:List Value) (args:List Value)
    (hx:evF N ρ x = .func (.func f) first.toArray cap.toArray) (hxs:first++(xs.toList.map (evF N ρ))++cap = args) (hf:((P.funcs[f]?).map fun fn=>(fn.name != "runtime.NumGoroutine") && fn.body.isSome) = some true)
    (hu:Up ops N ρ ⟨some d,.call ⟨.value x,xs,ats⟩,ty,pos,aft,g⟩) (v:Value) (hc:∀ w',Calls P f args.toArray w' (fun e w''=>e = .returned v∧w'' = w'))
    (h:LW P ops w0 Q os ks (mk N (upd ρ d v)) w) :
    LW P ops w0 Q (⟨some d,.call ⟨.value x,xs,ats⟩,ty,pos,aft,g⟩ :: os) (0 :: ks) (mk N ρ) w:=by
  simp only [LW]
  rw [if_pos hu]
  unfold OneOp
  rw [if_pos (by decide)]
  have hrun:∀ w,(execOp (evF N ρ) ⟨some d,.call ⟨.value x,xs,ats⟩,ty,pos,aft,g⟩).run P w = .ok (.enter f args.toArray) w:=by
    intro w
    obtain ⟨fn,hfn,hb⟩:=Option.map_eq_some_iff.1 hf
    simp only [Bool.and_eq_true,bne_iff_ne,ne_eq] at hb
    have hargs:first.toArray++xs.map (evF N ρ)++cap.toArray = args.toArray:=by
      rw [← hxs]; apply Array.ext'; simp
    obtain ⟨c,hbc⟩:=Option.isSome_iff_exists.1 hb.2
    have hcf:(callFunc f args.toArray).run P w = .ok (.enter f args.toArray) w:=by
      simp [callFunc,hfn,hb.1,hbc]
    simp [execOp,resolve,hargs,hx,Deferred.ofValue,invoke,hcf]
  refine ⟨v,fun w' _=>.inr (.inr ⟨f,args.toArray,?_,hc w'⟩),?_⟩
  · rw [mk_eval]; exact hrun w'
  · show LW P ops w0 Q os ks ((mk N ρ).put (some d) v) w
    rw [mk_put]; exact h
end
section
variable {P:Program} {ops:Array Oper} {w0:World} {Q:Act→World→Prop} {os:List Oper} {ks:List Nat} {N:Nat} {ρ:Nat→Value} {w:World}
  {d:Nat} {ty:TypeId} {pos:String} {aft:Array Edge} {g:Option (Nat × Bool)} {t e:TypeId}
theorem q_move {x:Operand} (v:Value) (hx:evF N ρ x = v) (hu:Up ops N ρ ⟨some d,.move x,ty,pos,aft,g⟩) (h:LW P ops w0 Q os ks (mk N (upd ρ d v)) w) :
    LW P ops w0 Q (⟨some d,.move x,ty,pos,aft,g⟩ :: os) (0 :: ks) (mk N ρ) w :=
  lw_q (by decide) rfl hu v (fun w' _=>by simp [execOp,hx]) h
theorem q_idx {t e:TypeId} {x y:Operand} {v:Value} {n s:Nat} {k:IntKind} {i:Int} (j:Nat) (ht:P.underlying t = some (.slice e)) {z:Value} {b:Nat} (hi:TI P e s z b) (hx:evF N ρ x = v) (hy:evF N ρ y = .int k i)
    (hs:isSl v n) (hj:i = (j:Int)) (hlt:j < n) (hu:Up ops N ρ ⟨some d,.indexAddr t x y,ty,pos,aft,g⟩)
    (h:LW P ops w0 Q os ks (mk N (upd ρ d (eptr v j s))) w):LW P ops w0 Q (⟨some d,.indexAddr t x y,ty,pos,aft,g⟩ :: os) (0 :: ks) (mk N ρ) w :=
  lw_q (by decide) rfl hu _ (fun w' _=>by
    obtain ⟨a,c,rfl,ha⟩:=hs
    obtain ⟨inf,h1,_,h3,_⟩:=hi.get
    subst hj
    cases a with
    | none=>have:=ha rfl; omega
    | some a =>
      have hlt':(j:Int) < (n:Int):=by omega
      simp [execOp,hx,hy,Instr.indexAt,asIntOf,run_underlying ht,sizeOf,typeInfo,h1,h3,eptr,hlt]) h
theorem q_fldP {s:TypeId} {x:Operand} {i:Nat} {p:Value} {b o:Nat} (off:Nat) (hf:fdO P s i off = true) (hx:evF N ρ x = p) (hp:p = .pointer (some ⟨b,o,none⟩)) (hu:Up ops N ρ ⟨some d,.fieldAddr s x i,ty,pos,aft,g⟩)
    (h:LW P ops w0 Q os ks (mk N (upd ρ d (padd p off))) w):LW P ops w0 Q (⟨some d,.fieldAddr s x i,ty,pos,aft,g⟩ :: os) (0 :: ks) (mk N ρ) w :=
  lw_q (by decide) rfl hu _ (fun w' _=>by
    subst hp
    unfold fdO at hf
    split at hf
    · rename_i fs hfs
      split at hf
      · rename_i f hff
        simp only [Bool.and_eq_true,beq_iff_eq] at hf
        obtain ⟨rfl,hf2⟩:=hf
        split at hf2
        · rename_i inf hin
          have hne:inf.size≠0:=by simpa using hf2
          simp [execOp,Instr.fieldAt,Instr.sureAddr,run_underlying hfs,hff,hx,fieldPlace,sizeOf,typeInfo,hin,hne,add_mk,padd]
        · cases hf2
      · cases hf
    · cases hf) h
theorem q_loadJ {x:Operand} {p:Value} (u:Value) (ht:oneTy P t) (hx:evF N ρ x = p) (hc:∀ w',Ext w0 w'→ldH w'.heap p = some u) (hu:Up ops N ρ ⟨some d,.load t x,ty,pos,aft,g⟩)
    (h:LW P ops w0 Q os ks (mk N (upd ρ d u)) w):LW P ops w0 Q (⟨some d,.load t x,ty,pos,aft,g⟩ :: os) (1 :: ks) (mk N ρ) w :=
  lw_q (by decide) rfl hu _ (fun w' hcl=>by simp [execOp,hx,run_load1 ht (hc w' hcl)]) h
end
section
variable {P:Program} {ops:Array Oper} {w0:World} {Q:Act→World→Prop} {os:List Oper} {ks:List Nat} {N:Nat} {ρ:Nat→Value} {w:World}
  {d:Nat} {ty:TypeId} {pos:String} {aft:Array Edge} {g:Option (Nat × Bool)} {t e:TypeId} {z:Value} {b:Nat}
theorem r_one {α:Type} {E:Stand α} (hE:Good E) {x:Operand} {u:Value} {y:α} {B U:Nat} (ht:P.underlying t = some (.slice e)) (hi:TI P e 1 z b) (hz:z.cells = #[z]) (hx:evF N ρ x = u) (hy:Fr E B U w.heap u y) (hB:B≤w.heap.size)
    (hu:Up ops N ρ ⟨some d,.buildSlice t 1 #[(0,x)],ty,pos,aft,g⟩)
    (h:∀ v w1,_root_.Go.Proofs.YtlbefjfhfodnlaaGreatDoor.Ext w w1→w1.heap.size = w.heap.size + 1→Fr (owL E e) B w1.heap.size w1.heap v [y]→LW P ops w0 Q os ks (mk N (upd ρ d v)) w1) :
    LW P ops w0 Q (⟨some d,.buildSlice t 1 #[(0,x)],ty,pos,aft,g⟩ :: os) (3 :: ks) (mk N ρ) w:=by
  obtain ⟨F,h1,h2,h3⟩:=hy
  have hr:=run_bs1 (P:=P) (w:=w) ht hi (hE.cells h1) hz
  have hrun:(execOp (evF N ρ) ⟨some d,.buildSlice t 1 #[(0,x)],ty,pos,aft,g⟩).run P w = .ok (.value (.slice (some ⟨w.heap.size,0,none⟩) 1 1)) (w.alloc (.cells #[u] e)):=by
    simp only [execOp,List.map_toArray,List.map_cons,List.map_nil,Sem.run_bind,hx,hr,Result.andThen_ok,Sem.run_pure]
  refine lw_r rfl hu _ _ hrun (J.ext (ext_alloc _ _)) (h _ _ (ext_alloc _ _) (by simp) ?_)
  have hn:=owL_new (e:=e) (w:=w) hE (us:=[u]) (xs:=[y]) (F:=F++[]) (cur:=#[u]) ⟨F,[],rfl,h1,rfl⟩ (by simp [maxLen]) rfl (by simp)
  refine ⟨_,hn,?_,fun c hc=>?_⟩
  · rw [List.append_nil,List.nodup_cons]
    exact ⟨fun hm=>by have:=hE.lt h1 _ hm; omega,h2⟩
  · have hlt:=(good_owL hE).lt hn c hc
    refine ⟨?_,hlt⟩
    rcases List.mem_cons.1 hc with rfl | hc
    · exact hB
    · exact (h3 c (by simpa using hc)).1
end
end Jx
end Go.Proofs.YtlbefjfhfodnlaaGreatDoor
namespace Go.Proofs.YtlbefjfhfodnlaaGreatDoor
open Go Go.RowKit
set_option linter.unusedVariables false
set_option linter.unusedSimpArgs false
section ops
variable {P:Program} {ops:Array Oper} {w0:World} {Q:Act→World→Prop} {os:List Oper} {ks:List Nat} {N:Nat} {ρ:Nat→Value} {w:World}
  {d:Nat} {ty:TypeId} {pos:String} {aft:Array Edge} {g:Option (Nat × Bool)} {t e:TypeId}
theorem q_nilP {x:Operand} {p:Value} (hp:∃ g o,p = .pointer (some ⟨g,o,none⟩)) (hx:evF N ρ x = p) (hu:Up ops N ρ ⟨some d,.nilCheck x,ty,pos,aft,g⟩)
    (h:LW P ops w0 Q os ks (mk N (upd ρ d p)) w):LW P ops w0 Q (⟨some d,.nilCheck x,ty,pos,aft,g⟩ :: os) (0 :: ks) (mk N ρ) w:=by
  obtain ⟨b,o,rfl⟩:=hp
  exact lw_q (by decide) rfl hu _ (fun w' _=>by simp [execOp,hx]) h
theorem addr_add0 (a:Addr):a.add 0 = a:=by
  obtain ⟨b,o,s⟩:=a
  unfold Addr.add
  simp
end ops
end Go.Proofs.YtlbefjfhfodnlaaGreatDoor
namespace Go.Proofs.YtlbefjfhfodnlaaGreatDoor
open Go Go.RowKit
set_option linter.unusedVariables false
set_option linter.unusedSimpArgs false
def strE (a b:ByteArray):Bool:=a.toList == b.toList
theorem strE_refl (a:ByteArray):strE a a = true:=by unfold strE; simp
section ops
variable {P:Program} {ops:Array Oper} {w0:World} {Q:Act→World→Prop} {os:List Oper} {ks:List Nat} {N:Nat} {ρ:Nat→Value} {w:World}
  {d:Nat} {ty:TypeId} {pos:String} {aft:Array Edge} {g:Option (Nat × Bool)} {t e:TypeId}
theorem q_eqls {xt yt:TypeId} {x y:Operand} {a b:ByteArray} (c:Bool) (ht:P.underlying xt = some .string) (hx:evF N ρ x = .string a) (hy:evF N ρ y = .string b) (hc:strE a b = c) (hu:Up ops N ρ ⟨some d,.binOp .eql xt x y yt,ty,pos,aft,g⟩)
    (h:LW P ops w0 Q os ks (mk N (upd ρ d (.bool c))) w):LW P ops w0 Q (⟨some d,.binOp .eql xt x y yt,ty,pos,aft,g⟩ :: os) (0 :: ks) (mk N ρ) w :=
  lw_q (by decide) rfl hu _ (fun w' _=>by
    have he:(eqGuard .eql xt x y (.string a) (.string b)).run P w' = .ok () w':=rfl
    have hr:(binOp .eql xt (.string a) (.string b)).run P w' = .ok (.bool (strE a b)) w':=by simp [binOp,Op.stringOp,strE]
    simp only [execOp,hx,hy,Sem.run_bind,he,Result.andThen_ok,hr,hc,Sem.run_pure]) h
theorem q_neqs {xt yt:TypeId} {x y:Operand} {a b:ByteArray} (c:Bool) (ht:P.underlying xt = some .string) (hx:evF N ρ x = .string a) (hy:evF N ρ y = .string b) (hc:(!strE a b) = c) (hu:Up ops N ρ ⟨some d,.binOp .neq xt x y yt,ty,pos,aft,g⟩)
    (h:LW P ops w0 Q os ks (mk N (upd ρ d (.bool c))) w):LW P ops w0 Q (⟨some d,.binOp .neq xt x y yt,ty,pos,aft,g⟩ :: os) (0 :: ks) (mk N ρ) w :=
  lw_q (by decide) rfl hu _ (fun w' _=>by
    have he:(eqGuard .neq xt x y (.string a) (.string b)).run P w' = .ok () w':=rfl
    have hr:(binOp .neq xt (.string a) (.string b)).run P w' = .ok (.bool (!strE a b)) w':=by simp [binOp,Op.stringOp,strE]
    simp only [execOp,hx,hy,Sem.run_bind,he,Result.andThen_ok,hr,hc,Sem.run_pure]) h
def prefV:Value→Nat→Value
  | .slice a _ c,k=>.slice a k c
  | v,_=>v
theorem RN.pref {α:Type} {S:List Nat} {s:Nat} {E:StandN α} {H:Array Obj} {v:Value} {xs:List α} (hE:GoodN s E) {k:Nat} (h:RN S (rdS s E) H v xs) (hk:k≤xs.length):RN S (rdS s E) H (prefV v k) (xs.take k):=by
  obtain ⟨F,h,hb⟩:=h
  obtain ⟨a,c,rfl,_⟩:=h.cap
  obtain ⟨G,g1,g2⟩:=h.take hE hk
  exact ⟨G,g1,fun b hm=>hb b (g2 b hm)⟩
theorem RN.capS {α:Type} {S:List Nat} {s:Nat} {E:StandN α} {H:Array Obj} {v:Value} {xs:List α} (h:RN S (rdS s E) H v xs):CapS v:=by
  obtain ⟨F,h,hb⟩:=h
  obtain ⟨a,c,rfl,hl⟩:=h.cap
  exact hl
theorem q_pref {x y:Operand} {v z:Value} {n s b k:Nat} (ht:P.underlying t = some (.slice e)) (hi:TI P e s z b) (hx:evF N ρ x = v) (hs:isSl v n) (hc:CapS v) (hy:evF N ρ y = .int .i64 (k:Int)) (hk:k≤n) (hu:Up ops N ρ ⟨some d,.slice t x none (some y) none,ty,pos,aft,g⟩)
    (h:LW P ops w0 Q os ks (mk N (upd ρ d (prefV v k))) w):LW P ops w0 Q (⟨some d,.slice t x none (some y) none,ty,pos,aft,g⟩ :: os) (0 :: ks) (mk N ρ) w:=by
  obtain ⟨a,cap,rfl,_⟩:=hs
  obtain ⟨inf,h1,_,h3,_⟩:=hi.get
  refine lw_q (by decide) rfl hu _ (fun w' _=>?_) h
  have hl:n≤cap:=hc
  have hl':k≤cap:=by omega
  have hmap:∀ a:Option Addr,a.map (·.add 0) = a:=fun a=>by cases a <;> simp [addr_add0]
  simp [execOp,hx,hy,Instr.sliceAt,Instr.slice,Instr.sliceBounds,Instr.sliceBound,asIntOf,run_underlying ht,sizeOf,typeInfo,h1,h3,hl',hmap,prefV]
end ops
end Go.Proofs.YtlbefjfhfodnlaaGreatDoor
namespace Go.Proofs.YtlbefjfhfodnlaaGreatDoor
open Go Go.RowKit
set_option linter.unusedVariables false
set_option linter.unusedSimpArgs false
def owS {α:Type} (s:Nat) (E:StandN α) (e:TypeId):Stand (List α):=fun H v xs F =>
  (v = .slice none 0 0∧xs = []∧F = []) ∨
  ∃ css g cap cur F',elsN E H css xs F'∧v = .slice (some ⟨g,0,none⟩) xs.length cap∧H[g]? = some (.cells cur e (0,0))∧xs.length≤cap∧cap≤maxLen∧cur.size = cap * s∧cur.toList.take (xs.length * s) = css.flatten∧F = g :: F'
section owS
variable {α:Type} {E:StandN α} {s:Nat} {e:TypeId} {H H':Array Obj} {v:Value} {xs:List α} {F:List Nat}
theorem good_owS (hE:GoodN s E):Good (owS s E e) where
  cells:=by
    rintro H v xs F (⟨rfl,_⟩ | ⟨us,g,cap,cur,F',_,rfl,_⟩) <;> rfl
  one:=by
    rintro H v xs F (⟨rfl,_⟩ | ⟨us,g,cap,cur,F',_,rfl,_⟩) <;> rfl
  lt:=by
    rintro H v xs F (⟨rfl,_,rfl⟩ | ⟨us,g,cap,cur,F',h,rfl,hg,_,_,_,_,rfl⟩) b hb
    · cases hb
    · rcases List.mem_cons.1 hb with rfl | hb
      · exact getElem?_lt hg
      · exact h.lt hE b hb
  stable:=by
    rintro H H' v xs F (⟨rfl,h1,h2⟩ | ⟨us,g,cap,cur,F',h,rfl,hg,r1,r2,r3,r4,rfl⟩) hb
    · exact .inl ⟨rfl,h1,h2⟩
    · exact .inr ⟨us,g,cap,cur,F',h.stable hE fun b hh=>hb b (List.mem_cons_of_mem _ hh),rfl,by rw [hb g (List.mem_cons_self ..)]; exact hg,r1,r2,r3,r4,rfl⟩
theorem elsN.imp {E':StandN α} (hi:∀ {H cs x F},E H cs x F→E' H cs x F):∀ {css:List (List Value)} {xs:List α} {F:List Nat},elsN E H css xs F→elsN E' H css xs F
  | [],[],_,h=>h
  | _ :: _,_ :: _,_,⟨F1,F2,rfl,h1,h2⟩=>⟨F1,F2,rfl,hi h1,elsN.imp hi h2⟩
  | [],_ :: _,_,h=>h.elim
  | _ :: _,[],_,h=>h.elim
theorem owS.rd (hE:GoodN s E) (h:owS s E e H v xs F):rdS s E H v xs F:=by
  rcases h with ⟨rfl,rfl,rfl⟩ | ⟨us,g,cap,cur,F',h,rfl,hg,r1,r2,r3,r4,rfl⟩
  · exact .inl ⟨none,0,rfl,rfl,rfl⟩
  · refine .inr ⟨us,g,0,cap,cur,e,(0,0),F',h,rfl,hg,?_,⟨Nat.le_trans r1 r2,r1⟩,rfl⟩
    rw [List.drop_zero]; exact r4
theorem owS.isSl (h:owS s E e H v xs F):isSl v xs.length:=by
  rcases h with ⟨rfl,rfl,_⟩ | ⟨us,g,cap,cur,F',_,rfl,_⟩
  · exact ⟨none,0,rfl,fun _=>rfl⟩
  · exact ⟨_,_,rfl,fun h=>by cases h⟩
theorem elsN.set:∀ {css:List (List Value)} {xs:List α} {F G:List Nat} {k:Nat} {cs:List Value} {y:α},elsN E H css xs F→k < xs.length→F.Nodup→E H cs y G→G.Nodup→(∀ b∈G,b∉F) →
    ∃ F',elsN E H (css.set k cs) (xs.set k y) F'∧F'.Nodup∧∀ b∈F',b∈F∨b∈G
  | u0 :: us,x :: xs,_,G,0,u,y,⟨F1,F2,rfl,h1,h2⟩,_,hn,hy,hg,hd=>by
    have hn':=List.nodup_append.1 hn
    refine ⟨G++F2,⟨G,F2,rfl,hy,h2⟩,List.nodup_append.2 ⟨hg,hn'.2.1,?_⟩,fun b hb=>(List.mem_append.1 hb).elim .inr fun h=>.inl (List.mem_append_right _ h)⟩
    rintro a ha b hb rfl
    exact hd a ha (List.mem_append_right _ hb)
  | u0 :: us,x :: xs,_,G,k + 1,u,y,⟨F1,F2,rfl,h1,h2⟩,hk,hn,hy,hg,hd=>by
    have hn':=List.nodup_append.1 hn
    obtain ⟨F',q1,q2,q3⟩:=elsN.set h2 (by simpa using hk) hn'.2.1 hy hg fun b hb hc=>hd b hb (List.mem_append_right _ hc)
    refine ⟨F1++F',⟨F1,F',rfl,h1,q1⟩,List.nodup_append.2 ⟨hn'.1,q2,?_⟩,fun b hb=>?_⟩
    · rintro a ha b hb rfl
      rcases q3 a hb with hh | hh
      · exact hn'.2.2 a ha a hh rfl
      · exact hd a hh (List.mem_append_left _ ha)
    · rcases List.mem_append.1 hb with hh | hh
      · exact .inl (List.mem_append_left _ hh)
      · rcases q3 b hh with h' | h'
        · exact .inl (List.mem_append_right _ h')
        · exact .inr h'
  | [],[],_,_,_,_,_,_,hk,_,_,_,_=>by simp at hk
  | [],_ :: _,_,_,_,_,_,h,_,_,_,_,_=>h.elim
  | _ :: _,[],_,_,_,_,_,h,_,_,_,_,_=>h.elim
end owS
theorem flat_set {s:Nat} {vs:List Value}:∀ {css:List (List Value)} {k:Nat},(∀ c∈css,c.length = s)→vs.length = s→k < css.length→css.flatten.take (k * s)++vs++css.flatten.drop (k * s + vs.length) = (css.set k vs).flatten
  | [],_,_,_,hk=>by simp at hk
  | c :: css,0,h,hv,_=>by
    have hc:=h c (List.mem_cons_self ..)
    simp [hv,← hc]
  | c :: css,k + 1,h,hv,hk=>by
    have hc:=h c (List.mem_cons_self ..)
    have ih:=flat_set (s:=s) (vs:=vs) (css:=css) (k:=k) (fun c hc=>h c (List.mem_cons_of_mem _ hc)) hv (by simpa using hk)
    have e1:(k + 1) * s = c.length + k * s:=by rw [Nat.succ_mul,hc]; omega
    have e2:(k + 1) * s + vs.length = c.length + (k * s + vs.length):=by omega
    rw [e2,e1,List.set_cons_succ,List.flatten_cons,List.flatten_cons,List.take_length_add_append,List.drop_length_add_append,← ih]
    simp [List.append_assoc]
theorem flat_set1 {s:Nat} {u:Value}:∀ {css:List (List Value)} {k c:Nat} {cs:List Value},(∀ c∈css,c.length = s)→css[k]? = some cs→c < s→css.flatten.set (k * s + c) u = (css.set k (cs.set c u)).flatten
  | [],_,_,_,_,hk,_=>by simp at hk
  | x :: css,0,c,cs,h,hk,hc=>by
    have hx:=h x (List.mem_cons_self ..)
    have:x = cs:=by simpa using hk
    subst this
    rw [Nat.zero_mul,Nat.zero_add,List.flatten_cons,List.set_append,if_pos (by omega),List.set_cons_zero,List.flatten_cons]
  | x :: css,k + 1,c,cs,h,hk,hc=>by
    have hx:=h x (List.mem_cons_self ..)
    have ih:=flat_set1 (s:=s) (u:=u) (css:=css) (k:=k) (c:=c) (cs:=cs) (fun c hc=>h c (List.mem_cons_of_mem _ hc)) (by simpa using hk) hc
    have e1:(k + 1) * s + c = x.length + (k * s + c):=by rw [Nat.succ_mul,hx]; omega
    rw [e1,List.flatten_cons,List.set_append,if_neg (by omega),Nat.add_sub_cancel_left,ih,List.set_cons_succ,List.flatten_cons]
theorem elsN.lens {α:Type} {E:StandN α} {s:Nat} {H:Array Obj} (hE:GoodN s E):∀ {css:List (List Value)} {xs:List α} {F:List Nat},elsN E H css xs F→∀ c∈css,c.length = s
  | [],[],_,_,c,hc=>by cases hc
  | _ :: _,_ :: _,_,⟨F1,F2,rfl,h1,h2⟩,c,hc=>(List.mem_cons.1 hc).elim (fun h=>by rw [h]; exact hE.len h1) (elsN.lens hE h2 c)
  | [],_ :: _,_,h,_,_=>h.elim
  | _ :: _,[],_,h,_,_=>h.elim
theorem take_setp {L vs:List Value} {a M:Nat} (h:a + vs.length≤M) (hM:M≤L.length):(L.take a++vs++L.drop (a + vs.length)).take M = (L.take M).take a++vs++(L.take M).drop (a + vs.length):=by
  have h1:(L.take a++vs).length = a + vs.length:=by rw [List.length_append,List.length_take]; omega
  rw [List.take_append,h1,List.take_of_length_le (by omega),List.take_take,Nat.min_eq_left (by omega),List.drop_take]
section ops
variable {P:Program} {ops:Array Oper} {w0:World} {Q:Act→World→Prop} {os:List Oper} {ks:List Nat} {N:Nat} {ρ:Nat→Value} {w:World}
  {d:Nat} {ty:TypeId} {pos:String} {aft:Array Edge} {g:Option (Nat × Bool)} {t e:TypeId} {α:Type} {E:StandN α} {s:Nat}
theorem e_setS {st:TypeId} {x y:Operand} {v:Value} {cs:List Value} {n:α} {xs:List α} {B U B' U' j:Nat} (hE:GoodN s E) (hst:aggTy P st s = true) (hx:evF N ρ x = eptr v j s) (hy:evF N ρ y = .agg cs.toArray)
    (hv:Fr (owS s E e) B U w.heap v xs) (hn:∃ G,E w.heap cs n G∧G.Nodup∧∀ b∈G,B'≤b∧b < U') (hU:U≤B') (hBB:B≤B') (hj:j < xs.length) (hu:Up ops N ρ ⟨none,.store st x y,ty,pos,aft,g⟩)
    (h:∀ w1 F,Chg F w w1→w1.heap.size = w.heap.size→(∀ c∈F,B≤c∧c < U)→Fr (owS s E e) B w1.heap.size w1.heap v (xs.set j n)→LW P ops w0 Q os ks (mk N ρ) w1) :
    LW P ops w0 Q (⟨none,.store st x y,ty,pos,aft,g⟩ :: os) (4 :: ks) (mk N ρ) w:=by
  obtain ⟨F,h1,h2,h3⟩:=hv
  obtain ⟨G,n1,n2,n3⟩:=hn
  rcases h1 with ⟨rfl,rfl,rfl⟩ | ⟨css,b,cap,cur,F0,hels,rfl,hgc,r1,r2,r3,r4,rfl⟩
  · simp at hj
  · have hn':=List.nodup_cons.1 h2
    obtain ⟨F',q1,q2,q3⟩:=hels.set hj hn'.2 n1 n2 fun c hc hm=>by have:=n3 c hc; have:=h3 c (List.mem_cons_of_mem _ hm); omega
    have hbF':b∉F':=fun hm=>(q3 b hm).elim hn'.1 fun h=>by have:=n3 b h; have:=h3 b (List.mem_cons_self ..); omega
    have hlen:=hels.lens hE
    have hcl:cs.length = s:=hE.len n1
    have hfl:=hels.flen hE
    have hjs:j * s + s≤xs.length * s:=by rw [← Nat.succ_mul]; exact Nat.mul_le_mul_right s hj
    have hcs:xs.length * s≤cur.size:=by rw [r3]; exact Nat.mul_le_mul_right s r1
    have hst1:=run_storeCells_at (P:=P) b (j * s) e cs 0 cur w hgc (by omega) (fun u hu=>(hE.one n1 u hu).2)
    rw [Nat.add_zero] at hst1
    have htk:(cur.toList.take (j * s)++cs++cur.toList.drop (j * s + cs.length)).take (xs.length * s) = (css.set j cs).flatten:=by
      rw [take_setp (by omega) (by rw [Array.length_toList]; omega),r4,flat_set hlen hcl (by rw [hels.length]; exact hj)]
    unfold aggTy at hst
    simp only [Bool.and_eq_true] at hst
    obtain ⟨_,p2⟩:=hst
    split at p2
    · rename_i inf hin
      have hs:inf.size = s:=by simpa using p2
      have hr:(Instr.storeAt st (.pointer (some ⟨b,j * s,none⟩)) (.agg cs.toArray)).run P w = .ok () (w.setRow b (cur.toList.take (j * s)++cs++cur.toList.drop (j * s + cs.length)).toArray):=by
        simp [Instr.storeAt,Instr.sureAddr,storeVar,sizeOf,typeInfo,hin,Value.cells,hcl,hs,hst1]
      have hgn:=setRow_heap w b cur (cur.toList.take (j * s)++cs++cur.toList.drop (j * s + cs.length)).toArray e (0,0) hgc
      refine lw_s rfl hu _ (exec_store (by rw [hx,eptr_s,Nat.zero_add]) hy hr) (h _ [b] ⟨rfl,rfl,rfl,by simp,fun k _ hk=>setRow_other w b k _ (by simpa using hk)⟩ (by simp) (fun c hc=>by rw [List.mem_singleton.1 hc]; exact h3 b (List.mem_cons_self ..)) ⟨b :: F',.inr ⟨css.set j cs,b,cap,_,F',q1.stable hE fun c hc=>setRow_other w b c _ (fun he=>hbF' (he ▸ hc)),by simp,hgn,by rw [List.length_set]; exact r1,r2,by rw [← r3,List.size_toArray]; simp only [List.length_append,List.length_take,List.length_drop,Array.length_toList]; omega,by rw [List.length_set]; exact htk,rfl⟩,List.nodup_cons.2 ⟨hbF',q2⟩,fun c hc=>?_⟩)
      rcases List.mem_cons.1 hc with rfl | hc
      · exact ⟨(h3 c (List.mem_cons_self ..)).1,by rw [show (w.setRow c (cur.toList.take (j * s)++cs++cur.toList.drop (j * s + cs.length)).toArray).heap.size = w.heap.size from by simp]; exact getElem?_lt hgc⟩
      · have hlt:=q1.lt hE c hc
        rcases q3 c hc with hh | hh
        · exact ⟨(h3 c (List.mem_cons_of_mem _ hh)).1,by simpa using hlt⟩
        · exact ⟨by have:=n3 c hh; omega,by simpa using hlt⟩
    · cases p2
end ops
end Go.Proofs.YtlbefjfhfodnlaaGreatDoor
namespace Go.Proofs.YtlbefjfhfodnlaaGreatDoor
open Go Go.RowKit
set_option linter.unusedVariables false
set_option linter.unusedSimpArgs false
section ops
variable {P:Program} {ops:Array Oper} {w0:World} {Q:Act→World→Prop} {os:List Oper} {ks:List Nat} {N:Nat} {ρ:Nat→Value} {w:World}
  {d:Nat} {ty:TypeId} {pos:String} {aft:Array Edge} {g:Option (Nat × Bool)} {t e:TypeId} {α:Type} {E:StandN α} {s:Nat}
theorem e_setC {st:TypeId} {x y:Operand} {v u:Value} {xs:List α} {F:List Nat} {k c:Nat} (hE:GoodN s E) (hst:(P.info? st).map (·.size) = some 1) (hx:evF N ρ x = padd (eptr v k s) c) (hy:evF N ρ y = u) (hu1:u.cells = #[u]∧u.oneCell' = true)
    (hv:owS s E e w.heap v xs F) (hn:F.Nodup) (hk:k < xs.length) (hc:c < s) (hEc:∀ {H cs x G},E H cs x G→E H (cs.set c u) x G) (hu:Up ops N ρ ⟨none,.store st x y,ty,pos,aft,g⟩)
    (h:∀ w1,Chg F w w1→w1.heap.size = w.heap.size→owS s E e w1.heap v xs F→LW P ops w0 Q os ks (mk N ρ) w1) :
    LW P ops w0 Q (⟨none,.store st x y,ty,pos,aft,g⟩ :: os) (4 :: ks) (mk N ρ) w:=by
  rcases hv with ⟨rfl,rfl,rfl⟩ | ⟨css,b,cap,cur,F',hels,rfl,hg,r1,r2,r3,r4,rfl⟩
  · simp at hk
  · have hn':=List.nodup_cons.1 hn
    have hfl:=hels.flen hE
    have hlen:=hels.lens hE
    have hkl:k < css.length:=by rw [hels.length]; exact hk
    have hcs:xs.length * s≤cur.size:=by rw [r3]; exact Nat.mul_le_mul_right s r1
    have hjs:k * s + s≤xs.length * s:=by rw [← Nat.succ_mul]; exact Nat.mul_le_mul_right s hk
    have hel:∀ {css:List (List Value)} {xs:List α} {F:List Nat} {k:Nat},elsN E w.heap css xs F→∀ cs,css[k]? = some cs→elsN E w.heap (css.set k (cs.set c u)) xs F:=by
      intro css
      induction css with
      | nil=>intro xs F k h cs hk; simp at hk
      | cons a css ih =>
        intro xs F k h cs hk
        cases xs with
        | nil=>exact h.elim
        | cons x xs =>
          obtain ⟨A,C,rfl,q1,q2⟩:=h
          cases k with
          | zero =>
            have:a = cs:=by simpa using hk
            subst this
            exact ⟨A,C,rfl,hEc q1,q2⟩
          | succ k=>exact ⟨A,C,rfl,q1,ih q2 cs (by simpa using hk)⟩
    have hq:=List.getElem?_eq_getElem hkl
    have h2:=hel hels _ hq
    refine lw_s rfl hu _ (exec_store (p:=.pointer (some ⟨b,k * s + c,none⟩)) (by rw [hx,eptr_s,Nat.zero_add]; rfl) hy (run_store1 hst hg (by omega) hu1.1 hu1.2)) (h _ ((chg_set w b (k * s + c) u).sub fun x hx=>by rw [List.mem_singleton.1 hx]; exact List.mem_cons_self ..) (by simp [World.setCell]) (.inr ⟨css.set k (css[k].set c u),b,cap,_,F',?_,rfl,heap_set hg,r1,r2,by simpa using r3,?_,rfl⟩))
    · exact h2.stable hE fun z hz=>Below.heap_setCell _ _ _ _ fun he=>by
        simp only at he
        subst he
        exact hn'.1 hz
    · rw [Array.toList_setIfInBounds,List.take_set,r4]; exact flat_set1 hlen hq hc
end ops
theorem owS.isPtr {α:Type} {E:StandN α} {s k:Nat} {e:TypeId} {H:Array Obj} {v:Value} {xs:List α} {F:List Nat} (h:owS s E e H v xs F) (hk:k < xs.length):∃ b o,eptr v k s = .pointer (some ⟨b,o,none⟩):=by
  rcases h with ⟨rfl,rfl,rfl⟩ | ⟨css,g,cap,cur,F',h,rfl,hg,r1,r2,r3,r4,rfl⟩
  · simp at hk
  · exact ⟨_,_,eptr_s ..⟩
end Go.Proofs.YtlbefjfhfodnlaaGreatDoor
namespace Go.Proofs.YtlbefjfhfodnlaaGreatDoor
open Go Go.RowKit
set_option linter.unusedVariables false
set_option linter.unusedSimpArgs false
def insI (a:Int) (xs:List Int):List Int:=if a∈xs then xs else xs++[a]
def MapI (H:Array Obj) (g:Nat) (xs:List Int):Prop :=
  ∃ es clock,H[g]? = some (.map es clock)∧es.toList.map (·.key) = xs.map (Value.int .i64)∧(∀ x∈es.toList,x.born < clock)∧(es.toList.map (·.born)).Nodup∧(∀ x∈xs,i64 x)
def MapS (H:Array Obj) (g:Nat) (xs:List Int) (st:Nat):Prop :=
  ∃ es clock,H[g]? = some (.map es clock)∧es.toList.map (·.key) = xs.map (Value.int .i64)∧(∀ x∈es.toList,x.born < clock)∧(es.toList.map (·.born)).Nodup∧(∀ x∈xs,i64 x)∧∃ e0∈es.toList,e0.born = st
section
variable {H:Array Obj} {w w':World} {g st:Nat} {xs:List Int} {F:List Nat}
theorem MapI.lt (h:MapI H g xs):g < H.size:=by obtain ⟨_,_,h,_⟩:=h; exact getElem?_lt h
theorem MapI.chg (h:MapI w.heap g xs) (c:Chg F w w') (hg:g∉F):MapI w'.heap g xs:=by
  have hl:=h.lt
  obtain ⟨es,k,h1,h2⟩:=h
  exact ⟨es,k,by rw [c.block g hl hg]; exact h1,h2⟩
theorem MapI.ext (h:MapI w.heap g xs) (c:Ext w w'):MapI w'.heap g xs:=by
  have hl:=h.lt
  obtain ⟨es,k,h1,h2⟩:=h
  exact ⟨es,k,by rw [c.heap hl]; exact h1,h2⟩
theorem wfI64 {a:Int} (h:i64 a):(Lit.int .i64 a).wf = true:=by
  unfold i64 at h
  simp only [Lit.wf,Bool.and_eq_true,decide_eq_true_eq]
  exact ⟨by show (-2 ^ 63:Int)≤a; omega,by show a≤(2 ^ 63 - 1:Int); omega⟩
variable {P:Program} {t k e:TypeId} {z val:Value} {a:Int}
theorem chg_blk {es:Array MapEntry} {clock:Nat} (hb:w.heap[g]? = some (.map es clock)) (o:Obj):Chg [g] w (ChangeMaps.setBlock w g o) :=
  ⟨rfl,rfl,rfl,by simp [ChangeMaps.setBlock],fun k _ hk=>ChangeMaps.heap_setBlock_other hb o (by simpa using hk)⟩
theorem run_mapE (ht:P.underlying t = some (.map k e)) (hk:P.underlying k = some (.int .i64)) (hz:∀ u:World,(zeroValue e).run P u = .ok z u) (h:MapI w.heap g xs) (ha:i64 a) :
    ∃ (v0:Value) (st:Nat) (w':World),(Instr.mapEntry t (.map (some g)) (.int .i64 a)).run P w = .ok (.tuple #[v0,.int .i64 ((st:Nat):Int)]) w'∧Chg [g] w w'∧w'.heap.size = w.heap.size∧MapS w'.heap g (insI a xs) st:=by
  obtain ⟨es,clock,hb,h2,h3,h4,h5⟩:=h
  have K:=Maps.int_keyed hk
  have hkey:=Maps.keyOf_int_mk hk (wfI64 ha)
  have hall:∀ x∈es.toList,∃ l,keyOf P k x.key = some l:=fun x hx=>by
    have hm:x.key∈es.toList.map (·.key):=List.mem_map.2 ⟨x,hx,rfl⟩
    rw [h2] at hm
    obtain ⟨y,hy,e⟩:=List.mem_map.1 hm
    exact ⟨_,by rw [← e]; exact Maps.keyOf_int_mk hk (wfI64 (h5 y hy))⟩
  have hlt:=getElem?_lt hb
  rcases K.find w hkey es.toList hall with ⟨f1,f2⟩ | ⟨j,e0,f1,f2,f3⟩
  · have hn:a∉xs:=fun hm=>by
      have:Value.int .i64 a∈es.toList.map (·.key):=by rw [h2]; exact List.mem_map.2 ⟨a,hm,rfl⟩
      obtain ⟨x,hx,e⟩:=List.mem_map.1 this
      exact f2 x hx e
    refine ⟨z,clock,ChangeMaps.setBlock w g (.map (es.push ⟨.int .i64 a,z,clock⟩) (clock + 1)),?_,?_,?_,es.push ⟨.int .i64 a,z,clock⟩,clock + 1,?_,?_,?_,?_,?_,⟨.int .i64 a,z,clock⟩,by simp,rfl⟩
    · simp [Instr.mapEntry,run_underlying ht,MapKept.run_getObj_map hb,K.check w false hkey,f1,hz,MapKept.run_setObj_map _ hb,Result.andThen,ChangeMaps.setBlock,goInt]
    · exact chg_blk hb _
    · simp [ChangeMaps.setBlock]
    · exact ChangeMaps.heap_setBlock_same hb _
    · unfold insI; rw [if_neg hn]; simp [h2]
    · intro x hx
      simp only [Array.toList_push,List.mem_append,List.mem_singleton] at hx
      rcases hx with hx | rfl
      · have:=h3 x hx; omega
      · exact Nat.lt_succ_self _
    · simp only [Array.toList_push,List.map_append,List.map_cons,List.map_nil]
      refine List.nodup_append.2 ⟨h4,by simp,fun b hb' c hc e1=>?_⟩
      simp only [List.mem_singleton] at hc
      obtain ⟨x,hx,rfl⟩:=List.mem_map.1 hb'
      have:=h3 x hx
      omega
    · unfold insI
      rw [if_neg hn]
      intro x hx
      rcases List.mem_append.1 hx with hx | hx
      · exact h5 x hx
      · rw [List.mem_singleton.1 hx]; exact ha
  · have hj:es[j]? = some e0:=by simpa using f2
    have hm:a∈xs:=by
      have:e0.key∈es.toList.map (·.key):=List.mem_map.2 ⟨e0,List.mem_of_getElem? f2,rfl⟩
      rw [h2,f3] at this
      obtain ⟨y,hy,e⟩:=List.mem_map.1 this
      injection e with _ e
      rw [← e]; exact hy
    have hsame:es.modify j (fun e=>{ e with key:=.int .i64 a }) = es:=by
      apply Array.ext'
      rw [Array.toList_modify,ChangeMaps.modify_eq_set _ _ _ _ f2]
      have:({ e0 with key:=.int .i64 a }:MapEntry) = e0:=by rw [← f3]
      rw [this]
      exact WideElems.set_self _ _ _ f2
    refine ⟨e0.val,e0.born,ChangeMaps.setBlock w g (.map es clock),?_,chg_blk hb _,by simp [ChangeMaps.setBlock],es,clock,ChangeMaps.heap_setBlock_same hb _,?_,h3,h4,?_,e0,List.mem_of_getElem? f2,rfl⟩
    · simp [Instr.mapEntry,run_underlying ht,MapKept.run_getObj_map hb,K.check w false hkey,f1,hj,f3,K.stays w hkey,hsame,MapKept.run_setObj_map _ hb,Result.andThen,ChangeMaps.setBlock,goInt]
    · unfold insI; rw [if_pos hm]; exact h2
    · unfold insI; rw [if_pos hm]; exact h5
theorem run_mapS (h:MapS w.heap g xs st):∃ w',(Instr.entryStore t (.map (some g)) (.int .i64 ((st:Nat):Int)) val).run P w = .ok () w'∧Chg [g] w w'∧w'.heap.size = w.heap.size∧MapI w'.heap g xs:=by
  obtain ⟨es,clock,hb,h2,h3,h4,h5,e0,he,hs⟩:=h
  obtain ⟨j,hj⟩:=List.getElem?_of_mem he
  have hidx:es.findIdx? (fun e=>((e.born:Nat):Int) == ((st:Nat):Int)) = some j:=by
    rw [← hs,WideElems.findIdx_arr]
    exact WideElems.findIdx_born h4 hj
  have hl:(es.modify j (fun e=>{ e with val:=val })).toList = es.toList.set j { e0 with val:=val }:=by
    rw [Array.toList_modify,ChangeMaps.modify_eq_set _ _ _ _ hj]
  refine ⟨ChangeMaps.setBlock w g (.map (es.modify j (fun e=>{ e with val:=val })) clock),?_,chg_blk hb _,by simp [ChangeMaps.setBlock],_,clock,ChangeMaps.heap_setBlock_same hb _,?_,fun x hx=>?_,?_,h5⟩
  · simp [Instr.entryStore,MapKept.run_getObj_map hb,asInt,asIntOf,hidx,MapKept.run_setObj_map _ hb,Result.andThen,ChangeMaps.setBlock]
  · rw [hl,List.map_set,← h2]
    exact WideElems.set_self _ _ _ (by rw [List.getElem?_map,hj]; rfl)
  · rw [hl] at hx
    rcases List.mem_or_eq_of_mem_set hx with hx | rfl
    · exact h3 x hx
    · exact h3 e0 he
  · rw [hl,List.map_set]
    rw [WideElems.set_self (es.toList.map (·.born)) j e0.born (by rw [List.getElem?_map,hj]; rfl)]
    exact h4
end
section ops
variable {P:Program} {ops:Array Oper} {w0:World} {Q:Act→World→Prop} {os:List Oper} {ks:List Nat} {N:Nat} {ρ:Nat→Value} {w:World}
  {d:Nat} {ty:TypeId} {pos:String} {aft:Array Edge} {gd:Option (Nat × Bool)} {t k e:TypeId} {z:Value} {g st:Nat} {xs:List Int} {a:Int}
theorem e_mapE {x y:Operand} (ht:P.underlying t = some (.map k e)) (hk:P.underlying k = some (.int .i64)) (hz:∀ u:World,(zeroValue e).run P u = .ok z u) (hx:evF N ρ x = .map (some g)) (hy:evF N ρ y = .int .i64 a) (hm:MapI w.heap g xs) (ha:i64 a)
    (hu:Up ops N ρ ⟨some d,.mapEntry t x y,ty,pos,aft,gd⟩)
    (h:∀ v0 st w1,Chg [g] w w1→w1.heap.size = w.heap.size→MapS w1.heap g (insI a xs) st→LW P ops w0 Q os ks (mk N (upd ρ d (.tuple #[v0,.int .i64 ((st:Nat):Int)]))) w1) :
    LW P ops w0 Q (⟨some d,.mapEntry t x y,ty,pos,aft,gd⟩ :: os) (4 :: ks) (mk N ρ) w:=by
  obtain ⟨v0,st,w1,h1,h2,h3,h4⟩:=run_mapE (P:=P) ht hk hz hm ha
  exact lw_e rfl hu _ w1 (by simp only [execOp,hx,hy,Sem.run_bind,h1,Result.andThen_ok,Sem.run_pure]) (h v0 st w1 h2 h3 h4)
theorem e_mapS {x s y:Operand} (hx:evF N ρ x = .map (some g)) (hs:evF N ρ s = .int .i64 ((st:Nat):Int)) (hm:MapS w.heap g xs st) (hu:Up ops N ρ ⟨none,.entryStore t x s y,ty,pos,aft,gd⟩)
    (h:∀ w1,Chg [g] w w1→w1.heap.size = w.heap.size→MapI w1.heap g xs→LW P ops w0 Q os ks (mk N ρ) w1) :
    LW P ops w0 Q (⟨none,.entryStore t x s y,ty,pos,aft,gd⟩ :: os) (4 :: ks) (mk N ρ) w:=by
  obtain ⟨w1,h1,h2,h3,h4⟩:=run_mapS (P:=P) (t:=t) (val:=evF N ρ y) hm
  exact lw_s rfl hu w1 (by simp only [execOp,hx,hs,Sem.run_bind,h1,Result.andThen_ok,Sem.run_pure]) (h w1 h2 h3 h4)
theorem r_map (hu:Up ops N ρ ⟨some d,.makeMap t none,ty,pos,aft,gd⟩)
    (h:∀ w1,Ext w w1→w1.heap.size = w.heap.size + 1→MapI w1.heap w.heap.size []→LW P ops w0 Q os ks (mk N (upd ρ d (.map (some w.heap.size)))) w1) :
    LW P ops w0 Q (⟨some d,.makeMap t none,ty,pos,aft,gd⟩ :: os) (3 :: ks) (mk N ρ) w:=by
  have hrun:(execOp (evF N ρ) ⟨some d,.makeMap t none,ty,pos,aft,gd⟩).run P w = .ok (.value (.map (some w.heap.size))) (w.alloc (.map #[] 0)):=by
    simp only [execOp,Option.map_none,Sem.run_bind,run_makeMap,Result.andThen_ok,Sem.run_pure]
  exact lw_r rfl hu _ _ hrun (ext_alloc _ _) (h _ (ext_alloc _ _) (by simp) ⟨#[],0,heap_alloc_new _ _,rfl,fun x hx=>(by simp at hx),List.nodup_nil,fun x hx=>(by cases hx)⟩)
theorem q_mlen {x:Operand} (ht:P.underlying t = some (.map k e)) (hx:evF N ρ x = .map (some g)) (hm:MapI w.heap g xs) (hu:Up ops N ρ ⟨some d,.call ⟨.builtin .len,#[x],#[t]⟩,ty,pos,aft,gd⟩)
    (h:LW P ops w0 Q os ks (mk N (upd ρ d (.int .i64 ((xs.length:Nat):Int)))) w) :
    LW P ops w0 Q (⟨some d,.call ⟨.builtin .len,#[x],#[t]⟩,ty,pos,aft,gd⟩ :: os) (2 :: ks) (mk N ρ) w:=by
  refine lw_q (by decide) rfl hu _ (fun w' hcl=>?_) h
  have hcl:Ext w w':=hcl
  obtain ⟨es,clock,hb,h2,_⟩:=hm.ext hcl
  have hl:es.size = xs.length:=by have:=congrArg List.length h2; simpa using this
  simp [execOp,resolve,invoke,builtin,hx,Builtin.len_,run_underlying ht,MapKept.run_getObj_map hb,goInt,Result.andThen,hl]
end ops
end Go.Proofs.YtlbefjfhfodnlaaGreatDoor
namespace Go.Proofs.YtlbefjfhfodnlaaGreatDoor
open Go Go.RowKit
set_option linter.unusedVariables false
set_option linter.unusedSimpArgs false
structure Av where
  kind:Int
  arg:Int
deriving DecidableEq
def Av.zero:Av:=⟨0,0⟩
def avK (a:Av):Prop:=(a.kind = 1∧1≤a.arg∧a.arg≤40)∨((a.kind = 2∨a.kind = 3)∧0≤a.arg∧a.arg≤7)∨(a.kind = 4∧a.arg = 0)
instance (a:Av):Decidable (avK a):=by unfold avK; infer_instance
structure Cn where
  at_:Int
  left:Int
  slots:List Int
def posA (c:Cn) (a:Av):Bool :=
  if a.kind = 1 then decide (c.at_ + a.arg < c.left)
  else if a.kind = 2 then decide (a.arg < ((c.slots.length:Nat):Int))
  else if a.kind = 3 then decide (a.arg < ((c.slots.length:Nat):Int)) && decide (0≤c.slots.getD a.arg.toNat 0)
  else decide (c.at_ = c.left - 1)
def actA (c:Cn) (a:Av):Cn :=
  if a.kind = 1 then ⟨c.at_ + a.arg,c.left,c.slots⟩
  else if a.kind = 2 then ⟨c.at_,c.left,c.slots.set a.arg.toNat c.at_⟩
  else if a.kind = 3 then ⟨c.slots.getD a.arg.toNat 0,c.left,c.slots⟩
  else ⟨c.at_,c.at_,c.slots⟩
def rnS:List Av→Cn→Option Cn
  | [],c=>some c
  | a :: l,c=>if posA c a = true then rnS l (actA c a) else none
def bgn (n:Int) (slots:Nat):Cn:=⟨0,n,List.replicate slots (-1)⟩
def fbS:List Av→Cn→Int→Int
  | [],c,i=>if 0 < c.left then i else -1
  | a :: l,c,i=>if posA c a = true then fbS l (actA c a) (i + 1) else i
structure CnK (n:Int) (c:Cn):Prop where
  at0:0≤c.at_
  atn:c.at_≤n
  l0:0≤c.left
  ln:c.left≤n
  sl:∀ k,k < c.slots.length→-1≤c.slots.getD k 0∧c.slots.getD k 0≤n
section
variable {n:Int} {c c' e:Cn} {a:Av} {l r:List Av} {i d:Nat}
theorem getD_set' {xs:List Int} {i j:Nat} {x:Int} (hi:i < xs.length):(xs.set i x).getD j 0 = if j = i then x else xs.getD j 0:=by
  simp only [List.getD_eq_getElem?_getD,List.getElem?_set]
  by_cases h:i = j
  · subst h; simp [hi]
  · rw [if_neg h,if_neg (fun h9=>h h9.symm)]
theorem bgn_k (hn:0≤n) (s:Nat):CnK n (bgn n s):=by
  refine ⟨Int.le_refl _,hn,hn,Int.le_refl _,fun k hk=>?_⟩
  have hk':k < s:=by simpa [bgn] using hk
  have e:(bgn n s).slots.getD k 0 = -1:=by simp [bgn,List.getD_eq_getElem?_getD,hk']
  rw [e]; omega
theorem CnK.act (h:CnK n c) (ha:avK a) (hp:posA c a = true):CnK n (actA c a):=by
  obtain ⟨h1,h2,h3,h4,h5⟩:=h
  unfold posA at hp
  unfold actA
  unfold avK at ha
  by_cases k1:a.kind = 1
  · rw [if_pos k1] at hp ⊢
    have:=of_decide_eq_true hp
    exact ⟨by show 0≤c.at_ + a.arg; omega,by show c.at_ + a.arg≤n; omega,h3,h4,h5⟩
  · rw [if_neg k1] at hp ⊢
    by_cases k2:a.kind = 2
    · rw [if_pos k2] at hp ⊢
      have hlt:=of_decide_eq_true hp
      refine ⟨h1,h2,h3,h4,fun k hk=>?_⟩
      simp only [List.length_set] at hk
      show -1≤(c.slots.set a.arg.toNat c.at_).getD k 0∧_
      rw [getD_set' (by omega)]
      split
      · omega
      · exact h5 k hk
    · rw [if_neg k2] at hp ⊢
      by_cases k3:a.kind = 3
      · rw [if_pos k3] at hp ⊢
        have hb:=Bool.and_eq_true_iff.1 hp
        have hlt:=of_decide_eq_true hb.1
        have h0:=of_decide_eq_true hb.2
        have:=h5 a.arg.toNat (by omega)
        exact ⟨h0,by show c.slots.getD a.arg.toNat 0≤n; omega,h3,h4,h5⟩
      · rw [if_neg k3] at hp ⊢
        have:=of_decide_eq_true hp
        exact ⟨h1,h2,h1,h2,h5⟩
theorem act_len:(actA c a).slots.length = c.slots.length:=by
  unfold actA
  split
  · rfl
  · split
    · simp
    · split <;> rfl
theorem rnS_cons (h:rnS (a :: l) c = some e):posA c a = true∧rnS l (actA c a) = some e:=by
  unfold rnS at h
  split at h
  · rename_i h1; exact ⟨h1,h⟩
  · cases h
theorem rnS_k (h:CnK n c) (hl:∀ a∈l,avK a) (he:rnS l c = some e):CnK n e:=by
  induction l generalizing c with
  | nil=>simp only [rnS,Option.some.injEq] at he; rw [← he]; exact h
  | cons a l ih =>
    obtain ⟨h1,h2⟩:=rnS_cons he
    exact ih (h.act (hl a (List.mem_cons_self ..)) h1) (fun a h=>hl a (List.mem_cons_of_mem _ h)) h2
theorem fb_iff (l:List Av):∀ (c:Cn) (i:Int),0≤i→((fbS l c i = -1↔∃ e,rnS l c = some e∧e.left≤0)∧(fbS l c i = -1∨(i≤fbS l c i∧fbS l c i≤i + ((l.length:Nat):Int)))):=by
  induction l with
  | nil =>
    intro c i hi
    unfold fbS rnS
    refine ⟨⟨fun h=>⟨c,rfl,?_⟩,fun ⟨e,h,h1⟩=>?_⟩,?_⟩
    · split at h <;> omega
    · cases h; rw [if_neg (by omega)]
    · split
      · right; simp
      · left; rfl
  | cons a l ih =>
    intro c i hi
    unfold fbS rnS
    by_cases h:posA c a = true
    · rw [if_pos h,if_pos h]
      have:=ih (actA c a) (i + 1) (by omega)
      refine ⟨this.1,?_⟩
      rcases this.2 with h9 | h9
      · exact .inl h9
      · right; rw [List.length_cons]; omega
    · rw [if_neg h,if_neg h]
      refine ⟨⟨fun h9=>by omega,fun ⟨e,h9,_⟩=>by cases h9⟩,?_⟩
      right; rw [List.length_cons]; omega
def cntK (k:Int):List Av→Int
  | []=>0
  | a :: l=>(if a.kind = k then 1 else 0) + cntK k l
theorem rnS_left (hl:∀ a∈l,avK a) (h:rnS l c = some e):e.left = c.left - cntK 4 l:=by
  induction l generalizing c with
  | nil=>simp only [rnS,Option.some.injEq] at h; rw [← h]; simp [cntK]
  | cons a l ih =>
    obtain ⟨h1,h2⟩:=rnS_cons h
    have:=ih (fun a h=>hl a (List.mem_cons_of_mem _ h)) h2
    have ha:=hl a (List.mem_cons_self ..)
    unfold avK at ha
    unfold cntK
    rw [this]
    unfold actA
    unfold posA at h1
    by_cases k1:a.kind = 1
    · rw [if_pos k1,if_neg (by omega)]; show c.left - _ = _; omega
    · rw [if_neg k1] at h1 ⊢
      by_cases k2:a.kind = 2
      · rw [if_pos k2,if_neg (by omega)]; show c.left - _ = _; omega
      · rw [if_neg k2] at h1 ⊢
        by_cases k3:a.kind = 3
        · rw [if_pos k3,if_neg (by omega)]; show c.left - _ = _; omega
        · rw [if_neg k3] at h1 ⊢
          have:=of_decide_eq_true h1
          rw [if_pos (by omega)]; show c.at_ - _ = _; omega
def sumW (w:List Int) (at_:Nat):Nat→Int
  | 0=>0
  | k + 1=>sumW w at_ k + w.getD (at_ + k) 0
end
end Go.Proofs.YtlbefjfhfodnlaaGreatDoor
namespace Go.Proofs.YtlbefjfhfodnlaaGreatDoor
open Go Go.RowKit
set_option linter.unusedVariables false
set_option linter.unusedSimpArgs false
structure Us where
  cost:Int
  adv:Int
  st:Int
  ld:Int
  sl:Int
def Us.zero:Us:=⟨0,0,0,0,0⟩
structure CS where
  c:Cn
  ov:List Int
  us:List Int
  u:Us
def ovA (ov:List Int) (a:Nat):Nat→List Int
  | 0=>ov
  | k + 1=>(ovA ov a k).set (a + k) ((ovA ov a k).getD (a + k) 0 + 1)
def ovS (s:CS) (a:Av):List Int:=if a.kind = 1 then ovA s.ov s.c.at_.toNat a.arg.toNat else s.ov
def usS (s:CS) (a:Av):List Int:=if a.kind = 2 then insI a.arg s.us else s.us
def uUs (u:Us) (a:Av):Us:=if a.kind = 1 then { u with adv:=u.adv + a.arg } else if a.kind = 2 then { u with st:=u.st + 1 } else if a.kind = 3 then { u with ld:=u.ld + 1 } else u
def stpS (s:CS) (a:Av):CS:=⟨actA s.c a,ovS s a,usS s a,uUs s.u a⟩
def rnC (l:List Av) (s:CS):CS:=l.foldl stpS s
def bgS (n:Nat) (slots:Nat):CS:=⟨bgn n slots,List.replicate n 0,[],Us.zero⟩
structure CsB (n:Int) (m:Nat) (s:CS):Prop where
  k:CnK n s.c
  len:s.ov.length = n.toNat
  ov:∀ k,0≤s.ov.getD k 0∧s.ov.getD k 0≤m
  adv:0≤s.u.adv∧s.u.adv≤40 * m
  st:0≤s.u.st∧s.u.st≤m
  ld:0≤s.u.ld∧s.u.ld≤m
  z:s.u.cost = 0∧s.u.sl = 0
section
variable {n:Int} {m:Nat} {s:CS} {a:Av} {l:List Av} {ov:List Int} {i j:Nat}
@[simp] theorem ovA_len (k:Nat):(ovA ov i k).length = ov.length:=by
  induction k with
  | zero=>rfl
  | succ k ih=>show ((ovA ov i k).set _ _).length = _; rw [List.length_set,ih]
theorem ovA_get (k:Nat) (h:i + k≤ov.length):(ovA ov i k).getD j 0 = if i≤j∧j < i + k then ov.getD j 0 + 1 else ov.getD j 0:=by
  induction k with
  | zero=>rw [if_neg (by omega)]; rfl
  | succ k ih =>
    have ih:=ih (by omega)
    show ((ovA ov i k).set (i + k) _).getD j 0 = _
    rw [getD_set' (by rw [ovA_len]; omega)]
    by_cases e:j = i + k
    · subst e
      rw [if_pos rfl,if_pos (by omega),ih,if_neg (by omega)]
    · rw [if_neg e,ih]
      by_cases h1:i≤j∧j < i + k
      · rw [if_pos h1,if_pos (by omega)]
      · rw [if_neg h1,if_neg (by omega)]
theorem bg_b (hn:0≤n) (sl:Nat) (hm:n = ((m:Nat):Int)):CsB n 0 (bgS m sl):=by
  subst hm
  refine ⟨bgn_k hn sl,by simp [bgS],fun k=>?_,⟨Int.le_refl _,Int.le_refl _⟩,⟨Int.le_refl _,Int.le_refl _⟩,⟨Int.le_refl _,Int.le_refl _⟩,rfl,rfl⟩
  show 0≤(List.replicate m (0:Int)).getD k 0∧(List.replicate m (0:Int)).getD k 0≤((0:Nat):Int)
  have:(List.replicate m (0:Int)).getD k 0 = 0:=by
    simp only [List.getD_eq_getElem?_getD,List.getElem?_replicate]
    split <;> rfl
  omega
theorem CsB.stpS (h:CsB n m s) (ha:avK a) (hp:posA s.c a = true):CsB n (m + 1) (stpS s a):=by
  have hk:=h.k.act ha hp
  have h1:=h.adv; have h2:=h.st; have h3:=h.ld; have h4:=h.z; have h5:=h.k; have h6:=h.len
  have ha':=ha
  unfold avK at ha'
  have hat:a.kind = 1→s.c.at_ + a.arg < s.c.left:=fun k1=>by
    unfold posA at hp
    rw [if_pos k1] at hp
    exact of_decide_eq_true hp
  have h7:=h5.at0; have h8:=h5.ln
  refine ⟨hk,?_,fun k=>?_,?_,?_,?_,?_⟩
  · show (ovS s a).length = _
    unfold ovS; split
    · rw [ovA_len]; exact h6
    · exact h6
  · show 0≤(ovS s a).getD k 0∧(ovS s a).getD k 0≤((m + 1:Nat):Int)
    have h9:=h.ov k
    unfold ovS; split
    · rename_i k1
      have:=hat k1
      show 0≤(ovA s.ov s.c.at_.toNat a.arg.toNat).getD k 0∧(ovA s.ov s.c.at_.toNat a.arg.toNat).getD k 0≤((m + 1:Nat):Int)
      rw [ovA_get _ (by omega)]
      split <;> omega
    · omega
  · show 0≤(uUs s.u a).adv∧(uUs s.u a).adv≤_
    unfold uUs; split
    · show 0≤s.u.adv + a.arg∧s.u.adv + a.arg≤_; omega
    · split
      · show 0≤s.u.adv∧s.u.adv≤_; omega
      · split <;> (show 0≤s.u.adv∧s.u.adv≤_; omega)
  · show 0≤(uUs s.u a).st∧(uUs s.u a).st≤_
    unfold uUs; split
    · show 0≤s.u.st∧s.u.st≤_; omega
    · split
      · show 0≤s.u.st + 1∧s.u.st + 1≤_; omega
      · split <;> (show 0≤s.u.st∧s.u.st≤_; omega)
  · show 0≤(uUs s.u a).ld∧(uUs s.u a).ld≤_
    unfold uUs; split
    · show 0≤s.u.ld∧s.u.ld≤_; omega
    · split
      · show 0≤s.u.ld∧s.u.ld≤_; omega
      · split
        · show 0≤s.u.ld + 1∧s.u.ld + 1≤_; omega
        · show 0≤s.u.ld∧s.u.ld≤_; omega
  · show (uUs s.u a).cost = 0∧(uUs s.u a).sl = 0
    unfold uUs; split
    · exact h4
    · split
      · exact h4
      · split <;> exact h4
theorem rnC_snoc (l:List Av) (a:Av):rnC (l++[a]) s = stpS (rnC l s) a:=by unfold rnC; rw [List.foldl_append]; rfl
def dotI (ov w:List Int):Nat→Int
  | 0=>0
  | k + 1=>dotI ov w k + ov.getD k 0 * w.getD k 0
theorem dotI_set {ov w:List Int} {q:Nat} (hq:q < ov.length):∀ k,dotI (ov.set q (ov.getD q 0 + 1)) w k = dotI ov w k + (if q < k then w.getD q 0 else 0)
  | 0=>by rw [if_neg (by omega)]; rfl
  | k + 1=>by
    have ih:=dotI_set (w:=w) hq k
    show dotI (ov.set q (ov.getD q 0 + 1)) w k + (ov.set q (ov.getD q 0 + 1)).getD k 0 * w.getD k 0 = dotI ov w k + ov.getD k 0 * w.getD k 0 + _
    rw [ih,getD_set' hq]
    by_cases e:k = q
    · subst e
      rw [if_pos rfl,if_neg (by omega),if_pos (by omega),Int.add_mul,Int.one_mul]; omega
    · rw [if_neg e]
      by_cases h:q < k
      · rw [if_pos h,if_pos (by omega)]; omega
      · rw [if_neg h,if_neg (by omega)]; omega
theorem dotI_ovA {ov w:List Int} {i:Nat}:∀ k,i + k≤ov.length→dotI (ovA ov i k) w ov.length = dotI ov w ov.length + sumW w i k
  | 0,_=>by show dotI ov w _ = _ + 0; omega
  | k + 1,h=>by
    have ih:=dotI_ovA (w:=w) k (by omega:i + k≤ov.length)
    show dotI ((ovA ov i k).set (i + k) ((ovA ov i k).getD (i + k) 0 + 1)) w ov.length = dotI ov w ov.length + (sumW w i k + w.getD (i + k) 0)
    rw [dotI_set (by rw [ovA_len]; omega),ih,if_pos (by omega)]; omega
end
def ZL (g gm:Nat) (Fs Fo:List Nat):List Nat:=g :: gm :: (Fs++Fo)
structure ChD (g gm:Nat) (Fs Fo:List Nat):Prop where
  gm_:g≠gm
  gs:g∉Fs
  go:g∉Fo
  ms:gm∉Fs
  mo:gm∉Fo
  so:∀ b∈Fs,b∉Fo
structure ChK (e:TypeId) (H:Array Obj) (g gm:Nat) (vs vo:Value) (Fs Fo:List Nat) (s:CS):Prop where
  bx:BX H g [.int .i64 s.c.left,.int .i64 s.c.at_,vs,vo,.int .i64 s.u.cost,.int .i64 s.u.adv,.int .i64 s.u.st,.int .i64 s.u.ld,.int .i64 s.u.sl,.map (some gm)]
  sl:owL rI e H vs s.c.slots Fs
  sn:Fs.Nodup
  ov:owL rI e H vo s.ov Fo
  on:Fo.Nodup
  mp:MapI H gm s.us
  d:ChD g gm Fs Fo
section
variable {e:TypeId} {H:Array Obj} {w w':World} {g gm:Nat} {vs vo:Value} {Fs Fo F:List Nat} {s:CS} {v:Value} {xs:List Int}
theorem zl_g:∀ x∈[g],x∈ZL g gm Fs Fo:=fun x hx=>by rw [List.mem_singleton.1 hx]; exact List.mem_cons_self ..
theorem zl_m:∀ x∈[gm],x∈ZL g gm Fs Fo:=fun x hx=>by rw [List.mem_singleton.1 hx]; exact List.mem_cons_of_mem _ (List.mem_cons_self ..)
theorem zl_s:∀ x∈Fs,x∈ZL g gm Fs Fo:=fun x hx=>List.mem_cons_of_mem _ (List.mem_cons_of_mem _ (List.mem_append_left _ hx))
theorem zl_o:∀ x∈Fo,x∈ZL g gm Fs Fo:=fun x hx=>List.mem_cons_of_mem _ (List.mem_cons_of_mem _ (List.mem_append_right _ hx))
theorem zs_F (c:Chg Fs w w'):Chg (gm :: Fs) w w':=c.sub fun x hx=>List.mem_cons_of_mem _ hx
theorem zs_M (c:Chg [gm] w w'):Chg (gm :: Fs) w w':=c.sub fun x hx=>by rw [List.mem_singleton.1 hx]; exact List.mem_cons_self ..
theorem ChK.lt (h:ChK e H g gm vs vo Fs Fo s):∀ b∈ZL g gm Fs Fo,b < H.size:=fun b hb=>by
  rcases List.mem_cons.1 hb with rfl | hb
  · exact h.bx.lt
  · rcases List.mem_cons.1 hb with rfl | hb
    · exact h.mp.lt
    · rcases List.mem_append.1 hb with hb | hb
      · exact (good_owL good_rI).lt h.sl b hb
      · exact (good_owL good_rI).lt h.ov b hb
theorem owI_chg (h:owL rI e w.heap v xs F) {G:List Nat} (c:Chg G w w') (hd:∀ b∈F,b∉G):owL rI e w'.heap v xs F :=
  (good_owL good_rI).stable h fun b hb=>c.block b ((good_owL good_rI).lt h b hb) (hd b hb)
theorem owI_ext (h:owL rI e w.heap v xs F) (c:Ext w w'):owL rI e w'.heap v xs F :=
  (good_owL good_rI).stable h fun b hb=>c.heap ((good_owL good_rI).lt h b hb)
theorem ChK.ext (h:ChK e w.heap g gm vs vo Fs Fo s) (c:Ext w w'):ChK e w'.heap g gm vs vo Fs Fo s :=
  ⟨h.bx.ext c,owI_ext h.sl c,h.sn,owI_ext h.ov c,h.on,h.mp.ext c,h.d⟩
end
theorem zv_ti {P:Program} {e:TypeId} {z:Value} {b:Nat} (h:TI P e 1 z b):∀ u:World,(zeroValue e).run P u = .ok z u:=fun u=>by
  obtain ⟨inf,h1,h2,_⟩:=h.get
  simp [zeroValue,typeInfo,h1,h2]
def advZ (z:CS) (k:Nat):CS:=⟨⟨z.c.at_ + ((k:Nat):Int),z.c.left,z.c.slots⟩,ovA z.ov z.c.at_.toNat k,z.us,⟨z.u.cost,z.u.adv + ((k:Nat):Int),z.u.st,z.u.ld,z.u.sl⟩⟩
theorem advZ_0 (z:CS):advZ z 0 = z:=by
  unfold advZ
  simp only [Int.natCast_zero,Int.add_zero]
  rfl
section stpS
variable {z:CS} {a:Av}
theorem stp_1 (h:a.kind = 1) (k:Nat) (hk:((k:Nat):Int) = a.arg):advZ z k = stpS z a:=by
  unfold stpS actA ovS usS uUs advZ
  rw [if_pos h,if_pos h,if_neg (by omega),if_pos h,← hk]
  rfl
theorem stp_2 (h:a.kind = 2):(⟨⟨z.c.at_,z.c.left,z.c.slots.set a.arg.toNat z.c.at_⟩,z.ov,insI a.arg z.us,⟨z.u.cost,z.u.adv,z.u.st + 1,z.u.ld,z.u.sl⟩⟩:CS) = stpS z a:=by
  unfold stpS actA ovS usS uUs
  rw [if_neg (by omega),if_pos h,if_neg (by omega),if_pos h,if_neg (by omega),if_pos h]
theorem stp_3 (h:a.kind = 3):(⟨⟨z.c.slots.getD a.arg.toNat 0,z.c.left,z.c.slots⟩,z.ov,z.us,⟨z.u.cost,z.u.adv,z.u.st,z.u.ld + 1,z.u.sl⟩⟩:CS) = stpS z a:=by
  unfold stpS actA ovS usS uUs
  rw [if_neg (by omega),if_neg (by omega),if_pos h,if_neg (by omega),if_neg (by omega),if_neg (by omega),if_neg (by omega),if_pos h]
theorem stp_4 (h:a.kind = 4) (hp:z.c.at_ = z.c.left - 1):(⟨⟨z.c.at_,z.c.left - 1,z.c.slots⟩,z.ov,z.us,⟨z.u.cost,z.u.adv,z.u.st,z.u.ld,z.u.sl⟩⟩:CS) = stpS z a:=by
  unfold stpS actA ovS usS uUs
  rw [if_neg (by omega),if_neg (by omega),if_neg (by omega),if_neg (by omega),if_neg (by omega),if_neg (by omega),if_neg (by omega),if_neg (by omega),← hp]
theorem pos_1 (h:a.kind = 1):posA z.c a = decide (z.c.at_ + a.arg < z.c.left):=by unfold posA; rw [if_pos h]
theorem pos_2 (h:a.kind = 2):posA z.c a = decide (a.arg < ((z.c.slots.length:Nat):Int)):=by unfold posA; rw [if_neg (by omega),if_pos h]
theorem pos_3 (h:a.kind = 3):posA z.c a = (decide (a.arg < ((z.c.slots.length:Nat):Int)) && decide (0≤z.c.slots.getD a.arg.toNat 0)):=by unfold posA; rw [if_neg (by omega),if_neg (by omega),if_pos h]
theorem pos_4 (h:a.kind = 4):posA z.c a = decide (z.c.at_ = z.c.left - 1):=by unfold posA; rw [if_neg (by omega),if_neg (by omega),if_neg (by omega)]
end stpS
def avC (a:Av):List Value:=[.int .i64 a.kind,.int .i64 a.arg]
@[simp] theorem avC_len (a:Av):(avC a).length = 2:=rfl
def avR (a:Av):Prop:=i64 a.kind∧i64 a.arg
def rAv:StandN Av:=fun _ cs x F=>cs = avC x∧avR x∧F = []
theorem good_rAv:GoodN 2 rAv where
  len:=by rintro H cs x F ⟨rfl,_⟩; rfl
  one:=by
    rintro H cs x F ⟨rfl,_⟩ u hu
    unfold avC at hu
    simp only [List.mem_cons,List.not_mem_nil,or_false] at hu
    rcases hu with rfl | rfl <;> exact ⟨rfl,rfl⟩
  lt:=by rintro H cs x F ⟨_,_,rfl⟩ b hb; cases hb
  stable:=by rintro H H' cs x F ⟨h1,h2,h3⟩ _; exact ⟨h1,h2,h3⟩
theorem rn_av {S:List Nat} {H:Array Obj} {cs:List Value} {x:Av} (h:RN S rAv H cs x):cs = avC x∧avR x:=by
  obtain ⟨F,h,_⟩:=h
  exact ⟨h.1,h.2.1⟩
section new
variable {e:TypeId} {H:Array Obj} {g gm B B1 U1 B2 U2:Nat} {vs vo:Value} {at_ left:Int} {sl ov us:List Int} {u:Us}
theorem frNilI:Fr (owL rI e) B1 U1 H (.slice none 0 0) []:=⟨[],.inl ⟨rfl,rfl,rfl⟩,List.nodup_nil,fun b hb=>by cases hb⟩
theorem chk_new (hb:BX H g [.int .i64 left,.int .i64 at_,vs,vo,.int .i64 u.cost,.int .i64 u.adv,.int .i64 u.st,.int .i64 u.ld,.int .i64 u.sl,.map (some gm)]) (ho:Fr (owL rI e) B1 U1 H vo ov) (hs:Fr (owL rI e) B2 U2 H vs sl) (hm:MapI H gm us)
    (h1:U1≤gm) (h2:gm < g) (h3:g < B2) (hB:B≤B1) (hU:B1≤U1):∃ Fs Fo,ChK e H g gm vs vo Fs Fo ⟨⟨at_,left,sl⟩,ov,us,u⟩∧∀ b∈ZL g gm Fs Fo,B≤b:=by
  obtain ⟨Fo,o1,o2,o3⟩:=ho
  obtain ⟨Fs,s1,s2,s3⟩:=hs
  refine ⟨Fs,Fo,⟨hb,s1,s2,o1,o2,hm,⟨by omega,fun h=>by have:=s3 _ h; omega,fun h=>by have:=o3 _ h; omega,fun h=>by have:=s3 _ h; omega,fun h=>by have:=o3 _ h; omega,fun b h h'=>by have:=s3 _ h; have:=o3 _ h'; omega⟩⟩,fun b hb=>?_⟩
  unfold ZL at hb
  rcases List.mem_cons.1 hb with rfl | hb
  · omega
  · rcases List.mem_cons.1 hb with rfl | hb
    · omega
    · rcases List.mem_append.1 hb with hb | hb
      · have:=s3 _ hb; omega
      · have:=o3 _ hb; omega
end new
section fb
variable {n:Int} {c:Cn} {s:CS} {l:List Av} {i:Nat} {k m:Nat}
theorem fb_stop (hi:i < l.length) (hp:posA c (l.getD i Av.zero) = false) (j:Int):fbS (l.drop i) c j = j:=by
  rw [List.drop_eq_getElem_cons hi]
  have e:l[i] = l.getD i Av.zero:=by simp [List.getD_eq_getElem?_getD,hi]
  unfold fbS
  rw [e,hp]; rfl
theorem fb_step (hi:i < l.length) (hp:posA c (l.getD i Av.zero) = true) (j:Int):fbS (l.drop i) c j = fbS (l.drop (i + 1)) (actA c (l.getD i Av.zero)) (j + 1):=by
  rw [List.drop_eq_getElem_cons hi]
  have e:l[i] = l.getD i Av.zero:=by simp [List.getD_eq_getElem?_getD,hi]
  rw [e]
  show (if posA c (l.getD i Av.zero) = true then _ else _) = _
  rw [if_pos hp]
theorem fb_end (hi:l.length≤i) (j:Int):fbS (l.drop i) c j = if 0 < c.left then j else -1:=by
  rw [List.drop_eq_nil_of_le hi]; rfl
theorem rnC_next (hi:i < l.length):rnC (l.take (i + 1)) s = stpS (rnC (l.take i) s) (l.getD i Av.zero):=by
  rw [List.take_succ_eq_append_getElem hi,rnC_snoc]
  simp [List.getD_eq_getElem?_getD,hi]
end fb
end Go.Proofs.YtlbefjfhfodnlaaGreatDoor
namespace Go.Proofs.YtlbefjfhfodnlaaGreatDoor
open Go Go.RowKit
set_option linter.unusedVariables false
set_option linter.unusedSimpArgs false
def avB (a:Av):Bool:=if a.kind = 1 then decide (1≤a.arg) && decide (a.arg≤40) else if a.kind = 2∨a.kind = 3 then decide (0≤a.arg) && decide (a.arg≤7) else decide (a.kind = 4) && decide (a.arg = 0)
section
variable {a:Av} {l:List Av} {k:Nat}
theorem avB_iff:avB a = true↔avK a:=by
  unfold avB avK
  by_cases h1:a.kind = 1
  · rw [if_pos h1,Bool.and_eq_true,decide_eq_true_eq,decide_eq_true_eq]; omega
  · rw [if_neg h1]
    by_cases h2:a.kind = 2∨a.kind = 3
    · rw [if_pos h2,Bool.and_eq_true,decide_eq_true_eq,decide_eq_true_eq]; omega
    · rw [if_neg h2,Bool.and_eq_true,decide_eq_true_eq,decide_eq_true_eq]; omega
theorem cnt_snoc (q:Int):∀ (l:List Av) (a:Av),cntK q (l++[a]) = cntK q l + (if a.kind = q then 1 else 0)
  | [],a=>by show (if a.kind = q then 1 else 0) + 0 = 0 + _; omega
  | b :: l,a=>by show (if b.kind = q then 1 else 0) + cntK q (l++[a]) = (if b.kind = q then 1 else 0) + cntK q l + _; rw [cnt_snoc q l a]; omega
theorem cnt_take {q:Int} (hk:k < l.length):cntK q (l.take (k + 1)) = cntK q (l.take k) + (if (l.getD k Av.zero).kind = q then 1 else 0):=by
  rw [List.take_succ_eq_append_getElem hk,cnt_snoc]
  rw [show l.getD k Av.zero = l[k] from by simp [List.getD_eq_getElem?_getD,hk]]
def schB (l:List Av):Bool:=decide (l.length≤400) && !l.any fun a=>!avB a
theorem schB_iff:schB l = true↔l.length≤400∧∀ i,i < l.length→avK (l.getD i Av.zero):=by
  unfold schB
  rw [Bool.and_eq_true,decide_eq_true_eq]
  refine and_congr_right fun _=>?_
  rw [Bool.not_eq_true',← Bool.not_eq_true,List.any_eq_true]
  constructor
  · intro h i hi
    refine avB_iff.1 ?_
    cases hh:avB (l.getD i Av.zero) with
    | true=>rfl
    | false =>
      refine absurd ⟨l.getD i Av.zero,?_,by rw [hh]; rfl⟩ h
      rw [show l.getD i Av.zero = l[i] from by simp [List.getD_eq_getElem?_getD,hi]]
      exact List.getElem_mem hi
  · rintro h ⟨x,hx,hy⟩
    obtain ⟨i,hi,rfl⟩:=List.mem_iff_getElem.1 hx
    have h2:=h i hi
    rw [show l.getD i Av.zero = l[i] from by simp [List.getD_eq_getElem?_getD,hi],← avB_iff] at h2
    rw [h2] at hy; cases hy
theorem schB_mem (h:schB l = true):∀ a∈l,avK a:=fun a ha=>by
  obtain ⟨i,hi,rfl⟩:=List.mem_iff_getElem.1 ha
  have h2:=(schB_iff.1 h).2 i hi
  rwa [show l.getD i Av.zero = l[i] from by simp [List.getD_eq_getElem?_getD,hi]] at h2
theorem schB_big (h:¬ l.length≤400):false = schB l:=by unfold schB; rw [decide_eq_false h]; rfl
theorem schB_any (h:l.length≤400):(!l.any fun a=>!avB a) = schB l:=by unfold schB; rw [decide_eq_true h,Bool.true_and]
theorem schB_bad (hk:k < l.length) (h:avB (l.getD k Av.zero) = false):false = schB l:=by
  cases hh:schB l with
  | false=>rfl
  | true=>rw [avB_iff.2 ((schB_iff.1 hh).2 k hk)] at h; cases h
theorem schB_end (h:∀ i,i < l.length→avB (l.getD i Av.zero) = true):decide (l.length≤400) = schB l:=by
  by_cases h4:l.length≤400
  · rw [decide_eq_true h4]; exact (schB_iff.2 ⟨h4,fun i hi=>avB_iff.1 (h i hi)⟩).symm
  · rw [decide_eq_false h4]; exact schB_big h4
end
def usV (u:Us):Value:=.agg #[.int .i64 u.cost,.int .i64 u.adv,.int .i64 u.st,.int .i64 u.ld,.int .i64 u.sl]
def usC (l:List Av) (n k:Nat):Int:=if fbS l (bgn ((n:Nat):Int) k) 0 = -1 then 0 else 4
def usR (l:List Av) (w:List Int) (k:Nat):Us :=
  if usC l w.length k = 0 then ⟨dotI (rnC l (bgS w.length k)).ov w w.length,(rnC l (bgS w.length k)).u.adv,(rnC l (bgS w.length k)).u.st,(rnC l (bgS w.length k)).u.ld,(((rnC l (bgS w.length k)).us.length:Nat):Int)⟩ else Us.zero
def cstZ (z:CS) (w:List Int) (i:Nat):CS:=⟨⟨z.c.at_,z.c.left,z.c.slots⟩,z.ov,z.us,⟨dotI z.ov w i,z.u.adv,z.u.st,z.u.ld,z.u.sl⟩⟩
section
variable {l:List Av} {n k m:Nat} {w:List Int} {z:CS} {ov:List Int}
theorem cstZ_0 (h:z.u.cost = 0):cstZ z w 0 = z:=by
  obtain ⟨⟨a,b,c⟩,d,e,⟨f,g,h1,h2,h3⟩⟩:=z
  have h:f = 0:=h
  subst h; rfl
theorem usC_0 (h:fbS l (bgn ((n:Nat):Int) k) 0 = -1):usC l n k = 0:=if_pos h
theorem usC_4 (h:fbS l (bgn ((n:Nat):Int) k) 0≠-1):usC l n k = 4:=if_neg h
theorem usR_0 (h:usC l w.length k = 0):usR l w k = ⟨dotI (rnC l (bgS w.length k)).ov w w.length,(rnC l (bgS w.length k)).u.adv,(rnC l (bgS w.length k)).u.st,(rnC l (bgS w.length k)).u.ld,(((rnC l (bgS w.length k)).us.length:Nat):Int)⟩:=if_pos h
theorem usR_4 (h:usC l w.length k≠0):usR l w k = Us.zero:=if_neg h
theorem mul_bnd {x y:Int} {M:Nat} (h1:0≤x∧x≤M) (h2:0≤y∧y≤1000):0≤x * y∧x * y≤1000 * M:=by
  refine ⟨Int.mul_nonneg h1.1 h2.1,?_⟩
  have a1:=Int.mul_le_mul_of_nonneg_left h2.2 h1.1
  have a2:=Int.mul_le_mul_of_nonneg_right h1.2 (show (0:Int)≤1000 by omega)
  omega
theorem dotI_bnd {M:Nat} (h1:∀ k,0≤ov.getD k 0∧ov.getD k 0≤M) (h2:∀ k,0≤w.getD k 0∧w.getD k 0≤1000):∀ i:Nat,0≤dotI ov w i∧dotI ov w i≤1000 * M * i
  | 0=>⟨Int.le_refl _,by show (0:Int)≤_; simp⟩
  | i + 1=>by
    have a:=dotI_bnd h1 h2 i
    have b:=mul_bnd (h1 i) (h2 i)
    show 0≤dotI ov w i + ov.getD i 0 * w.getD i 0∧dotI ov w i + ov.getD i 0 * w.getD i 0≤_
    rw [Int.natCast_add,Int.mul_add]
    omega
theorem fb_rng (l:List Av) (c:Cn):-1≤fbS l c 0∧fbS l c 0≤((l.length:Nat):Int):=by
  have h:=(fb_iff l c 0 (Int.le_refl _)).2
  omega
theorem ins_len {a:Int} {xs:List Int}:(insI a xs).length≤xs.length + 1:=by
  unfold insI; split <;> simp
theorem rnC_us (l:List Av):∀ z:CS,(rnC l z).us.length≤z.us.length + l.length:=by
  induction l with
  | nil=>intro z; exact Nat.le_refl _
  | cons a l ih =>
    intro z
    have h:=ih (stpS z a)
    have h2:(stpS z a).us.length≤z.us.length + 1:=by
      show (usS z a).length≤_
      unfold usS; split
      · exact ins_len
      · omega
    show (rnC l (stpS z a)).us.length≤_
    simp only [List.length_cons]; omega
end
section
variable {e:TypeId} {H:Array Obj} {w w':World} {g gm o n:Nat} {vs vo:Value} {Fs Fo F:List Nat} {s:CS} {cs:List Value}
theorem ChK.chg (h:ChK e w.heap g gm vs vo Fs Fo s) (c:Chg F w w') (hd:∀ b∈ZL g gm Fs Fo,b∉F):ChK e w'.heap g gm vs vo Fs Fo s :=
  ⟨h.bx.chg c (hd _ (zl_g _ (List.mem_singleton.2 rfl))),owI_chg h.sl c (fun b hb=>hd _ (zl_s _ hb)),h.sn,owI_chg h.ov c (fun b hb=>hd _ (zl_o _ hb)),h.on,h.mp.chg c (hd _ (zl_m _ (List.mem_singleton.2 rfl))),h.d⟩
theorem LD.of_boxA (h:BX H g cs) (hn:o + n≤cs.length):LD H (.pointer (some ⟨g,o,none⟩)) ((cs.drop o).take n):=by
  obtain ⟨e,h⟩:=h
  refine ⟨g,o,rfl,fun i hi=>?_⟩
  have h2:i < n:=by simp at hi; omega
  simp only [cellH,h]
  have h3:o + i < cs.length:=by omega
  simp [h2,h3,List.getD_eq_getElem?_getD,List.getElem?_take,List.getElem?_drop]
end
end Go.Proofs.YtlbefjfhfodnlaaGreatDoor
namespace Go.Proofs.YtlbefjfhfodnlaaGreatDoor
open Go Go.RowKit
set_option linter.unusedVariables false
set_option linter.unusedSimpArgs false
def nxs (sd b:Int):Int:=(sd * 6364136223846793005 + b + 1442695040888963407) % 18446744073709551616
def btc (cs:List UInt8) (n:Nat):Int:=if n < cs.length then (((cs.getD n 0).toNat:Nat):Int) else 0
def sdq (cs:List UInt8):Nat→Int
  | 0=>0
  | n + 1=>nxs (sdq cs n) (btc cs n)
def btq (cs:List UInt8) (n:Nat):Int:=if n < cs.length then btc cs n else (sdq cs (n + 1) / 1099511627776) % 256
theorem btc_rng (cs:List UInt8) (n:Nat):0≤btc cs n∧btc cs n≤255:=by
  unfold btc
  split
  · have:=(cs.getD n 0).toNat_lt; omega
  · omega
theorem btq_rng (cs:List UInt8) (n:Nat):0≤btq cs n∧btq cs n≤255:=by
  unfold btq
  split
  · exact btc_rng cs n
  · omega
theorem sdq_rng (cs:List UInt8) (n:Nat):0≤sdq cs n∧sdq cs n < 18446744073709551616:=by
  cases n with
  | zero=>exact ⟨Int.le_refl 0,by show (0:Int) < _; decide⟩
  | succ n=>show 0≤nxs _ _∧nxs _ _ < _; unfold nxs; omega
def aj:Nat→Int
  | 0=>6364136223846793005 % 281474976710656
  | j + 1=>(aj j * aj j) % 281474976710656
def cj:Nat→Int
  | 0=>1442695040888963407 % 281474976710656
  | j + 1=>(cj j * (aj j + 1)) % 281474976710656
theorem aj47:aj 47 = 1:=by decide +kernel
theorem cj47:cj 47 = 140737488355328:=by decide +kernel
theorem emq (x m:Int):∃ q,x % m = x + m * q:=⟨-(x / m),by rw [Int.emod_def,Int.mul_neg]; rfl⟩
theorem lcg (cs:List UInt8):∀ (j n:Nat),cs.length≤n→∃ q:Int,sdq cs (n + 2 ^ j) = aj j * sdq cs n + cj j + 281474976710656 * q
  | 0,n,h=>by
    show ∃ q:Int,nxs _ _ = _
    unfold nxs btc
    rw [if_neg (by omega)]
    obtain ⟨q,hq⟩:=emq (sdq cs n * 6364136223846793005 + 0 + 1442695040888963407) 18446744073709551616
    obtain ⟨q1,h1⟩:=emq 6364136223846793005 281474976710656
    obtain ⟨q2,h2⟩:=emq 1442695040888963407 281474976710656
    rw [hq]
    unfold aj cj
    rw [h1,h2]
    refine ⟨65536 * q - q1 * sdq cs n - q2,?_⟩
    grind
  | j + 1,n,h=>by
    obtain ⟨q,hq⟩:=lcg cs j n h
    obtain ⟨r,hr⟩:=lcg cs j (n + 2 ^ j) (Nat.le_trans h (Nat.le_add_right ..))
    rw [show n + 2 ^ (j + 1) = n + 2 ^ j + 2 ^ j from by rw [Nat.pow_succ]; omega,hr,hq]
    show ∃ q:Int,_ = (aj j * aj j) % 281474976710656 * sdq cs n + (cj j * (aj j + 1)) % 281474976710656 + 281474976710656 * q
    obtain ⟨q1,h1⟩:=emq (aj j * aj j) 281474976710656
    obtain ⟨q2,h2⟩:=emq (cj j * (aj j + 1)) 281474976710656
    rw [h1,h2]
    refine ⟨aj j * q + r - q1 * sdq cs n - q2,?_⟩
    grind
theorem lcg47 (cs:List UInt8) {n m:Nat} (h:cs.length≤n) (hm:m = n + 140737488355328):∃ q:Int,sdq cs m = sdq cs n + 140737488355328 + 281474976710656 * q:=by
  obtain ⟨q,hq⟩:=lcg cs 47 n h
  rw [show n + 2 ^ 47 = m from by rw [hm],aj47,cj47,Int.one_mul] at hq
  exact ⟨q,hq⟩
theorem btq_out {cs:List UInt8} {n m:Nat} (h:cs.length≤n) (hm:m = n + 1):btq cs n = (sdq cs m / 1099511627776) % 256:=by
  unfold btq
  rw [if_neg (by omega),hm]
theorem btq47 (cs:List UInt8) {n m:Nat} (h:cs.length≤n) (hm:m = n + 140737488355328):btq cs m = (btq cs n + 128) % 256:=by
  obtain ⟨m1,h1⟩:∃ m1,m1 = m + 1:=⟨_,rfl⟩
  obtain ⟨n1,h2⟩:∃ n1,n1 = n + 1:=⟨_,rfl⟩
  rw [btq_out (by omega) h1,btq_out h h2]
  obtain ⟨q,hq⟩:=lcg47 cs (n:=n1) (m:=m1) (by omega) (by omega)
  rw [hq]
  omega
theorem btq_a {cs:List UInt8} {p q:Nat} (hp:cs.length≤p) (hq:q = p + 140737488355328) (h:btq cs p % 5 = 0):btq cs q % 5≠0:=by
  have hb:=btq_rng cs p
  have e:=btq47 cs hp hq
  omega
theorem btq_b {cs:List UInt8} {p q:Nat} (hp:cs.length≤p) (hq:q = p + 422212465065984) (h:btq cs p % 5 = 0):btq cs q % 5≠0:=by
  have hb:=btq_rng cs p
  obtain ⟨a,ha⟩:∃ a,a = p + 140737488355328:=⟨_,rfl⟩
  obtain ⟨b,hb⟩:∃ b,b = a + 140737488355328:=⟨_,rfl⟩
  have e1:=btq47 cs hp ha
  have e2:=btq47 cs (by omega) hb
  have e3:=btq47 cs (n:=b) (m:=q) (by omega) (by omega)
  omega
theorem st2 {cs:List UInt8} {n:Nat} (hc:cs.length≤5000) (h:btq cs (n + 5000 * 2) % 5 = 0):∃ j,j < 140737488360329∧btq cs (n + j * 2) % 5≠0:=by
  obtain ⟨j,hj⟩:∃ j:Nat,j = 70368744182664:=⟨_,rfl⟩
  exact ⟨j,by omega,btq_a (p:=n + 5000 * 2) (by omega) (by omega) h⟩
theorem st3 {cs:List UInt8} {n:Nat} (hc:cs.length≤5000) (h:btq cs (n + 5000 * 3) % 5 = 0):∃ j,j < 140737488360329∧btq cs (n + j * 3) % 5≠0:=by
  obtain ⟨j,hj⟩:∃ j:Nat,j = 140737488360328:=⟨_,rfl⟩
  exact ⟨j,by omega,btq_b (p:=n + 5000 * 3) (by omega) (by omega) h⟩
theorem btq_stop (cs:List UInt8) (n:Nat) {k:Nat} (hk:k = 2∨k = 3) (hc:cs.length≤5000):∃ j,j < 140737488360329∧btq cs (n + j * k) % 5≠0:=by
  by_cases h:btq cs (n + 5000 * k) % 5 = 0
  · rcases hk with rfl | rfl
    · exact st2 hc h
    · exact st3 hc h
  · exact ⟨5000,by omega,h⟩
theorem wait_next {cs:List UInt8} {m t k len:Nat} (hk:k = 2∨k = 3) (hc:cs.length≤5000) (hj:∃ j,j < t∧btq cs (m + j * k + (k - 1)) % 5≠0) (ht:t≤140737488360329)
    {m' len':Nat} (h4:len'≤400) (h:len < len'∨(len' = len∧m' = m + k∧btq cs (m + (k - 1)) % 5 = 0)) :
    ∃ t',(∃ j,j < t'∧btq cs (m' + j * k + (k - 1)) % 5≠0)∧t'≤140737488360329∧(400 - len') * 281474976710656 + t' < (400 - len) * 281474976710656 + t:=by
  rcases h with h | ⟨rfl,rfl,h⟩
  · obtain ⟨j,h1,h2⟩:=btq_stop cs (m' + (k - 1)) hk hc
    refine ⟨140737488360329,⟨j,h1,?_⟩,Nat.le_refl _,by omega⟩
    rw [show m' + j * k + (k - 1) = m' + (k - 1) + j * k from by omega]; exact h2
  · obtain ⟨j,h1,h2⟩:=hj
    cases j with
    | zero=>exact absurd (by simpa using h) h2
    | succ j =>
      refine ⟨t - 1,⟨j,by omega,?_⟩,by omega,by omega⟩
      rw [show m + k + j * k + (k - 1) = m + (j + 1) * k + (k - 1) from by rw [Nat.succ_mul]; omega]; exact h2
def SrQ (H:Array Obj) (g:Nat) (v:Value) (cs:List UInt8) (n:Nat):Prop:=BX H g [v,.int .i64 ((n:Nat):Int),.int .u64 (sdq cs n)]∧∃ F,rdL rU H v cs F∧∀ b∈F,b < g
section
variable {H:Array Obj} {w w':World} {g n n':Nat} {v:Value} {cs:List UInt8} {G:List Nat}
theorem SrQ.src (h:SrQ H g v cs n):Src H g v cs n:=⟨_,h.1,h.2⟩
theorem SrQ.lt (h:SrQ H g v cs n):g < H.size:=h.1.lt
theorem SrQ.ext (h:SrQ w.heap g v cs n) (k:Ext w w'):SrQ w'.heap g v cs n:=by
  obtain ⟨h,F,h1,h2⟩:=h
  exact ⟨h.ext k,F,good_u.stable h1 fun b hb=>k.heap (good_u.lt h1 b hb),h2⟩
theorem SrQ.chg (h:SrQ w.heap g v cs n) (k:Chg G w w') (hG:∀ b∈G,g < b):SrQ w'.heap g v cs n:=by
  obtain ⟨h,F,h1,h2⟩:=h
  exact ⟨h.chg k fun hm=>by have:=hG g hm; omega,F,good_u.stable h1 fun b hb=>k.block b (good_u.lt h1 b hb) fun hm=>by have:=hG b hm; have:=h2 b hb; omega,h2⟩
theorem SrQ.parts (h:SrQ w.heap g v cs n):∃ sd:Int,BX w.heap g [v,.int .i64 ((n:Nat):Int),.int .u64 sd]∧(sd = sdq cs n∧∀ w',Chg [g] w w'→Rd (rdL rU) w'.heap v cs):=by
  refine ⟨_,h.1,rfl,fun w' k=>?_⟩
  obtain ⟨sd,hb,hr⟩:=h.src.parts
  exact hr w' k
theorem SrQ.close {sd:Int} (h:SrQ w.heap g v cs n) (k:Chg [g] w w') (hb:BX w'.heap g [v,.int .i64 ((n':Nat):Int),.int .u64 sd]) (hs:sd = sdq cs n'):SrQ w'.heap g v cs n':=by
  obtain ⟨sd1,_,F,h1,h2⟩:=h.src.close k hb
  exact ⟨hs ▸ hb,F,h1,h2⟩
theorem SrQ.new (h:Rd (rdL rU) w.heap v cs) (k:Ext w w') (hb:BX w'.heap g [v,.int .i64 0,.int .u64 0]) (hg:w.heap.size≤g):SrQ w'.heap g v cs 0:=by
  obtain ⟨sd,_,F,h1,h2⟩:=Src.new h k hb hg
  exact ⟨hb,F,h1,h2⟩
end
theorem andV_mod {a:Int} (h:0≤a) (h2:a < 18446744073709551616):andV .u64 a 255 = a % 256:=by
  have e:(BitVec.ofInt 64 a &&& BitVec.ofInt 64 255).toNat = a.toNat % 256:=by
    rw [BitVec.toNat_and,BitVec.toNat_ofInt,show (BitVec.ofInt 64 255).toNat = 2 ^ 8 - 1 from by decide,Nat.and_two_pow_sub_one_eq_mod]
    congr 1
    omega
  unfold andV
  show IntKind.u64.wrap ((BitVec.ofInt 64 a &&& BitVec.ofInt 64 255).toNat:Int) = _
  rw [e,IntWalk.u64_in _ (by omega)]
  omega
theorem wU (x:Int):IntKind.u64.wrap x = x % 18446744073709551616:=by
  unfold IntKind.wrap
  simp [IntKind.bits,IntKind.signed]
section
variable {cs:List UInt8} {n0:Nat} {sd:Int}
theorem sdq_step {b:Int} (hsd:sd = sdq cs n0) (hb:b = btc cs n0):IntKind.u64.wrap ((IntKind.u64.wrap ((IntKind.u64.wrap (sd * 6364136223846793005)) + (IntKind.u64.wrap b))) + 1442695040888963407) = sdq cs (n0 + 1):=by
  show _ = nxs (sdq cs n0) (btc cs n0)
  unfold nxs
  rw [wU,wU,wU,wU,hsd,hb]
  omega
theorem sdq_in (hsd:sd = sdq cs n0) (h:n0 < cs.length):IntKind.u64.wrap ((IntKind.u64.wrap ((IntKind.u64.wrap (sd * 6364136223846793005)) + (IntKind.u64.wrap (((cs.getD n0 0).toNat:Int))))) + 1442695040888963407) = sdq cs (n0 + 1) :=
  sdq_step hsd (by unfold btc; rw [if_pos h])
theorem sdq_out (hsd:sd = sdq cs n0) (h:cs.length≤n0):IntKind.u64.wrap ((IntKind.u64.wrap ((IntKind.u64.wrap (sd * 6364136223846793005)) + (IntKind.u64.wrap (((0:Nat):Int))))) + 1442695040888963407) = sdq cs (n0 + 1) :=
  sdq_step hsd (by unfold btc; rw [if_neg (by omega)]; rfl)
theorem btq_in (h:n0 < cs.length):((cs.getD n0 0).toNat:Int) = btq cs n0:=by unfold btq btc; rw [if_pos h,if_pos h]
theorem btq_end (hsd:sd = sdq cs n0) (h:cs.length≤n0):andV .u64 ((IntKind.u64.wrap ((IntKind.u64.wrap ((IntKind.u64.wrap (sd * 6364136223846793005)) + (IntKind.u64.wrap (((0:Nat):Int))))) + 1442695040888963407)).fdiv (2 ^ (min (40:Int).toNat (IntKind.u64).bits))) 255 = btq cs n0:=by
  rw [sdq_out hsd h,btq_out h rfl,show (2:Int) ^ (min (40:Int).toNat (IntKind.u64).bits) = 1099511627776 from by decide,Int.fdiv_eq_ediv_of_nonneg _ (by omega)]
  have:=sdq_rng cs (n0 + 1)
  exact andV_mod (by omega) (by omega)
end
theorem gd_memI {us:List Int} {k:Nat} (h:k < us.length):us.getD k 0∈us:=by
  rw [List.getD_eq_getElem?_getD,List.getElem?_eq_getElem h]; exact List.getElem_mem h
def pkV (cs:List UInt8) (n:Nat) (k:Int):Int:=if k≤1 then 0 else if k≤200 then btq cs n % k else (btq cs n * 256 + btq cs (n + 1)) % k
def pkN (n:Nat) (k:Int):Nat:=if k≤1 then n else if k≤200 then n + 1 else n + 2
section
variable {cs:List UInt8} {n0 n1:Nat} {k x y:Int} {b:Bool}
theorem pk_1 (h:k≤1):((0:Nat):Int) = pkV cs n0 k∧n0 = pkN n0 k:=by unfold pkV pkN; rw [if_pos h,if_pos h]; exact ⟨rfl,rfl⟩
theorem pk_2 (h:¬ k≤1) (h2:¬ 200 < k) (hx:x = btq cs n0∧n1 = n0 + 1):x % k = pkV cs n0 k∧n1 = pkN n0 k:=by
  unfold pkV pkN; rw [if_neg h,if_neg h,if_pos (by omega),if_pos (by omega),hx.1]; exact ⟨rfl,hx.2⟩
theorem pk_3 {n2:Nat} (h:¬ k≤1) (h2:200 < k) (hx:x = btq cs n0∧n1 = n0 + 1) (hy:y = btq cs n1∧n2 = n1 + 1):(x * ((256:Nat):Int) + y) % k = pkV cs n0 k∧n2 = pkN n0 k:=by
  unfold pkV pkN; rw [if_neg h,if_neg h,if_neg (by omega),if_neg (by omega),hx.1,hy.1,hy.2,hx.2]; exact ⟨rfl,rfl⟩
theorem wait_0 {m k:Nat} (hk:k = 2∨k = 3) (hc:cs.length≤5000):∃ j,j < 140737488360329∧btq cs (m + j * k + (k - 1)) % 5≠0:=by
  obtain ⟨j,h1,h2⟩:=btq_stop cs (m + (k - 1)) hk hc
  refine ⟨j,h1,?_⟩
  rw [show m + j * k + (k - 1) = m + (k - 1) + j * k from by omega]; exact h2
theorem pkV_rng (cs:List UInt8) (n:Nat) (k:Int):0≤pkV cs n k∧(1≤k→pkV cs n k < k):=by
  unfold pkV
  split
  · omega
  · split <;> exact ⟨Int.emod_nonneg _ (by omega),fun _=>Int.emod_lt_of_pos _ (by omega)⟩
theorem pk_fact (h:x = pkV cs n0 k∧n1 = pkN n0 k):(k≤1∧n1 = n0∧x = 0)∨(2≤k∧n0 + 1≤n1∧(n1 = n0 + 1∨200 < k∧n1 = n0 + 2)∧0≤x∧x < k):=by
  obtain ⟨rfl,rfl⟩:=h
  have hr:=pkV_rng cs n0 k
  unfold pkN
  by_cases h:k≤1
  · rw [if_pos h]; exact .inl ⟨h,rfl,by unfold pkV; rw [if_pos h]⟩
  · rw [if_neg h]
    by_cases h2:k≤200
    · rw [if_pos h2]; exact .inr ⟨by omega,by omega,.inl rfl,hr.1,hr.2 (by omega)⟩
    · rw [if_neg h2]; exact .inr ⟨by omega,by omega,.inr ⟨by omega,rfl⟩,hr.1,hr.2 (by omega)⟩
theorem pk_one (h:b = decide (pkV cs n0 k = 0)∧n1 = pkN n0 k) (hk:2≤k∧k≤200):n1 = n0 + 1:=by
  rw [h.2]; unfold pkN; rw [if_neg (by omega),if_pos hk.2]
theorem pk_yes (h:b = decide (pkV cs n0 k = 0)∧n1 = pkN n0 k) (hk:2≤k∧k≤200) (hb:b = true):btq cs n0 % k = 0:=by
  have h1:=of_decide_eq_true (h.1.symm.trans hb)
  unfold pkV at h1; rwa [if_neg (by omega),if_pos hk.2] at h1
end
end Go.Proofs.YtlbefjfhfodnlaaGreatDoor
namespace Go.Proofs.YtlbefjfhfodnlaaGreatDoor
open Go Go.RowKit
set_option linter.unusedVariables false
set_option linter.unusedSimpArgs false
def DoR (z:Cn) (l:List Av) (a:Av) (z':Cn) (l':List Av):Prop:=(avB a = true∧posA z a = true∧z' = actA z a∧l' = l++[a])∨((avB a && posA z a) = false∧z' = z∧l' = l)
structure DrZ (n:Int) (sl:Nat) (z:Cn):Prop where
  k:CnK n z
  len:z.slots.length = sl
  h0:1≤sl→z.slots.getD 0 0 = 0
structure Grw2 (z:Cn) (l:List Av) (z':Cn) (l':List Av):Prop where
  le:l.length≤l'.length
  same:l'.length = l.length→z' = z∧l' = l
section
variable {n:Int} {sl:Nat} {z z' z1:Cn} {l l' l1:List Av} {a:Av}
theorem Grw2.refl:Grw2 z l z l:=⟨Nat.le_refl _,fun _=>⟨rfl,rfl⟩⟩
theorem do_len (h:DoR z l a z' l'):l'.length≤l.length + 1∧Grw2 z l z' l':=by
  rcases h with ⟨_,_,rfl,rfl⟩ | ⟨_,rfl,rfl⟩
  · rw [List.length_append]
    exact ⟨Nat.le_refl _,⟨by rw [List.length_append]; exact Nat.le_add_right ..,fun e=>by rw [List.length_append] at e; have:[a].length = 1:=rfl; omega⟩⟩
  · exact ⟨Nat.le_succ _,Grw2.refl⟩
theorem do_all (h:DoR z l a z' l') (hl:∀ x∈l,avB x = true):∀ x∈l',avB x = true:=by
  rcases h with ⟨h1,_,rfl,rfl⟩ | ⟨_,rfl,rfl⟩
  · intro x hx
    rcases List.mem_append.1 hx with hx | hx
    · exact hl x hx
    · rw [List.mem_singleton.1 hx]; exact h1
  · exact hl
theorem do_yes (h:DoR z l a z' l') (h1:avK a) (h2:posA z a = true):z' = actA z a∧l'.length = l.length + 1:=by
  rcases h with ⟨_,_,rfl,rfl⟩ | ⟨h3,rfl,rfl⟩
  · exact ⟨rfl,by rw [List.length_append]; rfl⟩
  · rw [avB_iff.2 h1,h2] at h3; cases h3
theorem do_no (h:DoR z l a z' l') (h1:¬ (avK a∧posA z a = true)):z' = z∧l' = l:=by
  rcases h with ⟨h2,h3,_⟩ | ⟨_,rfl,rfl⟩
  · exact absurd ⟨avB_iff.1 h2,h3⟩ h1
  · exact ⟨rfl,rfl⟩
theorem do_k (h:DoR z l a z' l') (hk:CnK n z):CnK n z':=by
  rcases h with ⟨h1,h2,rfl,rfl⟩ | ⟨_,rfl,rfl⟩
  · exact hk.act (avB_iff.1 h1) h2
  · exact hk
theorem do_sl (h:DoR z l a z' l'):z'.slots.length = z.slots.length:=by
  rcases h with ⟨_,_,rfl,rfl⟩ | ⟨_,rfl,rfl⟩
  · exact act_len
  · rfl
theorem do_z (h:DoR z l a z' l') (hz:DrZ n sl z) (ha:a.kind = 2→a.arg≠0):DrZ n sl z':=by
  refine ⟨do_k h hz.k,(do_sl h).trans hz.len,fun h1=>?_⟩
  have h0:=hz.h0 h1
  rcases h with ⟨h2,_,rfl,rfl⟩ | ⟨_,rfl,rfl⟩
  · have hv:=avB_iff.1 h2
    unfold actA
    split
    · exact h0
    · split
      · rename_i h4
        have h5:=ha h4
        unfold avK at hv
        have h6:a.arg.toNat≠0:=by omega
        show (z.slots.set a.arg.toNat z.at_).getD 0 0 = 0
        rw [List.getD_eq_getElem?_getD,List.getElem?_set,if_neg h6,← List.getD_eq_getElem?_getD]; exact h0
      · split <;> exact h0
  · exact h0
theorem do_z0 (h:DoR (bgn n sl) l ⟨2,0⟩ z' l') (hn:0≤n):DrZ n sl z'∧z'.at_ = 0∧z'.left = n:=by
  have hk:=do_k h (bgn_k hn sl)
  have hl:=do_sl h
  rcases h with ⟨h2,h3,rfl,rfl⟩ | ⟨h3,rfl,rfl⟩
  · refine ⟨⟨hk,hl.trans (by simp [bgn]),fun h1=>?_⟩,rfl,rfl⟩
    show ((List.replicate sl (-1:Int)).set 0 0).getD 0 0 = 0
    rw [List.getD_eq_getElem?_getD,List.getElem?_set]
    simp only [List.length_replicate]
    rw [if_pos (show 0 < sl from h1)]; rfl
  · refine ⟨⟨hk,hl.trans (by simp [bgn]),fun h1=>?_⟩,rfl,rfl⟩
    rw [show avB (⟨2,0⟩:Av) = true from by decide,Bool.true_and] at h3
    unfold posA at h3
    simp [bgn] at h3
    omega
theorem do_ld (h:DoR z l a z' l') (hk:a.kind = 3):z'.left = z.left∧z'.slots = z.slots:=by
  rcases h with ⟨_,_,rfl,rfl⟩ | ⟨_,rfl,rfl⟩
  · unfold actA; rw [if_neg (by omega),if_neg (by omega),if_pos hk]; exact ⟨rfl,rfl⟩
  · exact ⟨rfl,rfl⟩
theorem do_ld0 (h:DoR z l a z' l') (hk:a.kind = 3) (ha:a.arg = 0) (hz:DrZ n sl z) (h1:1≤sl):z'.at_ = 0∧l'.length = l.length + 1:=by
  have h0:=hz.h0 h1
  have hl:=hz.len
  have hp:posA z a = true:=by
    unfold posA
    rw [if_neg (by omega),if_neg (by omega),if_pos hk,ha,Bool.and_eq_true,decide_eq_true_eq,decide_eq_true_eq]
    exact ⟨by omega,by show 0≤z.slots.getD 0 0; omega⟩
  obtain ⟨rfl,h4⟩:=do_yes h (by unfold avK; omega) hp
  refine ⟨?_,h4⟩
  unfold actA; rw [if_neg (by omega),if_neg (by omega),if_pos hk,ha]; exact h0
theorem do_ldn (h:DoR z l a z' l') (hk:a.kind = 3) (hl:z.slots.length = 0):z' = z∧l' = l:=by
  refine do_no h fun ⟨h1,h2⟩=>?_
  unfold posA at h2
  rw [if_neg (by omega),if_neg (by omega),if_pos hk,Bool.and_eq_true,decide_eq_true_eq] at h2
  unfold avK at h1
  omega
theorem do_st (h:DoR z l a z' l') (hk:a.kind = 2):z'.left = z.left∧z'.at_ = z.at_:=by
  rcases h with ⟨_,_,rfl,rfl⟩ | ⟨_,rfl,rfl⟩
  · unfold actA; rw [if_neg (by omega),if_pos hk]; exact ⟨rfl,rfl⟩
  · exact ⟨rfl,rfl⟩
theorem do_st1 (h:DoR z l a z' l') (hk:a.kind = 2) (hz:DrZ n sl z) (h1:0≤a.arg) (h2:a.arg < ((sl:Nat):Int)) (h8:sl≤8):l'.length = l.length + 1:=by
  have hl:=hz.len
  refine (do_yes h (by unfold avK; omega) ?_).2
  unfold posA; rw [if_neg (by omega),if_pos hk,decide_eq_true_eq]; omega
theorem do_ad (h:DoR z l a z' l') (hk:a.kind = 1):z'.left = z.left∧z'.slots = z.slots∧(z.at_ < z.left→z'.at_ < z'.left):=by
  rcases h with ⟨_,h2,rfl,rfl⟩ | ⟨_,rfl,rfl⟩
  · unfold posA at h2; rw [if_pos hk,decide_eq_true_eq] at h2
    unfold actA; rw [if_pos hk]; exact ⟨rfl,rfl,fun _=>h2⟩
  · exact ⟨rfl,rfl,id⟩
theorem do_ad1 (h:DoR z l a z' l') (hk:a.kind = 1) (h1:1≤a.arg) (h2:z.at_ + a.arg < z.left) (h4:a.arg≤40):z'.at_ = z.at_ + a.arg∧l'.length = l.length + 1:=by
  obtain ⟨rfl,h5⟩:=do_yes h (by unfold avK; omega) (by unfold posA; rw [if_pos hk,decide_eq_true_eq]; exact h2)
  refine ⟨?_,h5⟩
  unfold actA; rw [if_pos hk]
theorem do_adn (h:DoR z l a z' l') (hk:a.kind = 1) (h1:a.arg < 1∨z.left≤z.at_ + a.arg):z' = z∧l' = l:=by
  refine do_no h fun ⟨h2,h3⟩=>?_
  unfold posA at h3; rw [if_pos hk,decide_eq_true_eq] at h3
  unfold avK at h2
  omega
theorem do_rv (h:DoR z l a z' l') (hk:a.kind = 4) (ha:a.arg = 0) (h1:z.at_ = z.left - 1):z'.left = z.at_∧z'.at_ = z.at_∧z'.slots = z.slots∧l'.length = l.length + 1:=by
  obtain ⟨rfl,h5⟩:=do_yes h (by unfold avK; omega) (by unfold posA; rw [if_neg (by omega),if_neg (by omega),if_neg (by omega),decide_eq_true_eq]; exact h1)
  have e:actA z a = ⟨z.at_,z.at_,z.slots⟩:=by unfold actA; rw [if_neg (by omega),if_neg (by omega),if_neg (by omega)]
  rw [e]; exact ⟨rfl,rfl,rfl,h5⟩
theorem do_end {z2:Cn} {l2:List Av} {a2:Av} (h:DoR z l a z1 l1) (h2:DoR z1 l1 a2 z2 l2) (hk:a.kind = 1) (hk2:a2.kind = 4) (ha:a.arg = z.left - 1 - z.at_) (ha2:a2.arg = 0) (hlt:z.at_ < z.left) (h0:0≤z.at_) (h40:z.left≤40) :
    l.length < l2.length∧z2.left = z.left - 1∧z2.at_ = z.left - 1:=by
  have hq:=(do_len h).2.le
  by_cases h1:z.at_ = z.left - 1
  · obtain ⟨rfl,rfl⟩:=do_adn h hk (by omega)
    obtain ⟨b1,b2,_,b3⟩:=do_rv h2 hk2 ha2 h1
    omega
  · obtain ⟨c1,c2⟩:=do_ad1 h hk (by omega) (by omega) (by omega)
    have c3:=(do_ad h hk).1
    obtain ⟨b1,b2,_,b3⟩:=do_rv h2 hk2 ha2 (by omega)
    omega
end
end Go.Proofs.YtlbefjfhfodnlaaGreatDoor
namespace Go.Proofs.YtlbefjfhfodnlaaGreatDoor
open Go Go.RowKit
set_option linter.unusedVariables false
set_option linter.unusedSimpArgs false
def ZR (g:Nat) (Fs:List Nat):List Nat:=g :: Fs
structure RnD (g:Nat) (Fs:List Nat):Prop where
  gs:g∉Fs
structure RnK (e:TypeId) (H:Array Obj) (g:Nat) (vs:Value) (Fs:List Nat) (c:Cn):Prop where
  bx:BX H g [.int .i64 c.at_,.int .i64 c.left,vs]
  sl:owL rI e H vs c.slots Fs
  sn:Fs.Nodup
  d:RnD g Fs
section
variable {e:TypeId} {H:Array Obj} {w w':World} {g:Nat} {vs:Value} {Fs F:List Nat} {s:Cn}
theorem zr_g:∀ x∈[g],x∈ZR g Fs:=fun x hx=>by rw [List.mem_singleton.1 hx]; exact List.mem_cons_self ..
theorem zr_s:∀ x∈Fs,x∈ZR g Fs:=fun x hx=>List.mem_cons_of_mem _ hx
theorem RnK.lt (h:RnK e H g vs Fs s):∀ b∈ZR g Fs,b < H.size:=fun b hb=>by
  rcases List.mem_cons.1 hb with rfl | hb
  · exact h.bx.lt
  · exact (good_owL good_rI).lt h.sl b hb
theorem RnK.ext (h:RnK e w.heap g vs Fs s) (c:Ext w w'):RnK e w'.heap g vs Fs s:=⟨h.bx.ext c,owI_ext h.sl c,h.sn,h.d⟩
theorem RnK.chg (h:RnK e w.heap g vs Fs s) (c:Chg F w w') (hd:∀ b∈ZR g Fs,b∉F):RnK e w'.heap g vs Fs s :=
  ⟨h.bx.chg c (hd _ (zr_g _ (List.mem_singleton.2 rfl))),owI_chg h.sl c (fun b hb=>hd _ (zr_s _ hb)),h.sn,h.d⟩
variable {at_ left:Int} {sl:List Int} {B B2 U2:Nat}
theorem rnk_new (hb:BX H g [.int .i64 at_,.int .i64 left,vs]) (hs:Fr (owL rI e) B2 U2 H vs sl) (h3:g < B2) (hB:B≤g):∃ Fs,RnK e H g vs Fs ⟨at_,left,sl⟩∧∀ b∈ZR g Fs,B≤b:=by
  obtain ⟨Fs,s1,s2,s3⟩:=hs
  refine ⟨Fs,⟨hb,s1,s2,⟨fun h=>by have:=s3 _ h; omega⟩⟩,fun b hb=>?_⟩
  rcases List.mem_cons.1 hb with rfl | hb
  · exact hB
  · have:=s3 _ hb; omega
end
section
variable {z:Cn} {a:Av}
theorem act_1 (h:a.kind = 1):(⟨z.at_ + a.arg,z.left,z.slots⟩:Cn) = actA z a:=by unfold actA; rw [if_pos h]
theorem act_2 (h:a.kind = 2):(⟨z.at_,z.left,z.slots.set a.arg.toNat z.at_⟩:Cn) = actA z a:=by unfold actA; rw [if_neg (by omega),if_pos h]
theorem act_3 (h:a.kind = 3):(⟨z.slots.getD a.arg.toNat 0,z.left,z.slots⟩:Cn) = actA z a:=by unfold actA; rw [if_neg (by omega),if_neg (by omega),if_pos h]
theorem act_4 (h:a.kind = 4):(⟨z.at_,z.at_,z.slots⟩:Cn) = actA z a:=by unfold actA; rw [if_neg (by omega),if_neg (by omega),if_neg (by omega)]
theorem ps_1 (h:a.kind = 1):posA z a = decide (z.at_ + a.arg < z.left):=by unfold posA; rw [if_pos h]
theorem ps_2 (h:a.kind = 2):posA z a = decide (a.arg < ((z.slots.length:Nat):Int)):=by unfold posA; rw [if_neg (by omega),if_pos h]
theorem ps_3 (h:a.kind = 3):posA z a = (decide (a.arg < ((z.slots.length:Nat):Int)) && decide (0≤z.slots.getD a.arg.toNat 0)):=by unfold posA; rw [if_neg (by omega),if_neg (by omega),if_pos h]
theorem ps_4 (h:a.kind = 4):posA z a = decide (z.at_ = z.left - 1):=by unfold posA; rw [if_neg (by omega),if_neg (by omega),if_neg (by omega)]
theorem ps_sl (h:posA z a = true) (hk:a.kind = 2∨a.kind = 3):a.arg < ((z.slots.length:Nat):Int):=by
  rcases hk with hk | hk
  · rw [ps_2 hk] at h; exact of_decide_eq_true h
  · rw [ps_3 hk,Bool.and_eq_true] at h; exact of_decide_eq_true h.1
end
def bdI (l:List Av) (n k:Nat):Int:=if fbS l (bgn ((n:Nat):Int) k) 0 = -1 then ((l.length:Nat):Int) else fbS l (bgn ((n:Nat):Int) k) 0
def bdB (l:List Av) (n k:Nat):Bool:=!decide (fbS l (bgn ((n:Nat):Int) k) 0 = -1)
section
variable {l:List Av} {c:Cn} {i n k:Nat}
theorem bd_end {z:Cn} (h:fbS (l.drop i) z ((i:Nat):Int) = fbS l (bgn ((n:Nat):Int) k) 0) (hi:l.length≤i) (h2:i≤l.length) :
    Ending.returned (.tuple #[.int .i64 ((l.length:Nat):Int),.bool (decide (((0:Nat):Int) < z.left))]) = Ending.returned (.tuple #[.int .i64 (bdI l n k),.bool (bdB l n k)]):=by
  rw [fb_end hi] at h
  unfold bdI bdB
  rw [← h]
  by_cases h8:0 < z.left
  · rw [if_pos h8,if_neg (by omega),decide_eq_false (show ¬ ((i:Nat):Int) = -1 by omega),decide_eq_true (show ((0:Nat):Int) < z.left by omega),show i = l.length from by omega]; rfl
  · rw [if_neg h8,if_pos rfl,decide_eq_true rfl,decide_eq_false (show ¬ ((0:Nat):Int) < z.left by omega)]; rfl
theorem bd_bad {z:Cn} (h:fbS (l.drop i) z ((i:Nat):Int) = fbS l (bgn ((n:Nat):Int) k) 0) (hi:i < l.length) (hp:posA z (l.getD i Av.zero) = false) :
    Ending.returned (.tuple #[.int .i64 ((i:Nat):Int),.bool true]) = Ending.returned (.tuple #[.int .i64 (bdI l n k),.bool (bdB l n k)]):=by
  rw [fb_stop hi hp] at h
  unfold bdI bdB
  rw [← h,if_neg (by omega),decide_eq_false (by omega)]; rfl
end
def putI (a:Int):List Int→List Int
  | []=>[a]
  | x :: xs=>if x < a then x :: putI a xs else if x = a then x :: xs else a :: x :: xs
section
variable {a b:Int} {l xs us:List Int}
theorem putI_lt (h:∀ x∈l,x < a):putI a l = l++[a]:=by
  induction l with
  | nil=>rfl
  | cons x l ih =>
    show (if x < a then _ else _) = _
    rw [if_pos (h x (List.mem_cons_self ..)),ih fun y hy=>h y (List.mem_cons_of_mem _ hy)]; rfl
theorem putI_ge (h:∀ x∈l,x < a) (hb:a≤b):putI a (l++[b]) = if b = a then l++[b] else l++[a]++[b]:=by
  induction l with
  | nil =>
    show (if b < a then _ else if b = a then _ else _) = _
    rw [if_neg (by omega)]; rfl
  | cons x l ih =>
    show (if x < a then x :: putI a (l++[b]) else _) = _
    rw [if_pos (h x (List.mem_cons_self ..)),ih fun y hy=>h y (List.mem_cons_of_mem _ hy)]
    split <;> rfl
theorem putI_snoc (h:∃ x∈l,a≤x):putI a (l++[b]) = putI a l++[b]:=by
  induction l with
  | nil=>obtain ⟨x,hx,_⟩:=h; cases hx
  | cons x l ih =>
    show (if x < a then x :: putI a (l++[b]) else if x = a then x :: (l++[b]) else a :: x :: (l++[b])) = (if x < a then x :: putI a l else if x = a then x :: l else a :: x :: l)++[b]
    by_cases hx:x < a
    · rw [if_pos hx,if_pos hx,ih]
      · rfl
      · obtain ⟨y,hy,hy2⟩:=h
        rcases List.mem_cons.1 hy with rfl | hy
        · omega
        · exact ⟨y,hy,hy2⟩
    · rw [if_neg hx,if_neg hx]
      split <;> rfl
theorem putI_len:(putI a l).length≤l.length + 1:=by
  induction l with
  | nil=>exact Nat.le_refl _
  | cons x l ih =>
    show (if x < a then _ else if x = a then _ else _:List Int).length≤_
    split
    · simp only [List.length_cons]; omega
    · split <;> simp
theorem mem_putI:b∈putI a l↔b = a∨b∈l:=by
  induction l with
  | nil=>show b∈[a]↔_; simp
  | cons x l ih =>
    show b∈(if x < a then x :: putI a l else if x = a then x :: l else a :: x :: l)↔_
    split
    · rw [List.mem_cons,ih,List.mem_cons]
      constructor
      · rintro (h | h | h)
        · exact .inr (.inl h)
        · exact .inl h
        · exact .inr (.inr h)
      · rintro (h | h | h)
        · exact .inr (.inl h)
        · exact .inl h
        · exact .inr (.inr h)
    · split
      · rename_i h; subst h; simp
      · simp
theorem putI_sort (h:l.Pairwise (· < ·)):(putI a l).Pairwise (· < ·):=by
  induction l with
  | nil=>exact List.pairwise_singleton ..
  | cons x l ih =>
    obtain ⟨h1,h2⟩:=List.pairwise_cons.1 h
    show (if x < a then x :: putI a l else if x = a then x :: l else a :: x :: l).Pairwise (· < ·)
    split
    · refine List.pairwise_cons.2 ⟨fun y hy=>?_,ih h2⟩
      rcases mem_putI.1 hy with rfl | hy
      · assumption
      · exact h1 y hy
    · split
      · exact h
      · refine List.pairwise_cons.2 ⟨fun y hy=>?_,h⟩
        rcases List.mem_cons.1 hy with rfl | hy
        · omega
        · have:=h1 y hy; omega
def SmL (xs us:List Int):Prop:=xs.Pairwise (· < ·)∧(∀ b,b∈xs↔b∈us)∧xs.length = us.length
theorem sm_nil:SmL [] []:=⟨.nil,fun _=>.rfl,rfl⟩
theorem putI_in (h:l.Pairwise (· < ·)) (ha:a∈l):(putI a l).length = l.length:=by
  induction l with
  | nil=>cases ha
  | cons x l ih =>
    obtain ⟨h1,h2⟩:=List.pairwise_cons.1 h
    show (if x < a then x :: putI a l else if x = a then x :: l else a :: x :: l).length = _
    by_cases hx:x < a
    · rw [if_pos hx]
      rcases List.mem_cons.1 ha with rfl | ha
      · omega
      · simp only [List.length_cons,ih h2 ha]
    · rw [if_neg hx]
      by_cases hy:x = a
      · rw [if_pos hy]
      · rcases List.mem_cons.1 ha with rfl | ha
        · exact absurd rfl hy
        · have:=h1 a ha; omega
theorem putI_out (ha:a∉l):(putI a l).length = l.length + 1:=by
  induction l with
  | nil=>rfl
  | cons x l ih =>
    have hx:¬ x = a:=fun h=>ha (h ▸ List.mem_cons_self ..)
    show (if x < a then x :: putI a l else if x = a then x :: l else a :: x :: l).length = _
    split
    · simp only [List.length_cons,ih fun h=>ha (List.mem_cons_of_mem _ h)]
    · rfl
theorem sm_put (h:SmL xs us) (a:Int):SmL (putI a xs) (insI a us):=by
  obtain ⟨h1,h2,h3⟩:=h
  refine ⟨putI_sort h1,fun b=>?_,?_⟩
  · rw [mem_putI,h2]
    unfold insI
    split
    · exact ⟨fun h=>h.elim (fun e=>by rw [e]; assumption) id,.inr⟩
    · rw [List.mem_append,List.mem_singleton]; exact Or.comm
  · unfold insI
    split
    · rename_i h9; rw [putI_in h1 ((h2 a).2 h9),h3]
    · rename_i h9; rw [putI_out (fun h=>h9 ((h2 a).1 h)),h3]; simp
end
end Go.Proofs.YtlbefjfhfodnlaaGreatDoor
namespace Go.Proofs.YtlbefjfhfodnlaaGreatDoor
open Go Go.RowKit
set_option linter.unusedVariables false
set_option linter.unusedSimpArgs false
section res
variable {P:Program} {N:Nat} {ρ:Nat→Value} {w:World} {t:TypeId}
theorem run_loadVarA {s b o:Nat} (ht:aggTy P t s = true) {cs:List Value} (h:LD w.heap (.pointer (some ⟨b,o,none⟩)) cs) (hl:cs.length = s):(loadVar t ⟨b,o,none⟩).run P w = .ok (.agg cs.toArray) w:=by
  obtain ⟨b',o',he,h⟩:=h
  injection he with he
  injection he with he
  injection he with hb ho _
  subst hb; subst ho
  unfold aggTy at ht
  simp only [Bool.and_eq_true] at ht
  obtain ⟨h1,h2⟩:=ht
  split at h1
  · rename_i fs hfs
    split at h2
    · rename_i inf hin
      have hs:inf.size = s:=by simpa using h2
      have hag:(isAgg t).run P w = .ok true w:=by
        unfold isAgg
        simp only [Sem.run_bind,run_underlying hfs,Result.andThen_ok]
        rfl
      have hlc:=run_loadCells_list (P:=P) w ⟨b,o,none⟩ cs (fun j v hj=>by
        rw [add_mk,cell_cellH]
        have hjl:j < cs.length:=(List.getElem?_eq_some_iff.1 hj).1
        rw [h j hjl]
        simp [List.getD,hj])
      rw [hl,← hs] at hlc
      simp [loadVar,hag,sizeOf,typeInfo,hin,hlc]
    · cases h2
  · cases h1
theorem post_retA {fn:Func} {R:Ending→World→Prop} {k s b:Nat} {ty:TypeId} {cs:List Value} (hr:fn.results = #[.cell k ty]) (ha:aggTy P ty s = true) (hv:evF N ρ (.tmp k) = .pointer (some ⟨b,0,none⟩)) (hb:BX w.heap b cs) (hl:cs.length = s)
    (h:R (.returned (.agg cs.toArray)) w):bodyPost P fn R .ret (mk N ρ) w:=by
  refine ⟨rfl,_,?_,h⟩
  have hld:=run_loadVarA (P:=P) ha (LD.of_box hb) hl
  have hg:(mk N ρ).tmps.getD k undef = .pointer (some ⟨b,0,none⟩):=by rw [mk_getD,hv]
  have hi:(asAddr (.pointer (some ⟨b,0,none⟩))).run P w = .ok ⟨b,0,none⟩ w:=rfl
  unfold results
  rw [hr]
  have hg':(mk N ρ).tmps[k]?.getD undef = .pointer (some ⟨b,0,none⟩):=by simpa using hg
  simp [Sem.run_bind,hg',hi,hld,Result.andThen]
end res
section fr
variable {α:Type} {E:StandN α} {s:Nat} {e e':TypeId} {B U d:Nat} {H:Array Obj} {v:Value}
theorem Fr.isSlS {xs:List α} (h:Fr (owS s E e) B U H v xs):Go.Proofs.YtlbefjfhfodnlaaGreatDoor.isSl v xs.length:=by obtain ⟨F,h,_⟩:=h; exact h.isSl
end fr
section str
variable {P:Program} {ops:Array Oper} {w0:World} {Q:Act→World→Prop} {os:List Oper} {ks:List Nat} {N:Nat} {ρ:Nat→Value} {w:World}
  {d:Nat} {ty:TypeId} {pos:String} {aft:Array Edge} {g:Option (Nat × Bool)} {t e:TypeId}
theorem q_adds {xt yt:TypeId} {x y:Operand} {a b:ByteArray} (hx:evF N ρ x = .string a) (hy:evF N ρ y = .string b) (hl:a.size + b.size≤9223372036854775807) (hu:Up ops N ρ ⟨some d,.binOp .add xt x y yt,ty,pos,aft,g⟩)
    (h:LW P ops w0 Q os ks (mk N (upd ρ d (.string (a++b)))) w):LW P ops w0 Q (⟨some d,.binOp .add xt x y yt,ty,pos,aft,g⟩ :: os) (0 :: ks) (mk N ρ) w :=
  lw_q (by decide) rfl hu _ (fun w' _=>by
    have he:(eqGuard .add xt x y (.string a) (.string b)).run P w' = .ok () w':=rfl
    have hr:(binOp .add xt (.string a) (.string b)).run P w' = .ok (.string (a++b)) w':=by
      have h2:=run_string_add_sum (P:=P) w' a b hl
      simpa [binOp] using h2
    simp only [execOp,hx,hy,Sem.run_bind,he,Result.andThen_ok,hr,Sem.run_pure]) h
end str
end Go.Proofs.YtlbefjfhfodnlaaGreatDoor
