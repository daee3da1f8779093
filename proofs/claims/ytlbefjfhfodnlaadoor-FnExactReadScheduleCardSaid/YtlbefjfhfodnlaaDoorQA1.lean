/- FwA, FwB, FwC, FwD, FwE, FwF, FwG, FwH, FwK, FwM, FwP, FwQ, FwI, FwR, Ma, Mb, Mc, Md, FwS, Nb, FwT, FwV, FwW, FwX, Id, Ih, Ij, FwY, Gc, Gd, Ge, T, Sa, Sb, Wa, Gh, Gv, Km, Ko, Kx: texts of this claim, joined; what the claim does not come to is left out. -/
import Derived.Test.YtlbefjfhfodnlaaDoorProg
import Derived.Still
import Derived.Below
import Derived.WalkKit
import Derived.IntWalk
import Derived.Laws.CopyRow
import Derived.ProofKit
import Derived.Carry
import Derived.Deep.Matrix
import Derived.Shelf.LaySoft
import Derived.Shelf.Strconv.Itoa4
import Derived.Ground.NamesProg
set_option linter.unusedVariables false
set_option linter.unusedSimpArgs false
namespace Go.Proofs.YtlbefjfhfodnlaaDoor
open Go Go.RowKit
def Ext (w w':World):Prop:=Below w.heap.size w w'
theorem Ext.refl (w:World):Ext w w:=Below.refl _ _
theorem Ext.trans {a b c:World} (h:Ext a b) (k:Ext b c):Ext a c:=Below.trans h (k.mono h.size)
section
variable {P:Program} {ops:Array Oper} {md:Region.Mode}
def YR (P:Program) (r:Result Next) (w:World) (v:Value):Prop :=
  r = .ok (.value v) w∨(r = .ok .skip w∧v = undef)∨∃ f args,r = .ok (.enter f args) w∧Calls P f args w (fun e w'=>e = .returned v∧w' = w)
def YA (P:Program) (o:Oper) (a:Act) (w:World) (v:Value):Prop:=YR P ((execOp a.eval o).run P w) w v
def endFrame (P:Program):Frame:={ fn:=P.funcs.size,tmps:=#[undef],todo:=[.inRegion #[⟨some 0,.move (.tmp 0),0,"",#[],none⟩] [0]],defers:=[],mode:=.returning,kind:=.report }
theorem endFrame_step (P:Program) (v:Value) (w:World):∃ o,step P (lone ((endFrame P).finish v) [] w) = .ended o w:=by
  have hf:P.funcs[P.funcs.size]? = none:=by simp
  refine ⟨.stuck "report: Error or String returned no string" "",step_lone_ended ?_⟩
  simp [stepG,unwind,doReturn,endFrame,Frame.finish]
theorem runN_next_end {P:Program} {n k:Nat} {m x y:Machine} {o:Outcome} {w:World} (hx:runN P n m = .next x) (hy:runN P (n + k) m = .next y) (he:step P x = .ended o w):x = y:=by
  rw [runN_add,hx] at hy
  cases k with
  | zero=>simp only [runN] at hy; injection hy
  | succ k=>simp only [runN,he] at hy; cases hy
theorem calls_unique {P:Program} {f:FuncId} {args:Array Value} {w:World} {v u:Value} (h:Calls P f args w (fun e w'=>e = .returned v∧w' = w)) (k:Calls P f args w (fun e w'=>e = .returned u∧w' = w)):v = u:=by
  have go:∀ {x:Value},Calls P f args w (fun e w'=>e = .returned x∧w' = w)→Steps P (lone (Frame.enter P f args .normal) [endFrame P] w) (lone ((endFrame P).finish x) [] w):=by
    intro x hx
    obtain ⟨e,w',fr,⟨rfl,rfl⟩,hs,_,hl⟩:=hx [endFrame P]
    exact Steps.trans hs (Steps.one (step_leave_returned hl))
  obtain ⟨n,hn⟩:=go h
  obtain ⟨m,hm⟩:=go k
  obtain ⟨o1,e1⟩:=endFrame_step P v w
  obtain ⟨o2,e2⟩:=endFrame_step P u w
  have he:lone ((endFrame P).finish v) [] w = lone ((endFrame P).finish u) [] w:=by
    rcases Nat.le_total n m with hle | hle
    · obtain ⟨k,rfl⟩:=Nat.le.dest hle
      exact runN_next_end hn hm e1
    · obtain ⟨k,rfl⟩:=Nat.le.dest hle
      exact (runN_next_end hm hn e2).symm
  simpa [lone,endFrame,Frame.finish] using he
theorem YA.unique {o:Oper} {a:Act} {w:World} {v u:Value} (h:YA P o a w v) (k:YA P o a w u):v = u:=by
  unfold YA at h k
  rcases h with h | ⟨h,rfl⟩ | ⟨f,args,h,hc⟩ <;> rcases k with k | ⟨k,rfl⟩ | ⟨f',args',k,kc⟩ <;> rw [h] at k
  · injection k with k _; injection k
  · injection k with k _; cases k
  · injection k with k _; cases k
  · injection k with k _; cases k
  · injection k with k _; cases k
  · injection k with k _; cases k
  · injection k with k _; cases k
  · injection k with k _
    injection k with k1 k2
    subst k1; subst k2
    exact calls_unique hc kc
def NQ (Q:Act→World→Prop):Exit→Act→World→Prop
  | .normal,a,w=>Q a w
  | _,_,_=>False
def Cl (w0 w:World):Nat→World→Prop
  | 0,_=>True
  | 1,w'=>Ext w0 w'
  | _,w'=>Ext w w'
def OneOp (P:Program) (w0:World) (o:Oper) (k:Nat) (a:Act) (w:World) (K:Act→World→Prop):Prop :=
  if k≤2 then ∃ v,(∀ w',Cl w0 w k w'→YA P o a w' v)∧K (a.put o.dst v) w
  else if k = 3 then o.wp P a w (fun a' w'=>Ext w w'∧K a' w') (NQ fun _ _=>False)
  else o.wp P a w K (NQ fun _ _=>False)
def LW (P:Program) (ops:Array Oper) (w0:World) (Q:Act→World→Prop):List Oper→List Nat→Act→World→Prop
  | [],_,a,w=>Q a w
  | _ :: _,[],_,_=>False
  | o :: os,k :: ks,a,w =>
    if Region.wanted o (yielded ops a.tmps) = true then OneOp P w0 o k a w (LW P ops w0 Q os ks) else LW P ops w0 Q os ks (a.put o.dst undef) w
theorem OneOp.mono {w0:World} {o:Oper} {k:Nat} {a:Act} {w:World} {K K':Act→World→Prop} (h:∀ a w,K a w→K' a w)
    (hh:OneOp P w0 o k a w K):OneOp P w0 o k a w K':=by
  unfold OneOp at *
  split
  · rename_i hk
    rw [if_pos hk] at hh
    obtain ⟨v,h1,h2⟩:=hh
    exact ⟨v,h1,h _ _ h2⟩
  · rename_i hk
    rw [if_neg hk] at hh
    split
    · rename_i h3
      rw [if_pos h3] at hh
      exact Oper.wp_mono (fun a w hx=>⟨hx.1,h _ _ hx.2⟩) hh
    · rename_i h3
      rw [if_neg h3] at hh
      exact Oper.wp_mono h hh
theorem wp_some {o:Oper} {a:Act} {w:World} {K:Act→World→Prop} (h:o.wp P a w K (NQ fun _ _=>False)):∃ v w',K (a.put o.dst v) w'∨∃ d,K ({ a with defers:=d :: a.defers }.put o.dst v) w':=by
  unfold Oper.wp at h
  generalize (execOp a.eval o).run P w = r at h
  cases r with
  | ok n w' =>
    cases n <;> simp only [Oper.upon] at h
    case value v=>exact ⟨v,w',.inl h⟩
    case skip=>exact ⟨undef,w',.inl h⟩
    case defer d=>exact ⟨undef,w',.inr ⟨d,h⟩⟩
    case enter f args =>
      obtain ⟨e,w1,fr,hR,_⟩:=h []
      cases e with
      | returned v=>exact ⟨v,w1,.inl hR⟩
      | panicked c=>exact hR.elim
      | outgrown=>obtain ⟨a1,w2,hf⟩:=hR; exact hf.elim
    case row row args =>
      obtain ⟨v,w1,hR,_⟩:=h default []
      exact ⟨v,w1,.inl hR⟩
  | halt x w'=>cases x <;> simp only [Oper.upon] at h; exact h.elim
theorem wp_apart {o:Oper} (hs:∀ cs b,o.op≠.select cs b) {a:Act} {d:Option Tmp} {v:Value} {w:World} {K:Act→World→Prop} {Q:Act→World→Prop}
    (h1:∀ x,d = some x→x∉o.looksAt ops) (h2:∀ x,d = some x→o.dst≠some x)
    (h:o.wp P (a.put d v) w K (NQ Q)):o.wp P a w (fun a' w'=>K (a'.put d v) w') (NQ fun _ _=>False):=by
  unfold Oper.wp at *
  rw [execOp_put (ops:=ops) o hs a d v h1] at h
  generalize (execOp a.eval o).run P w = r at *
  have hc:∀ u,(a.put d v).put o.dst u = (a.put o.dst u).put d v:=fun u=>Act.put_comm a v u h2
  cases r with
  | ok n w' =>
    cases n <;> simp only [Oper.upon] at h ⊢
    case value u=>rw [← hc]; exact h
    case skip=>rw [← hc]; exact h
    case defer dd =>
      rw [Act.put_defers] at h
      have:=Act.put_comm ({ a with defers:=dd :: a.defers }:Act) v undef h2
      rw [← this]; exact h
    case enter f args =>
      refine Calls.mono h (fun e w'' he=>?_)
      cases e with
      | returned u=>show K _ _; rw [← hc]; exact he
      | panicked c=>exact he
      | outgrown=>obtain ⟨_,_,hf⟩:=he; exact hf.elim
    case row row args=>exact Rows.mono h (fun u w'' he=>by show K _ _; rw [← hc]; exact he)
  | halt x w'=>cases x <;> simp only [Oper.upon] at h ⊢; exact h
theorem wp_unapart {o:Oper} (hs:∀ cs b,o.op≠.select cs b) {a:Act} {d:Option Tmp} {v:Value} {w:World} {K:Act→World→Prop}
    (h1:∀ x,d = some x→x∉o.looksAt ops) (h2:∀ x,d = some x→o.dst≠some x)
    (h:o.wp P a w (fun a' w'=>K (a'.put d v) w') (NQ fun _ _=>False)):o.wp P (a.put d v) w K (NQ fun _ _=>False):=by
  unfold Oper.wp at *
  rw [execOp_put (ops:=ops) o hs a d v h1]
  generalize (execOp a.eval o).run P w = r at *
  have hc:∀ u,(a.put d v).put o.dst u = (a.put o.dst u).put d v:=fun u=>Act.put_comm a v u h2
  cases r with
  | ok n w' =>
    cases n <;> simp only [Oper.upon] at h ⊢
    case value u=>rw [hc]; exact h
    case skip=>rw [hc]; exact h
    case defer dd =>
      rw [Act.put_defers]
      have:=Act.put_comm ({ a with defers:=dd :: a.defers }:Act) v undef h2
      rw [this]; exact h
    case enter f args =>
      refine Calls.mono h (fun e w'' he=>?_)
      cases e with
      | returned u=>show K _ _; rw [hc]; exact he
      | panicked c=>exact he
      | outgrown=>obtain ⟨_,_,hf⟩:=he; exact hf.elim
    case row row args=>exact Rows.mono h (fun u w'' he=>by show K _ _; rw [hc]; exact he)
  | halt x w'=>cases x <;> simp only [Oper.upon] at h ⊢; exact h
theorem YA.apart {o:Oper} (hs:∀ cs b,o.op≠.select cs b) {a:Act} {d:Option Tmp} {v u:Value} {w:World}
    (h1:∀ x,d = some x→x∉o.looksAt ops):YA P o (a.put d v) w u↔YA P o a w u:=by
  unfold YA
  rw [execOp_put (ops:=ops) o hs a d v h1]
variable (P ops) in
def LI (kd:Nat→Nat) (w0:World) (Q:Act→World→Prop):List Nat→Act→World→Prop
  | [],a,w=>Q a w
  | i :: l,a,w =>
    match ops[i]? with
    | none=>False
    | some o=>if Region.wanted o (yielded ops a.tmps) = true then OneOp P w0 o (kd i) a w (LI kd w0 Q l) else LI kd w0 Q l (a.put o.dst undef) w
def okPair (ki kj:Nat):Bool :=
  (ki≤2 && kj≤2) || (ki≤2 && kj == 3) || (ki == 0 && kj == 4) || (ki == 3 && kj≤1) || (ki == 4 && kj == 0)
def Free (ops:Array Oper) (kd:Nat→Nat) (bs:Nat→Nat):Prop :=
  ∀ i j oi oj,i < j→ops[i]? = some oi→ops[j]? = some oj→(bs j).testBit i = true∨(oi.apart ops oj = true∧okPair (kd i) (kd j) = true)
def Sound (md:Region.Mode) (ops:Array Oper) (bs:Nat→Nat):Prop :=
  ∀ j oj,ops[j]? = some oj→∀ i,(bs j).testBit i = true→∃ e∈oj.after,Region.binds md e = true∧(i = e.on∨(bs e.on).testBit i = true)
def Inv1 (kd:Nat→Nat) (w0 w:World) (l:List Nat):Prop:=(∃ j∈l,kd j = 1)→Ext w0 w
def No14 (kd:Nat→Nat) (l:List Nat):Prop:=∀ l1 i l2,l = l1++i :: l2→4≤kd i→∀ j∈l2,kd j≠1
theorem No14.erase {kd:Nat→Nat} {l1 l2:List Nat} {i:Nat} (h:No14 kd (l1++i :: l2)):No14 kd (l1++l2):=by
  intro m1 j m2 e hj x hx
  by_cases hlt:m1.length < l1.length
  · have e1:l1 = m1++j :: (m2.take (l1.length - m1.length - 1)):=by
      have:=congrArg (List.take l1.length) e
      rw [List.take_left,List.take_append,List.take_of_length_le (by omega)] at this
      rw [this]
      congr 1
      obtain ⟨n,hn⟩:∃ n,l1.length - m1.length = n + 1:=⟨l1.length - m1.length - 1,by omega⟩
      rw [hn]; simp
    have e2:l2 = m2.drop (l1.length - m1.length - 1):=by
      have:=congrArg (List.drop l1.length) e
      rw [List.drop_left,List.drop_append] at this
      rw [this,List.drop_of_length_le (by omega),List.nil_append]
      obtain ⟨n,hn⟩:∃ n,l1.length - m1.length = n + 1:=⟨l1.length - m1.length - 1,by omega⟩
      rw [hn]; simp
    refine h m1 j (m2.take (l1.length - m1.length - 1)++i :: l2) (by rw [e1]; simp [List.append_assoc]) hj x ?_
    have hx':x∈m2.take (l1.length - m1.length - 1)++m2.drop (l1.length - m1.length - 1):=by rw [List.take_append_drop]; exact hx
    rw [← e2] at hx'
    simp only [List.mem_append,List.mem_cons] at hx' ⊢
    rcases hx' with hx' | hx'
    · exact .inl hx'
    · exact .inr (.inr hx')
  · have e2:l2 = m1.drop l1.length++j :: m2:=by
      have:=congrArg (List.drop l1.length) e
      rw [List.drop_left,List.drop_append_of_le_length (by omega)] at this
      exact this
    exact h (l1++i :: m1.drop l1.length) j m2 (by rw [e2]; simp) hj x hx
def Yv (P:Program) (ops:Array Oper) (w0:World) (k:Nat) (o:Oper) (a:Act) (w:World) (v:Value):Prop :=
  (Region.wanted o (yielded ops a.tmps) = true∧∀ w',Cl w0 w k w'→YA P o a w' v)∨(Region.wanted o (yielded ops a.tmps) = false∧v = undef)
theorem Cl.self {w0 w:World} {k:Nat} (h:k = 1→Ext w0 w):Cl w0 w k w:=by
  match k,h with
  | 0,_=>exact trivial
  | 1,h=>exact h rfl
  | _ + 2,_=>exact Ext.refl w
theorem Yv.unique {w0 w:World} {k:Nat} {o:Oper} {a:Act} {v u:Value} (hk:k = 1→Ext w0 w) (h:Yv P ops w0 k o a w v) (h':Yv P ops w0 k o a w u):v = u:=by
  rcases h with ⟨h1,h2⟩ | ⟨h1,h2⟩ <;> rcases h' with ⟨g1,g2⟩ | ⟨g1,g2⟩
  · exact (h2 w (Cl.self hk)).unique (g2 w (Cl.self hk))
  · rw [h1] at g1; cases g1
  · rw [h1] at g1; cases g1
  · rw [h2,g2]
theorem Yv.apart {w0 w:World} {k:Nat} {o:Oper} (hs:∀ cs b,o.op≠.select cs b) {a:Act} {d:Option Tmp} {u v:Value}
    (h1:∀ x,d = some x→x∉o.looksAt ops):Yv P ops w0 k o (a.put d u) w v↔Yv P ops w0 k o a w v:=by
  unfold Yv
  rw [wanted_put (ops:=ops) o a d u h1]
  simp only [YA.apart (ops:=ops) (P:=P) hs h1]
theorem Yv.defers {w0 w:World} {k:Nat} {o:Oper} {a:Act} {l:List Deferred} {v:Value}:Yv P ops w0 k o { a with defers:=l } w v↔Yv P ops w0 k o a w v:=by
  have he:Act.eval { a with defers:=l } = Act.eval a:=funext fun x=>by cases x <;> rfl
  unfold Yv YA
  rw [he]
def Shape (a:Act) (d:Option Tmp) (a':Act):Prop:=∃ u,a' = a.put d u∨∃ x,a' = ({ a with defers:=x :: a.defers }:Act).put d u
theorem wp_shape {o:Oper} {a:Act} {w:World} {K:Act→World→Prop} {Q:Exit→Act→World→Prop} (h:o.wp P a w K Q) :
    o.wp P a w (fun a' w'=>K a' w'∧Shape a o.dst a') Q:=by
  unfold Oper.wp at *
  generalize (execOp a.eval o).run P w = r at *
  cases r with
  | ok n w' =>
    cases n <;> simp only [Oper.upon] at h ⊢
    case value u=>exact ⟨h,u,.inl rfl⟩
    case skip=>exact ⟨h,undef,.inl rfl⟩
    case defer dd=>exact ⟨h,undef,.inr ⟨dd,rfl⟩⟩
    case enter f args =>
      refine Calls.mono h (fun e w'' he=>?_)
      cases e with
      | returned u=>exact ⟨he,u,.inl rfl⟩
      | panicked c=>exact he
      | outgrown=>exact he
    case row row args=>exact Rows.mono h (fun u w'' he=>⟨he,u,.inl rfl⟩)
  | halt x w'=>cases x <;> simp only [Oper.upon] at h ⊢; exact h
theorem Yv.shape {w0 w:World} {k:Nat} {o:Oper} (hs:∀ cs b,o.op≠.select cs b) {a a':Act} {d:Option Tmp} {v:Value}
    (h1:∀ x,d = some x→x∉o.looksAt ops) (h:Shape a d a'):Yv P ops w0 k o a' w v↔Yv P ops w0 k o a w v:=by
  obtain ⟨u,rfl | ⟨x,rfl⟩⟩:=h
  · exact Yv.apart hs h1
  · rw [Yv.apart hs h1]; exact Yv.defers
theorem wanted_shape {o:Oper} {a a':Act} {d:Option Tmp} (h1:∀ x,d = some x→x∉o.looksAt ops) (h:Shape a d a') :
    Region.wanted o (yielded ops a'.tmps) = Region.wanted o (yielded ops a.tmps):=by
  obtain ⟨u,rfl | ⟨x,rfl⟩⟩:=h
  · exact wanted_put o a d u h1
  · rw [wanted_put o _ d u h1]
section main
variable {kd bs:Nat→Nat} {w0:World} {Q:Act→World→Prop}
theorem ok3 {ki kj:Nat} (h:okPair ki kj = true) (hk:ki = 3):kj≤1:=by simp [okPair] at h; omega
theorem ok4 {ki kj:Nat} (h:okPair ki kj = true) (hk:4≤ki):kj = 0:=by simp [okPair] at h; omega
theorem okj {ki kj:Nat} (h:okPair ki kj = true) (hk:3≤kj):ki≤2∧(4≤kj→ki = 0):=by simp [okPair] at h; omega
theorem takeQ (hsel:∀ (j:Nat) (o:Oper) cs b,ops[j]? = some o→o.op≠.select cs b) {j:Nat} {oj:Oper} (hj:ops[j]? = some oj) (hk:kd j≤2) :
    ∀ (l1 l2:List Nat) (a:Act) (w:World),(∀ i∈l1,∀ oi,ops[i]? = some oi→oi.apart ops oj = true∧okPair (kd i) (kd j) = true)→(kd j = 1→Ext w0 w) →
      LI P ops kd w0 Q (l1++j :: l2) a w→∃ v,Yv P ops w0 (kd j) oj a w v∧LI P ops kd w0 Q (l1++l2) (a.put oj.dst v) w
  | [],l2,a,w,_,_,h=>by
    simp only [List.nil_append,LI,hj] at h ⊢
    split at h
    · rename_i hw
      unfold OneOp at h
      rw [if_pos hk] at h
      obtain ⟨v,h1,h2⟩:=h
      exact ⟨v,.inl ⟨hw,h1⟩,h2⟩
    · rename_i hw
      exact ⟨undef,.inr ⟨by simpa using hw,rfl⟩,h⟩
  | i :: l1,l2,a,w,hl,hx,h=>by
    have hi:=hl i (List.mem_cons_self ..)
    have hl':∀ x∈l1,∀ ox,ops[x]? = some ox→ox.apart ops oj = true∧okPair (kd x) (kd j) = true:=fun x hx=>hl x (List.mem_cons_of_mem _ hx)
    simp only [List.cons_append,LI] at h ⊢
    cases hoi:ops[i]? with
    | none=>rw [hoi] at h; exact h.elim
    | some oi =>
      rw [hoi] at h
      simp only at h ⊢
      obtain ⟨hap,hok⟩:=hi oi hoi
      obtain ⟨p1,p2,p3⟩:=Oper.apart_spec hap
      have p2':∀ d,oj.dst = some d→oi.dst≠some d:=fun d hd he=>p2 d he hd
      have si:=fun cs b=>hsel i oi cs b hoi
      have sj:=fun cs b=>hsel j oj cs b hj
      by_cases hw:Region.wanted oi (yielded ops a.tmps) = true
      · rw [if_pos hw] at h
        unfold OneOp at h
        by_cases hki:kd i≤2
        · rw [if_pos hki] at h
          obtain ⟨vi,hy,h⟩:=h
          obtain ⟨v,h1,h2⟩:=takeQ hsel hj hk l1 l2 (a.put oi.dst vi) w hl' hx h
          refine ⟨v,(Yv.apart sj p1).1 h1,?_⟩
          rw [wanted_put oi a oj.dst v p3,if_pos hw]
          unfold OneOp
          rw [if_pos hki]
          refine ⟨vi,fun w' hc=>(YA.apart (ops:=ops) si p3).2 (hy w' hc),?_⟩
          rw [Act.put_comm a v vi p2']
          exact h2
        · rw [if_neg hki] at h
          have gen:∀ (G:World→Prop),(∀ w',G w'→kd j = 1→Ext w0 w')→(kd j = 2→False) →
              oi.wp P a w (fun a' w'=>G w'∧LI P ops kd w0 Q (l1++j :: l2) a' w') (NQ fun _ _=>False) →
              ∃ v,Yv P ops w0 (kd j) oj a w v∧oi.wp P (a.put oj.dst v) w (fun a' w'=>G w'∧LI P ops kd w0 Q (l1++l2) a' w') (NQ fun _ _=>False):=by
            intro G hG hn2 hh
            have hcl:∀ w1 w2,Cl w0 w1 (kd j) w2→Cl w0 w (kd j) w2:=by
              intro w1 w2 hc
              match hkj:kd j,hk,hn2 with
              | 0,_,_=>trivial
              | 1,_,_=>rw [hkj] at hc; exact hc
              | 2,_,hn=>exact (hn rfl).elim
              | _ + 3,hle,_=>omega
            have hcl':∀ w1 w2,Cl w0 w (kd j) w2→Cl w0 w1 (kd j) w2:=by
              intro w1 w2 hc
              match hkj:kd j,hk,hn2 with
              | 0,_,_=>trivial
              | 1,_,_=>rw [hkj] at hc; exact hc
              | 2,_,hn=>exact (hn rfl).elim
              | _ + 3,hle,_=>omega
            have hs:=wp_shape hh
            have step:∀ a' w',((G w'∧LI P ops kd w0 Q (l1++j :: l2) a' w')∧Shape a oi.dst a') →
                ∃ v,Yv P ops w0 (kd j) oj a w v∧LI P ops kd w0 Q (l1++l2) (a'.put oj.dst v) w':=by
              rintro a' w' ⟨⟨hg,hL⟩,hsh⟩
              obtain ⟨v,h1,h2⟩:=takeQ hsel hj hk l1 l2 a' w' hl' (hG w' hg) hL
              have h1':=(Yv.shape sj p1 hsh).1 h1
              refine ⟨v,?_,h2⟩
              rcases h1' with ⟨q1,q2⟩ | ⟨q1,q2⟩
              · exact .inl ⟨q1,fun w2 hc=>q2 w2 (hcl' w' w2 hc)⟩
              · exact .inr ⟨q1,q2⟩
            obtain ⟨v,hv⟩:∃ v,Yv P ops w0 (kd j) oj a w v:=by
              obtain ⟨u,w',hK | ⟨d,hK⟩⟩:=wp_some hs
              · obtain ⟨v,h1,_⟩:=step _ _ hK; exact ⟨v,h1⟩
              · obtain ⟨v,h1,_⟩:=step _ _ hK; exact ⟨v,h1⟩
            refine ⟨v,hv,wp_unapart (ops:=ops) si p3 p2' ?_⟩
            refine Oper.wp_mono (fun a' w' hK=>?_) hs
            obtain ⟨v',h1,h2⟩:=step a' w' hK
            have:v' = v:=h1.unique hx hv
            subst this
            exact ⟨hK.1.1,h2⟩
          by_cases h3:kd i = 3
          · rw [if_pos h3] at h
            have hj1:=ok3 hok h3
            obtain ⟨v,hv,hwp⟩:=gen (fun w'=>Ext w w') (fun w' hg h1=>(hx h1).trans hg) (fun h2=>by omega) h
            refine ⟨v,hv,?_⟩
            rw [wanted_put oi a oj.dst v p3,if_pos hw]
            unfold OneOp
            rw [if_neg hki,if_pos h3]
            exact hwp
          · rw [if_neg h3] at h
            have hj0:=ok4 hok (by omega)
            obtain ⟨v,hv,hwp⟩:=gen (fun _=>True) (fun w' _ h1=>by omega) (fun h2=>by omega) (Oper.wp_mono (fun a w hh=>⟨trivial,hh⟩) h)
            refine ⟨v,hv,?_⟩
            rw [wanted_put oi a oj.dst v p3,if_pos hw]
            unfold OneOp
            rw [if_neg hki,if_neg h3]
            exact Oper.wp_mono (fun a w hh=>hh.2) hwp
      · rw [if_neg hw] at h
        obtain ⟨v,h1,h2⟩:=takeQ hsel hj hk l1 l2 (a.put oi.dst undef) w hl' hx h
        refine ⟨v,(Yv.apart sj p1).1 h1,?_⟩
        rw [wanted_put oi a oj.dst v p3,if_neg hw,Act.put_comm a v undef p2']
        exact h2
theorem takeR (hsel:∀ (j:Nat) (o:Oper) cs b,ops[j]? = some o→o.op≠.select cs b) {j:Nat} {oj:Oper} (hj:ops[j]? = some oj) (hk:3≤kd j) :
    ∀ (l1 l2:List Nat) (a:Act) (w:World),(∀ i∈l1,∀ oi,ops[i]? = some oi→oi.apart ops oj = true∧okPair (kd i) (kd j) = true)→LI P ops kd w0 Q (l1++j :: l2) a w →
      (Region.wanted oj (yielded ops a.tmps) = true→oj.wp P a w (fun a' w'=>(kd j = 3→Ext w w')∧LI P ops kd w0 Q (l1++l2) a' w') (NQ fun _ _=>False)) ∧
      (Region.wanted oj (yielded ops a.tmps) = false→LI P ops kd w0 Q (l1++l2) (a.put oj.dst undef) w)
  | [],l2,a,w,_,h=>by
    simp only [List.nil_append,LI,hj] at h ⊢
    refine ⟨fun hw=>?_,fun hw=>?_⟩
    · rw [if_pos hw] at h
      unfold OneOp at h
      rw [if_neg (by omega)] at h
      split at h
      · exact Oper.wp_mono (fun _ _ hh=>⟨fun _=>hh.1,hh.2⟩) h
      · rename_i h3; exact Oper.wp_mono (fun _ _ hh=>⟨fun h'=>(h3 h').elim,hh⟩) h
    · rw [if_neg (by simp [hw])] at h; exact h
  | i :: l1,l2,a,w,hl,h=>by
    have hi:=hl i (List.mem_cons_self ..)
    have hl':∀ x∈l1,∀ ox,ops[x]? = some ox→ox.apart ops oj = true∧okPair (kd x) (kd j) = true:=fun x hx=>hl x (List.mem_cons_of_mem _ hx)
    simp only [List.cons_append,LI] at h ⊢
    cases hoi:ops[i]? with
    | none=>rw [hoi] at h; exact h.elim
    | some oi =>
      rw [hoi] at h
      simp only at h ⊢
      obtain ⟨hap,hok⟩:=hi oi hoi
      obtain ⟨p1,p2,p3⟩:=Oper.apart_spec hap
      have p2':∀ d,oj.dst = some d→oi.dst≠some d:=fun d hd he=>p2 d he hd
      have si:=fun cs b=>hsel i oi cs b hoi
      have sj:=fun cs b=>hsel j oj cs b hj
      obtain ⟨hki,hk4⟩:=okj hok hk
      by_cases hw:Region.wanted oi (yielded ops a.tmps) = true
      · rw [if_pos hw] at h
        unfold OneOp at h
        rw [if_pos hki] at h
        obtain ⟨vi,hy,h⟩:=h
        obtain ⟨g1,g2⟩:=takeR hsel hj hk l1 l2 (a.put oi.dst vi) w hl' h
        rw [wanted_put oj a oi.dst vi p1] at g1 g2
        refine ⟨fun hwj=>?_,fun hwj=>?_⟩
        · have g:=wp_apart (ops:=ops) (Q:=fun _ _=>False) sj p1 p2 (g1 hwj)
          refine Oper.wp_mono (fun a' w' hK=>?_) (wp_shape g)
          obtain ⟨⟨hE,hL⟩,hsh⟩:=hK
          refine ⟨hE,?_⟩
          rw [wanted_shape p3 hsh,if_pos hw]
          unfold OneOp
          rw [if_pos hki]
          refine ⟨vi,fun w'' hc=>?_,hL⟩
          have hya:YA P oi a w'' vi:=by
            refine hy w'' ?_
            match hki':kd i,hki,hk4 with
            | 0,_,_=>trivial
            | 1,_,_=>rw [hki'] at hc; exact hc
            | 2,_,h4=>rw [hki'] at hc; exact (hE (by have:¬ 4≤kd j:=(fun hh=>by have:=h4 hh; omega); omega)).trans hc
            | _ + 3,hle,_=>omega
          have he:∀ b,YA P oi b w'' vi↔YR P ((execOp b.eval oi).run P w'') w'' vi:=fun _=>Iff.rfl
          obtain ⟨u,rfl | ⟨x,rfl⟩⟩:=hsh
          · exact (YA.apart (ops:=ops) si p3).2 hya
          · refine (YA.apart (ops:=ops) si p3).2 ?_
            have hee:Act.eval { a with defers:=x :: a.defers } = Act.eval a:=funext fun y=>by cases y <;> rfl
            rw [he,hee,← he]; exact hya
        · rw [wanted_put oi a oj.dst undef p3,if_pos hw]
          unfold OneOp
          rw [if_pos hki]
          refine ⟨vi,fun w' hc=>(YA.apart (ops:=ops) si p3).2 (hy w' hc),?_⟩
          rw [Act.put_comm a undef vi p2']
          exact g2 hwj
      · rw [if_neg hw] at h
        obtain ⟨g1,g2⟩:=takeR hsel hj hk l1 l2 (a.put oi.dst undef) w hl' h
        rw [wanted_put oj a oi.dst undef p1] at g1 g2
        refine ⟨fun hwj=>?_,fun hwj=>?_⟩
        · have g:=wp_apart (ops:=ops) (Q:=fun _ _=>False) sj p1 p2 (g1 hwj)
          refine Oper.wp_mono (fun a' w' hK=>?_) (wp_shape g)
          obtain ⟨⟨hE,hL⟩,hsh⟩:=hK
          refine ⟨hE,?_⟩
          rw [wanted_shape p3 hsh,if_neg hw]
          exact hL
        · rw [wanted_put oi a oj.dst undef p3,if_neg hw,Act.put_comm a undef undef p2']
          exact g2 hwj
end main
end
end Go.Proofs.YtlbefjfhfodnlaaDoor
namespace Go.Proofs.YtlbefjfhfodnlaaDoor
open Go Go.RowKit
section
variable {P:Program} {ops:Array Oper} {md:Region.Mode} {kd bs:Nat→Nat} {w0:World} {Q:Act→World→Prop}
theorem wp_weak {o:Oper} {a:Act} {w:World} {K:Act→World→Prop} {Q':Exit→Act→World→Prop} (h:o.wp P a w K (NQ fun _ _=>False)):o.wp P a w K Q':=by
  unfold Oper.wp at *
  generalize (execOp a.eval o).run P w = r at *
  cases r with
  | ok n w' =>
    cases n <;> simp only [Oper.upon] at h ⊢ <;> try exact h
    case enter f args =>
      refine Calls.mono h (fun e w'' he=>?_)
      cases e with
      | returned u=>exact he
      | panicked c=>exact he.elim
      | outgrown=>obtain ⟨_,_,hf⟩:=he; exact hf.elim
  | halt x w'=>cases x <;> simp only [Oper.upon] at h ⊢; exact h.elim
theorem wp_of_YA {o:Oper} {a:Act} {w:World} {v:Value} {K:Act→World→Prop} {Q':Exit→Act→World→Prop} (h:YA P o a w v) (hK:K (a.put o.dst v) w):o.wp P a w K Q':=by
  unfold Oper.wp
  unfold YA at h
  rcases h with h | ⟨h,rfl⟩ | ⟨f,args,h,hc⟩ <;> rw [h]
  · exact hK
  · exact hK
  · exact Calls.mono hc fun e w' he=>by
      obtain ⟨rfl,rfl⟩:=he
      exact hK
def Closed (bs:Nat→Nat) (listed:Array Bool):Prop:=∀ i,listed.getD i false = true→∀ j,(bs i).testBit j = true→listed.getD j false = true
theorem getD_false_of_true {l:Array Bool} {i:Nat} (h:l.getD i true = false):l.getD i false = false:=by
  by_cases hi:i < l.size
  · simpa [hi] using h
  · simp [hi] at h
def PairOK (md:Region.Mode) (ops:Array Oper) (kd bs:Nat→Nat) (x y:Nat):Prop :=
  (∀ ox oy,ops[x]? = some ox→ops[y]? = some oy→(bs y).testBit x = true∨(ox.apart ops oy = true∧okPair (kd x) (kd y) = true)) ∧
  (∀ ox,ops[x]? = some ox→∀ e∈ox.after,Region.binds md e = true→e.on≠y)
section lists
variable {l1 l2:List Nat} {i:Nat} {listed:Array Bool}
theorem head_ready (hz:listed.size = ops.size) {l:List Nat} (hm:∀ x,x∈i :: l↔listed.getD x true = false) (hself:∀ x ox,ops[x]? = some ox→∀ e∈ox.after,Region.binds md e = true→e.on < x)
    (hs:∀ y∈l,∀ ox,ops[i]? = some ox→∀ e∈ox.after,Region.binds md e = true→e.on≠y):i∈Region.ready md ops listed:=by
  have hil:=(hm i).1 (List.mem_cons_self ..)
  have hlt:i < ops.size:=by
    rw [← hz]
    rcases Nat.lt_or_ge i listed.size with h' | h'
    · exact h'
    · simp [Array.getElem?_eq_none h'] at hil
  refine mem_ready.2 ⟨hil,ops[i],by simp [hlt],fun e he hb=>?_⟩
  have hlt':=hself i ops[i] (by simp [hlt]) e he hb
  have hnot:e.on∉i :: l:=by
    intro hmem
    rcases List.mem_cons.1 hmem with hh | hh
    · omega
    · exact hs _ hh ops[i] (by simp [hlt]) e he hb rfl
  have:listed.getD e.on true = true:=by
    cases hb':listed.getD e.on true with
    | true=>rfl
    | false=>exact absurd ((hm e.on).2 hb') hnot
  have hlt2:e.on < listed.size:=by omega
  simpa [hlt2] using this
theorem mem_erase (hm:∀ x,x∈l1++i :: l2↔listed.getD x true = false) (hnd:i∉l1++l2) (hsz:i < listed.size):∀ x,x∈l1++l2↔(listed.setIfInBounds i true).getD x true = false:=by
  intro x
  by_cases hxi:x = i
  · subst hxi
    constructor
    · exact fun hh=>absurd hh hnd
    · intro hh; simp [hsz] at hh
  · rw [getD_set_ne true (Ne.symm hxi),← hm x]
    simp only [List.mem_append,List.mem_cons]
    constructor
    · exact fun hh=>hh.elim .inl fun y=>.inr (.inr y)
    · exact fun hh=>hh.elim .inl fun y=>y.elim (fun z=>absurd z hxi) .inr
theorem closed_set (hc:Closed bs listed) (hbits:∀ j,(bs i).testBit j = true→listed.getD j false = true):Closed bs (listed.setIfInBounds i true):=by
  intro x hx j hj
  by_cases hxi:x = i
  · subst hxi; exact getD_set_true (hbits j hj)
  · rw [getD_set_ne false (Ne.symm hxi)] at hx; exact getD_set_true (hc x hx j hj)
theorem bits_of_ready (hS:Sound md ops bs) (hc:Closed bs listed) {oi:Oper} (hoi:ops[i]? = some oi) (hall:∀ e∈oi.after,Region.binds md e = true→listed.getD e.on false = true):∀ j,(bs i).testBit j = true→listed.getD j false = true:=by
  intro j hj
  obtain ⟨e,he,hb,hh⟩:=hS i oi hoi j hj
  have hl:=hall e he hb
  rcases hh with rfl | hh
  · exact hl
  · exact hc e.on hl j hh
theorem prefix_free {oi:Oper} (hoi:ops[i]? = some oi) (hp:∀ x∈l1,(∀ ox oy,ops[x]? = some ox→ops[i]? = some oy→(bs i).testBit x = true∨(ox.apart ops oy = true∧okPair (kd x) (kd i) = true)))
    (hm:∀ x∈l1,listed.getD x true = false) (hbits:∀ j,(bs i).testBit j = true→listed.getD j false = true):∀ x∈l1,∀ ox,ops[x]? = some ox→ox.apart ops oi = true∧okPair (kd x) (kd i) = true:=by
  intro x hx ox hox
  rcases hp x hx ox oi hox hoi with hb | hb
  · have h1:=hbits x hb
    have h2:=getD_false_of_true (hm x hx)
    rw [h1] at h2; cases h2
  · exact hb
theorem lt_of_unlisted (h:listed.getD i true = false):i < listed.size:=by
  rcases Nat.lt_or_ge i listed.size with h' | h'
  · exact h'
  · simp [Array.getElem?_eq_none h'] at h
end lists
theorem any_of_LI (hsel:∀ (j:Nat) (o:Oper) cs b,ops[j]? = some o→o.op≠.select cs b) (hS:Sound md ops bs)
    (hlex:∀ j oj,ops[j]? = some oj→∀ e∈oj.after,Region.binds md e = true→e.on < j) :
    ∀ (n:Nat) (l:List Nat) (listed:Array Bool) (a:Act) (w:World),l.length = n→l.Pairwise (PairOK md ops kd bs)→l.Nodup→listed.size = ops.size →
      (∀ i,i∈l↔listed.getD i true = false)→Closed bs listed→No14 kd l→Inv1 kd w0 w l→LI P ops kd w0 Q l a w→wpAny P md ops (NQ Q) n listed a w
  | 0,l,listed,a,w,hn,_,_,_,hm,_,_,_,h=>by
    have hl:l = []:=List.eq_nil_of_length_eq_zero hn
    subst hl
    refine ⟨?_,h⟩
    cases hr:Region.ready md ops listed with
    | nil=>rfl
    | cons x xs =>
      have:=(mem_ready.1 (by rw [hr]; exact List.mem_cons_self ..:x∈Region.ready md ops listed)).1
      exact absurd ((hm x).2 this) (by simp)
  | n + 1,l,listed,a,w,hn,hs,hd,hz,hm,hc,h14,hi1,h=>by
    refine ⟨fun h0=>?_,fun i hi=>?_⟩
    · exfalso
      match l,hn with
      | i :: l,hn =>
        have hready:=head_ready (md:=md) hz hm hlex (fun y hy ox hox=>((List.pairwise_cons.1 hs).1 y hy).2 ox hox)
        rw [h0] at hready
        cases hready
    · obtain ⟨hun,oi,hoi,hall⟩:=mem_ready.1 hi
      obtain ⟨l1,l2,rfl⟩:=List.append_of_mem ((hm i).2 hun)
      have hbits:=bits_of_ready hS hc hoi hall
      have hpi:∀ x∈l1,PairOK md ops kd bs x i:=fun x hx=>(List.pairwise_append.1 hs).2.2 x hx i (List.mem_cons_self ..)
      have hfree:=prefix_free (kd:=kd) (l1:=l1) hoi (fun x hx=>(hpi x hx).1) (fun x hx=>(hm x).1 (List.mem_append_left _ hx)) hbits
      have hsz:=lt_of_unlisted hun
      have hsub0:(l1++l2).Sublist (l1++i :: l2):=List.Sublist.append_left (List.sublist_cons_self _ _) _
      have hnd:i∉l1++l2:=by
        have h1:=List.nodup_append.1 hd
        intro hmem
        rcases List.mem_append.1 hmem with hh | hh
        · exact h1.2.2 i hh i (List.mem_cons_self ..) rfl
        · exact (List.nodup_cons.1 h1.2.1).1 hh
      have hn':(l1++l2).length = n:=by simp at hn ⊢; omega
      have rec_:∀ a' w',Inv1 kd w0 w' (l1++l2)→LI P ops kd w0 Q (l1++l2) a' w'→wpAny P md ops (NQ Q) n (listed.setIfInBounds i true) a' w':=fun a' w' hi' hL =>
        any_of_LI hsel hS hlex n (l1++l2) _ a' w' hn' (hs.sublist hsub0) (hd.sublist hsub0) (by simpa using hz) (mem_erase hm hnd hsz) (closed_set hc hbits) (No14.erase h14) hi' hL
      have hsub:Inv1 kd w0 w (l1++l2):=fun ⟨j,hj,hk⟩=>hi1 ⟨j,hsub0.subset hj,hk⟩
      by_cases hk:kd i≤2
      · obtain ⟨v,hv,hL⟩:=takeQ hsel hoi hk l1 l2 a w hfree (fun h1=>hi1 ⟨i,by simp,h1⟩) h
        unfold wpOp
        rw [hoi]
        rcases hv with ⟨hw,hy⟩ | ⟨hw,rfl⟩
        · simp only [hw,if_true]
          exact .inl (wp_of_YA (hy w (Cl.self fun h1=>hi1 ⟨i,by simp,h1⟩)) (rec_ _ _ hsub hL))
        · simp only [hw,Bool.false_eq_true,if_false]
          exact rec_ _ _ hsub hL
      · obtain ⟨g1,g2⟩:=takeR hsel hoi (by omega) l1 l2 a w hfree h
        unfold wpOp
        rw [hoi]
        by_cases hw:Region.wanted oi (yielded ops a.tmps) = true
        · simp only [hw,if_true]
          refine .inl (Oper.wp_mono (fun a' w' hK=>rec_ a' w' ?_ hK.2) (wp_weak (g1 hw)))
          rintro ⟨j,hj,hkj⟩
          by_cases h3:kd i = 3
          · exact (hsub ⟨j,hj,hkj⟩).trans (hK.1 h3)
          · exfalso
            rcases List.mem_append.1 hj with hh | hh
            · obtain ⟨oj,hoj⟩:∃ oj,ops[j]? = some oj:=by
                have:=lt_of_unlisted ((hm j).1 (List.mem_append_left _ hh))
                exact ⟨ops[j]'(by omega),by simp [show j < ops.size by omega]⟩
              have:=(okj (hfree j hh oj hoj).2 (by omega)).2 (by omega)
              omega
            · exact h14 l1 i l2 rfl (by omega) j hh hkj
        · simp only [hw,Bool.false_eq_true,if_false]
          exact rec_ _ _ hsub (g2 (by simpa using hw))
def Two (i j:Nat) (l1 l2:List Nat):Prop:=∃ A M C,l1 = A++i :: (M++j :: C)∧l2 = A++(M++j :: i :: C)
theorem LI_of_LW (ks:List Nat):∀ (os:List Oper) (k:Nat) (a:Act) (w:World),(∀ j,os[j]? = ops[k + j]?) →
    LW P ops w0 Q os (ks.drop k) a w→LI P ops (fun i=>ks.getD i 0) w0 Q (List.range' k os.length) a w
  | [],_,_,_,_,h=>by simpa [LI,LW] using h
  | o :: os,k,a,w,ho,h=>by
    have h0:ops[k]? = some o:=by simpa using (ho 0).symm
    have hr:∀ a w,LW P ops w0 Q os (ks.drop (k + 1)) a w→LI P ops (fun i=>ks.getD i 0) w0 Q (List.range' (k + 1) os.length) a w:=fun a w hh =>
      LI_of_LW ks os (k + 1) a w (fun j=>by have:=ho (j + 1); simpa [Nat.add_assoc,Nat.add_comm 1 j] using this) hh
    have hlt:k < ks.length:=by
      rcases Nat.lt_or_ge k ks.length with hh | hh
      · exact hh
      · rw [List.drop_of_length_le hh] at h; exact h.elim
    have hd:ks.drop k = ks[k] :: ks.drop (k + 1):=List.drop_eq_getElem_cons hlt
    rw [hd] at h
    simp only [List.length_cons,List.range'_succ,LI,h0,LW] at h ⊢
    have hg:ks.getD k 0 = ks[k]:=by simp [hlt]
    split
    · rename_i hw
      rw [if_pos hw] at h
      rw [hg]
      exact h.mono hr
    · rename_i hw
      rw [if_neg hw] at h
      exact hr _ _ h
def chk (ops:Array Oper) (ks:List Nat):Bool :=
  let b:=(Region.before ops).toList
  let os:=ops.toList
  Region.noSelect ops &&
  (os.zipIdx.all fun (o,j) =>
    (o.after.all fun e=>!Region.binds .any e || decide (e.on < j)) &&
    (let m:=o.after.foldl (fun s e=>if Region.binds .any e then s ||| 2 ^ e.on ||| b.getD e.on 0 else s) 0
     (b.getD j 0 == m)) &&
    (os.zipIdx.all fun (p,i)=>!(decide (i < j)) || (b.getD j 0).testBit i || (p.apart ops o && okPair (ks.getD i 0) (ks.getD j 0)))) &&
  (os.zipIdx.all fun (_,i)=>!(decide (4≤ks.getD i 0)) || os.zipIdx.all fun (_,j)=>!(decide (i < j)) || ks.getD j 0 != 1)
theorem foldl_bits (f:Edge→Nat):∀ (l:List Edge) (s:Nat) (i:Nat),(l.foldl (fun s e=>if Region.binds .any e then s ||| 2 ^ e.on ||| f e else s) s).testBit i = true →
    s.testBit i = true∨∃ e∈l,Region.binds .any e = true∧(i = e.on∨(f e).testBit i = true)
  | [],s,i,h=>.inl h
  | e :: l,s,i,h=>by
    rcases foldl_bits f l _ i h with h | ⟨x,hx,hb⟩
    · dsimp only at h
      split at h
      · rename_i hb
        simp only [Nat.testBit_or,Bool.or_eq_true] at h
        rcases h with (h | h) | h
        · exact .inl h
        · refine .inr ⟨e,List.mem_cons_self ..,hb,.inl ?_⟩
          simp [Nat.testBit_two_pow] at h
          exact h.symm
        · exact .inr ⟨e,List.mem_cons_self ..,hb,.inr h⟩
      · exact .inl h
    · exact .inr ⟨x,List.mem_cons_of_mem _ hx,hb⟩
theorem wpAny_weak {os:List Oper} {Q:Exit→Act→World→Prop}:∀ (n:Nat) (listed:Array Bool) (a:Act) (w:World),wpAny P .any os.toArray (NQ fun a w=>Q .normal a w) n listed a w→wpAny P .any os.toArray Q n listed a w:=by
  intro n
  induction n with
  | zero=>exact fun listed a w h=>h
  | succ n ih =>
    intro listed a w h
    refine ⟨h.1,fun i hi=>?_⟩
    have:=wpOp_mono (fun a w=>ih _ a w) (h.2 i hi)
    unfold wpOp at this ⊢
    split
    · rename_i ho; rw [ho] at this; exact this
    · rename_i o ho
      rw [ho] at this
      split
      · rename_i hw
        simp only [hw,if_true] at this
        rcases this with this | ⟨_,_,_,hf⟩
        · left
          unfold Oper.wp at *
          generalize (execOp a.eval o).run P w = r at *
          cases r with
          | ok m w' =>
            cases m <;> simp only [Oper.upon] at this ⊢ <;> try exact this
            case enter f args =>
              refine Calls.mono this (fun e w'' he=>?_)
              cases e with
              | returned u=>exact he
              | panicked c=>exact he.elim
              | outgrown=>obtain ⟨_,_,hf⟩:=he; exact hf.elim
          | halt x w'=>cases x <;> simp only [Oper.upon] at this ⊢; exact this.elim
        · exact hf.elim
      · rename_i hw
        simp only [hw] at this
        exact this
theorem pairs_sorted {md:Region.Mode} (hF:Free ops kd bs) (hlex:∀ j oj,ops[j]? = some oj→∀ e∈oj.after,Region.binds md e = true→e.on < j) {l:List Nat} (h:l.Pairwise (· < ·)):l.Pairwise (PairOK md ops kd bs) :=
  h.imp fun {x y} hxy=>⟨fun ox oy hox hoy=>hF x y ox oy hxy hox hoy,fun ox hox e he hb=>by have:=hlex x ox hox e he hb; omega⟩
theorem wp_draw {id:Nat} {Q:Exit→Act→World→Prop} {a:Act} {w:World} (os:List Oper) (ks:List Nat) (hm:P.follows .mixedOrders = true) (hB:chk os.toArray ks = true)
    (h:LW P os.toArray w.drew (fun a w=>Q .normal a w) os ks a w.drew):(Code.region id os.toArray true).wp P Q a w:=by
  refine wp_region_any hm ?_
  simp only [chk,Bool.and_eq_true] at hB
  obtain ⟨⟨hsel,hpl⟩,h14⟩:=hB
  have hz:∀ {j:Nat} {o:Oper},os.toArray[j]? = some o→(o,j)∈os.toArray.toList.zipIdx:=by
    intro j o ho
    rw [List.mem_zipIdx_iff_getElem?]
    simpa using ho
  have hall:∀ j oj,os.toArray[j]? = some oj→_:=fun j oj hj=>List.all_eq_true.1 hpl _ (hz hj)
  have hF:Free os.toArray (fun i=>ks.getD i 0) (fun j=>(Region.before os.toArray).toList.getD j 0):=by
    intro i j oi oj hij hi hj
    have h3:=(Bool.and_eq_true _ _ ▸ hall j oj hj:_∧_).2
    have h4:=List.all_eq_true.1 h3 _ (hz hi)
    simp only [Bool.or_eq_true,Bool.not_eq_true',decide_eq_false_iff_not,Bool.and_eq_true] at h4
    rcases h4 with (h4 | h4) | h4
    · exact absurd hij h4
    · exact .inl h4
    · exact .inr h4
  have hlex:∀ j oj,os.toArray[j]? = some oj→∀ e∈oj.after,Region.binds .any e = true→e.on < j:=by
    intro j oj hj e he hb
    have h1:=(Bool.and_eq_true _ _ ▸ (Bool.and_eq_true _ _ ▸ hall j oj hj:_∧_).1:_∧_).1
    have h2:=(Array.all_eq_true_iff_forall_mem.1 h1) e he
    simpa [hb] using h2
  have key:=any_of_LI (P:=P) (ops:=os.toArray) (md:=.any) (kd:=fun i=>ks.getD i 0) (bs:=fun j=>(Region.before os.toArray).toList.getD j 0) (w0:=w.drew) (Q:=fun a w=>Q .normal a w)
    (Region.noSelect_spec hsel) ?_ ?_ os.length (List.range' 0 os.length) (Array.replicate os.length false) a w.drew (by simp) ?_ List.nodup_range' (by simp) ?_ ?_ ?_ (fun _=>Ext.refl _) ?_
  · have:=wpAny_weak _ _ _ _ key
    simpa using this
  · intro j oj hj i hb
    have h3:=(Bool.and_eq_true _ _ ▸ (Bool.and_eq_true _ _ ▸ hall j oj hj:_∧_).1:_∧_).2
    have h5:(Region.before os.toArray).toList.getD j 0 = oj.after.foldl (fun s e=>if Region.binds .any e then s ||| 2 ^ e.on ||| (Region.before os.toArray).toList.getD e.on 0 else s) 0:=by simpa using h3
    dsimp only at hb
    rw [h5,← Array.foldl_toList] at hb
    rcases foldl_bits _ _ _ _ hb with hb | ⟨e,he,hbb,hh⟩
    · simp at hb
    · exact ⟨e,Array.mem_toList_iff.1 he,hbb,hh⟩
  · exact hlex
  · exact pairs_sorted hF hlex List.pairwise_lt_range'
  · intro i
    simp only [List.mem_range',Nat.zero_add,Nat.one_mul]
    constructor
    · rintro ⟨x,hx,rfl⟩; simp [hx]
    · intro hh
      rcases Nat.lt_or_ge i os.length with h' | h'
      · exact ⟨i,h',rfl⟩
      · simp [Array.getElem?_eq_none (show (Array.replicate os.length false).size≤i by simpa using h')] at hh
  · intro i hi
    rcases Nat.lt_or_ge i os.length with h' | h'
    · simp [h'] at hi
    · simp [Array.getElem?_eq_none (show (Array.replicate os.length false).size≤i by simpa using h')] at hi
  · intro l1 i l2 hl hk j hj
    have hs:(l1++i :: l2).Pairwise (· < ·):=hl ▸ List.pairwise_lt_range'
    have hij:i < j:=List.rel_of_pairwise_cons (List.pairwise_append.1 hs).2.1 hj
    have mem:∀ x∈l1++i :: l2,x < os.length:=by
      intro x hx
      rw [← hl] at hx
      simp only [List.mem_range',Nat.zero_add,Nat.one_mul] at hx
      obtain ⟨y,hy,rfl⟩:=hx
      exact hy
    have hi:=mem i (by simp)
    have hj':=mem j (by simp [hj])
    have h1:=List.all_eq_true.1 h14 _ (hz (j:=i) (o:=os[i]) (by simp [hi]))
    simp only [Bool.or_eq_true,Bool.not_eq_true',decide_eq_false_iff_not] at h1
    rcases h1 with h1 | h1
    · exact absurd hk h1
    · have h2:=List.all_eq_true.1 h1 _ (hz (j:=j) (o:=os[j]) (by simp [hj']))
      simp only [Bool.or_eq_true,Bool.not_eq_true',decide_eq_false_iff_not] at h2
      rcases h2 with h2 | h2
      · exact absurd hij h2
      · simpa using h2
  · exact LI_of_LW ks os 0 a w.drew (by simp) (by simpa using h)
theorem wpl_of_LW:∀ (rest:List Oper) (ks:List Nat) (a:Act) (w:World) (Q:Exit→Act→World→Prop),(∀ k∈ks,k≠1)→LW P ops w0 (fun a w=>Q .normal a w) rest ks a w→wpList P ops Q rest a w
  | [],_,_,_,_,_,h=>h
  | _ :: _,[],_,_,_,_,h=>h.elim
  | o :: os,k :: ks,a,w,Q,hk,h=>by
    have hk':∀ x∈ks,x≠1:=fun x hx=>hk x (List.mem_cons_of_mem _ hx)
    have hk1:=hk k (List.mem_cons_self ..)
    refine wpList_step fun K hK=>?_
    simp only [LW] at h
    split
    · rename_i hw
      rw [if_pos hw] at h
      unfold OneOp at h
      split at h
      · obtain ⟨v,h1,h2⟩:=h
        exact wp_of_YA (h1 w (Cl.self fun hh=>absurd hh hk1)) (hK _ _ (wpl_of_LW os ks _ _ Q hk' h2))
      · split at h
        · exact Oper.wp_mono (fun a w hh=>hK _ _ (wpl_of_LW os ks _ _ Q hk' hh.2)) (wp_weak h)
        · exact Oper.wp_mono (fun a w hh=>hK _ _ (wpl_of_LW os ks _ _ Q hk' hh)) (wp_weak h)
    · rename_i hw
      rw [if_neg hw] at h
      exact hK _ _ (wpl_of_LW os ks _ _ Q hk' h)
theorem wp_plain {id:Nat} {Q:Exit→Act→World→Prop} {a:Act} {w:World} (os:List Oper) (ks:List Nat) (hk:ks.all (· != 1) = true)
    (h:LW P os.toArray w (fun a w=>Q .normal a w) os ks a w):(Code.region id os.toArray false).wp P Q a w :=
  wp_region_lit (wpl_of_LW os ks a w Q (fun k hh=>by simpa using List.all_eq_true.1 hk k hh) h)
end
end Go.Proofs.YtlbefjfhfodnlaaDoor
namespace Go.Proofs.YtlbefjfhfodnlaaDoor
open Go Go.RowKit
def upd (ρ:Nat→Value) (d:Nat) (v:Value):Nat→Value:=fun i=>cond (Nat.beq i d) v (ρ i)
def ini (l:List Value):Nat→Value:=fun i=>l.getD i undef
def mk (N:Nat) (ρ:Nat→Value):Act:=⟨((List.range N).map ρ).toArray,[]⟩
def evF (N:Nat) (ρ:Nat→Value):Operand→Value
  | .tmp t=>cond (Nat.blt t N) (ρ t) undef
  | .const v=>v
  | .global g=>.pointer (some ⟨g,0,none⟩)
  | .func f=>.func (.func f) #[] #[]
theorem upd_same (ρ:Nat→Value) (d:Nat) (v:Value):upd ρ d v d = v:=by simp [upd]
theorem upd_ne (ρ:Nat→Value) {d i:Nat} (v:Value) (h:i≠d):upd ρ d v i = ρ i:=by
  have:Nat.beq i d = false:=by
    cases hb:Nat.beq i d with
    | false=>rfl
    | true=>exact absurd (Nat.eq_of_beq_eq_true hb) h
  simp [upd,this]
theorem mk_eval (N:Nat) (ρ:Nat→Value):(mk N ρ).eval = evF N ρ:=by
  funext x
  cases x with
  | tmp t =>
    simp only [Act.eval,evF,mk]
    by_cases h:t < N
    · have:Nat.blt t N = true:=by simpa using h
      simp [h,this]
    · have:Nat.blt t N = false:=by
        cases hb:Nat.blt t N with
        | false=>rfl
        | true=>exact absurd (by simpa using hb) h
      simp [this,Nat.not_lt.1 h]
  | _=>rfl
theorem mk_put (N:Nat) (ρ:Nat→Value) (d:Nat) (v:Value):(mk N ρ).put (some d) v = mk N (upd ρ d v):=by
  simp only [Act.put,mk,Act.mk.injEq,and_true]
  apply Array.ext
  · simp
  · intro i h1 h2
    simp at h1
    by_cases hi:i = d
    · subst hi; simp [upd_same]
    · simp [Ne.symm hi,upd_ne _ _ hi]
theorem calls_mk {P:Program} {f:FuncId} {fn:Func} {c:Code} {w:World} {R:Ending→World→Prop} (args:List Value) (N:Nat)
    (hf:P.funcs[f]? = some fn) (hb:fn.body = some c) (hN:fn.ntmps = N) (hl:args.length≤N)
    (h:c.wp P (bodyPost P fn R) (mk N (ini args)) w):Calls P f args.toArray w R:=by
  refine calls_of_wp hf hb ?_
  have:(mk N (ini args)) = { tmps:=args.toArray++Array.replicate (fn.ntmps - args.toArray.size) undef,defers:=[] }:=by
    simp only [mk,Act.mk.injEq,and_true]
    apply Array.ext
    · simp; omega
    · intro i h1 h2
      simp at h1
      by_cases hi:i < args.length
      · simp [ini,hi]
      · simp [ini,hi,Array.getElem_append]
  rw [← this]; exact h
def resF (N:Nat) (ρ:Nat→Value):List Nat→Value
  | [t]=>evF N ρ (.tmp t)
  | ts=>.tuple (ts.map fun t=>evF N ρ (.tmp t)).toArray
theorem mk_getD (N:Nat) (ρ:Nat→Value) (t:Nat):(mk N ρ).tmps.getD t undef = evF N ρ (.tmp t):=by
  rw [← mk_eval]; rfl
theorem run_results {P:Program} {fn:Func} {N:Nat} {ρ:Nat→Value} {w:World} (ts:List Nat) (hr:fn.results = (ts.map ResultVar.tmp).toArray) :
    (results fn (mk N ρ).tmps).run P w = .ok (resF N ρ ts) w:=by
  have key:∀ (l:List Nat),(((l.map ResultVar.tmp).mapM (m:=Sem) fun
    | .tmp t=>pure ((mk N ρ).tmps.getD t undef)
    | .cell a t=>do loadVar t (← asAddr ((mk N ρ).tmps.getD a undef)))).run P w = .ok (l.map fun t=>evF N ρ (.tmp t)) w:=by
    intro l
    induction l with
    | nil=>rfl
    | cons t l ih =>
      simp only [List.map_cons,List.mapM_cons,Sem.run_bind,Sem.run_pure,Result.andThen_ok,mk_getD] at ih ⊢
      rw [ih]
      rfl
  unfold results
  rw [hr]
  simp only [List.mapM_toArray,Sem.run_bind,Sem.run_map]
  refine (congrArg (fun r=>(Result.andThen (Result.andThen r fun a w'=>Result.ok a.toArray w') fun a w'=>Result.ok (if h:a.size = 1 then a[0] else Value.tuple a) w')) (key ts)).trans ?_
  simp only [Result.andThen_ok]
  match ts with
  | []=>rfl
  | [t]=>rfl
  | _ :: _ :: _=>rfl
theorem post_ret {P:Program} {fn:Func} {N:Nat} {ρ:Nat→Value} {w:World} {R:Ending→World→Prop} (ts:List Nat) (hr:fn.results = (ts.map ResultVar.tmp).toArray) (v:Value) (hv:resF N ρ ts = v)
    (h:R (.returned v) w):bodyPost P fn R .ret (mk N ρ) w:=⟨rfl,v,by rw [← hv]; exact run_results ts hr,h⟩
section code
variable {P:Program} {N:Nat} {ρ:Nat→Value} {Q:Exit→Act→World→Prop} {w:World}
theorem c_cond_t {c:Operand} {x y:Code} (hc:evF N ρ c = .bool true) (h:x.wp P Q (mk N ρ) w):(Code.cond c x y).wp P Q (mk N ρ) w :=
  wp_cond_true (by rw [mk_eval]; exact hc) h
theorem c_cond_f {c:Operand} {x y:Code} (hc:evF N ρ c = .bool false) (h:y.wp P Q (mk N ρ) w):(Code.cond c x y).wp P Q (mk N ρ) w :=
  wp_cond_false (by rw [mk_eval]; exact hc) h
theorem c_exit_here {id:Nat} {a:Act} (h:Q .normal a w):Exit.inBlock id Q (.exit id) a w:=by
  simpa [Exit.inBlock] using h
theorem c_exit_out {id id':Nat} {a:Act} (hne:Nat.beq id' id = false) (h:Q (.exit id') a w):Exit.inBlock id Q (.exit id') a w:=by
  have:id'≠id:=fun e=>by rw [e,Nat.beq_refl] at hne; cases hne
  simpa [Exit.inBlock,this] using h
theorem t_exit {id:Nat} {a:Act} {K:Act→World→Prop} (h:Q (.exit id) a w):Exit.then K Q (.exit id) a w:=h
theorem t_ret {a:Act} {K:Act→World→Prop} (h:Q .ret a w):Exit.then K Q .ret a w:=h
theorem b_ret {id:Nat} {a:Act} (h:Q .ret a w):Exit.inBlock id Q .ret a w:=h
def over:List (Nat × Value)→(Nat→Value)→Nat→Value
  | [],ρ=>ρ
  | (i,v) :: l,ρ=>upd (over l ρ) i v
def agrees (ρ:Nat→Value):List (Nat × Value)→Prop
  | []=>True
  | (i,v) :: l=>ρ i = v∧agrees ρ l
theorem over_of_agrees {ρ:Nat→Value}:∀ {l:List (Nat × Value)},agrees ρ l→over l ρ = ρ
  | [],_=>rfl
  | (i,v) :: l,h=>by
    simp only [over,over_of_agrees h.2]
    funext j
    by_cases hj:j = i
    · subst hj; rw [upd_same]; exact h.1.symm
    · rw [upd_ne _ _ hj]
theorem c_loop {S:Type} (fr:S→List (Nat × Value)) (I:S→World→Prop) (m:S→Nat) (s0:S) {body:Code} (hfr:agrees ρ (fr s0)) (h0:I s0 w)
    (round:∀ s ρ w,I s w→body.wp P (Exit.then (fun a' w'=>∃ s' ρ',a' = mk N ρ'∧agrees ρ' (fr s')∧I s' w'∧m s' < m s) Q) (mk N (over (fr s) ρ)) w) :
    (Code.loop body).wp P Q (mk N ρ) w:=by
  intro b k cs
  have key:∀ n s ρ w,m s = n→agrees ρ (fr s)→I s w→∃ e a' w',Q e a' w'∧Arrives P (lone (b.at (mk N ρ) (.code body :: .inLoop body :: k)) cs w) b k cs e a' w':=by
    intro n
    induction n using Nat.strongRecOn with
    | _ n ih =>
      intro s ρ w hn hfr hI
      have hr:=round s ρ w hI
      rw [over_of_agrees hfr] at hr
      obtain ⟨e,a₁,w₁,hq,harr⟩:=hr b (.inLoop body :: k) cs
      cases e with
      | normal =>
        obtain ⟨s',ρ',rfl,hfr',hI',hlt⟩:=hq
        obtain ⟨e₂,a₂,w₂,hq₂,harr₂⟩:=ih (m s') (hn ▸ hlt) s' ρ' w₁ rfl hfr' hI'
        exact ⟨e₂,a₂,w₂,hq₂,.of_steps (Steps.trans harr (.one step_inLoop)) harr₂⟩
      | exit id=>exact ⟨_,a₁,w₁,hq,.pass (x:=.inLoop body) rfl (fun _ _=>.inl (by simp)) harr⟩
      | goto l=>exact ⟨_,a₁,w₁,hq,.pass (x:=.inLoop body) rfl (fun _ _=>.inl (by simp)) harr⟩
      | ret=>exact ⟨_,a₁,w₁,hq,.pass (x:=.inLoop body) rfl (fun _ _=>.inl (by simp)) harr⟩
      | panic ch=>exact ⟨_,a₁,w₁,hq,.pass (x:=.inLoop body) rfl (fun _ _=>.inl (by simp)) harr⟩
      | outgrown=>exact ⟨_,a₁,w₁,hq,.pass (x:=.inLoop body) rfl (fun _ _=>.inl (by simp)) harr⟩
  obtain ⟨e,a',w',hq,harr⟩:=key _ s0 ρ w rfl hfr h0
  exact ⟨e,a',w',hq,.of_steps (.one step_loop) harr⟩
end code
section ops
variable {P:Program} {ops:Array Oper} {w0:World} {Q:Act→World→Prop} {os:List Oper} {ks:List Nat} {N:Nat} {ρ:Nat→Value} {w:World}
abbrev Up (ops:Array Oper) (N:Nat) (ρ:Nat→Value) (o:Oper):Prop:=Region.wanted o (yielded ops (mk N ρ).tmps) = true
theorem zN {d:Option Tmp} {op:Op} {ty:TypeId} {pos:String} {aft:Array Edge}:Up ops N ρ ⟨d,op,ty,pos,aft,none⟩:=rfl
theorem yielded_mk {j d:Nat} {b:Bool} (hd:(ops[j]?).bind (·.dst) = some d) (hlt:Nat.blt d N = true) (hv:ρ d = .bool b):yielded ops (mk N ρ).tmps j = some b:=by
  have h:d < N:=by simpa using hlt
  unfold yielded
  rw [hd]
  simp [mk,h,hv]
theorem zS {d:Option Tmp} {op:Op} {ty:TypeId} {pos:String} {aft:Array Edge} {j e:Nat} {b:Bool} (hd:(ops[j]?).bind (·.dst) = some e) (hlt:Nat.blt e N = true) (hv:ρ e = .bool b) :
    Up ops N ρ ⟨d,op,ty,pos,aft,some (j,b)⟩:=by
  unfold Up Region.wanted
  simp [yielded_mk hd hlt hv]
theorem lw_q {o:Oper} {k d:Nat} (hk:k≤2) (hd:o.dst = some d) (hu:Up ops N ρ o) (v:Value) (hr:∀ w',Cl w0 w k w'→(execOp (evF N ρ) o).run P w' = .ok (.value v) w')
    (h:LW P ops w0 Q os ks (mk N (upd ρ d v)) w):LW P ops w0 Q (o :: os) (k :: ks) (mk N ρ) w:=by
  simp only [LW]
  rw [if_pos hu]
  unfold OneOp
  rw [if_pos hk]
  refine ⟨v,fun w' hc=>.inl ?_,?_⟩
  · rw [mk_eval]; exact hr w' hc
  · rw [hd,mk_put]; exact h
theorem lw_r {o:Oper} {d:Nat} (hd:o.dst = some d) (hu:Up ops N ρ o)
    (v:Value) (w1:World) (hr:(execOp (evF N ρ) o).run P w = .ok (.value v) w1) (hE:Ext w w1) (h:LW P ops w0 Q os ks (mk N (upd ρ d v)) w1):LW P ops w0 Q (o :: os) (3 :: ks) (mk N ρ) w:=by
  simp only [LW]
  rw [if_pos hu]
  unfold OneOp
  rw [if_neg (by decide),if_pos rfl]
  unfold Oper.wp
  rw [mk_eval,hr]
  show Ext w w1∧LW P ops w0 Q os ks ((mk N ρ).put o.dst v) w1
  rw [hd,mk_put]
  exact ⟨hE,h⟩
theorem lw_e {o:Oper} {d:Nat} (hd:o.dst = some d) (hu:Up ops N ρ o)
    (v:Value) (w1:World) (hr:(execOp (evF N ρ) o).run P w = .ok (.value v) w1) (h:LW P ops w0 Q os ks (mk N (upd ρ d v)) w1):LW P ops w0 Q (o :: os) (4 :: ks) (mk N ρ) w:=by
  simp only [LW]
  rw [if_pos hu]
  unfold OneOp
  rw [if_neg (by decide),if_neg (by decide)]
  unfold Oper.wp
  rw [mk_eval,hr]
  show LW P ops w0 Q os ks ((mk N ρ).put o.dst v) w1
  rw [hd,mk_put]
  exact h
theorem lw_s {o:Oper} (hd:o.dst = none) (hu:Up ops N ρ o)
    (w1:World) (hr:(execOp (evF N ρ) o).run P w = .ok .skip w1) (h:LW P ops w0 Q os ks (mk N ρ) w1):LW P ops w0 Q (o :: os) (4 :: ks) (mk N ρ) w:=by
  simp only [LW]
  rw [if_pos hu]
  unfold OneOp
  rw [if_neg (by decide),if_neg (by decide)]
  unfold Oper.wp
  rw [mk_eval,hr]
  show LW P ops w0 Q os ks ((mk N ρ).put o.dst undef) w1
  rw [hd]
  exact h
theorem lw_call {d:Nat} {x:Operand} {xs:Array Operand} {ats:Array TypeId} {ty:TypeId} {pos:String} {aft:Array Edge} {g:Option (Nat × Bool)} (f:FuncId) (first cap:List Value) (args:List Value)
    (hx:evF N ρ x = .func (.func f) first.toArray cap.toArray) (hxs:first++(xs.toList.map (evF N ρ))++cap = args) (hf:((P.funcs[f]?).map fun fn=>(fn.name != "runtime.NumGoroutine") && fn.body.isSome) = some true)
    (hu:Up ops N ρ ⟨some d,.call ⟨.value x,xs,ats⟩,ty,pos,aft,g⟩) {R:Ending→World→Prop} (hc:Calls P f args.toArray w R)
    (h:∀ e w1,R e w1→∃ v,e = .returned v∧Ext w w1∧LW P ops w0 Q os ks (mk N (upd ρ d v)) w1) :
    LW P ops w0 Q (⟨some d,.call ⟨.value x,xs,ats⟩,ty,pos,aft,g⟩ :: os) (3 :: ks) (mk N ρ) w:=by
  simp only [LW]
  rw [if_pos hu]
  unfold OneOp
  rw [if_neg (by decide),if_pos rfl]
  unfold Oper.wp
  rw [mk_eval]
  have hrun:(execOp (evF N ρ) ⟨some d,.call ⟨.value x,xs,ats⟩,ty,pos,aft,g⟩).run P w = .ok (.enter f args.toArray) w:=by
    obtain ⟨fn,hfn,hb⟩:=Option.map_eq_some_iff.1 hf
    simp only [Bool.and_eq_true,bne_iff_ne,ne_eq] at hb
    have hargs:first.toArray++xs.map (evF N ρ)++cap.toArray = args.toArray:=by
      rw [← hxs]; apply Array.ext'; simp
    obtain ⟨c,hbc⟩:=Option.isSome_iff_exists.1 hb.2
    have hcf:(callFunc f args.toArray).run P w = .ok (.enter f args.toArray) w:=by
      simp [callFunc,hfn,hb.1,hbc]
    simp [execOp,resolve,hargs,hx,Deferred.ofValue,invoke,hcf]
  rw [hrun]
  refine Calls.mono hc (fun e w1 he=>?_)
  obtain ⟨v,rfl,hE,hL⟩:=h e w1 he
  show Ext w w1∧LW P ops w0 Q os ks ((mk N ρ).put (some d) v) w1
  rw [mk_put]
  exact ⟨hE,hL⟩
theorem lw_callq {d:Nat} {x:Operand} {xs:Array Operand} {ats:Array TypeId} {ty:TypeId} {pos:String} {aft:Array Edge} {g:Option (Nat × Bool)} (f:FuncId) (first cap:List Value) (args:List Value)
    (hx:evF N ρ x = .func (.func f) first.toArray cap.toArray) (hxs:first++(xs.toList.map (evF N ρ))++cap = args) (hf:((P.funcs[f]?).map fun fn=>(fn.name != "runtime.NumGoroutine") && fn.body.isSome) = some true)
    (hu:Up ops N ρ ⟨some d,.call ⟨.value x,xs,ats⟩,ty,pos,aft,g⟩) (v:Value) (hc:∀ w',Calls P f args.toArray w' (fun e w''=>e = .returned v∧w'' = w'))
    (h:LW P ops w0 Q os ks (mk N (upd ρ d v)) w) :
    LW P ops w0 Q (⟨some d,.call ⟨.value x,xs,ats⟩,ty,pos,aft,g⟩ :: os) (0 :: ks) (mk N ρ) w:=by
  simp only [LW]
  rw [if_pos hu]
  unfold OneOp
  rw [if_pos (by decide)]
  have hrun:∀ w,(execOp (evF N ρ) ⟨some d,.call ⟨.value x,xs,ats⟩,ty,pos,aft,g⟩).run P w = .ok (.enter f args.toArray) w:=by
    intro w
    obtain ⟨fn,hfn,hb⟩:=Option.map_eq_some_iff.1 hf
    simp only [Bool.and_eq_true,bne_iff_ne,ne_eq] at hb
    have hargs:first.toArray++xs.map (evF N ρ)++cap.toArray = args.toArray:=by
      rw [← hxs]; apply Array.ext'; simp
    obtain ⟨c,hbc⟩:=Option.isSome_iff_exists.1 hb.2
    have hcf:(callFunc f args.toArray).run P w = .ok (.enter f args.toArray) w:=by
      simp [callFunc,hfn,hb.1,hbc]
    simp [execOp,resolve,hargs,hx,Deferred.ofValue,invoke,hcf]
  refine ⟨v,fun w' _=>.inr (.inr ⟨f,args.toArray,?_,hc w'⟩),?_⟩
  · rw [mk_eval]; exact hrun w'
  · show LW P ops w0 Q os ks ((mk N ρ).put (some d) v) w
    rw [mk_put]; exact h
end ops
def it {σ:Type} (f:Nat→σ→σ):Nat→σ→σ
  | 0,s=>s
  | k + 1,s=>f k (it f k s)
end Go.Proofs.YtlbefjfhfodnlaaDoor
namespace Go.Proofs.YtlbefjfhfodnlaaDoor
open Go Go.RowKit
theorem w64 {x:Int} (h:-9223372036854775808≤x) (h':x≤9223372036854775807):IntKind.i64.wrap x = x:=IntWalk.i64_in x ⟨h,h'⟩
theorem w64n {x:Int} {n:Nat} (h:x = (n:Int)) (h':x≤9223372036854775807):IntKind.i64.wrap x = (n:Int):=by rw [w64 (by omega) h',h]
def TI (P:Program) (e:TypeId) (s:Nat) (z:Value) (b:Nat):Prop:=(P.info? e).map (fun i=>(i.zero,i.size,i.bytes)) = some (some z,s,b)
theorem TI.get {P:Program} {e:TypeId} {s:Nat} {z:Value} {b:Nat} (h:TI P e s z b):∃ i,P.info? e = some i∧i.zero = some z∧i.size = s∧i.bytes = b:=by
  obtain ⟨i,hi,hh⟩:=Option.map_eq_some_iff.1 h
  simp only [Prod.mk.injEq] at hh
  exact ⟨i,hi,hh⟩
def isSl (v:Value) (n:Nat):Prop:=∃ a c,v = .slice a n c∧(a = none→n = 0)
def eptr (v:Value) (i s:Nat):Value :=
  match v with
  | .slice (some a) _ _=>.pointer (some (a.add (i * s)))
  | _=>undef
def cellH (H:Array Obj) (g o:Nat):Option Value :=
  match H[g]? with
  | some (.cells c _ _)=>c[o]?
  | _=>none
theorem cell_cellH (w:World) (g o:Nat):w.cell? ⟨g,o,none⟩ = cellH w.heap g o:=by
  unfold World.cell? cellH
  cases w.heap[g]? with
  | none=>rfl
  | some o=>cases o <;> rfl
def ldH (H:Array Obj) (p:Value):Option Value :=
  match p with
  | .pointer (some ⟨g,o,none⟩)=>cellH H g o
  | _=>none
theorem Ext.heap {w w':World} (h:Ext w w') {k:Nat} (hk:k < w.heap.size):w'.heap[k]? = w.heap[k]?:=Below.block h k hk
theorem cellH_lt {H:Array Obj} {g o:Nat} {v:Value} (h:cellH H g o = some v):g < H.size:=by
  unfold cellH at h
  rcases Nat.lt_or_ge g H.size with hh | hh
  · exact hh
  · simp [Array.getElem?_eq_none hh] at h
theorem cellH_ext {w w':World} (h:Ext w w') {g o:Nat} {v:Value} (hc:cellH w.heap g o = some v):cellH w'.heap g o = some v:=by
  have:=h.heap (cellH_lt hc)
  unfold cellH at *
  rw [this]; exact hc
theorem ldH_ext {w w':World} (h:Ext w w') {p v:Value} (hc:ldH w.heap p = some v):ldH w'.heap p = some v:=by
  unfold ldH at *
  split at hc
  · exact cellH_ext h hc
  · cases hc
def oneTy (P:Program) (t:TypeId):Prop:=((P.underlying t).map fun d=>match d with | .struct _=>false | .array _ _=>false | _=>true) = some true
theorem run_load1 {P:Program} {t:TypeId} (ht:oneTy P t) {p v:Value} {w:World} (h:ldH w.heap p = some v):(Instr.loadAt t p).run P w = .ok v w:=by
  unfold ldH at h
  split at h
  · rename_i g o
    rw [← cell_cellH] at h
    obtain ⟨d,hd,hh⟩:=Option.map_eq_some_iff.1 ht
    have hag:(isAgg t).run P w = .ok false w:=by
      unfold isAgg
      simp only [Sem.run_bind,run_underlying hd,Result.andThen_ok]
      cases d <;> first | rfl | simp at hh
    simp [Instr.loadAt,Instr.sureAddr,loadVar,hag,h]
  · cases h
section ops
variable {P:Program} {ops:Array Oper} {w0:World} {Q:Act→World→Prop} {os:List Oper} {ks:List Nat} {N:Nat} {ρ:Nat→Value} {w:World}
  {d:Nat} {ty:TypeId} {pos:String} {aft:Array Edge} {g:Option (Nat × Bool)}
section bin
variable {xt yt:TypeId} {x y:Operand} {k:IntKind} {a b:Int}
theorem run_eqg {op:BinOp} {w:World}:(eqGuard op xt x y (.int k a) (.int k b)).run P w = .ok () w:=by
  unfold eqGuard
  cases op <;> rfl
theorem q_add (c:Int) (hx:evF N ρ x = .int k a) (hy:evF N ρ y = .int k b) (hc:k.wrap (a + b) = c) (hu:Up ops N ρ ⟨some d,.binOp .add xt x y yt,ty,pos,aft,g⟩)
    (h:LW P ops w0 Q os ks (mk N (upd ρ d (.int k c))) w):LW P ops w0 Q (⟨some d,.binOp .add xt x y yt,ty,pos,aft,g⟩ :: os) (0 :: ks) (mk N ρ) w :=
  lw_q (by decide) rfl hu _ (fun w' _=>by simp [execOp,hx,hy,run_eqg,binOp,Op.intArith,hc]) h
theorem q_sub (c:Int) (hx:evF N ρ x = .int k a) (hy:evF N ρ y = .int k b) (hc:k.wrap (a - b) = c) (hu:Up ops N ρ ⟨some d,.binOp .sub xt x y yt,ty,pos,aft,g⟩)
    (h:LW P ops w0 Q os ks (mk N (upd ρ d (.int k c))) w):LW P ops w0 Q (⟨some d,.binOp .sub xt x y yt,ty,pos,aft,g⟩ :: os) (0 :: ks) (mk N ρ) w :=
  lw_q (by decide) rfl hu _ (fun w' _=>by simp [execOp,hx,hy,run_eqg,binOp,Op.intArith,hc]) h
theorem q_mul (c:Int) (hx:evF N ρ x = .int k a) (hy:evF N ρ y = .int k b) (hc:k.wrap (a * b) = c) (hu:Up ops N ρ ⟨some d,.binOp .mul xt x y yt,ty,pos,aft,g⟩)
    (h:LW P ops w0 Q os ks (mk N (upd ρ d (.int k c))) w):LW P ops w0 Q (⟨some d,.binOp .mul xt x y yt,ty,pos,aft,g⟩ :: os) (0 :: ks) (mk N ρ) w :=
  lw_q (by decide) rfl hu _ (fun w' _=>by simp [execOp,hx,hy,run_eqg,binOp,Op.intArith,hc]) h
theorem q_rem (c:Int) (hx:evF N ρ x = .int k a) (hy:evF N ρ y = .int k b) (hb:b≠0) (hc:a.tmod b = c) (hu:Up ops N ρ ⟨some d,.binOp .rem xt x y yt,ty,pos,aft,g⟩)
    (h:LW P ops w0 Q os ks (mk N (upd ρ d (.int k c))) w):LW P ops w0 Q (⟨some d,.binOp .rem xt x y yt,ty,pos,aft,g⟩ :: os) (0 :: ks) (mk N ρ) w :=
  lw_q (by decide) rfl hu _ (fun w' _=>by simp [execOp,hx,hy,run_eqg,binOp,Op.intDiv,hb,hc]) h
theorem q_quo (c:Int) (hx:evF N ρ x = .int k a) (hy:evF N ρ y = .int k b) (hb:b≠0) (hc:k.wrap (a.tdiv b) = c) (hu:Up ops N ρ ⟨some d,.binOp .quo xt x y yt,ty,pos,aft,g⟩)
    (h:LW P ops w0 Q os ks (mk N (upd ρ d (.int k c))) w):LW P ops w0 Q (⟨some d,.binOp .quo xt x y yt,ty,pos,aft,g⟩ :: os) (0 :: ks) (mk N ρ) w :=
  lw_q (by decide) rfl hu _ (fun w' _=>by simp [execOp,hx,hy,run_eqg,binOp,Op.intDiv,hb,hc]) h
theorem q_lss (c:Bool) (hx:evF N ρ x = .int k a) (hy:evF N ρ y = .int k b) (hc:decide (a < b) = c) (hu:Up ops N ρ ⟨some d,.binOp .lss xt x y yt,ty,pos,aft,g⟩)
    (h:LW P ops w0 Q os ks (mk N (upd ρ d (.bool c))) w):LW P ops w0 Q (⟨some d,.binOp .lss xt x y yt,ty,pos,aft,g⟩ :: os) (0 :: ks) (mk N ρ) w :=
  lw_q (by decide) rfl hu _ (fun w' _=>by simp [execOp,hx,hy,run_eqg,binOp,Op.intCmp,← hc]) h
theorem q_leq (c:Bool) (hx:evF N ρ x = .int k a) (hy:evF N ρ y = .int k b) (hc:decide (a≤b) = c) (hu:Up ops N ρ ⟨some d,.binOp .leq xt x y yt,ty,pos,aft,g⟩)
    (h:LW P ops w0 Q os ks (mk N (upd ρ d (.bool c))) w):LW P ops w0 Q (⟨some d,.binOp .leq xt x y yt,ty,pos,aft,g⟩ :: os) (0 :: ks) (mk N ρ) w :=
  lw_q (by decide) rfl hu _ (fun w' _=>by simp [execOp,hx,hy,run_eqg,binOp,Op.intCmp,← hc]) h
theorem q_gtr (c:Bool) (hx:evF N ρ x = .int k a) (hy:evF N ρ y = .int k b) (hc:decide (b < a) = c) (hu:Up ops N ρ ⟨some d,.binOp .gtr xt x y yt,ty,pos,aft,g⟩)
    (h:LW P ops w0 Q os ks (mk N (upd ρ d (.bool c))) w):LW P ops w0 Q (⟨some d,.binOp .gtr xt x y yt,ty,pos,aft,g⟩ :: os) (0 :: ks) (mk N ρ) w :=
  lw_q (by decide) rfl hu _ (fun w' _=>by simp [execOp,hx,hy,run_eqg,binOp,Op.intCmp,← hc]) h
theorem q_geq (c:Bool) (hx:evF N ρ x = .int k a) (hy:evF N ρ y = .int k b) (hc:decide (b≤a) = c) (hu:Up ops N ρ ⟨some d,.binOp .geq xt x y yt,ty,pos,aft,g⟩)
    (h:LW P ops w0 Q os ks (mk N (upd ρ d (.bool c))) w):LW P ops w0 Q (⟨some d,.binOp .geq xt x y yt,ty,pos,aft,g⟩ :: os) (0 :: ks) (mk N ρ) w :=
  lw_q (by decide) rfl hu _ (fun w' _=>by simp [execOp,hx,hy,run_eqg,binOp,Op.intCmp,← hc]) h
theorem q_eql (c:Bool) (hx:evF N ρ x = .int k a) (hy:evF N ρ y = .int k b) (hc:decide (a = b) = c) (hu:Up ops N ρ ⟨some d,.binOp .eql xt x y yt,ty,pos,aft,g⟩)
    (h:LW P ops w0 Q os ks (mk N (upd ρ d (.bool c))) w):LW P ops w0 Q (⟨some d,.binOp .eql xt x y yt,ty,pos,aft,g⟩ :: os) (0 :: ks) (mk N ρ) w :=
  lw_q (by decide) rfl hu _ (fun w' _=>by
    have:(a == b) = c:=by rw [← hc]; rfl
    simp [execOp,hx,hy,run_eqg,binOp,Op.intCmp,this]) h
theorem q_neq (c:Bool) (hx:evF N ρ x = .int k a) (hy:evF N ρ y = .int k b) (hc:decide (a≠b) = c) (hu:Up ops N ρ ⟨some d,.binOp .neq xt x y yt,ty,pos,aft,g⟩)
    (h:LW P ops w0 Q os ks (mk N (upd ρ d (.bool c))) w):LW P ops w0 Q (⟨some d,.binOp .neq xt x y yt,ty,pos,aft,g⟩ :: os) (0 :: ks) (mk N ρ) w :=
  lw_q (by decide) rfl hu _ (fun w' _=>by
    have:(a != b) = c:=by rw [← hc]; simp [bne,BEq.beq]
    simp [execOp,hx,hy,run_eqg,binOp,Op.intCmp,this]) h
end bin
theorem q_not {xt:TypeId} {x:Operand} {a:Bool} (c:Bool) (hx:evF N ρ x = .bool a) (hc:(!a) = c) (hu:Up ops N ρ ⟨some d,.unOp .not xt x,ty,pos,aft,g⟩)
    (h:LW P ops w0 Q os ks (mk N (upd ρ d (.bool c))) w):LW P ops w0 Q (⟨some d,.unOp .not xt x,ty,pos,aft,g⟩ :: os) (0 :: ks) (mk N ρ) w :=
  lw_q (by decide) rfl hu _ (fun w' _=>by simp [execOp,hx,Op.unary,← hc]) h
theorem q_len {t e:TypeId} {x:Operand} {v:Value} {n:Nat} (ht:P.underlying t = some (.slice e)) (hx:evF N ρ x = v) (hs:isSl v n) (hu:Up ops N ρ ⟨some d,.call ⟨.builtin .len,#[x],#[t]⟩,ty,pos,aft,g⟩)
    (h:LW P ops w0 Q os ks (mk N (upd ρ d (.int .i64 (n:Int)))) w):LW P ops w0 Q (⟨some d,.call ⟨.builtin .len,#[x],#[t]⟩,ty,pos,aft,g⟩ :: os) (0 :: ks) (mk N ρ) w :=
  lw_q (by decide) rfl hu _ (fun w' _=>by
    obtain ⟨a,c,rfl,_⟩:=hs
    simp [execOp,resolve,invoke,builtin,hx,Builtin.len_,run_underlying ht,goInt]) h
theorem q_lens {t:TypeId} {x:Operand} {s:ByteArray} (ht:P.underlying t = some .string) (hx:evF N ρ x = .string s) (hu:Up ops N ρ ⟨some d,.call ⟨.builtin .len,#[x],#[t]⟩,ty,pos,aft,g⟩)
    (h:LW P ops w0 Q os ks (mk N (upd ρ d (.int .i64 (s.size:Int)))) w):LW P ops w0 Q (⟨some d,.call ⟨.builtin .len,#[x],#[t]⟩,ty,pos,aft,g⟩ :: os) (0 :: ks) (mk N ρ) w :=
  lw_q (by decide) rfl hu _ (fun w' _=>by
    simp [execOp,resolve,invoke,builtin,hx,Builtin.len_,run_underlying ht,goInt]) h
theorem q_idx {t e:TypeId} {x y:Operand} {v:Value} {n s:Nat} {k:IntKind} {i:Int} (j:Nat) (ht:P.underlying t = some (.slice e)) {z:Value} {b:Nat} (hi:TI P e s z b) (hx:evF N ρ x = v) (hy:evF N ρ y = .int k i)
    (hs:isSl v n) (hj:i = (j:Int)) (hlt:j < n) (hu:Up ops N ρ ⟨some d,.indexAddr t x y,ty,pos,aft,g⟩)
    (h:LW P ops w0 Q os ks (mk N (upd ρ d (eptr v j s))) w):LW P ops w0 Q (⟨some d,.indexAddr t x y,ty,pos,aft,g⟩ :: os) (0 :: ks) (mk N ρ) w :=
  lw_q (by decide) rfl hu _ (fun w' _=>by
    obtain ⟨a,c,rfl,ha⟩:=hs
    obtain ⟨inf,h1,_,h3,_⟩:=hi.get
    subst hj
    cases a with
    | none=>have:=ha rfl; omega
    | some a =>
      have hlt':(j:Int) < (n:Int):=by omega
      simp [execOp,hx,hy,Instr.indexAt,asIntOf,run_underlying ht,sizeOf,typeInfo,h1,h3,eptr,hlt]) h
theorem q_load {k:Nat} (hk:k = 1∨k = 2) {t:TypeId} {x:Operand} {p:Value} (u:Value) (ht:oneTy P t) (hx:evF N ρ x = p) (hc:ldH (if k = 1 then w0.heap else w.heap) p = some u) (hu:Up ops N ρ ⟨some d,.load t x,ty,pos,aft,g⟩)
    (h:LW P ops w0 Q os ks (mk N (upd ρ d u)) w):LW P ops w0 Q (⟨some d,.load t x,ty,pos,aft,g⟩ :: os) (k :: ks) (mk N ρ) w :=
  lw_q (by omega) rfl hu _ (fun w' hcl=>by
    have hl:ldH w'.heap p = some u:=by
      rcases hk with rfl | rfl
      · exact ldH_ext (w:=w0) hcl hc
      · exact ldH_ext (w:=w) hcl hc
    simp [execOp,hx,run_load1 ht hl]) h
theorem q_extract {x:Operand} {vs:List Value} {i:Nat} (v:Value) (hx:evF N ρ x = .tuple vs.toArray) (hv:vs[i]? = some v) (hu:Up ops N ρ ⟨some d,.extract x i,ty,pos,aft,g⟩)
    (h:LW P ops w0 Q os ks (mk N (upd ρ d v)) w):LW P ops w0 Q (⟨some d,.extract x i,ty,pos,aft,g⟩ :: os) (0 :: ks) (mk N ρ) w :=
  lw_q (by decide) rfl hu _ (fun w' _=>by simp [execOp,hx,Instr.extract,hv]) h
theorem q_conv {st dt:TypeId} {x:Operand} {k k':IntKind} {a:Int} (c:Int) {sd:TypeDesc} (hst:P.underlying st = some sd) (hdt:P.underlying dt = some (.int k')) (hx:evF N ρ x = .int k a) (hc:k'.wrap a = c) (hu:Up ops N ρ ⟨some d,.convert st dt x,ty,pos,aft,g⟩)
    (h:LW P ops w0 Q os ks (mk N (upd ρ d (.int k' c))) w):LW P ops w0 Q (⟨some d,.convert st dt x,ty,pos,aft,g⟩ :: os) (0 :: ks) (mk N ρ) w :=
  lw_q (by decide) rfl hu _ (fun w' _=>by
    simp [execOp,hx,convert,run_underlying hst,run_underlying hdt,Conv.intToInt,hc]) h
end ops
end Go.Proofs.YtlbefjfhfodnlaaDoor
namespace Go.Proofs.YtlbefjfhfodnlaaDoor
open Go Go.RowKit
abbrev Stand (α:Type):=Array Obj→Value→α→List Nat→Prop
structure Good {α:Type} (E:Stand α):Prop where
  cells:∀ {H v x F},E H v x F→v.cells = #[v]
  one:∀ {H v x F},E H v x F→v.oneCell' = true
  lt:∀ {H v x F},E H v x F→∀ b∈F,b < H.size
  stable:∀ {H H' v x F},E H v x F→(∀ b∈F,H'[b]? = H[b]?)→E H' v x F
def els {α:Type} (E:Stand α) (H:Array Obj):List Value→List α→List Nat→Prop
  | [],[],F=>F = []
  | u :: us,x :: xs,F=>∃ F1 F2,F = F1++F2∧E H u x F1∧els E H us xs F2
  | _,_,_=>False
section els
variable {α:Type} {E:Stand α} {H H':Array Obj}
theorem els.length:∀ {us:List Value} {xs:List α} {F:List Nat},els E H us xs F→us.length = xs.length
  | [],[],_,_=>rfl
  | _ :: _,_ :: _,_,⟨_,_,_,_,h⟩=>by simp [els.length h]
  | [],_ :: _,_,h=>h.elim
  | _ :: _,[],_,h=>h.elim
theorem els.stable (hE:Good E):∀ {us:List Value} {xs:List α} {F:List Nat},els E H us xs F→(∀ b∈F,H'[b]? = H[b]?)→els E H' us xs F
  | [],[],_,h,_=>h
  | _ :: _,_ :: _,_,⟨F1,F2,rfl,h1,h2⟩,hb =>
    ⟨F1,F2,rfl,hE.stable h1 fun b hh=>hb b (List.mem_append_left _ hh),els.stable hE h2 fun b hh=>hb b (List.mem_append_right _ hh)⟩
  | [],_ :: _,_,h,_=>h.elim
  | _ :: _,[],_,h,_=>h.elim
theorem els.lt (hE:Good E):∀ {us:List Value} {xs:List α} {F:List Nat},els E H us xs F→∀ b∈F,b < H.size
  | [],[],_,h,b,hb=>by rw [show _ = [] from h] at hb; cases hb
  | _ :: _,_ :: _,_,⟨F1,F2,rfl,h1,h2⟩,b,hb=>(List.mem_append.1 hb).elim (hE.lt h1 b) (els.lt hE h2 b)
  | [],_ :: _,_,h,_,_=>h.elim
  | _ :: _,[],_,h,_,_=>h.elim
theorem els.get:∀ {us:List Value} {xs:List α} {F:List Nat} {k:Nat} (d:α),els E H us xs F→k < xs.length →
    ∃ u F1,us[k]? = some u∧E H u (xs.getD k d) F1∧∀ b∈F1,b∈F
  | u :: us,x :: xs,_,0,d,⟨F1,F2,rfl,h1,h2⟩,_=>⟨u,F1,rfl,h1,fun b hb=>List.mem_append_left _ hb⟩
  | u :: us,x :: xs,_,k + 1,d,⟨F1,F2,rfl,h1,h2⟩,hk=>by
    obtain ⟨u',G,hu,hx,hb⟩:=els.get d h2 (by simpa using hk)
    exact ⟨u',G,by simpa using hu,by simpa using hx,fun b hh=>List.mem_append_right _ (hb b hh)⟩
  | [],[],_,_,_,_,hk=>by simp at hk
  | [],_ :: _,_,_,_,h,_=>h.elim
theorem els.append:∀ {us vs:List Value} {xs ys:List α} {F G:List Nat},els E H us xs F→els E H vs ys G→els E H (us++vs) (xs++ys) (F++G)
  | [],_,[],_,_,_,h,k=>by rw [show _ = [] from h]; exact k
  | _ :: _,_,_ :: _,_,_,_,⟨F1,F2,rfl,h1,h2⟩,k=>⟨F1,_,by rw [List.append_assoc],h1,els.append h2 k⟩
  | [],_,_ :: _,_,_,_,h,_=>h.elim
  | _ :: _,_,[],_,_,_,h,_=>h.elim
theorem els.imp {E':Stand α} (h:∀ {H v x F},E H v x F→E' H v x F):∀ {us:List Value} {xs:List α} {F:List Nat},els E H us xs F→els E' H us xs F
  | [],[],_,hh=>hh
  | _ :: _,_ :: _,_,⟨F1,F2,e,h1,h2⟩=>⟨F1,F2,e,h h1,els.imp h h2⟩
  | [],_ :: _,_,hh=>hh.elim
  | _ :: _,[],_,hh=>hh.elim
theorem els.one (hE:Good E):∀ {us:List Value} {xs:List α} {F:List Nat},els E H us xs F→∀ u∈us,u.oneCell' = true
  | [],[],_,_,u,hu=>by cases hu
  | _ :: _,_ :: _,_,⟨F1,F2,rfl,h1,h2⟩,v,hv=>(List.mem_cons.1 hv).elim (fun e=>e ▸ hE.one h1) (els.one hE h2 v)
  | [],_ :: _,_,h,_,_=>h.elim
  | _ :: _,[],_,h,_,_=>h.elim
end els
def rI:Stand Int:=fun _ v x F=>v = .int .i64 x∧F = []∧-9223372036854775808≤x∧x≤9223372036854775807
theorem good_rI:Good rI:=⟨fun h=>by rw [h.1]; rfl,fun h=>by rw [h.1]; rfl,fun h b hb=>(by rw [h.2.1] at hb; cases hb),fun h _=>h⟩
def rdL {α:Type} (E:Stand α):Stand (List α):=fun H v xs F =>
  (∃ a cap,v = .slice a 0 cap∧xs = []∧F = []) ∨
  ∃ us g off cap cur e fr F',els E H us xs F'∧v = .slice (some ⟨g,off,none⟩) xs.length cap∧H[g]? = some (.cells cur e fr)∧(cur.toList.drop off).take xs.length = us∧xs.length≤maxLen∧F = g :: F'
def owL {α:Type} (E:Stand α) (e:TypeId):Stand (List α):=fun H v xs F =>
  (v = .slice none 0 0∧xs = []∧F = []) ∨
  ∃ us g cap cur F',els E H us xs F'∧v = .slice (some ⟨g,0,none⟩) xs.length cap∧H[g]? = some (.cells cur e (0,0))∧xs.length≤cap∧cap≤maxLen∧cur.size = cap∧cur.toList.take xs.length = us∧F = g :: F'
theorem getElem?_lt {H:Array Obj} {g:Nat} {o:Obj} (h:H[g]? = some o):g < H.size:=(Array.getElem?_eq_some_iff.1 h).1
section lists
variable {α:Type} {E:Stand α} {e:TypeId} {H:Array Obj} {v:Value} {xs:List α} {F:List Nat}
theorem good_rdL (hE:Good E):Good (rdL E) where
  cells:=by
    rintro H v xs F (⟨a,cap,rfl,_⟩ | ⟨us,g,off,cap,cur,e,fr,F',_,rfl,_⟩) <;> rfl
  one:=by
    rintro H v xs F (⟨a,cap,rfl,_⟩ | ⟨us,g,off,cap,cur,e,fr,F',_,rfl,_⟩) <;> rfl
  lt:=by
    rintro H v xs F (⟨a,cap,rfl,_,rfl⟩ | ⟨us,g,off,cap,cur,e,fr,F',h,rfl,hg,_,_,rfl⟩) b hb
    · cases hb
    · rcases List.mem_cons.1 hb with rfl | hb
      · exact getElem?_lt hg
      · exact h.lt hE b hb
  stable:=by
    rintro H H' v xs F (⟨a,cap,rfl,h1,h2⟩ | ⟨us,g,off,cap,cur,e,fr,F',h,rfl,hg,hw,hml,rfl⟩) hb
    · exact .inl ⟨a,cap,rfl,h1,h2⟩
    · exact .inr ⟨us,g,off,cap,cur,e,fr,F',h.stable hE fun b hh=>hb b (List.mem_cons_of_mem _ hh),rfl,by rw [hb g (List.mem_cons_self ..)]; exact hg,hw,hml,rfl⟩
theorem good_owL (hE:Good E):Good (owL E e) where
  cells:=by
    rintro H v xs F (⟨rfl,_⟩ | ⟨us,g,cap,cur,F',_,rfl,_⟩) <;> rfl
  one:=by
    rintro H v xs F (⟨rfl,_⟩ | ⟨us,g,cap,cur,F',_,rfl,_⟩) <;> rfl
  lt:=by
    rintro H v xs F (⟨rfl,_,rfl⟩ | ⟨us,g,cap,cur,F',h,rfl,hg,_,_,_,_,rfl⟩) b hb
    · cases hb
    · rcases List.mem_cons.1 hb with rfl | hb
      · exact getElem?_lt hg
      · exact h.lt hE b hb
  stable:=by
    rintro H H' v xs F (⟨rfl,h1,h2⟩ | ⟨us,g,cap,cur,F',h,rfl,hg,r1,r2,r3,r4,rfl⟩) hb
    · exact .inl ⟨rfl,h1,h2⟩
    · exact .inr ⟨us,g,cap,cur,F',h.stable hE fun b hh=>hb b (List.mem_cons_of_mem _ hh),rfl,by rw [hb g (List.mem_cons_self ..)]; exact hg,r1,r2,r3,r4,rfl⟩
theorem owL.rd {E':Stand α} (hi:∀ {H v x F},E H v x F→E' H v x F) (h:owL E e H v xs F):rdL E' H v xs F:=by
  rcases h with ⟨rfl,rfl,rfl⟩ | ⟨us,g,cap,cur,F',h,rfl,hg,r1,r2,r3,r4,rfl⟩
  · exact .inl ⟨none,0,rfl,rfl,rfl⟩
  · exact .inr ⟨us,g,0,cap,cur,e,(0,0),F',h.imp hi,rfl,hg,by simpa using r4,by omega,rfl⟩
theorem rdL.isSl (h:rdL E H v xs F):isSl v xs.length:=by
  rcases h with ⟨a,cap,rfl,rfl,_⟩ | ⟨us,g,off,cap,cur,e,fr,F',_,rfl,_⟩
  · exact ⟨a,cap,rfl,fun _=>rfl⟩
  · exact ⟨_,cap,rfl,fun h=>by cases h⟩
theorem eptr_mk (g off n cap k:Nat):eptr (.slice (some ⟨g,off,none⟩) n cap) k 1 = .pointer (some ⟨g,off + k,none⟩):=by
  unfold eptr Addr.add
  simp only [Nat.mul_one]
  split
  · rename_i h; subst h; rfl
  · rfl
theorem rdL.get (d:α) {k:Nat} (h:rdL E H v xs F) (hk:k < xs.length):∃ u F1,ldH H (eptr v k 1) = some u∧E H u (xs.getD k d) F1∧∀ b∈F1,b∈F:=by
  rcases h with ⟨a,cap,rfl,rfl,_⟩ | ⟨us,g,off,cap,cur,e,fr,F',h,rfl,hg,hw,_,rfl⟩
  · simp at hk
  · obtain ⟨u,F1,hu,hx,hb⟩:=h.get d hk
    refine ⟨u,F1,?_,hx,fun b hh=>List.mem_cons_of_mem _ (hb b hh)⟩
    rw [eptr_mk]
    simp only [ldH,cellH,hg]
    rw [← hw,List.getElem?_take,if_pos hk,List.getElem?_drop] at hu
    simpa using hu
end lists
structure Chg (F:List Nat) (w w':World):Prop where
  os:w'.os = w.os
  tape:w'.tape = w.tape
  output:w'.output = w.output
  size:w.heap.size≤w'.heap.size
  block:∀ k,k < w.heap.size→k∉F→w'.heap[k]? = w.heap[k]?
theorem Chg.below {F:List Nat} {w0 w w':World} {B:Nat} (h:Below B w0 w) (c:Chg F w w') (hF:∀ b∈F,B≤b) (hB:B≤w.heap.size):Below B w0 w' :=
  h.trans ⟨c.os,c.tape,c.output,c.size,fun k hk=>c.block k (by omega) fun hm=>by have:=hF k hm; omega⟩
theorem Ext.drew {w w':World} (h:Ext w w'):Ext w w'.drew:=⟨h.os,h.tape,h.output,h.size,h.block⟩
theorem Ext.of_drew {w w':World} (h:Ext w.drew w'):Ext w w':=⟨h.os,h.tape,h.output,h.size,h.block⟩
def Fr {α:Type} (E:Stand α) (B U:Nat) (H:Array Obj) (v:Value) (x:α):Prop:=∃ F,E H v x F∧F.Nodup∧∀ b∈F,B≤b∧b < U
def Rd {α:Type} (E:Stand α) (H:Array Obj) (v:Value) (x:α):Prop:=∃ F,E H v x F
section
variable {α:Type} {E:Stand α} {B U:Nat} {v:Value} {x:α} {w w':World}
theorem Fr.ext (hE:Good E) (h:Fr E B U w.heap v x) (k:Ext w w'):Fr E B U w'.heap v x:=by
  obtain ⟨F,h1,h2,h3⟩:=h
  exact ⟨F,hE.stable h1 fun b hb=>k.heap (hE.lt h1 b hb),h2,h3⟩
theorem Fr.up (hE:Good E) {H:Array Obj} (h:Fr E B U H v x):Fr E B H.size H v x:=by
  obtain ⟨F,h1,h2,h3⟩:=h
  exact ⟨F,h1,h2,fun b hb=>⟨(h3 b hb).1,hE.lt h1 b hb⟩⟩
theorem Fr.low {H:Array Obj} {B':Nat} (h:Fr E B U H v x) (hB:B'≤B):Fr E B' U H v x:=by
  obtain ⟨F,h1,h2,h3⟩:=h
  exact ⟨F,h1,h2,fun b hb=>⟨Nat.le_trans hB (h3 b hb).1,(h3 b hb).2⟩⟩
theorem Fr.chg (hE:Good E) {F:List Nat} (h:Fr E B U w.heap v x) (c:Chg F w w') (hF:∀ b∈F,b < B∨U≤b):Fr E B U w'.heap v x:=by
  obtain ⟨G,h1,h2,h3⟩:=h
  refine ⟨G,hE.stable h1 fun b hb=>c.block b (hE.lt h1 b hb) fun hm=>?_,h2,h3⟩
  have:=h3 b hb
  have:=hF b hm
  omega
end
section
variable {α:Type} {E:Stand α} {e:TypeId} {B U:Nat} {H:Array Obj} {v:Value} {xs:List α}
theorem Rd.get (d:α) {k:Nat} (h:Rd (rdL E) H v xs) (hk:k < xs.length):∃ u,ldH H (eptr v k 1) = some u∧Rd E H u (xs.getD k d):=by
  obtain ⟨F,h⟩:=h
  obtain ⟨u,F1,h1,h2,_⟩:=rdL.get d h hk
  exact ⟨u,h1,F1,h2⟩
theorem Fr.rd {E':Stand α} (hi:∀ {H v x F},E H v x F→E' H v x F) (h:Fr (owL E e) B U H v xs):Rd (rdL E') H v xs:=by
  obtain ⟨F,h,_⟩:=h
  exact ⟨F,h.rd hi⟩
theorem Fr.isSl (h:Fr (owL E e) B U H v xs):isSl v xs.length:=by obtain ⟨F,h,_⟩:=h; exact (h.rd id:rdL E H v xs F).isSl
end
theorem ret_int {a b:Int} (h:a = b):Ending.returned (.int .i64 a) = .returned (.int .i64 b):=by rw [h]
theorem ret_bool {a b:Bool} (h:a = b):Ending.returned (.bool a) = .returned (.bool b):=by rw [h]
theorem g1:Good (rdL rI):=good_rdL good_rI
theorem g2:Good (rdL (rdL rI)):=good_rdL g1
theorem g3:Good (rdL (rdL (rdL rI))):=good_rdL g2
end Go.Proofs.YtlbefjfhfodnlaaDoor
namespace Go.Proofs.YtlbefjfhfodnlaaDoor
open Go Go.RowKit
theorem ext_alloc (w:World) (o:Obj):Ext w (w.alloc o):=(Below.refl _ _).alloc (Nat.le_refl _) o
theorem owL_new {α:Type} {E:Stand α} (hE:Good E) {e:TypeId} {w:World} {us:List Value} {xs:List α} {F:List Nat} {cur:Array Value} (h:els E w.heap us xs F) (hm:cur.size≤maxLen)
    (hc:cur.toList.take xs.length = us) (hl:xs.length≤cur.size) :
    owL E e (w.alloc (.cells cur e)).heap (.slice (some ⟨w.heap.size,0,none⟩) xs.length cur.size) xs (w.heap.size :: F):=by
  refine .inr ⟨us,w.heap.size,cur.size,cur,F,h.stable hE fun b hb=>?_,rfl,?_,hl,hm,rfl,hc,rfl⟩
  · exact Below.heap_alloc _ _ _ (h.lt hE b hb)
  · show (w.heap.push _)[w.heap.size]? = _
    simp
theorem mapRange {f:Nat→Value} (n:Nat):Array.map f (Array.range n) = ((List.range n).map f).toArray:=by
  apply Array.ext'; simp
section run
variable {P:Program} {w:World}
theorem run_bs0 {t e:TypeId} {s b:Nat} {z:Value} (ht:P.underlying t = some (.slice e)) (hi:TI P e s z b) :
    (Instr.buildSlice t 0 #[]).run P w = .ok (.slice (some ⟨w.heap.size,0,none⟩) 0 0) (w.alloc (.cells #[] e)):=by
  obtain ⟨i,h1,h2,h3,h4⟩:=hi.get
  simp [Instr.buildSlice,run_underlying ht,sizeOf,typeInfo,h1,Instr.fill,newRow,mapRange]
theorem run_bs1 {t e:TypeId} {b:Nat} {z u:Value} (ht:P.underlying t = some (.slice e)) (hi:TI P e 1 z b) (hu:u.cells = #[u]) (hz:z.cells = #[z]) :
    (Instr.buildSlice t 1 #[(0,u)]).run P w = .ok (.slice (some ⟨w.heap.size,0,none⟩) 1 1) (w.alloc (.cells #[u] e)):=by
  obtain ⟨i,h1,h2,h3,h4⟩:=hi.get
  simp [Instr.buildSlice,run_underlying ht,sizeOf,typeInfo,zeroValue,h1,h2,h3,Instr.fill,newRow,hu,hz,mapRange,List.range_succ]
end run
section append
variable {P:Program} {w:World} {α:Type} {E:Stand α} {t ty e:TypeId} {b:Nat} {z:Value}
theorem run_app (hE:Good E) (ht:P.underlying t = some (.slice e)) (hi:TI P e 1 z b) (hz:z.cells = #[z]) {v:Value} {xs:List α} {F:List Nat} (hv:owL E e w.heap v xs F) (hn:F.Nodup)
    {a:Value} {ys:List α} {G us:List Nat} (ha:rdL E w.heap a ys G) (hus:us = G.drop 1) (hbytes:(xs.length + ys.length) * b≤140737488355328) (hmx:xs.length + ys.length≤maxLen)
    (hdis:∀ c∈us,c∉F) (hnu:us.Nodup) :
    ∃ v' w' F',(Builtin.append_ #[t,t] ty #[v,a]).run P w = .ok v' w'∧owL E e w'.heap v' (xs++ys) F'∧F'.Nodup∧(∀ c∈F',c∈F∨c∈us∨c = w.heap.size)∧Chg (F.take 1) w w':=by
  obtain ⟨i,h1,h2,h3,h4⟩:=hi.get
  subst h4
  have hsmall:xs.length + ys.length≤9223372036854775807:=by simp only [maxLen] at hmx; omega
  rcases ha with ⟨a0,cap0,rfl,rfl,rfl⟩ | ⟨asq,g,off,cap,cur,e',fr,G',hels,rfl,hg,hw,_,rfl⟩
  · -- nothing is appended
    have hle:owL E e w.heap v xs F:=hv
    have hsl:∃ b0 c0,v = .slice b0 xs.length c0∧xs.length≤c0∧(b0 = none→xs.length = 0):=by
      rcases hv with ⟨rfl,rfl,_⟩ | ⟨_,g,cap,cur,F',_,rfl,_,hh,_⟩
      · exact ⟨none,0,rfl,by simp,fun _=>rfl⟩
      · exact ⟨_,cap,rfl,hh,fun h=>by cases h⟩
    obtain ⟨b0,c0,rfl,hc0,hb0⟩:=hsl
    refine ⟨_,w,F,?_,by simpa using hle,hn,fun c hc=>.inl hc,⟨rfl,rfl,rfl,Nat.le_refl _,fun _ _ _=>rfl⟩⟩
    have hf:(Builtin.firstCells 1 0 (.slice a0 0 cap0)).run P w = .ok #[] w:=by
      cases a0 <;> simp [Builtin.firstCells,loadCells,loadCellsFrom]
    cases b0 with
    | none=>simp [Builtin.append_,run_underlying ht,sizeOf,typeInfo,h1,h3,Builtin.lenOf,hc0,hf]
    | some a1=>simp [Builtin.append_,run_underlying ht,sizeOf,typeInfo,h1,h3,Builtin.lenOf,hc0,hf,storeCells]
  · simp only [List.drop_succ_cons,List.drop_zero] at hus
    subst hus
    have hasl:asq.length = ys.length:=hels.length
    have hnews:∀ j u,asq[j]? = some u→w.cell? ((⟨g,off,none⟩:Addr).add j) = some u:=by
      intro j u hj
      have e1:(⟨g,off,none⟩:Addr).add j = ⟨g,off + j,none⟩:=by
        unfold Addr.add
        split
        · rename_i hh; subst hh; rfl
        · rfl
      rw [e1,cell_cellH]
      simp only [cellH,hg]
      rw [← hw,List.getElem?_take] at hj
      split at hj
      · rw [List.getElem?_drop] at hj; simpa using hj
      · cases hj
    have h1c:∀ u∈asq,u.oneCell' = true:=hels.one hE
    have hl1:asq.length = ys.length * i.size:=by rw [h3,hasl]; omega
    -- the new block
    have made:∀ (w1:World) (ous:List Value) (F0:List Nat) (rest:Nat),w1.heap = w.heap→w1.os = w.os→w1.tape = w.tape→w1.output = w.output→els E w.heap ous xs F0→(∀ c∈F0,c∈F)→F0.Nodup →
        (xs.length + ys.length + rest)≤maxLen→∀ (ow:List Nat),
        ∃ F',owL E e (w1.alloc (.cells (ous.toArray++asq.toArray++Builtin.zeroCells z.cells rest) e)).heap (.slice (some ⟨w.heap.size,0,none⟩) (xs.length + ys.length) (xs.length + ys.length + rest)) (xs++ys) F'∧F'.Nodup ∧
          (∀ c∈F',c∈F∨c∈us∨c = w.heap.size)∧Chg ow w (w1.alloc (.cells (ous.toArray++asq.toArray++Builtin.zeroCells z.cells rest) e)):=by
      intro w1 ous F0 rest hh ho htp hop hou hsub hnd hmax ow
      have happ:=hou.append hels
      have hzc:(Builtin.zeroCells z.cells rest).size = rest:=by simp [Builtin.zeroCells,hz]
      have hsz:(ous.toArray++asq.toArray++Builtin.zeroCells z.cells rest).size = xs.length + ys.length + rest:=by
        simp only [Array.size_append,List.size_toArray,hzc,hasl,hou.length]
      have hnew:=owL_new (e:=e) (w:=w1) hE (us:=ous++asq) (xs:=xs++ys) (F:=F0++us) (cur:=ous.toArray++asq.toArray++Builtin.zeroCells z.cells rest)
        (by rw [hh]; exact happ) (by rw [hsz]; exact hmax) (by
          rw [Array.toList_append,Array.toList_append]
          rw [show (xs++ys).length = (ous++asq).length from by simp [hou.length,hasl]]
          exact List.take_left) (by rw [hsz,List.length_append]; omega)
      rw [hh,hsz,List.length_append] at hnew
      refine ⟨_,hnew,?_,?_,?_⟩
      · rw [List.nodup_cons]
        refine ⟨fun hm=>?_,?_⟩
        · have:=happ.lt hE _ hm; omega
        · rw [List.nodup_append]
          refine ⟨hnd,hnu,?_⟩
          rintro x hx y hy rfl
          exact hdis x hy (hsub x hx)
      · intro c hc
        rcases List.mem_cons.1 hc with rfl | hc
        · exact .inr (.inr rfl)
        · rcases List.mem_append.1 hc with hc | hc
          · exact .inl (hsub c hc)
          · exact .inr (.inl hc)
      · refine ⟨ho,htp,hop,?_,fun k hk _=>?_⟩
        · show w.heap.size≤(w1.heap.push _).size
          rw [hh]; simp
        · have:=Below.heap_alloc w1 (.cells (ous.toArray++asq.toArray++Builtin.zeroCells z.cells rest) e) k (by rw [hh]; exact hk)
          rw [this,hh]
    rcases hv with ⟨rfl,rfl,rfl⟩ | ⟨ous,gv,capv,curv,F0,hels0,rfl,hgv,hle,hcm,hcs,htk,rfl⟩
    · -- nil
      by_cases hy:ys.length = 0
      · have hy0:ys = []:=List.eq_nil_of_length_eq_zero hy
        subst hy0
        have has0:asq = []:=List.eq_nil_of_length_eq_zero hasl
        subst has0
        rw [show us = [] from hels]
        refine ⟨.slice none 0 0,w,[],?_,.inl ⟨rfl,rfl,rfl⟩,List.nodup_nil,fun c hc=>(by cases hc),⟨rfl,rfl,rfl,Nat.le_refl _,fun _ _ _=>rfl⟩⟩
        simp [Builtin.append_,run_underlying ht,sizeOf,typeInfo,h1,Builtin.lenOf,Builtin.firstCells,loadCells,loadCellsFrom]
      · have hr:=run_append_nil (P:=P) w t ty e i z ht h1 h2 ⟨g,off,none⟩ ys.length cap asq hl1 hnews (by omega) (by simp at hsmall; omega) (by simp only [List.length_nil,Nat.zero_add] at hbytes; omega)
        have hge:=grownCap_ge w ys.length 0 e
        have hgm:=grownCap_le_maxLen w ys.length 0 e (by simpa using hmx)
        obtain ⟨F',q1,q2,q3,q4⟩:=made w.drew [] [] (grownCap w ys.length 0 e - ys.length) rfl rfl rfl rfl rfl (fun c hc=>by cases hc) List.nodup_nil (by simp; omega) (List.take 1 [])
        refine ⟨_,_,F',hr,?_,q2,q3,?_⟩
        · have ea:(([]:List α).length + ys.length + (grownCap w ys.length 0 e - ys.length)) = grownCap w ys.length 0 e:=by simp; omega
          rw [ea] at q1
          simpa using q1
        · simpa using q4
    · by_cases hroom:xs.length + ys.length≤capv
      · -- room
        have hr:=run_append_room (P:=P) w t ty e i ht h1 gv xs.length capv curv hgv ⟨g,off,none⟩ ys.length cap asq hl1 hnews h1c hroom (by rw [h3,hasl,hcs]; omega)
        rw [h3] at hr
        refine ⟨_,_,gv :: (F0++us),hr,?_,?_,?_,?_⟩
        · have hgF:gv∉F0:=(List.nodup_cons.1 hn).1
          have hgU:gv∉us:=fun hm=>hdis gv hm (List.mem_cons_self ..)
          refine .inr ⟨ous++asq,gv,capv,_,F0++us,?_,by rw [List.length_append],setRow_heap w gv curv _ e _ hgv,by rw [List.length_append]; exact hroom,hcm,?_,?_,rfl⟩
          · refine (hels0.append hels).stable hE fun c hc=>setRow_other w gv c _ fun hcg=>?_
            subst hcg
            rcases List.mem_append.1 hc with hc | hc
            · exact hgF hc
            · exact hgU hc
          · simp only [List.size_toArray,List.length_append,List.length_take,List.length_drop,Array.length_toList]
            omega
          · rw [List.length_append]
            simp only [Nat.mul_one]
            rw [htk,show xs.length + ys.length = (ous++asq).length from by simp [hels0.length,hasl]]
            exact List.take_left
        · rw [List.nodup_cons,List.nodup_append]
          have hn':=List.nodup_cons.1 hn
          refine ⟨?_,hn'.2,hnu,?_⟩
          · intro hm
            rcases List.mem_append.1 hm with hm | hm
            · exact hn'.1 hm
            · exact hdis gv hm (List.mem_cons_self ..)
          · rintro x hx y hy rfl
            exact hdis x hy (List.mem_cons_of_mem _ hx)
        · intro c hc
          rcases List.mem_cons.1 hc with rfl | hc
          · exact .inl (List.mem_cons_self ..)
          · rcases List.mem_append.1 hc with hc | hc
            · exact .inl (List.mem_cons_of_mem _ hc)
            · exact .inr (.inl hc)
        · refine ⟨rfl,rfl,rfl,by simp,fun k _ hk=>setRow_other w gv k _ fun hh=>hk (by simp [hh])⟩
      · -- grown
        have holds:∀ j u,ous[j]? = some u→w.cell? ((⟨gv,0,none⟩:Addr).add j) = some u:=by
          intro j u hj
          have e1:(⟨gv,0,none⟩:Addr).add j = ⟨gv,j,none⟩:=by
            unfold Addr.add
            split
            · rename_i hh; subst hh; rfl
            · simp
          rw [e1,cell_cellH]
          simp only [cellH,hgv]
          rw [← htk,List.getElem?_take] at hj
          split at hj
          · simpa using hj
          · cases hj
        have hr:=run_append_grow (P:=P) w t ty e i z ht h1 h2 ⟨gv,0,none⟩ xs.length capv ous (by rw [h3,hels0.length]; omega) holds ⟨g,off,none⟩ ys.length cap asq hl1 hnews (by omega) (by omega) (growslice_fits (by omega) hbytes)
        have hge:=grownCap_ge w (xs.length + ys.length) capv e
        have hgm:=grownCap_le_maxLen w (xs.length + ys.length) capv e hmx
        obtain ⟨F',q1,q2,q3,q4⟩:=made w.drew ous F0 (grownCap w (xs.length + ys.length) capv e - (xs.length + ys.length)) rfl rfl rfl rfl hels0 (fun c hc=>List.mem_cons_of_mem _ hc) (List.nodup_cons.1 hn).2 (by omega) (List.take 1 (gv :: F0))
        refine ⟨_,_,F',hr,?_,q2,q3,q4⟩
        have ea:(xs.length + ys.length + (grownCap w (xs.length + ys.length) capv e - (xs.length + ys.length))) = grownCap w (xs.length + ys.length) capv e:=by omega
        rw [ea] at q1
        exact q1
theorem run_appF (hE:Good E) (ht:P.underlying t = some (.slice e)) (hi:TI P e 1 z b) (hz:z.cells = #[z]) {v:Value} {xs:List α} {B U:Nat} (hv:Fr (owL E e) B U w.heap v xs) (hB:B≤w.heap.size)
    {a:Value} {ys:List α} {B' U':Nat} (ha:Fr (owL E e) B' U' w.heap a ys) (hU:U≤B') (hBB:B≤B') (hbytes:(xs.length + ys.length) * b≤140737488355328) (hmx:xs.length + ys.length≤maxLen) :
    ∃ v' w' F,(Builtin.append_ #[t,t] ty #[v,a]).run P w = .ok v' w'∧Fr (owL E e) B w'.heap.size w'.heap v' (xs++ys)∧Chg F w w'∧∀ c∈F,B≤c∧c < U:=by
  obtain ⟨F,h1,h2,h3⟩:=hv
  obtain ⟨G,g1,g2,g3⟩:=ha
  have gd:∀ c∈G.drop 1,c∈G:=fun c hc=>List.mem_of_mem_drop hc
  obtain ⟨v',w',F',r1,r2,r3,r4,r5⟩:=run_app (P:=P) (ty:=ty) hE ht hi hz h1 h2 (g1.rd id) rfl hbytes hmx (fun c hc hF=>by have:=g3 c (gd c hc); have:=h3 c hF; omega)
    ((List.drop_sublist 1 G).nodup g2)
  refine ⟨v',w',F.take 1,r1,⟨F',r2,r3,fun c hc=>?_⟩,r5,fun c hc=>h3 c (List.mem_of_mem_take hc)⟩
  have hlt:=(good_owL hE).lt r2 c hc
  refine ⟨?_,hlt⟩
  rcases r4 c hc with hh | hh | hh
  · exact (h3 c hh).1
  · have:=g3 c (gd c hh); omega
  · omega
end append
section ops
variable {P:Program} {ops:Array Oper} {w0:World} {Q:Act→World→Prop} {os:List Oper} {ks:List Nat} {N:Nat} {ρ:Nat→Value} {w:World}
  {d:Nat} {ty:TypeId} {pos:String} {aft:Array Edge} {g:Option (Nat × Bool)} {t e:TypeId} {z:Value} {b:Nat}
theorem r_nil {α:Type} (E:Stand α) (hE:Good E) {s:Nat} (ht:P.underlying t = some (.slice e)) (hi:TI P e s z b) (hu:Up ops N ρ ⟨some d,.buildSlice t 0 #[],ty,pos,aft,g⟩)
    (h:∀ v w1,Ext w w1→w1.heap.size = w.heap.size + 1→Fr (owL E e) w.heap.size w1.heap.size w1.heap v ([]:List α)→LW P ops w0 Q os ks (mk N (upd ρ d v)) w1) :
    LW P ops w0 Q (⟨some d,.buildSlice t 0 #[],ty,pos,aft,g⟩ :: os) (3 :: ks) (mk N ρ) w:=by
  have hrun:(execOp (evF N ρ) ⟨some d,.buildSlice t 0 #[],ty,pos,aft,g⟩).run P w = .ok (.value (.slice (some ⟨w.heap.size,0,none⟩) 0 0)) (w.alloc (.cells #[] e)):=by
    simp only [execOp,List.map_toArray,List.map_nil,Sem.run_bind,run_bs0 ht hi,Result.andThen_ok,Sem.run_pure]
  refine lw_r rfl hu _ _ hrun (ext_alloc _ _) (h _ _ (ext_alloc _ _) (by simp) ?_)
  refine ⟨_,owL_new (e:=e) (w:=w) hE (us:=[]) (xs:=([]:List α)) (F:=[]) (cur:=#[]) rfl (by simp) rfl (by simp),by simp,fun c hc=>?_⟩
  simp at hc
  subst hc
  simp
theorem r_one {α:Type} {E:Stand α} (hE:Good E) {x:Operand} {u:Value} {y:α} {B U:Nat} (ht:P.underlying t = some (.slice e)) (hi:TI P e 1 z b) (hz:z.cells = #[z]) (hx:evF N ρ x = u) (hy:Fr E B U w.heap u y) (hB:B≤w.heap.size)
    (hu:Up ops N ρ ⟨some d,.buildSlice t 1 #[(0,x)],ty,pos,aft,g⟩)
    (h:∀ v w1,Ext w w1→w1.heap.size = w.heap.size + 1→Fr (owL E e) B w1.heap.size w1.heap v [y]→LW P ops w0 Q os ks (mk N (upd ρ d v)) w1) :
    LW P ops w0 Q (⟨some d,.buildSlice t 1 #[(0,x)],ty,pos,aft,g⟩ :: os) (3 :: ks) (mk N ρ) w:=by
  obtain ⟨F,h1,h2,h3⟩:=hy
  have hr:=run_bs1 (P:=P) (w:=w) ht hi (hE.cells h1) hz
  have hrun:(execOp (evF N ρ) ⟨some d,.buildSlice t 1 #[(0,x)],ty,pos,aft,g⟩).run P w = .ok (.value (.slice (some ⟨w.heap.size,0,none⟩) 1 1)) (w.alloc (.cells #[u] e)):=by
    simp only [execOp,List.map_toArray,List.map_cons,List.map_nil,Sem.run_bind,hx,hr,Result.andThen_ok,Sem.run_pure]
  refine lw_r rfl hu _ _ hrun (ext_alloc _ _) (h _ _ (ext_alloc _ _) (by simp) ?_)
  have hn:=owL_new (e:=e) (w:=w) hE (us:=[u]) (xs:=[y]) (F:=F++[]) (cur:=#[u]) ⟨F,[],rfl,h1,rfl⟩ (by simp [maxLen]) rfl (by simp)
  refine ⟨_,hn,?_,fun c hc=>?_⟩
  · rw [List.append_nil,List.nodup_cons]
    exact ⟨fun hm=>by have:=hE.lt h1 _ hm; omega,h2⟩
  · have hlt:=(good_owL hE).lt hn c hc
    refine ⟨?_,hlt⟩
    rcases List.mem_cons.1 hc with rfl | hc
    · exact hB
    · exact (h3 c (by simpa using hc)).1
theorem e_appF {α:Type} {E:Stand α} (hE:Good E) {x y:Operand} {v a:Value} {xs ys:List α} {B U B' U':Nat} (ht:P.underlying t = some (.slice e)) (hi:TI P e 1 z b) (hz:z.cells = #[z]) (hx:evF N ρ x = v) (hy:evF N ρ y = a) (hv:Fr (owL E e) B U w.heap v xs) (hB:B≤w.heap.size)
    (ha:Fr (owL E e) B' U' w.heap a ys) (hU:U≤B') (hBB:B≤B') (hbytes:(xs.length + ys.length) * b≤140737488355328) (hmx:xs.length + ys.length≤maxLen) (hu:Up ops N ρ ⟨some d,.call ⟨.builtin .append,#[x,y],#[t,t]⟩,ty,pos,aft,g⟩)
    (h:∀ v1 w1 F,Chg F w w1→(∀ c∈F,B≤c∧c < U)→Fr (owL E e) B w1.heap.size w1.heap v1 (xs++ys)→LW P ops w0 Q os ks (mk N (upd ρ d v1)) w1) :
    LW P ops w0 Q (⟨some d,.call ⟨.builtin .append,#[x,y],#[t,t]⟩,ty,pos,aft,g⟩ :: os) (4 :: ks) (mk N ρ) w:=by
  obtain ⟨v1,w1,F,r1,r2,r3,r4⟩:=run_appF (P:=P) (ty:=ty) hE ht hi hz hv hB ha hU hBB hbytes hmx
  exact lw_e rfl hu v1 w1 (by simp only [execOp,resolve,invoke,builtin,List.map_toArray,List.map_cons,List.map_nil,Sem.run_bind,Sem.run_pure,Result.andThen_ok,hx,hy,r1]) (h v1 w1 F r3 r4 r2)
end ops
end Go.Proofs.YtlbefjfhfodnlaaDoor
namespace Go.Proofs.YtlbefjfhfodnlaaDoor
open Go Go.RowKit
def rV:Stand Value:=fun _ v x F=>v = x∧F = []∧v.cells = #[v]∧v.oneCell' = true
theorem good_rV:Good rV:=⟨fun h=>h.2.2.1,fun h=>h.2.2.2,fun h b hb=>(by rw [h.2.1] at hb; cases hb),fun h _=>h⟩
section run
variable {P:Program} {w:World}
theorem run_store1 {st:TypeId} (hst:(P.info? st).map (·.size) = some 1) {g j:Nat} {cur:Array Value} {e:TypeId} (hg:w.heap[g]? = some (.cells cur e (0,0))) (hj:j < cur.size) {u:Value} (hc:u.cells = #[u]) (h1:u.oneCell' = true) :
    (Instr.storeAt st (.pointer (some ⟨g,j,none⟩)) u).run P w = .ok () (w.setCell ⟨g,j,none⟩ u):=by
  obtain ⟨i,hi1,hi2⟩:=Option.map_eq_some_iff.1 hst
  have hcell:w.cell? ⟨g,j,none⟩ = some cur[j]:=by
    rw [cell_cellH]; simp [cellH,hg,hj]
  have hfz:w.frozen? ⟨g,j,none⟩ = false:=by
    simp only [World.frozen?,hg]; simp
  have hadd:(⟨g,j,none⟩:Addr).add 0 = ⟨g,j,none⟩:=rfl
  have hst1:(store ⟨g,j,none⟩ u).run P w = .ok () (w.setCell ⟨g,j,none⟩ u):=by
    rw [run_store P w _ _ _ h1,hcell]
    simp only [hfz]
    rfl
  simp only [Instr.storeAt,Instr.sureAddr,Sem.run_bind,Sem.run_pure,Result.andThen_ok,storeVar,sizeOf,typeInfo,run_program,hi1,hi2,hc]
  simp [storeCells,hadd,hst1]
theorem chg_set (w:World) (g j:Nat) (u:Value):Chg [g] w (w.setCell ⟨g,j,none⟩ u) :=
  ⟨rfl,rfl,rfl,by simp [World.setCell],fun k hk hne=>Below.heap_setCell _ _ _ _ (by simpa using hne)⟩
theorem heap_set {w:World} {g j:Nat} {u:Value} {cur:Array Value} {e:TypeId} (hg:w.heap[g]? = some (.cells cur e (0,0))):(w.setCell ⟨g,j,none⟩ u).heap[g]? = some (.cells (cur.setIfInBounds j u) e (0,0)):=by
  simp only [World.setCell,Array.getElem?_modify]
  simp [hg]
end run
section ops
variable {P:Program} {ops:Array Oper} {w0:World} {Q:Act→World→Prop} {os:List Oper} {ks:List Nat} {N:Nat} {ρ:Nat→Value} {w:World}
  {d:Nat} {ty:TypeId} {pos:String} {aft:Array Edge} {g:Option (Nat × Bool)} {t e:TypeId} {z:Value} {b:Nat}
theorem exec_store {st:TypeId} {x y:Operand} {p u:Value} {w1:World} (hx:evF N ρ x = p) (hy:evF N ρ y = u) (hr:(Instr.storeAt st p u).run P w = .ok () w1) :
    (execOp (evF N ρ) ⟨none,.store st x y,ty,pos,aft,g⟩).run P w = .ok .skip w1:=by
  simp only [execOp,hx,hy,Sem.run_bind,hr,Result.andThen_ok,Sem.run_pure]
theorem lw_callE {x:Operand} {xs:Array Operand} {ats:Array TypeId} (f:FuncId) (first cap:List Value) (args:List Value)
    (hx:evF N ρ x = .func (.func f) first.toArray cap.toArray) (hxs:first++(xs.toList.map (evF N ρ))++cap = args) (hf:((P.funcs[f]?).map fun fn=>(fn.name != "runtime.NumGoroutine") && fn.body.isSome) = some true)
    (hu:Up ops N ρ ⟨some d,.call ⟨.value x,xs,ats⟩,ty,pos,aft,g⟩) {R:Ending→World→Prop} (hc:Calls P f args.toArray w R)
    (h:∀ e w1,R e w1→∃ v,e = .returned v∧LW P ops w0 Q os ks (mk N (upd ρ d v)) w1) :
    LW P ops w0 Q (⟨some d,.call ⟨.value x,xs,ats⟩,ty,pos,aft,g⟩ :: os) (4 :: ks) (mk N ρ) w:=by
  simp only [LW]
  rw [if_pos hu]
  unfold OneOp
  rw [if_neg (by decide),if_neg (by decide)]
  unfold Oper.wp
  rw [mk_eval]
  have hrun:(execOp (evF N ρ) ⟨some d,.call ⟨.value x,xs,ats⟩,ty,pos,aft,g⟩).run P w = .ok (.enter f args.toArray) w:=by
    obtain ⟨fn,hfn,hb⟩:=Option.map_eq_some_iff.1 hf
    simp only [Bool.and_eq_true,bne_iff_ne,ne_eq] at hb
    have hargs:first.toArray++xs.map (evF N ρ)++cap.toArray = args.toArray:=by
      rw [← hxs]; apply Array.ext'; simp
    obtain ⟨c,hbc⟩:=Option.isSome_iff_exists.1 hb.2
    have hcf:(callFunc f args.toArray).run P w = .ok (.enter f args.toArray) w:=by
      simp [callFunc,hfn,hb.1,hbc]
    simp [execOp,resolve,hargs,hx,Deferred.ofValue,invoke,hcf]
  rw [hrun]
  refine Calls.mono hc (fun e w1 he=>?_)
  obtain ⟨v,rfl,hL⟩:=h e w1 he
  show LW P ops w0 Q os ks ((mk N ρ).put (some d) v) w1
  rw [mk_put]
  exact hL
end ops
end Go.Proofs.YtlbefjfhfodnlaaDoor
namespace Go.Proofs.YtlbefjfhfodnlaaDoor
open Go Go.RowKit
theorem oM {p:Prop} (h:p:=by omega):p:=h
theorem sM {p:Prop} (h:p:=by simp):p:=h
theorem sD {p:Prop} (h:p:=by first | omega | assumption | (simp only [List.length_nil,List.length_cons,List.length_append,List.length_set,List.length_replicate]; omega) | (simp [List.length_nil,List.length_cons,List.length_append,List.length_set,List.length_replicate]; done) | (simp [List.length_nil,List.length_cons,List.length_append,List.length_set,List.length_replicate]; omega)):p:=h
theorem Chg.refl (F:List Nat) (w:World):Chg F w w:=⟨rfl,rfl,rfl,Nat.le_refl _,fun _ _ _=>rfl⟩
theorem Chg.trans {F:List Nat} {a b c:World} (h:Chg F a b) (k:Chg F b c):Chg F a c :=
  ⟨k.os.trans h.os,k.tape.trans h.tape,k.output.trans h.output,Nat.le_trans h.size k.size,fun i hi hm=>(k.block i (Nat.lt_of_lt_of_le hi h.size) hm).trans (h.block i hi hm)⟩
theorem Chg.of_drew {F:List Nat} {a b:World} (h:Chg F a.drew b):Chg F a b:=⟨h.os,h.tape,h.output,h.size,h.block⟩
theorem Chg.sub {F G:List Nat} {a b:World} (h:Chg F a b) (hs:∀ x∈F,x∈G):Chg G a b:=⟨h.os,h.tape,h.output,h.size,fun k hk hm=>h.block k hk fun hh=>hm (hs k hh)⟩
section ops
variable {P:Program} {ops:Array Oper} {w0:World} {Q:Act→World→Prop} {os:List Oper} {ks:List Nat} {N:Nat} {ρ:Nat→Value} {w:World}
  {d:Nat} {ty:TypeId} {pos:String} {aft:Array Edge} {g:Option (Nat × Bool)} {t e:TypeId} {z:Value} {b:Nat}
theorem lw_nil {a:Act} (h:Q a w):LW P ops w0 Q [] ks a w:=h
def yv (ops:Array Oper) (N:Nat) (ρ:Nat→Value) (j:Nat):Option Bool:=match (ops[j]?).bind (·.dst) with
  | some e=>match cond (Nat.blt e N) (ρ e) undef with
    | .bool c=>some c
    | _=>none
  | none=>none
theorem yv_eq (ops:Array Oper) (N:Nat) (ρ:Nat→Value) (j:Nat):yielded ops (mk N ρ).tmps j = yv ops N ρ j:=by
  unfold yv yielded
  cases (ops[j]?).bind (·.dst) with
  | none=>rfl
  | some e =>
    by_cases h:e < N
    · have hb:Nat.blt e N = true:=by simpa using h
      simp only [mk,hb,cond_true]
      have e1:((List.range N).map ρ).toArray[e]? = some (ρ e):=by simp [h]
      show (match ((List.range N).map ρ).toArray[e]? with | some (.bool b)=>some b | _=>none) = _
      rw [e1]
      cases ρ e <;> rfl
    · have hb:Nat.blt e N = false:=by
        cases hb:Nat.blt e N with
        | false=>rfl
        | true=>exact absurd (by simpa using hb) h
      simp [mk,Nat.not_lt.1 h,hb,undef]
def gdB (ops:Array Oper) (N:Nat) (ρ:Nat→Value):Option (Nat × Bool)→Bool
  | none=>true
  | some (j,b)=>match yv ops N ρ j with
    | some c=>cond b c (!c)
    | none=>false
theorem gdB_eq (ops:Array Oper) (N:Nat) (ρ:Nat→Value) (o:Oper):Region.wanted o (yielded ops (mk N ρ).tmps) = gdB ops N ρ o.guard:=by
  unfold Region.wanted gdB
  cases o.guard with
  | none=>rfl
  | some x =>
    obtain ⟨j,b⟩:=x
    simp only [yv_eq]
    cases yv ops N ρ j with
    | none=>rfl
    | some c=>cases c <;> cases b <;> rfl
def mvF (N:Nat) (ρ:Nat→Value) (d:Nat) (x:Operand):Nat→Value:=fun i=>cond (Nat.beq i d) (evF N ρ x) (ρ i)
def skF (ρ:Nat→Value) (d:Nat):Nat→Value:=fun i=>cond (Nat.beq i d) undef (ρ i)
def pkF (N:Nat) (ρ:Nat→Value) (d:Nat) (c x y:Operand):Nat→Value:=fun i=>cond (Nat.beq i d) (match evF N ρ c with
  | .bool true=>evF N ρ x
  | _=>evF N ρ y) (ρ i)
def tv1 (ops:Array Oper) (N:Nat) (o:Oper) (k:Nat) (ρ:Nat→Value):Option (Nat→Value) :=
  cond (gdB ops N ρ o.guard)
    (cond (Nat.ble k 2)
      (match o.dst with
      | none=>none
      | some d=>match o.op with
        | .move x=>some (mvF N ρ d x)
        | .assign x=>some (mvF N ρ d x)
        | .pick c x y=>match evF N ρ c with
          | .bool _=>some (pkF N ρ d c x y)
          | _=>none
        | _=>none) none)
    (match o.dst with
    | none=>some ρ
    | some d=>some (skF ρ d))
def tv (ops:Array Oper) (N:Nat):Nat→List Oper→List Nat→(Nat→Value)→Option (List Oper × List Nat × (Nat→Value))
  | 0,os,ks,ρ=>some (os,ks,ρ)
  | n + 1,o :: os,k :: ks,ρ=>match tv1 ops N o k ρ with
    | some ρ'=>tv ops N n os ks ρ'
    | none=>none
  | _ + 1,_,_,_=>none
theorem lw_tv1 {o:Oper} {k:Nat} {ρ':Nat→Value} (h:tv1 ops N o k ρ = some ρ') (hn:LW P ops w0 Q os ks (mk N ρ') w):LW P ops w0 Q (o :: os) (k :: ks) (mk N ρ) w:=by
  simp only [LW]
  rw [gdB_eq]
  unfold tv1 at h
  cases hg:gdB ops N ρ o.guard with
  | false =>
    rw [hg] at h
    rw [if_neg (by simp)]
    cases hd:o.dst with
    | none=>rw [hd] at h; cases h; exact hn
    | some d=>rw [hd] at h; injection h with h; rw [mk_put,show upd ρ d undef = ρ' from h]; exact hn
  | true =>
    rw [hg] at h
    rw [if_pos rfl]
    cases hk:Nat.ble k 2 with
    | false=>rw [hk] at h; cases h
    | true =>
      rw [hk] at h
      have hk2:k≤2:=by simpa using hk
      unfold OneOp
      rw [if_pos hk2]
      cases hd:o.dst with
      | none=>rw [hd] at h; cases h
      | some d =>
        rw [hd] at h
        have key:∀ v,ρ' = upd ρ d v→(∀ w',(execOp (evF N ρ) o).run P w' = .ok (.value v) w')→∃ v,(∀ w',Cl w0 w k w'→YA P o (mk N ρ) w' v)∧LW P ops w0 Q os ks ((mk N ρ).put (some d) v) w:=fun v hv hr =>
          ⟨v,fun w' _=>.inl (by rw [mk_eval]; exact hr w'),by rw [mk_put,← hv]; exact hn⟩
        obtain ⟨od,oop,oty,opos,oaft,og⟩:=o
        dsimp only at h
        cases oop with
        | move x=>injection h with h; exact key (evF N ρ x) h.symm fun w'=>by simp [execOp]
        | assign x=>injection h with h; exact key (evF N ρ x) h.symm fun w'=>by simp [execOp]
        | pick c x y =>
          dsimp only at h
          split at h
          · rename_i bb hc; injection h with h
            refine key (match evF N ρ c with
              | .bool true=>evF N ρ x
              | _=>evF N ρ y) h.symm fun w'=>?_
            rw [hc]
            cases bb <;> simp [execOp,hc,asBool]
          · cases h
        | _=>cases h
theorem lw_tv {os':List Oper} {ks':List Nat} {ρ':Nat→Value} (n:Nat) (h:tv ops N n os ks ρ = some (os',ks',ρ')) (hn:LW P ops w0 Q os' ks' (mk N ρ') w):LW P ops w0 Q os ks (mk N ρ) w:=by
  induction n generalizing os ks ρ with
  | zero =>
    have h':(os,ks,ρ) = (os',ks',ρ'):=by injection h
    cases h'; exact hn
  | succ n ih =>
    cases os with
    | nil=>cases ks <;> cases h
    | cons o os =>
      cases ks with
      | nil=>cases h
      | cons k ks =>
        have h':(match tv1 ops N o k ρ with | some ρ'=>tv ops N n os ks ρ' | none=>none) = some (os',ks',ρ'):=h
        split at h'
        · rename_i r hr; exact lw_tv1 hr (ih h')
        · cases h'
theorem lw_tvn {ks':List Nat} {ρ':Nat→Value} (n:Nat) (h:tv ops N n os ks ρ = some ([],ks',ρ')) (hn:Q (mk N ρ') w):LW P ops w0 Q os ks (mk N ρ) w :=
  lw_tv n h (show LW P ops w0 Q [] ks' (mk N ρ') w from hn)
end ops
end Go.Proofs.YtlbefjfhfodnlaaDoor
namespace Go.Proofs.YtlbefjfhfodnlaaDoor
open Go Go.RowKit
set_option linter.unusedVariables false
set_option linter.unusedSimpArgs false
theorem frV (B U:Nat) (H:Array Obj) {u:Value} (h:u.cells = #[u]∧u.oneCell' = true):Fr rV B U H u u:=⟨[],⟨rfl,rfl,h.1,h.2⟩,List.nodup_nil,fun c hc=>by cases hc⟩
theorem oV {e:TypeId}:Good (owL rV e):=good_owL good_rV
end Go.Proofs.YtlbefjfhfodnlaaDoor
namespace Go.Proofs.YtlbefjfhfodnlaaDoor
open Go Go.RowKit
set_option linter.unusedVariables false
set_option linter.unusedSimpArgs false
def BX (H:Array Obj) (g:Nat) (cs:List Value):Prop:=∃ e,H[g]? = some (.cells cs.toArray e (0,0))
theorem BX.lt {H:Array Obj} {g:Nat} {cs:List Value} (h:BX H g cs):g < H.size:=by obtain ⟨e,h⟩:=h; exact getElem?_lt h
theorem BX.ext {w w':World} {g:Nat} {cs:List Value} (h:BX w.heap g cs) (k:Ext w w'):BX w'.heap g cs:=by
  have hl:=h.lt
  obtain ⟨e,h⟩:=h
  exact ⟨e,by rw [k.heap hl]; exact h⟩
theorem BX.chg {w w':World} {g:Nat} {cs:List Value} {F:List Nat} (h:BX w.heap g cs) (k:Chg F w w') (hg:g∉F):BX w'.heap g cs:=by
  have hl:=h.lt
  obtain ⟨e,h⟩:=h
  exact ⟨e,by rw [k.block g hl hg]; exact h⟩
theorem w8r (x:UInt8):-9223372036854775808≤((x.toNat:Nat):Int)∧((x.toNat:Nat):Int)≤9223372036854775807:=by
  have:=x.toNat_lt; omega
theorem w8 (x:UInt8):IntKind.i64.wrap ((x.toNat:Nat):Int) = ((x.toNat:Nat):Int):=w64 (w8r x).1 (w8r x).2
section ops
variable {P:Program} {ops:Array Oper} {w0:World} {Q:Act→World→Prop} {os:List Oper} {ks:List Nat} {N:Nat} {ρ:Nat→Value} {w:World}
  {d:Nat} {ty:TypeId} {pos:String} {aft:Array Edge} {g:Option (Nat × Bool)} {t e:TypeId}
theorem e_setB {st:TypeId} {x y:Operand} {b k:Nat} {u:Value} {cs:List Value} (hst:(P.info? st).map (·.size) = some 1) (hx:evF N ρ x = .pointer (some ⟨b,k,none⟩)) (hy:evF N ρ y = u) (hc:u.cells = #[u]∧u.oneCell' = true)
    (hb:BX w.heap b cs) (hk:k < cs.length) (hu:Up ops N ρ ⟨none,.store st x y,ty,pos,aft,g⟩)
    (h:∀ w1,Chg [b] w w1→w1.heap.size = w.heap.size→BX w1.heap b (cs.set k u)→LW P ops w0 Q os ks (mk N ρ) w1) :
    LW P ops w0 Q (⟨none,.store st x y,ty,pos,aft,g⟩ :: os) (4 :: ks) (mk N ρ) w:=by
  obtain ⟨e,hb⟩:=hb
  have hr:=run_store1 (P:=P) hst hb (j:=k) (by simpa using hk) hc.1 hc.2
  refine lw_s rfl hu _ (exec_store hx hy hr) (h _ (chg_set _ _ _ _) (by simp [World.setCell]) ⟨e,?_⟩)
  rw [heap_set hb]
  simp
theorem q_build {parts:Array (Nat × Operand)} {ps:Array (Nat × Value)} (u:Value) (hp:(parts.map fun (i,x)=>(i,evF N ρ x)) = ps) (hr:∀ w',(Instr.build t ps).run P w' = .ok u w') (hu:Up ops N ρ ⟨some d,.build t parts,ty,pos,aft,g⟩)
    (h:LW P ops w0 Q os ks (mk N (upd ρ d u)) w):LW P ops w0 Q (⟨some d,.build t parts,ty,pos,aft,g⟩ :: os) (0 :: ks) (mk N ρ) w :=
  lw_q (by decide) rfl hu _ (fun w' _=>by subst hp; simp [execOp,hr w']) h
theorem r_boxA {x:Operand} {cs:Array Value} (hx:evF N ρ x = .agg cs) (hu:Up ops N ρ ⟨some d,.box t x,ty,pos,aft,g⟩)
    (h:∀ w1,Ext w w1→w1.heap.size = w.heap.size + 1→BX w1.heap w.heap.size cs.toList→LW P ops w0 Q os ks (mk N (upd ρ d (.pointer (some ⟨w.heap.size,0,none⟩)))) w1) :
    LW P ops w0 Q (⟨some d,.box t x,ty,pos,aft,g⟩ :: os) (3 :: ks) (mk N ρ) w:=by
  have hrun:(execOp (evF N ρ) ⟨some d,.box t x,ty,pos,aft,g⟩).run P w = .ok (.value (.pointer (some ⟨w.heap.size,0,none⟩))) (w.alloc (.cells cs t)):=by
    simp [execOp,Instr.box,newVar,newRow,hx,Value.cells]
  refine lw_r rfl hu _ _ hrun (ext_alloc _ _) (h _ (ext_alloc _ _) (by simp) ⟨t,?_⟩)
  have:=heap_alloc_new w (.cells cs t)
  simpa using this
end ops
end Go.Proofs.YtlbefjfhfodnlaaDoor
namespace Go.Proofs.YtlbefjfhfodnlaaDoor
open Go Go.RowKit
set_option linter.unusedVariables false
set_option linter.unusedSimpArgs false
abbrev StandN (α:Type):=Array Obj→List Value→α→List Nat→Prop
structure GoodN {α:Type} (s:Nat) (E:StandN α):Prop where
  len:∀ {H cs x F},E H cs x F→cs.length = s
  one:∀ {H cs x F},E H cs x F→∀ u∈cs,u.cells = #[u]∧u.oneCell' = true
  lt:∀ {H cs x F},E H cs x F→∀ b∈F,b < H.size
  stable:∀ {H H' cs x F},E H cs x F→(∀ b∈F,H'[b]? = H[b]?)→E H' cs x F
def elsN {α:Type} (E:StandN α) (H:Array Obj):List (List Value)→List α→List Nat→Prop
  | [],[],F=>F = []
  | c :: css,x :: xs,F=>∃ F1 F2,F = F1++F2∧E H c x F1∧elsN E H css xs F2
  | _,_,_=>False
section elsN
variable {α:Type} {E:StandN α} {s:Nat} {H H':Array Obj}
theorem elsN.length:∀ {css:List (List Value)} {xs:List α} {F:List Nat},elsN E H css xs F→css.length = xs.length
  | [],[],_,_=>rfl
  | _ :: _,_ :: _,_,⟨_,_,_,_,h⟩=>by simp [elsN.length h]
  | [],_ :: _,_,h=>h.elim
  | _ :: _,[],_,h=>h.elim
theorem elsN.stable (hE:GoodN s E):∀ {css:List (List Value)} {xs:List α} {F:List Nat},elsN E H css xs F→(∀ b∈F,H'[b]? = H[b]?)→elsN E H' css xs F
  | [],[],_,h,_=>h
  | _ :: _,_ :: _,_,⟨F1,F2,rfl,h1,h2⟩,hb =>
    ⟨F1,F2,rfl,hE.stable h1 fun b hh=>hb b (List.mem_append_left _ hh),elsN.stable hE h2 fun b hh=>hb b (List.mem_append_right _ hh)⟩
  | [],_ :: _,_,h,_=>h.elim
  | _ :: _,[],_,h,_=>h.elim
theorem elsN.lt (hE:GoodN s E):∀ {css:List (List Value)} {xs:List α} {F:List Nat},elsN E H css xs F→∀ b∈F,b < H.size
  | [],[],_,h,b,hb=>by rw [show _ = [] from h] at hb; cases hb
  | _ :: _,_ :: _,_,⟨F1,F2,rfl,h1,h2⟩,b,hb=>(List.mem_append.1 hb).elim (hE.lt h1 b) (elsN.lt hE h2 b)
  | [],_ :: _,_,h,_,_=>h.elim
  | _ :: _,[],_,h,_,_=>h.elim
theorem elsN.get (hE:GoodN s E):∀ {css:List (List Value)} {xs:List α} {F:List Nat} {k:Nat} (d:α),elsN E H css xs F→k < xs.length →
    ∃ cs F1,E H cs (xs.getD k d) F1∧(∀ b∈F1,b∈F)∧∀ i,i < s→css.flatten[k * s + i]? = some (cs.getD i undef)
  | c :: css,x :: xs,_,0,d,⟨F1,F2,rfl,h1,h2⟩,_=>⟨c,F1,h1,fun b hb=>List.mem_append_left _ hb,fun i hi=>by
      have hl:=hE.len h1
      rw [List.flatten_cons,Nat.zero_mul,Nat.zero_add,List.getElem?_append_left (by omega)]
      simp [hl,hi]⟩
  | c :: css,x :: xs,_,k + 1,d,⟨F1,F2,rfl,h1,h2⟩,hk=>by
    obtain ⟨cs,G,q1,q2,q3⟩:=elsN.get hE d h2 (by simpa using hk)
    refine ⟨cs,G,by simpa using q1,fun b hh=>List.mem_append_right _ (q2 b hh),fun i hi=>?_⟩
    have hl:=hE.len h1
    have e:(k + 1) * s + i = c.length + (k * s + i):=by rw [Nat.succ_mul,hl]; omega
    rw [List.flatten_cons,e,List.getElem?_append_right (by omega),Nat.add_sub_cancel_left]
    exact q3 i hi
  | [],[],_,_,_,_,hk=>by simp at hk
  | [],_ :: _,_,_,_,h,_=>h.elim
theorem elsN.append:∀ {us vs:List (List Value)} {xs ys:List α} {F G:List Nat},elsN E H us xs F→elsN E H vs ys G→elsN E H (us++vs) (xs++ys) (F++G)
  | [],_,[],_,_,_,h,k=>by rw [show _ = [] from h]; exact k
  | _ :: _,_,_ :: _,_,_,_,⟨F1,F2,rfl,h1,h2⟩,k=>⟨F1,_,by rw [List.append_assoc],h1,elsN.append h2 k⟩
  | [],_,_ :: _,_,_,_,h,_=>h.elim
  | _ :: _,_,[],_,_,_,h,_=>h.elim
theorem elsN.flen (hE:GoodN s E):∀ {css:List (List Value)} {xs:List α} {F:List Nat},elsN E H css xs F→css.flatten.length = xs.length * s
  | [],[],_,_=>by simp
  | c :: css,x :: xs,_,⟨F1,F2,rfl,h1,h2⟩=>by
    rw [List.flatten_cons,List.length_append,hE.len h1,elsN.flen hE h2,List.length_cons,Nat.succ_mul]; omega
  | [],_ :: _,_,h=>h.elim
  | _ :: _,[],_,h=>h.elim
theorem elsN.one (hE:GoodN s E):∀ {css:List (List Value)} {xs:List α} {F:List Nat},elsN E H css xs F→∀ u∈css.flatten,u.cells = #[u]∧u.oneCell' = true
  | [],[],_,_,u,hu=>by cases hu
  | _ :: _,_ :: _,_,⟨F1,F2,rfl,h1,h2⟩,v,hv=>by
    rw [List.flatten_cons] at hv
    exact (List.mem_append.1 hv).elim (hE.one h1 v) (elsN.one hE h2 v)
  | [],_ :: _,_,h,_,_=>h.elim
  | _ :: _,[],_,h,_,_=>h.elim
end elsN
def rdS {α:Type} (s:Nat) (E:StandN α):Stand (List α):=fun H v xs F =>
  (∃ a cap,v = .slice a 0 cap∧xs = []∧F = []) ∨
  ∃ css g off cap cur e fr F',elsN E H css xs F'∧v = .slice (some ⟨g,off,none⟩) xs.length cap∧H[g]? = some (.cells cur e fr)∧(cur.toList.drop off).take (xs.length * s) = css.flatten∧(xs.length≤maxLen∧xs.length≤cap)∧F = g :: F'
def LD (H:Array Obj) (p:Value) (cs:List Value):Prop:=∃ g o,p = .pointer (some ⟨g,o,none⟩)∧∀ i,i < cs.length→cellH H g (o + i) = some (cs.getD i undef)
def padd (p:Value) (k:Nat):Value :=
  match p with
  | .pointer (some ⟨g,o,none⟩)=>.pointer (some ⟨g,o + k,none⟩)
  | _=>undef
theorem LD.ld {H:Array Obj} {p:Value} {cs:List Value} (h:LD H p cs) {i:Nat} (hi:i < cs.length):ldH H (padd p i) = some (cs.getD i undef):=by
  obtain ⟨g,o,rfl,h⟩:=h
  exact h i hi
theorem eptr_s (g off n cap k s:Nat):eptr (.slice (some ⟨g,off,none⟩) n cap) k s = .pointer (some ⟨g,off + k * s,none⟩):=by
  unfold eptr Addr.add
  simp only
  split
  · rename_i h; rw [h]; rfl
  · rfl
section rdS
variable {α:Type} {E:StandN α} {s:Nat} {H H':Array Obj} {v:Value} {xs:List α} {F:List Nat}
theorem good_rdS (hE:GoodN s E):Good (rdS s E) where
  cells:=by
    rintro H v xs F (⟨a,cap,rfl,_⟩ | ⟨us,g,off,cap,cur,e,fr,F',_,rfl,_⟩) <;> rfl
  one:=by
    rintro H v xs F (⟨a,cap,rfl,_⟩ | ⟨us,g,off,cap,cur,e,fr,F',_,rfl,_⟩) <;> rfl
  lt:=by
    rintro H v xs F (⟨a,cap,rfl,_,rfl⟩ | ⟨us,g,off,cap,cur,e,fr,F',h,rfl,hg,_,_,rfl⟩) b hb
    · cases hb
    · rcases List.mem_cons.1 hb with rfl | hb
      · exact getElem?_lt hg
      · exact h.lt hE b hb
  stable:=by
    rintro H H' v xs F (⟨a,cap,rfl,h1,h2⟩ | ⟨us,g,off,cap,cur,e,fr,F',h,rfl,hg,hw,hml,rfl⟩) hb
    · exact .inl ⟨a,cap,rfl,h1,h2⟩
    · exact .inr ⟨us,g,off,cap,cur,e,fr,F',h.stable hE fun b hh=>hb b (List.mem_cons_of_mem _ hh),rfl,by rw [hb g (List.mem_cons_self ..)]; exact hg,hw,hml,rfl⟩
theorem rdS.isSl (h:rdS s E H v xs F):isSl v xs.length:=by
  rcases h with ⟨a,cap,rfl,rfl,_⟩ | ⟨us,g,off,cap,cur,e,fr,F',_,rfl,_⟩
  · exact ⟨a,cap,rfl,fun _=>rfl⟩
  · exact ⟨_,cap,rfl,fun h=>by cases h⟩
theorem rdS.get (hE:GoodN s E) (d:α) {k:Nat} (h:rdS s E H v xs F) (hk:k < xs.length) :
    ∃ cs F1,E H cs (xs.getD k d) F1∧(∀ b∈F1,b∈F)∧∀ H':Array Obj,(∀ b∈F,H'[b]? = H[b]?)→LD H' (eptr v k s) cs:=by
  rcases h with ⟨a,cap,rfl,rfl,_⟩ | ⟨css,g,off,cap,cur,e,fr,F',h,rfl,hg,hw,_,rfl⟩
  · simp at hk
  · obtain ⟨cs,F1,q1,q2,q3⟩:=h.get hE d hk
    refine ⟨cs,F1,q1,fun b hb=>List.mem_cons_of_mem _ (q2 b hb),fun H' hH=>⟨g,off + k * s,eptr_s ..,fun i hi=>?_⟩⟩
    rw [hE.len q1] at hi
    have h1:=q3 i hi
    have hlt:k * s + i < xs.length * s:=by
      have:(k + 1) * s≤xs.length * s:=Nat.mul_le_mul_right s hk
      rw [Nat.succ_mul] at this; omega
    rw [← hw,List.getElem?_take,if_pos hlt,List.getElem?_drop] at h1
    simp only [cellH,hH g (List.mem_cons_self ..),hg]
    rw [Nat.add_assoc]
    simpa using h1
end rdS
def RN {β α:Type} (S:List Nat) (E:Array Obj→β→α→List Nat→Prop) (H:Array Obj) (v:β) (x:α):Prop:=∃ F,E H v x F∧∀ b∈F,b∉S
section rn
variable {α:Type} {S:List Nat} {w w':World} {s:Nat} {E:StandN α} {v:Value} {xs:List α} {cs:List Value} {x:α}
theorem RN.ext {E:Stand α} (hE:Good E) (h:RN S E w.heap v x) (c:Ext w w'):RN S E w'.heap v x:=by
  obtain ⟨F,h,hb⟩:=h
  exact ⟨F,hE.stable h fun b hm=>c.heap (hE.lt h b hm),hb⟩
theorem RN.isSl {H:Array Obj} (h:RN S (rdS s E) H v xs):isSl v xs.length:=by obtain ⟨F,h,_⟩:=h; exact h.isSl
theorem RN.get (hE:GoodN s E) (d:α) {k:Nat} (h:RN S (rdS s E) w.heap v xs) (hk:k < xs.length) :
    ∃ cs,RN S E w.heap cs (xs.getD k d)∧∀ w',Chg S w w'→LD w'.heap (eptr v k s) cs:=by
  obtain ⟨F,h,hb⟩:=h
  have hlt:=(good_rdS hE).lt h
  obtain ⟨cs,F1,q1,q2,q3⟩:=rdS.get hE d h hk
  exact ⟨cs,⟨F1,q1,fun b hm=>hb b (q2 b hm)⟩,fun w' c=>q3 _ fun b hm=>c.block b (hlt b hm) (hb b hm)⟩
end rn
theorem Chg.of_ext {w w':World} (S:List Nat) (h:Ext w w'):Chg S w w':=⟨h.os,h.tape,h.output,h.size,fun k hk _=>h.heap hk⟩
def aggTy (P:Program) (t:TypeId) (s:Nat):Bool :=
  (match P.underlying t with | some (.struct _)=>true | _=>false) && (match P.info? t with | some i=>i.size == s | none=>false)
def fdO (P:Program) (s:TypeId) (i off:Nat):Bool :=
  match P.underlying s with
  | some (.struct fs) =>
    match fs[i]? with
    | some f=>(f.offset == off) && (match P.info? f.type with | some inf=>inf.size != 0 | none=>false)
    | none=>false
  | _=>false
section ops
variable {P:Program} {ops:Array Oper} {w0:World} {Q:Act→World→Prop} {os:List Oper} {ks:List Nat} {N:Nat} {ρ:Nat→Value} {w:World}
  {d:Nat} {ty:TypeId} {pos:String} {aft:Array Edge} {g:Option (Nat × Bool)} {t e:TypeId}
theorem add_mk (b o k:Nat):(⟨b,o,none⟩:Addr).add k = ⟨b,o + k,none⟩:=by
  unfold Addr.add
  split
  · rename_i h; rw [h]; rfl
  · rfl
theorem q_fldP {s:TypeId} {x:Operand} {i:Nat} {p:Value} {b o:Nat} (off:Nat) (hf:fdO P s i off = true) (hx:evF N ρ x = p) (hp:p = .pointer (some ⟨b,o,none⟩)) (hu:Up ops N ρ ⟨some d,.fieldAddr s x i,ty,pos,aft,g⟩)
    (h:LW P ops w0 Q os ks (mk N (upd ρ d (padd p off))) w):LW P ops w0 Q (⟨some d,.fieldAddr s x i,ty,pos,aft,g⟩ :: os) (0 :: ks) (mk N ρ) w :=
  lw_q (by decide) rfl hu _ (fun w' _=>by
    subst hp
    unfold fdO at hf
    split at hf
    · rename_i fs hfs
      split at hf
      · rename_i f hff
        simp only [Bool.and_eq_true,beq_iff_eq] at hf
        obtain ⟨rfl,hf2⟩:=hf
        split at hf2
        · rename_i inf hin
          have hne:inf.size≠0:=by simpa using hf2
          simp [execOp,Instr.fieldAt,Instr.sureAddr,run_underlying hfs,hff,hx,fieldPlace,sizeOf,typeInfo,hin,hne,add_mk,padd]
        · cases hf2
      · cases hf
    · cases hf) h
theorem LD.ptr {H:Array Obj} {p:Value} {cs:List Value} (h:LD H p cs):∃ b o,p = .pointer (some ⟨b,o,none⟩):=by obtain ⟨b,o,h,_⟩:=h; exact ⟨b,o,h⟩
theorem q_fldL {s:TypeId} {x:Operand} {i:Nat} {p:Value} {H:Array Obj} {cs:List Value} (off:Nat) (hf:fdO P s i off = true) (hx:evF N ρ x = p) (hp:LD H p cs) (hu:Up ops N ρ ⟨some d,.fieldAddr s x i,ty,pos,aft,g⟩)
    (h:LW P ops w0 Q os ks (mk N (upd ρ d (padd p off))) w):LW P ops w0 Q (⟨some d,.fieldAddr s x i,ty,pos,aft,g⟩ :: os) (0 :: ks) (mk N ρ) w:=by
  obtain ⟨b,o,hp⟩:=hp.ptr
  exact q_fldP off hf hx hp hu h
theorem run_loadA {s:Nat} (ht:aggTy P t s = true) {p:Value} {cs:List Value} (h:LD w.heap p cs) (hl:cs.length = s):(Instr.loadAt t p).run P w = .ok (.agg cs.toArray) w:=by
  obtain ⟨b,o,rfl,h⟩:=h
  unfold aggTy at ht
  simp only [Bool.and_eq_true] at ht
  obtain ⟨h1,h2⟩:=ht
  split at h1
  · rename_i fs hfs
    split at h2
    · rename_i inf hin
      have hs:inf.size = s:=by simpa using h2
      have hag:(isAgg t).run P w = .ok true w:=by
        unfold isAgg
        simp only [Sem.run_bind,run_underlying hfs,Result.andThen_ok]
        rfl
      have hlc:=run_loadCells_list (P:=P) w ⟨b,o,none⟩ cs (fun j v hj=>by
        rw [add_mk,cell_cellH]
        have hjl:j < cs.length:=(List.getElem?_eq_some_iff.1 hj).1
        rw [h j hjl]
        simp [List.getD,hj])
      rw [hl,← hs] at hlc
      simp [Instr.loadAt,Instr.sureAddr,loadVar,hag,sizeOf,typeInfo,hin,hlc]
    · cases h2
  · cases h1
theorem q_loadA {k s:Nat} (hk:k = 1∨k = 2) {x:Operand} {p:Value} (cs:List Value) (ht:aggTy P t s = true) (hx:evF N ρ x = p) (hc:∀ w',Ext (if k = 1 then w0 else w) w'→LD w'.heap p cs) (hl:cs.length = s)
    (hu:Up ops N ρ ⟨some d,.load t x,ty,pos,aft,g⟩)
    (h:LW P ops w0 Q os ks (mk N (upd ρ d (.agg cs.toArray))) w):LW P ops w0 Q (⟨some d,.load t x,ty,pos,aft,g⟩ :: os) (k :: ks) (mk N ρ) w :=
  lw_q (by omega) rfl hu _ (fun w' hcl=>by
    have hld:LD w'.heap p cs:=by
      rcases hk with rfl | rfl
      · exact hc w' hcl
      · exact hc w' hcl
    simp [execOp,hx,run_loadA ht hld hl]) h
theorem LD.of_box {H:Array Obj} {b:Nat} {cs:List Value} (h:BX H b cs):LD H (.pointer (some ⟨b,0,none⟩)) cs:=by
  obtain ⟨e,h⟩:=h
  refine ⟨b,0,rfl,fun i hi=>?_⟩
  simp only [cellH,h]
  simp [hi]
theorem BX.ldp {H:Array Obj} {b:Nat} {cs:List Value} (h:BX H b cs) {i:Nat} (hi:i < cs.length):ldH H (padd (.pointer (some ⟨b,0,none⟩)) i) = some (cs.getD i undef):=(LD.of_box h).ld hi
theorem r_allocA {z:Value} (hz:(P.info? t).map (·.zero) = some (some z)) (hu:Up ops N ρ ⟨some d,.alloc t,ty,pos,aft,g⟩)
    (h:∀ w1,Ext w w1→w1.heap.size = w.heap.size + 1→BX w1.heap w.heap.size z.cells.toList→LW P ops w0 Q os ks (mk N (upd ρ d (.pointer (some ⟨w.heap.size,0,none⟩)))) w1) :
    LW P ops w0 Q (⟨some d,.alloc t,ty,pos,aft,g⟩ :: os) (3 :: ks) (mk N ρ) w:=by
  obtain ⟨i,hi1,hi2⟩:=Option.map_eq_some_iff.1 hz
  have hrun:(execOp (evF N ρ) ⟨some d,.alloc t,ty,pos,aft,g⟩).run P w = .ok (.value (.pointer (some ⟨w.heap.size,0,none⟩))) (w.alloc (.cells z.cells t)):=by
    simp [execOp,Instr.alloc,zeroValue,typeInfo,hi1,hi2,newVar,newRow]
  refine lw_r rfl hu _ _ hrun (ext_alloc _ _) (h _ (ext_alloc _ _) (by simp) ⟨t,?_⟩)
  have:=heap_alloc_new w (.cells z.cells t)
  simpa using this
theorem e_setA {x y:Operand} {b s:Nat} {vs cs:List Value} (ht:aggTy P t s = true) (hx:evF N ρ x = .pointer (some ⟨b,0,none⟩)) (hy:evF N ρ y = .agg vs.toArray) (h1:∀ u∈vs,u.cells = #[u]∧u.oneCell' = true)
    (hb:BX w.heap b cs) (hl:vs.length = s) (hl2:cs.length = s) (hu:Up ops N ρ ⟨none,.store t x y,ty,pos,aft,g⟩)
    (h:∀ w1,Chg [b] w w1→w1.heap.size = w.heap.size→BX w1.heap b vs→LW P ops w0 Q os ks (mk N ρ) w1) :
    LW P ops w0 Q (⟨none,.store t x y,ty,pos,aft,g⟩ :: os) (4 :: ks) (mk N ρ) w:=by
  obtain ⟨e,hb⟩:=hb
  unfold aggTy at ht
  simp only [Bool.and_eq_true] at ht
  obtain ⟨q1,q2⟩:=ht
  split at q2
  · rename_i inf hin
    have hs:inf.size = s:=by simpa using q2
    have hst:=run_storeCells_at (P:=P) b 0 e vs 0 cs.toArray w hb (by simp; omega) (fun v hv=>(h1 v hv).2)
    have hcs:(cs.toArray.toList.take (0 + 0)++vs++cs.toArray.toList.drop (0 + 0 + vs.length)) = vs:=by
      simp [List.drop_of_length_le (show cs.length≤vs.length by omega)]
    rw [hcs] at hst
    have hr:(Instr.storeAt t (.pointer (some ⟨b,0,none⟩)) (.agg vs.toArray)).run P w = .ok () (w.setRow b vs.toArray):=by
      simp [Instr.storeAt,Instr.sureAddr,storeVar,sizeOf,typeInfo,hin,Value.cells,hl,hs,hst]
    refine lw_s rfl hu _ (exec_store hx hy hr) (h _ ⟨rfl,rfl,rfl,by simp,fun k _ hk=>setRow_other w b k _ (by simpa using hk)⟩ (by simp) ⟨e,setRow_heap w b _ _ _ _ hb⟩)
  · cases q2
end ops
end Go.Proofs.YtlbefjfhfodnlaaDoor
namespace Go.Proofs.YtlbefjfhfodnlaaDoor
open Go Go.RowKit
set_option linter.unusedVariables false
set_option linter.unusedSimpArgs false
inductive Ex where
  | mk (kind num pick count:Int) (kids:List Ex)
namespace Ex
def kind:Ex→Int | mk k _ _ _ _=>k
def num:Ex→Int | mk _ n _ _ _=>n
def pick:Ex→Int | mk _ _ p _ _=>p
def count:Ex→Int | mk _ _ _ c _=>c
def kids:Ex→List Ex | mk _ _ _ _ l=>l
def zero:Ex:=mk 0 0 0 0 []
end Ex
abbrev i64 (x:Int):Prop:=-9223372036854775808≤x∧x≤9223372036854775807
def exC (e:Ex) (v:Value):List Value:=[.int .i64 e.kind,.int .i64 e.num,.int .i64 e.pick,.int .i64 e.count,v]
structure Fn where
  name:ByteArray
  params:Int
  outs:List Ex
def fnC (f:Fn) (v:Value):List Value:=[.string f.name,.int .i64 f.params,v]
end Go.Proofs.YtlbefjfhfodnlaaDoor
namespace Go.Proofs.YtlbefjfhfodnlaaDoor
open Go Go.ChangeShapes Go.WideShapes Go.RowKit Go.Deep
section
variable {H:Type} {enc:TypeId × Value→H} {P:Program} {W:World}
theorem Ext.trodAll (hl:laidOutB P = true) {W':World} (hx:Ext W W'):∀ {ts:List TypeId} {vs:List Value} {ds:List (DataW H)} {ps:List MemPlace},(∀ t∈ts,P.readableRec t = true∧t < P.types.size)→(∀ x∈ps,x.block < W.heap.size) →
    DataW.TrodAll enc P W 0 (fun _=>true) true ts vs ds ps→DataW.TrodAll enc P W' 0 (fun b=>decide (b < W.heap.size)) true ts vs ds ps
  | [],[],[],_,_,_,h=>h
  | t :: ts,v :: vs,d :: ds,ps,hr,hlt,⟨p,q,h1,h2,e⟩=>by
    subst e
    exact ⟨p,q,Below.trod hl (hr t (List.mem_cons_self ..)).1 (hr t (List.mem_cons_self ..)).2 h1 hx fun x hx=>hlt x (List.mem_append_left _ hx),
      Ext.trodAll hl hx (fun t ht=>hr t (List.mem_cons_of_mem _ ht)) (fun x hx=>hlt x (List.mem_append_right _ hx)) h2,rfl⟩
  | [],[],_ :: _,_,_,_,h=>h.elim
  | [],_ :: _,_,_,_,_,h=>h.elim
  | _ :: _,[],_,_,_,_,h=>h.elim
  | _ :: _,_ :: _,[],_,_,_,h=>h.elim
theorem law_post {fn:Func} {s:ChangeSpec} {W':World} {args:Array Value} {ds:List (DataW H)} {before:List MemPlace} {tb:TypeId} (hl:laidOutB P = true)
    (hr:∀ t∈fn.params.toList,P.readableRec t = true∧t < P.types.size) (hv:s.vars = []) (hres:fn.resultTypes = #[tb]) (hb:P.underlying tb = some .bool)
    (hW:DataW.Whole enc P fn.params.toList s.vars false W args.toList ds [] before) (he:s.fn H (ds++[]) = { results:=[.lit (.bool true)],args:=ds }) (hx:Ext W W') :
    s.post enc P fn false true false false W args (.bool true) W':=by
  have hW':=hW
  obtain ⟨p,q,hA,hV,rfl,hfz,hnd⟩:=hW
  have hlt:∀ x∈p++q,x.block < W.heap.size:=fun x hx=>hW'.lt x hx
  rw [hv] at hV
  obtain ⟨_,rfl⟩:=trodVars_none hV
  refine ⟨ds,[],_,[],p,[],hW',?_,?_,?_,Below.frame hx _,fun h=>by cases h⟩
  · rw [he,hres]; exact trodAll_mk1 (shut_bool hb true)
  · rw [he]; exact Ext.trodAll hl hx hr (fun x hx=>hlt x (List.mem_append_left _ hx)) hA
  · rw [he,hv]; rfl
end
end Go.Proofs.YtlbefjfhfodnlaaDoor
namespace Go.Proofs.YtlbefjfhfodnlaaDoor
open Go Go.RowKit
set_option linter.unusedVariables false
set_option linter.unusedSimpArgs false
def sAt (s:ByteArray) (i:Nat):Nat:=((s[i]?).getD 0).toNat
theorem sAt_lt (s:ByteArray) (i:Nat):sAt s i < 256:=UInt8.toNat_lt _
section ops
variable {P:Program} {ops:Array Oper} {w0:World} {Q:Act→World→Prop} {os:List Oper} {ks:List Nat} {N:Nat} {ρ:Nat→Value} {w:World}
  {d:Nat} {ty:TypeId} {pos:String} {aft:Array Edge} {g:Option (Nat × Bool)}
theorem q_index {t:TypeId} {x y:Operand} {s:ByteArray} {i:Int} (j:Nat) (ht:P.underlying t = some .string) (hx:evF N ρ x = .string s) (hy:evF N ρ y = .int .i64 i) (hj:i = (j:Int)) (hlt:j < s.size) (hu:Up ops N ρ ⟨some d,.index t x y,ty,pos,aft,g⟩)
    (h:LW P ops w0 Q os ks (mk N (upd ρ d (.int .u8 ((sAt s j:Nat):Int)))) w):LW P ops w0 Q (⟨some d,.index t x y,ty,pos,aft,g⟩ :: os) (0 :: ks) (mk N ρ) w :=
  lw_q (by decide) rfl hu _ (fun w' _=>by
    subst hj
    have e:s[j]? = some s[j]:=getElem?_pos s j hlt
    simp [execOp,hx,hy,Instr.index,asIntOf,run_underlying ht,e,sAt]) h
end ops
end Go.Proofs.YtlbefjfhfodnlaaDoor
namespace Go.Proofs.YtlbefjfhfodnlaaDoor
def md (x:Int):Int:=x % 1000003
end Go.Proofs.YtlbefjfhfodnlaaDoor
namespace Go.Proofs.YtlbefjfhfodnlaaDoor
def tab {α:Type} (n:Nat) (f:Nat→α):List α:=(List.range n).map f
@[simp] theorem tab_len {α:Type} (n:Nat) (f:Nat→α):(tab n f).length = n:=by simp [tab]
theorem tab_get {α:Type} {n:Nat} {f:Nat→α} {k:Nat} (d:α) (h:k < n):(tab n f).getD k d = f k:=by simp [tab,h]
theorem tab_succ {α:Type} (n:Nat) (f:Nat→α):tab (n + 1) f = tab n f++[f n]:=by simp [tab,List.range_succ]
def tkr (a b:List Int) (y:Int):List Int:=tab a.length fun k=>md (a.getD k 0 - md (y * b.getD k 0))
def elim (c:Nat) (rc:List Int) (iv:Int):Nat→List (List Int)→List (List Int):=it fun j M=>M.set (c + 1 + j) (tkr (M.getD (c + 1 + j) []) rc (md ((M.getD (c + 1 + j) []).getD c 0 * iv)))
end Go.Proofs.YtlbefjfhfodnlaaDoor
namespace Go.Proofs.YtlbefjfhfodnlaaDoor
set_option linter.unusedVariables false
set_option linter.unusedSimpArgs false
open Go Go.RowKit
def up (n:Nat) (k:Int):List Int:=tab n fun i=>k + (i:Int)
end Go.Proofs.YtlbefjfhfodnlaaDoor
namespace Go.Proofs.YtlbefjfhfodnlaaDoor
set_option linter.unusedVariables false
set_option linter.unusedSimpArgs false
open Go Go.RowKit
def Nm (x:Int):Prop:=0≤x∧x < 1000003
end Go.Proofs.YtlbefjfhfodnlaaDoor
namespace Go.Proofs.YtlbefjfhfodnlaaDoor
open Go Go.RowKit
set_option linter.unusedVariables false
set_option linter.unusedSimpArgs false
section bld
variable {e:TypeId} {S F:List Nat} {B:Nat} {w w':World} {v:Value} {xs:List (List Int)} {us:List Value} {g:Nat}
theorem els_rVe {H:Array Obj}:∀ {us vs:List Value} {F:List Nat},els rV H us vs F→us = vs∧F = []
  | [],[],_,h=>⟨rfl,h⟩
  | _ :: _,_ :: _,_,⟨F1,F2,rfl,h1,h2⟩=>by
    obtain ⟨rfl,rfl⟩:=els_rVe h2
    rw [h1.1,h1.2.1]; exact ⟨rfl,rfl⟩
  | [],_ :: _,_,h=>h.elim
  | _ :: _,[],_,h=>h.elim
end bld
end Go.Proofs.YtlbefjfhfodnlaaDoor
namespace Go.Proofs.YtlbefjfhfodnlaaDoor
open Go Go.RowKit
set_option linter.unusedVariables false
set_option linter.unusedSimpArgs false
inductive Rs (α:Type) where
  | ok (x:α) (s:Nat)
  | err (c:Int)
end Go.Proofs.YtlbefjfhfodnlaaDoor
namespace Go.Proofs.YtlbefjfhfodnlaaDoor
open Go Go.RowKit
set_option linter.unusedVariables false
set_option linter.unusedSimpArgs false
set_option linter.unusedSectionVars false
class JR where
  rel:World→World→Prop
  refl:∀ w,rel w w
  trans:∀ {a b c},rel a b→rel b c→rel a c
  ext:∀ {a b},Ext a b→rel a b
namespace Jx
variable [J:JR]
def Ext (w w':World):Prop:=J.rel w w'
theorem Ext.refl (w:World):Ext w w:=J.refl w
theorem Ext.trans {a b c:World} (h:Ext a b) (k:Ext b c):Ext a c:=J.trans h k
section
variable {P:Program} {ops:Array Oper} {md:Region.Mode}
def Cl (w0 w:World):Nat→World→Prop
  | 0,_=>True
  | 1,w'=>Ext w0 w'
  | _,w'=>Ext w w'
def OneOp (P:Program) (w0:World) (o:Oper) (k:Nat) (a:Act) (w:World) (K:Act→World→Prop):Prop :=
  if k≤2 then ∃ v,(∀ w',Cl w0 w k w'→YA P o a w' v)∧K (a.put o.dst v) w
  else if k = 3 then o.wp P a w (fun a' w'=>Ext w w'∧K a' w') (NQ fun _ _=>False)
  else o.wp P a w K (NQ fun _ _=>False)
def LW (P:Program) (ops:Array Oper) (w0:World) (Q:Act→World→Prop):List Oper→List Nat→Act→World→Prop
  | [],_,a,w=>Q a w
  | _ :: _,[],_,_=>False
  | o :: os,k :: ks,a,w =>
    if Region.wanted o (yielded ops a.tmps) = true then OneOp P w0 o k a w (LW P ops w0 Q os ks) else LW P ops w0 Q os ks (a.put o.dst undef) w
theorem OneOp.mono {w0:World} {o:Oper} {k:Nat} {a:Act} {w:World} {K K':Act→World→Prop} (h:∀ a w,K a w→K' a w)
    (hh:OneOp P w0 o k a w K):OneOp P w0 o k a w K':=by
  unfold OneOp at *
  split
  · rename_i hk
    rw [if_pos hk] at hh
    obtain ⟨v,h1,h2⟩:=hh
    exact ⟨v,h1,h _ _ h2⟩
  · rename_i hk
    rw [if_neg hk] at hh
    split
    · rename_i h3
      rw [if_pos h3] at hh
      exact Oper.wp_mono (fun a w hx=>⟨hx.1,h _ _ hx.2⟩) hh
    · rename_i h3
      rw [if_neg h3] at hh
      exact Oper.wp_mono h hh
variable (P ops) in
def LI (kd:Nat→Nat) (w0:World) (Q:Act→World→Prop):List Nat→Act→World→Prop
  | [],a,w=>Q a w
  | i :: l,a,w =>
    match ops[i]? with
    | none=>False
    | some o=>if Region.wanted o (yielded ops a.tmps) = true then OneOp P w0 o (kd i) a w (LI kd w0 Q l) else LI kd w0 Q l (a.put o.dst undef) w
def Inv1 (kd:Nat→Nat) (w0 w:World) (l:List Nat):Prop:=(∃ j∈l,kd j = 1)→Ext w0 w
def Yv (P:Program) (ops:Array Oper) (w0:World) (k:Nat) (o:Oper) (a:Act) (w:World) (v:Value):Prop :=
  (Region.wanted o (yielded ops a.tmps) = true∧∀ w',Cl w0 w k w'→YA P o a w' v)∨(Region.wanted o (yielded ops a.tmps) = false∧v = undef)
theorem Cl.self {w0 w:World} {k:Nat} (h:k = 1→Ext w0 w):Cl w0 w k w:=by
  match k,h with
  | 0,_=>exact trivial
  | 1,h=>exact h rfl
  | _ + 2,_=>exact Ext.refl w
theorem Yv.unique {w0 w:World} {k:Nat} {o:Oper} {a:Act} {v u:Value} (hk:k = 1→Ext w0 w) (h:Yv P ops w0 k o a w v) (h':Yv P ops w0 k o a w u):v = u:=by
  rcases h with ⟨h1,h2⟩ | ⟨h1,h2⟩ <;> rcases h' with ⟨g1,g2⟩ | ⟨g1,g2⟩
  · exact (h2 w (Cl.self hk)).unique (g2 w (Cl.self hk))
  · rw [h1] at g1; cases g1
  · rw [h1] at g1; cases g1
  · rw [h2,g2]
theorem Yv.apart {w0 w:World} {k:Nat} {o:Oper} (hs:∀ cs b,o.op≠.select cs b) {a:Act} {d:Option Tmp} {u v:Value}
    (h1:∀ x,d = some x→x∉o.looksAt ops):Yv P ops w0 k o (a.put d u) w v↔Yv P ops w0 k o a w v:=by
  unfold Yv
  rw [wanted_put (ops:=ops) o a d u h1]
  simp only [YA.apart (ops:=ops) (P:=P) hs h1]
theorem Yv.defers {w0 w:World} {k:Nat} {o:Oper} {a:Act} {l:List Deferred} {v:Value}:Yv P ops w0 k o { a with defers:=l } w v↔Yv P ops w0 k o a w v:=by
  have he:Act.eval { a with defers:=l } = Act.eval a:=funext fun x=>by cases x <;> rfl
  unfold Yv YA
  rw [he]
theorem Yv.shape {w0 w:World} {k:Nat} {o:Oper} (hs:∀ cs b,o.op≠.select cs b) {a a':Act} {d:Option Tmp} {v:Value}
    (h1:∀ x,d = some x→x∉o.looksAt ops) (h:Shape a d a'):Yv P ops w0 k o a' w v↔Yv P ops w0 k o a w v:=by
  obtain ⟨u,rfl | ⟨x,rfl⟩⟩:=h
  · exact Yv.apart hs h1
  · rw [Yv.apart hs h1]; exact Yv.defers
section main
variable {kd bs:Nat→Nat} {w0:World} {Q:Act→World→Prop}
theorem takeQ (hsel:∀ (j:Nat) (o:Oper) cs b,ops[j]? = some o→o.op≠.select cs b) {j:Nat} {oj:Oper} (hj:ops[j]? = some oj) (hk:kd j≤2) :
    ∀ (l1 l2:List Nat) (a:Act) (w:World),(∀ i∈l1,∀ oi,ops[i]? = some oi→oi.apart ops oj = true∧okPair (kd i) (kd j) = true)→(kd j = 1→Ext w0 w) →
      LI P ops kd w0 Q (l1++j :: l2) a w→∃ v,Yv P ops w0 (kd j) oj a w v∧LI P ops kd w0 Q (l1++l2) (a.put oj.dst v) w
  | [],l2,a,w,_,_,h=>by
    simp only [List.nil_append,LI,hj] at h ⊢
    split at h
    · rename_i hw
      unfold OneOp at h
      rw [if_pos hk] at h
      obtain ⟨v,h1,h2⟩:=h
      exact ⟨v,.inl ⟨hw,h1⟩,h2⟩
    · rename_i hw
      exact ⟨undef,.inr ⟨by simpa using hw,rfl⟩,h⟩
  | i :: l1,l2,a,w,hl,hx,h=>by
    have hi:=hl i (List.mem_cons_self ..)
    have hl':∀ x∈l1,∀ ox,ops[x]? = some ox→ox.apart ops oj = true∧okPair (kd x) (kd j) = true:=fun x hx=>hl x (List.mem_cons_of_mem _ hx)
    simp only [List.cons_append,LI] at h ⊢
    cases hoi:ops[i]? with
    | none=>rw [hoi] at h; exact h.elim
    | some oi =>
      rw [hoi] at h
      simp only at h ⊢
      obtain ⟨hap,hok⟩:=hi oi hoi
      obtain ⟨p1,p2,p3⟩:=Oper.apart_spec hap
      have p2':∀ d,oj.dst = some d→oi.dst≠some d:=fun d hd he=>p2 d he hd
      have si:=fun cs b=>hsel i oi cs b hoi
      have sj:=fun cs b=>hsel j oj cs b hj
      by_cases hw:Region.wanted oi (yielded ops a.tmps) = true
      · rw [if_pos hw] at h
        unfold OneOp at h
        by_cases hki:kd i≤2
        · rw [if_pos hki] at h
          obtain ⟨vi,hy,h⟩:=h
          obtain ⟨v,h1,h2⟩:=takeQ hsel hj hk l1 l2 (a.put oi.dst vi) w hl' hx h
          refine ⟨v,(Yv.apart sj p1).1 h1,?_⟩
          rw [wanted_put oi a oj.dst v p3,if_pos hw]
          unfold OneOp
          rw [if_pos hki]
          refine ⟨vi,fun w' hc=>(YA.apart (ops:=ops) si p3).2 (hy w' hc),?_⟩
          rw [Act.put_comm a v vi p2']
          exact h2
        · rw [if_neg hki] at h
          have gen:∀ (G:World→Prop),(∀ w',G w'→kd j = 1→Ext w0 w')→(kd j = 2→False) →
              oi.wp P a w (fun a' w'=>G w'∧LI P ops kd w0 Q (l1++j :: l2) a' w') (NQ fun _ _=>False) →
              ∃ v,Yv P ops w0 (kd j) oj a w v∧oi.wp P (a.put oj.dst v) w (fun a' w'=>G w'∧LI P ops kd w0 Q (l1++l2) a' w') (NQ fun _ _=>False):=by
            intro G hG hn2 hh
            have hcl:∀ w1 w2,Cl w0 w1 (kd j) w2→Cl w0 w (kd j) w2:=by
              intro w1 w2 hc
              match hkj:kd j,hk,hn2 with
              | 0,_,_=>trivial
              | 1,_,_=>rw [hkj] at hc; exact hc
              | 2,_,hn=>exact (hn rfl).elim
              | _ + 3,hle,_=>omega
            have hcl':∀ w1 w2,Cl w0 w (kd j) w2→Cl w0 w1 (kd j) w2:=by
              intro w1 w2 hc
              match hkj:kd j,hk,hn2 with
              | 0,_,_=>trivial
              | 1,_,_=>rw [hkj] at hc; exact hc
              | 2,_,hn=>exact (hn rfl).elim
              | _ + 3,hle,_=>omega
            have hs:=wp_shape hh
            have step:∀ a' w',((G w'∧LI P ops kd w0 Q (l1++j :: l2) a' w')∧Shape a oi.dst a') →
                ∃ v,Yv P ops w0 (kd j) oj a w v∧LI P ops kd w0 Q (l1++l2) (a'.put oj.dst v) w':=by
              rintro a' w' ⟨⟨hg,hL⟩,hsh⟩
              obtain ⟨v,h1,h2⟩:=takeQ hsel hj hk l1 l2 a' w' hl' (hG w' hg) hL
              have h1':=(Yv.shape sj p1 hsh).1 h1
              refine ⟨v,?_,h2⟩
              rcases h1' with ⟨q1,q2⟩ | ⟨q1,q2⟩
              · exact .inl ⟨q1,fun w2 hc=>q2 w2 (hcl' w' w2 hc)⟩
              · exact .inr ⟨q1,q2⟩
            obtain ⟨v,hv⟩:∃ v,Yv P ops w0 (kd j) oj a w v:=by
              obtain ⟨u,w',hK | ⟨d,hK⟩⟩:=wp_some hs
              · obtain ⟨v,h1,_⟩:=step _ _ hK; exact ⟨v,h1⟩
              · obtain ⟨v,h1,_⟩:=step _ _ hK; exact ⟨v,h1⟩
            refine ⟨v,hv,wp_unapart (ops:=ops) si p3 p2' ?_⟩
            refine Oper.wp_mono (fun a' w' hK=>?_) hs
            obtain ⟨v',h1,h2⟩:=step a' w' hK
            have:v' = v:=h1.unique hx hv
            subst this
            exact ⟨hK.1.1,h2⟩
          by_cases h3:kd i = 3
          · rw [if_pos h3] at h
            have hj1:=ok3 hok h3
            obtain ⟨v,hv,hwp⟩:=gen (fun w'=>Ext w w') (fun w' hg h1=>(hx h1).trans hg) (fun h2=>by omega) h
            refine ⟨v,hv,?_⟩
            rw [wanted_put oi a oj.dst v p3,if_pos hw]
            unfold OneOp
            rw [if_neg hki,if_pos h3]
            exact hwp
          · rw [if_neg h3] at h
            have hj0:=ok4 hok (by omega)
            obtain ⟨v,hv,hwp⟩:=gen (fun _=>True) (fun w' _ h1=>by omega) (fun h2=>by omega) (Oper.wp_mono (fun a w hh=>⟨trivial,hh⟩) h)
            refine ⟨v,hv,?_⟩
            rw [wanted_put oi a oj.dst v p3,if_pos hw]
            unfold OneOp
            rw [if_neg hki,if_neg h3]
            exact Oper.wp_mono (fun a w hh=>hh.2) hwp
      · rw [if_neg hw] at h
        obtain ⟨v,h1,h2⟩:=takeQ hsel hj hk l1 l2 (a.put oi.dst undef) w hl' hx h
        refine ⟨v,(Yv.apart sj p1).1 h1,?_⟩
        rw [wanted_put oi a oj.dst v p3,if_neg hw,Act.put_comm a v undef p2']
        exact h2
theorem takeR (hsel:∀ (j:Nat) (o:Oper) cs b,ops[j]? = some o→o.op≠.select cs b) {j:Nat} {oj:Oper} (hj:ops[j]? = some oj) (hk:3≤kd j) :
    ∀ (l1 l2:List Nat) (a:Act) (w:World),(∀ i∈l1,∀ oi,ops[i]? = some oi→oi.apart ops oj = true∧okPair (kd i) (kd j) = true)→LI P ops kd w0 Q (l1++j :: l2) a w →
      (Region.wanted oj (yielded ops a.tmps) = true→oj.wp P a w (fun a' w'=>(kd j = 3→Ext w w')∧LI P ops kd w0 Q (l1++l2) a' w') (NQ fun _ _=>False)) ∧
      (Region.wanted oj (yielded ops a.tmps) = false→LI P ops kd w0 Q (l1++l2) (a.put oj.dst undef) w)
  | [],l2,a,w,_,h=>by
    simp only [List.nil_append,LI,hj] at h ⊢
    refine ⟨fun hw=>?_,fun hw=>?_⟩
    · rw [if_pos hw] at h
      unfold OneOp at h
      rw [if_neg (by omega)] at h
      split at h
      · exact Oper.wp_mono (fun _ _ hh=>⟨fun _=>hh.1,hh.2⟩) h
      · rename_i h3; exact Oper.wp_mono (fun _ _ hh=>⟨fun h'=>(h3 h').elim,hh⟩) h
    · rw [if_neg (by simp [hw])] at h; exact h
  | i :: l1,l2,a,w,hl,h=>by
    have hi:=hl i (List.mem_cons_self ..)
    have hl':∀ x∈l1,∀ ox,ops[x]? = some ox→ox.apart ops oj = true∧okPair (kd x) (kd j) = true:=fun x hx=>hl x (List.mem_cons_of_mem _ hx)
    simp only [List.cons_append,LI] at h ⊢
    cases hoi:ops[i]? with
    | none=>rw [hoi] at h; exact h.elim
    | some oi =>
      rw [hoi] at h
      simp only at h ⊢
      obtain ⟨hap,hok⟩:=hi oi hoi
      obtain ⟨p1,p2,p3⟩:=Oper.apart_spec hap
      have p2':∀ d,oj.dst = some d→oi.dst≠some d:=fun d hd he=>p2 d he hd
      have si:=fun cs b=>hsel i oi cs b hoi
      have sj:=fun cs b=>hsel j oj cs b hj
      obtain ⟨hki,hk4⟩:=okj hok hk
      by_cases hw:Region.wanted oi (yielded ops a.tmps) = true
      · rw [if_pos hw] at h
        unfold OneOp at h
        rw [if_pos hki] at h
        obtain ⟨vi,hy,h⟩:=h
        obtain ⟨g1,g2⟩:=takeR hsel hj hk l1 l2 (a.put oi.dst vi) w hl' h
        rw [wanted_put oj a oi.dst vi p1] at g1 g2
        refine ⟨fun hwj=>?_,fun hwj=>?_⟩
        · have g:=wp_apart (ops:=ops) (Q:=fun _ _=>False) sj p1 p2 (g1 hwj)
          refine Oper.wp_mono (fun a' w' hK=>?_) (wp_shape g)
          obtain ⟨⟨hE,hL⟩,hsh⟩:=hK
          refine ⟨hE,?_⟩
          rw [wanted_shape p3 hsh,if_pos hw]
          unfold OneOp
          rw [if_pos hki]
          refine ⟨vi,fun w'' hc=>?_,hL⟩
          have hya:YA P oi a w'' vi:=by
            refine hy w'' ?_
            match hki':kd i,hki,hk4 with
            | 0,_,_=>trivial
            | 1,_,_=>rw [hki'] at hc; exact hc
            | 2,_,h4=>rw [hki'] at hc; exact (hE (by have:¬ 4≤kd j:=(fun hh=>by have:=h4 hh; omega); omega)).trans hc
            | _ + 3,hle,_=>omega
          have he:∀ b,YA P oi b w'' vi↔YR P ((execOp b.eval oi).run P w'') w'' vi:=fun _=>Iff.rfl
          obtain ⟨u,rfl | ⟨x,rfl⟩⟩:=hsh
          · exact (YA.apart (ops:=ops) si p3).2 hya
          · refine (YA.apart (ops:=ops) si p3).2 ?_
            have hee:Act.eval { a with defers:=x :: a.defers } = Act.eval a:=funext fun y=>by cases y <;> rfl
            rw [he,hee,← he]; exact hya
        · rw [wanted_put oi a oj.dst undef p3,if_pos hw]
          unfold OneOp
          rw [if_pos hki]
          refine ⟨vi,fun w' hc=>(YA.apart (ops:=ops) si p3).2 (hy w' hc),?_⟩
          rw [Act.put_comm a undef vi p2']
          exact g2 hwj
      · rw [if_neg hw] at h
        obtain ⟨g1,g2⟩:=takeR hsel hj hk l1 l2 (a.put oi.dst undef) w hl' h
        rw [wanted_put oj a oi.dst undef p1] at g1 g2
        refine ⟨fun hwj=>?_,fun hwj=>?_⟩
        · have g:=wp_apart (ops:=ops) (Q:=fun _ _=>False) sj p1 p2 (g1 hwj)
          refine Oper.wp_mono (fun a' w' hK=>?_) (wp_shape g)
          obtain ⟨⟨hE,hL⟩,hsh⟩:=hK
          refine ⟨hE,?_⟩
          rw [wanted_shape p3 hsh,if_neg hw]
          exact hL
        · rw [wanted_put oi a oj.dst undef p3,if_neg hw,Act.put_comm a undef undef p2']
          exact g2 hwj
end main
end
section
variable {P:Program} {ops:Array Oper} {md:Region.Mode} {kd bs:Nat→Nat} {w0:World} {Q:Act→World→Prop}
theorem any_of_LI (hsel:∀ (j:Nat) (o:Oper) cs b,ops[j]? = some o→o.op≠.select cs b) (hS:Sound md ops bs)
    (hlex:∀ j oj,ops[j]? = some oj→∀ e∈oj.after,Region.binds md e = true→e.on < j) :
    ∀ (n:Nat) (l:List Nat) (listed:Array Bool) (a:Act) (w:World),l.length = n→l.Pairwise (PairOK md ops kd bs)→l.Nodup→listed.size = ops.size →
      (∀ i,i∈l↔listed.getD i true = false)→Closed bs listed→No14 kd l→Inv1 kd w0 w l→LI P ops kd w0 Q l a w→wpAny P md ops (NQ Q) n listed a w
  | 0,l,listed,a,w,hn,_,_,_,hm,_,_,_,h=>by
    have hl:l = []:=List.eq_nil_of_length_eq_zero hn
    subst hl
    refine ⟨?_,h⟩
    cases hr:Region.ready md ops listed with
    | nil=>rfl
    | cons x xs =>
      have:=(mem_ready.1 (by rw [hr]; exact List.mem_cons_self ..:x∈Region.ready md ops listed)).1
      exact absurd ((hm x).2 this) (by simp)
  | n + 1,l,listed,a,w,hn,hs,hd,hz,hm,hc,h14,hi1,h=>by
    refine ⟨fun h0=>?_,fun i hi=>?_⟩
    · exfalso
      match l,hn with
      | i :: l,hn =>
        have hready:=head_ready (md:=md) hz hm hlex (fun y hy ox hox=>((List.pairwise_cons.1 hs).1 y hy).2 ox hox)
        rw [h0] at hready
        cases hready
    · obtain ⟨hun,oi,hoi,hall⟩:=mem_ready.1 hi
      obtain ⟨l1,l2,rfl⟩:=List.append_of_mem ((hm i).2 hun)
      have hbits:=bits_of_ready hS hc hoi hall
      have hpi:∀ x∈l1,PairOK md ops kd bs x i:=fun x hx=>(List.pairwise_append.1 hs).2.2 x hx i (List.mem_cons_self ..)
      have hfree:=prefix_free (kd:=kd) (l1:=l1) hoi (fun x hx=>(hpi x hx).1) (fun x hx=>(hm x).1 (List.mem_append_left _ hx)) hbits
      have hsz:=lt_of_unlisted hun
      have hsub0:(l1++l2).Sublist (l1++i :: l2):=List.Sublist.append_left (List.sublist_cons_self _ _) _
      have hnd:i∉l1++l2:=by
        have h1:=List.nodup_append.1 hd
        intro hmem
        rcases List.mem_append.1 hmem with hh | hh
        · exact h1.2.2 i hh i (List.mem_cons_self ..) rfl
        · exact (List.nodup_cons.1 h1.2.1).1 hh
      have hn':(l1++l2).length = n:=by simp at hn ⊢; omega
      have rec_:∀ a' w',Inv1 kd w0 w' (l1++l2)→LI P ops kd w0 Q (l1++l2) a' w'→wpAny P md ops (NQ Q) n (listed.setIfInBounds i true) a' w':=fun a' w' hi' hL =>
        any_of_LI hsel hS hlex n (l1++l2) _ a' w' hn' (hs.sublist hsub0) (hd.sublist hsub0) (by simpa using hz) (mem_erase hm hnd hsz) (closed_set hc hbits) (No14.erase h14) hi' hL
      have hsub:Inv1 kd w0 w (l1++l2):=fun ⟨j,hj,hk⟩=>hi1 ⟨j,hsub0.subset hj,hk⟩
      by_cases hk:kd i≤2
      · obtain ⟨v,hv,hL⟩:=takeQ hsel hoi hk l1 l2 a w hfree (fun h1=>hi1 ⟨i,by simp,h1⟩) h
        unfold wpOp
        rw [hoi]
        rcases hv with ⟨hw,hy⟩ | ⟨hw,rfl⟩
        · simp only [hw,if_true]
          exact .inl (wp_of_YA (hy w (Cl.self fun h1=>hi1 ⟨i,by simp,h1⟩)) (rec_ _ _ hsub hL))
        · simp only [hw,Bool.false_eq_true,if_false]
          exact rec_ _ _ hsub hL
      · obtain ⟨g1,g2⟩:=takeR hsel hoi (by omega) l1 l2 a w hfree h
        unfold wpOp
        rw [hoi]
        by_cases hw:Region.wanted oi (yielded ops a.tmps) = true
        · simp only [hw,if_true]
          refine .inl (Oper.wp_mono (fun a' w' hK=>rec_ a' w' ?_ hK.2) (wp_weak (g1 hw)))
          rintro ⟨j,hj,hkj⟩
          by_cases h3:kd i = 3
          · exact (hsub ⟨j,hj,hkj⟩).trans (hK.1 h3)
          · exfalso
            rcases List.mem_append.1 hj with hh | hh
            · obtain ⟨oj,hoj⟩:∃ oj,ops[j]? = some oj:=by
                have:=lt_of_unlisted ((hm j).1 (List.mem_append_left _ hh))
                exact ⟨ops[j]'(by omega),by simp [show j < ops.size by omega]⟩
              have:=(okj (hfree j hh oj hoj).2 (by omega)).2 (by omega)
              omega
            · exact h14 l1 i l2 rfl (by omega) j hh hkj
        · simp only [hw,Bool.false_eq_true,if_false]
          exact rec_ _ _ hsub (g2 (by simpa using hw))
theorem LI_of_LW (ks:List Nat):∀ (os:List Oper) (k:Nat) (a:Act) (w:World),(∀ j,os[j]? = ops[k + j]?) →
    LW P ops w0 Q os (ks.drop k) a w→LI P ops (fun i=>ks.getD i 0) w0 Q (List.range' k os.length) a w
  | [],_,_,_,_,h=>by simpa [LI,LW] using h
  | o :: os,k,a,w,ho,h=>by
    have h0:ops[k]? = some o:=by simpa using (ho 0).symm
    have hr:∀ a w,LW P ops w0 Q os (ks.drop (k + 1)) a w→LI P ops (fun i=>ks.getD i 0) w0 Q (List.range' (k + 1) os.length) a w:=fun a w hh =>
      LI_of_LW ks os (k + 1) a w (fun j=>by have:=ho (j + 1); simpa [Nat.add_assoc,Nat.add_comm 1 j] using this) hh
    have hlt:k < ks.length:=by
      rcases Nat.lt_or_ge k ks.length with hh | hh
      · exact hh
      · rw [List.drop_of_length_le hh] at h; exact h.elim
    have hd:ks.drop k = ks[k] :: ks.drop (k + 1):=List.drop_eq_getElem_cons hlt
    rw [hd] at h
    simp only [List.length_cons,List.range'_succ,LI,h0,LW] at h ⊢
    have hg:ks.getD k 0 = ks[k]:=by simp [hlt]
    split
    · rename_i hw
      rw [if_pos hw] at h
      rw [hg]
      exact h.mono hr
    · rename_i hw
      rw [if_neg hw] at h
      exact hr _ _ h
theorem wp_draw {id:Nat} {Q:Exit→Act→World→Prop} {a:Act} {w:World} (os:List Oper) (ks:List Nat) (hm:P.follows .mixedOrders = true) (hB:chk os.toArray ks = true)
    (h:LW P os.toArray w.drew (fun a w=>Q .normal a w) os ks a w.drew):(Code.region id os.toArray true).wp P Q a w:=by
  refine wp_region_any hm ?_
  simp only [chk,Bool.and_eq_true] at hB
  obtain ⟨⟨hsel,hpl⟩,h14⟩:=hB
  have hz:∀ {j:Nat} {o:Oper},os.toArray[j]? = some o→(o,j)∈os.toArray.toList.zipIdx:=by
    intro j o ho
    rw [List.mem_zipIdx_iff_getElem?]
    simpa using ho
  have hall:∀ j oj,os.toArray[j]? = some oj→_:=fun j oj hj=>List.all_eq_true.1 hpl _ (hz hj)
  have hF:Free os.toArray (fun i=>ks.getD i 0) (fun j=>(Region.before os.toArray).toList.getD j 0):=by
    intro i j oi oj hij hi hj
    have h3:=(Bool.and_eq_true _ _ ▸ hall j oj hj:_∧_).2
    have h4:=List.all_eq_true.1 h3 _ (hz hi)
    simp only [Bool.or_eq_true,Bool.not_eq_true',decide_eq_false_iff_not,Bool.and_eq_true] at h4
    rcases h4 with (h4 | h4) | h4
    · exact absurd hij h4
    · exact .inl h4
    · exact .inr h4
  have hlex:∀ j oj,os.toArray[j]? = some oj→∀ e∈oj.after,Region.binds .any e = true→e.on < j:=by
    intro j oj hj e he hb
    have h1:=(Bool.and_eq_true _ _ ▸ (Bool.and_eq_true _ _ ▸ hall j oj hj:_∧_).1:_∧_).1
    have h2:=(Array.all_eq_true_iff_forall_mem.1 h1) e he
    simpa [hb] using h2
  have key:=any_of_LI (P:=P) (ops:=os.toArray) (md:=.any) (kd:=fun i=>ks.getD i 0) (bs:=fun j=>(Region.before os.toArray).toList.getD j 0) (w0:=w.drew) (Q:=fun a w=>Q .normal a w)
    (Region.noSelect_spec hsel) ?_ ?_ os.length (List.range' 0 os.length) (Array.replicate os.length false) a w.drew (by simp) ?_ List.nodup_range' (by simp) ?_ ?_ ?_ (fun _=>Ext.refl _) ?_
  · have:=wpAny_weak _ _ _ _ key
    simpa using this
  · intro j oj hj i hb
    have h3:=(Bool.and_eq_true _ _ ▸ (Bool.and_eq_true _ _ ▸ hall j oj hj:_∧_).1:_∧_).2
    have h5:(Region.before os.toArray).toList.getD j 0 = oj.after.foldl (fun s e=>if Region.binds .any e then s ||| 2 ^ e.on ||| (Region.before os.toArray).toList.getD e.on 0 else s) 0:=by simpa using h3
    dsimp only at hb
    rw [h5,← Array.foldl_toList] at hb
    rcases foldl_bits _ _ _ _ hb with hb | ⟨e,he,hbb,hh⟩
    · simp at hb
    · exact ⟨e,Array.mem_toList_iff.1 he,hbb,hh⟩
  · exact hlex
  · exact pairs_sorted hF hlex List.pairwise_lt_range'
  · intro i
    simp only [List.mem_range',Nat.zero_add,Nat.one_mul]
    constructor
    · rintro ⟨x,hx,rfl⟩; simp [hx]
    · intro hh
      rcases Nat.lt_or_ge i os.length with h' | h'
      · exact ⟨i,h',rfl⟩
      · simp [Array.getElem?_eq_none (show (Array.replicate os.length false).size≤i by simpa using h')] at hh
  · intro i hi
    rcases Nat.lt_or_ge i os.length with h' | h'
    · simp [h'] at hi
    · simp [Array.getElem?_eq_none (show (Array.replicate os.length false).size≤i by simpa using h')] at hi
  · intro l1 i l2 hl hk j hj
    have hs:(l1++i :: l2).Pairwise (· < ·):=hl ▸ List.pairwise_lt_range'
    have hij:i < j:=List.rel_of_pairwise_cons (List.pairwise_append.1 hs).2.1 hj
    have mem:∀ x∈l1++i :: l2,x < os.length:=by
      intro x hx
      rw [← hl] at hx
      simp only [List.mem_range',Nat.zero_add,Nat.one_mul] at hx
      obtain ⟨y,hy,rfl⟩:=hx
      exact hy
    have hi:=mem i (by simp)
    have hj':=mem j (by simp [hj])
    have h1:=List.all_eq_true.1 h14 _ (hz (j:=i) (o:=os[i]) (by simp [hi]))
    simp only [Bool.or_eq_true,Bool.not_eq_true',decide_eq_false_iff_not] at h1
    rcases h1 with h1 | h1
    · exact absurd hk h1
    · have h2:=List.all_eq_true.1 h1 _ (hz (j:=j) (o:=os[j]) (by simp [hj']))
      simp only [Bool.or_eq_true,Bool.not_eq_true',decide_eq_false_iff_not] at h2
      rcases h2 with h2 | h2
      · exact absurd hij h2
      · simpa using h2
  · exact LI_of_LW ks os 0 a w.drew (by simp) (by simpa using h)
end
section
variable {P:Program} {ops:Array Oper} {w0:World} {Q:Act→World→Prop} {os:List Oper} {ks:List Nat} {N:Nat} {ρ:Nat→Value} {w:World}
theorem lw_nil {a:Act} (h:Q a w):LW P ops w0 Q [] ks a w:=h
theorem lw_q {o:Oper} {k d:Nat} (hk:k≤2) (hd:o.dst = some d) (hu:Up ops N ρ o) (v:Value) (hr:∀ w',Cl w0 w k w'→(execOp (evF N ρ) o).run P w' = .ok (.value v) w')
    (h:LW P ops w0 Q os ks (mk N (upd ρ d v)) w):LW P ops w0 Q (o :: os) (k :: ks) (mk N ρ) w:=by
  simp only [LW]
  rw [if_pos hu]
  unfold OneOp
  rw [if_pos hk]
  refine ⟨v,fun w' hc=>.inl ?_,?_⟩
  · rw [mk_eval]; exact hr w' hc
  · rw [hd,mk_put]; exact h
theorem lw_r {o:Oper} {d:Nat} (hd:o.dst = some d) (hu:Up ops N ρ o)
    (v:Value) (w1:World) (hr:(execOp (evF N ρ) o).run P w = .ok (.value v) w1) (hE:Ext w w1) (h:LW P ops w0 Q os ks (mk N (upd ρ d v)) w1):LW P ops w0 Q (o :: os) (3 :: ks) (mk N ρ) w:=by
  simp only [LW]
  rw [if_pos hu]
  unfold OneOp
  rw [if_neg (by decide),if_pos rfl]
  unfold Oper.wp
  rw [mk_eval,hr]
  show Ext w w1∧LW P ops w0 Q os ks ((mk N ρ).put o.dst v) w1
  rw [hd,mk_put]
  exact ⟨hE,h⟩
theorem lw_call {d:Nat} {x:Operand} {xs:Array Operand} {ats:Array TypeId} {ty:TypeId} {pos:String} {aft:Array Edge} {g:Option (Nat × Bool)} (f:FuncId) (first cap:List Value) (args:List Value)
    (hx:evF N ρ x = .func (.func f) first.toArray cap.toArray) (hxs:first++(xs.toList.map (evF N ρ))++cap = args) (hf:((P.funcs[f]?).map fun fn=>(fn.name != "runtime.NumGoroutine") && fn.body.isSome) = some true)
    (hu:Up ops N ρ ⟨some d,.call ⟨.value x,xs,ats⟩,ty,pos,aft,g⟩) {R:Ending→World→Prop} (hc:Calls P f args.toArray w R)
    (h:∀ e w1,R e w1→∃ v,e = .returned v∧Ext w w1∧LW P ops w0 Q os ks (mk N (upd ρ d v)) w1) :
    LW P ops w0 Q (⟨some d,.call ⟨.value x,xs,ats⟩,ty,pos,aft,g⟩ :: os) (3 :: ks) (mk N ρ) w:=by
  simp only [LW]
  rw [if_pos hu]
  unfold OneOp
  rw [if_neg (by decide),if_pos rfl]
  unfold Oper.wp
  rw [mk_eval]
  have hrun:(execOp (evF N ρ) ⟨some d,.call ⟨.value x,xs,ats⟩,ty,pos,aft,g⟩).run P w = .ok (.enter f args.toArray) w:=by
    obtain ⟨fn,hfn,hb⟩:=Option.map_eq_some_iff.1 hf
    simp only [Bool.and_eq_true,bne_iff_ne,ne_eq] at hb
    have hargs:first.toArray++xs.map (evF N ρ)++cap.toArray = args.toArray:=by
      rw [← hxs]; apply Array.ext'; simp
    obtain ⟨c,hbc⟩:=Option.isSome_iff_exists.1 hb.2
    have hcf:(callFunc f args.toArray).run P w = .ok (.enter f args.toArray) w:=by
      simp [callFunc,hfn,hb.1,hbc]
    simp [execOp,resolve,hargs,hx,Deferred.ofValue,invoke,hcf]
  rw [hrun]
  refine Calls.mono hc (fun e w1 he=>?_)
  obtain ⟨v,rfl,hE,hL⟩:=h e w1 he
  show Ext w w1∧LW P ops w0 Q os ks ((mk N ρ).put (some d) v) w1
  rw [mk_put]
  exact ⟨hE,hL⟩
theorem lw_callq {d:Nat} {x:Operand} {xs:Array Operand} {ats:Array TypeId} {ty:TypeId} {pos:String} {aft:Array Edge} {g:Option (Nat × Bool)} (f:FuncId) (first cap:List Value) (args:List Value)
    (hx:evF N ρ x = .func (.func f) first.toArray cap.toArray) (hxs:first++(xs.toList.map (evF N ρ))++cap = args) (hf:((P.funcs[f]?).map fun fn=>(fn.name != "runtime.NumGoroutine") && fn.body.isSome) = some true)
    (hu:Up ops N ρ ⟨some d,.call ⟨.value x,xs,ats⟩,ty,pos,aft,g⟩) (v:Value) (hc:∀ w',Calls P f args.toArray w' (fun e w''=>e = .returned v∧w'' = w'))
    (h:LW P ops w0 Q os ks (mk N (upd ρ d v)) w) :
    LW P ops w0 Q (⟨some d,.call ⟨.value x,xs,ats⟩,ty,pos,aft,g⟩ :: os) (0 :: ks) (mk N ρ) w:=by
  simp only [LW]
  rw [if_pos hu]
  unfold OneOp
  rw [if_pos (by decide)]
  have hrun:∀ w,(execOp (evF N ρ) ⟨some d,.call ⟨.value x,xs,ats⟩,ty,pos,aft,g⟩).run P w = .ok (.enter f args.toArray) w:=by
    intro w
    obtain ⟨fn,hfn,hb⟩:=Option.map_eq_some_iff.1 hf
    simp only [Bool.and_eq_true,bne_iff_ne,ne_eq] at hb
    have hargs:first.toArray++xs.map (evF N ρ)++cap.toArray = args.toArray:=by
      rw [← hxs]; apply Array.ext'; simp
    obtain ⟨c,hbc⟩:=Option.isSome_iff_exists.1 hb.2
    have hcf:(callFunc f args.toArray).run P w = .ok (.enter f args.toArray) w:=by
      simp [callFunc,hfn,hb.1,hbc]
    simp [execOp,resolve,hargs,hx,Deferred.ofValue,invoke,hcf]
  refine ⟨v,fun w' _=>.inr (.inr ⟨f,args.toArray,?_,hc w'⟩),?_⟩
  · rw [mk_eval]; exact hrun w'
  · show LW P ops w0 Q os ks ((mk N ρ).put (some d) v) w
    rw [mk_put]; exact h
end
section
variable {P:Program} {ops:Array Oper} {w0:World} {Q:Act→World→Prop} {os:List Oper} {ks:List Nat} {N:Nat} {ρ:Nat→Value} {w:World}
  {d:Nat} {ty:TypeId} {pos:String} {aft:Array Edge} {g:Option (Nat × Bool)} {t e:TypeId}
theorem q_idx {t e:TypeId} {x y:Operand} {v:Value} {n s:Nat} {k:IntKind} {i:Int} (j:Nat) (ht:P.underlying t = some (.slice e)) {z:Value} {b:Nat} (hi:TI P e s z b) (hx:evF N ρ x = v) (hy:evF N ρ y = .int k i)
    (hs:isSl v n) (hj:i = (j:Int)) (hlt:j < n) (hu:Up ops N ρ ⟨some d,.indexAddr t x y,ty,pos,aft,g⟩)
    (h:LW P ops w0 Q os ks (mk N (upd ρ d (eptr v j s))) w):LW P ops w0 Q (⟨some d,.indexAddr t x y,ty,pos,aft,g⟩ :: os) (0 :: ks) (mk N ρ) w :=
  lw_q (by decide) rfl hu _ (fun w' _=>by
    obtain ⟨a,c,rfl,ha⟩:=hs
    obtain ⟨inf,h1,_,h3,_⟩:=hi.get
    subst hj
    cases a with
    | none=>have:=ha rfl; omega
    | some a =>
      have hlt':(j:Int) < (n:Int):=by omega
      simp [execOp,hx,hy,Instr.indexAt,asIntOf,run_underlying ht,sizeOf,typeInfo,h1,h3,eptr,hlt]) h
theorem q_fldP {s:TypeId} {x:Operand} {i:Nat} {p:Value} {b o:Nat} (off:Nat) (hf:fdO P s i off = true) (hx:evF N ρ x = p) (hp:p = .pointer (some ⟨b,o,none⟩)) (hu:Up ops N ρ ⟨some d,.fieldAddr s x i,ty,pos,aft,g⟩)
    (h:LW P ops w0 Q os ks (mk N (upd ρ d (padd p off))) w):LW P ops w0 Q (⟨some d,.fieldAddr s x i,ty,pos,aft,g⟩ :: os) (0 :: ks) (mk N ρ) w :=
  lw_q (by decide) rfl hu _ (fun w' _=>by
    subst hp
    unfold fdO at hf
    split at hf
    · rename_i fs hfs
      split at hf
      · rename_i f hff
        simp only [Bool.and_eq_true,beq_iff_eq] at hf
        obtain ⟨rfl,hf2⟩:=hf
        split at hf2
        · rename_i inf hin
          have hne:inf.size≠0:=by simpa using hf2
          simp [execOp,Instr.fieldAt,Instr.sureAddr,run_underlying hfs,hff,hx,fieldPlace,sizeOf,typeInfo,hin,hne,add_mk,padd]
        · cases hf2
      · cases hf
    · cases hf) h
end
section
variable {P:Program} {ops:Array Oper} {w0:World} {Q:Act→World→Prop} {os:List Oper} {ks:List Nat} {N:Nat} {ρ:Nat→Value} {w:World}
  {d:Nat} {ty:TypeId} {pos:String} {aft:Array Edge} {g:Option (Nat × Bool)} {t e:TypeId} {z:Value} {b:Nat}
theorem r_one {α:Type} {E:Stand α} (hE:Good E) {x:Operand} {u:Value} {y:α} {B U:Nat} (ht:P.underlying t = some (.slice e)) (hi:TI P e 1 z b) (hz:z.cells = #[z]) (hx:evF N ρ x = u) (hy:Fr E B U w.heap u y) (hB:B≤w.heap.size)
    (hu:Up ops N ρ ⟨some d,.buildSlice t 1 #[(0,x)],ty,pos,aft,g⟩)
    (h:∀ v w1,_root_.Go.Proofs.YtlbefjfhfodnlaaDoor.Ext w w1→w1.heap.size = w.heap.size + 1→Fr (owL E e) B w1.heap.size w1.heap v [y]→LW P ops w0 Q os ks (mk N (upd ρ d v)) w1) :
    LW P ops w0 Q (⟨some d,.buildSlice t 1 #[(0,x)],ty,pos,aft,g⟩ :: os) (3 :: ks) (mk N ρ) w:=by
  obtain ⟨F,h1,h2,h3⟩:=hy
  have hr:=run_bs1 (P:=P) (w:=w) ht hi (hE.cells h1) hz
  have hrun:(execOp (evF N ρ) ⟨some d,.buildSlice t 1 #[(0,x)],ty,pos,aft,g⟩).run P w = .ok (.value (.slice (some ⟨w.heap.size,0,none⟩) 1 1)) (w.alloc (.cells #[u] e)):=by
    simp only [execOp,List.map_toArray,List.map_cons,List.map_nil,Sem.run_bind,hx,hr,Result.andThen_ok,Sem.run_pure]
  refine lw_r rfl hu _ _ hrun (J.ext (ext_alloc _ _)) (h _ _ (ext_alloc _ _) (by simp) ?_)
  have hn:=owL_new (e:=e) (w:=w) hE (us:=[u]) (xs:=[y]) (F:=F++[]) (cur:=#[u]) ⟨F,[],rfl,h1,rfl⟩ (by simp [maxLen]) rfl (by simp)
  refine ⟨_,hn,?_,fun c hc=>?_⟩
  · rw [List.append_nil,List.nodup_cons]
    exact ⟨fun hm=>by have:=hE.lt h1 _ hm; omega,h2⟩
  · have hlt:=(good_owL hE).lt hn c hc
    refine ⟨?_,hlt⟩
    rcases List.mem_cons.1 hc with rfl | hc
    · exact hB
    · exact (h3 c (by simpa using hc)).1
end
end Jx
end Go.Proofs.YtlbefjfhfodnlaaDoor
namespace Go.Proofs.YtlbefjfhfodnlaaDoor
open Go Go.RowKit
set_option linter.unusedVariables false
set_option linter.unusedSimpArgs false
def strE (a b:ByteArray):Bool:=a.toList == b.toList
section ops
variable {P:Program} {ops:Array Oper} {w0:World} {Q:Act→World→Prop} {os:List Oper} {ks:List Nat} {N:Nat} {ρ:Nat→Value} {w:World}
  {d:Nat} {ty:TypeId} {pos:String} {aft:Array Edge} {g:Option (Nat × Bool)} {t e:TypeId}
theorem q_eqls {xt yt:TypeId} {x y:Operand} {a b:ByteArray} (c:Bool) (ht:P.underlying xt = some .string) (hx:evF N ρ x = .string a) (hy:evF N ρ y = .string b) (hc:strE a b = c) (hu:Up ops N ρ ⟨some d,.binOp .eql xt x y yt,ty,pos,aft,g⟩)
    (h:LW P ops w0 Q os ks (mk N (upd ρ d (.bool c))) w):LW P ops w0 Q (⟨some d,.binOp .eql xt x y yt,ty,pos,aft,g⟩ :: os) (0 :: ks) (mk N ρ) w :=
  lw_q (by decide) rfl hu _ (fun w' _=>by
    have he:(eqGuard .eql xt x y (.string a) (.string b)).run P w' = .ok () w':=rfl
    have hr:(binOp .eql xt (.string a) (.string b)).run P w' = .ok (.bool (strE a b)) w':=by simp [binOp,Op.stringOp,strE]
    simp only [execOp,hx,hy,Sem.run_bind,he,Result.andThen_ok,hr,hc,Sem.run_pure]) h
theorem q_neqs {xt yt:TypeId} {x y:Operand} {a b:ByteArray} (c:Bool) (ht:P.underlying xt = some .string) (hx:evF N ρ x = .string a) (hy:evF N ρ y = .string b) (hc:(!strE a b) = c) (hu:Up ops N ρ ⟨some d,.binOp .neq xt x y yt,ty,pos,aft,g⟩)
    (h:LW P ops w0 Q os ks (mk N (upd ρ d (.bool c))) w):LW P ops w0 Q (⟨some d,.binOp .neq xt x y yt,ty,pos,aft,g⟩ :: os) (0 :: ks) (mk N ρ) w :=
  lw_q (by decide) rfl hu _ (fun w' _=>by
    have he:(eqGuard .neq xt x y (.string a) (.string b)).run P w' = .ok () w':=rfl
    have hr:(binOp .neq xt (.string a) (.string b)).run P w' = .ok (.bool (!strE a b)) w':=by simp [binOp,Op.stringOp,strE]
    simp only [execOp,hx,hy,Sem.run_bind,he,Result.andThen_ok,hr,hc,Sem.run_pure]) h
end ops
end Go.Proofs.YtlbefjfhfodnlaaDoor
namespace Go.Proofs.YtlbefjfhfodnlaaDoor
open Go Go.RowKit
set_option linter.unusedVariables false
set_option linter.unusedSimpArgs false
def owS {α:Type} (s:Nat) (E:StandN α) (e:TypeId):Stand (List α):=fun H v xs F =>
  (v = .slice none 0 0∧xs = []∧F = []) ∨
  ∃ css g cap cur F',elsN E H css xs F'∧v = .slice (some ⟨g,0,none⟩) xs.length cap∧H[g]? = some (.cells cur e (0,0))∧xs.length≤cap∧cap≤maxLen∧cur.size = cap * s∧cur.toList.take (xs.length * s) = css.flatten∧F = g :: F'
section owS
variable {α:Type} {E:StandN α} {s:Nat} {e:TypeId} {H H':Array Obj} {v:Value} {xs:List α} {F:List Nat}
theorem good_owS (hE:GoodN s E):Good (owS s E e) where
  cells:=by
    rintro H v xs F (⟨rfl,_⟩ | ⟨us,g,cap,cur,F',_,rfl,_⟩) <;> rfl
  one:=by
    rintro H v xs F (⟨rfl,_⟩ | ⟨us,g,cap,cur,F',_,rfl,_⟩) <;> rfl
  lt:=by
    rintro H v xs F (⟨rfl,_,rfl⟩ | ⟨us,g,cap,cur,F',h,rfl,hg,_,_,_,_,rfl⟩) b hb
    · cases hb
    · rcases List.mem_cons.1 hb with rfl | hb
      · exact getElem?_lt hg
      · exact h.lt hE b hb
  stable:=by
    rintro H H' v xs F (⟨rfl,h1,h2⟩ | ⟨us,g,cap,cur,F',h,rfl,hg,r1,r2,r3,r4,rfl⟩) hb
    · exact .inl ⟨rfl,h1,h2⟩
    · exact .inr ⟨us,g,cap,cur,F',h.stable hE fun b hh=>hb b (List.mem_cons_of_mem _ hh),rfl,by rw [hb g (List.mem_cons_self ..)]; exact hg,r1,r2,r3,r4,rfl⟩
theorem owS.rd (hE:GoodN s E) (h:owS s E e H v xs F):rdS s E H v xs F:=by
  rcases h with ⟨rfl,rfl,rfl⟩ | ⟨us,g,cap,cur,F',h,rfl,hg,r1,r2,r3,r4,rfl⟩
  · exact .inl ⟨none,0,rfl,rfl,rfl⟩
  · refine .inr ⟨us,g,0,cap,cur,e,(0,0),F',h,rfl,hg,?_,⟨Nat.le_trans r1 r2,r1⟩,rfl⟩
    rw [List.drop_zero]; exact r4
theorem owS.isSl (h:owS s E e H v xs F):isSl v xs.length:=by
  rcases h with ⟨rfl,rfl,_⟩ | ⟨us,g,cap,cur,F',_,rfl,_⟩
  · exact ⟨none,0,rfl,fun _=>rfl⟩
  · exact ⟨_,_,rfl,fun h=>by cases h⟩
theorem owS.lenle (h:owS s E e H v xs F):xs.length≤maxLen:=by
  rcases h with ⟨_,rfl,_⟩ | ⟨us,g,cap,cur,F',_,_,_,r1,r2,_⟩
  · simp
  · exact Nat.le_trans r1 r2
end owS
theorem flat_set1 {s:Nat} {u:Value}:∀ {css:List (List Value)} {k c:Nat} {cs:List Value},(∀ c∈css,c.length = s)→css[k]? = some cs→c < s→css.flatten.set (k * s + c) u = (css.set k (cs.set c u)).flatten
  | [],_,_,_,_,hk,_=>by simp at hk
  | x :: css,0,c,cs,h,hk,hc=>by
    have hx:=h x (List.mem_cons_self ..)
    have:x = cs:=by simpa using hk
    subst this
    rw [Nat.zero_mul,Nat.zero_add,List.flatten_cons,List.set_append,if_pos (by omega),List.set_cons_zero,List.flatten_cons]
  | x :: css,k + 1,c,cs,h,hk,hc=>by
    have hx:=h x (List.mem_cons_self ..)
    have ih:=flat_set1 (s:=s) (u:=u) (css:=css) (k:=k) (c:=c) (cs:=cs) (fun c hc=>h c (List.mem_cons_of_mem _ hc)) (by simpa using hk) hc
    have e1:(k + 1) * s + c = x.length + (k * s + c):=by rw [Nat.succ_mul,hx]; omega
    rw [e1,List.flatten_cons,List.set_append,if_neg (by omega),Nat.add_sub_cancel_left,ih,List.set_cons_succ,List.flatten_cons]
theorem elsN.lens {α:Type} {E:StandN α} {s:Nat} {H:Array Obj} (hE:GoodN s E):∀ {css:List (List Value)} {xs:List α} {F:List Nat},elsN E H css xs F→∀ c∈css,c.length = s
  | [],[],_,_,c,hc=>by cases hc
  | _ :: _,_ :: _,_,⟨F1,F2,rfl,h1,h2⟩,c,hc=>(List.mem_cons.1 hc).elim (fun h=>by rw [h]; exact hE.len h1) (elsN.lens hE h2 c)
  | [],_ :: _,_,h,_,_=>h.elim
  | _ :: _,[],_,h,_,_=>h.elim
end Go.Proofs.YtlbefjfhfodnlaaDoor
namespace Go.Proofs.YtlbefjfhfodnlaaDoor
open Go Go.RowKit
set_option linter.unusedVariables false
set_option linter.unusedSimpArgs false
theorem owS.isPtr {α:Type} {E:StandN α} {s k:Nat} {e:TypeId} {H:Array Obj} {v:Value} {xs:List α} {F:List Nat} (h:owS s E e H v xs F) (hk:k < xs.length):∃ b o,eptr v k s = .pointer (some ⟨b,o,none⟩):=by
  rcases h with ⟨rfl,rfl,rfl⟩ | ⟨css,g,cap,cur,F',h,rfl,hg,r1,r2,r3,r4,rfl⟩
  · simp at hk
  · exact ⟨_,_,eptr_s ..⟩
end Go.Proofs.YtlbefjfhfodnlaaDoor
namespace Go.Proofs.YtlbefjfhfodnlaaDoor
open Go Go.RowKit
set_option linter.unusedVariables false
set_option linter.unusedSimpArgs false
structure Av where
  kind:Int
  arg:Int
deriving DecidableEq
def Av.zero:Av:=⟨0,0⟩
def avK (a:Av):Prop:=(a.kind = 1∧1≤a.arg∧a.arg≤40)∨((a.kind = 2∨a.kind = 3)∧0≤a.arg∧a.arg≤7)∨(a.kind = 4∧a.arg = 0)
instance (a:Av):Decidable (avK a):=by unfold avK; infer_instance
end Go.Proofs.YtlbefjfhfodnlaaDoor
namespace Go.Proofs.YtlbefjfhfodnlaaDoor
open Go Go.RowKit
set_option linter.unusedVariables false
set_option linter.unusedSimpArgs false
def avC (a:Av):List Value:=[.int .i64 a.kind,.int .i64 a.arg]
@[simp] theorem avC_len (a:Av):(avC a).length = 2:=rfl
def avR (a:Av):Prop:=i64 a.kind∧i64 a.arg
def rAv:StandN Av:=fun _ cs x F=>cs = avC x∧avR x∧F = []
theorem good_rAv:GoodN 2 rAv where
  len:=by rintro H cs x F ⟨rfl,_⟩; rfl
  one:=by
    rintro H cs x F ⟨rfl,_⟩ u hu
    unfold avC at hu
    simp only [List.mem_cons,List.not_mem_nil,or_false] at hu
    rcases hu with rfl | rfl <;> exact ⟨rfl,rfl⟩
  lt:=by rintro H cs x F ⟨_,_,rfl⟩ b hb; cases hb
  stable:=by rintro H H' cs x F ⟨h1,h2,h3⟩ _; exact ⟨h1,h2,h3⟩
theorem rn_av {S:List Nat} {H:Array Obj} {cs:List Value} {x:Av} (h:RN S rAv H cs x):cs = avC x∧avR x:=by
  obtain ⟨F,h,_⟩:=h
  exact ⟨h.1,h.2.1⟩
end Go.Proofs.YtlbefjfhfodnlaaDoor
namespace Go.Proofs.YtlbefjfhfodnlaaDoor
open Go Go.RowKit
set_option linter.unusedVariables false
set_option linter.unusedSimpArgs false
def avB (a:Av):Bool:=if a.kind = 1 then decide (1≤a.arg) && decide (a.arg≤40) else if a.kind = 2∨a.kind = 3 then decide (0≤a.arg) && decide (a.arg≤7) else decide (a.kind = 4) && decide (a.arg = 0)
section
variable {a:Av} {l:List Av} {k:Nat}
theorem avB_iff:avB a = true↔avK a:=by
  unfold avB avK
  by_cases h1:a.kind = 1
  · rw [if_pos h1,Bool.and_eq_true,decide_eq_true_eq,decide_eq_true_eq]; omega
  · rw [if_neg h1]
    by_cases h2:a.kind = 2∨a.kind = 3
    · rw [if_pos h2,Bool.and_eq_true,decide_eq_true_eq,decide_eq_true_eq]; omega
    · rw [if_neg h2,Bool.and_eq_true,decide_eq_true_eq,decide_eq_true_eq]; omega
theorem avB_t (h:avK a):true = avB a:=(avB_iff.2 h).symm
theorem avB_f (h:¬ avK a):false = avB a:=by
  cases hh:avB a with
  | false=>rfl
  | true=>exact absurd (avB_iff.1 hh) h
def schB (l:List Av):Bool:=decide (l.length≤400) && !l.any fun a=>!avB a
theorem schB_iff:schB l = true↔l.length≤400∧∀ i,i < l.length→avK (l.getD i Av.zero):=by
  unfold schB
  rw [Bool.and_eq_true,decide_eq_true_eq]
  refine and_congr_right fun _=>?_
  rw [Bool.not_eq_true',← Bool.not_eq_true,List.any_eq_true]
  constructor
  · intro h i hi
    refine avB_iff.1 ?_
    cases hh:avB (l.getD i Av.zero) with
    | true=>rfl
    | false =>
      refine absurd ⟨l.getD i Av.zero,?_,by rw [hh]; rfl⟩ h
      rw [show l.getD i Av.zero = l[i] from by simp [List.getD_eq_getElem?_getD,hi]]
      exact List.getElem_mem hi
  · rintro h ⟨x,hx,hy⟩
    obtain ⟨i,hi,rfl⟩:=List.mem_iff_getElem.1 hx
    have h2:=h i hi
    rw [show l.getD i Av.zero = l[i] from by simp [List.getD_eq_getElem?_getD,hi],← avB_iff] at h2
    rw [h2] at hy; cases hy
theorem schB_big (h:¬ l.length≤400):false = schB l:=by unfold schB; rw [decide_eq_false h]; rfl
theorem schB_any (h:l.length≤400):(!l.any fun a=>!avB a) = schB l:=by unfold schB; rw [decide_eq_true h,Bool.true_and]
theorem schB_bad (hk:k < l.length) (h:avB (l.getD k Av.zero) = false):false = schB l:=by
  cases hh:schB l with
  | false=>rfl
  | true=>rw [avB_iff.2 ((schB_iff.1 hh).2 k hk)] at h; cases h
theorem schB_end (h:∀ i,i < l.length→avB (l.getD i Av.zero) = true):decide (l.length≤400) = schB l:=by
  by_cases h4:l.length≤400
  · rw [decide_eq_true h4]; exact (schB_iff.2 ⟨h4,fun i hi=>avB_iff.1 (h i hi)⟩).symm
  · rw [decide_eq_false h4]; exact schB_big h4
end
end Go.Proofs.YtlbefjfhfodnlaaDoor
namespace Go.Proofs.YtlbefjfhfodnlaaDoor
open Go Go.RowKit
set_option linter.unusedVariables false
set_option linter.unusedSimpArgs false
section res
variable {P:Program} {N:Nat} {ρ:Nat→Value} {w:World} {t:TypeId}
theorem run_loadVarA {s b o:Nat} (ht:aggTy P t s = true) {cs:List Value} (h:LD w.heap (.pointer (some ⟨b,o,none⟩)) cs) (hl:cs.length = s):(loadVar t ⟨b,o,none⟩).run P w = .ok (.agg cs.toArray) w:=by
  obtain ⟨b',o',he,h⟩:=h
  injection he with he
  injection he with he
  injection he with hb ho _
  subst hb; subst ho
  unfold aggTy at ht
  simp only [Bool.and_eq_true] at ht
  obtain ⟨h1,h2⟩:=ht
  split at h1
  · rename_i fs hfs
    split at h2
    · rename_i inf hin
      have hs:inf.size = s:=by simpa using h2
      have hag:(isAgg t).run P w = .ok true w:=by
        unfold isAgg
        simp only [Sem.run_bind,run_underlying hfs,Result.andThen_ok]
        rfl
      have hlc:=run_loadCells_list (P:=P) w ⟨b,o,none⟩ cs (fun j v hj=>by
        rw [add_mk,cell_cellH]
        have hjl:j < cs.length:=(List.getElem?_eq_some_iff.1 hj).1
        rw [h j hjl]
        simp [List.getD,hj])
      rw [hl,← hs] at hlc
      simp [loadVar,hag,sizeOf,typeInfo,hin,hlc]
    · cases h2
  · cases h1
end res
section str
variable {P:Program} {ops:Array Oper} {w0:World} {Q:Act→World→Prop} {os:List Oper} {ks:List Nat} {N:Nat} {ρ:Nat→Value} {w:World}
  {d:Nat} {ty:TypeId} {pos:String} {aft:Array Edge} {g:Option (Nat × Bool)} {t e:TypeId}
theorem q_adds {xt yt:TypeId} {x y:Operand} {a b:ByteArray} (hx:evF N ρ x = .string a) (hy:evF N ρ y = .string b) (hl:a.size + b.size≤9223372036854775807) (hu:Up ops N ρ ⟨some d,.binOp .add xt x y yt,ty,pos,aft,g⟩)
    (h:LW P ops w0 Q os ks (mk N (upd ρ d (.string (a++b)))) w):LW P ops w0 Q (⟨some d,.binOp .add xt x y yt,ty,pos,aft,g⟩ :: os) (0 :: ks) (mk N ρ) w :=
  lw_q (by decide) rfl hu _ (fun w' _=>by
    have he:(eqGuard .add xt x y (.string a) (.string b)).run P w' = .ok () w':=rfl
    have hr:(binOp .add xt (.string a) (.string b)).run P w' = .ok (.string (a++b)) w':=by
      have h2:=run_string_add_sum (P:=P) w' a b hl
      simpa [binOp] using h2
    simp only [execOp,hx,hy,Sem.run_bind,he,Result.andThen_ok,hr,Sem.run_pure]) h
end str
end Go.Proofs.YtlbefjfhfodnlaaDoor
namespace Go.Proofs.YtlbefjfhfodnlaaDoor
open Go Go.RowKit
set_option linter.unusedVariables false
set_option linter.unusedSimpArgs false
theorem fold_set:∀ (cs:List Value) (k:Nat) (A:Array Value),k + cs.length≤A.size→((cs.zipIdx k).foldl (fun A p=>A.setIfInBounds (0 + p.2) p.1) A).toList = A.toList.take k++cs++A.toList.drop (k + cs.length)
  | [],k,A,_=>by simp
  | c :: cs,k,A,h=>by
    rw [List.length_cons] at h
    rw [List.zipIdx_cons,List.foldl_cons,fold_set cs (k + 1) _ (by simp; omega)]
    simp only [Array.toList_setIfInBounds,Nat.zero_add]
    have h1:(A.toList.set k c).take (k + 1) = A.toList.take k++[c]:=by
      rw [List.take_succ_eq_append_getElem (by simp; omega),List.take_set,List.set_eq_of_length_le (by simp; omega)]
      simp
    have h2:(A.toList.set k c).drop (k + 1 + cs.length) = A.toList.drop (k + (c :: cs).length):=by
      rw [List.drop_set_of_lt (by omega),List.length_cons,show k + 1 + cs.length = k + (cs.length + 1) from by omega]
    rw [h1,h2,List.append_assoc (A.toList.take k)]; simp
theorem fold_all {cs:List Value} {A:Array Value} (h:A.size = cs.length):cs.zipIdx.foldl (fun A p=>A.setIfInBounds p.2 p.1) A = cs.toArray:=by
  apply Array.ext'
  have:=fold_set cs 0 A (by omega)
  simp only [List.take_zero,List.nil_append,Nat.zero_add] at this
  rw [List.drop_of_length_le (by rw [Array.length_toList]; omega),List.append_nil] at this
  simpa using this
section run
variable {P:Program} {w:World} {α:Type} {E:StandN α} {s:Nat} {t ty e:TypeId} {b:Nat} {z:Value}
theorem run_bsS {cs:List Value} (ht:P.underlying t = some (.slice e)) (hi:TI P e s z b) (hs:0 < s) (hs2:s≤1000) (hz:z.cells.size = s) (hc:cs.length = s) :
    (Instr.buildSlice t 1 #[(0,.agg cs.toArray)]).run P w = .ok (.slice (some ⟨w.heap.size,0,none⟩) 1 1) (w.alloc (.cells cs.toArray e)):=by
  obtain ⟨i,h1,h2,h3,h4⟩:=hi.get
  have h0:¬ (s = 0):=by omega
  have hA:((Array.range s).map (fun x=>z.cells[x % s]!)).size = cs.length:=by simp [hc]
  have hf:=fold_all hA
  have hbig:¬ (s > 2 ^ 24):=by omega
  simp only [Instr.buildSlice,Sem.run_bind,run_underlying ht,Result.andThen_ok,sizeOf,typeInfo,zeroValue,h1,h2,h3,Nat.one_mul,Instr.fill,hz,Sem.run_pure]
  have hag:(Value.agg cs.toArray).cells = cs.toArray:=rfl
  simp [h0,hbig,hag,hc,newRow,hz,h1,h2,h3,Instr.fill,run_underlying ht,typeInfo]
  rw [hf]
def FrN (E:StandN α) (B U:Nat) (H:Array Obj) (cs:List Value) (x:α):Prop:=∃ G,E H cs x G∧G.Nodup∧∀ b∈G,B≤b∧b < U
theorem owS_new (hE:GoodN s E) {css:List (List Value)} {xs:List α} {F:List Nat} {cur:Array Value} {cap:Nat} (h:elsN E w.heap css xs F) (hl:xs.length≤cap) (hm:cap≤maxLen) (hsz:cur.size = cap * s) (hc:cur.toList.take (xs.length * s) = css.flatten) :
    owS s E e (w.alloc (.cells cur e)).heap (.slice (some ⟨w.heap.size,0,none⟩) xs.length cap) xs (w.heap.size :: F):=by
  refine .inr ⟨css,w.heap.size,cap,cur,F,h.stable hE fun b hb=>?_,rfl,?_,hl,hm,hsz,hc,rfl⟩
  · exact Below.heap_alloc _ _ _ (h.lt hE b hb)
  · show (w.heap.push _)[w.heap.size]? = _
    simp
def FrP {α β:Type} (E:Array Obj→β→α→List Nat→Prop) (S:Nat→Prop) (H:Array Obj) (v:β) (x:α):Prop:=∃ F,E H v x F∧F.Nodup∧∀ b∈F,S b
theorem FrP.chg {α:Type} {E:Stand α} (hE:Good E) {S:Nat→Prop} {w w':World} {v:Value} {x:α} {F:List Nat} (h:FrP E S w.heap v x) (c:Chg F w w') (hF:∀ b∈F,¬ S b):FrP E S w'.heap v x:=by
  obtain ⟨G,h1,h2,h3⟩:=h
  exact ⟨G,hE.stable h1 fun b hb=>c.block b (hE.lt h1 b hb) fun hm=>hF b hm (h3 b hb),h2,h3⟩
theorem FrP.fr {α:Type} {E:Stand α} (hE:Good E) {S:Nat→Prop} {w:World} {v:Value} {x:α} {B:Nat} (h:FrP E S w.heap v x) (hB:∀ b,S b→B≤b):Fr E B w.heap.size w.heap v x:=by
  obtain ⟨G,h1,h2,h3⟩:=h
  exact ⟨G,h1,h2,fun b hb=>⟨hB b (h3 b hb),hE.lt h1 b hb⟩⟩
theorem run_appQ (hE:GoodN s E) (ht:P.underlying t = some (.slice e)) (hi:TI P e s z b) (hz:z.cells.size = s) (hs:0 < s) {v:Value} {xs:List α} {S T:Nat→Prop} (hv:FrP (owS s E e) S w.heap v xs)
    {a:Value} {y:α} (ha:FrP (owS s E e) T w.heap a [y]) (hST:∀ b,S b→T b→False) (hbytes:(xs.length + 1) * b≤140737488355328) (hmx:xs.length + 1≤maxLen) :
    ∃ v' w' F,(Builtin.append_ #[t,t] ty #[v,a]).run P w = .ok v' w'∧FrP (owS s E e) (fun b=>S b∨T b∨b = w.heap.size) w'.heap v' (xs++[y])∧Chg F w w'∧∀ c∈F,S c:=by
  obtain ⟨F,hv1,hn,hF⟩:=hv
  obtain ⟨G,ha1,hnG,hG⟩:=ha
  obtain ⟨i,h1,h2,h3,h4⟩:=hi.get
  subst h4
  have hsmall:xs.length + 1≤9223372036854775807:=by simp only [maxLen] at hmx; omega
  rcases ha1 with ⟨_,h0,_⟩ | ⟨cas,ga,capa,cura,G',hels,rfl,hga,a1,a2,a3,a4,rfl⟩
  · cases h0
  · have hnG':=List.nodup_cons.1 hnG
    have hfl:cas.flatten.length = s:=by have:=hels.flen hE; simpa using this
    simp only [List.length_singleton,Nat.one_mul] at a4 a1
    have hnews:∀ j u,cas.flatten[j]? = some u→w.cell? ((⟨ga,0,none⟩:Addr).add j) = some u:=by
      intro j u hj
      have e1:(⟨ga,0,none⟩:Addr).add j = ⟨ga,j,none⟩:=by
        unfold Addr.add
        split
        · rename_i hh; subst hh; rfl
        · simp
      rw [e1,cell_cellH]
      simp only [cellH,hga]
      rw [← a4,List.getElem?_take] at hj
      split at hj
      · simpa using hj
      · cases hj
    have h1c:∀ u∈cas.flatten,u.oneCell' = true:=fun u hu=>(hels.one hE u hu).2
    have hl1:cas.flatten.length = 1 * i.size:=by rw [h3,hfl,Nat.one_mul]
    have made:∀ (w1:World) (ous:List (List Value)) (F0:List Nat) (rest:Nat),w1.heap = w.heap→w1.os = w.os→w1.tape = w.tape→w1.output = w.output→elsN E w.heap ous xs F0→(∀ c∈F0,c∈F)→F0.Nodup →
        (xs.length + 1 + rest)≤maxLen →
        FrP (owS s E e) (fun b=>S b∨T b∨b = w.heap.size) (w1.alloc (.cells (ous.flatten.toArray++cas.flatten.toArray++Builtin.zeroCells z.cells rest) e)).heap (.slice (some ⟨w.heap.size,0,none⟩) (xs.length + 1) (xs.length + 1 + rest)) (xs++[y]) ∧
          Chg ([]:List Nat) w (w1.alloc (.cells (ous.flatten.toArray++cas.flatten.toArray++Builtin.zeroCells z.cells rest) e)):=by
      intro w1 ous F0 rest hh ho htp hop hou hsub hnd hmax
      have happ:=hou.append hels
      have hofl:=hou.flen hE
      have hzc:(Builtin.zeroCells z.cells rest).size = rest * s:=by simp [Builtin.zeroCells,hz]
      have hsz:(ous.flatten.toArray++cas.flatten.toArray++Builtin.zeroCells z.cells rest).size = (xs.length + 1 + rest) * s:=by
        rw [Nat.add_mul,Nat.add_mul,Nat.one_mul]
        simp only [Array.size_append,List.size_toArray,hzc,hfl,hofl]
      have hlen:(xs++[y]).length = xs.length + 1:=by simp
      have hnew:=owS_new (e:=e) (w:=w1) hE (css:=ous++cas) (xs:=xs++[y]) (F:=F0++G') (cur:=ous.flatten.toArray++cas.flatten.toArray++Builtin.zeroCells z.cells rest) (cap:=xs.length + 1 + rest)
        (by rw [hh]; exact happ) (by rw [hlen]; omega) hmax hsz (by
          rw [hlen,Array.toList_append,Array.toList_append,List.flatten_append]
          have e1:(xs.length + 1) * s = (ous.flatten++cas.flatten).length:=by rw [List.length_append,hofl,hfl,Nat.add_mul,Nat.one_mul]
          rw [e1]; exact List.take_left)
      rw [hh,hlen] at hnew
      have hnn:(w.heap.size :: (F0++G')).Nodup:=by
        rw [List.nodup_cons]
        refine ⟨fun hm=>?_,?_⟩
        · have:=happ.lt hE _ hm; omega
        · rw [List.nodup_append]
          refine ⟨hnd,hnG'.2,?_⟩
          rintro x hx y hy rfl
          exact hST _ (hF x (hsub x hx)) (hG x (List.mem_cons_of_mem _ hy))
      refine ⟨⟨_,hnew,hnn,fun c hc=>?_⟩,ho,htp,hop,?_,fun k hk _=>?_⟩
      · rcases List.mem_cons.1 hc with rfl | hc
        · exact .inr (.inr rfl)
        · rcases List.mem_append.1 hc with hc | hc
          · exact .inl (hF c (hsub c hc))
          · exact .inr (.inl (hG c (List.mem_cons_of_mem _ hc)))
      · show w.heap.size≤(w1.heap.push _).size
        rw [hh]; simp
      · have:=Below.heap_alloc w1 (.cells (ous.flatten.toArray++cas.flatten.toArray++Builtin.zeroCells z.cells rest) e) k (by rw [hh]; exact hk)
        rw [this,hh]
    rcases hv1 with ⟨rfl,rfl,rfl⟩ | ⟨ous,gv,capv,curv,F0,hels0,rfl,hgv,r1,r2,r3,r4,rfl⟩
    · have hr:=run_append_nil (P:=P) w t ty e i z ht h1 h2 ⟨ga,0,none⟩ 1 capa cas.flatten hl1 hnews (by decide) (by decide) (by simp at hbytes ⊢; omega)
      have hge:=grownCap_ge w 1 0 e
      have hgm:=grownCap_le_maxLen w 1 0 e (by simpa using hmx)
      obtain ⟨q1,q2⟩:=made w.drew [] [] (grownCap w 1 0 e - 1) rfl rfl rfl rfl rfl (fun c hc=>by cases hc) List.nodup_nil (by simp; omega)
      refine ⟨_,_,[],hr,?_,?_,fun c hc=>by cases hc⟩
      · have ea:(([]:List α).length + 1 + (grownCap w 1 0 e - 1)) = grownCap w 1 0 e:=by simp; omega
        rw [ea] at q1
        simpa using q1
      · simpa using q2
    · have hn':=List.nodup_cons.1 hn
      have hofl:=hels0.flen hE
      by_cases hroom:xs.length + 1≤capv
      · have hbnd:xs.length * s + s≤curv.size:=by rw [r3,← Nat.succ_mul]; exact Nat.mul_le_mul_right s hroom
        have hr:=run_append_room (P:=P) w t ty e i ht h1 gv xs.length capv curv hgv ⟨ga,0,none⟩ 1 capa cas.flatten hl1 hnews h1c hroom (by rw [h3,hfl]; exact hbnd)
        rw [h3] at hr
        have hgF:gv∉F0:=hn'.1
        have hgG:gv∉G':=fun hm=>hST _ (hF gv (List.mem_cons_self ..)) (hG gv (List.mem_cons_of_mem _ hm))
        refine ⟨_,_,[gv],hr,⟨gv :: (F0++G'),.inr ⟨ous++cas,gv,capv,_,F0++G',?_,by rw [List.length_append,List.length_singleton],setRow_heap w gv curv _ e _ hgv,by rw [List.length_append,List.length_singleton]; exact hroom,r2,?_,?_,rfl⟩,?_,fun c hc=>?_⟩,⟨rfl,rfl,rfl,by simp,fun k _ hk=>setRow_other w gv k _ fun hh=>hk (by simp [hh])⟩,fun c hc=>by rw [List.mem_singleton.1 hc]; exact hF gv (List.mem_cons_self ..)⟩
        · refine (hels0.append hels).stable hE fun c hc=>setRow_other w gv c _ fun hcg=>?_
          subst hcg
          rcases List.mem_append.1 hc with hc | hc
          · exact hgF hc
          · exact hgG hc
        · rw [← r3]
          simp only [List.size_toArray,List.length_append,List.length_take,List.length_drop,Array.length_toList]
          omega
        · rw [List.length_append,List.length_singleton]
          simp only [List.flatten_append]
          rw [r4]
          have e1:(xs.length + 1) * s = (ous.flatten++cas.flatten).length:=by rw [List.length_append,hofl,hfl,Nat.add_mul,Nat.one_mul]
          rw [e1]; exact List.take_left
        · rw [List.nodup_cons,List.nodup_append]
          refine ⟨fun hm=>?_,hn'.2,hnG'.2,?_⟩
          · rcases List.mem_append.1 hm with hm | hm
            · exact hgF hm
            · exact hgG hm
          · rintro x hx y hy rfl
            exact hST _ (hF x (List.mem_cons_of_mem _ hx)) (hG x (List.mem_cons_of_mem _ hy))
        · rcases List.mem_cons.1 hc with rfl | hc
          · exact .inl (hF c (List.mem_cons_self ..))
          · rcases List.mem_append.1 hc with hc | hc
            · exact .inl (hF c (List.mem_cons_of_mem _ hc))
            · exact .inr (.inl (hG c (List.mem_cons_of_mem _ hc)))
      · have holds:∀ j u,ous.flatten[j]? = some u→w.cell? ((⟨gv,0,none⟩:Addr).add j) = some u:=by
          intro j u hj
          have e1:(⟨gv,0,none⟩:Addr).add j = ⟨gv,j,none⟩:=by
            unfold Addr.add
            split
            · rename_i hh; subst hh; rfl
            · simp
          rw [e1,cell_cellH]
          simp only [cellH,hgv]
          rw [← r4,List.getElem?_take] at hj
          split at hj
          · simpa using hj
          · cases hj
        have hr:=run_append_grow (P:=P) w t ty e i z ht h1 h2 ⟨gv,0,none⟩ xs.length capv ous.flatten (by rw [h3,hofl]) holds ⟨ga,0,none⟩ 1 capa cas.flatten hl1 hnews (by omega) (by omega) (growslice_fits (by omega) hbytes)
        have hge:=grownCap_ge w (xs.length + 1) capv e
        have hgm:=grownCap_le_maxLen w (xs.length + 1) capv e hmx
        obtain ⟨q1,q2⟩:=made w.drew ous F0 (grownCap w (xs.length + 1) capv e - (xs.length + 1)) rfl rfl rfl rfl hels0 (fun c hc=>List.mem_cons_of_mem _ hc) hn'.2 (by omega)
        refine ⟨_,_,[],hr,?_,q2,fun c hc=>by cases hc⟩
        have ea:(xs.length + 1 + (grownCap w (xs.length + 1) capv e - (xs.length + 1))) = grownCap w (xs.length + 1) capv e:=by omega
        rw [ea] at q1
        exact q1
theorem run_appS (hE:GoodN s E) (ht:P.underlying t = some (.slice e)) (hi:TI P e s z b) (hz:z.cells.size = s) (hs:0 < s) {v:Value} {xs:List α} {B U:Nat} (hv:Fr (owS s E e) B U w.heap v xs) (hB:B≤w.heap.size)
    {a:Value} {y:α} {B' U':Nat} (ha:Fr (owS s E e) B' U' w.heap a [y]) (hU:U≤B') (hBB:B≤B') (hbytes:(xs.length + 1) * b≤140737488355328) (hmx:xs.length + 1≤maxLen) :
    ∃ v' w' F,(Builtin.append_ #[t,t] ty #[v,a]).run P w = .ok v' w'∧Fr (owS s E e) B w'.heap.size w'.heap v' (xs++[y])∧Chg F w w'∧∀ c∈F,B≤c∧c < U:=by
  obtain ⟨v',w',F,r1,⟨G,h1,h2,h3⟩,r3,r4⟩:=run_appQ (P:=P) (ty:=ty) hE ht hi hz hs (S:=fun b=>B≤b∧b < U) (T:=fun b=>B'≤b∧b < U') hv ha (fun b h1 h2=>by omega) hbytes hmx
  exact ⟨v',w',F,r1,⟨G,h1,h2,fun b hb=>⟨by have:=h3 b hb; omega,(good_owS hE).lt h1 b hb⟩⟩,r3,r4⟩
end run
section ops
variable {P:Program} {ops:Array Oper} {w0:World} {Q:Act→World→Prop} {os:List Oper} {ks:List Nat} {N:Nat} {ρ:Nat→Value} {w:World}
  {d:Nat} {ty:TypeId} {pos:String} {aft:Array Edge} {g:Option (Nat × Bool)} {t e:TypeId} {z:Value} {b s:Nat} {α:Type} {E:StandN α}
theorem r_oneS (hE:GoodN s E) {x:Operand} {cs:List Value} {y:α} {B U:Nat} (ht:P.underlying t = some (.slice e)) (hi:TI P e s z b) (hz:z.cells.size = s) (hs:0 < s∧s≤1000) (hx:evF N ρ x = .agg cs.toArray) (hy:FrN E B U w.heap cs y) (hB:B≤w.heap.size)
    (hu:Up ops N ρ ⟨some d,.buildSlice t 1 #[(0,x)],ty,pos,aft,g⟩)
    (h:∀ v w1,Ext w w1→w1.heap.size = w.heap.size + 1→Fr (owS s E e) B w1.heap.size w1.heap v [y]→LW P ops w0 Q os ks (mk N (upd ρ d v)) w1) :
    LW P ops w0 Q (⟨some d,.buildSlice t 1 #[(0,x)],ty,pos,aft,g⟩ :: os) (3 :: ks) (mk N ρ) w:=by
  obtain ⟨F,h1,h2,h3⟩:=hy
  have hl:=hE.len h1
  have hr:=run_bsS (P:=P) (w:=w) ht hi hs.1 hs.2 hz hl
  have hrun:(execOp (evF N ρ) ⟨some d,.buildSlice t 1 #[(0,x)],ty,pos,aft,g⟩).run P w = .ok (.value (.slice (some ⟨w.heap.size,0,none⟩) 1 1)) (w.alloc (.cells cs.toArray e)):=by
    simp only [execOp,List.map_toArray,List.map_cons,List.map_nil,Sem.run_bind,hx,hr,Result.andThen_ok,Sem.run_pure]
  refine lw_r rfl hu _ _ hrun (ext_alloc _ _) (h _ _ (ext_alloc _ _) (by simp) ?_)
  have hn:=owS_new (e:=e) (w:=w) hE (css:=[cs]) (xs:=[y]) (F:=F++[]) (cur:=cs.toArray) (cap:=1) ⟨F,[],rfl,h1,rfl⟩ (by simp) (by simp [maxLen]) (by simp [hl]) (by simp [← hl])
  refine ⟨_,hn,?_,fun c hc=>?_⟩
  · rw [List.append_nil,List.nodup_cons]
    exact ⟨fun hm=>by have:=hE.lt h1 _ hm; omega,h2⟩
  · have hlt:=(good_owS hE).lt hn c hc
    refine ⟨?_,hlt⟩
    rcases List.mem_cons.1 hc with rfl | hc
    · exact hB
    · exact (h3 c (by simpa using hc)).1
theorem e_appS (hE:GoodN s E) {x y:Operand} {v a:Value} {xs:List α} {y0:α} {B U B' U':Nat} (ht:P.underlying t = some (.slice e)) (hi:TI P e s z b) (hz:z.cells.size = s) (hs:0 < s) (hx:evF N ρ x = v) (hy:evF N ρ y = a) (hv:Fr (owS s E e) B U w.heap v xs) (hB:B≤w.heap.size)
    (ha:Fr (owS s E e) B' U' w.heap a [y0]) (hU:U≤B') (hBB:B≤B') (hbytes:(xs.length + 1) * b≤140737488355328) (hmx:xs.length + 1≤maxLen) (hu:Up ops N ρ ⟨some d,.call ⟨.builtin .append,#[x,y],#[t,t]⟩,ty,pos,aft,g⟩)
    (h:∀ v1 w1 F,Chg F w w1→(∀ c∈F,B≤c∧c < U)→Fr (owS s E e) B w1.heap.size w1.heap v1 (xs++[y0])→LW P ops w0 Q os ks (mk N (upd ρ d v1)) w1) :
    LW P ops w0 Q (⟨some d,.call ⟨.builtin .append,#[x,y],#[t,t]⟩,ty,pos,aft,g⟩ :: os) (4 :: ks) (mk N ρ) w:=by
  obtain ⟨v1,w1,F,r1,r2,r3,r4⟩:=run_appS (P:=P) (ty:=ty) hE ht hi hz hs hv hB ha hU hBB hbytes hmx
  exact lw_e rfl hu v1 w1 (by simp only [execOp,resolve,invoke,builtin,List.map_toArray,List.map_cons,List.map_nil,Sem.run_bind,Sem.run_pure,Result.andThen_ok,hx,hy,r1]) (h v1 w1 F r3 r4 r2)
end ops
theorem frNilS {α:Type} {s:Nat} {E:StandN α} {e:TypeId} (B U:Nat) (H:Array Obj):Fr (owS s E e) B U H (.slice none 0 0) ([]:List α):=⟨[],.inl ⟨rfl,rfl,rfl⟩,List.nodup_nil,fun c hc=>by cases hc⟩
end Go.Proofs.YtlbefjfhfodnlaaDoor
namespace Go.Proofs.YtlbefjfhfodnlaaDoor
open Go Go.RowKit
set_option linter.unusedVariables false
set_option linter.unusedSimpArgs false
namespace Jx
variable [J:JR] {P:Program} {ops:Array Oper} {w0:World} {Q:Act→World→Prop}
theorem tail:∀ {os:List Oper} {ks:List Nat} {a:Act} {w:World} (_:ks.all (fun k=>k == 0 || k == 3 || k == 4) = true) (_:_root_.Go.Proofs.YtlbefjfhfodnlaaDoor.LW P ops w0 Q os ks a w),LW P ops w0 Q os ks a w
  | [],_,_,_,_,h=>h
  | _ :: _,[],_,_,_,h=>h.elim
  | o :: os,k :: ks,a,w,hk,h=>by
    simp only [List.all_cons,Bool.and_eq_true] at hk
    simp only [_root_.Go.Proofs.YtlbefjfhfodnlaaDoor.LW] at h
    simp only [LW]
    split
    · rename_i hw
      rw [if_pos hw] at h
      unfold _root_.Go.Proofs.YtlbefjfhfodnlaaDoor.OneOp at h
      unfold OneOp
      split at h
      · rename_i h2
        rw [if_pos h2]
        have:k = 0:=by
          have:=hk.1
          simp only [Bool.or_eq_true,beq_iff_eq] at this
          omega
        subst this
        obtain ⟨v,h1,h3⟩:=h
        exact ⟨v,fun w' _=>h1 w' trivial,tail hk.2 h3⟩
      · rename_i h2
        rw [if_neg h2]
        split at h
        · rename_i h3
          rw [if_pos h3]
          exact Oper.wp_mono (fun a w hh=>⟨J.ext hh.1,tail hk.2 hh.2⟩) h
        · rename_i h3
          rw [if_neg h3]
          exact Oper.wp_mono (fun a w hh=>tail hk.2 hh) h
    · rename_i hw
      rw [if_neg hw] at h
      exact tail hk.2 h
end Jx
end Go.Proofs.YtlbefjfhfodnlaaDoor
namespace Go.Proofs.YtlbefjfhfodnlaaDoor
open Go Go.RowKit
set_option linter.unusedVariables false
set_option linter.unusedSimpArgs false
def dig (n:Nat):ByteArray:=⟨#[UInt8.ofNat (48 + n)]⟩
theorem dig_eq {n:Int} (h0:0≤n) (h1:n < 10):(⟨#[UInt8.ofNat (IntKind.u8.wrap (((48:Nat):Int) + n)).toNat]⟩:ByteArray) = dig n.toNat:=by
  obtain ⟨k,rfl⟩:∃ k:Nat,n = k:=⟨n.toNat,by omega⟩
  have:∀ k:Fin 10,(⟨#[UInt8.ofNat (IntKind.u8.wrap (((48:Nat):Int) + ((k.val:Nat):Int))).toNat]⟩:ByteArray) = dig k.val:=by decide +kernel
  exact this ⟨k,by omega⟩
theorem dig_size (n:Nat):(dig n).size = 1:=rfl
section str
variable {P:Program} {ops:Array Oper} {w0:World} {Q:Act→World→Prop} {os:List Oper} {ks:List Nat} {N:Nat} {ρ:Nat→Value} {w:World}
  {d:Nat} {ty:TypeId} {pos:String} {aft:Array Edge} {g:Option (Nat × Bool)} {t e:TypeId}
theorem q_byteE {st dt:TypeId} {x:Operand} {v:Value} {n:Int} {B U:Nat} (hs:P.underlying st = some (.slice e)) (he:P.underlying e = some (.int .u8)) (hd:P.underlying dt = some .string) (hx:evF N ρ x = v) (hv:Fr (owL rV e) B U w.heap v [.int .u8 n])
    (hu:Up ops N ρ ⟨some d,.convert st dt x,ty,pos,aft,g⟩) (h:LW P ops w0 Q os ks (mk N (upd ρ d (.string ⟨#[UInt8.ofNat n.toNat]⟩))) w) :
    LW P ops w0 Q (⟨some d,.convert st dt x,ty,pos,aft,g⟩ :: os) (2 :: ks) (mk N ρ) w:=by
  obtain ⟨F,hv,_,_⟩:=hv
  rcases hv with ⟨_,hc,_⟩ | ⟨us,b,cap,cur,F',hels,rfl,hg,q1,q2,q3,q4,rfl⟩
  · cases hc
  · obtain ⟨rfl,rfl⟩:=els_rVe hels
    refine lw_q (by decide) rfl hu _ (fun w' hcl=>?_) h
    have hcl:Ext w w':=hcl
    have hcb:w'.heap[b]? = w.heap[b]?:=hcl.heap (getElem?_lt hg)
    have hlc:=run_loadCells_list (P:=P) w' ⟨b,0,none⟩ [.int .u8 n] (fun j u hj=>by
      rw [add_mk,cell_cellH]
      simp only [cellH,hcb,hg]
      have hj0:j = 0:=by have:=(List.getElem?_eq_some_iff.1 hj).1; simpa using this
      subst hj0
      have e1:cur.toList[0]? = some (.int .u8 n):=by
        have:(cur.toList.take 1)[0]? = some (.int .u8 n):=by rw [show cur.toList.take 1 = [.int .u8 n] from q4]; rfl
        rwa [List.getElem?_take,if_pos (by decide)] at this
      have e2:u = .int .u8 n:=by simpa using hj.symm
      rw [e2]
      simpa using e1)
    have hb:=run_bytesToString (P:=P) w' ⟨b,0,none⟩ 1 cap [n] (by simpa using hlc)
    have hr:=run_convert_bytes_string (P:=P) w' st dt e (some ⟨b,0,none⟩) 1 cap hs he hd
    simp only [execOp,hx,List.length_singleton,Sem.run_bind,hr,hb,Result.andThen_ok,Sem.run_pure]
    rfl
end str
section res
variable {P:Program} {N:Nat} {ρ:Nat→Value} {w:World}
theorem run_tmps:∀ (l:List Nat),(((l.map ResultVar.tmp).mapM (m:=Sem) fun
    | .tmp t=>pure ((mk N ρ).tmps.getD t undef)
    | .cell a t=>do loadVar t (← asAddr ((mk N ρ).tmps.getD a undef)))).run P w = .ok (l.map fun t=>evF N ρ (.tmp t)) w:=by
  intro l
  induction l with
  | nil=>rfl
  | cons t l ih =>
    simp only [List.map_cons,List.mapM_cons,Sem.run_bind,Sem.run_pure,Result.andThen_ok,mk_getD] at ih ⊢
    rw [ih]
    rfl
theorem post_retC {fn:Func} {R:Ending→World→Prop} {k s b t0:Nat} {ts:List Nat} {ty:TypeId} {cs:List Value} (vs:List Value) (hr:fn.results = (ResultVar.cell k ty :: ((t0 :: ts).map ResultVar.tmp)).toArray) (ha:aggTy P ty s = true) (hv:evF N ρ (.tmp k) = .pointer (some ⟨b,0,none⟩)) (hb:BX w.heap b cs) (hl:cs.length = s)
    (hvs:((t0 :: ts).map fun t=>evF N ρ (.tmp t)) = vs) (h:R (.returned (.tuple (.agg cs.toArray :: vs).toArray)) w):bodyPost P fn R .ret (mk N ρ) w:=by
  subst hvs
  refine ⟨rfl,_,?_,h⟩
  have hld:=run_loadVarA (P:=P) ha (LD.of_box hb) hl
  have hg:(mk N ρ).tmps.getD k undef = .pointer (some ⟨b,0,none⟩):=by rw [mk_getD,hv]
  have hi:(asAddr (.pointer (some ⟨b,0,none⟩))).run P w = .ok ⟨b,0,none⟩ w:=rfl
  have key:=run_tmps (P:=P) (N:=N) (ρ:=ρ) (w:=w) (t0 :: ts)
  unfold results
  rw [hr]
  simp only [List.mapM_toArray,Sem.run_bind,Sem.run_map]
  have hfull:(((ResultVar.cell k ty :: ((t0 :: ts).map ResultVar.tmp)).mapM (m:=Sem) fun
    | .tmp t=>pure ((mk N ρ).tmps.getD t undef)
    | .cell a t=>do loadVar t (← asAddr ((mk N ρ).tmps.getD a undef)))).run P w = .ok (.agg cs.toArray :: ((t0 :: ts).map fun t=>evF N ρ (.tmp t))) w:=by
    rw [List.mapM_cons]
    simp only [Sem.run_bind,Sem.run_pure,hg,hi,hld,Result.andThen_ok]
    rw [key]
    rfl
  refine (congrArg (fun r=>(Result.andThen (Result.andThen r fun a w'=>Result.ok a.toArray w') fun a w'=>Result.ok (if h:a.size = 1 then a[0] else Value.tuple a) w')) hfull).trans ?_
  simp only [Result.andThen_ok]
  rfl
end res
end Go.Proofs.YtlbefjfhfodnlaaDoor
namespace Go.Proofs.YtlbefjfhfodnlaaDoor
open Go Go.RowKit
theorem mixed:Tryd.prog.follows .mixedOrders = true:=by kernel_rfl
theorem cf12:((Tryd.prog.funcs[12]?).map fun fn=>(fn.name != "runtime.NumGoroutine") && fn.body.isSome) = some true:=by kernel_rfl
theorem cf13:((Tryd.prog.funcs[13]?).map fun fn=>(fn.name != "runtime.NumGoroutine") && fn.body.isSome) = some true:=by kernel_rfl
theorem cf14:((Tryd.prog.funcs[14]?).map fun fn=>(fn.name != "runtime.NumGoroutine") && fn.body.isSome) = some true:=by kernel_rfl
theorem cf15:((Tryd.prog.funcs[15]?).map fun fn=>(fn.name != "runtime.NumGoroutine") && fn.body.isSome) = some true:=by kernel_rfl
theorem cf16:((Tryd.prog.funcs[16]?).map fun fn=>(fn.name != "runtime.NumGoroutine") && fn.body.isSome) = some true:=by kernel_rfl
theorem cf30:((Tryd.prog.funcs[30]?).map fun fn=>(fn.name != "runtime.NumGoroutine") && fn.body.isSome) = some true:=by kernel_rfl
theorem cf31:((Tryd.prog.funcs[31]?).map fun fn=>(fn.name != "runtime.NumGoroutine") && fn.body.isSome) = some true:=by kernel_rfl
theorem cf32:((Tryd.prog.funcs[32]?).map fun fn=>(fn.name != "runtime.NumGoroutine") && fn.body.isSome) = some true:=by kernel_rfl
theorem cf33:((Tryd.prog.funcs[33]?).map fun fn=>(fn.name != "runtime.NumGoroutine") && fn.body.isSome) = some true:=by kernel_rfl
theorem cf34:((Tryd.prog.funcs[34]?).map fun fn=>(fn.name != "runtime.NumGoroutine") && fn.body.isSome) = some true:=by kernel_rfl
theorem cf35:((Tryd.prog.funcs[35]?).map fun fn=>(fn.name != "runtime.NumGoroutine") && fn.body.isSome) = some true:=by kernel_rfl
theorem cf36:((Tryd.prog.funcs[36]?).map fun fn=>(fn.name != "runtime.NumGoroutine") && fn.body.isSome) = some true:=by kernel_rfl
theorem cf37:((Tryd.prog.funcs[37]?).map fun fn=>(fn.name != "runtime.NumGoroutine") && fn.body.isSome) = some true:=by kernel_rfl
theorem cf40:((Tryd.prog.funcs[40]?).map fun fn=>(fn.name != "runtime.NumGoroutine") && fn.body.isSome) = some true:=by kernel_rfl
theorem cf43:((Tryd.prog.funcs[43]?).map fun fn=>(fn.name != "runtime.NumGoroutine") && fn.body.isSome) = some true:=by kernel_rfl
theorem cf44:((Tryd.prog.funcs[44]?).map fun fn=>(fn.name != "runtime.NumGoroutine") && fn.body.isSome) = some true:=by kernel_rfl
theorem cf45:((Tryd.prog.funcs[45]?).map fun fn=>(fn.name != "runtime.NumGoroutine") && fn.body.isSome) = some true:=by kernel_rfl
theorem cf46:((Tryd.prog.funcs[46]?).map fun fn=>(fn.name != "runtime.NumGoroutine") && fn.body.isSome) = some true:=by kernel_rfl
theorem cf47:((Tryd.prog.funcs[47]?).map fun fn=>(fn.name != "runtime.NumGoroutine") && fn.body.isSome) = some true:=by kernel_rfl
theorem cf48:((Tryd.prog.funcs[48]?).map fun fn=>(fn.name != "runtime.NumGoroutine") && fn.body.isSome) = some true:=by kernel_rfl
theorem cf51:((Tryd.prog.funcs[51]?).map fun fn=>(fn.name != "runtime.NumGoroutine") && fn.body.isSome) = some true:=by kernel_rfl
theorem cf52:((Tryd.prog.funcs[52]?).map fun fn=>(fn.name != "runtime.NumGoroutine") && fn.body.isSome) = some true:=by kernel_rfl
theorem cf56:((Tryd.prog.funcs[56]?).map fun fn=>(fn.name != "runtime.NumGoroutine") && fn.body.isSome) = some true:=by kernel_rfl
theorem cf60:((Tryd.prog.funcs[60]?).map fun fn=>(fn.name != "runtime.NumGoroutine") && fn.body.isSome) = some true:=by kernel_rfl
theorem cf61:((Tryd.prog.funcs[61]?).map fun fn=>(fn.name != "runtime.NumGoroutine") && fn.body.isSome) = some true:=by kernel_rfl
theorem cf68:((Tryd.prog.funcs[68]?).map fun fn=>(fn.name != "runtime.NumGoroutine") && fn.body.isSome) = some true:=by kernel_rfl
theorem cf69:((Tryd.prog.funcs[69]?).map fun fn=>(fn.name != "runtime.NumGoroutine") && fn.body.isSome) = some true:=by kernel_rfl
theorem cf70:((Tryd.prog.funcs[70]?).map fun fn=>(fn.name != "runtime.NumGoroutine") && fn.body.isSome) = some true:=by kernel_rfl
theorem cf84:((Tryd.prog.funcs[84]?).map fun fn=>(fn.name != "runtime.NumGoroutine") && fn.body.isSome) = some true:=by kernel_rfl
theorem one2:oneTy Tryd.prog 2:=by unfold oneTy; kernel_rfl
theorem one9:oneTy Tryd.prog 9:=by unfold oneTy; kernel_rfl
theorem sz2:(Tryd.prog.info? 2).map (·.size) = some 1:=by kernel_rfl
theorem ti5:TI Tryd.prog 5 1 (.int .u8 0) 1:=by unfold TI; kernel_rfl
theorem ti9:TI Tryd.prog 9 1 (.string ByteArray.empty) 16:=by unfold TI; kernel_rfl
theorem u2:Tryd.prog.underlying 2 = some (.int .i64):=by kernel_rfl
theorem u4:Tryd.prog.underlying 4 = some (.bool):=by kernel_rfl
theorem u5:Tryd.prog.underlying 5 = some (.int .u8):=by kernel_rfl
theorem u9:Tryd.prog.underlying 9 = some (.string):=by kernel_rfl
theorem u22:Tryd.prog.underlying 22 = some (.slice 5):=by kernel_rfl
theorem u34:Tryd.prog.underlying 34 = some (.slice 55):=by kernel_rfl
theorem u52:Tryd.prog.underlying 52 = some (.slice 9):=by kernel_rfl
theorem u64:Tryd.prog.underlying 64 = some (.int .u64):=by kernel_rfl
theorem agg55:aggTy Tryd.prog 55 2 = true:=by kernel_rfl
theorem zr55:(Tryd.prog.info? 55).map (·.zero) = some (some (.agg #[.int .i64 0,.int .i64 0])):=by kernel_rfl
theorem tiS55:TI Tryd.prog 55 2 (.agg #[.int .i64 0,.int .i64 0]) 16:=by unfold TI; kernel_rfl
theorem fd55_0:fdO Tryd.prog 55 0 0 = true:=by kernel_rfl
theorem fd55_1:fdO Tryd.prog 55 1 1 = true:=by kernel_rfl
end Go.Proofs.YtlbefjfhfodnlaaDoor
namespace Go.Proofs.YtlbefjfhfodnlaaDoor
open Go Go.RowKit
set_option linter.unusedVariables false
set_option linter.unusedSimpArgs false
set_option maxHeartbeats 4000000
set_option maxRecDepth 100000
attribute [local irreducible] LW
theorem c_impl_within (w:World) (n:Int) (low:Int) (high:Int) (_hn:-9223372036854775808≤n∧n≤9223372036854775807) (_hlow:-9223372036854775808≤low∧low≤9223372036854775807) (_hhigh:-9223372036854775808≤high∧high≤9223372036854775807)  :
  Calls Tryd.prog 40 #[.int .i64 n,.int .i64 low,.int .i64 high] w (fun e w'=>e = .returned (.bool (decide (low≤n) && decide (n≤high)))∧w' = w):=by
 refine calls_mk [.int .i64 n,.int .i64 low,.int .i64 high] 15 Tryd.func40 rfl rfl sM ?_
 have hE0:w = w:=rfl
 refine wp_seq (wp_plain _ [0] rfl (lw_tvn 1 rfl (wp_seq (wp_plain _ [0,0,0,0,0,0,0,0,0] rfl (lw_tv 2 rfl ?_)))))
 by_cases hc1:low≤n
 ·
  exact q_geq true rfl rfl (decide_eq_true hc1) zN (lw_tv 3 rfl (q_leq (decide (n≤high)) rfl rfl rfl (zS (e:=10) rfl rfl rfl) (lw_tvn 2 rfl (wp_ret (post_ret [6] rfl (.bool (decide (n≤high))) rfl ⟨(ret_bool (by simp [*])),hE0⟩)))))
 ·
  exact q_geq false rfl rfl (decide_eq_false hc1) zN (lw_tvn 6 rfl (wp_ret (post_ret [6] rfl (.bool false) rfl ⟨(ret_bool (by simp [*])),hE0⟩)))
theorem c_spec_l00In (w:World) (n:Int) (low:Int) (high:Int) (_hn:-9223372036854775808≤n∧n≤9223372036854775807) (_hlow:-9223372036854775808≤low∧low≤9223372036854775807) (_hhigh:-9223372036854775808≤high∧high≤9223372036854775807)  :
  Calls Tryd.prog 60 #[.int .i64 n,.int .i64 low,.int .i64 high] w (fun e w'=>e = .returned (.bool (decide (low≤n) && decide (n≤high)))∧w' = w):=by
 refine calls_mk [.int .i64 n,.int .i64 low,.int .i64 high] 15 Tryd.func60 rfl rfl sM ?_
 have hE0:w = w:=rfl
 refine wp_seq (wp_plain _ [0] rfl (lw_tvn 1 rfl (wp_seq (wp_plain _ [0,0,0,0,0,0,0,0,0] rfl (lw_tv 2 rfl ?_)))))
 by_cases hc1:low≤n
 ·
  exact q_geq true rfl rfl (decide_eq_true hc1) zN (lw_tv 3 rfl (q_leq (decide (n≤high)) rfl rfl rfl (zS (e:=10) rfl rfl rfl) (lw_tvn 2 rfl (wp_ret (post_ret [6] rfl (.bool (decide (n≤high))) rfl ⟨(ret_bool (by simp [*])),hE0⟩)))))
 ·
  exact q_geq false rfl rfl (decide_eq_false hc1) zN (lw_tvn 6 rfl (wp_ret (post_ret [6] rfl (.bool false) rfl ⟨(ret_bool (by simp [*])),hE0⟩)))
end Go.Proofs.YtlbefjfhfodnlaaDoor
namespace Go.Proofs.YtlbefjfhfodnlaaDoor
open Go Go.RowKit
set_option linter.unusedVariables false
set_option linter.unusedSimpArgs false
set_option maxHeartbeats 4000000
set_option maxRecDepth 100000
attribute [local irreducible] LW
def ixF {α:Type} (p:α→Bool) (l:List α):Int:=if l.any p then ((l.findIdx p:Nat):Int) else -1
theorem ix_yes {α:Type} {p:α→Bool} {l:List α} {k:Nat} (d:α) (h:∀ j,j < k→p (l.getD j d) = false) (hk:k < l.length) (hp:p (l.getD k d) = true):((k:Nat):Int) = ixF p l:=by
  have e:∀ j,(hj:j < l.length)→l.getD j d = l[j]:=fun j hj=>by simp [hj]
  have h1:l.any p = true:=List.any_eq_true.2 ⟨l[k],List.getElem_mem hk,by rw [← e k hk]; exact hp⟩
  have h2:l.findIdx p = k:=by
    rw [List.findIdx_eq hk]
    refine ⟨by rw [← e k hk]; exact hp,fun j hj=>?_⟩
    have:=h j hj
    rw [e j (by omega)] at this
    exact this
  unfold ixF; rw [if_pos h1,h2]
theorem ix_no {α:Type} {p:α→Bool} {l:List α} {k:Nat} (d:α) (h:∀ j,j < k→p (l.getD j d) = false) (hk:l.length≤k):(-1:Int) = ixF p l:=by
  have h1:l.any p = false:=by
    rw [List.any_eq_false]
    intro x hx
    obtain ⟨j,hj,rfl⟩:=List.getElem_of_mem hx
    have:=h j (by omega)
    have e:l.getD j d = l[j]:=by simp [hj]
    rw [e] at this
    simp [this]
  unfold ixF; rw [h1]; rfl
theorem ix_ge {α:Type} (p:α→Bool) (l:List α):decide (((0:Nat):Int)≤ixF p l) = l.any p:=by
  unfold ixF
  split
  · rename_i h; rw [h]; exact decide_eq_true (by omega)
  · rename_i h; rw [Bool.not_eq_true] at h; rw [h]; exact decide_eq_false (by omega)
theorem ix_step {α:Type} {p:α→Bool} {l:List α} {k:Nat} {d:α} (h:∀ j,j < k→p (l.getD j d) = false) (hp:p (l.getD k d) = false):∀ j,j < k + 1→p (l.getD j d) = false:=by
  intro j hj
  by_cases e:j = k
  · subst e; exact hp
  · exact h j (by omega)
end Go.Proofs.YtlbefjfhfodnlaaDoor
namespace Go.Proofs.YtlbefjfhfodnlaaDoor
open Go Go.RowKit
set_option linter.unusedVariables false
set_option linter.unusedSimpArgs false
set_option maxHeartbeats 4000000
set_option maxRecDepth 100000
attribute [local irreducible] LW
theorem z70_0 {p:Prop} (h:p:=by first | exact ret_bool (by unfold avB; rw [if_pos oM]; rfl) | exact ret_bool (by unfold avB; rw [if_neg oM,if_pos oM]; rfl) | exact ret_bool (by unfold avB; rw [if_neg oM,if_neg oM,decide_eq_true (show a.kind = 4 by omega)]; rfl) | exact ret_bool (by unfold avB; rw [if_neg oM,if_neg oM,decide_eq_false (show ¬ a.kind = 4 by omega)]; rfl)):p:=h
theorem c_impl_isAction (w:World) (a:Av) (ha:i64 a.kind∧i64 a.arg)  :
  Calls Tryd.prog 70 #[(.agg #[(.int .i64 a.kind),(.int .i64 a.arg)])] w (fun e w'=>e = .returned (.bool (avB a))∧Ext w w'):=by
 refine calls_mk [(.agg #[(.int .i64 a.kind),(.int .i64 a.arg)])] 21 Tryd.func70 rfl rfl sM ?_
 have hE0:Ext w w:=Ext.refl w
 refine wp_seq (wp_plain _ [3,0] rfl (r_boxA (cs:=#[(.int .i64 a.kind),(.int .i64 a.arg)]) rfl zN fun w1 hX1 hz1 hB1=>?_))
 have hzs1:w.heap.size≤w1.heap.size:=hX1.size
 have hE1:Ext w w1:=hE0.trans hX1
 replace hB1:BX w1.heap w.heap.size [(.int .i64 a.kind),(.int .i64 a.arg)]:=hB1
 refine lw_tvn 1 rfl (wp_seq (wp_seq (wp_plain _ [0,2] rfl (q_fldP (p:=(.pointer (some ⟨w.heap.size,0,none⟩))) (b:=w.heap.size) (o:=0) 0 fd55_0 rfl rfl zN (q_load (p:=(padd (.pointer (some ⟨w.heap.size,0,none⟩)) 0)) (.inr rfl) (.int .i64 a.kind) one2 rfl (hB1.ldp (i:=0) sM) zN (lw_nil (wp_block (wp_seq (wp_plain _ [0,0] rfl ?_)))))))))
 by_cases hc2:a.kind = ((1 :Nat):Int)
 ·
  refine q_eql true rfl rfl (decide_eq_true hc2) zN (lw_tvn 1 rfl (c_cond_t rfl (wp_seq (wp_plain _ [0,2,0,0] rfl (q_fldP (p:=(.pointer (some ⟨w.heap.size,0,none⟩))) (b:=w.heap.size) (o:=0) 1 fd55_1 rfl rfl zN (q_load (p:=(padd (.pointer (some ⟨w.heap.size,0,none⟩)) 1)) (.inr rfl) (.int .i64 a.arg) one2 rfl (hB1.ldp (i:=1) sM) zN (lw_callq 40 [] [] [(.int .i64 a.arg),(.int .i64 ((1 :Nat):Int)),(.int .i64 ((40 :Nat):Int))] rfl rfl cf40 zN (.bool (decide (((1 :Nat):Int)≤a.arg) && decide (a.arg≤((40 :Nat):Int)))) (fun wq=>c_impl_within wq _ _ _ ha.2 oM oM) (lw_tvn 1 rfl (wp_ret (b_ret (t_ret ?_)))))))))))
  exact post_ret [2] rfl (.bool (decide (((1 :Nat):Int)≤a.arg) && decide (a.arg≤((40 :Nat):Int)))) rfl ⟨z70_0,hE1⟩
 ·
  refine q_eql false rfl rfl (decide_eq_false hc2) zN (lw_tvn 1 rfl (c_cond_f rfl (wp_seq (wp_seq (wp_plain _ [0,0] rfl ?_)))))
  by_cases hc4:a.kind = ((2 :Nat):Int)
  ·
   refine q_eql true rfl rfl (decide_eq_true hc4) zN (lw_tvn 1 rfl (c_cond_t rfl (wp_skip (c_cond_t rfl (wp_seq (wp_plain _ [0,2,0,0] rfl (q_fldP (p:=(.pointer (some ⟨w.heap.size,0,none⟩))) (b:=w.heap.size) (o:=0) 1 fd55_1 rfl rfl zN (q_load (p:=(padd (.pointer (some ⟨w.heap.size,0,none⟩)) 1)) (.inr rfl) (.int .i64 a.arg) one2 rfl (hB1.ldp (i:=1) sM) zN (lw_callq 40 [] [] [(.int .i64 a.arg),(.int .i64 ((0 :Nat):Int)),(.int .i64 ((7 :Nat):Int))] rfl rfl cf40 zN (.bool (decide (((0 :Nat):Int)≤a.arg) && decide (a.arg≤((7 :Nat):Int)))) (fun wq=>c_impl_within wq _ _ _ ha.2 oM oM) (lw_tvn 1 rfl (wp_ret (b_ret (t_ret ?_)))))))))))))
   exact post_ret [2] rfl (.bool (decide (((0 :Nat):Int)≤a.arg) && decide (a.arg≤((7 :Nat):Int)))) rfl ⟨z70_0,hE1⟩
  ·
   refine q_eql false rfl rfl (decide_eq_false hc4) zN (lw_tvn 1 rfl (c_cond_f rfl (wp_plain _ [0,0] rfl ?_)))
   by_cases hc6:a.kind = ((3 :Nat):Int)
   ·
    refine q_eql true rfl rfl (decide_eq_true hc6) zN (lw_tvn 1 rfl (c_cond_t rfl (wp_seq (wp_plain _ [0,2,0,0] rfl (q_fldP (p:=(.pointer (some ⟨w.heap.size,0,none⟩))) (b:=w.heap.size) (o:=0) 1 fd55_1 rfl rfl zN (q_load (p:=(padd (.pointer (some ⟨w.heap.size,0,none⟩)) 1)) (.inr rfl) (.int .i64 a.arg) one2 rfl (hB1.ldp (i:=1) sM) zN (lw_callq 40 [] [] [(.int .i64 a.arg),(.int .i64 ((0 :Nat):Int)),(.int .i64 ((7 :Nat):Int))] rfl rfl cf40 zN (.bool (decide (((0 :Nat):Int)≤a.arg) && decide (a.arg≤((7 :Nat):Int)))) (fun wq=>c_impl_within wq _ _ _ ha.2 oM oM) (lw_tvn 1 rfl (wp_ret (b_ret (t_ret ?_)))))))))))
    exact post_ret [2] rfl (.bool (decide (((0 :Nat):Int)≤a.arg) && decide (a.arg≤((7 :Nat):Int)))) rfl ⟨z70_0,hE1⟩
   ·
    refine q_eql false rfl rfl (decide_eq_false hc6) zN (lw_tvn 1 rfl (c_cond_f rfl (wp_seq (wp_plain _ [0,0] rfl ?_))))
    by_cases hc8:a.kind = ((4 :Nat):Int)
    ·
     refine q_eql true rfl rfl (decide_eq_true hc8) zN (lw_tvn 1 rfl (c_cond_t rfl (wp_seq (wp_plain _ [0,2,0,0] rfl (q_fldP (p:=(.pointer (some ⟨w.heap.size,0,none⟩))) (b:=w.heap.size) (o:=0) 1 fd55_1 rfl rfl zN (q_load (p:=(padd (.pointer (some ⟨w.heap.size,0,none⟩)) 1)) (.inr rfl) (.int .i64 a.arg) one2 rfl (hB1.ldp (i:=1) sM) zN (q_eql (decide (a.arg = ((0 :Nat):Int))) rfl rfl rfl zN (lw_tvn 1 rfl (wp_ret (b_ret (t_ret ?_)))))))))))
     exact post_ret [2] rfl (.bool (decide (a.arg = ((0 :Nat):Int)))) rfl ⟨z70_0,hE1⟩
    ·
     exact q_eql false rfl rfl (decide_eq_false hc8) zN (lw_tvn 1 rfl (c_cond_f rfl (wp_skip (wp_seq (wp_plain _ [0] rfl (lw_tvn 1 rfl (wp_ret (post_ret [2] rfl (.bool false) rfl ⟨z70_0,hE1⟩))))))))
theorem c_impl_ValidSchedule_1 (w:World) (a:Av) (ha:i64 a.kind∧i64 a.arg)  :
  Calls Tryd.prog 69 #[(.agg #[(.int .i64 a.kind),(.int .i64 a.arg)])] w (fun e w'=>e = .returned (.bool (!avB a))∧Ext w w'):=by
 refine calls_mk [(.agg #[(.int .i64 a.kind),(.int .i64 a.arg)])] 6 Tryd.func69 rfl rfl sM ?_
 have hE0:Ext w w:=Ext.refl w
 refine wp_seq (wp_plain _ [3,0] rfl (r_boxA (cs:=#[(.int .i64 a.kind),(.int .i64 a.arg)]) rfl zN fun w1 hX1 hz1 hB1=>?_))
 have hzs1:w.heap.size≤w1.heap.size:=hX1.size
 have hE1:Ext w w1:=hE0.trans hX1
 replace hB1:BX w1.heap w.heap.size [(.int .i64 a.kind),(.int .i64 a.arg)]:=hB1
 refine lw_tvn 1 rfl (wp_seq (wp_plain _ [2,3,0,0] rfl (q_loadA (p:=(.pointer (some ⟨w.heap.size,0,none⟩))) (.inr rfl) [(.int .i64 a.kind),(.int .i64 a.arg)] agg55 rfl (fun wq9 hw9=>LD.of_box (BX.ext (w:=w1) hB1 hw9)) rfl zN (lw_call 70 [] [] [(.agg #[(.int .i64 a.kind),(.int .i64 a.arg)])] rfl rfl cf70 zN (c_impl_isAction _ a ⟨ha.1,ha.2⟩) ?_))))
 rintro e2 w2 ⟨rfl,hX2⟩
 refine ⟨_,rfl,hX2,?_⟩
 have hzs2:w1.heap.size≤w2.heap.size:=hX2.size
 have hE2:Ext w w2:=hE1.trans hX2
 have hB1x2:=hB1.ext hX2
 exact q_not (!(avB a)) rfl rfl zN (lw_tvn 1 rfl (wp_ret (post_ret [2] rfl (.bool (!(avB a))) rfl ⟨rfl,hE2⟩)))
theorem c_slices_IndexFunc___impl_Action_impl_Action_ (w:World) (va:Value) (l:List Av) (q:Nat) (qf qc:List Value) (pr:Av→Bool) (hl:RN [] (rdS 2 rAv) w.heap va l) (hcf_q:((Tryd.prog.funcs[q]?).map fun fn=>(fn.name != "runtime.NumGoroutine") && fn.body.isSome) = some true) (hpr:∀ (x:Av) w1,avR x→Ext w w1→Calls Tryd.prog q (qf++[Value.agg #[Value.int .i64 x.kind,Value.int .i64 x.arg]]++qc).toArray w1 (fun e w2=>e = .returned (.bool (pr x))∧Ext w1 w2)) (hll:l.length≤1000000000) :
  Calls Tryd.prog 84 #[va,.func (.func q) qf.toArray qc.toArray] w (fun e w'=>e = .returned (.int .i64 (ixF pr l))∧Ext w w'):=by
 refine calls_mk [va,.func (.func q) qf.toArray qc.toArray] 19 Tryd.func84 rfl rfl sM ?_
 have hE0:Ext w w:=Ext.refl w
 refine wp_seq (wp_plain _ [0] rfl (lw_tvn 1 rfl (wp_seq (wp_seq (wp_plain _ [0,0,0] rfl (lw_tv 1 rfl (q_len (v:=va) u34 rfl hl.isSl zN (lw_tvn 1 rfl (wp_block ?_)))))))))
 refine c_loop (S:=Nat) (fun (k:Nat)=>([(8,(.int .i64 ((k :Nat):Int))),(0,va),(1,(.func (.func q) qf.toArray qc.toArray)),(7,(.int .i64 ((l.length :Nat):Int)))]:List (Nat × Value))) (fun (k:Nat) (W:World)=>Ext w W∧k≤l.length∧(∀ j,j < k→pr (l.getD j Av.zero) = false)) (fun (k:Nat)=>l.length - k) 0 ⟨rfl,rfl,rfl,rfl,trivial⟩ ⟨hE0,sD,(by intro j hj; omega)⟩ ?_
 clear hE0
 rintro k ρ1 w1 ⟨hE1,hp1_0,hq⟩
 have hzs1:w.heap.size≤w1.heap.size:=hE1.size
 refine wp_seq (wp_plain _ [0] rfl ?_)
 by_cases hc2:((k :Nat):Int) < ((l.length :Nat):Int)
 ·
  refine q_lss true rfl rfl (decide_eq_true hc2) zN (lw_nil (wp_seq (c_cond_t rfl (wp_skip (wp_seq (wp_block (wp_seq (wp_plain _ [0,0] rfl (lw_tvn 2 rfl (wp_seq (wp_plain _ [0,0,0,0,2,3] rfl (lw_tv 3 rfl (q_idx (v:=va) k u34 tiS55 rfl rfl hl.isSl rfl sD zN ?_)))))))))))))
  obtain ⟨cs3,hr3,hl3⟩:=hl.get good_rAv Av.zero (k:=k) sD
  obtain ⟨rfl,hx3⟩:=rn_av hr3
  refine q_loadA (p:=eptr va k 2) (.inr rfl) [(.int .i64 ((l.getD k Av.zero).kind)),(.int .i64 ((l.getD k Av.zero).arg))] agg55 rfl (fun wq9 hw9=>hl3 wq9 (Chg.of_ext [] (hE1.trans hw9))) rfl zN ?_
  have hcall4:=hpr (l.getD k Av.zero) w1 ⟨hx3.1,hx3.2⟩ hE1
  refine lw_call q qf qc _ rfl rfl hcf_q zN hcall4 ?_
  rintro e4 w4 ⟨rfl,hX4⟩
  refine ⟨_,rfl,hX4,?_⟩
  have hzs4:w1.heap.size≤w4.heap.size:=hX4.size
  have hE4:Ext w w4:=hE1.trans hX4
  cases hc4:pr (l.getD k Av.zero)
  ·
   refine lw_nil (c_cond_f rfl (wp_skip (wp_plain _ [0,0] rfl (q_add ((k + 1 :Nat):Int) rfl rfl (w64n oM sD) zN (lw_tvn 1 rfl ?_)))))
   exact ⟨(k + 1),_,rfl,⟨rfl,rfl,rfl,rfl,trivial⟩,⟨hE4,sD,(by exact ix_step hq (by assumption))⟩,by first | omega | (dsimp only; omega)⟩
  ·
   exact lw_nil (c_cond_t rfl (wp_seq (wp_plain _ [0,0] rfl (lw_tvn 2 rfl (wp_ret (b_ret (t_ret (t_ret (b_ret (t_ret (post_ret [4] rfl (.int .i64 ((k :Nat):Int)) rfl ⟨(ret_int (ix_yes Av.zero hq oM (by assumption))),hE4⟩)))))))))))
 ·
  exact q_lss false rfl rfl (decide_eq_false hc2) zN (lw_nil (wp_seq (c_cond_f rfl (wp_exit (t_exit (t_exit (c_exit_here (wp_seq (wp_plain _ [0] rfl (lw_tvn 1 rfl (wp_ret (post_ret [4] rfl (.int .i64 (-1)) rfl ⟨(ret_int (ix_no Av.zero hq oM)),hE1⟩))))))))))))
theorem c_slices_ContainsFunc___impl_Action_impl_Action_ (w:World) (va:Value) (l:List Av) (q:Nat) (qf qc:List Value) (pr:Av→Bool) (hl:RN [] (rdS 2 rAv) w.heap va l) (hcf_q:((Tryd.prog.funcs[q]?).map fun fn=>(fn.name != "runtime.NumGoroutine") && fn.body.isSome) = some true) (hpr:∀ (x:Av) w1,avR x→Ext w w1→Calls Tryd.prog q (qf++[Value.agg #[Value.int .i64 x.kind,Value.int .i64 x.arg]]++qc).toArray w1 (fun e w2=>e = .returned (.bool (pr x))∧Ext w1 w2)) (hll:l.length≤1000000000) :
  Calls Tryd.prog 68 #[va,.func (.func q) qf.toArray qc.toArray] w (fun e w'=>e = .returned (.bool (l.any pr))∧Ext w w'):=by
 refine calls_mk [va,.func (.func q) qf.toArray qc.toArray] 9 Tryd.func68 rfl rfl sM ?_
 have hE0:Ext w w:=Ext.refl w
 refine wp_seq (wp_plain _ [0] rfl (lw_tvn 1 rfl (wp_seq (wp_plain _ [0,0,3,0,0] rfl (lw_tv 2 rfl (lw_call 84 [] [] [va,(.func (.func q) qf.toArray qc.toArray)] rfl rfl cf84 zN (c_slices_IndexFunc___impl_Action_impl_Action_ _ va l q qf qc pr (hl.ext (good_rdS good_rAv) hE0) hcf_q (fun x w1 hx hw=>hpr x w1 hx (hE0.trans hw)) oM) ?_))))))
 rintro e1 w1 ⟨rfl,hX1⟩
 refine ⟨_,rfl,hX1,?_⟩
 have hzs1:w.heap.size≤w1.heap.size:=hX1.size
 have hE1:Ext w w1:=hE0.trans hX1
 exact q_geq (decide (((0 :Nat):Int)≤ixF pr l)) rfl rfl rfl zN (lw_tvn 1 rfl (wp_ret (post_ret [4] rfl (.bool (decide (((0 :Nat):Int)≤ixF pr l))) rfl ⟨(ret_bool (ix_ge pr l)),hE1⟩)))
theorem z52_0 {p:Prop} (h:p:=by first | exact ret_bool (schB_big oM) | exact ret_bool (schB_any oM) | (unfold schB; simp [*]; done)):p:=h
theorem c_impl_ValidSchedule (w:World) (va:Value) (l:List Av) (hl:RN [] (rdS 2 rAv) w.heap va l)  :
  Calls Tryd.prog 52 #[va] w (fun e w'=>e = .returned (.bool (schB l))∧Ext w w'):=by
 refine calls_mk [va] 11 Tryd.func52 rfl rfl sM ?_
 have hE0:Ext w w:=Ext.refl w
 refine wp_seq (wp_plain _ [0] rfl (lw_tvn 1 rfl (wp_seq (wp_plain _ [0,0,0,0,0,3,0,0,0] rfl (lw_tv 1 rfl (q_len (v:=va) u34 rfl hl.isSl zN ?_))))))
 by_cases hc1:((l.length :Nat):Int)≤((400 :Nat):Int)
 ·
  refine q_leq true rfl rfl (decide_eq_true hc1) zN (lw_tv 2 rfl (lw_call 68 [] [] [va,(.func (.func 69) #[] #[])] rfl rfl cf68 (zS (e:=6) rfl rfl rfl) (c_slices_ContainsFunc___impl_Action_impl_Action_ _ va l 69 [] [] (fun a=>!avB a) (hl.ext (good_rdS good_rAv) hE0) cf69 (fun x w1 hx hw=>c_impl_ValidSchedule_1 w1 x ⟨hx.1,hx.2⟩) oM) ?_))
  rintro e2 w2 ⟨rfl,hX2⟩
  refine ⟨_,rfl,hX2,?_⟩
  have hzs2:w.heap.size≤w2.heap.size:=hX2.size
  have hE2:Ext w w2:=hE0.trans hX2
  exact q_not (!(l.any (fun a=>!avB a))) rfl rfl (zS (e:=6) rfl rfl rfl) (lw_tvn 2 rfl (wp_ret (post_ret [2] rfl (.bool (!(l.any (fun a=>!avB a)))) rfl ⟨z52_0,hE2⟩)))
 ·
  exact q_leq false rfl rfl (decide_eq_false hc1) zN (lw_tvn 6 rfl (wp_ret (post_ret [2] rfl (.bool false) rfl ⟨z52_0,hE0⟩)))
theorem z46_0 {p:Prop} (h:p:=by first | exact ret_bool (by unfold avB; rw [if_pos oM]; rfl) | exact ret_bool (by unfold avB; rw [if_neg oM,if_pos oM]; rfl) | exact ret_bool (by unfold avB; rw [if_neg oM,if_neg oM,decide_eq_true (show a.kind = 4 by omega)]; rfl) | exact ret_bool (by unfold avB; rw [if_neg oM,if_neg oM,decide_eq_false (show ¬ a.kind = 4 by omega)]; rfl)):p:=h
theorem c_spec_l06Action (w:World) (a:Av) (ha:i64 a.kind∧i64 a.arg)  :
  Calls Tryd.prog 46 #[(.agg #[(.int .i64 a.kind),(.int .i64 a.arg)])] w (fun e w'=>e = .returned (.bool (avB a))∧Ext w w'):=by
 refine calls_mk [(.agg #[(.int .i64 a.kind),(.int .i64 a.arg)])] 21 Tryd.func46 rfl rfl sM ?_
 have hE0:Ext w w:=Ext.refl w
 refine wp_seq (wp_plain _ [3,0] rfl (r_boxA (cs:=#[(.int .i64 a.kind),(.int .i64 a.arg)]) rfl zN fun w1 hX1 hz1 hB1=>?_))
 have hzs1:w.heap.size≤w1.heap.size:=hX1.size
 have hE1:Ext w w1:=hE0.trans hX1
 replace hB1:BX w1.heap w.heap.size [(.int .i64 a.kind),(.int .i64 a.arg)]:=hB1
 refine lw_tvn 1 rfl (wp_seq (wp_seq (wp_plain _ [0,2] rfl (q_fldP (p:=(.pointer (some ⟨w.heap.size,0,none⟩))) (b:=w.heap.size) (o:=0) 0 fd55_0 rfl rfl zN (q_load (p:=(padd (.pointer (some ⟨w.heap.size,0,none⟩)) 0)) (.inr rfl) (.int .i64 a.kind) one2 rfl (hB1.ldp (i:=0) sM) zN (lw_nil (wp_block (wp_seq (wp_plain _ [0,0] rfl ?_)))))))))
 by_cases hc2:a.kind = ((1 :Nat):Int)
 ·
  refine q_eql true rfl rfl (decide_eq_true hc2) zN (lw_tvn 1 rfl (c_cond_t rfl (wp_seq (wp_plain _ [0,2,0,0] rfl (q_fldP (p:=(.pointer (some ⟨w.heap.size,0,none⟩))) (b:=w.heap.size) (o:=0) 1 fd55_1 rfl rfl zN (q_load (p:=(padd (.pointer (some ⟨w.heap.size,0,none⟩)) 1)) (.inr rfl) (.int .i64 a.arg) one2 rfl (hB1.ldp (i:=1) sM) zN (lw_callq 60 [] [] [(.int .i64 a.arg),(.int .i64 ((1 :Nat):Int)),(.int .i64 ((40 :Nat):Int))] rfl rfl cf60 zN (.bool (decide (((1 :Nat):Int)≤a.arg) && decide (a.arg≤((40 :Nat):Int)))) (fun wq=>c_spec_l00In wq _ _ _ ha.2 oM oM) (lw_tvn 1 rfl (wp_ret (b_ret (t_ret ?_)))))))))))
  exact post_ret [2] rfl (.bool (decide (((1 :Nat):Int)≤a.arg) && decide (a.arg≤((40 :Nat):Int)))) rfl ⟨z46_0,hE1⟩
 ·
  refine q_eql false rfl rfl (decide_eq_false hc2) zN (lw_tvn 1 rfl (c_cond_f rfl (wp_seq (wp_seq (wp_plain _ [0,0] rfl ?_)))))
  by_cases hc4:a.kind = ((2 :Nat):Int)
  ·
   refine q_eql true rfl rfl (decide_eq_true hc4) zN (lw_tvn 1 rfl (c_cond_t rfl (wp_skip (c_cond_t rfl (wp_seq (wp_plain _ [0,2,0,0] rfl (q_fldP (p:=(.pointer (some ⟨w.heap.size,0,none⟩))) (b:=w.heap.size) (o:=0) 1 fd55_1 rfl rfl zN (q_load (p:=(padd (.pointer (some ⟨w.heap.size,0,none⟩)) 1)) (.inr rfl) (.int .i64 a.arg) one2 rfl (hB1.ldp (i:=1) sM) zN (lw_callq 60 [] [] [(.int .i64 a.arg),(.int .i64 ((0 :Nat):Int)),(.int .i64 ((7 :Nat):Int))] rfl rfl cf60 zN (.bool (decide (((0 :Nat):Int)≤a.arg) && decide (a.arg≤((7 :Nat):Int)))) (fun wq=>c_spec_l00In wq _ _ _ ha.2 oM oM) (lw_tvn 1 rfl (wp_ret (b_ret (t_ret ?_)))))))))))))
   exact post_ret [2] rfl (.bool (decide (((0 :Nat):Int)≤a.arg) && decide (a.arg≤((7 :Nat):Int)))) rfl ⟨z46_0,hE1⟩
  ·
   refine q_eql false rfl rfl (decide_eq_false hc4) zN (lw_tvn 1 rfl (c_cond_f rfl (wp_plain _ [0,0] rfl ?_)))
   by_cases hc6:a.kind = ((3 :Nat):Int)
   ·
    refine q_eql true rfl rfl (decide_eq_true hc6) zN (lw_tvn 1 rfl (c_cond_t rfl (wp_seq (wp_plain _ [0,2,0,0] rfl (q_fldP (p:=(.pointer (some ⟨w.heap.size,0,none⟩))) (b:=w.heap.size) (o:=0) 1 fd55_1 rfl rfl zN (q_load (p:=(padd (.pointer (some ⟨w.heap.size,0,none⟩)) 1)) (.inr rfl) (.int .i64 a.arg) one2 rfl (hB1.ldp (i:=1) sM) zN (lw_callq 60 [] [] [(.int .i64 a.arg),(.int .i64 ((0 :Nat):Int)),(.int .i64 ((7 :Nat):Int))] rfl rfl cf60 zN (.bool (decide (((0 :Nat):Int)≤a.arg) && decide (a.arg≤((7 :Nat):Int)))) (fun wq=>c_spec_l00In wq _ _ _ ha.2 oM oM) (lw_tvn 1 rfl (wp_ret (b_ret (t_ret ?_)))))))))))
    exact post_ret [2] rfl (.bool (decide (((0 :Nat):Int)≤a.arg) && decide (a.arg≤((7 :Nat):Int)))) rfl ⟨z46_0,hE1⟩
   ·
    refine q_eql false rfl rfl (decide_eq_false hc6) zN (lw_tvn 1 rfl (c_cond_f rfl (wp_seq (wp_plain _ [0,0] rfl ?_))))
    by_cases hc8:a.kind = ((4 :Nat):Int)
    ·
     refine q_eql true rfl rfl (decide_eq_true hc8) zN (lw_tvn 1 rfl (c_cond_t rfl (wp_seq (wp_plain _ [0,2,0,0] rfl (q_fldP (p:=(.pointer (some ⟨w.heap.size,0,none⟩))) (b:=w.heap.size) (o:=0) 1 fd55_1 rfl rfl zN (q_load (p:=(padd (.pointer (some ⟨w.heap.size,0,none⟩)) 1)) (.inr rfl) (.int .i64 a.arg) one2 rfl (hB1.ldp (i:=1) sM) zN (q_eql (decide (a.arg = ((0 :Nat):Int))) rfl rfl rfl zN (lw_tvn 1 rfl (wp_ret (b_ret (t_ret ?_)))))))))))
     exact post_ret [2] rfl (.bool (decide (a.arg = ((0 :Nat):Int)))) rfl ⟨z46_0,hE1⟩
    ·
     exact q_eql false rfl rfl (decide_eq_false hc8) zN (lw_tvn 1 rfl (c_cond_f rfl (wp_skip (wp_seq (wp_plain _ [0] rfl (lw_tvn 1 rfl (wp_ret (post_ret [2] rfl (.bool false) rfl ⟨z46_0,hE1⟩))))))))
theorem c_spec_l06Schedule (w:World) (va:Value) (l:List Av) (hl:RN [] (rdS 2 rAv) w.heap va l) (hll:l.length≤1000000000) :
  Calls Tryd.prog 47 #[va] w (fun e w'=>e = .returned (.bool (schB l))∧Ext w w'):=by
 refine calls_mk [va] 19 Tryd.func47 rfl rfl sM ?_
 have hE0:Ext w w:=Ext.refl w
 refine wp_seq (wp_plain _ [0] rfl (lw_tvn 1 rfl (wp_seq (wp_seq (wp_plain _ [0] rfl (lw_tvn 1 rfl (wp_block (c_loop (S:=Nat) (fun (k:Nat)=>([(3,(.int .i64 ((k :Nat):Int))),(0,va)]:List (Nat × Value))) (fun (k:Nat) (W:World)=>Ext w W∧k≤l.length∧(∀ j,j < k→avB (l.getD j Av.zero) = true)) (fun (k:Nat)=>l.length - k) 0 ⟨rfl,rfl,trivial⟩ ⟨hE0,sD,(by intro j hj; omega)⟩ ?_))))))))
 clear hE0
 rintro k ρ1 w1 ⟨hE1,hp1_0,hq⟩
 have hzs1:w.heap.size≤w1.heap.size:=hE1.size
 refine wp_seq (wp_seq (wp_plain _ [0,0,0,0] rfl (lw_tv 2 rfl (q_len (v:=va) u34 rfl hl.isSl zN ?_))))
 by_cases hc2:((k :Nat):Int) < ((l.length :Nat):Int)
 ·
  refine q_lss true rfl rfl (decide_eq_true hc2) zN (lw_nil (c_cond_t rfl (wp_skip (wp_seq (wp_block (wp_seq (wp_plain _ [0,0,0,2,3,0] rfl (lw_tv 2 rfl (q_idx (v:=va) k u34 tiS55 rfl rfl hl.isSl rfl sD zN ?_)))))))))
  obtain ⟨cs3,hr3,hl3⟩:=hl.get good_rAv Av.zero (k:=k) sD
  obtain ⟨rfl,hx3⟩:=rn_av hr3
  refine q_loadA (p:=eptr va k 2) (.inr rfl) [(.int .i64 ((l.getD k Av.zero).kind)),(.int .i64 ((l.getD k Av.zero).arg))] agg55 rfl (fun wq9 hw9=>hl3 wq9 (Chg.of_ext [] (hE1.trans hw9))) rfl zN (lw_call 46 [] [] [(.agg #[(.int .i64 ((l.getD k Av.zero).kind)),(.int .i64 ((l.getD k Av.zero).arg))])] rfl rfl cf46 zN (c_spec_l06Action _ (l.getD k Av.zero) ⟨hx3.1,hx3.2⟩) ?_)
  rintro e4 w4 ⟨rfl,hX4⟩
  refine ⟨_,rfl,hX4,?_⟩
  have hzs4:w1.heap.size≤w4.heap.size:=hX4.size
  have hE4:Ext w w4:=hE1.trans hX4
  refine q_not (!(avB (l.getD k Av.zero))) rfl rfl zN (lw_nil ?_)
  cases hb5:(!(avB (l.getD k Av.zero)))
  ·
   refine c_cond_f (by first | rfl | (show Value.bool _ = _; rw [hb5])) (wp_skip (wp_plain _ [0,0,0] rfl (lw_tv 1 rfl (q_add ((k + 1 :Nat):Int) rfl rfl (w64n oM sD) zN (lw_tvn 1 rfl ?_)))))
   exact ⟨(k + 1),_,rfl,⟨rfl,rfl,trivial⟩,⟨hE4,sD,(by intro j hj; exact (Nat.lt_succ_iff_lt_or_eq.1 hj).elim (hq j) fun h9=>by subst h9; have h8:(!avB (l.getD j Av.zero)) = false:=(by assumption); simpa using h8)⟩,by first | omega | (dsimp only; omega)⟩
  ·
   exact c_cond_t (by first | rfl | (show Value.bool _ = _; rw [hb5])) (wp_seq (wp_plain _ [0] rfl (lw_tvn 1 rfl (wp_ret (b_ret (t_ret (t_ret (b_ret (t_ret (post_ret [2] rfl (.bool false) rfl ⟨(ret_bool (schB_bad (k:=k) oM (by have h8:(!avB (l.getD k Av.zero)) = true:=(by assumption); simpa using h8))),hE4⟩))))))))))
 ·
  exact q_lss false rfl rfl (decide_eq_false hc2) zN (lw_nil (c_cond_f rfl (wp_exit (t_exit (t_exit (c_exit_here (wp_seq (wp_plain _ [0,0,0,0] rfl (lw_tv 1 rfl (q_len (v:=va) u34 rfl hl.isSl zN (q_leq (decide (((l.length :Nat):Int)≤((400 :Nat):Int))) rfl rfl rfl zN (lw_tvn 1 rfl (wp_ret (post_ret [2] rfl (.bool (decide (((l.length :Nat):Int)≤((400 :Nat):Int)))) rfl ⟨(ret_bool (by rw [← schB_end (fun i hi=>hq i oM)]; exact decide_eq_decide.2 oM)),hE1⟩))))))))))))))
end Go.Proofs.YtlbefjfhfodnlaaDoor
namespace Go.Proofs.YtlbefjfhfodnlaaDoor
open Go Go.RowKit
set_option linter.unusedVariables false
set_option linter.unusedSimpArgs false
section ops
variable {P:Program} {ops:Array Oper} {w0:World} {Q:Act→World→Prop} {os:List Oper} {ks:List Nat} {N:Nat} {ρ:Nat→Value} {w:World}
  {d:Nat} {ty:TypeId} {pos:String} {aft:Array Edge} {g:Option (Nat × Bool)} {t e:TypeId} {z:Value} {b s:Nat} {α:Type} {E:StandN α}
theorem r_nilS (hE:GoodN s E) (ht:P.underlying t = some (.slice e)) (hi:TI P e s z b) (hu:Up ops N ρ ⟨some d,.buildSlice t 0 #[],ty,pos,aft,g⟩)
    (h:∀ v w1,Ext w w1→w1.heap.size = w.heap.size + 1→Fr (owS s E e) w.heap.size w1.heap.size w1.heap v ([]:List α)→LW P ops w0 Q os ks (mk N (upd ρ d v)) w1) :
    LW P ops w0 Q (⟨some d,.buildSlice t 0 #[],ty,pos,aft,g⟩ :: os) (3 :: ks) (mk N ρ) w:=by
  have hr:=run_bs0 (P:=P) (w:=w) ht hi
  have hrun:(execOp (evF N ρ) ⟨some d,.buildSlice t 0 #[],ty,pos,aft,g⟩).run P w = .ok (.value (.slice (some ⟨w.heap.size,0,none⟩) 0 0)) (w.alloc (.cells #[] e)):=by
    simp only [execOp,List.map_toArray,List.map_nil,Sem.run_bind,hr,Result.andThen_ok,Sem.run_pure]
  refine lw_r rfl hu _ _ hrun (ext_alloc _ _) (h _ _ (ext_alloc _ _) (by simp) ?_)
  have hn:=owS_new (e:=e) (w:=w) hE (css:=[]) (xs:=([]:List α)) (F:=[]) (cur:=#[]) (cap:=0) rfl (by simp) (by simp [maxLen]) (by simp) (by simp)
  refine ⟨_,hn,by simp,fun c hc=>?_⟩
  have hlt:=(good_owS hE).lt hn c hc
  refine ⟨?_,hlt⟩
  rcases List.mem_cons.1 hc with rfl | hc
  · exact Nat.le_refl _
  · cases hc
end ops
theorem FrP.ext {α:Type} {E:Stand α} (hE:Good E) {S:Nat→Prop} {w w':World} {v:Value} {x:α} (h:FrP E S w.heap v x) (c:Ext w w'):FrP E S w'.heap v x:=by
  obtain ⟨G,h1,h2,h3⟩:=h
  exact ⟨G,hE.stable h1 fun b hb=>c.heap (hE.lt h1 b hb),h2,h3⟩
end Go.Proofs.YtlbefjfhfodnlaaDoor
namespace Go.Proofs.YtlbefjfhfodnlaaDoor
open Go Go.RowKit
set_option linter.unusedVariables false
set_option linter.unusedSimpArgs false
structure Ins where
  op:Int
  a:Int
  b:Int
  num:Int
def inC (x:Ins):List Value:=[.int .i64 x.op,.int .i64 x.a,.int .i64 x.b,.int .i64 x.num]
end Go.Proofs.YtlbefjfhfodnlaaDoor
namespace Go.Proofs.YtlbefjfhfodnlaaDoor
open Go Go.RowKit
set_option linter.unusedVariables false
set_option linter.unusedSimpArgs false
set_option linter.unusedSectionVars false
section
variable {P:Program} {ops:Array Oper} {md:Region.Mode}
def RA (P:Program) (o:Oper) (a:Act) (w:World) (R:Value→World→Prop):Prop:=o.wp P a w (fun b w1=>Ext w w1∧∃ v,b = a.put o.dst v∧R v w1) (NQ fun _ _=>False)
theorem put_same {a:Act} {d e:Option Tmp} {v x y:Value} (h:(a.put d v).put e x = (a.put d v).put e y):a.put e x = a.put e y:=by
  cases e with
  | none=>rfl
  | some e =>
    have hsz:(a.put d v).tmps.size = a.tmps.size:=by cases d <;> simp [Act.put]
    generalize hb:a.put d v = b at h hsz
    by_cases hlt:e < a.tmps.size
    · have h2:=congrArg (fun z:Act=>z.tmps[e]?) h
      simp only [Act.put,Array.getElem?_setIfInBounds_self,hsz,if_pos hlt] at h2
      injection h2 with h2; rw [h2]
    · have e1:∀ u,a.tmps.setIfInBounds e u = a.tmps:=fun u=>by
        apply Array.ext
        · simp
        · intro i h1 h2
          have:e≠i:=fun h9=>hlt (h9 ▸ h2)
          rw [Array.getElem_setIfInBounds h2]; simp [this]
      show (⟨_,_⟩:Act) = ⟨_,_⟩
      rw [e1,e1]
theorem put_def {a:Act} {d:Option Tmp} {v:Value}:(a.put d v).defers = a.defers:=by cases d <;> rfl
theorem RA.shape {o:Oper} {a:Act} {d:Option Tmp} {v u:Value} {b:Act} (h2:∀ x,d = some x→o.dst≠some x) (hs:Shape a o.dst b) (h:b.put d v = (a.put d v).put o.dst u):b = a.put o.dst u:=by
  obtain ⟨u',rfl | ⟨x,rfl⟩⟩:=hs
  · have e:=Act.put_comm a v u' h2
    rw [← e] at h
    exact put_same h
  · have:=congrArg Act.defers h
    simp only [put_def] at this
    have:=congrArg List.length this
    simp at this
theorem RA.apart {o:Oper} (hs:∀ cs b,o.op≠.select cs b) {a:Act} {d:Option Tmp} {v:Value} {w:World} {R:Value→World→Prop}
    (h1:∀ x,d = some x→x∉o.looksAt ops) (h2:∀ x,d = some x→o.dst≠some x):RA P o (a.put d v) w R↔RA P o a w R:=by
  constructor
  · intro h
    have g:=wp_shape (wp_apart (ops:=ops) (Q:=fun _ _=>False) hs h1 h2 h)
    refine Oper.wp_mono (fun b w1 hb=>?_) g
    obtain ⟨⟨hE,u,hu,hR⟩,hsh⟩:=hb
    exact ⟨hE,u,RA.shape h2 hsh hu,hR⟩
  · intro h
    refine wp_unapart (ops:=ops) hs h1 h2 (Oper.wp_mono (fun b w1 hb=>?_) h)
    obtain ⟨hE,u,rfl,hR⟩:=hb
    exact ⟨hE,u,(Act.put_comm a v u h2).symm,hR⟩
theorem RA.some {o:Oper} {a:Act} {w:World} {R:Value→World→Prop} (h:RA P o a w R):∃ v w1,Ext w w1∧R v w1:=by
  obtain ⟨_,w1,⟨hE,v,_,hR⟩ | ⟨_,hE,v,_,hR⟩⟩:=wp_some h
  · exact ⟨v,w1,hE,hR⟩
  · exact ⟨v,w1,hE,hR⟩
abbrev Rec:=Nat × Value × Nat × Nat
def getR:List Rec→Nat→Value × Nat × Nat
  | [],_=>(undef,0,0)
  | q :: l,j=>cond (Nat.beq q.1 j) q.2 (getR l j)
abbrev Fct:=Nat→(Nat→Value × Nat × Nat)→Value→Nat→Nat→World→Prop
def DpL (bs:Nat→Nat) (Rs:Fct) (k:Nat) (w:World):List Rec→Prop
  | []=>True
  | q :: L=>((bs k).testBit q.1 = true→q.2.2.2≤w.heap.size∧Rs q.1 (getR L) q.2.1 q.2.2.1 q.2.2.2 w)∧DpL bs Rs k w L
def OneOp5 (P:Program) (bs:Nat→Nat) (Rs:Fct) (w0:World) (k:Nat) (o:Oper) (a:Act) (w:World) (L:List Rec) (K:List Rec→Act→World→Prop):Prop :=
  (∀ w',Ext w0 w'→DpL bs Rs k w' L→RA P o a w' fun v w''=>Rs k (getR L) v w'.heap.size w''.heap.size w'') ∧
    ∀ v lo hi w'',Ext w w''→w0.heap.size≤lo→lo≤hi→hi≤w''.heap.size→(∀ q∈L,q.2.2.2≤lo∨hi≤q.2.2.1)→Rs k (getR L) v lo hi w''→K ((k,v,lo,hi) :: L) (a.put o.dst v) w''
def LV (P:Program) (ops:Array Oper) (bs:Nat→Nat) (Rs:Fct) (w0:World) (Q:Act→World→Prop):Nat→List Oper→List Nat→List Rec→Act→World→Prop
  | _,[],_,_,a,w=>Q a w
  | _,_ :: _,[],_,_,_=>False
  | k,o :: os,kd :: ks,L,a,w =>
    if Region.wanted o (yielded ops a.tmps) = true then (if kd = 5 then OneOp5 P bs Rs w0 k o a w L (LV P ops bs Rs w0 Q (k + 1) os ks) else OneOp P w0 o kd a w (LV P ops bs Rs w0 Q (k + 1) os ks L)) else LV P ops bs Rs w0 Q (k + 1) os ks L (a.put o.dst undef) w
variable (P ops) in
def LIv (bs:Nat→Nat) (Rs:Fct) (kd:Nat→Nat) (w0:World) (Q:Act→World→Prop):List Nat→List Rec→Act→World→Prop
  | [],_,a,w=>Q a w
  | i :: l,L,a,w =>
    match ops[i]? with
    | none=>False
    | some o=>if Region.wanted o (yielded ops a.tmps) = true then (if kd i = 5 then OneOp5 P bs Rs w0 i o a w L (LIv bs Rs kd w0 Q l) else OneOp P w0 o (kd i) a w (LIv bs Rs kd w0 Q l L)) else LIv bs Rs kd w0 Q l L (a.put o.dst undef) w
def ok5 (ki kj:Nat):Bool:=(ki≤1 && (kj≤1 || kj == 5)) || (ki == 5 && (kj≤1 || kj == 5)) || (ki == 0 && kj == 4) || (ki == 4 && kj == 0)
theorem ok5_1 {ki kj:Nat} (h:ok5 ki kj = true) (hk:kj≤1):ki≤1∨ki = 5∨(ki = 4∧kj = 0):=by simp [ok5] at h; omega
theorem ok5_5 {ki kj:Nat} (h:ok5 ki kj = true) (hk:kj = 5):ki≤1∨ki = 5:=by simp [ok5] at h; omega
theorem ok5_4 {ki kj:Nat} (h:ok5 ki kj = true) (hk:kj = 4):ki = 0:=by simp [ok5] at h; omega
def No45 (kd:Nat→Nat) (l:List Nat):Prop:=∀ l1 i l2,l = l1++i :: l2→kd i = 4→∀ j∈l2,kd j≠1∧kd j≠5
def InL (Rs:Fct) (w:World):List Rec→Prop
  | []=>True
  | q :: L=>(q.2.2.2≤w.heap.size∧Rs q.1 (getR L) q.2.1 q.2.2.1 q.2.2.2 w)∧InL Rs w L
def Inv5 (Rs:Fct) (kd:Nat→Nat) (w0 w:World) (l:List Nat) (L:List Rec):Prop:=(∃ j∈l,kd j = 1∨kd j = 5)→Ext w0 w∧InL Rs w L
structure Stb (bs:Nat→Nat) (Rs:Fct):Prop where
  st:∀ k g v lo hi w1 w2,Ext w1 w2→Rs k g v lo hi w1→Rs k g v lo hi w2
  dp:∀ k g g' v lo hi w,(∀ d,(bs k).testBit d = true→g d = g' d)→Rs k g v lo hi w→Rs k g' v lo hi w
theorem InL.ext {bs:Nat→Nat} {Rs:Fct} (hR:Stb bs Rs) {w w':World} (e:Ext w w'):∀ {L:List Rec},InL Rs w L→InL Rs w' L
  | [],_=>trivial
  | _ :: _,h=>⟨⟨Nat.le_trans h.1.1 e.size,hR.st _ _ _ _ _ _ _ e h.1.2⟩,InL.ext hR e h.2⟩
theorem InL.sz {Rs:Fct} {w:World}:∀ {L:List Rec},InL Rs w L→∀ q∈L,q.2.2.2≤w.heap.size
  | [],_,q,hq=>by cases hq
  | _ :: _,h,q,hq=>by
    rcases List.mem_cons.1 hq with rfl | hq
    · exact h.1.1
    · exact h.2.sz q hq
theorem InL.dp {bs:Nat→Nat} {Rs:Fct} {w:World} {k:Nat}:∀ {L:List Rec},InL Rs w L→DpL bs Rs k w L
  | [],_=>trivial
  | _ :: _,h=>⟨fun _=>h.1,h.2.dp⟩
theorem getR_ne {q:Rec} {L:List Rec} {j:Nat} (h:q.1≠j):getR (q :: L) j = getR L j:=by
  show cond (Nat.beq q.1 j) _ _ = _
  rw [show Nat.beq q.1 j = false from by cases hb:Nat.beq q.1 j with | false=>rfl | true=>exact absurd (Nat.eq_of_beq_eq_true hb) h]; rfl
theorem No45.tail {kd:Nat→Nat} {i:Nat} {l:List Nat} (h:No45 kd (i :: l)):No45 kd l:=fun l1 j l2 e=>h (i :: l1) j l2 (by rw [e]; rfl)
theorem No45.erase {kd:Nat→Nat} {l1 l2:List Nat} {i:Nat} (h:No45 kd (l1++i :: l2)):No45 kd (l1++l2):=by
  intro m1 j m2 e hj x hx
  by_cases hlt:m1.length < l1.length
  · have e1:l1 = m1++j :: (m2.take (l1.length - m1.length - 1)):=by
      have:=congrArg (List.take l1.length) e
      rw [List.take_left,List.take_append,List.take_of_length_le (by omega)] at this
      rw [this]
      congr 1
      obtain ⟨n,hn⟩:∃ n,l1.length - m1.length = n + 1:=⟨l1.length - m1.length - 1,by omega⟩
      rw [hn]; simp
    have e2:l2 = m2.drop (l1.length - m1.length - 1):=by
      have:=congrArg (List.drop l1.length) e
      rw [List.drop_left,List.drop_append] at this
      rw [this,List.drop_of_length_le (by omega),List.nil_append]
      obtain ⟨n,hn⟩:∃ n,l1.length - m1.length = n + 1:=⟨l1.length - m1.length - 1,by omega⟩
      rw [hn]; simp
    refine h m1 j (m2.take (l1.length - m1.length - 1)++i :: l2) (by rw [e1]; simp [List.append_assoc]) hj x ?_
    have hx':x∈m2.take (l1.length - m1.length - 1)++m2.drop (l1.length - m1.length - 1):=by rw [List.take_append_drop]; exact hx
    rw [← e2] at hx'
    simp only [List.mem_append,List.mem_cons] at hx' ⊢
    rcases hx' with hx' | hx'
    · exact .inl hx'
    · exact .inr (.inr hx')
  · have e2:l2 = m1.drop l1.length++j :: m2:=by
      have:=congrArg (List.drop l1.length) e
      rw [List.drop_left,List.drop_append_of_le_length (by omega)] at this
      exact this
    exact h (l1++i :: m1.drop l1.length) j m2 (by rw [e2]; simp) hj x hx
section main
variable {kd bs:Nat→Nat} {Rs:Fct} {w0:World} {Q:Act→World→Prop}
structure Swp (bs:Nat→Nat) (L L':List Rec):Prop where
  ex:∃ M p q N,L = M++p :: q :: N∧L' = M++q :: p :: N∧p.1≠q.1∧(bs p.1).testBit q.1 = false∧(bs q.1).testBit p.1 = false
theorem Swp.cons {L L':List Rec} (h:Swp bs L L') (r:Rec):Swp bs (r :: L) (r :: L'):=by
  obtain ⟨M,p,q,N,rfl,rfl,hh⟩:=h.ex
  exact ⟨r :: M,p,q,N,rfl,rfl,hh⟩
theorem Swp.mem {L L':List Rec} (h:Swp bs L L') (x:Rec):x∈L↔x∈L':=by
  obtain ⟨M,p,q,N,rfl,rfl,hh⟩:=h.ex
  simp only [List.mem_append,List.mem_cons]
  constructor <;> (rintro (h | h | h | h) <;> simp [h])
theorem getR_swp {p q:Rec} (hne:p.1≠q.1) (N:List Rec) (d:Nat):∀ M,getR (M++p :: q :: N) d = getR (M++q :: p :: N) d
  | []=>by
    show cond (Nat.beq p.1 d) p.2 (cond (Nat.beq q.1 d) q.2 _) = cond (Nat.beq q.1 d) q.2 (cond (Nat.beq p.1 d) p.2 _)
    cases hp:Nat.beq p.1 d with
    | false=>cases Nat.beq q.1 d <;> rfl
    | true =>
      have e1:p.1 = d:=Nat.eq_of_beq_eq_true hp
      cases hq:Nat.beq q.1 d with
      | false=>rfl
      | true=>exact absurd (e1.trans (Nat.eq_of_beq_eq_true hq).symm) hne
  | r :: M=>by
    show cond (Nat.beq r.1 d) r.2 (getR (M++p :: q :: N) d) = cond (Nat.beq r.1 d) r.2 (getR (M++q :: p :: N) d)
    rw [getR_swp hne N d M]
theorem Swp.getR {L L':List Rec} (h:Swp bs L L') (d:Nat):Go.Proofs.YtlbefjfhfodnlaaDoor.getR L d = Go.Proofs.YtlbefjfhfodnlaaDoor.getR L' d:=by
  obtain ⟨M,p,q,N,rfl,rfl,hne,_⟩:=h.ex
  exact getR_swp hne N d M
theorem dpL_swp (hR:Stb bs Rs) {p q:Rec} (hne:p.1≠q.1) (b1:(bs p.1).testBit q.1 = false) (b2:(bs q.1).testBit p.1 = false) {N:List Rec} {k:Nat} {w:World}:∀ M,DpL bs Rs k w (M++q :: p :: N)→DpL bs Rs k w (M++p :: q :: N)
  | [],hd=>by
    obtain ⟨d1,d2,d3⟩:=hd
    refine ⟨fun hb=>⟨(d2 hb).1,hR.dp _ _ _ _ _ _ _ (fun d hd=>?_) (d2 hb).2⟩,fun hb=>⟨(d1 hb).1,hR.dp _ _ _ _ _ _ _ (fun d hd=>?_) (d1 hb).2⟩,d3⟩
    · refine (getR_ne fun h9=>?_).symm
      rw [← h9,b1] at hd; cases hd
    · refine getR_ne fun h9=>?_
      rw [← h9,b2] at hd; cases hd
  | r :: M,hd=>⟨fun hb=>⟨(hd.1 hb).1,hR.dp _ _ _ _ _ _ _ (fun d _=>(getR_swp hne N d M).symm) (hd.1 hb).2⟩,dpL_swp hR hne b1 b2 M hd.2⟩
theorem Swp.dp (hR:Stb bs Rs) {L L':List Rec} (h:Swp bs L L') {k:Nat} {w:World} (hd:DpL bs Rs k w L'):DpL bs Rs k w L:=by
  obtain ⟨M,p,q,N,rfl,rfl,hne,b1,b2⟩:=h.ex
  exact dpL_swp hR hne b1 b2 M hd
theorem LIv.sub (hR:Stb bs Rs):∀ (l:List Nat) {L L':List Rec} {a:Act} {w:World},Swp bs L L'→LIv P ops bs Rs kd w0 Q l L a w→LIv P ops bs Rs kd w0 Q l L' a w
  | [],_,_,_,_,_,h=>h
  | i :: l,L,L',a,w,hs,h=>by
    simp only [LIv] at h ⊢
    cases hoi:ops[i]? with
    | none=>rw [hoi] at h; exact h
    | some o =>
      rw [hoi] at h
      simp only at h ⊢
      split
      · rename_i hw
        rw [if_pos hw] at h
        split
        · rename_i h5
          rw [if_pos h5] at h
          obtain ⟨r2,r3⟩:=h
          have hg:Go.Proofs.YtlbefjfhfodnlaaDoor.getR L = Go.Proofs.YtlbefjfhfodnlaaDoor.getR L':=funext hs.getR
          exact ⟨fun w' e1 e2=>by rw [← hg]; exact r2 w' e1 (hs.dp hR e2),fun v lo hi w'' e1 e2 e3 e4 e5 e6=>LIv.sub hR l (hs.cons _) (r3 v lo hi w'' e1 e2 e3 e4 (fun q hq=>e5 q ((hs.mem q).1 hq)) (by rw [hg]; exact e6))⟩
        · rename_i h5
          rw [if_neg h5] at h
          exact h.mono fun a w hh=>LIv.sub hR l hs hh
      · rename_i hw
        rw [if_neg hw] at h
        exact LIv.sub hR l hs h
theorem takeQv (hR:Stb bs Rs) (hsel:∀ (j:Nat) (o:Oper) cs b,ops[j]? = some o→o.op≠.select cs b) {j:Nat} {oj:Oper} (hj:ops[j]? = some oj) (hk:kd j≤1) :
    ∀ (l1 l2:List Nat) (L:List Rec) (a:Act) (w:World),No45 kd (l1++j :: l2)→Inv5 Rs kd w0 w (l1++j :: l2) L→(∀ i∈l1,∀ oi,ops[i]? = some oi→oi.apart ops oj = true∧ok5 (kd i) (kd j) = true) →
      LIv P ops bs Rs kd w0 Q (l1++j :: l2) L a w→∃ v,Yv P ops w0 (kd j) oj a w v∧LIv P ops bs Rs kd w0 Q (l1++l2) L (a.put oj.dst v) w
  | [],l2,L,a,w,hN,hI,_,h=>by
    simp only [List.nil_append,LIv,hj] at h ⊢
    split at h
    · rename_i hw
      rw [if_neg (by omega)] at h
      unfold OneOp at h
      rw [if_pos (by omega)] at h
      obtain ⟨v,h1,h2⟩:=h
      exact ⟨v,.inl ⟨hw,h1⟩,h2⟩
    · rename_i hw
      exact ⟨undef,.inr ⟨by simpa using hw,rfl⟩,h⟩
  | i :: l1,l2,L,a,w,hN,hI,hl,h=>by
    have hi:=hl i (List.mem_cons_self ..)
    have hl':∀ x∈l1,∀ ox,ops[x]? = some ox→ox.apart ops oj = true∧ok5 (kd x) (kd j) = true:=fun x hx=>hl x (List.mem_cons_of_mem _ hx)
    have hN':No45 kd (l1++j :: l2):=hN.tail
    have hI':Inv5 Rs kd w0 w (l1++j :: l2) L:=fun ⟨x,hx,hk⟩=>hI ⟨x,List.mem_cons_of_mem _ hx,hk⟩
    simp only [List.cons_append,LIv] at h ⊢
    cases hoi:ops[i]? with
    | none=>rw [hoi] at h; exact h.elim
    | some oi =>
      rw [hoi] at h
      simp only at h ⊢
      obtain ⟨hap,hok⟩:=hi oi hoi
      obtain ⟨p1,p2,p3⟩:=Oper.apart_spec hap
      have p2':∀ d,oj.dst = some d→oi.dst≠some d:=fun d hd he=>p2 d he hd
      have si:=fun cs b=>hsel i oi cs b hoi
      have sj:=fun cs b=>hsel j oj cs b hj
      have hcl:∀ w1 w2 w3,Cl w0 w1 (kd j) w3→Cl w0 w2 (kd j) w3:=by
        intro w1 w2 w3 hc
        match hkj:kd j,hk with
        | 0,_=>trivial
        | 1,_=>rw [hkj] at hc; exact hc
        | _ + 2,hle=>omega
      by_cases hw:Region.wanted oi (yielded ops a.tmps) = true
      · rw [if_pos hw] at h
        rcases ok5_1 hok hk with hki | hki | ⟨hki,hkj⟩
        · rw [if_neg (by omega)] at h
          unfold OneOp at h
          rw [if_pos (by omega)] at h
          obtain ⟨vi,hy,h⟩:=h
          obtain ⟨v,h1,h2⟩:=takeQv hR hsel hj hk l1 l2 L (a.put oi.dst vi) w hN' hI' hl' h
          refine ⟨v,(Yv.apart sj p1).1 h1,?_⟩
          rw [wanted_put oi a oj.dst v p3,if_pos hw,if_neg (by omega)]
          unfold OneOp
          rw [if_pos (by omega)]
          refine ⟨vi,fun w' hc=>(YA.apart (ops:=ops) si p3).2 (hy w' hc),?_⟩
          rw [Act.put_comm a v vi p2']
          exact h2
        · rw [if_pos hki] at h
          obtain ⟨r2,r3⟩:=h
          obtain ⟨hE0,hL0⟩:=hI ⟨i,List.mem_cons_self ..,.inr hki⟩
          have step:∀ vi lo hi w'',Ext w w''→w0.heap.size≤lo→lo≤hi→hi≤w''.heap.size→(∀ q∈L,q.2.2.2≤lo∨hi≤q.2.2.1)→Rs i (getR L) vi lo hi w''→∃ v,Yv P ops w0 (kd j) oj a w v∧LIv P ops bs Rs kd w0 Q (l1++l2) ((i,vi,lo,hi) :: L) ((a.put oi.dst vi).put oj.dst v) w'':=by
            intro vi lo hi w'' e1 e2 e3 e4 e5 e6
            obtain ⟨v,h1,h2⟩:=takeQv hR hsel hj hk l1 l2 ((i,vi,lo,hi) :: L) (a.put oi.dst vi) w'' hN' (fun _=>⟨hE0.trans e1,⟨e4,e6⟩,hL0.ext hR e1⟩) hl' (r3 vi lo hi w'' e1 e2 e3 e4 e5 e6)
            refine ⟨v,?_,h2⟩
            rcases (Yv.apart sj p1).1 h1 with ⟨q1,q2⟩ | ⟨q1,q2⟩
            · exact .inl ⟨q1,fun w2 hc=>q2 w2 (hcl w w'' w2 hc)⟩
            · exact .inr ⟨q1,q2⟩
          have hfr:∀ w1,∀ q∈L,q.2.2.2≤w.heap.size∨w1≤q.2.2.1:=fun w1 q hq=>.inl (hL0.sz q hq)
          obtain ⟨v,hv⟩:∃ v,Yv P ops w0 (kd j) oj a w v:=by
            obtain ⟨vi,w1,g1,g2⟩:=(r2 w hE0 hL0.dp).some
            obtain ⟨v,h1,_⟩:=step vi w.heap.size w1.heap.size w1 g1 hE0.size g1.size (Nat.le_refl _) (hfr _) g2
            exact ⟨v,h1⟩
          refine ⟨v,hv,?_⟩
          rw [wanted_put oi a oj.dst v p3,if_pos hw,if_pos hki]
          refine ⟨fun w' hw' hd=>(RA.apart (ops:=ops) si p3 p2').2 (r2 w' hw' hd),fun vi lo hi w'' e1 e2 e3 e4 e5 e6=>?_⟩
          obtain ⟨v',h1,h2⟩:=step vi lo hi w'' e1 e2 e3 e4 e5 e6
          have:v' = v:=h1.unique (fun _=>hE0) hv
          subst this
          rw [Act.put_comm a v' vi p2']
          exact h2
        · rw [if_neg (by omega)] at h
          unfold OneOp at h
          rw [if_neg (by omega),if_neg (by omega)] at h
          have hno:∀ x∈l1++j :: l2,kd x≠1∧kd x≠5:=hN [] i _ rfl hki
          have hs:=wp_shape h
          have step:∀ a' w',(LIv P ops bs Rs kd w0 Q (l1++j :: l2) L a' w'∧Shape a oi.dst a')→∃ v,Yv P ops w0 (kd j) oj a w v∧LIv P ops bs Rs kd w0 Q (l1++l2) L (a'.put oj.dst v) w':=by
            rintro a' w' ⟨hL,hsh⟩
            obtain ⟨v,h1,h2⟩:=takeQv hR hsel hj hk l1 l2 L a' w' hN' (fun ⟨x,hx,hh⟩=>(hh.elim (fun h=>(hno x hx).1 h) fun h=>(hno x hx).2 h).elim) hl' hL
            refine ⟨v,?_,h2⟩
            rcases (Yv.shape sj p1 hsh).1 h1 with ⟨q1,q2⟩ | ⟨q1,q2⟩
            · exact .inl ⟨q1,fun w2 hc=>q2 w2 (hcl w w' w2 hc)⟩
            · exact .inr ⟨q1,q2⟩
          obtain ⟨v,hv⟩:∃ v,Yv P ops w0 (kd j) oj a w v:=by
            obtain ⟨u,w',hK | ⟨d,hK⟩⟩:=wp_some hs
            · obtain ⟨v,h1,_⟩:=step _ _ hK; exact ⟨v,h1⟩
            · obtain ⟨v,h1,_⟩:=step _ _ hK; exact ⟨v,h1⟩
          refine ⟨v,hv,?_⟩
          rw [wanted_put oi a oj.dst v p3,if_pos hw,if_neg (by omega)]
          unfold OneOp
          rw [if_neg (by omega),if_neg (by omega)]
          refine wp_unapart (ops:=ops) si p3 p2' (Oper.wp_mono (fun a' w' hK=>?_) hs)
          obtain ⟨v',h1,h2⟩:=step a' w' hK
          have:v' = v:=h1.unique (fun h1=>by omega) hv
          subst this
          exact h2
      · rw [if_neg hw] at h
        obtain ⟨v,h1,h2⟩:=takeQv hR hsel hj hk l1 l2 L (a.put oi.dst undef) w hN' hI' hl' h
        refine ⟨v,(Yv.apart sj p1).1 h1,?_⟩
        rw [wanted_put oi a oj.dst v p3,if_neg hw,Act.put_comm a v undef p2']
        exact h2
theorem takeW (hR:Stb bs Rs) (hsel:∀ (j:Nat) (o:Oper) cs b,ops[j]? = some o→o.op≠.select cs b) {j:Nat} {oj:Oper} (hj:ops[j]? = some oj) (hk:kd j = 5) :
    ∀ (l1 l2:List Nat) (L:List Rec) (a:Act) (w:World),(∀ i∈l1,∀ oi,ops[i]? = some oi→oi.apart ops oj = true∧ok5 (kd i) (kd j) = true)→(∀ i∈l1,(bs j).testBit i = false∧(bs i).testBit j = false∧i≠j)→Ext w0 w→InL Rs w L→LIv P ops bs Rs kd w0 Q (l1++j :: l2) L a w →
      (Region.wanted oj (yielded ops a.tmps) = true→OneOp5 P bs Rs w0 j oj a w L (LIv P ops bs Rs kd w0 Q (l1++l2))) ∧
      (Region.wanted oj (yielded ops a.tmps) = false→LIv P ops bs Rs kd w0 Q (l1++l2) L (a.put oj.dst undef) w)
  | [],l2,L,a,w,_,_,hE0,hL0,h=>by
    simp only [List.nil_append,LIv,hj] at h ⊢
    refine ⟨fun hw=>?_,fun hw=>?_⟩
    · rw [if_pos hw,if_pos hk] at h; exact h
    · rw [if_neg (by simp [hw])] at h; exact h
  | i :: l1,l2,L,a,w,hl,hb,hE0,hL0,h=>by
    have hi:=hl i (List.mem_cons_self ..)
    obtain ⟨hbi,hbj,hij⟩:=hb i (List.mem_cons_self ..)
    have hl':∀ x∈l1,∀ ox,ops[x]? = some ox→ox.apart ops oj = true∧ok5 (kd x) (kd j) = true:=fun x hx=>hl x (List.mem_cons_of_mem _ hx)
    have hb':∀ x∈l1,(bs j).testBit x = false∧(bs x).testBit j = false∧x≠j:=fun x hx=>hb x (List.mem_cons_of_mem _ hx)
    simp only [List.cons_append,LIv] at h ⊢
    cases hoi:ops[i]? with
    | none=>rw [hoi] at h; exact h.elim
    | some oi =>
      rw [hoi] at h
      simp only at h ⊢
      obtain ⟨hap,hok⟩:=hi oi hoi
      obtain ⟨p1,p2,p3⟩:=Oper.apart_spec hap
      have p2':∀ d,oj.dst = some d→oi.dst≠some d:=fun d hd he=>p2 d he hd
      have si:=fun cs b=>hsel i oi cs b hoi
      have sj:=fun cs b=>hsel j oj cs b hj
      by_cases hw:Region.wanted oi (yielded ops a.tmps) = true
      · rw [if_pos hw] at h
        rcases ok5_5 hok hk with hki | hki
        · rw [if_neg (by omega)] at h
          unfold OneOp at h
          rw [if_pos (by omega)] at h
          obtain ⟨vi,hy,h⟩:=h
          obtain ⟨g1,g2⟩:=takeW hR hsel hj hk l1 l2 L (a.put oi.dst vi) w hl' hb' hE0 hL0 h
          rw [wanted_put oj a oi.dst vi p1] at g1 g2
          refine ⟨fun hwj=>?_,fun hwj=>?_⟩
          · obtain ⟨r2,r3⟩:=g1 hwj
            refine ⟨fun w' hw' hd=>(RA.apart (ops:=ops) sj p1 p2).1 (r2 w' hw' hd),fun v lo hi w'' e1 e2 e3 e4 e5 e6=>?_⟩
            have hr:=r3 v lo hi w'' e1 e2 e3 e4 e5 e6
            dsimp only
            rw [wanted_put oi a oj.dst v p3,if_pos hw,if_neg (by omega)]
            unfold OneOp
            rw [if_pos (by omega)]
            refine ⟨vi,fun w3 hc=>(YA.apart (ops:=ops) si p3).2 (hy w3 ?_),?_⟩
            · match hki':kd i,hki with
              | 0,_=>trivial
              | 1,_=>rw [hki'] at hc; exact hc
              | _ + 2,hle=>omega
            · rw [Act.put_comm a v vi p2']; exact hr
          · rw [wanted_put oi a oj.dst undef p3,if_pos hw,if_neg (by omega)]
            unfold OneOp
            rw [if_pos (by omega)]
            refine ⟨vi,fun w' hc=>(YA.apart (ops:=ops) si p3).2 (hy w' hc),?_⟩
            rw [Act.put_comm a undef vi p2']
            exact g2 hwj
        · rw [if_pos hki] at h
          obtain ⟨r2,r3⟩:=h
          have step:∀ vi lo hi w'',Ext w w''→w0.heap.size≤lo→lo≤hi→hi≤w''.heap.size→(∀ q∈L,q.2.2.2≤lo∨hi≤q.2.2.1)→Rs i (getR L) vi lo hi w'' →
              (Region.wanted oj (yielded ops a.tmps) = true→OneOp5 P bs Rs w0 j oj (a.put oi.dst vi) w'' ((i,vi,lo,hi) :: L) (LIv P ops bs Rs kd w0 Q (l1++l2))) ∧
              (Region.wanted oj (yielded ops a.tmps) = false→LIv P ops bs Rs kd w0 Q (l1++l2) ((i,vi,lo,hi) :: L) ((a.put oi.dst vi).put oj.dst undef) w''):=by
            intro vi lo hi w'' e1 e2 e3 e4 e5 e6
            have hr:=takeW hR hsel hj hk l1 l2 ((i,vi,lo,hi) :: L) (a.put oi.dst vi) w'' hl' hb' (hE0.trans e1) ⟨⟨e4,e6⟩,hL0.ext hR e1⟩ (r3 vi lo hi w'' e1 e2 e3 e4 e5 e6)
            rw [wanted_put oj a oi.dst vi p1] at hr
            exact hr
          have hfr:∀ w1,∀ q∈L,q.2.2.2≤w.heap.size∨w1≤q.2.2.1:=fun w1 q hq=>.inl (hL0.sz q hq)
          obtain ⟨vi0,w10,k1,k2⟩:=(r2 w hE0 hL0.dp).some
          have st0:=step vi0 w.heap.size w10.heap.size w10 k1 hE0.size k1.size (Nat.le_refl _) (hfr _) k2
          refine ⟨fun hwj=>⟨fun w' e1 e2=>?_,fun v lo hi w2 e1 e2 e3 e4 e5 e6=>?_⟩,fun hwj=>?_⟩
          · have h9:=(st0.1 hwj).1 w' e1 ⟨fun hbq=>absurd (show (bs j).testBit i = true from hbq) (by rw [hbi]; decide),e2⟩
            refine (RA.apart (ops:=ops) sj p1 p2).1 (Oper.wp_mono (fun b w1 hb=>?_) h9)
            obtain ⟨q1,u,q2,q3⟩:=hb
            exact ⟨q1,u,q2,hR.dp _ _ _ _ _ _ _ (fun d hd=>getR_ne fun h8=>by rw [← h8] at hd; rw [show (bs j).testBit i = true from hd] at hbi; cases hbi) q3⟩
          · dsimp only
            rw [wanted_put oi a oj.dst v p3,if_pos hw,if_pos hki]
            have hgi:∀ d,(bs i).testBit d = true→getR L d = getR ((j,v,lo,hi) :: L) d:=fun d hd=>(getR_ne fun h8=>by rw [← h8] at hd; rw [show (bs i).testBit j = true from hd] at hbj; cases hbj).symm
            have hgj:∀ vi loi hii,∀ d,(bs j).testBit d = true→getR L d = getR ((i,vi,loi,hii) :: L) d:=fun vi loi hii d hd=>(getR_ne fun h8=>by rw [← h8] at hd; rw [show (bs j).testBit i = true from hd] at hbi; cases hbi).symm
            refine ⟨fun w' f1 f2=>(RA.apart (ops:=ops) si p3 p2').2 (Oper.wp_mono (fun b w1 hb=>⟨hb.1,hb.2.choose,hb.2.choose_spec.1,hR.dp _ _ _ _ _ _ _ hgi hb.2.choose_spec.2⟩) (r2 w' f1 f2.2)),fun vi loi hii w3 f1 f2 f3 f4 f5 f6=>?_⟩
            have hs:=(step vi loi hii w3 (e1.trans f1) f2 f3 f4 (fun q hq=>f5 q (List.mem_cons_of_mem _ hq)) (hR.dp _ _ _ _ _ _ _ (fun d hd=>(hgi d hd).symm) f6)).1 hwj
            have hr:=hs.2 v lo hi w3 (Ext.refl _) e2 e3 (Nat.le_trans e4 f1.size) (fun q hq=>by
              rcases List.mem_cons.1 hq with rfl | hq
              · exact (f5 _ (List.mem_cons_self ..)).symm
              · exact e5 q hq) (hR.dp _ _ _ _ _ _ _ (hgj vi loi hii) (hR.st _ _ _ _ _ _ _ f1 e6))
            rw [Act.put_comm a v vi p2']
            exact LIv.sub hR _ ⟨[],(j,v,lo,hi),(i,vi,loi,hii),L,rfl,rfl,fun h9=>hij h9.symm,hbi,hbj⟩ hr
          · rw [wanted_put oi a oj.dst undef p3,if_pos hw,if_pos hki]
            refine ⟨fun w' f1 f2=>(RA.apart (ops:=ops) si p3 p2').2 (r2 w' f1 f2),fun vi loi hii w3 f1 f2 f3 f4 f5 f6=>?_⟩
            rw [Act.put_comm a undef vi p2']
            exact (step vi loi hii w3 f1 f2 f3 f4 f5 f6).2 hwj
      · rw [if_neg hw] at h
        obtain ⟨g1,g2⟩:=takeW hR hsel hj hk l1 l2 L (a.put oi.dst undef) w hl' hb' hE0 hL0 h
        rw [wanted_put oj a oi.dst undef p1] at g1 g2
        refine ⟨fun hwj=>?_,fun hwj=>?_⟩
        · obtain ⟨r2,r3⟩:=g1 hwj
          refine ⟨fun w' hw' hd=>(RA.apart (ops:=ops) sj p1 p2).1 (r2 w' hw' hd),fun v lo hi w'' e1 e2 e3 e4 e5 e6=>?_⟩
          have hr:=r3 v lo hi w'' e1 e2 e3 e4 e5 e6
          dsimp only
          rw [wanted_put oi a oj.dst v p3,if_neg hw,Act.put_comm a v undef p2']; exact hr
        · rw [wanted_put oi a oj.dst undef p3,if_neg hw,Act.put_comm a undef undef p2']
          exact g2 hwj
theorem takeR4 (hsel:∀ (j:Nat) (o:Oper) cs b,ops[j]? = some o→o.op≠.select cs b) {j:Nat} {oj:Oper} (hj:ops[j]? = some oj) (hk:kd j = 4) :
    ∀ (l1 l2:List Nat) (L:List Rec) (a:Act) (w:World),(∀ i∈l1,∀ oi,ops[i]? = some oi→oi.apart ops oj = true∧ok5 (kd i) (kd j) = true)→LIv P ops bs Rs kd w0 Q (l1++j :: l2) L a w →
      (Region.wanted oj (yielded ops a.tmps) = true→oj.wp P a w (LIv P ops bs Rs kd w0 Q (l1++l2) L) (NQ fun _ _=>False)) ∧
      (Region.wanted oj (yielded ops a.tmps) = false→LIv P ops bs Rs kd w0 Q (l1++l2) L (a.put oj.dst undef) w)
  | [],l2,L,a,w,_,h=>by
    simp only [List.nil_append,LIv,hj] at h ⊢
    refine ⟨fun hw=>?_,fun hw=>?_⟩
    · rw [if_pos hw,if_neg (by omega)] at h
      unfold OneOp at h
      rw [if_neg (by omega),if_neg (by omega)] at h; exact h
    · rw [if_neg (by simp [hw])] at h; exact h
  | i :: l1,l2,L,a,w,hl,h=>by
    have hi:=hl i (List.mem_cons_self ..)
    have hl':∀ x∈l1,∀ ox,ops[x]? = some ox→ox.apart ops oj = true∧ok5 (kd x) (kd j) = true:=fun x hx=>hl x (List.mem_cons_of_mem _ hx)
    simp only [List.cons_append,LIv] at h ⊢
    cases hoi:ops[i]? with
    | none=>rw [hoi] at h; exact h.elim
    | some oi =>
      rw [hoi] at h
      simp only at h ⊢
      obtain ⟨hap,hok⟩:=hi oi hoi
      obtain ⟨p1,p2,p3⟩:=Oper.apart_spec hap
      have p2':∀ d,oj.dst = some d→oi.dst≠some d:=fun d hd he=>p2 d he hd
      have si:=fun cs b=>hsel i oi cs b hoi
      have sj:=fun cs b=>hsel j oj cs b hj
      have hki:=ok5_4 hok hk
      by_cases hw:Region.wanted oi (yielded ops a.tmps) = true
      · rw [if_pos hw,if_neg (by omega)] at h
        unfold OneOp at h
        rw [if_pos (by omega)] at h
        obtain ⟨vi,hy,h⟩:=h
        have hya:∀ w',YA P oi a w' vi:=fun w'=>hy w' (by rw [hki]; exact trivial)
        obtain ⟨g1,g2⟩:=takeR4 hsel hj hk l1 l2 L (a.put oi.dst vi) w hl' h
        rw [wanted_put oj a oi.dst vi p1] at g1 g2
        refine ⟨fun hwj=>?_,fun hwj=>?_⟩
        · have g:=wp_apart (ops:=ops) (Q:=fun _ _=>False) sj p1 p2 (g1 hwj)
          refine Oper.wp_mono (fun a' w' hK=>?_) (wp_shape g)
          obtain ⟨hL,hsh⟩:=hK
          rw [wanted_shape p3 hsh,if_pos hw,if_neg (by omega)]
          unfold OneOp
          rw [if_pos (by omega)]
          refine ⟨vi,fun w'' hc=>?_,hL⟩
          have he:∀ b,YA P oi b w'' vi↔YR P ((execOp b.eval oi).run P w'') w'' vi:=fun _=>Iff.rfl
          obtain ⟨u,rfl | ⟨x,rfl⟩⟩:=hsh
          · exact (YA.apart (ops:=ops) si p3).2 (hya w'')
          · refine (YA.apart (ops:=ops) si p3).2 ?_
            have hee:Act.eval { a with defers:=x :: a.defers } = Act.eval a:=funext fun y=>by cases y <;> rfl
            rw [he,hee,← he]; exact hya w''
        · rw [wanted_put oi a oj.dst undef p3,if_pos hw,if_neg (by omega)]
          unfold OneOp
          rw [if_pos (by omega)]
          refine ⟨vi,fun w' hc=>(YA.apart (ops:=ops) si p3).2 (hya w'),?_⟩
          rw [Act.put_comm a undef vi p2']
          exact g2 hwj
      · rw [if_neg hw] at h
        obtain ⟨g1,g2⟩:=takeR4 hsel hj hk l1 l2 L (a.put oi.dst undef) w hl' h
        rw [wanted_put oj a oi.dst undef p1] at g1 g2
        refine ⟨fun hwj=>?_,fun hwj=>?_⟩
        · have g:=wp_apart (ops:=ops) (Q:=fun _ _=>False) sj p1 p2 (g1 hwj)
          refine Oper.wp_mono (fun a' w' hK=>?_) (wp_shape g)
          obtain ⟨hL,hsh⟩:=hK
          rw [wanted_shape p3 hsh,if_neg hw]
          exact hL
        · rw [wanted_put oi a oj.dst undef p3,if_neg hw,Act.put_comm a undef undef p2']
          exact g2 hwj
def Pair5 (md:Region.Mode) (ops:Array Oper) (kd bs:Nat→Nat) (x y:Nat):Prop :=
  (∀ ox oy,ops[x]? = some ox→ops[y]? = some oy→(bs y).testBit x = true∨(ox.apart ops oy = true∧ok5 (kd x) (kd y) = true)) ∧
  (∀ ox,ops[x]? = some ox→∀ e∈ox.after,Region.binds md e = true→e.on≠y)
theorem any_of_LIv (hR:Stb bs Rs) (hbk:∀ x y ox,ops[x]? = some ox→x < y→(bs x).testBit y = false) (hkd:∀ i,kd i≤1∨kd i = 4∨kd i = 5) (hsel:∀ (j:Nat) (o:Oper) cs b,ops[j]? = some o→o.op≠.select cs b) (hS:Sound md ops bs)
    (hlex:∀ j oj,ops[j]? = some oj→∀ e∈oj.after,Region.binds md e = true→e.on < j) :
    ∀ (n:Nat) (l:List Nat) (listed:Array Bool) (L:List Rec) (a:Act) (w:World),l.length = n→l.Pairwise (Pair5 md ops kd bs)→l.Pairwise (· < ·)→l.Nodup→listed.size = ops.size →
      (∀ i,i∈l↔listed.getD i true = false)→Closed bs listed→No45 kd l→Inv5 Rs kd w0 w l L→LIv P ops bs Rs kd w0 Q l L a w→wpAny P md ops (NQ Q) n listed a w
  | 0,l,listed,L,a,w,hn,_,_,_,_,hm,_,_,_,h=>by
    have hl:l = []:=List.eq_nil_of_length_eq_zero hn
    subst hl
    refine ⟨?_,h⟩
    cases hr:Region.ready md ops listed with
    | nil=>rfl
    | cons x xs =>
      have:=(mem_ready.1 (by rw [hr]; exact List.mem_cons_self ..:x∈Region.ready md ops listed)).1
      exact absurd ((hm x).2 this) (by simp)
  | n + 1,l,listed,L,a,w,hn,hs,hso,hd,hz,hm,hc,h14,hi1,h=>by
    refine ⟨fun h0=>?_,fun i hi=>?_⟩
    · exfalso
      match l,hn with
      | i :: l,hn =>
        have hready:=head_ready (md:=md) hz hm hlex (fun y hy ox hox=>((List.pairwise_cons.1 hs).1 y hy).2 ox hox)
        rw [h0] at hready
        cases hready
    · obtain ⟨hun,oi,hoi,hall⟩:=mem_ready.1 hi
      obtain ⟨l1,l2,rfl⟩:=List.append_of_mem ((hm i).2 hun)
      have hbits:=bits_of_ready hS hc hoi hall
      have hpi:∀ x∈l1,Pair5 md ops kd bs x i:=fun x hx=>(List.pairwise_append.1 hs).2.2 x hx i (List.mem_cons_self ..)
      have hlt:∀ x∈l1,x < i:=fun x hx=>(List.pairwise_append.1 hso).2.2 x hx i (List.mem_cons_self ..)
      have hnb0:∀ x∈l1,(bs i).testBit x = false:=fun x hx=>by
        have h2:=getD_false_of_true ((hm x).1 (List.mem_append_left _ hx))
        cases hb:(bs i).testBit x with
        | false=>rfl
        | true=>rw [hbits x hb] at h2; cases h2
      have hnb:∀ x∈l1,(bs i).testBit x = false∧(bs x).testBit i = false∧x≠i:=fun x hx=>⟨hnb0 x hx,hbk x i (ops[x]'(by have:=lt_of_unlisted ((hm x).1 (List.mem_append_left _ hx)); omega)) (by simp [show x < ops.size by have:=lt_of_unlisted ((hm x).1 (List.mem_append_left _ hx)); omega]) (hlt x hx),fun h9=>by have:=hlt x hx; omega⟩
      have hfree:∀ x∈l1,∀ ox,ops[x]? = some ox→ox.apart ops oi = true∧ok5 (kd x) (kd i) = true:=fun x hx ox hox=>by
        rcases (hpi x hx).1 ox oi hox hoi with hb | hb
        · rw [hnb0 x hx] at hb; cases hb
        · exact hb
      have hsz:=lt_of_unlisted hun
      have hsub0:(l1++l2).Sublist (l1++i :: l2):=List.Sublist.append_left (List.sublist_cons_self _ _) _
      have hnd:i∉l1++l2:=by
        have h1:=List.nodup_append.1 hd
        intro hmem
        rcases List.mem_append.1 hmem with hh | hh
        · exact h1.2.2 i hh i (List.mem_cons_self ..) rfl
        · exact (List.nodup_cons.1 h1.2.1).1 hh
      have hn':(l1++l2).length = n:=by simp at hn ⊢; omega
      have rec_:∀ L' a' w',Inv5 Rs kd w0 w' (l1++l2) L'→LIv P ops bs Rs kd w0 Q (l1++l2) L' a' w'→wpAny P md ops (NQ Q) n (listed.setIfInBounds i true) a' w':=fun L' a' w' hi' hL =>
        any_of_LIv hR hbk hkd hsel hS hlex n (l1++l2) _ L' a' w' hn' (hs.sublist hsub0) (hso.sublist hsub0) (hd.sublist hsub0) (by simpa using hz) (mem_erase hm hnd hsz) (closed_set hc hbits) (No45.erase h14) hi' hL
      have hsub:Inv5 Rs kd w0 w (l1++l2) L:=fun ⟨j,hj,hk⟩=>hi1 ⟨j,hsub0.subset hj,hk⟩
      rcases hkd i with hk | hk | hk
      · obtain ⟨v,hv,hL⟩:=takeQv hR hsel hoi hk l1 l2 L a w h14 hi1 hfree h
        unfold wpOp
        rw [hoi]
        rcases hv with ⟨hw,hy⟩ | ⟨hw,rfl⟩
        · simp only [hw,if_true]
          exact .inl (wp_of_YA (hy w (Cl.self fun h1=>(hi1 ⟨i,by simp,.inl h1⟩).1)) (rec_ _ _ _ hsub hL))
        · simp only [hw,Bool.false_eq_true,if_false]
          exact rec_ _ _ _ hsub hL
      · obtain ⟨g1,g2⟩:=takeR4 hsel hoi hk l1 l2 L a w hfree h
        unfold wpOp
        rw [hoi]
        have hno:¬ ∃ j∈l1++l2,kd j = 1∨kd j = 5:=by
          rintro ⟨j,hj,hkj⟩
          rcases List.mem_append.1 hj with hh | hh
          · obtain ⟨oj,hoj⟩:∃ oj,ops[j]? = some oj:=by
              have:=lt_of_unlisted ((hm j).1 (List.mem_append_left _ hh))
              exact ⟨ops[j]'(by omega),by simp [show j < ops.size by omega]⟩
            have:=ok5_4 (hfree j hh oj hoj).2 hk
            omega
          · have:=h14 l1 i l2 rfl hk j hh
            omega
        by_cases hw:Region.wanted oi (yielded ops a.tmps) = true
        · simp only [hw,if_true]
          exact .inl (Oper.wp_mono (fun a' w' hK=>rec_ L a' w' (fun hx=>absurd hx hno) hK) (wp_weak (g1 hw)))
        · simp only [hw,Bool.false_eq_true,if_false]
          exact rec_ _ _ _ hsub (g2 (by simpa using hw))
      · obtain ⟨hE0,hL0⟩:=hi1 ⟨i,by simp,.inr hk⟩
        obtain ⟨g1,g2⟩:=takeW hR hsel hoi hk l1 l2 L a w hfree hnb hE0 hL0 h
        unfold wpOp
        rw [hoi]
        by_cases hw:Region.wanted oi (yielded ops a.tmps) = true
        · simp only [hw,if_true]
          obtain ⟨r2,r3⟩:=g1 hw
          refine .inl (Oper.wp_mono (fun a' w' hK=>?_) (wp_weak (r2 w hE0 hL0.dp)))
          obtain ⟨hE,v,rfl,hv⟩:=hK
          exact rec_ ((i,v,w.heap.size,w'.heap.size) :: L) _ _ (fun _=>⟨hE0.trans hE,⟨Nat.le_refl _,hv⟩,hL0.ext hR hE⟩) (r3 v _ _ w' hE hE0.size hE.size (Nat.le_refl _) (fun q hq=>.inl (hL0.sz q hq)) hv)
        · simp only [hw,Bool.false_eq_true,if_false]
          exact rec_ _ _ _ hsub (g2 (by simpa using hw))
end main
theorem LIv_of_LV {bs:Nat→Nat} {Rs:Fct} {w0:World} {Q:Act→World→Prop} (ks:List Nat):∀ (os:List Oper) (k:Nat) (L:List Rec) (a:Act) (w:World),(∀ j,os[j]? = ops[k + j]?) →
    LV P ops bs Rs w0 Q k os (ks.drop k) L a w→LIv P ops bs Rs (fun i=>ks.getD i 0) w0 Q (List.range' k os.length) L a w
  | [],_,_,_,_,_,h=>by simpa [LIv,LV] using h
  | o :: os,k,L,a,w,ho,h=>by
    have h0:ops[k]? = some o:=by simpa using (ho 0).symm
    have hr:∀ L a w,LV P ops bs Rs w0 Q (k + 1) os (ks.drop (k + 1)) L a w→LIv P ops bs Rs (fun i=>ks.getD i 0) w0 Q (List.range' (k + 1) os.length) L a w:=fun L a w hh =>
      LIv_of_LV ks os (k + 1) L a w (fun j=>by have:=ho (j + 1); simpa [Nat.add_assoc,Nat.add_comm 1 j] using this) hh
    have hlt:k < ks.length:=by
      rcases Nat.lt_or_ge k ks.length with hh | hh
      · exact hh
      · rw [List.drop_of_length_le hh] at h; exact h.elim
    have hd:ks.drop k = ks[k] :: ks.drop (k + 1):=List.drop_eq_getElem_cons hlt
    rw [hd] at h
    simp only [List.length_cons,List.range'_succ,LIv,h0,LV] at h ⊢
    have hg:ks.getD k 0 = ks[k]:=by simp [hlt]
    split
    · rename_i hw
      rw [if_pos hw] at h
      rw [hg]
      split
      · rename_i h5
        rw [if_pos h5] at h
        exact ⟨h.1,fun v lo hi w'' e1 e2 e3 e4 e5 e6=>hr _ _ _ (h.2 v lo hi w'' e1 e2 e3 e4 e5 e6)⟩
      · rename_i h5
        rw [if_neg h5] at h
        exact h.mono (hr L)
    · rename_i hw
      rw [if_neg hw] at h
      exact hr _ _ _ h
def chk5 (ops:Array Oper) (ks:List Nat):Bool :=
  let b:=(Region.before ops).toList
  let os:=ops.toList
  Region.noSelect ops &&
  (os.zipIdx.all fun (o,j) =>
    (o.after.all fun e=>!Region.binds .any e || decide (e.on < j)) &&
    (let m:=o.after.foldl (fun s e=>if Region.binds .any e then s ||| 2 ^ e.on ||| b.getD e.on 0 else s) 0
     (b.getD j 0 == m)) &&
    (os.zipIdx.all fun (p,i)=>!(decide (i < j)) || (b.getD j 0).testBit i || (p.apart ops o && ok5 (ks.getD i 0) (ks.getD j 0)))) &&
  (os.zipIdx.all fun (_,i)=>!(decide (4 = ks.getD i 0)) || os.zipIdx.all fun (_,j)=>!(decide (i < j)) || (ks.getD j 0 != 1 && ks.getD j 0 != 5)) && (ks.all fun k=>decide (k≤1) || decide (k = 4) || decide (k = 5))
def bfr (os:List Oper) (j:Nat):Nat:=(Region.before os.toArray).toList.getD j 0
theorem wp_drawV {id:Nat} {Q:Exit→Act→World→Prop} {a:Act} {w:World} (os:List Oper) (ks:List Nat) (hm:P.follows .mixedOrders = true) (hB:chk5 os.toArray ks = true) (Rs:Fct) (hR:Stb (bfr os) Rs)
    (h:LV P os.toArray (bfr os) Rs w.drew (fun a w=>Q .normal a w) 0 os ks [] a w.drew):(Code.region id os.toArray true).wp P Q a w:=by
  refine wp_region_any hm ?_
  simp only [chk5,Bool.and_eq_true] at hB
  obtain ⟨⟨⟨hsel,hpl⟩,h14⟩,hks⟩:=hB
  have hz:∀ {j:Nat} {o:Oper},os.toArray[j]? = some o→(o,j)∈os.toArray.toList.zipIdx:=by
    intro j o ho
    rw [List.mem_zipIdx_iff_getElem?]
    simpa using ho
  have hall:∀ j oj,os.toArray[j]? = some oj→_:=fun j oj hj=>List.all_eq_true.1 hpl _ (hz hj)
  have hF:∀ i j oi oj,i < j→os.toArray[i]? = some oi→os.toArray[j]? = some oj→(bfr os j).testBit i = true∨(oi.apart os.toArray oj = true∧ok5 (ks.getD i 0) (ks.getD j 0) = true):=by
    intro i j oi oj hij hi hj
    have h3:=(Bool.and_eq_true _ _ ▸ hall j oj hj:_∧_).2
    have h4:=List.all_eq_true.1 h3 _ (hz hi)
    simp only [Bool.or_eq_true,Bool.not_eq_true',decide_eq_false_iff_not,Bool.and_eq_true] at h4
    rcases h4 with (h4 | h4) | h4
    · exact absurd hij h4
    · exact .inl h4
    · exact .inr h4
  have hlex:∀ j oj,os.toArray[j]? = some oj→∀ e∈oj.after,Region.binds .any e = true→e.on < j:=by
    intro j oj hj e he hb
    have h1:=(Bool.and_eq_true _ _ ▸ (Bool.and_eq_true _ _ ▸ hall j oj hj:_∧_).1:_∧_).1
    have h2:=(Array.all_eq_true_iff_forall_mem.1 h1) e he
    simpa [hb] using h2
  have hkd:∀ i,ks.getD i 0≤1∨ks.getD i 0 = 4∨ks.getD i 0 = 5:=fun i=>by
    by_cases hi:i < ks.length
    · have:=List.all_eq_true.1 hks ks[i] (List.getElem_mem hi)
      simp only [Bool.or_eq_true,decide_eq_true_eq] at this
      rw [show ks.getD i 0 = ks[i] from by simp [hi]]
      omega
    · left; rw [List.getD_eq_getElem?_getD,List.getElem?_eq_none (by omega)]; exact Nat.zero_le _
  have hSo:Sound .any os.toArray (bfr os):=by
    intro j oj hj i hb
    have h3:=(Bool.and_eq_true _ _ ▸ (Bool.and_eq_true _ _ ▸ hall j oj hj:_∧_).1:_∧_).2
    have h5:(Region.before os.toArray).toList.getD j 0 = oj.after.foldl (fun s e=>if Region.binds .any e then s ||| 2 ^ e.on ||| (Region.before os.toArray).toList.getD e.on 0 else s) 0:=by simpa using h3
    unfold bfr at hb
    rw [h5,← Array.foldl_toList] at hb
    rcases foldl_bits _ _ _ _ hb with hb | ⟨e,he,hbb,hh⟩
    · simp at hb
    · exact ⟨e,Array.mem_toList_iff.1 he,hbb,hh⟩
  have hbk:∀ x y ox,os.toArray[x]? = some ox→x < y→(bfr os x).testBit y = false:=by
    have H:∀ n x ox y,x≤n→os.toArray[x]? = some ox→(bfr os x).testBit y = true→y < x:=by
      intro n
      induction n with
      | zero =>
        intro x ox y hx ho hb
        obtain ⟨e,he,hbb,_⟩:=hSo x ox ho y hb
        have:=hlex x ox ho e he hbb
        omega
      | succ n ih =>
        intro x ox y hx ho hb
        obtain ⟨e,he,hbb,rfl | hh⟩:=hSo x ox ho y hb
        · exact hlex x ox ho e he hbb
        · have h1:=hlex x ox ho e he hbb
          have hlt:e.on < os.toArray.size:=by
            rcases Nat.lt_or_ge x os.toArray.size with h' | h'
            · omega
            · rw [Array.getElem?_eq_none h'] at ho; cases ho
          have:=ih e.on (os.toArray[e.on]) y (by omega) (by simp) hh
          omega
    intro x y ox ho hxy
    cases hb:(bfr os x).testBit y with
    | false=>rfl
    | true=>have:=H x x ox y (Nat.le_refl _) ho hb; omega
  have key:=any_of_LIv (P:=P) (ops:=os.toArray) (md:=.any) (kd:=fun i=>ks.getD i 0) (bs:=bfr os) (Rs:=Rs) (w0:=w.drew) (Q:=fun a w=>Q .normal a w) hR ?_ hkd
    (Region.noSelect_spec hsel) ?_ ?_ os.length (List.range' 0 os.length) (Array.replicate os.length false) [] a w.drew (by simp) ?_ (List.pairwise_lt_range' (s:=0) (n:=os.length) (step:=1)) List.nodup_range' (by simp) ?_ ?_ ?_ (fun _=>⟨Ext.refl _,trivial⟩) ?_
  · have:=wpAny_weak _ _ _ _ key
    simpa using this
  · exact hbk
  · exact hSo
  · exact hlex
  · exact (List.pairwise_lt_range' (s:=0) (n:=os.length) (step:=1)).imp fun {x y} hxy=>⟨fun ox oy hox hoy=>hF x y ox oy hxy hox hoy,fun ox hox e he hb=>by have:=hlex x ox hox e he hb; omega⟩
  · intro i
    simp only [List.mem_range',Nat.zero_add,Nat.one_mul]
    constructor
    · rintro ⟨x,hx,rfl⟩; simp [hx]
    · intro hh
      rcases Nat.lt_or_ge i os.length with h' | h'
      · exact ⟨i,h',rfl⟩
      · simp [Array.getElem?_eq_none (show (Array.replicate os.length false).size≤i by simpa using h')] at hh
  · intro i hi
    rcases Nat.lt_or_ge i os.length with h' | h'
    · simp [h'] at hi
    · simp [Array.getElem?_eq_none (show (Array.replicate os.length false).size≤i by simpa using h')] at hi
  · intro l1 i l2 hl hk j hj
    have hs:(l1++i :: l2).Pairwise (· < ·):=hl ▸ List.pairwise_lt_range'
    have hij:i < j:=List.rel_of_pairwise_cons (List.pairwise_append.1 hs).2.1 hj
    have mem:∀ x∈l1++i :: l2,x < os.length:=by
      intro x hx
      rw [← hl] at hx
      simp only [List.mem_range',Nat.zero_add,Nat.one_mul] at hx
      obtain ⟨y,hy,rfl⟩:=hx
      exact hy
    have hi:=mem i (by simp)
    have hj':=mem j (by simp [hj])
    have h1:=List.all_eq_true.1 h14 _ (hz (j:=i) (o:=os[i]) (by simp [hi]))
    simp only [Bool.or_eq_true,Bool.not_eq_true',decide_eq_false_iff_not] at h1
    rcases h1 with h1 | h1
    · exact absurd (Eq.symm hk) h1
    · have h2:=List.all_eq_true.1 h1 _ (hz (j:=j) (o:=os[j]) (by simp [hj']))
      simp only [Bool.or_eq_true,Bool.not_eq_true',decide_eq_false_iff_not] at h2
      rcases h2 with h2 | h2
      · exact absurd hij h2
      · simpa using h2
  · exact LIv_of_LV ks os 0 [] a w.drew (by simp) (by simpa using h)
end
section
variable {P:Program} {ops:Array Oper} {bs:Nat→Nat} {Rs:Fct} {w0:World} {Q:Act→World→Prop} {os:List Oper} {ks:List Nat} {L:List Rec} {N k d:Nat} {ρ:Nat→Value} {w:World} {o:Oper}
theorem LV.nil {a:Act} (h:Q a w):LV P ops bs Rs w0 Q k [] ks L a w:=h
theorem LV.j {kd:Nat} (hk:kd≠5) {a:Act} (h:LW P ops w0 (fun a' w'=>LV P ops bs Rs w0 Q (k + 1) os ks L a' w') [o] [kd] a w):LV P ops bs Rs w0 Q k (o :: os) (kd :: ks) L a w:=by
  simp only [LW] at h
  simp only [LV,hk,if_false]
  split
  · rename_i hw
    rw [if_pos hw] at h
    exact h
  · rename_i hw
    rw [if_neg hw] at h; exact h
theorem LV.r (hu:Up ops N ρ o) (ho:o.dst = some d) (hA:∀ w',Ext w0 w'→DpL bs Rs k w' L→LW P ops w' (fun a' w''=>∃ v,a' = mk N (upd ρ d v)∧Rs k (getR L) v w'.heap.size w''.heap.size w'') [o] [3] (mk N ρ) w')
    (hK:∀ v lo hi w'',Ext w w''→w0.heap.size≤lo→lo≤hi→hi≤w''.heap.size→(∀ q∈L,q.2.2.2≤lo∨hi≤q.2.2.1)→Rs k (getR L) v lo hi w''→LV P ops bs Rs w0 Q (k + 1) os ks ((k,v,lo,hi) :: L) (mk N (upd ρ d v)) w''):LV P ops bs Rs w0 Q k (o :: os) (5 :: ks) L (mk N ρ) w:=by
  simp only [LV]
  rw [if_pos hu,if_pos trivial]
  refine ⟨fun w' h1 h2=>?_,fun v lo hi w'' h1 h2 h3 h4 h5 h6=>?_⟩
  · have h:=hA w' h1 h2
    simp only [LW] at h
    rw [if_pos hu] at h
    unfold OneOp at h
    rw [if_neg (by decide),if_pos rfl] at h
    refine Oper.wp_mono (fun b w1 hb=>?_) h
    obtain ⟨q1,v,rfl,q3⟩:=hb
    exact ⟨q1,v,by rw [ho,mk_put],q3⟩
  · have:=hK v lo hi w'' h1 h2 h3 h4 h5 h6
    rw [← mk_put] at this
    rw [ho]; exact this
def RsL:List (Nat × ((Nat→Value × Nat × Nat)→Value→Nat→Nat→World→Prop))→Fct
  | [],_=>fun _ _ _ _ _=>True
  | r :: l,k=>cond (Nat.beq r.1 k) r.2 (RsL l k)
theorem stb_nil:Stb bs (RsL []):=⟨fun _ _ _ _ _ _ _ _ _=>trivial,fun _ _ _ _ _ _ _ _ _=>trivial⟩
theorem stb_cons {r:(Nat→Value × Nat × Nat)→Value→Nat→Nat→World→Prop} {l:List (Nat × ((Nat→Value × Nat × Nat)→Value→Nat→Nat→World→Prop))} (h1:∀ g v lo hi w1 w2,Ext w1 w2→r g v lo hi w1→r g v lo hi w2)
    (h2:∀ g g',(∀ d,(bs k).testBit d = true→g d = g' d)→∀ v lo hi w,r g v lo hi w→r g' v lo hi w) (h:Stb bs (RsL l)):Stb bs (RsL ((k,r) :: l)):=by
  refine ⟨fun j g v lo hi w1 w2 hE hr=>?_,fun j g g' v lo hi w hg hr=>?_⟩
  · have e:∀ w,RsL ((k,r) :: l) j g v lo hi w = (cond (Nat.beq k j) r (RsL l j)) g v lo hi w:=fun w=>rfl
    rw [e] at hr ⊢
    cases hb:Nat.beq k j with
    | true=>rw [hb] at hr; exact h1 _ _ _ _ _ _ hE hr
    | false=>rw [hb] at hr; exact h.st _ _ _ _ _ _ _ hE hr
  · have e:∀ g,RsL ((k,r) :: l) j g v lo hi w = (cond (Nat.beq k j) r (RsL l j)) g v lo hi w:=fun g=>rfl
    rw [e] at hr ⊢
    cases hb:Nat.beq k j with
    | true=>rw [hb] at hr; have:=Nat.eq_of_beq_eq_true hb; subst this; exact h2 _ _ hg _ _ _ _ hr
    | false=>rw [hb] at hr; exact h.dp _ _ _ _ _ _ _ hg hr
end
def lF {α:Type} (E:Stand α) (x:α) (v:Value) (lo hi:Nat) (w:World):Prop:=Fr E lo hi w.heap v x
theorem lF_st {α:Type} {E:Stand α} (hE:Good E) {x:α} (v:Value) (lo hi:Nat) (w1 w2:World) (h:Ext w1 w2) (k:lF E x v lo hi w1):lF E x v lo hi w2:=Fr.ext hE k h
def sF (s:ByteArray) (v:Value) (lo hi:Nat) (w:World):Prop:=v = .string s
end Go.Proofs.YtlbefjfhfodnlaaDoor
namespace Go.Proofs.YtlbefjfhfodnlaaDoor
open Go Go.RowKit
set_option linter.unusedVariables false
def decB (n:Nat):ByteArray:=⟨(Lib.decDigits n).toArray⟩
theorem dgs_len1 {n:Nat} (h:n < 10):(Lib.decDigits n).length = 1:=by rw [Lib.decDigits]; simp [h]
theorem decB_size {n:Nat} (h:n < 100):(decB n).size≤2:=by
  show (Lib.decDigits n).toArray.size≤2
  rw [List.size_toArray]
  by_cases h1:n < 10
  · rw [dgs_len1 h1]; omega
  · rw [Lib.decDigits]; simp only [h1,dite_false,List.length_append,List.length_singleton,dgs_len1 (show n / 10 < 10 by omega)]; omega
end Go.Proofs.YtlbefjfhfodnlaaDoor
namespace Go.Proofs.YtlbefjfhfodnlaaDoor
open Go Go.RowKit
set_option linter.unusedVariables false
theorem decB_lo {n:Nat} (h:n < 10):decB n = dig n:=by unfold decB dig; rw [Lib.decDigits]; simp [h]
theorem ba_app (l m:List UInt8):(⟨(l++m).toArray⟩:ByteArray) = ⟨l.toArray⟩++⟨m.toArray⟩:=by
  apply ByteArray.ext
  rw [ByteArray.data_append]
  simp
theorem decB_hi {n:Nat} (h:10≤n):decB n = decB (n / 10)++dig (n % 10):=by
  unfold decB dig
  rw [Lib.decDigits,dif_neg (by omega),ba_app]
theorem decB_sz (n:Nat):(decB n).size≤n + 1:=by
  induction n using Nat.strongRecOn with
  | ind n ih =>
    by_cases h:n < 10
    · rw [decB_lo h,dig_size]; omega
    · rw [decB_hi (by omega),ByteArray.size_append,dig_size]
      have:=ih (n / 10) (by omega)
      omega
theorem dig_eqm {n:Int} (h0:0≤n):(⟨#[UInt8.ofNat (IntKind.u8.wrap (((48:Nat):Int) + n.tmod ((10:Nat):Int))).toNat]⟩:ByteArray) = dig (n.toNat % 10):=by
  obtain ⟨k,rfl⟩:∃ k:Nat,n = k:=⟨n.toNat,by omega⟩
  have h:((k:Nat):Int).tmod ((10:Nat):Int) = ((k % 10:Nat):Int):=by
    rw [Int.tmod_eq_emod_of_nonneg (by omega)]; omega
  rw [h,dig_eq (by omega) (by omega)]; rfl
section
variable {P:Program} {ops:Array Oper} {w0 w:World} {Q:Act→World→Prop} {os:List Oper} {ks:List Nat} {N:Nat} {ρ:Nat→Value} {d:Nat} {ty:TypeId} {pos:String} {aft:Array Edge} {g:Option (Nat × Bool)} {e:TypeId}
theorem q_byteE3 {st dt:TypeId} {x:Operand} {v:Value} {n:Int} {B U:Nat} (hs:P.underlying st = some (.slice e)) (he:P.underlying e = some (.int .u8)) (hd:P.underlying dt = some .string) (hx:evF N ρ x = v) (hv:Fr (owL rV e) B U w.heap v [.int .u8 n])
    (hu:Up ops N ρ ⟨some d,.convert st dt x,ty,pos,aft,g⟩) (h:LW P ops w0 Q os ks (mk N (upd ρ d (.string ⟨#[UInt8.ofNat n.toNat]⟩))) w) :
    LW P ops w0 Q (⟨some d,.convert st dt x,ty,pos,aft,g⟩ :: os) (3 :: ks) (mk N ρ) w:=by
  obtain ⟨F,hv,_,_⟩:=hv
  rcases hv with ⟨_,hc,_⟩ | ⟨us,b,cap,cur,F',hels,rfl,hg,q1,q2,q3,q4,rfl⟩
  · cases hc
  · obtain ⟨rfl,rfl⟩:=els_rVe hels
    refine lw_r rfl hu _ w ?_ (Ext.refl w) h
    have hlc:=run_loadCells_list (P:=P) w ⟨b,0,none⟩ [.int .u8 n] (fun j u hj=>by
      rw [add_mk,cell_cellH]
      simp only [cellH,hg]
      have hj0:j = 0:=by have:=(List.getElem?_eq_some_iff.1 hj).1; simpa using this
      subst hj0
      have e1:cur.toList[0]? = some (.int .u8 n):=by
        have:(cur.toList.take 1)[0]? = some (.int .u8 n):=by rw [show cur.toList.take 1 = [.int .u8 n] from q4]; rfl
        rwa [List.getElem?_take,if_pos (by decide)] at this
      have e2:u = .int .u8 n:=by simpa using hj.symm
      rw [e2]
      simpa using e1)
    have hb:=run_bytesToString (P:=P) w ⟨b,0,none⟩ 1 cap [n] (by simpa using hlc)
    have hr:=run_convert_bytes_string (P:=P) w st dt e (some ⟨b,0,none⟩) 1 cap hs he hd
    simp only [execOp,hx,List.length_singleton,Sem.run_bind,hr,hb,Result.andThen_ok,Sem.run_pure]
    rfl
end
end Go.Proofs.YtlbefjfhfodnlaaDoor
