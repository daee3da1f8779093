/- Gc, Ma, Mb, Mc, Md, Nb, Gd, Ge, Gu, Gv, Gf, Gh, He, Iu, In, Iv, Ir, Iz, Ix, T, T2, Sa, Sb, Ua, Ub, Uc, Ul, Sw, Ud, Um, Un: texts of this claim, joined; what the claim does not come to is left out. -/
import Derived.Test.YtoacbkmejjhceaaQA1
import Derived.Test.YtoacbkmejjhceaaProg
import Derived.Laws.StructEq
set_option linter.unusedVariables false
set_option linter.unusedSimpArgs false
namespace Go.Proofs.Ytoacbkmejjhceaa
open Go Go.RowKit
set_option linter.unusedVariables false
set_option linter.unusedSimpArgs false
theorem fold_set:∀ (cs:List Value) (k:Nat) (A:Array Value),k + cs.length≤A.size→((cs.zipIdx k).foldl (fun A p=>A.setIfInBounds (0 + p.2) p.1) A).toList = A.toList.take k++cs++A.toList.drop (k + cs.length)
  | [],k,A,_=>by simp
  | c :: cs,k,A,h=>by
    rw [List.length_cons] at h
    rw [List.zipIdx_cons,List.foldl_cons,fold_set cs (k + 1) _ (by simp; omega)]
    simp only [Array.toList_setIfInBounds,Nat.zero_add]
    have h1:(A.toList.set k c).take (k + 1) = A.toList.take k++[c]:=by
      rw [List.take_succ_eq_append_getElem (by simp; omega),List.take_set,List.set_eq_of_length_le (by simp; omega)]
      simp
    have h2:(A.toList.set k c).drop (k + 1 + cs.length) = A.toList.drop (k + (c :: cs).length):=by
      rw [List.drop_set_of_lt (by omega),List.length_cons,show k + 1 + cs.length = k + (cs.length + 1) from by omega]
    rw [h1,h2,List.append_assoc (A.toList.take k)]; simp
theorem fold_all {cs:List Value} {A:Array Value} (h:A.size = cs.length):cs.zipIdx.foldl (fun A p=>A.setIfInBounds p.2 p.1) A = cs.toArray:=by
  apply Array.ext'
  have:=fold_set cs 0 A (by omega)
  simp only [List.take_zero,List.nil_append,Nat.zero_add] at this
  rw [List.drop_of_length_le (by rw [Array.length_toList]; omega),List.append_nil] at this
  simpa using this
section run
variable {P:Program} {w:World} {α:Type} {E:StandN α} {s:Nat} {t ty e:TypeId} {b:Nat} {z:Value}
theorem run_bsS {cs:List Value} (ht:P.underlying t = some (.slice e)) (hi:TI P e s z b) (hs:0 < s) (hs2:s≤1000) (hz:z.cells.size = s) (hc:cs.length = s) :
    (Instr.buildSlice t 1 #[(0,.agg cs.toArray)]).run P w = .ok (.slice (some ⟨w.heap.size,0,none⟩) 1 1) (w.alloc (.cells cs.toArray e)):=by
  obtain ⟨i,h1,h2,h3,h4⟩:=hi.get
  have h0:¬ (s = 0):=by omega
  have hA:((Array.range s).map (fun x=>z.cells[x % s]!)).size = cs.length:=by simp [hc]
  have hf:=fold_all hA
  have hbig:¬ (s > 2 ^ 24):=by omega
  simp only [Instr.buildSlice,Sem.run_bind,run_underlying ht,Result.andThen_ok,sizeOf,typeInfo,zeroValue,h1,h2,h3,Nat.one_mul,Instr.fill,hz,Sem.run_pure]
  have hag:(Value.agg cs.toArray).cells = cs.toArray:=rfl
  simp [h0,hbig,hag,hc,newRow,hz,h1,h2,h3,Instr.fill,run_underlying ht,typeInfo]
  rw [hf]
def FrN (E:StandN α) (B U:Nat) (H:Array Obj) (cs:List Value) (x:α):Prop:=∃ G,E H cs x G∧G.Nodup∧∀ b∈G,B≤b∧b < U
theorem owS_new (hE:GoodN s E) {css:List (List Value)} {xs:List α} {F:List Nat} {cur:Array Value} {cap:Nat} (h:elsN E w.heap css xs F) (hl:xs.length≤cap) (hm:cap≤maxLen) (hsz:cur.size = cap * s) (hc:cur.toList.take (xs.length * s) = css.flatten) :
    owS s E e (w.alloc (.cells cur e)).heap (.slice (some ⟨w.heap.size,0,none⟩) xs.length cap) xs (w.heap.size :: F):=by
  refine .inr ⟨css,w.heap.size,cap,cur,F,h.stable hE fun b hb=>?_,rfl,?_,hl,hm,hsz,hc,rfl⟩
  · exact Below.heap_alloc _ _ _ (h.lt hE b hb)
  · show (w.heap.push _)[w.heap.size]? = _
    simp
def FrP {α β:Type} (E:Array Obj→β→α→List Nat→Prop) (S:Nat→Prop) (H:Array Obj) (v:β) (x:α):Prop:=∃ F,E H v x F∧F.Nodup∧∀ b∈F,S b
theorem run_appQ (hE:GoodN s E) (ht:P.underlying t = some (.slice e)) (hi:TI P e s z b) (hz:z.cells.size = s) (hs:0 < s) {v:Value} {xs:List α} {S T:Nat→Prop} (hv:FrP (owS s E e) S w.heap v xs)
    {a:Value} {y:α} (ha:FrP (owS s E e) T w.heap a [y]) (hST:∀ b,S b→T b→False) (hbytes:(xs.length + 1) * b≤140737488355328) (hmx:xs.length + 1≤maxLen) :
    ∃ v' w' F,(Builtin.append_ #[t,t] ty #[v,a]).run P w = .ok v' w'∧FrP (owS s E e) (fun b=>S b∨T b∨b = w.heap.size) w'.heap v' (xs++[y])∧Chg F w w'∧∀ c∈F,S c:=by
  obtain ⟨F,hv1,hn,hF⟩:=hv
  obtain ⟨G,ha1,hnG,hG⟩:=ha
  obtain ⟨i,h1,h2,h3,h4⟩:=hi.get
  subst h4
  have hsmall:xs.length + 1≤9223372036854775807:=by simp only [maxLen] at hmx; omega
  rcases ha1 with ⟨_,h0,_⟩ | ⟨cas,ga,capa,cura,G',hels,rfl,hga,a1,a2,a3,a4,rfl⟩
  · cases h0
  · have hnG':=List.nodup_cons.1 hnG
    have hfl:cas.flatten.length = s:=by have:=hels.flen hE; simpa using this
    simp only [List.length_singleton,Nat.one_mul] at a4 a1
    have hnews:∀ j u,cas.flatten[j]? = some u→w.cell? ((⟨ga,0,none⟩:Addr).add j) = some u:=by
      intro j u hj
      have e1:(⟨ga,0,none⟩:Addr).add j = ⟨ga,j,none⟩:=by
        unfold Addr.add
        split
        · rename_i hh; subst hh; rfl
        · simp
      rw [e1,cell_cellH]
      simp only [cellH,hga]
      rw [← a4,List.getElem?_take] at hj
      split at hj
      · simpa using hj
      · cases hj
    have h1c:∀ u∈cas.flatten,u.oneCell' = true:=fun u hu=>(hels.one hE u hu).2
    have hl1:cas.flatten.length = 1 * i.size:=by rw [h3,hfl,Nat.one_mul]
    have made:∀ (w1:World) (ous:List (List Value)) (F0:List Nat) (rest:Nat),w1.heap = w.heap→w1.os = w.os→w1.tape = w.tape→w1.output = w.output→elsN E w.heap ous xs F0→(∀ c∈F0,c∈F)→F0.Nodup →
        (xs.length + 1 + rest)≤maxLen →
        FrP (owS s E e) (fun b=>S b∨T b∨b = w.heap.size) (w1.alloc (.cells (ous.flatten.toArray++cas.flatten.toArray++Builtin.zeroCells z.cells rest) e)).heap (.slice (some ⟨w.heap.size,0,none⟩) (xs.length + 1) (xs.length + 1 + rest)) (xs++[y]) ∧
          Chg ([]:List Nat) w (w1.alloc (.cells (ous.flatten.toArray++cas.flatten.toArray++Builtin.zeroCells z.cells rest) e)):=by
      intro w1 ous F0 rest hh ho htp hop hou hsub hnd hmax
      have happ:=hou.append hels
      have hofl:=hou.flen hE
      have hzc:(Builtin.zeroCells z.cells rest).size = rest * s:=by simp [Builtin.zeroCells,hz]
      have hsz:(ous.flatten.toArray++cas.flatten.toArray++Builtin.zeroCells z.cells rest).size = (xs.length + 1 + rest) * s:=by
        rw [Nat.add_mul,Nat.add_mul,Nat.one_mul]
        simp only [Array.size_append,List.size_toArray,hzc,hfl,hofl]
      have hlen:(xs++[y]).length = xs.length + 1:=by simp
      have hnew:=owS_new (e:=e) (w:=w1) hE (css:=ous++cas) (xs:=xs++[y]) (F:=F0++G') (cur:=ous.flatten.toArray++cas.flatten.toArray++Builtin.zeroCells z.cells rest) (cap:=xs.length + 1 + rest)
        (by rw [hh]; exact happ) (by rw [hlen]; omega) hmax hsz (by
          rw [hlen,Array.toList_append,Array.toList_append,List.flatten_append]
          have e1:(xs.length + 1) * s = (ous.flatten++cas.flatten).length:=by rw [List.length_append,hofl,hfl,Nat.add_mul,Nat.one_mul]
          rw [e1]; exact List.take_left)
      rw [hh,hlen] at hnew
      have hnn:(w.heap.size :: (F0++G')).Nodup:=by
        rw [List.nodup_cons]
        refine ⟨fun hm=>?_,?_⟩
        · have:=happ.lt hE _ hm; omega
        · rw [List.nodup_append]
          refine ⟨hnd,hnG'.2,?_⟩
          rintro x hx y hy rfl
          exact hST _ (hF x (hsub x hx)) (hG x (List.mem_cons_of_mem _ hy))
      refine ⟨⟨_,hnew,hnn,fun c hc=>?_⟩,ho,htp,hop,?_,fun k hk _=>?_⟩
      · rcases List.mem_cons.1 hc with rfl | hc
        · exact .inr (.inr rfl)
        · rcases List.mem_append.1 hc with hc | hc
          · exact .inl (hF c (hsub c hc))
          · exact .inr (.inl (hG c (List.mem_cons_of_mem _ hc)))
      · show w.heap.size≤(w1.heap.push _).size
        rw [hh]; simp
      · have:=Below.heap_alloc w1 (.cells (ous.flatten.toArray++cas.flatten.toArray++Builtin.zeroCells z.cells rest) e) k (by rw [hh]; exact hk)
        rw [this,hh]
    rcases hv1 with ⟨rfl,rfl,rfl⟩ | ⟨ous,gv,capv,curv,F0,hels0,rfl,hgv,r1,r2,r3,r4,rfl⟩
    · have hr:=run_append_nil (P:=P) w t ty e i z ht h1 h2 ⟨ga,0,none⟩ 1 capa cas.flatten hl1 hnews (by decide) (by decide) (by simp at hbytes ⊢; omega)
      have hge:=grownCap_ge w 1 0 e
      have hgm:=grownCap_le_maxLen w 1 0 e (by simpa using hmx)
      obtain ⟨q1,q2⟩:=made w.drew [] [] (grownCap w 1 0 e - 1) rfl rfl rfl rfl rfl (fun c hc=>by cases hc) List.nodup_nil (by simp; omega)
      refine ⟨_,_,[],hr,?_,?_,fun c hc=>by cases hc⟩
      · have ea:(([]:List α).length + 1 + (grownCap w 1 0 e - 1)) = grownCap w 1 0 e:=by simp; omega
        rw [ea] at q1
        simpa using q1
      · simpa using q2
    · have hn':=List.nodup_cons.1 hn
      have hofl:=hels0.flen hE
      by_cases hroom:xs.length + 1≤capv
      · have hbnd:xs.length * s + s≤curv.size:=by rw [r3,← Nat.succ_mul]; exact Nat.mul_le_mul_right s hroom
        have hr:=run_append_room (P:=P) w t ty e i ht h1 gv xs.length capv curv hgv ⟨ga,0,none⟩ 1 capa cas.flatten hl1 hnews h1c hroom (by rw [h3,hfl]; exact hbnd)
        rw [h3] at hr
        have hgF:gv∉F0:=hn'.1
        have hgG:gv∉G':=fun hm=>hST _ (hF gv (List.mem_cons_self ..)) (hG gv (List.mem_cons_of_mem _ hm))
        refine ⟨_,_,[gv],hr,⟨gv :: (F0++G'),.inr ⟨ous++cas,gv,capv,_,F0++G',?_,by rw [List.length_append,List.length_singleton],setRow_heap w gv curv _ e _ hgv,by rw [List.length_append,List.length_singleton]; exact hroom,r2,?_,?_,rfl⟩,?_,fun c hc=>?_⟩,⟨rfl,rfl,rfl,by simp,fun k _ hk=>setRow_other w gv k _ fun hh=>hk (by simp [hh])⟩,fun c hc=>by rw [List.mem_singleton.1 hc]; exact hF gv (List.mem_cons_self ..)⟩
        · refine (hels0.append hels).stable hE fun c hc=>setRow_other w gv c _ fun hcg=>?_
          subst hcg
          rcases List.mem_append.1 hc with hc | hc
          · exact hgF hc
          · exact hgG hc
        · rw [← r3]
          simp only [List.size_toArray,List.length_append,List.length_take,List.length_drop,Array.length_toList]
          omega
        · rw [List.length_append,List.length_singleton]
          simp only [List.flatten_append]
          rw [r4]
          have e1:(xs.length + 1) * s = (ous.flatten++cas.flatten).length:=by rw [List.length_append,hofl,hfl,Nat.add_mul,Nat.one_mul]
          rw [e1]; exact List.take_left
        · rw [List.nodup_cons,List.nodup_append]
          refine ⟨fun hm=>?_,hn'.2,hnG'.2,?_⟩
          · rcases List.mem_append.1 hm with hm | hm
            · exact hgF hm
            · exact hgG hm
          · rintro x hx y hy rfl
            exact hST _ (hF x (List.mem_cons_of_mem _ hx)) (hG x (List.mem_cons_of_mem _ hy))
        · rcases List.mem_cons.1 hc with rfl | hc
          · exact .inl (hF c (List.mem_cons_self ..))
          · rcases List.mem_append.1 hc with hc | hc
            · exact .inl (hF c (List.mem_cons_of_mem _ hc))
            · exact .inr (.inl (hG c (List.mem_cons_of_mem _ hc)))
      · have holds:∀ j u,ous.flatten[j]? = some u→w.cell? ((⟨gv,0,none⟩:Addr).add j) = some u:=by
          intro j u hj
          have e1:(⟨gv,0,none⟩:Addr).add j = ⟨gv,j,none⟩:=by
            unfold Addr.add
            split
            · rename_i hh; subst hh; rfl
            · simp
          rw [e1,cell_cellH]
          simp only [cellH,hgv]
          rw [← r4,List.getElem?_take] at hj
          split at hj
          · simpa using hj
          · cases hj
        have hr:=run_append_grow (P:=P) w t ty e i z ht h1 h2 ⟨gv,0,none⟩ xs.length capv ous.flatten (by rw [h3,hofl]) holds ⟨ga,0,none⟩ 1 capa cas.flatten hl1 hnews (by omega) (by omega) (growslice_fits (by omega) hbytes)
        have hge:=grownCap_ge w (xs.length + 1) capv e
        have hgm:=grownCap_le_maxLen w (xs.length + 1) capv e hmx
        obtain ⟨q1,q2⟩:=made w.drew ous F0 (grownCap w (xs.length + 1) capv e - (xs.length + 1)) rfl rfl rfl rfl hels0 (fun c hc=>List.mem_cons_of_mem _ hc) hn'.2 (by omega)
        refine ⟨_,_,[],hr,?_,q2,fun c hc=>by cases hc⟩
        have ea:(xs.length + 1 + (grownCap w (xs.length + 1) capv e - (xs.length + 1))) = grownCap w (xs.length + 1) capv e:=by omega
        rw [ea] at q1
        exact q1
theorem run_appS (hE:GoodN s E) (ht:P.underlying t = some (.slice e)) (hi:TI P e s z b) (hz:z.cells.size = s) (hs:0 < s) {v:Value} {xs:List α} {B U:Nat} (hv:Fr (owS s E e) B U w.heap v xs) (hB:B≤w.heap.size)
    {a:Value} {y:α} {B' U':Nat} (ha:Fr (owS s E e) B' U' w.heap a [y]) (hU:U≤B') (hBB:B≤B') (hbytes:(xs.length + 1) * b≤140737488355328) (hmx:xs.length + 1≤maxLen) :
    ∃ v' w' F,(Builtin.append_ #[t,t] ty #[v,a]).run P w = .ok v' w'∧Fr (owS s E e) B w'.heap.size w'.heap v' (xs++[y])∧Chg F w w'∧∀ c∈F,B≤c∧c < U:=by
  obtain ⟨v',w',F,r1,⟨G,h1,h2,h3⟩,r3,r4⟩:=run_appQ (P:=P) (ty:=ty) hE ht hi hz hs (S:=fun b=>B≤b∧b < U) (T:=fun b=>B'≤b∧b < U') hv ha (fun b h1 h2=>by omega) hbytes hmx
  exact ⟨v',w',F,r1,⟨G,h1,h2,fun b hb=>⟨by have:=h3 b hb; omega,(good_owS hE).lt h1 b hb⟩⟩,r3,r4⟩
end run
section ops
variable {P:Program} {ops:Array Oper} {w0:World} {Q:Act→World→Prop} {os:List Oper} {ks:List Nat} {N:Nat} {ρ:Nat→Value} {w:World}
  {d:Nat} {ty:TypeId} {pos:String} {aft:Array Edge} {g:Option (Nat × Bool)} {t e:TypeId} {z:Value} {b s:Nat} {α:Type} {E:StandN α}
theorem r_oneS (hE:GoodN s E) {x:Operand} {cs:List Value} {y:α} {B U:Nat} (ht:P.underlying t = some (.slice e)) (hi:TI P e s z b) (hz:z.cells.size = s) (hs:0 < s∧s≤1000) (hx:evF N ρ x = .agg cs.toArray) (hy:FrN E B U w.heap cs y) (hB:B≤w.heap.size)
    (hu:Up ops N ρ ⟨some d,.buildSlice t 1 #[(0,x)],ty,pos,aft,g⟩)
    (h:∀ v w1,Ext w w1→w1.heap.size = w.heap.size + 1→Fr (owS s E e) B w1.heap.size w1.heap v [y]→LW P ops w0 Q os ks (mk N (upd ρ d v)) w1) :
    LW P ops w0 Q (⟨some d,.buildSlice t 1 #[(0,x)],ty,pos,aft,g⟩ :: os) (3 :: ks) (mk N ρ) w:=by
  obtain ⟨F,h1,h2,h3⟩:=hy
  have hl:=hE.len h1
  have hr:=run_bsS (P:=P) (w:=w) ht hi hs.1 hs.2 hz hl
  have hrun:(execOp (evF N ρ) ⟨some d,.buildSlice t 1 #[(0,x)],ty,pos,aft,g⟩).run P w = .ok (.value (.slice (some ⟨w.heap.size,0,none⟩) 1 1)) (w.alloc (.cells cs.toArray e)):=by
    simp only [execOp,List.map_toArray,List.map_cons,List.map_nil,Sem.run_bind,hx,hr,Result.andThen_ok,Sem.run_pure]
  refine lw_r rfl hu _ _ hrun (ext_alloc _ _) (h _ _ (ext_alloc _ _) (by simp) ?_)
  have hn:=owS_new (e:=e) (w:=w) hE (css:=[cs]) (xs:=[y]) (F:=F++[]) (cur:=cs.toArray) (cap:=1) ⟨F,[],rfl,h1,rfl⟩ (by simp) (by simp [maxLen]) (by simp [hl]) (by simp [← hl])
  refine ⟨_,hn,?_,fun c hc=>?_⟩
  · rw [List.append_nil,List.nodup_cons]
    exact ⟨fun hm=>by have:=hE.lt h1 _ hm; omega,h2⟩
  · have hlt:=(good_owS hE).lt hn c hc
    refine ⟨?_,hlt⟩
    rcases List.mem_cons.1 hc with rfl | hc
    · exact hB
    · exact (h3 c (by simpa using hc)).1
theorem e_appS (hE:GoodN s E) {x y:Operand} {v a:Value} {xs:List α} {y0:α} {B U B' U':Nat} (ht:P.underlying t = some (.slice e)) (hi:TI P e s z b) (hz:z.cells.size = s) (hs:0 < s) (hx:evF N ρ x = v) (hy:evF N ρ y = a) (hv:Fr (owS s E e) B U w.heap v xs) (hB:B≤w.heap.size)
    (ha:Fr (owS s E e) B' U' w.heap a [y0]) (hU:U≤B') (hBB:B≤B') (hbytes:(xs.length + 1) * b≤140737488355328) (hmx:xs.length + 1≤maxLen) (hu:Up ops N ρ ⟨some d,.call ⟨.builtin .append,#[x,y],#[t,t]⟩,ty,pos,aft,g⟩)
    (h:∀ v1 w1 F,Chg F w w1→(∀ c∈F,B≤c∧c < U)→Fr (owS s E e) B w1.heap.size w1.heap v1 (xs++[y0])→LW P ops w0 Q os ks (mk N (upd ρ d v1)) w1) :
    LW P ops w0 Q (⟨some d,.call ⟨.builtin .append,#[x,y],#[t,t]⟩,ty,pos,aft,g⟩ :: os) (4 :: ks) (mk N ρ) w:=by
  obtain ⟨v1,w1,F,r1,r2,r3,r4⟩:=run_appS (P:=P) (ty:=ty) hE ht hi hz hs hv hB ha hU hBB hbytes hmx
  exact lw_e rfl hu v1 w1 (by simp only [execOp,resolve,invoke,builtin,List.map_toArray,List.map_cons,List.map_nil,Sem.run_bind,Sem.run_pure,Result.andThen_ok,hx,hy,r1]) (h v1 w1 F r3 r4 r2)
end ops
theorem frNilS {α:Type} {s:Nat} {E:StandN α} {e:TypeId} (B U:Nat) (H:Array Obj):Fr (owS s E e) B U H (.slice none 0 0) ([]:List α):=⟨[],.inl ⟨rfl,rfl,rfl⟩,List.nodup_nil,fun c hc=>by cases hc⟩
end Go.Proofs.Ytoacbkmejjhceaa
namespace Go.Proofs.Ytoacbkmejjhceaa
def md (x:Int):Int:=x % 1000003
def pw (a n:Int):Int:=if n < 0 then 0 else md (a ^ n.toNat)
def inv (a:Int):Int:=pw a ((1000001:Nat):Int)
end Go.Proofs.Ytoacbkmejjhceaa
namespace Go.Proofs.Ytoacbkmejjhceaa
def tab {α:Type} (n:Nat) (f:Nat→α):List α:=(List.range n).map f
def tkr (a b:List Int) (y:Int):List Int:=tab a.length fun k=>md (a.getD k 0 - md (y * b.getD k 0))
def elim (c:Nat) (rc:List Int) (iv:Int):Nat→List (List Int)→List (List Int):=it fun j M=>M.set (c + 1 + j) (tkr (M.getD (c + 1 + j) []) rc (md ((M.getD (c + 1 + j) []).getD c 0 * iv)))
theorem leq_done {α:Type} {a b:List α} {d:α} {k:Nat} (h:∀ j,j < k→a.getD j d = b.getD j d) (hl:a.length = b.length) (hk:a.length≤k):a = b:=by
  apply List.ext_getElem hl
  intro i h1 h2
  have:=h i (by omega)
  simpa [h1,h2] using this
theorem leq_len {α:Type} {a b:List α} (h:a.length≠b.length):a≠b:=fun e=>h (by rw [e])
end Go.Proofs.Ytoacbkmejjhceaa
namespace Go.Proofs.Ytoacbkmejjhceaa
set_option linter.unusedVariables false
set_option linter.unusedSimpArgs false
open Go Go.RowKit
def dots (a b:List Int):Nat→Int
  | 0=>0
  | k + 1=>md (dots a b k + a.getD k 0 * b.getD k 0)
def dotM (a b:List Int):Int:=dots a b a.length
def scl (a:List Int) (y:Int):List Int:=a.map fun x=>md (x * y)
def app (m:List (List Int)) (v:List Int):List Int:=m.map fun r=>dotM r v
def nw (a:List (List Int)) (s:List Int):Nat→List Int
  | 0=>s
  | k + 1=>scl (app a (nw a s k)) (inv ((k + 1:Nat):Int))
def lf (a:List (List Int)) (s:List Int) (n:Nat):List (List Int):=tab s.length fun i=>tab (n + 1) fun j=>(nw a s j).getD i 0
def up (n:Nat) (k:Int):List Int:=tab n fun i=>k + (i:Int)
end Go.Proofs.Ytoacbkmejjhceaa
namespace Go.Proofs.Ytoacbkmejjhceaa
set_option linter.unusedVariables false
set_option linter.unusedSimpArgs false
open Go Go.RowKit
structure Ar (α:Type) where
  q:α→α→α
  t:α→α→α→α
  z:α→Bool
  d:α
def nA:Ar Int:=⟨fun x y=>md (x * inv y),fun a f b=>md (a - md (f * b)),fun x=>decide (x = 0),0⟩
end Go.Proofs.Ytoacbkmejjhceaa
namespace Go.Proofs.Ytoacbkmejjhceaa
open Go Go.RowKit
set_option linter.unusedVariables false
set_option linter.unusedSimpArgs false
abbrev Sr:=List Int
end Go.Proofs.Ytoacbkmejjhceaa
namespace Go.Proofs.Ytoacbkmejjhceaa
open Go Go.RowKit
set_option linter.unusedVariables false
set_option linter.unusedSimpArgs false
namespace Jx
variable [J:JR] {P:Program} {ops:Array Oper} {w0:World} {Q:Act→World→Prop}
theorem j1 {o:Oper} {os:List Oper} {ks:List Nat} {a:Act} {w:World} (h:_root_.Go.Proofs.Ytoacbkmejjhceaa.LW P ops w0 (fun a w=>LW P ops w0 Q os ks a w) [o] [0] a w):LW P ops w0 Q (o :: os) (0 :: ks) a w:=by
  simp only [_root_.Go.Proofs.Ytoacbkmejjhceaa.LW] at h
  simp only [LW]
  split
  · rename_i hw
    rw [if_pos hw] at h
    unfold _root_.Go.Proofs.Ytoacbkmejjhceaa.OneOp at h
    unfold OneOp
    rw [if_pos (by decide)] at h
    rw [if_pos (by decide)]
    obtain ⟨v,h1,h2⟩:=h
    exact ⟨v,fun w' _=>h1 w' trivial,h2⟩
  · rename_i hw
    rw [if_neg hw] at h
    exact h
end Jx
end Go.Proofs.Ytoacbkmejjhceaa
namespace Go.Proofs.Ytoacbkmejjhceaa
open Go Go.RowKit
set_option linter.unusedVariables false
set_option linter.unusedSimpArgs false
section res
variable {P:Program} {N:Nat} {ρ:Nat→Value} {w:World}
theorem run_tmps:∀ (l:List Nat),(((l.map ResultVar.tmp).mapM (m:=Sem) fun
    | .tmp t=>pure ((mk N ρ).tmps.getD t undef)
    | .cell a t=>do loadVar t (← asAddr ((mk N ρ).tmps.getD a undef)))).run P w = .ok (l.map fun t=>evF N ρ (.tmp t)) w:=by
  intro l
  induction l with
  | nil=>rfl
  | cons t l ih =>
    simp only [List.map_cons,List.mapM_cons,Sem.run_bind,Sem.run_pure,Result.andThen_ok,mk_getD] at ih ⊢
    rw [ih]
    rfl
theorem post_retC {fn:Func} {R:Ending→World→Prop} {k s b t0:Nat} {ts:List Nat} {ty:TypeId} {cs:List Value} (vs:List Value) (hr:fn.results = (ResultVar.cell k ty :: ((t0 :: ts).map ResultVar.tmp)).toArray) (ha:aggTy P ty s = true) (hv:evF N ρ (.tmp k) = .pointer (some ⟨b,0,none⟩)) (hb:BX w.heap b cs) (hl:cs.length = s)
    (hvs:((t0 :: ts).map fun t=>evF N ρ (.tmp t)) = vs) (h:R (.returned (.tuple (.agg cs.toArray :: vs).toArray)) w):bodyPost P fn R .ret (mk N ρ) w:=by
  subst hvs
  refine ⟨rfl,_,?_,h⟩
  have hld:=run_loadVarA (P:=P) ha (LD.of_box hb) hl
  have hg:(mk N ρ).tmps.getD k undef = .pointer (some ⟨b,0,none⟩):=by rw [mk_getD,hv]
  have hi:(asAddr (.pointer (some ⟨b,0,none⟩))).run P w = .ok ⟨b,0,none⟩ w:=rfl
  have key:=run_tmps (P:=P) (N:=N) (ρ:=ρ) (w:=w) (t0 :: ts)
  unfold results
  rw [hr]
  simp only [List.mapM_toArray,Sem.run_bind,Sem.run_map]
  have hfull:(((ResultVar.cell k ty :: ((t0 :: ts).map ResultVar.tmp)).mapM (m:=Sem) fun
    | .tmp t=>pure ((mk N ρ).tmps.getD t undef)
    | .cell a t=>do loadVar t (← asAddr ((mk N ρ).tmps.getD a undef)))).run P w = .ok (.agg cs.toArray :: ((t0 :: ts).map fun t=>evF N ρ (.tmp t))) w:=by
    rw [List.mapM_cons]
    simp only [Sem.run_bind,Sem.run_pure,hg,hi,hld,Result.andThen_ok]
    rw [key]
    rfl
  refine (congrArg (fun r=>(Result.andThen (Result.andThen r fun a w'=>Result.ok a.toArray w') fun a w'=>Result.ok (if h:a.size = 1 then a[0] else Value.tuple a) w')) hfull).trans ?_
  simp only [Result.andThen_ok]
  rfl
end res
end Go.Proofs.Ytoacbkmejjhceaa
namespace Go.Proofs.Ytoacbkmejjhceaa
open Go Go.RowKit
set_option linter.unusedVariables false
set_option linter.unusedSimpArgs false
set_option linter.unusedSectionVars false
namespace Jx
section
variable [J:JR] {P:Program}
theorem lift3 {ops:Array Oper} {w0:World} {Q:Act→World→Prop} {o:Oper} {os:List Oper} {ks:List Nat} {a:Act} {w:World} (h:_root_.Go.Proofs.Ytoacbkmejjhceaa.LW P ops w0 (fun a' w'=>Ext w w'∧LW P ops w0 Q os ks a' w') [o] [4] a w):LW P ops w0 Q (o :: os) (3 :: ks) a w:=by
  simp only [_root_.Go.Proofs.Ytoacbkmejjhceaa.LW] at h
  simp only [LW]
  split
  · rename_i hw
    rw [if_pos hw] at h
    unfold _root_.Go.Proofs.Ytoacbkmejjhceaa.OneOp at h
    unfold OneOp
    rw [if_neg (by decide),if_neg (by decide)] at h
    rw [if_neg (by decide),if_pos rfl]
    exact h
  · rename_i hw
    rw [if_neg hw] at h
    exact h.2
end
end Jx
end Go.Proofs.Ytoacbkmejjhceaa
namespace Go.Proofs.Ytoacbkmejjhceaa
open Go Go.RowKit
set_option linter.unusedVariables false
set_option linter.unusedSimpArgs false
structure Ins where
  op:Int
  a:Int
  b:Int
  num:Int
def inC (x:Ins):List Value:=[.int .i64 x.op,.int .i64 x.a,.int .i64 x.b,.int .i64 x.num]
end Go.Proofs.Ytoacbkmejjhceaa
namespace Go.Proofs.Ytoacbkmejjhceaa
open Go Go.RowKit
set_option linter.unusedVariables false
set_option linter.unusedSimpArgs false
theorem i64_nn {n:Int} (h:0≤n):Value.int .i64 n = .int .i64 ((n.toNat:Nat):Int):=by rw [Int.toNat_of_nonneg h]
end Go.Proofs.Ytoacbkmejjhceaa
namespace Go.Proofs.Ytoacbkmejjhceaa
open Go Go.RowKit
set_option linter.unusedVariables false
set_option linter.unusedSimpArgs false
section ops
variable {P:Program} {ops:Array Oper} {w0:World} {Q:Act→World→Prop} {os:List Oper} {ks:List Nat} {N:Nat} {ρ:Nat→Value} {w:World}
  {d:Nat} {ty:TypeId} {pos:String} {aft:Array Edge} {g:Option (Nat × Bool)} {t e:TypeId} {z:Value} {b s:Nat} {α:Type} {E:StandN α}
theorem r_nilS (hE:GoodN s E) (ht:P.underlying t = some (.slice e)) (hi:TI P e s z b) (hu:Up ops N ρ ⟨some d,.buildSlice t 0 #[],ty,pos,aft,g⟩)
    (h:∀ v w1,Ext w w1→w1.heap.size = w.heap.size + 1→Fr (owS s E e) w.heap.size w1.heap.size w1.heap v ([]:List α)→LW P ops w0 Q os ks (mk N (upd ρ d v)) w1) :
    LW P ops w0 Q (⟨some d,.buildSlice t 0 #[],ty,pos,aft,g⟩ :: os) (3 :: ks) (mk N ρ) w:=by
  have hr:=run_bs0 (P:=P) (w:=w) ht hi
  have hrun:(execOp (evF N ρ) ⟨some d,.buildSlice t 0 #[],ty,pos,aft,g⟩).run P w = .ok (.value (.slice (some ⟨w.heap.size,0,none⟩) 0 0)) (w.alloc (.cells #[] e)):=by
    simp only [execOp,List.map_toArray,List.map_nil,Sem.run_bind,hr,Result.andThen_ok,Sem.run_pure]
  refine lw_r rfl hu _ _ hrun (ext_alloc _ _) (h _ _ (ext_alloc _ _) (by simp) ?_)
  have hn:=owS_new (e:=e) (w:=w) hE (css:=[]) (xs:=([]:List α)) (F:=[]) (cur:=#[]) (cap:=0) rfl (by simp) (by simp [maxLen]) (by simp) (by simp)
  refine ⟨_,hn,by simp,fun c hc=>?_⟩
  have hlt:=(good_owS hE).lt hn c hc
  refine ⟨?_,hlt⟩
  rcases List.mem_cons.1 hc with rfl | hc
  · exact Nat.le_refl _
  · cases hc
end ops
end Go.Proofs.Ytoacbkmejjhceaa
namespace Go.Proofs.Ytoacbkmejjhceaa
open Go Go.RowKit
set_option linter.unusedVariables false
set_option linter.unusedSimpArgs false
def tmS (n:Nat):Sr:=(List.replicate n 0).set 1 1
def wiS (y:List Sr):List Sr:=tmS (y.getD 0 []).length :: y
@[simp] theorem wiS_len {y:List Sr}:(wiS y).length = y.length + 1:=rfl
end Go.Proofs.Ytoacbkmejjhceaa
namespace Go.Proofs.Ytoacbkmejjhceaa
open Go Go.RowKit
set_option linter.unusedVariables false
set_option linter.unusedSimpArgs false
def zbv (g:Nat) (Fs:List Nat) (B U:Nat):List Nat:=ZR g Fs++List.range' B (U - B)
section
variable {g b B U:Nat} {Fs F:List Nat} {w w1 w2:World} {a:Av} {H:Array Obj}
theorem mem_zbv:b∈zbv g Fs B U↔b∈ZR g Fs∨(B≤b∧b < U):=by
  unfold zbv
  rw [List.mem_append,List.mem_range'_1]
  refine or_congr .rfl ⟨fun ⟨h1,h2⟩=>?_,fun ⟨h1,h2⟩=>?_⟩ <;> omega
theorem zbv_r (h:Chg (zbv g Fs B U) w w1) (k:Chg (ZR g Fs) w1 w2):Chg (zbv g Fs B U) w w2:=h.trans (k.sub fun x hx=>mem_zbv.2 (.inl hx))
theorem zbv_l (h:Chg (zbv g Fs B U) w w1) (k:Chg F w1 w2) (hF:∀ c∈F,B≤c∧c < U):Chg (zbv g Fs B U) w w2:=h.trans (k.sub fun x hx=>mem_zbv.2 (.inr (hF x hx)))
theorem frN_av (h:avR a):FrN rAv B U H (avC a) a:=⟨[],⟨rfl,h,rfl⟩,List.nodup_nil,fun b hb=>by cases hb⟩
end
end Go.Proofs.Ytoacbkmejjhceaa
namespace Go.Proofs.Ytoacbkmejjhceaa
open Go Go.RowKit
set_option linter.unusedVariables false
set_option linter.unusedSimpArgs false
theorem RN.of_frA {S:List Nat} {e:TypeId} {B U:Nat} {H:Array Obj} {v:Value} {xs:List Av} (h:Fr (owS 2 rAv e) B U H v xs) (hS:∀ b∈S,b < B∨U≤b):RN S (rdS 2 rAv) H v xs:=by
  obtain ⟨F,h1,_,h3⟩:=h
  exact ⟨F,h1.rd good_rAv,fun b hb hm=>by have:=h3 b hb; have:=hS b hm; omega⟩
end Go.Proofs.Ytoacbkmejjhceaa
namespace Go.Proofs.Ytoacbkmejjhceaa
open Go Go.RowKit
set_option linter.unusedVariables false
set_option linter.unusedSimpArgs false
def FlN {α:Type} (E:StandN α):Prop:=∀ H cs x F,E H cs x F→F = []∧∀ H',E H' cs x []
theorem flN_r:FlN rAv:=by rintro H cs x F ⟨h1,h2,rfl⟩; exact ⟨rfl,fun H'=>⟨h1,h2,rfl⟩⟩
theorem fl_els {α:Type} {E:StandN α} (hf:FlN E) {H:Array Obj}:∀ {css:List (List Value)} {xs:List α} {F:List Nat},elsN E H css xs F→F = []∧∀ H',elsN E H' css xs []
  | [],[],F,h=>⟨h,fun _=>rfl⟩
  | c :: css,x :: xs,F,⟨F1,F2,hF,h1,h2⟩=>by
    obtain ⟨a1,a2⟩:=hf _ _ _ _ h1
    obtain ⟨b1,b2⟩:=fl_els hf h2
    exact ⟨by rw [hF,a1,b1]; rfl,fun H'=>⟨[],[],rfl,a2 H',b2 H'⟩⟩
  | [],_ :: _,_,h=>h.elim
  | _ :: _,[],_,h=>h.elim
section run
variable {P:Program} {t ty e:TypeId} {z:Value} {b s:Nat} {w:World} {α:Type} {E:StandN α}
theorem run_appA (hE:GoodN s E) (hf:FlN E) (ht:P.underlying t = some (.slice e)) (hi:TI P e s z b) (hz:z.cells.size = s) (hs:0 < s) {v:Value} {xs:List α} {B U:Nat} (hv:Fr (owS s E e) B U w.heap v xs) (hB:B≤w.heap.size)
    {a:Value} {ys:List α} {S:List Nat} (ha:RN S (rdS s E) w.heap a ys) (hbytes:(xs.length + ys.length) * b≤140737488355328) (hmx:xs.length + ys.length≤maxLen) :
    ∃ v' w' F,(Builtin.append_ #[t,t] ty #[v,a]).run P w = .ok v' w'∧Fr (owS s E e) B w'.heap.size w'.heap v' (xs++ys)∧Chg F w w'∧∀ c∈F,B≤c∧c < U:=by
  obtain ⟨F,hv1,hn,hF⟩:=hv
  obtain ⟨G,ha1,_⟩:=ha
  obtain ⟨i,h1,h2,h3,h4⟩:=hi.get
  subst h4
  have hsmall:xs.length + ys.length≤9223372036854775807:=by simp only [maxLen] at hmx; omega
  rcases ha1 with ⟨aa,capa,rfl,rfl,_⟩ | ⟨cas,ga,offa,capa,cura,ea,fra,G',hels,rfl,hga,a3,a2,rfl⟩
  · -- nothing is added
    refine ⟨v,w,[],?_,?_,⟨rfl,rfl,rfl,Nat.le_refl _,fun _ _ _=>rfl⟩,fun c hc=>by cases hc⟩
    · have hf0:(Builtin.firstCells (i.size) 0 (.slice aa 0 capa)).run P w = .ok #[] w:=by
        cases aa <;> simp [Builtin.firstCells,loadCells,loadCellsFrom]
      rcases hv1 with ⟨rfl,rfl,rfl⟩ | ⟨ous,gv,capv,curv,F0,hels0,rfl,hgv,r1,r2,r3,r4,rfl⟩
      · simp [Builtin.append_,run_underlying ht,sizeOf,typeInfo,h1,Builtin.lenOf,hf0]
      · simp [Builtin.append_,run_underlying ht,sizeOf,typeInfo,h1,Builtin.lenOf,hf0,r1,storeCells]
    · rw [List.append_nil]
      exact ⟨F,hv1,hn,fun b hb=>⟨(hF b hb).1,(good_owS hE).lt hv1 b hb⟩⟩
  · obtain ⟨rfl,hel⟩:=fl_els hf hels
    have hfl:=hels.flen hE
    have hnews:∀ j u,cas.flatten[j]? = some u→w.cell? ((⟨ga,offa,none⟩:Addr).add j) = some u:=by
      intro j u hj
      have e1:(⟨ga,offa,none⟩:Addr).add j = ⟨ga,offa + j,none⟩:=by
        unfold Addr.add
        split
        · rename_i hh; subst hh; rfl
        · simp
      rw [e1,cell_cellH]
      simp only [cellH,hga]
      rw [← a3,List.getElem?_take] at hj
      split at hj
      · rw [List.getElem?_drop] at hj; simpa using hj
      · cases hj
    have h1c:∀ u∈cas.flatten,u.oneCell' = true:=fun u hu=>(hels.one hE u hu).2
    have hl1:cas.flatten.length = ys.length * i.size:=by rw [h3,hfl]
    have hsz1:∀ (w1:World) o,w1.heap = w.heap→(w1.alloc o).heap.size = w.heap.size + 1:=fun w1 o hh=>by
      show (w1.heap.push _).size = _
      rw [hh]; simp
    have made:∀ (w1:World) (ous:List (List Value)) (rest:Nat),w1.heap = w.heap→w1.os = w.os→w1.tape = w.tape→w1.output = w.output→elsN E w.heap ous xs [] →
        (xs.length + ys.length + rest)≤maxLen →
        Fr (owS s E e) B (w1.alloc (.cells (ous.flatten.toArray++cas.flatten.toArray++Builtin.zeroCells z.cells rest) e)).heap.size (w1.alloc (.cells (ous.flatten.toArray++cas.flatten.toArray++Builtin.zeroCells z.cells rest) e)).heap (.slice (some ⟨w.heap.size,0,none⟩) (xs.length + ys.length) (xs.length + ys.length + rest)) (xs++ys) ∧
          Chg ([]:List Nat) w (w1.alloc (.cells (ous.flatten.toArray++cas.flatten.toArray++Builtin.zeroCells z.cells rest) e)):=by
      intro w1 ous rest hh ho htp hop hou hmax
      have happ:=hou.append hels
      have hofl:=hou.flen hE
      have hzc:(Builtin.zeroCells z.cells rest).size = rest * s:=by simp [Builtin.zeroCells,hz]
      have hsz:(ous.flatten.toArray++cas.flatten.toArray++Builtin.zeroCells z.cells rest).size = (xs.length + ys.length + rest) * s:=by
        rw [Nat.add_mul,Nat.add_mul]
        simp only [Array.size_append,List.size_toArray,hzc,hfl,hofl]
      have hlen:(xs++ys).length = xs.length + ys.length:=by simp
      have hnew:=owS_new (e:=e) (w:=w1) hE (css:=ous++cas) (xs:=xs++ys) (F:=[]++[]) (cur:=ous.flatten.toArray++cas.flatten.toArray++Builtin.zeroCells z.cells rest) (cap:=xs.length + ys.length + rest)
        (by rw [hh]; exact happ) (by rw [hlen]; omega) hmax hsz (by
          rw [hlen,Array.toList_append,Array.toList_append,List.flatten_append]
          have e1:(xs.length + ys.length) * s = (ous.flatten++cas.flatten).length:=by rw [List.length_append,hofl,hfl,Nat.add_mul]
          rw [e1]; exact List.take_left)
      rw [hh,hlen] at hnew
      refine ⟨⟨_,hnew,List.nodup_cons.2 ⟨(fun hm=>by cases hm),List.nodup_nil⟩,fun c hc=>?_⟩,ho,htp,hop,?_,fun k hk _=>?_⟩
      · rcases List.mem_cons.1 hc with rfl | hc
        · exact ⟨hB,by rw [hsz1 w1 _ hh]; exact Nat.lt_succ_self _⟩
        · cases hc
      · show w.heap.size≤(w1.heap.push _).size
        rw [hh]; simp
      · have:=Below.heap_alloc w1 (.cells (ous.flatten.toArray++cas.flatten.toArray++Builtin.zeroCells z.cells rest) e) k (by rw [hh]; exact hk)
        rw [this,hh]
    rcases hv1 with ⟨rfl,rfl,rfl⟩ | ⟨ous,gv,capv,curv,F0,hels0,rfl,hgv,r1,r2,r3,r4,rfl⟩
    · by_cases hy:ys.length = 0
      · have hy0:ys = []:=List.eq_nil_of_length_eq_zero hy
        subst hy0
        refine ⟨.slice none 0 0,w,[],?_,⟨[],.inl ⟨rfl,rfl,rfl⟩,List.nodup_nil,fun c hc=>by cases hc⟩,⟨rfl,rfl,rfl,Nat.le_refl _,fun _ _ _=>rfl⟩,fun c hc=>by cases hc⟩
        simp [Builtin.append_,run_underlying ht,sizeOf,typeInfo,h1,Builtin.lenOf,Builtin.firstCells,loadCells,loadCellsFrom]
      · have hr:=run_append_nil (P:=P) w t ty e i z ht h1 h2 ⟨ga,offa,none⟩ ys.length capa cas.flatten hl1 hnews (by omega) (by simp at hsmall; omega) (by simp only [List.length_nil,Nat.zero_add] at hbytes; omega)
        have hge:=grownCap_ge w ys.length 0 e
        have hgm:=grownCap_le_maxLen w ys.length 0 e (by simpa using hmx)
        obtain ⟨q1,q2⟩:=made w.drew [] (grownCap w ys.length 0 e - ys.length) rfl rfl rfl rfl rfl (by simp; omega)
        refine ⟨_,_,[],hr,?_,?_,fun c hc=>by cases hc⟩
        · have ea:(([]:List α).length + ys.length + (grownCap w ys.length 0 e - ys.length)) = grownCap w ys.length 0 e:=by simp; omega
          rw [ea] at q1
          simpa using q1
        · simpa using q2
    · obtain ⟨rfl,hel0⟩:=fl_els hf hels0
      have hofl:=hels0.flen hE
      by_cases hroom:xs.length + ys.length≤capv
      · have hbnd:xs.length * s + ys.length * s≤curv.size:=by rw [r3,← Nat.add_mul]; exact Nat.mul_le_mul_right s hroom
        have hr:=run_append_room (P:=P) w t ty e i ht h1 gv xs.length capv curv hgv ⟨ga,offa,none⟩ ys.length capa cas.flatten hl1 hnews h1c hroom (by rw [h3,hfl]; exact hbnd)
        rw [h3] at hr
        refine ⟨_,_,[gv],hr,⟨[gv],.inr ⟨ous++cas,gv,capv,_,[],?_,by rw [List.length_append],setRow_heap w gv curv _ e _ hgv,by rw [List.length_append]; exact hroom,r2,?_,?_,rfl⟩,List.nodup_cons.2 ⟨(fun hm=>by cases hm),List.nodup_nil⟩,fun c hc=>?_⟩,⟨rfl,rfl,rfl,by simp,fun k _ hk=>setRow_other w gv k _ fun hh=>hk (by simp [hh])⟩,fun c hc=>by rw [List.mem_singleton.1 hc]; exact hF gv (List.mem_cons_self ..)⟩
        · exact (hel0 _).append (hel _)
        · rw [← r3]
          simp only [List.size_toArray,List.length_append,List.length_take,List.length_drop,Array.length_toList]
          omega
        · rw [List.length_append]
          simp only [List.flatten_append]
          rw [r4]
          have e1:(xs.length + ys.length) * s = (ous.flatten++cas.flatten).length:=by rw [List.length_append,hofl,hfl,Nat.add_mul]
          rw [e1]; exact List.take_left
        · rw [List.mem_singleton.1 hc]
          refine ⟨(hF gv (List.mem_cons_self ..)).1,?_⟩
          have:=getElem?_lt hgv
          simpa using this
      · have holds:∀ j u,ous.flatten[j]? = some u→w.cell? ((⟨gv,0,none⟩:Addr).add j) = some u:=by
          intro j u hj
          have e1:(⟨gv,0,none⟩:Addr).add j = ⟨gv,j,none⟩:=by
            unfold Addr.add
            split
            · rename_i hh; subst hh; rfl
            · simp
          rw [e1,cell_cellH]
          simp only [cellH,hgv]
          rw [← r4,List.getElem?_take] at hj
          split at hj
          · simpa using hj
          · cases hj
        have hr:=run_append_grow (P:=P) w t ty e i z ht h1 h2 ⟨gv,0,none⟩ xs.length capv ous.flatten (by rw [h3,hofl]) holds ⟨ga,offa,none⟩ ys.length capa cas.flatten hl1 hnews (by omega) (by omega) (growslice_fits (by omega) hbytes)
        have hge:=grownCap_ge w (xs.length + ys.length) capv e
        have hgm:=grownCap_le_maxLen w (xs.length + ys.length) capv e hmx
        obtain ⟨q1,q2⟩:=made w.drew ous (grownCap w (xs.length + ys.length) capv e - (xs.length + ys.length)) rfl rfl rfl rfl hels0 (by omega)
        refine ⟨_,_,[],hr,?_,q2,fun c hc=>by cases hc⟩
        have ea:(xs.length + ys.length + (grownCap w (xs.length + ys.length) capv e - (xs.length + ys.length))) = grownCap w (xs.length + ys.length) capv e:=by omega
        rw [ea] at q1
        exact q1
end run
section ops
variable {P:Program} {ops:Array Oper} {w0:World} {Q:Act→World→Prop} {os:List Oper} {ks:List Nat} {N:Nat} {ρ:Nat→Value} {w:World}
  {d:Nat} {ty:TypeId} {pos:String} {aft:Array Edge} {g:Option (Nat × Bool)} {t e:TypeId} {z:Value} {b s:Nat} {α:Type} {E:StandN α}
theorem e_appA (hE:GoodN s E) (hf:FlN E) {x y:Operand} {v a:Value} {xs ys:List α} {B U:Nat} {S:List Nat} (ht:P.underlying t = some (.slice e)) (hi:TI P e s z b) (hz:z.cells.size = s) (hs:0 < s) (hx:evF N ρ x = v) (hy:evF N ρ y = a) (hv:Fr (owS s E e) B U w.heap v xs) (hB:B≤w.heap.size)
    (ha:RN S (rdS s E) w.heap a ys) (hbytes:(xs.length + ys.length) * b≤140737488355328) (hmx:xs.length + ys.length≤maxLen) (hu:Up ops N ρ ⟨some d,.call ⟨.builtin .append,#[x,y],#[t,t]⟩,ty,pos,aft,g⟩)
    (h:∀ v1 w1 F,Chg F w w1→(∀ c∈F,B≤c∧c < U)→Fr (owS s E e) B w1.heap.size w1.heap v1 (xs++ys)→LW P ops w0 Q os ks (mk N (upd ρ d v1)) w1) :
    LW P ops w0 Q (⟨some d,.call ⟨.builtin .append,#[x,y],#[t,t]⟩,ty,pos,aft,g⟩ :: os) (4 :: ks) (mk N ρ) w:=by
  obtain ⟨v1,w1,F,r1,r2,r3,r4⟩:=run_appA (P:=P) (ty:=ty) hE hf ht hi hz hs hv hB ha hbytes hmx
  exact lw_e rfl hu v1 w1 (by simp only [execOp,resolve,invoke,builtin,List.map_toArray,List.map_cons,List.map_nil,Sem.run_bind,Sem.run_pure,Result.andThen_ok,hx,hy,r1]) (h v1 w1 F r3 r4 r2)
theorem e_setCF {st:TypeId} {x y:Operand} {v u:Value} {xs:List α} {B U k c:Nat} (hE:GoodN s E) (hst:(P.info? st).map (·.size) = some 1) (hx:evF N ρ x = padd (eptr v k s) c) (hy:evF N ρ y = u) (hu1:u.cells = #[u]∧u.oneCell' = true)
    (hv:Fr (owS s E e) B U w.heap v xs) (hk:k < xs.length) (hc:c < s) (hEc:∀ {H cs x G},E H cs x G→E H (cs.set c u) x G) (hu:Up ops N ρ ⟨none,.store st x y,ty,pos,aft,g⟩)
    (h:∀ w1 F,Chg F w w1→w1.heap.size = w.heap.size→(∀ c∈F,B≤c∧c < U)→Fr (owS s E e) B U w1.heap v xs→LW P ops w0 Q os ks (mk N ρ) w1) :
    LW P ops w0 Q (⟨none,.store st x y,ty,pos,aft,g⟩ :: os) (4 :: ks) (mk N ρ) w:=by
  obtain ⟨F,h1,h2,h3⟩:=hv
  exact e_setC hE hst hx hy hu1 h1 h2 hk hc hEc hu fun w1 k1 k2 k3=>h w1 F k1 k2 h3 ⟨F,k3,h2,h3⟩
end ops
def sufS (s:Nat) (v:Value) (k:Nat):Value:=match v with
  | .slice a n c=>.slice (if c = k then a else a.map (·.add (k * s))) (n - k) (c - k)
  | v=>v
section suf
variable {α:Type} {E:StandN α} {H:Array Obj} {s:Nat}
theorem elsN_drop (hE:GoodN s E):∀ {css:List (List Value)} {xs:List α} {F:List Nat} (k:Nat),elsN E H css xs F→∃ G,elsN E H (css.drop k) (xs.drop k) G∧∀ b∈G,b∈F:=by
  intro css
  induction css with
  | nil=>intro xs F k h; cases xs with
    | nil=>exact ⟨F,by simpa using h,fun b hb=>hb⟩
    | cons=>exact h.elim
  | cons u us ih =>
    intro xs F k h
    cases xs with
    | nil=>exact h.elim
    | cons x xs =>
      cases k with
      | zero=>exact ⟨F,h,fun b hb=>hb⟩
      | succ k =>
        obtain ⟨A,C,rfl,p1,p2⟩:=h
        obtain ⟨G,g1,g2⟩:=ih k p2
        exact ⟨G,g1,fun b hb=>List.mem_append_right _ (g2 b hb)⟩
theorem fl_drop:∀ {css:List (List Value)} {k:Nat},(∀ c∈css,c.length = s)→(css.drop k).flatten = css.flatten.drop (k * s)
  | [],k,_=>by simp
  | c :: css,0,h=>by simp
  | c :: css,k + 1,h=>by
    have hc:=h c (List.mem_cons_self ..)
    rw [List.drop_succ_cons,fl_drop fun x hx=>h x (List.mem_cons_of_mem _ hx),List.flatten_cons,List.drop_append,hc]
    have e1:(k + 1) * s - s = k * s:=by rw [Nat.succ_mul]; omega
    rw [e1,show c.drop ((k + 1) * s) = [] from List.drop_eq_nil_of_le (by rw [hc,Nat.succ_mul]; omega),List.nil_append]
theorem rn_sufS {S:List Nat} {v:Value} {xs:List α} (hE:GoodN s E) (hs:0 < s) {k:Nat} (h:RN S (rdS s E) H v xs) (hl:k≤xs.length):RN S (rdS s E) H (sufS s v k) (xs.drop k):=by
  obtain ⟨F,h,hb⟩:=h
  rcases h with ⟨a,cap,rfl,rfl,rfl⟩ | ⟨css,g,off,cap,cur,e,fr,F',hels,rfl,hg,ht,hm,rfl⟩
  · have:k = 0:=by simpa using hl
    subst this
    refine ⟨[],.inl ⟨_,_,rfl,rfl,rfl⟩,fun b hb=>by cases hb⟩
  · have hlen:=hels.length
    by_cases h1c:cap = k
    · have hx0:xs.drop k = []:=List.drop_eq_nil_of_le (by omega)
      rw [hx0]
      refine ⟨[],.inl ⟨some ⟨g,off,none⟩,cap - k,?_,rfl,rfl⟩,fun b hb=>by cases hb⟩
      have h8:xs.length - k = 0:=by omega
      unfold sufS
      simp only [h8]
      rw [if_pos h1c]
    · obtain ⟨G,g1,g2⟩:=elsN_drop hE k hels
      have hl2:(xs.drop k).length = xs.length - k:=List.length_drop
      refine ⟨g :: G,.inr ⟨css.drop k,g,off + k * s,cap - k,cur,e,fr,G,g1,?_,hg,?_,by omega,rfl⟩,fun b hb'=>?_⟩
      · have e0:((⟨g,off,none⟩:Addr).add (k * s)) = ⟨g,off + k * s,none⟩:=by
          unfold Addr.add
          split
          · rename_i hh; rw [hh]; rfl
          · rfl
        simp [sufS,h1c,e0]
      · rw [hl2,fl_drop (hels.lens hE),← ht,List.drop_take,List.drop_drop,Nat.sub_mul]
      · rcases List.mem_cons.1 hb' with rfl | hb'
        · exact hb _ (List.mem_cons_self ..)
        · exact hb b (List.mem_cons_of_mem _ (g2 b hb'))
end suf
section ops2
variable {P:Program} {ops:Array Oper} {w0:World} {Q:Act→World→Prop} {os:List Oper} {ks:List Nat} {N:Nat} {ρ:Nat→Value} {w:World}
  {d:Nat} {ty:TypeId} {pos:String} {aft:Array Edge} {g:Option (Nat × Bool)} {t e:TypeId}
theorem q_sufS {x y:Operand} {v z:Value} {n b k s:Nat} (ht:P.underlying t = some (.slice e)) (hi:TI P e s z b) (hs0:0 < s) (hx:evF N ρ x = v) (hs:isSl v n) (hc:CapS v) (hy:evF N ρ y = .int .i64 (k:Int)) (hk:k≤n) (hu:Up ops N ρ ⟨some d,.slice t x (some y) none none,ty,pos,aft,g⟩)
    (h:LW P ops w0 Q os ks (mk N (upd ρ d (sufS s v k))) w):LW P ops w0 Q (⟨some d,.slice t x (some y) none none,ty,pos,aft,g⟩ :: os) (0 :: ks) (mk N ρ) w:=by
  obtain ⟨a,cap,rfl,_⟩:=hs
  obtain ⟨inf,h1,_,h3,_⟩:=hi.get
  refine lw_q (by decide) rfl hu _ (fun w' _=>?_) h
  have hl:n≤cap:=hc
  have e1:((0:Int)≤(k:Int)):=by omega
  by_cases hc1:cap = k
  · subst hc1
    have:n = cap:=by omega
    subst this
    simp [execOp,hx,hy,Instr.sliceAt,Instr.slice,Instr.sliceBounds,Instr.sliceBound,asIntOf,run_underlying ht,sizeOf,typeInfo,h1,h3,sufS]
  · have e2:cap - k≠0:=by omega
    have e3:¬ cap≤k:=by omega
    simp [execOp,hx,hy,Instr.sliceAt,Instr.slice,Instr.sliceBounds,Instr.sliceBound,asIntOf,run_underlying ht,sizeOf,typeInfo,h1,h3,sufS,hk,hl,hc1,e2,e3]
    try (intro h9; omega)
end ops2
theorem Fr.prefA {α:Type} {E:StandN α} {s:Nat} {e:TypeId} {H:Array Obj} {B U k:Nat} {v:Value} {xs:List α} (hE:GoodN s E) (hf:FlN E) (h:Fr (owS s E e) B U H v xs) (hk:k≤xs.length):Fr (owS s E e) B U H (prefV v k) (xs.take k):=by
  obtain ⟨F,h1,h2,h3⟩:=h
  rcases h1 with ⟨rfl,rfl,rfl⟩ | ⟨css,g,cap,cur,F',hels,rfl,hg,r1,r2,r3,r4,rfl⟩
  · have:k = 0:=by simpa using hk
    subst this
    exact ⟨[],.inl ⟨rfl,rfl,rfl⟩,List.nodup_nil,fun b hb=>by cases hb⟩
  · obtain ⟨rfl,hel⟩:=fl_els hf hels
    obtain ⟨G,g1,g2⟩:=elsN_take hE k hels
    obtain ⟨rfl,_⟩:=fl_els hf g1
    have hl:(xs.take k).length = k:=by rw [List.length_take]; omega
    refine ⟨[g],.inr ⟨css.take k,g,cap,cur,[],g1,by rw [hl]; rfl,hg,by rw [hl]; omega,r2,r3,?_,rfl⟩,h2,h3⟩
    have h5:=g1.flen hE
    rw [hl] at h5 ⊢
    have h6:css.flatten = (css.take k).flatten++(css.drop k).flatten:=by rw [← List.flatten_append,List.take_append_drop]
    have h7:(cur.toList.take (xs.length * s)).take (k * s) = css.flatten.take (k * s):=by rw [r4]
    rw [List.take_take,Nat.min_eq_left (Nat.mul_le_mul_right s hk),h6,← h5,List.take_left] at h7
    rw [← h5]; exact h7
def hBv:StandN Av:=fun _ cs _ F=>(∃ k a,i64 k∧i64 a∧cs = [.int .i64 k,.int .i64 a])∧F = []
theorem good_hBv:GoodN 2 hBv where
  len:=by rintro H cs x F ⟨⟨k,a,_,_,rfl⟩,_⟩; rfl
  one:=by
    rintro H cs x F ⟨⟨k,a,_,_,rfl⟩,_⟩ u hu
    simp only [List.mem_cons,List.not_mem_nil,or_false] at hu
    rcases hu with rfl | rfl <;> exact ⟨rfl,rfl⟩
  lt:=by rintro H cs x F ⟨_,rfl⟩ b hb; cases hb
  stable:=by rintro H H' cs x F h _; exact h
theorem flN_b:FlN hBv:=by rintro H cs x F ⟨h,rfl⟩; exact ⟨rfl,fun _=>⟨h,rfl⟩⟩
theorem hBv_mk {H:Array Obj} {k a:Int} {x:Av} {B U:Nat} (hk:i64 k) (ha:i64 a):FrN hBv B U H [.int .i64 k,.int .i64 a] x:=⟨[],⟨⟨k,a,hk,ha,rfl⟩,rfl⟩,List.nodup_nil,fun b hb=>by cases hb⟩
theorem hBv_set0 {n:Int} {H:Array Obj} {cs:List Value} {x:Av} {F:List Nat} (hn:i64 n) (h:hBv H cs x F):hBv H (cs.set 0 (.int .i64 n)) x F:=by
  obtain ⟨⟨k,a,h1,h2,rfl⟩,rfl⟩:=h
  exact ⟨⟨_,_,hn,h2,rfl⟩,rfl⟩
theorem hBv_set1 {n:Int} {H:Array Obj} {cs:List Value} {x:Av} {F:List Nat} (hn:i64 n) (h:hBv H cs x F):hBv H (cs.set 1 (.int .i64 n)) x F:=by
  obtain ⟨⟨k,a,h1,h2,rfl⟩,rfl⟩:=h
  exact ⟨⟨_,_,h1,hn,rfl⟩,rfl⟩
theorem hBv_els {H:Array Obj}:∀ {css:List (List Value)} {xs:List Av} {F:List Nat},elsN hBv H css xs F→∃ ys:List Av,ys.length = xs.length∧elsN rAv H css ys F
  | [],[],F,h=>⟨[],rfl,h⟩
  | c :: css,x :: xs,F,⟨F1,F2,hF,⟨⟨k,a,h1,h2,hc⟩,h4⟩,h3⟩=>by
    obtain ⟨ys,l,h5⟩:=hBv_els h3
    exact ⟨⟨k,a⟩ :: ys,by simp [l],F1,F2,hF,⟨hc,⟨h1,h2⟩,h4⟩,h5⟩
  | [],_ :: _,_,h=>h.elim
  | _ :: _,[],_,h=>h.elim
theorem hBv_out {e:TypeId} {H:Array Obj} {B U:Nat} {v:Value} {xs:List Av} (h:Fr (owS 2 hBv e) B U H v xs):∃ ys:List Av,ys.length = xs.length∧Fr (owS 2 rAv e) B U H v ys:=by
  obtain ⟨F,h1,h2,h3⟩:=h
  rcases h1 with ⟨rfl,rfl,rfl⟩ | ⟨css,g,cap,cur,F',hels,rfl,hg,r1,r2,r3,r4,rfl⟩
  · exact ⟨[],rfl,[],.inl ⟨rfl,rfl,rfl⟩,List.nodup_nil,fun b hb=>by cases hb⟩
  · obtain ⟨ys,l,h5⟩:=hBv_els hels
    exact ⟨ys,l,_,.inr ⟨css,g,cap,cur,F',h5,by rw [l],hg,by rw [l]; exact r1,r2,r3,by rw [l]; exact r4,rfl⟩,h2,h3⟩
theorem rAv_b {H:Array Obj} {cs:List Value} {x:Av} {F:List Nat} (h:rAv H cs x F):hBv H cs x F:=by
  obtain ⟨rfl,h,rfl⟩:=h
  exact ⟨⟨_,_,h.1,h.2,rfl⟩,rfl⟩
theorem RN.rb {S:List Nat} {H:Array Obj} {v:Value} {xs:List Av} (h:RN S (rdS 2 rAv) H v xs):RN S (rdS 2 hBv) H v xs:=by
  obtain ⟨F,h,hb⟩:=h
  rcases h with h | ⟨css,g,off,cap,cur,e,fr,F',hels,h2⟩
  · exact ⟨F,.inl h,hb⟩
  · exact ⟨F,.inr ⟨css,g,off,cap,cur,e,fr,F',hels.imp rAv_b,h2⟩,hb⟩
theorem RN.of_frB {S:List Nat} {e:TypeId} {B U:Nat} {H:Array Obj} {v:Value} {xs:List Av} (h:Fr (owS 2 hBv e) B U H v xs) (hS:∀ b∈S,b < B∨U≤b):RN S (rdS 2 hBv) H v xs:=by
  obtain ⟨F,h1,_,h3⟩:=h
  exact ⟨F,h1.rd good_hBv,fun b hb hm=>by have:=h3 b hb; have:=hS b hm; omega⟩
theorem mem_i8 {x a b c d e f g h:Int} (hx:x∈[a,b,c,d,e,f,g,h]):x = a∨x = b∨x = c∨x = d∨x = e∨x = f∨x = g∨x = h:=by
  simpa using hx
theorem mem_i6 {x a b c d e f:Int} (hx:x∈[a,b,c,d,e,f]):x = a∨x = b∨x = c∨x = d∨x = e∨x = f:=by
  simpa using hx
structure LchD (l:List Av) (ws:List Int) (k:Int):Prop where
  sch:schB l = true
  wl:ws.length≤17
  wb:∀ x∈ws,0≤x∧x≤1000
  k:0≤k∧k≤4
theorem lch_mk {l:List Av} {ws:List Int} {k:Int} (h:schB l = true) (h1:ws.length≤17) (h2:∀ x∈ws,0≤x∧x≤1000) (h3:0≤k∧k≤4):LchD l ws k:=⟨h,h1,h2,h3⟩
theorem sch_all {l:List Av} (h:∀ x∈l,avB x = true) (h2:l.length≤400):schB l = true :=
  schB_iff.2 ⟨h2,fun i hi=>avB_iff.1 (h _ (by rw [List.getD_eq_getElem?_getD,List.getElem?_eq_getElem hi]; exact List.getElem_mem hi))⟩
theorem all_snoc {ws:List Int} {x:Int} (h:∀ y∈ws,0≤y∧y≤1000) (hx:0≤x∧x≤1000):∀ y∈ws++[x],0≤y∧y≤1000:=fun y hy=>by
  rcases List.mem_append.1 hy with hy | hy
  · exact h y hy
  · rw [List.mem_singleton.1 hy]; exact hx
section many
variable {P:Program} {ops:Array Oper} {w0:World} {Q:Act→World→Prop} {os:List Oper} {ks:List Nat} {N:Nat} {ρ:Nat→Value} {w:World}
  {d:Nat} {ty:TypeId} {pos:String} {aft:Array Edge} {g:Option (Nat × Bool)} {t e:TypeId} {z:Value} {b:Nat}
theorem els_ints {H:Array Obj}:∀ {us:List Int},(∀ x∈us,i64 x)→els rI H (us.map (Value.int .i64)) us []
  | [],_=>rfl
  | x :: us,h=>⟨[],[],rfl,⟨rfl,rfl,h x (List.mem_cons_self ..)⟩,els_ints fun y hy=>h y (List.mem_cons_of_mem _ hy)⟩
theorem r_ints {parts:Array (Nat × Operand)} {n:Nat} {us:List Int} (ht:P.underlying t = some (.slice e)) (hi:TI P e 1 z b)
    (hp:(parts.map fun (i,x)=>(i,evF N ρ x)) = ((us.map (Value.int .i64)).zipIdx.map fun p=>(p.2,p.1)).toArray) (hn:us.length = n) (hn2:n≤1000) (hus:∀ x∈us,i64 x)
    (hr:∀ w:World,(Instr.buildSlice t n ((us.map (Value.int .i64)).zipIdx.map fun p=>(p.2,p.1)).toArray).run P w = .ok (.slice (some ⟨w.heap.size,0,none⟩) n n) (w.alloc (.cells (us.map (Value.int .i64)).toArray e)))
    (hu:Up ops N ρ ⟨some d,.buildSlice t n parts,ty,pos,aft,g⟩)
    (h:∀ v w1,Ext w w1→w1.heap.size = w.heap.size + 1→Fr (owL rI e) w.heap.size w1.heap.size w1.heap v us→LW P ops w0 Q os ks (mk N (upd ρ d v)) w1) :
    LW P ops w0 Q (⟨some d,.buildSlice t n parts,ty,pos,aft,g⟩ :: os) (3 :: ks) (mk N ρ) w:=by
  have hrun:(execOp (evF N ρ) ⟨some d,.buildSlice t n parts,ty,pos,aft,g⟩).run P w = .ok (.value (.slice (some ⟨w.heap.size,0,none⟩) n n)) (w.alloc (.cells (us.map (Value.int .i64)).toArray e)):=by
    simp only [execOp,Sem.run_bind,hp,hr w,Result.andThen_ok,Sem.run_pure]
  refine lw_r rfl hu _ _ hrun (ext_alloc _ _) (h _ _ (ext_alloc _ _) (by simp) ?_)
  have hm:(us.map (Value.int .i64)).length = us.length:=List.length_map ..
  have hx:=owL_new (e:=e) (w:=w) good_rI (us:=us.map (Value.int .i64)) (xs:=us) (F:=[]) (cur:=(us.map (Value.int .i64)).toArray) (els_ints hus) (by simp only [List.size_toArray,hm,hn]; unfold maxLen; omega) (by show List.take us.length (us.map (Value.int .i64)) = _; exact List.take_of_length_le (by rw [hm]; exact Nat.le_refl _)) (by simp)
  rw [hn] at hx
  simp only [List.size_toArray,hm,hn] at hx
  refine ⟨_,hx,?_,fun c hc=>?_⟩
  · rw [List.nodup_cons]
    exact ⟨fun hm=>(by cases hm),List.nodup_nil⟩
  · rcases List.mem_cons.1 hc with rfl | hc
    · exact ⟨Nat.le_refl _,by simp⟩
    · cases hc
theorem bs6 {u0 u1 u2 u3 u4 u5:Int} (ht:P.underlying t = some (.slice e)) (hi:TI P e 1 z b) (hz:z.cells = #[z]) (w:World) :
    (Instr.buildSlice t 6 ((([u0,u1,u2,u3,u4,u5]:List Int).map (Value.int .i64)).zipIdx.map fun p=>(p.2,p.1)).toArray).run P w = .ok (.slice (some ⟨w.heap.size,0,none⟩) 6 6) (w.alloc (.cells (([u0,u1,u2,u3,u4,u5]:List Int).map (Value.int .i64)).toArray e)):=by
  obtain ⟨i,q1,q2,q3,q4⟩:=hi.get
  simp [Instr.buildSlice,run_underlying ht,sizeOf,typeInfo,zeroValue,q1,q2,q3,Instr.fill,newRow,hz,mapRange,List.range_succ,Value.cells]
theorem bs8 {u0 u1 u2 u3 u4 u5 u6 u7:Int} (ht:P.underlying t = some (.slice e)) (hi:TI P e 1 z b) (hz:z.cells = #[z]) (w:World) :
    (Instr.buildSlice t 8 ((([u0,u1,u2,u3,u4,u5,u6,u7]:List Int).map (Value.int .i64)).zipIdx.map fun p=>(p.2,p.1)).toArray).run P w = .ok (.slice (some ⟨w.heap.size,0,none⟩) 8 8) (w.alloc (.cells (([u0,u1,u2,u3,u4,u5,u6,u7]:List Int).map (Value.int .i64)).toArray e)):=by
  obtain ⟨i,q1,q2,q3,q4⟩:=hi.get
  simp [Instr.buildSlice,run_underlying ht,sizeOf,typeInfo,zeroValue,q1,q2,q3,Instr.fill,newRow,hz,mapRange,List.range_succ,Value.cells]
end many
end Go.Proofs.Ytoacbkmejjhceaa
namespace Go.Proofs.Ytoacbkmejjhceaa
open Go Go.RowKit
set_option linter.unusedVariables false
set_option linter.unusedSimpArgs false
def wgB (w:List Int):Bool:=decide (w.length≤40) && !w.any fun x=>!(decide (0≤x) && decide (x≤1000))
def rnA (l:List Av) (w:List Int) (k:Int):Int:=if schB l = true∧wgB w = true then (if 0≤k∧k≤8 then usC l w.length k.toNat else 2) else 1
def rnU (l:List Av) (w:List Int) (k:Int):Us:=if rnA l w k = 0 then usR l w k.toNat else Us.zero
section
variable {l:List Av} {w:List Int} {k:Int}
theorem wgB_iff:wgB w = true↔w.length≤40∧∀ i,0≤w.getD i 0∧w.getD i 0≤1000:=by
  unfold wgB
  rw [Bool.and_eq_true,decide_eq_true_eq]
  refine and_congr_right fun _=>?_
  rw [Bool.not_eq_true',← Bool.not_eq_true,List.any_eq_true]
  constructor
  · intro h i
    by_cases hi:i < w.length
    · have e:w.getD i 0 = w[i]:=by simp [List.getD_eq_getElem?_getD,hi]
      cases hh:(decide (0≤w.getD i 0) && decide (w.getD i 0≤1000)) with
      | true =>
        rw [Bool.and_eq_true] at hh
        exact ⟨of_decide_eq_true hh.1,of_decide_eq_true hh.2⟩
      | false=>exact absurd ⟨w.getD i 0,by rw [e]; exact List.getElem_mem hi,by rw [hh]; rfl⟩ h
    · have e:w.getD i 0 = 0:=by simp [List.getD_eq_getElem?_getD,hi]
      rw [e]; omega
  · rintro h ⟨x,hx,hy⟩
    obtain ⟨i,hi,rfl⟩:=List.mem_iff_getElem.1 hx
    have h2:=h i
    rw [show w.getD i 0 = w[i] from by simp [List.getD_eq_getElem?_getD,hi]] at h2
    rw [decide_eq_true h2.1,decide_eq_true h2.2] at hy; cases hy
theorem wgB_big (h:¬ w.length≤40):false = wgB w:=by unfold wgB; rw [decide_eq_false h]; rfl
theorem wgB_any (h:w.length≤40):(!w.any fun x=>!(decide (0≤x) && decide (x≤1000))) = wgB w:=by unfold wgB; rw [decide_eq_true h,Bool.true_and]
theorem rnA_1 (h:¬ (schB l = true∧wgB w = true)):rnA l w k = 1:=if_neg h
theorem rnA_2 (h:schB l = true∧wgB w = true) (h2:¬ (0≤k∧k≤8)):rnA l w k = 2:=by unfold rnA; rw [if_pos h,if_neg h2]
theorem rnA_0 (h:schB l = true∧wgB w = true) (h2:0≤k∧k≤8):rnA l w k = usC l w.length k.toNat:=by unfold rnA; rw [if_pos h,if_pos h2]
theorem rnU_n (h:rnA l w k≠0):rnU l w k = Us.zero:=if_neg h
theorem rnU_u (h:schB l = true∧wgB w = true) (h2:0≤k∧k≤8):rnU l w k = usR l w k.toNat:=by
  unfold rnU
  by_cases h3:rnA l w k = 0
  · rw [if_pos h3]
  · rw [if_neg h3,usR_4 (by rw [← rnA_0 h h2]; exact h3)]
end
end Go.Proofs.Ytoacbkmejjhceaa
namespace Go.Proofs.Ytoacbkmejjhceaa
open Go Go.RowKit
set_option linter.unusedVariables false
set_option linter.unusedSimpArgs false
section
variable {l xs:List Av} {i k:Nat} {d:Int} {n kk:Int}
theorem scn_d (hk:k < l.length):scnI d (l.drop k) = if (l.getD k Av.zero).arg = d∧(l.getD k Av.zero).kind = 3 then false else if (l.getD k Av.zero).arg = d∧(l.getD k Av.zero).kind = 2 then true else scnI d (l.drop (k + 1)):=by
  rw [List.drop_eq_getElem_cons hk]
  have e:l[k] = l.getD k Av.zero:=by simp [List.getD_eq_getElem?_getD,hk]
  rw [e]; rfl
theorem scn_go (hk:k < l.length) (h1:¬ ((l.getD k Av.zero).arg = d∧(l.getD k Av.zero).kind = 3)) (h2:¬ ((l.getD k Av.zero).arg = d∧(l.getD k Av.zero).kind = 2)):scnI d (l.drop (k + 1)) = scnI d (l.drop k):=by
  rw [scn_d hk,if_neg h1,if_neg h2]
theorem scn_f (hk:k < l.length) (h1:(l.getD k Av.zero).arg = d∧(l.getD k Av.zero).kind = 3):scnI d (l.drop k) = false:=by rw [scn_d hk,if_pos h1]
theorem scn_t (hk:k < l.length) (h1:(l.getD k Av.zero).arg = d∧(l.getD k Av.zero).kind = 2):scnI d (l.drop k) = true:=by rw [scn_d hk,if_neg (by omega),if_pos h1]
theorem scn_e (hk:l.length≤k):scnI d (l.drop k) = true:=by rw [List.drop_eq_nil_of_le hk]; rfl
theorem idl_d (hi:i < l.length):idlS l i = if (l.getD i Av.zero).kind = 2 then scnI (l.getD i Av.zero).arg (l.drop (i + 1)) else if (l.getD i Av.zero).kind = 1∨(l.getD i Av.zero).kind = 3 then hdL (l.drop (i + 1)) else false:=by
  unfold idlS
  rw [List.drop_eq_getElem_cons hi]
  have e:l[i] = l.getD i Av.zero:=by simp [List.getD_eq_getElem?_getD,hi]
  rw [e]; rfl
theorem idl_2 (hi:i < l.length) (h:(l.getD i Av.zero).kind = 2):idlS l i = scnI (l.getD i Av.zero).arg (l.drop (i + 1)):=by rw [idl_d hi,if_pos h]
theorem idl_1 (hi:i < l.length) (h:(l.getD i Av.zero).kind = 1∨(l.getD i Av.zero).kind = 3):idlS l i = hdL (l.drop (i + 1)):=by rw [idl_d hi,if_neg (by omega),if_pos h]
theorem idl_0 (hi:i < l.length) (h:¬ (l.getD i Av.zero).kind = 2) (h1:¬ (l.getD i Av.zero).kind = 1) (h3:¬ (l.getD i Av.zero).kind = 3):idlS l i = false:=by rw [idl_d hi,if_neg h,if_neg (by omega)]
theorem hdL_e (h:l.length≤k):hdL (l.drop k) = true:=by rw [List.drop_eq_nil_of_le h]; rfl
theorem hdL_k (h:k < l.length):hdL (l.drop k) = decide ((l.getD k Av.zero).kind = 3):=by
  rw [List.drop_eq_getElem_cons h]
  have e:l[k] = l.getD k Av.zero:=by simp [List.getD_eq_getElem?_getD,h]
  rw [e]; rfl
theorem gd_drop (j:Nat):(l.drop i).getD j Av.zero = l.getD (i + j) Av.zero:=by
  simp [List.getD_eq_getElem?_getD]
theorem hdL_0 (h:(l.drop k).length≠0):hdL (l.drop k) = decide (((l.drop k).getD 0 Av.zero).kind = 3):=by
  rw [List.length_drop] at h
  rw [hdL_k (by omega),gd_drop]; rfl
def plC (l:List Av) (n k:Int):Int:=if schB l = true then (if (0≤n∧n≤40)∧(0≤k∧k≤8) then 0 else 2) else 1
def tmC (l:List Av) (n k:Int):Int:=if plC l n k = 0 then usC l n.toNat k.toNat else plC l n k
def tmR (l:List Av) (n k:Int):List Av:=if tmC l n k = 0 then trmF l else []
theorem plC_1 (h:schB l = false):plC l n kk = 1:=by unfold plC; rw [h]; rfl
theorem plC_2 (h:schB l = true) (h2:¬ ((0≤n∧n≤40)∧(0≤kk∧kk≤8))):plC l n kk = 2:=by unfold plC; rw [if_pos h,if_neg h2]
theorem plC_0 (h:schB l = true) (h2:(0≤n∧n≤40)∧(0≤kk∧kk≤8)):plC l n kk = 0:=by unfold plC; rw [if_pos h,if_pos h2]
theorem plC_i (h:plC l n kk = 0):schB l = true∧(0≤n∧n≤40)∧(0≤kk∧kk≤8):=by
  unfold plC at h
  split at h
  · rename_i h1
    split at h
    · rename_i h2; exact ⟨h1,h2⟩
    · omega
  · omega
theorem tmC_n (h:plC l n kk≠0):tmC l n kk = plC l n kk:=if_neg h
theorem tmC_u {m q:Nat} (h:plC l ((m:Nat):Int) ((q:Nat):Int) = 0):tmC l ((m:Nat):Int) ((q:Nat):Int) = usC l m q:=by unfold tmC; rw [if_pos h,Int.toNat_natCast,Int.toNat_natCast]
theorem tmR_n (h:tmC l n kk≠0):tmR l n kk = []:=if_neg h
theorem tmR_0 (h:tmC l n kk = 0):tmR l n kk = trmF l:=if_pos h
theorem er_td (i:Nat) (l:List Av):l.take i++l.drop (i + 1) = l.eraseIdx i:=(List.eraseIdx_eq_take_drop_succ l i).symm
theorem idl_next (hq:∀ j,j < i→idlS xs j = false) (h:idlS xs i = false):∀ j,j < i + 1→idlS xs j = false:=fun j hj=>(Nat.lt_succ_iff_lt_or_eq.1 hj).elim (hq j) fun e=>e ▸ h
theorem trm_st (ht:trmF xs = trmF l) (h:idlS xs i = true) (hq:∀ j,j < i→idlS xs j = false):trmF (xs.take i++xs.drop (i + 1)) = trmF l:=by
  rw [er_td,← trmF_step h hq,ht]
theorem trm_en (ht:trmF xs = trmF l) (h:xs.length≤i) (hq:∀ j,j < i→idlS xs j = false):xs = trmF l:=by rw [← ht,trmF_end h hq]
end
theorem av_next {a b:List Av} {k:Nat} (hq:∀ j,j < k→a.getD j Av.zero = b.getD j Av.zero) (h:[(a.getD k Av.zero).kind,(a.getD k Av.zero).arg] = [(b.getD k Av.zero).kind,(b.getD k Av.zero).arg]):∀ j,j < k + 1→a.getD j Av.zero = b.getD j Av.zero:=fun j hj =>
  (Nat.lt_succ_iff_lt_or_eq.1 hj).elim (hq j) fun e=>by
    subst e
    injection h with h1 h2
    injection h2 with h2
    generalize a.getD j Av.zero = x at h1 h2 ⊢
    generalize b.getD j Av.zero = y at h1 h2 ⊢
    cases x; cases y; simp only at h1 h2; rw [h1,h2]
theorem av_ne {a b:List Av} {k:Nat} (h:¬ [(a.getD k Av.zero).kind,(a.getD k Av.zero).arg] = [(b.getD k Av.zero).kind,(b.getD k Av.zero).arg]):¬ a = b:=fun e=>h (by rw [e])
section
variable {l:List Av} {w:List Int} {k:Int}
theorem tm_pl (hs:schB l = true) (hw:w.length≤40) (hk:0≤k∧k≤8):plC l ((w.length:Nat):Int) k = 0:=plC_0 hs ⟨by omega,hk⟩
theorem wg_all (hw:w.length≤40) (hb:∀ x∈w,0≤x∧x≤1000):wgB w = true:=wgB_iff.2 ⟨hw,fun i=>by
  by_cases hi:i < w.length
  · have e:w.getD i 0 = w[i]:=by simp [List.getD_eq_getElem?_getD,hi]
    rw [e]; exact hb _ (List.getElem_mem hi)
  · have e:w.getD i 0 = 0:=by simp [List.getD_eq_getElem?_getD,hi]
    rw [e]; omega⟩
theorem tm_rn (hs:schB l = true) (hw:wgB w = true) (hk:0≤k∧k≤8):rnA l w k = tmC l ((w.length:Nat):Int) k:=by
  obtain ⟨q,rfl⟩:∃ q:Nat,k = ((q:Nat):Int):=⟨k.toNat,by omega⟩
  rw [rnA_0 ⟨hs,hw⟩ hk,tmC_u (tm_pl hs (wgB_iff.1 hw).1 hk),Int.toNat_natCast]
theorem us_run {n q:Nat} (h:usC l n q = 0):∃ e,rnS l (bgn ((n:Nat):Int) q) = some e∧e.left≤0:=by
  have hf:fbS l (bgn ((n:Nat):Int) q) 0 = -1:=by
    by_cases h9:fbS l (bgn ((n:Nat):Int) q) 0 = -1
    · exact h9
    · rw [usC_4 h9] at h; cases h
  exact (fb_iff l _ 0 (Int.le_refl _)).1.1 hf
theorem run_us {n q:Nat} (h:∃ e,rnS l (bgn ((n:Nat):Int) q) = some e∧e.left≤0):usC l n q = 0:=usC_0 ((fb_iff l _ 0 (Int.le_refl _)).1.2 h)
theorem mem_gd {l:List Av} (h:∀ a∈l,avK a):∀ i,i < l.length→avK (l.getD i Av.zero):=fun i hi=>h _ (by
  rw [List.getD_eq_getElem?_getD,List.getElem?_eq_getElem hi]; exact List.getElem_mem hi)
theorem us_val {n q:Nat} (hs:schB l = true) (hw:wgB w = true) (hn:w.length = n) (h:usC l n q = 0) :
    (usR l w q).cost = csS w l (bgn ((n:Nat):Int) q)∧(usR l w q).adv = advS l∧(usR l w q).st = cntK 2 l∧(usR l w q).ld = cntK 3 l:=by
  subst hn
  obtain ⟨e,h1,h2⟩:=us_run h
  have hb:=bg_b (n:=((w.length:Nat):Int)) (m:=w.length) (by omega) q rfl
  have hc:=rnC_cost (w:=w) l (bgS w.length q) 0 (e:=e) hb (schB_mem hs) h1
  have hz:dotI (List.replicate w.length 0) w w.length = 0:=by
    have:∀ m,dotI (List.replicate w.length 0) w m = 0:=fun m=>by
      induction m with
      | zero=>rfl
      | succ m ih =>
        show dotI _ w m + (List.replicate w.length (0:Int)).getD m 0 * w.getD m 0 = 0
        rw [ih]
        have e0:(List.replicate w.length (0:Int)).getD m 0 = 0:=by simp only [List.getD_eq_getElem?_getD,List.getElem?_replicate]; split <;> rfl
        rw [e0,Int.zero_mul]; rfl
    exact this _
  rw [usR_0 h]
  refine ⟨?_,?_,?_,?_⟩
  · have h3:(bgS w.length q).ov.length = w.length:=by show (List.replicate w.length (0:Int)).length = _; exact List.length_replicate
    rw [h3] at hc
    show dotI (rnC l (bgS w.length q)).ov w w.length = _
    rw [hc,show (bgS w.length q).ov = List.replicate w.length 0 from rfl,hz,Int.zero_add]; rfl
  · show (rnC l (bgS w.length q)).u.adv = _
    rw [rnC_adv]; show (0:Int) + _ = _; omega
  · show (rnC l (bgS w.length q)).u.st = _
    rw [rnC_st]; show (0:Int) + _ = _; omega
  · show (rnC l (bgS w.length q)).u.ld = _
    rw [rnC_ld]; show (0:Int) + _ = _; omega
end
end Go.Proofs.Ytoacbkmejjhceaa
namespace Go.Proofs.Ytoacbkmejjhceaa
open Go Go.RowKit
set_option linter.unusedVariables false
set_option linter.unusedSimpArgs false
def flJ (P:Program):List Field→Nat→Bool
  | [],_=>true
  | f :: fs,i=>(f.name != "_") && (f.offset == i) && (match P.underlying f.type with | some (.int .i64)=>true | _=>false) && flJ P fs (i + 1)
def eqT (P:Program) (t:TypeId) (n:Nat):Bool :=
  (match P.underlying t with | some (.struct _)=>true | _=>false) && !P.stoodInHeld t && !P.eqGuardType P.depth t && flJ P (P.fieldsOf t).toList 0 && ((P.fieldsOf t).size == n)
theorem eqT_st {P:Program} {t:TypeId} {n:Nat} (h:eqT P t n = true):P.underlying t = some (.struct (P.fieldsOf t)):=by
  unfold eqT at h
  simp only [Bool.and_eq_true] at h
  have h1:=h.1.1.1.1
  unfold Program.fieldsOf
  split at h1
  · rename_i fs hfs; rw [hfs]
  · cases h1
theorem part_int {P:Program} {e:TypeId} {xs:Array Value} {off:Nat} {v:Value} {w:World} (he:P.underlying e = some (.int .i64)) (hx:xs[off]? = some v):(part e xs off).run P w = .ok v w:=by
  unfold part isAgg
  simp [run_underlying he,hx]
theorem run_eqF {P:Program} {w:World} {d:Nat} (us vs:List Int) (hl:us.length = vs.length):∀ (fs:List Field) (i:Nat),flJ P fs i = true→i + fs.length = us.length →
    (Op.eqFields (d + 1) ((us.map (Value.int .i64)).toArray) ((vs.map (Value.int .i64)).toArray) fs).run P w = .ok (decide (us.drop i = vs.drop i)) w
  | [],i,_,h=>by
    have h':i = us.length:=by simpa using h
    rw [List.drop_eq_nil_of_le (by omega),List.drop_eq_nil_of_le (by omega)]
    rfl
  | f :: fs,i,hf,h=>by
    unfold flJ at hf
    simp only [Bool.and_eq_true] at hf
    obtain ⟨⟨⟨h1,h2⟩,h3⟩,h4⟩:=hf
    have h2:f.offset = i:=by simpa using h2
    have h1:f.name≠"_":=by simpa using h1
    have h3:P.underlying f.type = some (.int .i64):=by
      split at h3
      · assumption
      · cases h3
    have hlt:i < us.length:=by simp only [List.length_cons] at h; omega
    have hlv:i < vs.length:=by omega
    have e1:((us.map (Value.int .i64)).toArray)[i]? = some (.int .i64 us[i]):=by simp [hlt]
    have e2:((vs.map (Value.int .i64)).toArray)[i]? = some (.int .i64 vs[i]):=by simp [hlv]
    have ih:=run_eqF (P:=P) (w:=w) (d:=d) us vs hl fs (i + 1) h4 (by simp only [List.length_cons] at h; omega)
    simp only [Op.eqFields,if_pos h1,Sem.run_bind,h2,part_int h3 e1,part_int h3 e2,Result.andThen_ok,run_equalIn_int w d f.type .i64 .i64 us[i] vs[i] h3]
    rw [List.drop_eq_getElem_cons hlt,List.drop_eq_getElem_cons hlv]
    by_cases hq:us[i] = vs[i]
    · simp only [hq,beq_self_eq_true,Bool.not_true,Bool.false_eq_true,if_false,ih]
      congr 1
      exact decide_eq_decide.2 ⟨fun h=>by rw [h],fun h=>(List.cons.inj h).2⟩
    · have hb:(us[i] == vs[i]) = false:=by simpa using hq
      simp only [hb,Bool.not_false,if_true,Sem.run_pure]
      congr 1
      exact (decide_eq_false (fun h=>hq (List.cons.inj h).1)).symm
theorem run_eqA {P:Program} {t:TypeId} {us vs:List Int} {w:World} (h:eqT P t us.length = true) (hl:us.length = vs.length) :
    (Op.equalIn 10000 t (.agg (us.map (Value.int .i64)).toArray) (.agg (vs.map (Value.int .i64)).toArray)).run P w = .ok (decide (us = vs)) w:=by
  have hs:=eqT_st h
  unfold eqT at h
  simp only [Bool.and_eq_true] at h
  obtain ⟨⟨⟨⟨_,h2⟩,h3⟩,h4⟩,h5⟩:=h
  have hfl:(P.fieldsOf t).size = us.length:=by simpa using h5
  rw [run_equalIn_struct w 9999 t _ _ hs (by simpa using h2),run_eqF us vs hl _ 0 h4 (by simpa using hfl)]
  rfl
section ops
variable {P:Program} {ops:Array Oper} {w0:World} {Q:Act→World→Prop} {os:List Oper} {ks:List Nat} {N:Nat} {ρ:Nat→Value} {w:World}
  {d:Nat} {ty:TypeId} {pos:String} {aft:Array Edge} {g:Option (Nat × Bool)} {xt yt:TypeId} {x y:Operand} {us vs:List Int} {cx cy:List Value}
theorem q_neqA (c:Bool) (ht:eqT P xt us.length = true) (hl:us.length = vs.length) (hx:evF N ρ x = .agg cx.toArray) (hy:evF N ρ y = .agg cy.toArray) (hu1:cx = us.map (Value.int .i64)) (hv1:cy = vs.map (Value.int .i64)) (hc:(!decide (us = vs)) = c) (hu:Up ops N ρ ⟨some d,.binOp .neq xt x y yt,ty,pos,aft,g⟩)
    (h:LW P ops w0 Q os ks (mk N (upd ρ d (.bool c))) w):LW P ops w0 Q (⟨some d,.binOp .neq xt x y yt,ty,pos,aft,g⟩ :: os) (0 :: ks) (mk N ρ) w :=
  lw_q (by decide) rfl hu _ (fun w' _=>by
    subst hu1 hv1
    have hg:P.eqGuardType P.depth xt = false:=by
      unfold eqT at ht
      simp only [Bool.and_eq_true] at ht
      simpa using ht.1.1.2
    simp only [execOp,hx,hy,Sem.run_bind,run_eqGuard_agg w' _ xt x y _ _ hg,Result.andThen_ok,run_neq_struct,run_eqA ht hl,hc,Sem.run_pure]) h
end ops
end Go.Proofs.Ytoacbkmejjhceaa
namespace Go.Proofs.Ytoacbkmejjhceaa
open Go Go.RowKit
theorem mixed:Try.prog.follows .mixedOrders = true:=by kernel_rfl
theorem cf4:((Try.prog.funcs[4]?).map fun fn=>(fn.name != "runtime.NumGoroutine") && fn.body.isSome) = some true:=by kernel_rfl
theorem cf5:((Try.prog.funcs[5]?).map fun fn=>(fn.name != "runtime.NumGoroutine") && fn.body.isSome) = some true:=by kernel_rfl
theorem cf6:((Try.prog.funcs[6]?).map fun fn=>(fn.name != "runtime.NumGoroutine") && fn.body.isSome) = some true:=by kernel_rfl
theorem cf7:((Try.prog.funcs[7]?).map fun fn=>(fn.name != "runtime.NumGoroutine") && fn.body.isSome) = some true:=by kernel_rfl
theorem cf8:((Try.prog.funcs[8]?).map fun fn=>(fn.name != "runtime.NumGoroutine") && fn.body.isSome) = some true:=by kernel_rfl
theorem cf9:((Try.prog.funcs[9]?).map fun fn=>(fn.name != "runtime.NumGoroutine") && fn.body.isSome) = some true:=by kernel_rfl
theorem cf10:((Try.prog.funcs[10]?).map fun fn=>(fn.name != "runtime.NumGoroutine") && fn.body.isSome) = some true:=by kernel_rfl
theorem cf11:((Try.prog.funcs[11]?).map fun fn=>(fn.name != "runtime.NumGoroutine") && fn.body.isSome) = some true:=by kernel_rfl
theorem cf12:((Try.prog.funcs[12]?).map fun fn=>(fn.name != "runtime.NumGoroutine") && fn.body.isSome) = some true:=by kernel_rfl
theorem cf13:((Try.prog.funcs[13]?).map fun fn=>(fn.name != "runtime.NumGoroutine") && fn.body.isSome) = some true:=by kernel_rfl
theorem cf14:((Try.prog.funcs[14]?).map fun fn=>(fn.name != "runtime.NumGoroutine") && fn.body.isSome) = some true:=by kernel_rfl
theorem cf15:((Try.prog.funcs[15]?).map fun fn=>(fn.name != "runtime.NumGoroutine") && fn.body.isSome) = some true:=by kernel_rfl
theorem cf16:((Try.prog.funcs[16]?).map fun fn=>(fn.name != "runtime.NumGoroutine") && fn.body.isSome) = some true:=by kernel_rfl
theorem cf17:((Try.prog.funcs[17]?).map fun fn=>(fn.name != "runtime.NumGoroutine") && fn.body.isSome) = some true:=by kernel_rfl
theorem cf18:((Try.prog.funcs[18]?).map fun fn=>(fn.name != "runtime.NumGoroutine") && fn.body.isSome) = some true:=by kernel_rfl
theorem cf19:((Try.prog.funcs[19]?).map fun fn=>(fn.name != "runtime.NumGoroutine") && fn.body.isSome) = some true:=by kernel_rfl
theorem cf20:((Try.prog.funcs[20]?).map fun fn=>(fn.name != "runtime.NumGoroutine") && fn.body.isSome) = some true:=by kernel_rfl
theorem cf21:((Try.prog.funcs[21]?).map fun fn=>(fn.name != "runtime.NumGoroutine") && fn.body.isSome) = some true:=by kernel_rfl
theorem cf22:((Try.prog.funcs[22]?).map fun fn=>(fn.name != "runtime.NumGoroutine") && fn.body.isSome) = some true:=by kernel_rfl
theorem cf23:((Try.prog.funcs[23]?).map fun fn=>(fn.name != "runtime.NumGoroutine") && fn.body.isSome) = some true:=by kernel_rfl
theorem cf24:((Try.prog.funcs[24]?).map fun fn=>(fn.name != "runtime.NumGoroutine") && fn.body.isSome) = some true:=by kernel_rfl
theorem cf25:((Try.prog.funcs[25]?).map fun fn=>(fn.name != "runtime.NumGoroutine") && fn.body.isSome) = some true:=by kernel_rfl
theorem cf26:((Try.prog.funcs[26]?).map fun fn=>(fn.name != "runtime.NumGoroutine") && fn.body.isSome) = some true:=by kernel_rfl
theorem cf27:((Try.prog.funcs[27]?).map fun fn=>(fn.name != "runtime.NumGoroutine") && fn.body.isSome) = some true:=by kernel_rfl
theorem cf28:((Try.prog.funcs[28]?).map fun fn=>(fn.name != "runtime.NumGoroutine") && fn.body.isSome) = some true:=by kernel_rfl
theorem cf29:((Try.prog.funcs[29]?).map fun fn=>(fn.name != "runtime.NumGoroutine") && fn.body.isSome) = some true:=by kernel_rfl
theorem cf30:((Try.prog.funcs[30]?).map fun fn=>(fn.name != "runtime.NumGoroutine") && fn.body.isSome) = some true:=by kernel_rfl
theorem cf31:((Try.prog.funcs[31]?).map fun fn=>(fn.name != "runtime.NumGoroutine") && fn.body.isSome) = some true:=by kernel_rfl
theorem cf32:((Try.prog.funcs[32]?).map fun fn=>(fn.name != "runtime.NumGoroutine") && fn.body.isSome) = some true:=by kernel_rfl
theorem cf33:((Try.prog.funcs[33]?).map fun fn=>(fn.name != "runtime.NumGoroutine") && fn.body.isSome) = some true:=by kernel_rfl
theorem cf34:((Try.prog.funcs[34]?).map fun fn=>(fn.name != "runtime.NumGoroutine") && fn.body.isSome) = some true:=by kernel_rfl
theorem cf35:((Try.prog.funcs[35]?).map fun fn=>(fn.name != "runtime.NumGoroutine") && fn.body.isSome) = some true:=by kernel_rfl
theorem cf36:((Try.prog.funcs[36]?).map fun fn=>(fn.name != "runtime.NumGoroutine") && fn.body.isSome) = some true:=by kernel_rfl
theorem cf37:((Try.prog.funcs[37]?).map fun fn=>(fn.name != "runtime.NumGoroutine") && fn.body.isSome) = some true:=by kernel_rfl
theorem cf38:((Try.prog.funcs[38]?).map fun fn=>(fn.name != "runtime.NumGoroutine") && fn.body.isSome) = some true:=by kernel_rfl
theorem cf39:((Try.prog.funcs[39]?).map fun fn=>(fn.name != "runtime.NumGoroutine") && fn.body.isSome) = some true:=by kernel_rfl
theorem cf40:((Try.prog.funcs[40]?).map fun fn=>(fn.name != "runtime.NumGoroutine") && fn.body.isSome) = some true:=by kernel_rfl
theorem cf41:((Try.prog.funcs[41]?).map fun fn=>(fn.name != "runtime.NumGoroutine") && fn.body.isSome) = some true:=by kernel_rfl
theorem cf42:((Try.prog.funcs[42]?).map fun fn=>(fn.name != "runtime.NumGoroutine") && fn.body.isSome) = some true:=by kernel_rfl
theorem cf43:((Try.prog.funcs[43]?).map fun fn=>(fn.name != "runtime.NumGoroutine") && fn.body.isSome) = some true:=by kernel_rfl
theorem cf44:((Try.prog.funcs[44]?).map fun fn=>(fn.name != "runtime.NumGoroutine") && fn.body.isSome) = some true:=by kernel_rfl
theorem cf45:((Try.prog.funcs[45]?).map fun fn=>(fn.name != "runtime.NumGoroutine") && fn.body.isSome) = some true:=by kernel_rfl
theorem cf46:((Try.prog.funcs[46]?).map fun fn=>(fn.name != "runtime.NumGoroutine") && fn.body.isSome) = some true:=by kernel_rfl
theorem cf47:((Try.prog.funcs[47]?).map fun fn=>(fn.name != "runtime.NumGoroutine") && fn.body.isSome) = some true:=by kernel_rfl
theorem cf48:((Try.prog.funcs[48]?).map fun fn=>(fn.name != "runtime.NumGoroutine") && fn.body.isSome) = some true:=by kernel_rfl
theorem cf49:((Try.prog.funcs[49]?).map fun fn=>(fn.name != "runtime.NumGoroutine") && fn.body.isSome) = some true:=by kernel_rfl
theorem cf50:((Try.prog.funcs[50]?).map fun fn=>(fn.name != "runtime.NumGoroutine") && fn.body.isSome) = some true:=by kernel_rfl
theorem cf51:((Try.prog.funcs[51]?).map fun fn=>(fn.name != "runtime.NumGoroutine") && fn.body.isSome) = some true:=by kernel_rfl
theorem cf52:((Try.prog.funcs[52]?).map fun fn=>(fn.name != "runtime.NumGoroutine") && fn.body.isSome) = some true:=by kernel_rfl
theorem cf53:((Try.prog.funcs[53]?).map fun fn=>(fn.name != "runtime.NumGoroutine") && fn.body.isSome) = some true:=by kernel_rfl
theorem cf54:((Try.prog.funcs[54]?).map fun fn=>(fn.name != "runtime.NumGoroutine") && fn.body.isSome) = some true:=by kernel_rfl
theorem one2:oneTy Try.prog 2:=by unfold oneTy; kernel_rfl
theorem one3:oneTy Try.prog 3:=by unfold oneTy; kernel_rfl
theorem one5:oneTy Try.prog 5:=by unfold oneTy; kernel_rfl
theorem one22:oneTy Try.prog 22:=by unfold oneTy; kernel_rfl
theorem one25:oneTy Try.prog 25:=by unfold oneTy; kernel_rfl
theorem one63:oneTy Try.prog 63:=by unfold oneTy; kernel_rfl
theorem one79:oneTy Try.prog 79:=by unfold oneTy; kernel_rfl
theorem sz2:(Try.prog.info? 2).map (·.size) = some 1:=by kernel_rfl
theorem sz3:(Try.prog.info? 3).map (·.size) = some 1:=by kernel_rfl
theorem sz25:(Try.prog.info? 25).map (·.size) = some 1:=by kernel_rfl
theorem sz63:(Try.prog.info? 63).map (·.size) = some 1:=by kernel_rfl
theorem ti2:TI Try.prog 2 1 (.int .i64 0) 8:=by unfold TI; kernel_rfl
theorem ti5:TI Try.prog 5 1 (.int .u8 0) 1:=by unfold TI; kernel_rfl
theorem ti25:TI Try.prog 25 1 (.slice none 0 0) 24:=by unfold TI; kernel_rfl
theorem ti79:TI Try.prog 79 1 (.slice none 0 0) 24:=by unfold TI; kernel_rfl
theorem u2:Try.prog.underlying 2 = some (.int .i64):=by kernel_rfl
theorem u3:Try.prog.underlying 3 = some (.int .i64):=by kernel_rfl
theorem u4:Try.prog.underlying 4 = some (.bool):=by kernel_rfl
theorem u5:Try.prog.underlying 5 = some (.int .u8):=by kernel_rfl
theorem u22:Try.prog.underlying 22 = some (.slice 5):=by kernel_rfl
theorem u24:Try.prog.underlying 24 = some (.slice 56):=by kernel_rfl
theorem u25:Try.prog.underlying 25 = some (.slice 2):=by kernel_rfl
theorem u53:Try.prog.underlying 53 = some (.slice 79):=by kernel_rfl
theorem u63:Try.prog.underlying 63 = some (.int .u64):=by kernel_rfl
theorem u79:Try.prog.underlying 79 = some (.slice 25):=by kernel_rfl
theorem agg31:aggTy Try.prog 31 5 = true:=by kernel_rfl
theorem zr31:(Try.prog.info? 31).map (·.zero) = some (some (.agg #[.int .i64 0,.int .i64 0,.int .i64 0,.int .i64 0,.int .i64 0])):=by kernel_rfl
theorem fd31_0:fdO Try.prog 31 0 0 = true:=by kernel_rfl
theorem fd31_1:fdO Try.prog 31 1 1 = true:=by kernel_rfl
theorem fd31_2:fdO Try.prog 31 2 2 = true:=by kernel_rfl
theorem fd31_3:fdO Try.prog 31 3 3 = true:=by kernel_rfl
theorem fd31_4:fdO Try.prog 31 4 4 = true:=by kernel_rfl
theorem agg56:aggTy Try.prog 56 2 = true:=by kernel_rfl
theorem zr56:(Try.prog.info? 56).map (·.zero) = some (some (.agg #[.int .i64 0,.int .i64 0])):=by kernel_rfl
theorem tiS56:TI Try.prog 56 2 (.agg #[.int .i64 0,.int .i64 0]) 16:=by unfold TI; kernel_rfl
theorem fd56_0:fdO Try.prog 56 0 0 = true:=by kernel_rfl
theorem fd56_1:fdO Try.prog 56 1 1 = true:=by kernel_rfl
theorem fd71_0:fdO Try.prog 71 0 0 = true:=by kernel_rfl
theorem fd71_1:fdO Try.prog 71 1 1 = true:=by kernel_rfl
theorem fd71_2:fdO Try.prog 71 2 2 = true:=by kernel_rfl
theorem fd75_0:fdO Try.prog 75 0 0 = true:=by kernel_rfl
theorem fd75_1:fdO Try.prog 75 1 1 = true:=by kernel_rfl
theorem fd75_2:fdO Try.prog 75 2 2 = true:=by kernel_rfl
theorem fd75_3:fdO Try.prog 75 3 3 = true:=by kernel_rfl
theorem fd84_0:fdO Try.prog 84 0 0 = true:=by kernel_rfl
theorem fd84_1:fdO Try.prog 84 1 1 = true:=by kernel_rfl
theorem fd84_2:fdO Try.prog 84 2 2 = true:=by kernel_rfl
theorem fd84_3:fdO Try.prog 84 3 3 = true:=by kernel_rfl
theorem fd84_4:fdO Try.prog 84 4 4 = true:=by kernel_rfl
theorem fd84_5:fdO Try.prog 84 5 9 = true:=by kernel_rfl
end Go.Proofs.Ytoacbkmejjhceaa
namespace Go.Proofs.Ytoacbkmejjhceaa
open Go Go.RowKit
theorem ti4:TI Try.prog 4 1 (.bool false) 1:=by unfold TI; kernel_rfl
theorem one73:oneTy Try.prog 73:=by unfold oneTy; kernel_rfl
theorem one82:oneTy Try.prog 82:=by unfold oneTy; kernel_rfl
end Go.Proofs.Ytoacbkmejjhceaa
namespace Go.Proofs.Ytoacbkmejjhceaa
open Go Go.RowKit
set_option linter.unusedVariables false
set_option linter.unusedSimpArgs false
set_option maxHeartbeats 4000000
set_option maxRecDepth 100000
attribute [local irreducible] LW
theorem c_impl_within (w:World) (n:Int) (low:Int) (high:Int) (_hn:-9223372036854775808≤n∧n≤9223372036854775807) (_hlow:-9223372036854775808≤low∧low≤9223372036854775807) (_hhigh:-9223372036854775808≤high∧high≤9223372036854775807)  :
  Calls Try.prog 46 #[.int .i64 n,.int .i64 low,.int .i64 high] w (fun e w'=>e = .returned (.bool (decide (low≤n) && decide (n≤high)))∧w' = w):=by
 refine calls_mk [.int .i64 n,.int .i64 low,.int .i64 high] 15 Try.func46 rfl rfl sM ?_
 have hE0:w = w:=rfl
 refine wp_seq (wp_plain _ [0] rfl (lw_tvn 1 rfl (wp_seq (wp_plain _ [0,0,0,0,0,0,0,0,0] rfl (lw_tv 2 rfl ?_)))))
 by_cases hc1:low≤n
 ·
  exact q_geq true rfl rfl (decide_eq_true hc1) zN (lw_tv 3 rfl (q_leq (decide (n≤high)) rfl rfl rfl (zS (e:=10) rfl rfl rfl) (lw_tvn 2 rfl (wp_ret (post_ret [6] rfl (.bool (decide (n≤high))) rfl ⟨(ret_bool (by simp [*])),hE0⟩)))))
 ·
  exact q_geq false rfl rfl (decide_eq_false hc1) zN (lw_tvn 6 rfl (wp_ret (post_ret [6] rfl (.bool false) rfl ⟨(ret_bool (by simp [*])),hE0⟩)))
theorem c_spec_l00In (w:World) (n:Int) (low:Int) (high:Int) (_hn:-9223372036854775808≤n∧n≤9223372036854775807) (_hlow:-9223372036854775808≤low∧low≤9223372036854775807) (_hhigh:-9223372036854775808≤high∧high≤9223372036854775807)  :
  Calls Try.prog 40 #[.int .i64 n,.int .i64 low,.int .i64 high] w (fun e w'=>e = .returned (.bool (decide (low≤n) && decide (n≤high)))∧w' = w):=by
 refine calls_mk [.int .i64 n,.int .i64 low,.int .i64 high] 15 Try.func40 rfl rfl sM ?_
 have hE0:w = w:=rfl
 refine wp_seq (wp_plain _ [0] rfl (lw_tvn 1 rfl (wp_seq (wp_plain _ [0,0,0,0,0,0,0,0,0] rfl (lw_tv 2 rfl ?_)))))
 by_cases hc1:low≤n
 ·
  exact q_geq true rfl rfl (decide_eq_true hc1) zN (lw_tv 3 rfl (q_leq (decide (n≤high)) rfl rfl rfl (zS (e:=10) rfl rfl rfl) (lw_tvn 2 rfl (wp_ret (post_ret [6] rfl (.bool (decide (n≤high))) rfl ⟨(ret_bool (by simp [*])),hE0⟩)))))
 ·
  exact q_geq false rfl rfl (decide_eq_false hc1) zN (lw_tvn 6 rfl (wp_ret (post_ret [6] rfl (.bool false) rfl ⟨(ret_bool (by simp [*])),hE0⟩)))
end Go.Proofs.Ytoacbkmejjhceaa
namespace Go.Proofs.Ytoacbkmejjhceaa
open Go Go.RowKit
set_option linter.unusedVariables false
set_option linter.unusedSimpArgs false
set_option maxHeartbeats 4000000
set_option maxRecDepth 100000
attribute [local irreducible] LW
def ixF {α:Type} (p:α→Bool) (l:List α):Int:=if l.any p then ((l.findIdx p:Nat):Int) else -1
theorem ix_yes {α:Type} {p:α→Bool} {l:List α} {k:Nat} (d:α) (h:∀ j,j < k→p (l.getD j d) = false) (hk:k < l.length) (hp:p (l.getD k d) = true):((k:Nat):Int) = ixF p l:=by
  have e:∀ j,(hj:j < l.length)→l.getD j d = l[j]:=fun j hj=>by simp [hj]
  have h1:l.any p = true:=List.any_eq_true.2 ⟨l[k],List.getElem_mem hk,by rw [← e k hk]; exact hp⟩
  have h2:l.findIdx p = k:=by
    rw [List.findIdx_eq hk]
    refine ⟨by rw [← e k hk]; exact hp,fun j hj=>?_⟩
    have:=h j hj
    rw [e j (by omega)] at this
    exact this
  unfold ixF; rw [if_pos h1,h2]
theorem ix_no {α:Type} {p:α→Bool} {l:List α} {k:Nat} (d:α) (h:∀ j,j < k→p (l.getD j d) = false) (hk:l.length≤k):(-1:Int) = ixF p l:=by
  have h1:l.any p = false:=by
    rw [List.any_eq_false]
    intro x hx
    obtain ⟨j,hj,rfl⟩:=List.getElem_of_mem hx
    have:=h j (by omega)
    have e:l.getD j d = l[j]:=by simp [hj]
    rw [e] at this
    simp [this]
  unfold ixF; rw [h1]; rfl
theorem ix_ge {α:Type} (p:α→Bool) (l:List α):decide (((0:Nat):Int)≤ixF p l) = l.any p:=by
  unfold ixF
  split
  · rename_i h; rw [h]; exact decide_eq_true (by omega)
  · rename_i h; rw [Bool.not_eq_true] at h; rw [h]; exact decide_eq_false (by omega)
theorem ix_step {α:Type} {p:α→Bool} {l:List α} {k:Nat} {d:α} (h:∀ j,j < k→p (l.getD j d) = false) (hp:p (l.getD k d) = false):∀ j,j < k + 1→p (l.getD j d) = false:=by
  intro j hj
  by_cases e:j = k
  · subst e; exact hp
  · exact h j (by omega)
theorem c_slices_IndexFunc___int64_int64_ (w:World) (va:Value) (a:List Int) (q:Nat) (qf qc:List Value) (p:Int→Bool) (ha:Rd (rdL rI) w.heap va a) (hcf_q:((Try.prog.funcs[q]?).map fun fn=>(fn.name != "runtime.NumGoroutine") && fn.body.isSome) = some true) (hp:∀ (x:Int),-9223372036854775808≤x∧x≤9223372036854775807→∀ w1,Ext w w1→Calls Try.prog q (qf++[Value.int .i64 x]++qc).toArray w1 (fun e w2=>e = .returned (.bool (p x))∧Ext w1 w2))  :
  Calls Try.prog 54 #[va,.func (.func q) qf.toArray qc.toArray] w (fun e w'=>e = .returned (.int .i64 (ixF p a))∧Ext w w'):=by
 refine calls_mk [va,.func (.func q) qf.toArray qc.toArray] 19 Try.func54 rfl rfl sM ?_
 have hE0:Ext w w:=Ext.refl w
 have hl_va:=ha.lenle
 refine wp_seq (wp_plain _ [0] rfl (lw_tvn 1 rfl (wp_seq (wp_seq (wp_plain _ [0,0,0] rfl (lw_tv 1 rfl (q_len (v:=va) u25 rfl ha.isSl zN (lw_tvn 1 rfl (wp_block ?_)))))))))
 refine c_loop (S:=Nat) (fun (k:Nat)=>([(8,(.int .i64 ((k :Nat):Int))),(0,va),(1,(.func (.func q) qf.toArray qc.toArray)),(7,(.int .i64 ((a.length :Nat):Int)))]:List (Nat × Value))) (fun (k:Nat) (W:World)=>Ext w W∧k≤a.length∧(∀ j,j < k→p (a.getD j 0) = false)) (fun (k:Nat)=>a.length - k) 0 ⟨rfl,rfl,rfl,rfl,trivial⟩ ⟨hE0,sD,(by intro j hj; omega)⟩ ?_
 clear hE0
 rintro k ρ1 w1 ⟨hE1,hp1_0,hq⟩
 have hzs1:w.heap.size≤w1.heap.size:=hE1.size
 refine wp_seq (wp_plain _ [0] rfl ?_)
 by_cases hc2:((k :Nat):Int) < ((a.length :Nat):Int)
 ·
  refine q_lss true rfl rfl (decide_eq_true hc2) zN (lw_nil (wp_seq (c_cond_t rfl (wp_skip (wp_seq (wp_block (wp_seq (wp_plain _ [0,0] rfl (lw_tvn 2 rfl (wp_seq (wp_plain _ [0,0,0,0,2,3] rfl (lw_tv 3 rfl (q_idx (v:=va) k u25 ti2 rfl rfl ha.isSl rfl sD zN ?_)))))))))))))
  refine q_load (p:=eptr va k 1) (.inr rfl) (.int .i64 (a.getD k 0)) one2 rfl (ldH_ext hE1 (ha.getI sD).1) zN ?_
  have hcall3:=hp (a.getD k 0) (ha.getI sD).2 _ hE1
  refine lw_call q qf qc _ rfl rfl hcf_q zN hcall3 ?_
  rintro e3 w3 ⟨rfl,hX3⟩
  refine ⟨_,rfl,hX3,?_⟩
  have hzs3:=hX3.size
  have hE3:=hE1.trans hX3
  cases hc3:p (a.getD k 0)
  ·
   refine lw_nil (c_cond_f rfl (wp_skip (wp_plain _ [0,0] rfl (q_add ((k + 1 :Nat):Int) rfl rfl (w64n oM sD) zN (lw_tvn 1 rfl ?_)))))
   exact ⟨(k + 1),_,rfl,⟨rfl,rfl,rfl,rfl,trivial⟩,⟨hE3,sD,(by exact ix_step hq (by assumption))⟩,by first | omega | (dsimp only; omega)⟩
  ·
   exact lw_nil (c_cond_t rfl (wp_seq (wp_plain _ [0,0] rfl (lw_tvn 2 rfl (wp_ret (b_ret (t_ret (t_ret (b_ret (t_ret (post_ret [4] rfl (.int .i64 ((k :Nat):Int)) rfl ⟨(ret_int (ix_yes 0 hq oM (by assumption))),hE3⟩)))))))))))
 ·
  exact q_lss false rfl rfl (decide_eq_false hc2) zN (lw_nil (wp_seq (c_cond_f rfl (wp_exit (t_exit (t_exit (c_exit_here (wp_seq (wp_plain _ [0] rfl (lw_tvn 1 rfl (wp_ret (post_ret [4] rfl (.int .i64 (-1)) rfl ⟨(ret_int (ix_no 0 hq oM)),hE1⟩))))))))))))
theorem c_slices_ContainsFunc___int64_int64_ (w:World) (va:Value) (a:List Int) (q:Nat) (qf qc:List Value) (p:Int→Bool) (ha:Rd (rdL rI) w.heap va a) (hcf_q:((Try.prog.funcs[q]?).map fun fn=>(fn.name != "runtime.NumGoroutine") && fn.body.isSome) = some true) (hp:∀ (x:Int),-9223372036854775808≤x∧x≤9223372036854775807→∀ w1,Ext w w1→Calls Try.prog q (qf++[Value.int .i64 x]++qc).toArray w1 (fun e w2=>e = .returned (.bool (p x))∧Ext w1 w2))  :
  Calls Try.prog 44 #[va,.func (.func q) qf.toArray qc.toArray] w (fun e w'=>e = .returned (.bool (a.any p))∧Ext w w'):=by
 refine calls_mk [va,.func (.func q) qf.toArray qc.toArray] 9 Try.func44 rfl rfl sM ?_
 have hE0:Ext w w:=Ext.refl w
 have hl_va:=ha.lenle
 refine wp_seq (wp_plain _ [0] rfl (lw_tvn 1 rfl (wp_seq (wp_plain _ [0,0,3,0,0] rfl (lw_tv 2 rfl (lw_call 54 [] [] [va,(.func (.func q) qf.toArray qc.toArray)] rfl rfl cf54 zN (c_slices_IndexFunc___int64_int64_ _ _ _ q qf qc p (ha.ext g1 hE0) hcf_q (fun x hx w1 hw=>hp x hx w1 (hE0.trans hw))) ?_))))))
 rintro e1 w1 ⟨rfl,hX1⟩
 refine ⟨_,rfl,hX1,?_⟩
 have hzs1:=hX1.size
 have hE1:=hE0.trans hX1
 exact q_geq (decide (((0 :Nat):Int)≤ixF p a)) rfl rfl rfl zN (lw_tvn 1 rfl (wp_ret (post_ret [4] rfl (.bool (decide (((0 :Nat):Int)≤ixF p a))) rfl ⟨(ret_bool (ix_ge p a)),hE1⟩)))
end Go.Proofs.Ytoacbkmejjhceaa
namespace Go.Proofs.Ytoacbkmejjhceaa
open Go Go.RowKit
set_option linter.unusedVariables false
set_option linter.unusedSimpArgs false
set_option maxHeartbeats 4000000
set_option maxRecDepth 100000
attribute [local irreducible] LW
theorem z50_0 {p:Prop} (h:p:=by first | (rw [pos_1 oM]; first | exact (decide_eq_true oM).symm | exact (decide_eq_false oM).symm) | (rw [pos_2 oM]; first | exact (decide_eq_true oM).symm | exact (decide_eq_false oM).symm) | (rw [pos_4 oM]; first | exact (decide_eq_true oM).symm | exact (decide_eq_false oM).symm) | (rw [pos_3 oM]; first | (rw [decide_eq_true (show a.arg < ((z.c.slots.length:Nat):Int) by omega),decide_eq_true (show 0≤z.c.slots.getD a.arg.toNat 0 by omega)]; rfl) | (rw [decide_eq_false (show ¬ a.arg < ((z.c.slots.length:Nat):Int) by omega)]; rfl) | (rw [decide_eq_false (show ¬ 0≤z.c.slots.getD a.arg.toNat 0 by omega),Bool.and_false])) | (exfalso; omega)):p:=h
theorem z50_1 {p:Prop} (h:p:=by first | (intro h9; cases h9; done) | (intro _; first | exact stp_1 oM _ oM | exact stp_2 oM | exact stp_3 oM | exact stp_4 oM oM | (exfalso; omega))):p:=h
theorem c_impl_chain_take (w:World) (g gm:Nat) (vs vo:Value) (Fs Fo:List Nat) (z:CS) (n:Int) (m:Nat) (a:Av) (hK:ChK 2 w.heap g gm vs vo Fs Fo z) (ha:i64 a.kind∧i64 a.arg) (hB:CsB n m z) (hmm:m≤100000∧0≤n∧n≤40) (hav:avK a) :
    Calls Try.prog 50 #[.pointer (some ⟨g,0,none⟩),(.agg #[(.int .i64 a.kind),(.int .i64 a.arg)])] w (fun e w'=>∃ (z2:CS) (b:Bool),e = .returned (.bool b)∧Chg (ZL g gm Fs Fo) w w'∧ChK 2 w'.heap g gm vs vo Fs Fo z2∧b = posA z.c a∧(b = true→z2 = stpS z a)):=by
  refine calls_mk [.pointer (some ⟨g,0,none⟩),(.agg #[(.int .i64 a.kind),(.int .i64 a.arg)])] 152 Try.func50 rfl rfl sM ?_
  have hE0:Chg (ZL g gm Fs Fo) w w:=Chg.refl (ZL g gm Fs Fo) w
  have hl_vs:=hK.sl.lenle
  unfold maxLen at hl_vs
  have hl_vo:=hK.ov.lenle
  unfold maxLen at hl_vo
  have hgl:=hK.bx.lt
  have hZl:=hK.lt
  have hat0:=hB.k.at0
  have hatn:=hB.k.atn
  have hl0:=hB.k.l0
  have hln:=hB.k.ln
  have hol:=hB.len
  have hadv:=hB.adv
  have hst:=hB.st
  have hld:=hB.ld
  have hcz:=hB.z
  unfold avK at hav
  refine wp_seq (wp_plain _ [3,0] rfl ?_)
  have hq2:=hK.bx.lt
  refine r_boxA (cs:=#[(.int .i64 a.kind),(.int .i64 a.arg)]) rfl zN fun w1 hX1 hz1 hB1=>?_
  have hzs1:w.heap.size≤w1.heap.size:=hX1.size
  have hE1:Chg (ZL g gm Fs Fo) w w1:=hE0.ext hX1
  have hF3:=hK.bx.ext hX1
  have hF4:=own_ext (o1) hK.sl hX1
  have hF5:=own_ext (o1) hK.ov hX1
  have hM6:=hK.mp.ext hX1
  replace hB1:BX w1.heap w.heap.size [(.int .i64 a.kind),(.int .i64 a.arg)]:=hB1
  refine lw_tvn 1 rfl (wp_seq (wp_seq (wp_plain _ [0,2] rfl (q_fldP (p:=(.pointer (some ⟨w.heap.size,0,none⟩))) (b:=w.heap.size) (o:=0) 0 fd56_0 rfl rfl zN (q_load (p:=(padd (.pointer (some ⟨w.heap.size,0,none⟩)) 0)) (.inr rfl) (.int .i64 a.kind) one2 rfl (hB1.ldp (i:=0) sM) zN (lw_nil (wp_block (wp_seq (wp_plain _ [0,0] rfl ?_)))))))))
  by_cases hc7:a.kind = ((1:Nat):Int)
  ·
    refine q_eql true rfl rfl (decide_eq_true hc7) zN (lw_tvn 1 rfl (c_cond_t rfl (wp_seq (wp_seq (wp_draw _ [0,0,0,1,0,1,0,0,0,0,1,0] mixed (by kernel_rfl) (lw_tv 1 rfl (q_nil rfl zN (q_fldP (p:=(.pointer (some ⟨g,0,none⟩))) (b:=g) (o:=0) 1 fd84_1 rfl rfl zN (q_load (p:=(padd (.pointer (some ⟨g,0,none⟩)) 1)) (.inl rfl) (.int .i64 z.c.at_) one2 rfl (hF3.ldp (i:=1) sM) zN (q_fldP (p:=(.pointer (some ⟨w.heap.size,0,none⟩))) (b:=w.heap.size) (o:=0) 1 fd56_1 rfl rfl zN (q_load (p:=(padd (.pointer (some ⟨w.heap.size,0,none⟩)) 1)) (.inl rfl) (.int .i64 a.arg) one2 rfl (hB1.ldp (i:=1) sM) zN ?_)))))))))))
    refine q_add (z.c.at_ + a.arg) rfl rfl (w64 sD sD) zN (lw_tv 1 rfl (q_nil rfl zN ?_))
    refine q_fldP (p:=(.pointer (some ⟨g,0,none⟩))) (b:=g) (o:=0) 0 fd84_0 rfl rfl zN (q_load (p:=(padd (.pointer (some ⟨g,0,none⟩)) 0)) (.inl rfl) (.int .i64 z.c.left) one2 rfl (hF3.ldp (i:=0) sM) zN ?_)
    by_cases hc8:z.c.left≤z.c.at_ + a.arg
    ·
      refine q_geq true rfl rfl (decide_eq_true hc8) zN (lw_nil (c_cond_t rfl (wp_seq (wp_plain _ [0] rfl (lw_tvn 1 rfl (wp_ret (t_ret (b_ret (t_ret ?_)))))))))
      have hKr:ChK 2 w1.heap g gm vs vo Fs Fo (⟨⟨z.c.at_,z.c.left,z.c.slots⟩,z.ov,z.us,⟨z.u.cost,z.u.adv,z.u.st,z.u.ld,z.u.sl⟩⟩:CS):=⟨hF3,hF4,hK.sn,hF5,hK.on,hM6,hK.d⟩
      exact post_ret [4] rfl (.bool false) rfl ⟨_,_,rfl,hE1.drew,hKr,z50_0,z50_1⟩
    ·
      refine q_geq false rfl rfl (decide_eq_false hc8) zN (lw_nil (c_cond_f rfl (wp_skip (wp_seq (wp_plain _ [0,2,0] rfl (q_fldP (p:=(.pointer (some ⟨w.heap.size,0,none⟩))) (b:=w.heap.size) (o:=0) 1 fd56_1 rfl rfl zN (q_load (p:=(padd (.pointer (some ⟨w.heap.size,0,none⟩)) 1)) (.inr rfl) (.int .i64 a.arg) one2 rfl (hB1.ldp (i:=1) sM) zN (lw_tvn 1 rfl (wp_block ?_)))))))))
      refine c_loop (S:=Nat) (fun (k:Nat)=>([(23,(.int .i64 ((k:Nat):Int))),(0,(.pointer (some ⟨g,0,none⟩))),(22,(.int .i64 a.arg))]:List (Nat × Value))) (fun (k:Nat) (W:World)=>Chg (ZL g gm Fs Fo) w W∧k≤a.arg.toNat∧ChK 2 W.heap g gm vs vo Fs Fo (advZ z k)) (fun (k:Nat)=>a.arg.toNat - k) 0 ⟨rfl,rfl,rfl,trivial⟩ ⟨hE1.drew,oM,(by rw [advZ_0]; exact ⟨hF3,hF4,hK.sn,hF5,hK.on,hM6,hK.d⟩)⟩ ?_
      clear hE0 hz1 hX1 hzs1 hE1 hF3 hF4 hF5 hM6
      rintro k ρ9 w9 ⟨hE9,hp9_0,hKl⟩
      have hzs9:w.heap.size≤w9.heap.size:=hE9.size
      have hbx10:BX w9.heap g [(.int .i64 z.c.left),(.int .i64 (z.c.at_ + ((k:Nat):Int))),vs,vo,(.int .i64 z.u.cost),(.int .i64 (z.u.adv + ((k:Nat):Int))),(.int .i64 z.u.st),(.int .i64 z.u.ld),(.int .i64 z.u.sl),(.map (some gm))]:=hKl.bx
      have hsl10:owL rI 2 w9.heap vs z.c.slots Fs:=hKl.sl
      have hov10:owL rI 2 w9.heap vo (ovA z.ov z.c.at_.toNat k) Fo:=hKl.ov
      have hmp10:MapI w9.heap gm z.us:=hKl.mp
      refine wp_seq (wp_plain _ [0] rfl ?_)
      by_cases hc11:((k:Nat):Int) < a.arg
      ·
        refine q_lss true rfl rfl (decide_eq_true hc11) zN (lw_nil (wp_seq (c_cond_t rfl (wp_skip (wp_seq (wp_block (wp_seq (wp_draw _ [0,0,0,1,0,0,0,1,0,1,0,0,4] mixed (by kernel_rfl) ?_))))))))
        have hkl:k < a.arg.toNat:=by omega
        have hov9:=hB.ov (z.c.at_.toNat + k)
        have hg9:=ovA_get (ov:=z.ov) (i:=z.c.at_.toNat) (j:=z.c.at_.toNat + k) k oM
        rw [if_neg oM] at hg9
        have hol2:(ovA z.ov z.c.at_.toNat k).length = n.toNat:=by rw [ovA_len]; exact hol
        refine lw_tv 1 rfl (q_nil rfl zN (q_fldP (p:=(.pointer (some ⟨g,0,none⟩))) (b:=g) (o:=0) 3 fd84_3 rfl rfl zN (q_load (p:=(padd (.pointer (some ⟨g,0,none⟩)) 3)) (.inl rfl) vo one25 rfl (hbx10.ldp (i:=3) sM) zN (lw_tv 1 rfl (q_nil rfl zN (q_fldP (p:=(.pointer (some ⟨g,0,none⟩))) (b:=g) (o:=0) 1 fd84_1 rfl rfl zN (q_load (p:=(padd (.pointer (some ⟨g,0,none⟩)) 1)) (.inl rfl) (.int .i64 (z.c.at_ + ((k:Nat):Int))) one2 rfl (hbx10.ldp (i:=1) sM) zN (q_idx (v:=vo) (z.c.at_.toNat + k) u25 ti2 rfl rfl (hov10.rd id).isSl oM oM zN ?_))))))))
        refine q_load (p:=eptr vo (z.c.at_.toNat + k) 1) (.inl rfl) (.int .i64 ((ovA z.ov z.c.at_.toNat k).getD (z.c.at_.toNat + k) 0)) one2 rfl ((own_rdI hov10).getI (k:=(z.c.at_.toNat + k)) oM).1 zN ?_
        refine q_add (((ovA z.ov z.c.at_.toNat k).getD (z.c.at_.toNat + k) 0) + ((1:Nat):Int)) rfl rfl (w64 sD sD) zN ?_
        refine q_idx (v:=vo) (z.c.at_.toNat + k) u25 ti2 rfl rfl (hov10.rd id).isSl oM oM zN (e_set0 (v:=vo) (w:=w9.drew) sz2 rfl rfl oM hov10 hK.on oM zN fun w12 hC12 hz12 hO12=>?_)
        replace hC12:=hC12.of_drew
        have hzs12:w9.heap.size≤w12.heap.size:=hC12.size
        have hE12:Chg (ZL g gm Fs Fo) w w12:=hE9.trans (hC12.sub zl_o)
        have hF13:=hbx10.chg hC12 hK.d.go
        have hF14:=owI_chg hsl10 hC12 hK.d.so
        have hF15:=hmp10.chg hC12 hK.d.mo
        refine lw_nil (wp_seq (wp_plain _ [0,0,0,0,2,0,0,0,0,4] rfl (lw_tv 1 rfl (q_nil rfl zN (q_fldP (p:=(.pointer (some ⟨g,0,none⟩))) (b:=g) (o:=0) 4 fd84_4 rfl rfl zN (q_fldP (p:=(padd (.pointer (some ⟨g,0,none⟩)) 4)) (b:=g) (o:=4) 1 fd31_1 rfl rfl zN (q_load (p:=(padd (padd (.pointer (some ⟨g,0,none⟩)) 4) 1)) (.inr rfl) (.int .i64 (z.u.adv + ((k:Nat):Int))) one2 rfl (hF13.ldp (i:=5) sM) zN (q_add (z.u.adv + ((k + 1:Nat):Int)) rfl rfl (by rw [w64 oM oM]; omega) zN (q_nil rfl zN (q_fldP (p:=(.pointer (some ⟨g,0,none⟩))) (b:=g) (o:=0) 4 fd84_4 rfl rfl zN (q_fldP (p:=(padd (.pointer (some ⟨g,0,none⟩)) 4)) (b:=g) (o:=4) 1 fd31_1 rfl rfl zN ?_)))))))))))
        refine e_setB (k:=5) (w:=w12) sz2 rfl rfl ⟨rfl,rfl⟩ hF13 sM zN fun w16 hC16 hz16 hB16=>?_
        replace hB16:BX w16.heap g [(.int .i64 z.c.left),(.int .i64 (z.c.at_ + ((k:Nat):Int))),vs,vo,(.int .i64 z.u.cost),(.int .i64 (z.u.adv + ((k + 1:Nat):Int))),(.int .i64 z.u.st),(.int .i64 z.u.ld),(.int .i64 z.u.sl),(.map (some gm))]:=hB16
        have hzs16:w12.heap.size≤w16.heap.size:=hC16.size
        have hE16:Chg (ZL g gm Fs Fo) w w16:=hE12.trans (hC16.sub zl_g)
        have hF17:=owI_chg hF14 hC16 (fun b hb hm=>hK.d.gs ((List.mem_singleton.1 hm) ▸ hb))
        have hF18:=owI_chg hO12 hC16 (fun b hb hm=>hK.d.go ((List.mem_singleton.1 hm) ▸ hb))
        have hF19:=hF15.chg hC16 (fun hm=>hK.d.gm_ (List.mem_singleton.1 hm).symm)
        refine lw_nil (wp_plain _ [0,0,0,2,0,0,0,4] rfl (lw_tv 1 rfl (q_nil rfl zN (q_fldP (p:=(.pointer (some ⟨g,0,none⟩))) (b:=g) (o:=0) 1 fd84_1 rfl rfl zN (q_load (p:=(padd (.pointer (some ⟨g,0,none⟩)) 1)) (.inr rfl) (.int .i64 (z.c.at_ + ((k:Nat):Int))) one2 rfl (hB16.ldp (i:=1) sM) zN (q_add (z.c.at_ + ((k + 1:Nat):Int)) rfl rfl (by rw [w64 oM oM]; omega) zN (q_nil rfl zN (q_fldP (p:=(.pointer (some ⟨g,0,none⟩))) (b:=g) (o:=0) 1 fd84_1 rfl rfl zN (e_setB (k:=1) (w:=w16) sz2 rfl rfl ⟨rfl,rfl⟩ hB16 sM zN fun w20 hC20 hz20 hB20=>?_)))))))))
        replace hB20:BX w20.heap g [(.int .i64 z.c.left),(.int .i64 (z.c.at_ + ((k + 1:Nat):Int))),vs,vo,(.int .i64 z.u.cost),(.int .i64 (z.u.adv + ((k + 1:Nat):Int))),(.int .i64 z.u.st),(.int .i64 z.u.ld),(.int .i64 z.u.sl),(.map (some gm))]:=hB20
        have hzs20:w16.heap.size≤w20.heap.size:=hC20.size
        have hE20:Chg (ZL g gm Fs Fo) w w20:=hE16.trans (hC20.sub zl_g)
        have hF21:=owI_chg hF17 hC20 (fun b hb hm=>hK.d.gs ((List.mem_singleton.1 hm) ▸ hb))
        have hF22:=owI_chg hF18 hC20 (fun b hb hm=>hK.d.go ((List.mem_singleton.1 hm) ▸ hb))
        have hF23:=hF19.chg hC20 (fun hm=>hK.d.gm_ (List.mem_singleton.1 hm).symm)
        refine lw_nil (wp_plain _ [0,0] rfl (q_add ((k + 1:Nat):Int) rfl rfl (w64n oM oM) zN (lw_tvn 1 rfl ?_)))
        have hKe:ChK 2 w20.heap g gm vs vo Fs Fo (⟨⟨z.c.at_ + ((k + 1:Nat):Int),z.c.left,z.c.slots⟩,(ovA z.ov z.c.at_.toNat k).set (z.c.at_.toNat + k) (((ovA z.ov z.c.at_.toNat k).getD (z.c.at_.toNat + k) 0) + ((1:Nat):Int)),z.us,⟨z.u.cost,z.u.adv + ((k + 1:Nat):Int),z.u.st,z.u.ld,z.u.sl⟩⟩:CS):=⟨hB20,hF21,hK.sn,hF22,hK.on,hF23,hK.d⟩
        exact ⟨(k + 1),_,rfl,⟨rfl,rfl,rfl,trivial⟩,⟨hE20,oM,(by exact hKe)⟩,by first | omega | (dsimp only; omega)⟩
      ·
        refine q_lss false rfl rfl (decide_eq_false hc11) zN (lw_nil (wp_seq (c_cond_f rfl (wp_exit (t_exit (t_exit (c_exit_here (wp_seq (wp_plain _ [0] rfl (lw_tvn 1 rfl (wp_ret ?_)))))))))))
        have hKr:ChK 2 w9.heap g gm vs vo Fs Fo (⟨⟨z.c.at_ + ((k:Nat):Int),z.c.left,z.c.slots⟩,ovA z.ov z.c.at_.toNat k,z.us,⟨z.u.cost,z.u.adv + ((k:Nat):Int),z.u.st,z.u.ld,z.u.sl⟩⟩:CS):=⟨hbx10,hsl10,hK.sn,hov10,hK.on,hmp10,hK.d⟩
        exact post_ret [4] rfl (.bool true) rfl ⟨_,_,rfl,hE9,hKr,z50_0,z50_1⟩
  ·
    refine q_eql false rfl rfl (decide_eq_false hc7) zN (lw_tvn 1 rfl (c_cond_f rfl (wp_seq (wp_plain _ [0,0] rfl ?_))))
    by_cases hc24:a.kind = ((2:Nat):Int)
    ·
      refine q_eql true rfl rfl (decide_eq_true hc24) zN (lw_tvn 1 rfl (c_cond_t rfl (wp_seq (wp_seq (wp_draw _ [0,1,0,0,0,1,0,0] mixed (by kernel_rfl) (q_fldP (p:=(.pointer (some ⟨w.heap.size,0,none⟩))) (b:=w.heap.size) (o:=0) 1 fd56_1 rfl rfl zN (q_load (p:=(padd (.pointer (some ⟨w.heap.size,0,none⟩)) 1)) (.inl rfl) (.int .i64 a.arg) one2 rfl (hB1.ldp (i:=1) sM) zN (lw_tv 1 rfl (q_nil rfl zN (q_fldP (p:=(.pointer (some ⟨g,0,none⟩))) (b:=g) (o:=0) 2 fd84_2 rfl rfl zN (q_load (p:=(padd (.pointer (some ⟨g,0,none⟩)) 2)) (.inl rfl) vs one25 rfl (hF3.ldp (i:=2) sM) zN (q_len (v:=vs) u25 rfl (hF4.rd id).isSl zN ?_))))))))))))
      by_cases hc25:((z.c.slots.length:Nat):Int)≤a.arg
      ·
        refine q_geq true rfl rfl (decide_eq_true hc25) zN (lw_nil (c_cond_t rfl (wp_seq (wp_plain _ [0] rfl (lw_tvn 1 rfl (wp_ret (t_ret (b_ret (t_ret ?_)))))))))
        have hKr:ChK 2 w1.heap g gm vs vo Fs Fo (⟨⟨z.c.at_,z.c.left,z.c.slots⟩,z.ov,z.us,⟨z.u.cost,z.u.adv,z.u.st,z.u.ld,z.u.sl⟩⟩:CS):=⟨hF3,hF4,hK.sn,hF5,hK.on,hM6,hK.d⟩
        exact post_ret [4] rfl (.bool false) rfl ⟨_,_,rfl,hE1.drew,hKr,z50_0,z50_1⟩
      ·
        refine q_geq false rfl rfl (decide_eq_false hc25) zN (lw_nil (c_cond_f rfl (wp_skip (wp_seq ?_))))
        letI:JR:=jrC (gm :: Fs)
        refine Jx.wp_draw _ [0,0,0,1,0,1,0,0,0,1,0,1,0,0,0,1,0,3,3,0,3] mixed (by kernel_rfl) ?_
        have hjz26:g∉gm :: Fs:=fun hm=>(List.mem_cons.1 hm).elim hK.d.gm_ hK.d.gs
        have hjl26:∀ x∈gm :: Fs,x < w.heap.size:=fun x hx=>(List.mem_cons.1 hx).elim (fun h=>hZl _ (zl_m _ (List.mem_singleton.2 h))) (fun h=>hZl _ (zl_s _ h))
        refine Jx.q_move (.pointer (some ⟨g,0,none⟩)) rfl zN (Jx.j1 (q_nil rfl zN (lw_nil (Jx.j1 (q_fldP (p:=(.pointer (some ⟨g,0,none⟩))) (b:=g) (o:=0) 2 fd84_2 rfl rfl zN (lw_nil (Jx.q_loadJ (p:=(padd (.pointer (some ⟨g,0,none⟩)) 2)) vs one25 rfl (fun wj hj=>(BX.chg (w:=w1.drew.drew) (F:=(gm :: Fs)) hF3 hj hjz26).ldp (i:=2) sM) zN (Jx.j1 (q_fldP (p:=(.pointer (some ⟨w.heap.size,0,none⟩))) (b:=w.heap.size) (o:=0) 1 fd56_1 rfl rfl zN (lw_nil (Jx.q_loadJ (p:=(padd (.pointer (some ⟨w.heap.size,0,none⟩)) 1)) (.int .i64 a.arg) one2 rfl (fun wj hj=>(BX.chg (w:=w1.drew.drew) (F:=(gm :: Fs)) hB1 hj (fun hm=>by have:=hjl26 _ hm; omega)).ldp (i:=1) sM) zN (Jx.q_move (.pointer (some ⟨g,0,none⟩)) rfl zN ?_))))))))))))
        refine Jx.j1 (q_nil rfl zN (lw_nil (Jx.j1 (q_fldP (p:=(.pointer (some ⟨g,0,none⟩))) (b:=g) (o:=0) 9 fd84_5 rfl rfl zN (lw_nil (Jx.q_loadJ (p:=(padd (.pointer (some ⟨g,0,none⟩)) 9)) (.map (some gm)) one82 rfl (fun wj hj=>(BX.chg (w:=w1.drew.drew) (F:=(gm :: Fs)) hF3 hj hjz26).ldp (i:=9) sM) zN (Jx.j1 (q_fldP (p:=(.pointer (some ⟨w.heap.size,0,none⟩))) (b:=w.heap.size) (o:=0) 1 fd56_1 rfl rfl zN (lw_nil (Jx.q_loadJ (p:=(padd (.pointer (some ⟨w.heap.size,0,none⟩)) 1)) (.int .i64 a.arg) one2 rfl (fun wj hj=>(BX.chg (w:=w1.drew.drew) (F:=(gm :: Fs)) hB1 hj (fun hm=>by have:=hjl26 _ hm; omega)).ldp (i:=1) sM) zN (Jx.q_move (.pointer (some ⟨g,0,none⟩)) rfl zN (Jx.j1 (q_nil rfl zN (lw_nil ?_))))))))))))))
        refine Jx.j1 (q_fldP (p:=(.pointer (some ⟨g,0,none⟩))) (b:=g) (o:=0) 1 fd84_1 rfl rfl zN (lw_nil (Jx.q_loadJ (p:=(padd (.pointer (some ⟨g,0,none⟩)) 1)) (.int .i64 z.c.at_) one2 rfl (fun wj hj=>(BX.chg (w:=w1.drew.drew) (F:=(gm :: Fs)) hF3 hj hjz26).ldp (i:=1) sM) zN (Jx.j1 (q_idx (v:=vs) ((a.arg).toNat) u25 ti2 rfl rfl (hF4.rd id).isSl oM sD zN (lw_nil (Jx.lift3 ?_)))))))
        refine e_set0 (v:=vs) (w:=w1.drew.drew) sz2 rfl rfl oM hF4 hK.sn sD zN fun w27 hC27 hz27 hO27=>?_
        replace hC27:=hC27.of_drew
        replace hC27:=hC27.of_drew
        have hzs27:w1.heap.size≤w27.heap.size:=hC27.size
        have hE27:Chg (ZL g gm Fs Fo) w w27:=hE1.trans (hC27.sub zl_s)
        have hF28:=hF3.chg hC27 hK.d.gs
        have hF29:=owI_chg hF5 hC27 (fun b hb hm=>hK.d.so b hm hb)
        have hF30:=hM6.chg hC27 hK.d.ms
        refine lw_nil ⟨⟨(zs_F (gm:=gm) hC27).os,(zs_F (gm:=gm) hC27).tape,(zs_F (gm:=gm) hC27).output,(zs_F (gm:=gm) hC27).size,(zs_F (gm:=gm) hC27).block⟩,?_⟩
        refine Jx.lift3 (e_mapE (g:=gm) (show Try.prog.underlying 82 = some (.map 2 4) by kernel_rfl) u2 (zv_ti ti4) rfl rfl hF30 ha.2 zN fun v032 st32 w32 hC32 hz32 hM32=>?_)
        have hzs32:w27.heap.size≤w32.heap.size:=hC32.size
        have hE32:Chg (ZL g gm Fs Fo) w w32:=hE27.trans (hC32.sub zl_m)
        have hF33:=hF28.chg hC32 (fun hm=>hK.d.gm_ (List.mem_singleton.1 hm))
        have hF34:=owI_chg hO27 hC32 (fun b hb hm=>hK.d.ms ((List.mem_singleton.1 hm) ▸ hb))
        have hF35:=owI_chg hF29 hC32 (fun b hb hm=>hK.d.mo ((List.mem_singleton.1 hm) ▸ hb))
        refine lw_nil ⟨⟨(zs_M (Fs:=Fs) hC32).os,(zs_M (Fs:=Fs) hC32).tape,(zs_M (Fs:=Fs) hC32).output,(zs_M (Fs:=Fs) hC32).size,(zs_M (Fs:=Fs) hC32).block⟩,?_⟩
        refine Jx.j1 (q_extract (vs:=[v032,(.int .i64 ((st32:Nat):Int))]) (.int .i64 ((st32:Nat):Int)) rfl rfl zN (lw_nil (Jx.lift3 (e_mapS (g:=gm) rfl rfl hM32 zN fun w37 hC37 hz37 hM37=>?_))))
        have hzs37:w32.heap.size≤w37.heap.size:=hC37.size
        have hE37:Chg (ZL g gm Fs Fo) w w37:=hE32.trans (hC37.sub zl_m)
        have hF38:=hF33.chg hC37 (fun hm=>hK.d.gm_ (List.mem_singleton.1 hm))
        have hF39:=owI_chg hF34 hC37 (fun b hb hm=>hK.d.ms ((List.mem_singleton.1 hm) ▸ hb))
        have hF40:=owI_chg hF35 hC37 (fun b hb hm=>hK.d.mo ((List.mem_singleton.1 hm) ▸ hb))
        refine lw_nil ⟨⟨(zs_M (Fs:=Fs) hC37).os,(zs_M (Fs:=Fs) hC37).tape,(zs_M (Fs:=Fs) hC37).output,(zs_M (Fs:=Fs) hC37).size,(zs_M (Fs:=Fs) hC37).block⟩,?_⟩
        refine Jx.lw_nil (wp_plain _ [0,0,0,0,2,0,0,0,0,4] rfl (lw_tv 1 rfl (q_nil rfl zN (q_fldP (p:=(.pointer (some ⟨g,0,none⟩))) (b:=g) (o:=0) 4 fd84_4 rfl rfl zN (q_fldP (p:=(padd (.pointer (some ⟨g,0,none⟩)) 4)) (b:=g) (o:=4) 2 fd31_2 rfl rfl zN (q_load (p:=(padd (padd (.pointer (some ⟨g,0,none⟩)) 4) 2)) (.inr rfl) (.int .i64 z.u.st) one2 rfl (hF38.ldp (i:=6) sM) zN ?_))))))
        refine q_add (z.u.st + ((1:Nat):Int)) rfl rfl (w64 sD sD) zN (q_nil rfl zN ?_)
        refine q_fldP (p:=(.pointer (some ⟨g,0,none⟩))) (b:=g) (o:=0) 4 fd84_4 rfl rfl zN (q_fldP (p:=(padd (.pointer (some ⟨g,0,none⟩)) 4)) (b:=g) (o:=4) 2 fd31_2 rfl rfl zN (e_setB (k:=6) (w:=w37) sz2 rfl rfl ⟨rfl,rfl⟩ hF38 sM zN fun w42 hC42 hz42 hB42=>?_))
        replace hB42:BX w42.heap g [(.int .i64 z.c.left),(.int .i64 z.c.at_),vs,vo,(.int .i64 z.u.cost),(.int .i64 z.u.adv),(.int .i64 (z.u.st + ((1:Nat):Int))),(.int .i64 z.u.ld),(.int .i64 z.u.sl),(.map (some gm))]:=hB42
        have hzs42:w37.heap.size≤w42.heap.size:=hC42.size
        have hE42:Chg (ZL g gm Fs Fo) w w42:=hE37.trans (hC42.sub zl_g)
        have hF43:=owI_chg hF39 hC42 (fun b hb hm=>hK.d.gs ((List.mem_singleton.1 hm) ▸ hb))
        have hF44:=owI_chg hF40 hC42 (fun b hb hm=>hK.d.go ((List.mem_singleton.1 hm) ▸ hb))
        have hF45:=hM37.chg hC42 (fun hm=>hK.d.gm_ (List.mem_singleton.1 hm).symm)
        refine lw_nil (wp_seq (wp_plain _ [0] rfl (lw_tvn 1 rfl (wp_ret ?_))))
        have hKr:ChK 2 w42.heap g gm vs vo Fs Fo (⟨⟨z.c.at_,z.c.left,z.c.slots.set ((a.arg).toNat) z.c.at_⟩,z.ov,insI a.arg z.us,⟨z.u.cost,z.u.adv,z.u.st + ((1:Nat):Int),z.u.ld,z.u.sl⟩⟩:CS):=⟨hB42,hF43,hK.sn,hF44,hK.on,hF45,hK.d⟩
        exact post_ret [4] rfl (.bool true) rfl ⟨_,_,rfl,hE42,hKr,z50_0,z50_1⟩
    ·
      refine q_eql false rfl rfl (decide_eq_false hc24) zN (lw_tvn 1 rfl (c_cond_f rfl (wp_seq (wp_plain _ [0,0] rfl ?_))))
      by_cases hc47:a.kind = ((3:Nat):Int)
      ·
        refine q_eql true rfl rfl (decide_eq_true hc47) zN (lw_tvn 1 rfl (c_cond_t rfl (wp_seq (wp_seq (wp_draw _ [0,1,0,0,0,1,0,0,0,0,0,0,1,0,1,0,1,0,0] mixed (by kernel_rfl) (q_fldP (p:=(.pointer (some ⟨w.heap.size,0,none⟩))) (b:=w.heap.size) (o:=0) 1 fd56_1 rfl rfl zN (q_load (p:=(padd (.pointer (some ⟨w.heap.size,0,none⟩)) 1)) (.inl rfl) (.int .i64 a.arg) one2 rfl (hB1.ldp (i:=1) sM) zN (lw_tv 1 rfl (q_nil rfl zN (q_fldP (p:=(.pointer (some ⟨g,0,none⟩))) (b:=g) (o:=0) 2 fd84_2 rfl rfl zN (q_load (p:=(padd (.pointer (some ⟨g,0,none⟩)) 2)) (.inl rfl) vs one25 rfl (hF3.ldp (i:=2) sM) zN (q_len (v:=vs) u25 rfl (hF4.rd id).isSl zN ?_))))))))))))
        by_cases hc48:((z.c.slots.length:Nat):Int)≤a.arg
        ·
          refine q_geq true rfl rfl (decide_eq_true hc48) zN (lw_tvn 11 rfl (c_cond_t rfl (wp_seq (wp_plain _ [0] rfl (lw_tvn 1 rfl (wp_ret (t_ret (b_ret (t_ret ?_)))))))))
          have hKr:ChK 2 w1.heap g gm vs vo Fs Fo (⟨⟨z.c.at_,z.c.left,z.c.slots⟩,z.ov,z.us,⟨z.u.cost,z.u.adv,z.u.st,z.u.ld,z.u.sl⟩⟩:CS):=⟨hF3,hF4,hK.sn,hF5,hK.on,hM6,hK.d⟩
          exact post_ret [4] rfl (.bool false) rfl ⟨_,_,rfl,hE1.drew,hKr,z50_0,z50_1⟩
        ·
          refine q_geq false rfl rfl (decide_eq_false hc48) zN (lw_tv 2 rfl (q_nil rfl (zS (e:=102) rfl rfl rfl) (q_fldP (p:=(.pointer (some ⟨g,0,none⟩))) (b:=g) (o:=0) 2 fd84_2 rfl rfl (zS (e:=102) rfl rfl rfl) (q_load (p:=(padd (.pointer (some ⟨g,0,none⟩)) 2)) (.inl rfl) vs one25 rfl (hF3.ldp (i:=2) sM) (zS (e:=102) rfl rfl rfl) (q_fldP (p:=(.pointer (some ⟨w.heap.size,0,none⟩))) (b:=w.heap.size) (o:=0) 1 fd56_1 rfl rfl (zS (e:=102) rfl rfl rfl) (q_load (p:=(padd (.pointer (some ⟨w.heap.size,0,none⟩)) 1)) (.inl rfl) (.int .i64 a.arg) one2 rfl (hB1.ldp (i:=1) sM) (zS (e:=102) rfl rfl rfl) ?_))))))
          refine q_idx (v:=vs) ((a.arg).toNat) u25 ti2 rfl rfl (hF4.rd id).isSl oM sD (zS (e:=102) rfl rfl rfl) ?_
          refine q_load (p:=eptr vs ((a.arg).toNat) 1) (.inl rfl) (.int .i64 (z.c.slots.getD ((a.arg).toNat) 0)) one2 rfl ((own_rdI hF4).getI (k:=((a.arg).toNat)) sD).1 (zS (e:=102) rfl rfl rfl) ?_
          by_cases hc49:z.c.slots.getD ((a.arg).toNat) 0 < ((0:Nat):Int)
          ·
            refine q_lss true rfl rfl (decide_eq_true hc49) (zS (e:=102) rfl rfl rfl) (lw_tvn 1 rfl (c_cond_t rfl (wp_seq (wp_plain _ [0] rfl (lw_tvn 1 rfl (wp_ret (t_ret (b_ret (t_ret ?_)))))))))
            have hKr:ChK 2 w1.heap g gm vs vo Fs Fo (⟨⟨z.c.at_,z.c.left,z.c.slots⟩,z.ov,z.us,⟨z.u.cost,z.u.adv,z.u.st,z.u.ld,z.u.sl⟩⟩:CS):=⟨hF3,hF4,hK.sn,hF5,hK.on,hM6,hK.d⟩
            exact post_ret [4] rfl (.bool false) rfl ⟨_,_,rfl,hE1.drew,hKr,z50_0,z50_1⟩
          ·
            refine q_lss false rfl rfl (decide_eq_false hc49) (zS (e:=102) rfl rfl rfl) (lw_tvn 1 rfl (c_cond_f rfl (wp_skip (wp_seq (wp_draw _ [0,0,0,0,1,0,1,0,1,0,0,4] mixed (by kernel_rfl) (lw_tv 2 rfl (q_nil rfl zN (q_fldP (p:=(.pointer (some ⟨g,0,none⟩))) (b:=g) (o:=0) 2 fd84_2 rfl rfl zN (q_load (p:=(padd (.pointer (some ⟨g,0,none⟩)) 2)) (.inl rfl) vs one25 rfl (hF3.ldp (i:=2) sM) zN (q_fldP (p:=(.pointer (some ⟨w.heap.size,0,none⟩))) (b:=w.heap.size) (o:=0) 1 fd56_1 rfl rfl zN (q_load (p:=(padd (.pointer (some ⟨w.heap.size,0,none⟩)) 1)) (.inl rfl) (.int .i64 a.arg) one2 rfl (hB1.ldp (i:=1) sM) zN ?_)))))))))))
            refine q_idx (v:=vs) ((a.arg).toNat) u25 ti2 rfl rfl (hF4.rd id).isSl oM sD zN ?_
            refine q_load (p:=eptr vs ((a.arg).toNat) 1) (.inl rfl) (.int .i64 (z.c.slots.getD ((a.arg).toNat) 0)) one2 rfl ((own_rdI hF4).getI (k:=((a.arg).toNat)) sD).1 zN (q_nil rfl zN (q_fldP (p:=(.pointer (some ⟨g,0,none⟩))) (b:=g) (o:=0) 1 fd84_1 rfl rfl zN (e_setB (k:=1) (w:=w1.drew.drew) sz2 rfl rfl ⟨rfl,rfl⟩ hF3 sM zN fun w50 hC50 hz50 hB50=>?_)))
            replace hB50:BX w50.heap g [(.int .i64 z.c.left),(.int .i64 (z.c.slots.getD ((a.arg).toNat) 0)),vs,vo,(.int .i64 z.u.cost),(.int .i64 z.u.adv),(.int .i64 z.u.st),(.int .i64 z.u.ld),(.int .i64 z.u.sl),(.map (some gm))]:=hB50
            replace hC50:=hC50.of_drew
            replace hC50:=hC50.of_drew
            have hzs50:w1.heap.size≤w50.heap.size:=hC50.size
            have hE50:Chg (ZL g gm Fs Fo) w w50:=hE1.trans (hC50.sub zl_g)
            have hF51:=owI_chg hF4 hC50 (fun b hb hm=>hK.d.gs ((List.mem_singleton.1 hm) ▸ hb))
            have hF52:=owI_chg hF5 hC50 (fun b hb hm=>hK.d.go ((List.mem_singleton.1 hm) ▸ hb))
            have hF53:=hM6.chg hC50 (fun hm=>hK.d.gm_ (List.mem_singleton.1 hm).symm)
            refine lw_nil (wp_plain _ [0,0,0,0,2,0,0,0,0,4] rfl (lw_tv 1 rfl (q_nil rfl zN (q_fldP (p:=(.pointer (some ⟨g,0,none⟩))) (b:=g) (o:=0) 4 fd84_4 rfl rfl zN (q_fldP (p:=(padd (.pointer (some ⟨g,0,none⟩)) 4)) (b:=g) (o:=4) 3 fd31_3 rfl rfl zN (q_load (p:=(padd (padd (.pointer (some ⟨g,0,none⟩)) 4) 3)) (.inr rfl) (.int .i64 z.u.ld) one2 rfl (hB50.ldp (i:=7) sM) zN ?_))))))
            refine q_add (z.u.ld + ((1:Nat):Int)) rfl rfl (w64 sD sD) zN (q_nil rfl zN ?_)
            refine q_fldP (p:=(.pointer (some ⟨g,0,none⟩))) (b:=g) (o:=0) 4 fd84_4 rfl rfl zN (q_fldP (p:=(padd (.pointer (some ⟨g,0,none⟩)) 4)) (b:=g) (o:=4) 3 fd31_3 rfl rfl zN (e_setB (k:=7) (w:=w50) sz2 rfl rfl ⟨rfl,rfl⟩ hB50 sM zN fun w55 hC55 hz55 hB55=>?_))
            replace hB55:BX w55.heap g [(.int .i64 z.c.left),(.int .i64 (z.c.slots.getD ((a.arg).toNat) 0)),vs,vo,(.int .i64 z.u.cost),(.int .i64 z.u.adv),(.int .i64 z.u.st),(.int .i64 (z.u.ld + ((1:Nat):Int))),(.int .i64 z.u.sl),(.map (some gm))]:=hB55
            have hzs55:w50.heap.size≤w55.heap.size:=hC55.size
            have hE55:Chg (ZL g gm Fs Fo) w w55:=hE50.trans (hC55.sub zl_g)
            have hF56:=owI_chg hF51 hC55 (fun b hb hm=>hK.d.gs ((List.mem_singleton.1 hm) ▸ hb))
            have hF57:=owI_chg hF52 hC55 (fun b hb hm=>hK.d.go ((List.mem_singleton.1 hm) ▸ hb))
            have hF58:=hF53.chg hC55 (fun hm=>hK.d.gm_ (List.mem_singleton.1 hm).symm)
            refine lw_nil (wp_seq (wp_plain _ [0] rfl (lw_tvn 1 rfl (wp_ret ?_))))
            have hKr:ChK 2 w55.heap g gm vs vo Fs Fo (⟨⟨z.c.slots.getD ((a.arg).toNat) 0,z.c.left,z.c.slots⟩,z.ov,z.us,⟨z.u.cost,z.u.adv,z.u.st,z.u.ld + ((1:Nat):Int),z.u.sl⟩⟩:CS):=⟨hB55,hF56,hK.sn,hF57,hK.on,hF58,hK.d⟩
            exact post_ret [4] rfl (.bool true) rfl ⟨_,_,rfl,hE55,hKr,z50_0,z50_1⟩
      ·
        refine q_eql false rfl rfl (decide_eq_false hc47) zN (lw_tvn 1 rfl (c_cond_f rfl (wp_seq (wp_plain _ [0,0] rfl ?_))))
        by_cases hc60:a.kind = ((4:Nat):Int)
        ·
          refine q_eql true rfl rfl (decide_eq_true hc60) zN (lw_tvn 1 rfl (c_cond_t rfl (wp_seq (wp_seq (wp_draw _ [0,0,0,1,0,0,0,1,0,0] mixed (by kernel_rfl) (lw_tv 1 rfl (q_nil rfl zN (q_fldP (p:=(.pointer (some ⟨g,0,none⟩))) (b:=g) (o:=0) 1 fd84_1 rfl rfl zN (q_load (p:=(padd (.pointer (some ⟨g,0,none⟩)) 1)) (.inl rfl) (.int .i64 z.c.at_) one2 rfl (hF3.ldp (i:=1) sM) zN (lw_tv 1 rfl (q_nil rfl zN (q_fldP (p:=(.pointer (some ⟨g,0,none⟩))) (b:=g) (o:=0) 0 fd84_0 rfl rfl zN (q_load (p:=(padd (.pointer (some ⟨g,0,none⟩)) 0)) (.inl rfl) (.int .i64 z.c.left) one2 rfl (hF3.ldp (i:=0) sM) zN ?_)))))))))))))
          refine q_sub (z.c.left - ((1:Nat):Int)) rfl rfl (w64 sD sD) zN ?_
          by_cases hc61:z.c.at_≠z.c.left - ((1:Nat):Int)
          ·
            refine q_neq true rfl rfl (decide_eq_true hc61) zN (lw_nil (c_cond_t rfl (wp_seq (wp_plain _ [0] rfl (lw_tvn 1 rfl (wp_ret (t_ret (b_ret (t_ret ?_)))))))))
            have hKr:ChK 2 w1.heap g gm vs vo Fs Fo (⟨⟨z.c.at_,z.c.left,z.c.slots⟩,z.ov,z.us,⟨z.u.cost,z.u.adv,z.u.st,z.u.ld,z.u.sl⟩⟩:CS):=⟨hF3,hF4,hK.sn,hF5,hK.on,hM6,hK.d⟩
            exact post_ret [4] rfl (.bool false) rfl ⟨_,_,rfl,hE1.drew,hKr,z50_0,z50_1⟩
          ·
            refine q_neq false rfl rfl (decide_eq_false hc61) zN (lw_nil (c_cond_f rfl (wp_skip (wp_plain _ [0,0,0,2,0,0,0,4] rfl (lw_tv 1 rfl (q_nil rfl zN (q_fldP (p:=(.pointer (some ⟨g,0,none⟩))) (b:=g) (o:=0) 0 fd84_0 rfl rfl zN (q_load (p:=(padd (.pointer (some ⟨g,0,none⟩)) 0)) (.inr rfl) (.int .i64 z.c.left) one2 rfl (hF3.ldp (i:=0) sM) zN ?_))))))))
            refine q_sub (z.c.left - ((1:Nat):Int)) rfl rfl (w64 sD sD) zN (q_nil rfl zN ?_)
            refine q_fldP (p:=(.pointer (some ⟨g,0,none⟩))) (b:=g) (o:=0) 0 fd84_0 rfl rfl zN (e_setB (k:=0) (w:=w1.drew) sz2 rfl rfl ⟨rfl,rfl⟩ hF3 sM zN fun w62 hC62 hz62 hB62=>?_)
            replace hB62:BX w62.heap g [(.int .i64 (z.c.left - ((1:Nat):Int))),(.int .i64 z.c.at_),vs,vo,(.int .i64 z.u.cost),(.int .i64 z.u.adv),(.int .i64 z.u.st),(.int .i64 z.u.ld),(.int .i64 z.u.sl),(.map (some gm))]:=hB62
            replace hC62:=hC62.of_drew
            have hzs62:w1.heap.size≤w62.heap.size:=hC62.size
            have hE62:Chg (ZL g gm Fs Fo) w w62:=hE1.trans (hC62.sub zl_g)
            have hF63:=owI_chg hF4 hC62 (fun b hb hm=>hK.d.gs ((List.mem_singleton.1 hm) ▸ hb))
            have hF64:=owI_chg hF5 hC62 (fun b hb hm=>hK.d.go ((List.mem_singleton.1 hm) ▸ hb))
            have hF65:=hM6.chg hC62 (fun hm=>hK.d.gm_ (List.mem_singleton.1 hm).symm)
            refine lw_nil (wp_seq (wp_plain _ [0] rfl (lw_tvn 1 rfl (wp_ret ?_))))
            have hKr:ChK 2 w62.heap g gm vs vo Fs Fo (⟨⟨z.c.at_,z.c.left - ((1:Nat):Int),z.c.slots⟩,z.ov,z.us,⟨z.u.cost,z.u.adv,z.u.st,z.u.ld,z.u.sl⟩⟩:CS):=⟨hB62,hF63,hK.sn,hF64,hK.on,hF65,hK.d⟩
            exact post_ret [4] rfl (.bool true) rfl ⟨_,_,rfl,hE62,hKr,z50_0,z50_1⟩
        ·
          refine q_eql false rfl rfl (decide_eq_false hc60) zN (lw_tvn 1 rfl (c_cond_f rfl (wp_skip (wp_seq (wp_plain _ [0] rfl (lw_tvn 1 rfl (wp_ret ?_)))))))
          have hKr:ChK 2 w1.heap g gm vs vo Fs Fo (⟨⟨z.c.at_,z.c.left,z.c.slots⟩,z.ov,z.us,⟨z.u.cost,z.u.adv,z.u.st,z.u.ld,z.u.sl⟩⟩:CS):=⟨hF3,hF4,hK.sn,hF5,hK.on,hM6,hK.d⟩
          exact post_ret [4] rfl (.bool true) rfl ⟨_,_,rfl,hE1,hKr,z50_0,z50_1⟩
end Go.Proofs.Ytoacbkmejjhceaa
namespace Go.Proofs.Ytoacbkmejjhceaa
open Go Go.RowKit
set_option linter.unusedVariables false
set_option linter.unusedSimpArgs false
set_option maxHeartbeats 4000000
set_option maxRecDepth 100000
attribute [local irreducible] LW
theorem c_impl_newChain (w:World) (n:Nat) (k:Nat) (_hn:n≤1000000000000) (_hk:k≤1000000000000) (hnk:n≤40∧k≤8) :
    Calls Try.prog 49 #[.int .i64 ((n:Nat):Int),.int .i64 ((k:Nat):Int)] w (fun e w'=>∃ (g gm:Nat) (vs vo:Value) (Fs Fo:List Nat),e = .returned (.pointer (some ⟨g,0,none⟩))∧Ext w w'∧ChK 2 w'.heap g gm vs vo Fs Fo (bgS n k)∧∀ b∈ZL g gm Fs Fo,w.heap.size≤b):=by
  refine calls_mk [.int .i64 ((n:Nat):Int),.int .i64 ((k:Nat):Int)] 26 Try.func49 rfl rfl sM ?_
  have hE0:Ext w w:=Ext.refl w
  refine wp_seq (wp_plain _ [0] rfl (lw_tvn 1 rfl (wp_seq (wp_plain _ [0,0,3,3,0,3,0] rfl (lw_tv 2 rfl (r_make (n:=n) u25 ti2 rfl rfl rfl sD zN fun v1 w1 hX1 hz1 hO1=>?_))))))
  have hzs1:w.heap.size≤w1.heap.size:=hX1.size
  have hE1:Ext w w1:=hE0.trans hX1
  refine r_map zN fun w2 hX2 hz2 hM2=>?_
  have hzs2:w1.heap.size≤w2.heap.size:=hX2.size
  have hE2:Ext w w2:=hE1.trans hX2
  have hO1x2:=hO1.ext (o1) hX2
  have hgm2:w1.heap.size < w2.heap.size:=hM2.lt
  have hbd3:∀ (v1:Value) (m3_0:Nat) (h3_0:isSl v1 m3_0) (wq:World),(Instr.build 84 #[(0,(.int .i64 ((n:Nat):Int))),(3,v1),(5,(.map (some w1.heap.size)))]).run Try.prog wq = .ok (.agg #[(.int .i64 ((n:Nat):Int)),(.int .i64 0),(.slice none 0 0),v1,(.int .i64 0),(.int .i64 0),(.int .i64 0),(.int .i64 0),(.int .i64 0),(.map (some w1.heap.size))]) wq:=by intro v1 m3_0 h3_0 wq; obtain ⟨a3_0,c3_0,rfl,_⟩:=h3_0; kernel_rfl
  refine q_build (ps:=#[(0,(.int .i64 ((n:Nat):Int))),(3,v1),(5,(.map (some w1.heap.size)))]) (.agg #[(.int .i64 ((n:Nat):Int)),(.int .i64 0),(.slice none 0 0),v1,(.int .i64 0),(.int .i64 0),(.int .i64 0),(.int .i64 0),(.int .i64 0),(.map (some w1.heap.size))]) (by simp only [List.map_toArray,List.map_cons,List.map_nil]; rfl) (fun wq=>hbd3 v1 _ hO1x2.isSl wq) zN (r_boxA (cs:=#[(.int .i64 ((n:Nat):Int)),(.int .i64 0),(.slice none 0 0),v1,(.int .i64 0),(.int .i64 0),(.int .i64 0),(.int .i64 0),(.int .i64 0),(.map (some w1.heap.size))]) rfl zN fun w4 hX4 hz4 hB4=>?_)
  have hzs4:w2.heap.size≤w4.heap.size:=hX4.size
  have hE4:Ext w w4:=hE2.trans hX4
  have hO1x4:=hO1x2.ext (o1) hX4
  have hM5:=hM2.ext hX4
  replace hB4:BX w4.heap w2.heap.size [(.int .i64 ((n:Nat):Int)),(.int .i64 0),(.slice none 0 0),v1,(.int .i64 0),(.int .i64 0),(.int .i64 0),(.int .i64 0),(.int .i64 0),(.map (some w1.heap.size))]:=hB4
  refine lw_tvn 1 rfl (wp_seq (wp_seq (wp_plain _ [0,0] rfl (lw_tvn 2 rfl (wp_block ?_)))))
  have hnl0:Fr (owL rI 2) w4.heap.size w4.heap.size w4.heap (.slice none 0 0) ([]:List Int):=frNilI
  have hmp0:=hM5
  refine c_loop (S:=Nat × Value) (fun (⟨j,vq⟩:Nat × Value)=>([(13,(.int .i64 ((j:Nat):Int))),(5,(.pointer (some ⟨w2.heap.size,0,none⟩))),(12,(.int .i64 ((k:Nat):Int)))]:List (Nat × Value))) (fun (⟨j,vq⟩:Nat × Value) (W:World)=>Ext w W∧Fr (owL rI 2) w4.heap.size W.heap.size W.heap vq (List.replicate j (-1))∧Fr (owL rI 2) w.heap.size w1.heap.size W.heap v1 (List.replicate n 0)∧BX W.heap w2.heap.size [(.int .i64 ((n:Nat):Int)),(.int .i64 0),vq,v1,(.int .i64 0),(.int .i64 0),(.int .i64 0),(.int .i64 0),(.int .i64 0),(.map (some w1.heap.size))]∧j≤k∧MapI W.heap w1.heap.size ([]:List Int)∧w2.heap.size < w4.heap.size∧w4.heap.size≤W.heap.size) (fun (⟨j,vq⟩:Nat × Value)=>k - j) (0,(.slice none 0 0)) ⟨rfl,rfl,rfl,trivial⟩ ⟨hE4,hnl0.up o1,hO1x4,hB4,oM,(by exact hmp0),oM,oM⟩ ?_
  clear hE0 hO1 hz1 hX1 hM2 hz2 hX2 hzs2 hE2 hO1x2 hz4 hX4 hO1x4 hM5
  rintro ⟨j,vq⟩ ρ7 w7 ⟨hE7,hL7_0,hL7_1,hL7_2,hp7_0,hmpl,hkg6,hkB8⟩
  have hzs7:w.heap.size≤w7.heap.size:=hE7.size
  have hq9:=hL7_2.lt
  refine wp_seq (wp_plain _ [0] rfl ?_)
  by_cases hc10:((j:Nat):Int) < ((k:Nat):Int)
  ·
    refine q_lss true rfl rfl (decide_eq_true hc10) zN (lw_nil (wp_seq (c_cond_t rfl (wp_skip (wp_seq (wp_block (wp_plain _ [0,0,0,0,2,3,4,0,0,4] rfl (lw_tv 2 rfl (q_nil rfl zN (q_fldP (p:=(.pointer (some ⟨w2.heap.size,0,none⟩))) (b:=w2.heap.size) (o:=0) 2 fd84_2 rfl rfl zN (q_load (p:=(padd (.pointer (some ⟨w2.heap.size,0,none⟩)) 2)) (.inr rfl) vq one25 rfl (hL7_2.ldp (i:=2) sM) zN (r_one (u:=(.int .i64 (-1))) (B:=w7.heap.size) good_rI u25 ti2 rfl rfl (frI w7.heap.size w7.heap.size _ _ oM) (Nat.le_refl _) zN fun v11 w11 hX11 hz11 hO11=>?_))))))))))))
    have hzs11:w7.heap.size≤w11.heap.size:=hX11.size
    have hE11:Ext w w11:=hE7.trans hX11
    have hL7_0x11:=hL7_0.ext (o1) hX11
    have hL7_1x11:=hL7_1.ext (o1) hX11
    have hL7_2x11:=hL7_2.ext hX11
    have hM12:=hmpl.ext hX11
    refine e_appI (v:=vq) (a:=v11) u25 ti2 rfl rfl rfl hL7_0x11 oM hO11.rd1 sD (by unfold maxLen; first | omega | assumption | (simp only [List.length_nil,List.length_cons,List.length_append,List.length_set,List.length_replicate]; omega) | (simp [List.length_nil,List.length_cons,List.length_append,List.length_set,List.length_replicate]; done) | (simp [List.length_nil,List.length_cons,List.length_append,List.length_set,List.length_replicate]; omega)) zN fun v13 w13 F13 hC13 hF13 hO13=>?_
    have hE13:Ext w w13:=hC13.below hE11 (fun c hc=>Nat.le_trans hE4.size (hF13 c hc).1) hE11.size
    have hzs13:w11.heap.size≤w13.heap.size:=hC13.size
    have hM14:=hM12.chg hC13 (fun hm=>by have:=hF13 _ hm; omega)
    have hF15:=hL7_1x11.chg (o1) hC13 (fun c hc=>by have:=hF13 c hc; omega)
    have hF16:=hL7_2x11.chg hC13 (fun hm=>by have:=hF13 _ hm; omega)
    refine q_nil rfl zN (q_fldP (p:=(.pointer (some ⟨w2.heap.size,0,none⟩))) (b:=w2.heap.size) (o:=0) 2 fd84_2 rfl rfl zN (e_setB (k:=2) (w:=w13) sz25 rfl rfl (isSl_one hO13.isSl) hF16 sM zN fun w18 hC18 hz18 hB18=>?_))
    replace hB18:BX w18.heap w2.heap.size [(.int .i64 ((n:Nat):Int)),(.int .i64 0),v13,v1,(.int .i64 0),(.int .i64 0),(.int .i64 0),(.int .i64 0),(.int .i64 0),(.map (some w1.heap.size))]:=hB18
    have hzs18:w13.heap.size≤w18.heap.size:=hC18.size
    have hE18:Ext w w18:=hC18.below hE13 (fun c hc=>by have:=List.mem_singleton.1 hc; omega) hE13.size
    have hF19:=hF15.chg (o1) hC18 (fun c hc=>by have:=List.mem_singleton.1 hc; omega)
    have hF21:=hO13.chg (o1) hC18 (fun c hc=>by have:=List.mem_singleton.1 hc; omega)
    have hM22:=hM14.chg hC18 (fun hm=>by have:=List.mem_singleton.1 hm; omega)
    refine lw_nil (wp_plain _ [0,0] rfl (q_add ((j + 1:Nat):Int) rfl rfl (w64n oM oM) zN (lw_tvn 1 rfl ?_)))
    have hmpe:=hM22
    exact ⟨((j + 1),v13),_,rfl,⟨rfl,rfl,rfl,trivial⟩,⟨hE18,(by rw [List.replicate_succ']; exact hF21.up o1),hF19,hB18,oM,(by exact hmpe),oM,oM⟩,by first | omega | (dsimp only; omega)⟩
  ·
    refine q_lss false rfl rfl (decide_eq_false hc10) zN (lw_nil (wp_seq (c_cond_f rfl (wp_exit (t_exit (t_exit (c_exit_here (wp_seq (wp_plain _ [0,0] rfl (lw_tvn 2 rfl (wp_ret ?_)))))))))))
    obtain ⟨Fs9,Fo9,hK9,hl9⟩:=chk_new (u:=Us.zero) (B:=w.heap.size) hL7_2 hL7_1 hL7_0 hmpl oM oM oM oM oM
    exact post_ret [4] rfl (.pointer (some ⟨w2.heap.size,0,none⟩)) rfl ⟨_,_,_,_,Fs9,Fo9,rfl,hE7,(by have h9:=hK9; rw [show j = k from by omega] at h9; exact h9),hl9⟩
theorem c_impl_firstBad (w:World) (va:Value) (l:List Av) (n:Nat) (k:Nat) (hl:RN [] (rdS 2 rAv) w.heap va l) (_hn:n≤1000000000000) (_hk:k≤1000000000000) (hnk:n≤40∧k≤8) (hll:l.length≤400) (havl:∀ i,i < l.length→avK (l.getD i Av.zero)) :
    Calls Try.prog 32 #[va,.int .i64 ((n:Nat):Int),.int .i64 ((k:Nat):Int)] w (fun e w'=>∃ (g gm:Nat) (vs vo:Value) (Fs Fo:List Nat) (z:CS),e = .returned (.tuple #[.pointer (some ⟨g,0,none⟩),.int .i64 (fbS l (bgn ((n:Nat):Int) k) 0)])∧Ext w w'∧ChK 2 w'.heap g gm vs vo Fs Fo z∧(∀ b∈ZL g gm Fs Fo,w.heap.size≤b)∧(fbS l (bgn ((n:Nat):Int) k) 0 = -1→z = rnC l (bgS n k)∧CsB ((n:Nat):Int) l.length z)):=by
  refine calls_mk [va,.int .i64 ((n:Nat):Int),.int .i64 ((k:Nat):Int)] 37 Try.func32 rfl rfl sM ?_
  have hE0:Ext w w:=Ext.refl w
  refine wp_seq (wp_plain _ [0,0] rfl (lw_tvn 2 rfl (wp_seq (wp_plain _ [0,0,3,0] rfl (lw_tv 2 rfl (lw_call 49 [] [] [(.int .i64 ((n:Nat):Int)),(.int .i64 ((k:Nat):Int))] rfl rfl cf49 zN (c_impl_newChain _ n k oM oM oM) ?_))))))
  rintro e1 w1 ⟨g,gm,vs,vo,Fs,Fo,rfl,hX1,hK,hlow⟩
  refine ⟨_,rfl,hX1,?_⟩
  have hzs1:w.heap.size≤w1.heap.size:=hX1.size
  have hE1:Ext w w1:=hE0.trans hX1
  refine lw_tvn 1 rfl (wp_seq (wp_seq (wp_plain _ [0,0,0] rfl (lw_tv 1 rfl (q_len (v:=va) u24 rfl hl.isSl zN (lw_tvn 1 rfl (wp_block ?_)))))))
  have hK0:=hK
  refine c_loop (S:=Nat × CS) (fun (⟨i,z⟩:Nat × CS)=>([(16,(.int .i64 ((i:Nat):Int))),(0,va),(8,(.pointer (some ⟨g,0,none⟩))),(14,va),(15,(.int .i64 ((l.length:Nat):Int)))]:List (Nat × Value))) (fun (⟨i,z⟩:Nat × CS) (W:World)=>Ext w W∧i≤l.length∧ChK 2 W.heap g gm vs vo Fs Fo z∧z = rnC (l.take i) (bgS n k)∧CsB ((n:Nat):Int) i z∧fbS (l.drop i) z.c ((i:Nat):Int) = fbS l (bgn ((n:Nat):Int) k) 0) (fun (⟨i,z⟩:Nat × CS)=>l.length - i) (0,bgS n k) ⟨rfl,rfl,rfl,rfl,rfl,trivial⟩ ⟨hE1,oM,(by exact hK0),(by rfl),(by exact bg_b oM k rfl),(by rfl)⟩ ?_
  clear hE0 hX1 hzs1 hE1
  rintro ⟨i,z⟩ ρ2 w2 ⟨hE2,hp2_0,hKl,hzl,hBl,hfl⟩
  have hzs2:w.heap.size≤w2.heap.size:=hE2.size
  refine wp_seq (wp_plain _ [0] rfl ?_)
  by_cases hc3:((i:Nat):Int) < ((l.length:Nat):Int)
  ·
    refine q_lss true rfl rfl (decide_eq_true hc3) zN (lw_nil (wp_seq (c_cond_t rfl (wp_skip (wp_seq (wp_block (wp_seq (wp_plain _ [0,0,2,3,0,4] rfl (lw_tv 1 rfl (q_idx (v:=va) i u24 tiS56 rfl rfl hl.isSl rfl sD zN ?_))))))))))
    obtain ⟨cs4,hr4,hl4⟩:=hl.get good_rAv Av.zero (k:=i) sD
    obtain ⟨rfl,hx4⟩:=rn_av hr4
    refine q_loadA (p:=eptr va i 2) (.inr rfl) [(.int .i64 ((l.getD i Av.zero).kind)),(.int .i64 ((l.getD i Av.zero).arg))] agg56 rfl (fun wq9 hw9=>hl4 wq9 (Chg.of_ext [] (hE2.trans hw9))) rfl zN (r_allocA (z:=.agg #[.int .i64 0,.int .i64 0]) zr56 zN fun w5 hX5 hz5 hB5=>?_)
    have hzs5:w2.heap.size≤w5.heap.size:=hX5.size
    have hE5:Ext w w5:=hE2.trans hX5
    have hKx6:=hKl.ext hX5
    replace hB5:BX w5.heap w2.heap.size [(.int .i64 0),(.int .i64 0)]:=hB5
    refine lw_tv 1 rfl (e_setA (vs:=[(.int .i64 ((l.getD i Av.zero).kind)),(.int .i64 ((l.getD i Av.zero).arg))]) agg56 rfl rfl (by intro u hu; simp only [List.mem_cons,List.not_mem_nil,or_false] at hu; rcases hu with rfl | rfl <;> first | exact ⟨rfl,rfl⟩) hB5 rfl rfl zN fun w7 hC7 hz7 hB7=>?_)
    replace hB7:BX w7.heap w2.heap.size [(.int .i64 ((l.getD i Av.zero).kind)),(.int .i64 ((l.getD i Av.zero).arg))]:=hB7
    have hE7:Ext w w7:=hC7.below hE5 (fun c hc=>by have:=List.mem_singleton.1 hc; omega) hE5.size
    have hzs7:w5.heap.size≤w7.heap.size:=hC7.size
    have hKx8:=hKx6.chg hC7 (fun b hb hm=>by have h91:=hlow b hb; have h92:=hKl.lt b hb; have h93:=List.mem_singleton.1 hm; omega)
    refine lw_nil (wp_seq (wp_plain _ [0,2,4,0] rfl (lw_tv 1 rfl (q_loadA (p:=(.pointer (some ⟨w2.heap.size,0,none⟩))) (.inr rfl) [(.int .i64 ((l.getD i Av.zero).kind)),(.int .i64 ((l.getD i Av.zero).arg))] agg56 rfl (fun wq9 hw9=>LD.of_box (BX.ext (w:=w7) hB7 hw9)) rfl zN (lw_callE 50 [] [] [(.pointer (some ⟨g,0,none⟩)),(.agg #[(.int .i64 ((l.getD i Av.zero).kind)),(.int .i64 ((l.getD i Av.zero).arg))])] rfl rfl cf50 zN (c_impl_chain_take _ g gm vs vo Fs Fo z ((n:Nat):Int) i (l.getD i Av.zero) hKx8 ⟨hx4.1,hx4.2⟩ (by exact hBl) oM (by exact havl i oM)) ?_)))))
    rintro e9 w9 ⟨z9,b9,rfl,hC9,hK9,hb9,hs9⟩
    refine ⟨_,rfl,?_⟩
    have hzs9:w7.heap.size≤w9.heap.size:=hC9.size
    have hE9:Ext w w9:=hC9.below hE7 hlow hE7.size
    refine q_not (!b9) rfl rfl zN (lw_nil ?_)
    cases hb10:(!b9)
    ·
      refine c_cond_f (by first | rfl | (show Value.bool _ = _; rw [hb10])) (wp_skip (wp_plain _ [0,0] rfl (q_add ((i + 1:Nat):Int) rfl rfl (w64n oM oM) zN (lw_tvn 1 rfl ?_))))
      have hKe:=hK9
      have hbt:=(show b9 = true from by have h8:(!b9) = false:=(by assumption); simpa using h8)
      have hse:=hs9 hbt
      have hbb:=hb9
      exact ⟨((i + 1),z9),_,rfl,⟨rfl,rfl,rfl,rfl,rfl,trivial⟩,⟨hE9,oM,(by exact hKe),(by rw [hse,hzl]; exact (rnC_next oM).symm),(by rw [hse]; exact hBl.stpS (havl i oM) (by rw [← hbb,hbt])),(by rw [hse,← hfl]; have h9:=(fb_step (l:=l) (i:=i) (c:=z.c) oM (by rw [← hbb,hbt]) ((i:Nat):Int)).symm; rw [show ((i:Nat):Int) + 1 = ((i + 1:Nat):Int) from by omega] at h9; exact h9)⟩,by first | omega | (dsimp only; omega)⟩
    ·
      exact c_cond_t (by first | rfl | (show Value.bool _ = _; rw [hb10])) (wp_seq (wp_plain _ [0,0,0,0] rfl (lw_tvn 4 rfl (wp_ret (b_ret (t_ret (t_ret (b_ret (t_ret (post_ret [6,7] rfl (.tuple #[(.pointer (some ⟨g,0,none⟩)),(.int .i64 ((i:Nat):Int))]) rfl ⟨_,_,_,_,_,_,_,(by rw [← hfl,fb_stop oM (by rw [← hb9]; (have h8:(!b9) = true:=(by assumption)); simpa using h8)]),hE9,hK9,hlow,(by intro h9; rw [← hfl,fb_stop oM (by rw [← hb9]; (have h8:(!b9) = true:=(by assumption)); simpa using h8)] at h9; omega)⟩))))))))))
  ·
    refine q_lss false rfl rfl (decide_eq_false hc3) zN (lw_nil (wp_seq (c_cond_f rfl (wp_exit (t_exit (t_exit (c_exit_here (wp_seq (wp_seq (wp_plain _ [0,0,0,2,0] rfl ?_))))))))))
    have hle:=hBl.k
    have hl0:=hle.l0
    have hln:=hle.ln
    refine lw_tv 1 rfl (q_nilP ⟨_,_,rfl⟩ rfl zN (q_fldP (p:=(.pointer (some ⟨g,0,none⟩))) (b:=g) (o:=0) 0 fd84_0 rfl rfl zN (q_load (p:=(padd (.pointer (some ⟨g,0,none⟩)) 0)) (.inr rfl) (.int .i64 z.c.left) one2 rfl ((hKl.bx).ldp (i:=0) sM) zN ?_)))
    by_cases hc11:((0:Nat):Int) < z.c.left
    ·
      exact q_gtr true rfl rfl (decide_eq_true hc11) zN (lw_nil (c_cond_t rfl (wp_seq (wp_plain _ [0,0,0,0,0] rfl (lw_tv 2 rfl (q_len (v:=va) u24 rfl hl.isSl zN (lw_tvn 2 rfl (wp_ret (t_ret (post_ret [6,7] rfl (.tuple #[(.pointer (some ⟨g,0,none⟩)),(.int .i64 ((l.length:Nat):Int))]) rfl ⟨_,_,_,_,_,_,_,(by rw [← hfl,fb_end oM,if_pos oM,show i = l.length from by omega]),hE2,hKl,hlow,(by intro h9; rw [← hfl,fb_end oM,if_pos oM] at h9; omega)⟩))))))))))
    ·
      exact q_gtr false rfl rfl (decide_eq_false hc11) zN (lw_nil (c_cond_f rfl (wp_skip (wp_seq (wp_plain _ [0,0,0] rfl (lw_tvn 3 rfl (wp_ret (post_ret [6,7] rfl (.tuple #[(.pointer (some ⟨g,0,none⟩)),(.int .i64 (-1))]) rfl ⟨_,_,_,_,_,_,_,(by rw [← hfl,fb_end oM,if_neg oM]),hE2,hKl,hlow,(by intro _; rw [show l.length = i from by omega]; exact ⟨by rw [hzl,List.take_of_length_le oM],hBl⟩)⟩))))))))
end Go.Proofs.Ytoacbkmejjhceaa
namespace Go.Proofs.Ytoacbkmejjhceaa
open Go Go.RowKit
set_option linter.unusedVariables false
set_option linter.unusedSimpArgs false
set_option maxHeartbeats 4000000
set_option maxRecDepth 100000
attribute [local irreducible] LW
theorem z43_0 {p:Prop} (h:p:=by first | exact ret_bool (by unfold avB; rw [if_pos oM]; rfl) | exact ret_bool (by unfold avB; rw [if_neg oM,if_pos oM]; rfl) | exact ret_bool (by unfold avB; rw [if_neg oM,if_neg oM,decide_eq_true (show a.kind = 4 by omega)]; rfl) | exact ret_bool (by unfold avB; rw [if_neg oM,if_neg oM,decide_eq_false (show ¬ a.kind = 4 by omega)]; rfl)):p:=h
theorem c_impl_isAction (w:World) (a:Av) (ha:i64 a.kind∧i64 a.arg)  :
    Calls Try.prog 43 #[(.agg #[(.int .i64 a.kind),(.int .i64 a.arg)])] w (fun e w'=>e = .returned (.bool (avB a))∧Ext w w'):=by
  refine calls_mk [(.agg #[(.int .i64 a.kind),(.int .i64 a.arg)])] 21 Try.func43 rfl rfl sM ?_
  have hE0:Ext w w:=Ext.refl w
  refine wp_seq (wp_plain _ [3,0] rfl (r_boxA (cs:=#[(.int .i64 a.kind),(.int .i64 a.arg)]) rfl zN fun w1 hX1 hz1 hB1=>?_))
  have hzs1:w.heap.size≤w1.heap.size:=hX1.size
  have hE1:Ext w w1:=hE0.trans hX1
  replace hB1:BX w1.heap w.heap.size [(.int .i64 a.kind),(.int .i64 a.arg)]:=hB1
  refine lw_tvn 1 rfl (wp_seq (wp_seq (wp_plain _ [0,2] rfl (q_fldP (p:=(.pointer (some ⟨w.heap.size,0,none⟩))) (b:=w.heap.size) (o:=0) 0 fd56_0 rfl rfl zN (q_load (p:=(padd (.pointer (some ⟨w.heap.size,0,none⟩)) 0)) (.inr rfl) (.int .i64 a.kind) one2 rfl (hB1.ldp (i:=0) sM) zN (lw_nil (wp_block (wp_seq (wp_plain _ [0,0] rfl ?_)))))))))
  by_cases hc2:a.kind = ((1:Nat):Int)
  ·
    refine q_eql true rfl rfl (decide_eq_true hc2) zN (lw_tvn 1 rfl (c_cond_t rfl (wp_seq (wp_plain _ [0,2,0,0] rfl (q_fldP (p:=(.pointer (some ⟨w.heap.size,0,none⟩))) (b:=w.heap.size) (o:=0) 1 fd56_1 rfl rfl zN (q_load (p:=(padd (.pointer (some ⟨w.heap.size,0,none⟩)) 1)) (.inr rfl) (.int .i64 a.arg) one2 rfl (hB1.ldp (i:=1) sM) zN (lw_callq 46 [] [] [(.int .i64 a.arg),(.int .i64 ((1:Nat):Int)),(.int .i64 ((40:Nat):Int))] rfl rfl cf46 zN (.bool (decide (((1:Nat):Int)≤a.arg) && decide (a.arg≤((40:Nat):Int)))) (fun wq=>c_impl_within wq _ _ _ ha.2 oM oM) (lw_tvn 1 rfl (wp_ret (b_ret (t_ret ?_)))))))))))
    exact post_ret [2] rfl (.bool (decide (((1:Nat):Int)≤a.arg) && decide (a.arg≤((40:Nat):Int)))) rfl ⟨z43_0,hE1⟩
  ·
    refine q_eql false rfl rfl (decide_eq_false hc2) zN (lw_tvn 1 rfl (c_cond_f rfl (wp_seq (wp_seq (wp_plain _ [0,0] rfl ?_)))))
    by_cases hc4:a.kind = ((2:Nat):Int)
    ·
      refine q_eql true rfl rfl (decide_eq_true hc4) zN (lw_tvn 1 rfl (c_cond_t rfl (wp_skip (c_cond_t rfl (wp_seq (wp_plain _ [0,2,0,0] rfl (q_fldP (p:=(.pointer (some ⟨w.heap.size,0,none⟩))) (b:=w.heap.size) (o:=0) 1 fd56_1 rfl rfl zN (q_load (p:=(padd (.pointer (some ⟨w.heap.size,0,none⟩)) 1)) (.inr rfl) (.int .i64 a.arg) one2 rfl (hB1.ldp (i:=1) sM) zN (lw_callq 46 [] [] [(.int .i64 a.arg),(.int .i64 ((0:Nat):Int)),(.int .i64 ((7:Nat):Int))] rfl rfl cf46 zN (.bool (decide (((0:Nat):Int)≤a.arg) && decide (a.arg≤((7:Nat):Int)))) (fun wq=>c_impl_within wq _ _ _ ha.2 oM oM) (lw_tvn 1 rfl (wp_ret (b_ret (t_ret ?_)))))))))))))
      exact post_ret [2] rfl (.bool (decide (((0:Nat):Int)≤a.arg) && decide (a.arg≤((7:Nat):Int)))) rfl ⟨z43_0,hE1⟩
    ·
      refine q_eql false rfl rfl (decide_eq_false hc4) zN (lw_tvn 1 rfl (c_cond_f rfl (wp_plain _ [0,0] rfl ?_)))
      by_cases hc6:a.kind = ((3:Nat):Int)
      ·
        refine q_eql true rfl rfl (decide_eq_true hc6) zN (lw_tvn 1 rfl (c_cond_t rfl (wp_seq (wp_plain _ [0,2,0,0] rfl (q_fldP (p:=(.pointer (some ⟨w.heap.size,0,none⟩))) (b:=w.heap.size) (o:=0) 1 fd56_1 rfl rfl zN (q_load (p:=(padd (.pointer (some ⟨w.heap.size,0,none⟩)) 1)) (.inr rfl) (.int .i64 a.arg) one2 rfl (hB1.ldp (i:=1) sM) zN (lw_callq 46 [] [] [(.int .i64 a.arg),(.int .i64 ((0:Nat):Int)),(.int .i64 ((7:Nat):Int))] rfl rfl cf46 zN (.bool (decide (((0:Nat):Int)≤a.arg) && decide (a.arg≤((7:Nat):Int)))) (fun wq=>c_impl_within wq _ _ _ ha.2 oM oM) (lw_tvn 1 rfl (wp_ret (b_ret (t_ret ?_)))))))))))
        exact post_ret [2] rfl (.bool (decide (((0:Nat):Int)≤a.arg) && decide (a.arg≤((7:Nat):Int)))) rfl ⟨z43_0,hE1⟩
      ·
        refine q_eql false rfl rfl (decide_eq_false hc6) zN (lw_tvn 1 rfl (c_cond_f rfl (wp_seq (wp_plain _ [0,0] rfl ?_))))
        by_cases hc8:a.kind = ((4:Nat):Int)
        ·
          refine q_eql true rfl rfl (decide_eq_true hc8) zN (lw_tvn 1 rfl (c_cond_t rfl (wp_seq (wp_plain _ [0,2,0,0] rfl (q_fldP (p:=(.pointer (some ⟨w.heap.size,0,none⟩))) (b:=w.heap.size) (o:=0) 1 fd56_1 rfl rfl zN (q_load (p:=(padd (.pointer (some ⟨w.heap.size,0,none⟩)) 1)) (.inr rfl) (.int .i64 a.arg) one2 rfl (hB1.ldp (i:=1) sM) zN (q_eql (decide (a.arg = ((0:Nat):Int))) rfl rfl rfl zN (lw_tvn 1 rfl (wp_ret (b_ret (t_ret ?_)))))))))))
          exact post_ret [2] rfl (.bool (decide (a.arg = ((0:Nat):Int)))) rfl ⟨z43_0,hE1⟩
        ·
          exact q_eql false rfl rfl (decide_eq_false hc8) zN (lw_tvn 1 rfl (c_cond_f rfl (wp_skip (wp_seq (wp_plain _ [0] rfl (lw_tvn 1 rfl (wp_ret (post_ret [2] rfl (.bool false) rfl ⟨z43_0,hE1⟩))))))))
theorem c_impl_ValidSchedule_1 (w:World) (a:Av) (ha:i64 a.kind∧i64 a.arg)  :
    Calls Try.prog 42 #[(.agg #[(.int .i64 a.kind),(.int .i64 a.arg)])] w (fun e w'=>e = .returned (.bool (!avB a))∧Ext w w'):=by
  refine calls_mk [(.agg #[(.int .i64 a.kind),(.int .i64 a.arg)])] 6 Try.func42 rfl rfl sM ?_
  have hE0:Ext w w:=Ext.refl w
  refine wp_seq (wp_plain _ [3,0] rfl (r_boxA (cs:=#[(.int .i64 a.kind),(.int .i64 a.arg)]) rfl zN fun w1 hX1 hz1 hB1=>?_))
  have hzs1:w.heap.size≤w1.heap.size:=hX1.size
  have hE1:Ext w w1:=hE0.trans hX1
  replace hB1:BX w1.heap w.heap.size [(.int .i64 a.kind),(.int .i64 a.arg)]:=hB1
  refine lw_tvn 1 rfl (wp_seq (wp_plain _ [2,3,0,0] rfl (q_loadA (p:=(.pointer (some ⟨w.heap.size,0,none⟩))) (.inr rfl) [(.int .i64 a.kind),(.int .i64 a.arg)] agg56 rfl (fun wq9 hw9=>LD.of_box (BX.ext (w:=w1) hB1 hw9)) rfl zN (lw_call 43 [] [] [(.agg #[(.int .i64 a.kind),(.int .i64 a.arg)])] rfl rfl cf43 zN (c_impl_isAction _ a ⟨ha.1,ha.2⟩) ?_))))
  rintro e2 w2 ⟨rfl,hX2⟩
  refine ⟨_,rfl,hX2,?_⟩
  have hzs2:w1.heap.size≤w2.heap.size:=hX2.size
  have hE2:Ext w w2:=hE1.trans hX2
  have hB1x2:=hB1.ext hX2
  exact q_not (!(avB a)) rfl rfl zN (lw_tvn 1 rfl (wp_ret (post_ret [2] rfl (.bool (!(avB a))) rfl ⟨rfl,hE2⟩)))
theorem c_slices_IndexFunc___impl_Action_impl_Action_ (w:World) (va:Value) (l:List Av) (q:Nat) (qf qc:List Value) (pr:Av→Bool) (hl:RN [] (rdS 2 rAv) w.heap va l) (hcf_q:((Try.prog.funcs[q]?).map fun fn=>(fn.name != "runtime.NumGoroutine") && fn.body.isSome) = some true) (hpr:∀ (x:Av) w1,avR x→Ext w w1→Calls Try.prog q (qf++[Value.agg #[Value.int .i64 x.kind,Value.int .i64 x.arg]]++qc).toArray w1 (fun e w2=>e = .returned (.bool (pr x))∧Ext w1 w2)) (hll:l.length≤1000000000) :
    Calls Try.prog 53 #[va,.func (.func q) qf.toArray qc.toArray] w (fun e w'=>e = .returned (.int .i64 (ixF pr l))∧Ext w w'):=by
  refine calls_mk [va,.func (.func q) qf.toArray qc.toArray] 19 Try.func53 rfl rfl sM ?_
  have hE0:Ext w w:=Ext.refl w
  refine wp_seq (wp_plain _ [0] rfl (lw_tvn 1 rfl (wp_seq (wp_seq (wp_plain _ [0,0,0] rfl (lw_tv 1 rfl (q_len (v:=va) u24 rfl hl.isSl zN (lw_tvn 1 rfl (wp_block ?_)))))))))
  refine c_loop (S:=Nat) (fun (k:Nat)=>([(8,(.int .i64 ((k:Nat):Int))),(0,va),(1,(.func (.func q) qf.toArray qc.toArray)),(7,(.int .i64 ((l.length:Nat):Int)))]:List (Nat × Value))) (fun (k:Nat) (W:World)=>Ext w W∧k≤l.length∧(∀ j,j < k→pr (l.getD j Av.zero) = false)) (fun (k:Nat)=>l.length - k) 0 ⟨rfl,rfl,rfl,rfl,trivial⟩ ⟨hE0,sD,(by intro j hj; omega)⟩ ?_
  clear hE0
  rintro k ρ1 w1 ⟨hE1,hp1_0,hq⟩
  have hzs1:w.heap.size≤w1.heap.size:=hE1.size
  refine wp_seq (wp_plain _ [0] rfl ?_)
  by_cases hc2:((k:Nat):Int) < ((l.length:Nat):Int)
  ·
    refine q_lss true rfl rfl (decide_eq_true hc2) zN (lw_nil (wp_seq (c_cond_t rfl (wp_skip (wp_seq (wp_block (wp_seq (wp_plain _ [0,0] rfl (lw_tvn 2 rfl (wp_seq (wp_plain _ [0,0,0,0,2,3] rfl (lw_tv 3 rfl (q_idx (v:=va) k u24 tiS56 rfl rfl hl.isSl rfl sD zN ?_)))))))))))))
    obtain ⟨cs3,hr3,hl3⟩:=hl.get good_rAv Av.zero (k:=k) sD
    obtain ⟨rfl,hx3⟩:=rn_av hr3
    refine q_loadA (p:=eptr va k 2) (.inr rfl) [(.int .i64 ((l.getD k Av.zero).kind)),(.int .i64 ((l.getD k Av.zero).arg))] agg56 rfl (fun wq9 hw9=>hl3 wq9 (Chg.of_ext [] (hE1.trans hw9))) rfl zN ?_
    have hcall4:=hpr (l.getD k Av.zero) w1 ⟨hx3.1,hx3.2⟩ hE1
    refine lw_call q qf qc _ rfl rfl hcf_q zN hcall4 ?_
    rintro e4 w4 ⟨rfl,hX4⟩
    refine ⟨_,rfl,hX4,?_⟩
    have hzs4:w1.heap.size≤w4.heap.size:=hX4.size
    have hE4:Ext w w4:=hE1.trans hX4
    cases hc4:pr (l.getD k Av.zero)
    ·
      refine lw_nil (c_cond_f rfl (wp_skip (wp_plain _ [0,0] rfl (q_add ((k + 1:Nat):Int) rfl rfl (w64n oM sD) zN (lw_tvn 1 rfl ?_)))))
      exact ⟨(k + 1),_,rfl,⟨rfl,rfl,rfl,rfl,trivial⟩,⟨hE4,sD,(by exact ix_step hq (by assumption))⟩,by first | omega | (dsimp only; omega)⟩
    ·
      exact lw_nil (c_cond_t rfl (wp_seq (wp_plain _ [0,0] rfl (lw_tvn 2 rfl (wp_ret (b_ret (t_ret (t_ret (b_ret (t_ret (post_ret [4] rfl (.int .i64 ((k:Nat):Int)) rfl ⟨(ret_int (ix_yes Av.zero hq oM (by assumption))),hE4⟩)))))))))))
  ·
    exact q_lss false rfl rfl (decide_eq_false hc2) zN (lw_nil (wp_seq (c_cond_f rfl (wp_exit (t_exit (t_exit (c_exit_here (wp_seq (wp_plain _ [0] rfl (lw_tvn 1 rfl (wp_ret (post_ret [4] rfl (.int .i64 (-1)) rfl ⟨(ret_int (ix_no Av.zero hq oM)),hE1⟩))))))))))))
theorem c_slices_ContainsFunc___impl_Action_impl_Action_ (w:World) (va:Value) (l:List Av) (q:Nat) (qf qc:List Value) (pr:Av→Bool) (hl:RN [] (rdS 2 rAv) w.heap va l) (hcf_q:((Try.prog.funcs[q]?).map fun fn=>(fn.name != "runtime.NumGoroutine") && fn.body.isSome) = some true) (hpr:∀ (x:Av) w1,avR x→Ext w w1→Calls Try.prog q (qf++[Value.agg #[Value.int .i64 x.kind,Value.int .i64 x.arg]]++qc).toArray w1 (fun e w2=>e = .returned (.bool (pr x))∧Ext w1 w2)) (hll:l.length≤1000000000) :
    Calls Try.prog 41 #[va,.func (.func q) qf.toArray qc.toArray] w (fun e w'=>e = .returned (.bool (l.any pr))∧Ext w w'):=by
  refine calls_mk [va,.func (.func q) qf.toArray qc.toArray] 9 Try.func41 rfl rfl sM ?_
  have hE0:Ext w w:=Ext.refl w
  refine wp_seq (wp_plain _ [0] rfl (lw_tvn 1 rfl (wp_seq (wp_plain _ [0,0,3,0,0] rfl (lw_tv 2 rfl (lw_call 53 [] [] [va,(.func (.func q) qf.toArray qc.toArray)] rfl rfl cf53 zN (c_slices_IndexFunc___impl_Action_impl_Action_ _ va l q qf qc pr (hl.ext (good_rdS good_rAv) hE0) hcf_q (fun x w1 hx hw=>hpr x w1 hx (hE0.trans hw)) oM) ?_))))))
  rintro e1 w1 ⟨rfl,hX1⟩
  refine ⟨_,rfl,hX1,?_⟩
  have hzs1:w.heap.size≤w1.heap.size:=hX1.size
  have hE1:Ext w w1:=hE0.trans hX1
  exact q_geq (decide (((0:Nat):Int)≤ixF pr l)) rfl rfl rfl zN (lw_tvn 1 rfl (wp_ret (post_ret [4] rfl (.bool (decide (((0:Nat):Int)≤ixF pr l))) rfl ⟨(ret_bool (ix_ge pr l)),hE1⟩)))
theorem z24_0 {p:Prop} (h:p:=by first | exact ret_bool (schB_big oM) | exact ret_bool (schB_any oM) | (unfold schB; simp [*]; done)):p:=h
theorem c_impl_ValidSchedule (w:World) (va:Value) (l:List Av) (hl:RN [] (rdS 2 rAv) w.heap va l)  :
    Calls Try.prog 24 #[va] w (fun e w'=>e = .returned (.bool (schB l))∧Ext w w'):=by
  refine calls_mk [va] 11 Try.func24 rfl rfl sM ?_
  have hE0:Ext w w:=Ext.refl w
  refine wp_seq (wp_plain _ [0] rfl (lw_tvn 1 rfl (wp_seq (wp_plain _ [0,0,0,0,0,3,0,0,0] rfl (lw_tv 1 rfl (q_len (v:=va) u24 rfl hl.isSl zN ?_))))))
  by_cases hc1:((l.length:Nat):Int)≤((400:Nat):Int)
  ·
    refine q_leq true rfl rfl (decide_eq_true hc1) zN (lw_tv 2 rfl (lw_call 41 [] [] [va,(.func (.func 42) #[] #[])] rfl rfl cf41 (zS (e:=6) rfl rfl rfl) (c_slices_ContainsFunc___impl_Action_impl_Action_ _ va l 42 [] [] (fun a=>!avB a) (hl.ext (good_rdS good_rAv) hE0) cf42 (fun x w1 hx hw=>c_impl_ValidSchedule_1 w1 x ⟨hx.1,hx.2⟩) oM) ?_))
    rintro e2 w2 ⟨rfl,hX2⟩
    refine ⟨_,rfl,hX2,?_⟩
    have hzs2:w.heap.size≤w2.heap.size:=hX2.size
    have hE2:Ext w w2:=hE0.trans hX2
    exact q_not (!(l.any (fun a=>!avB a))) rfl rfl (zS (e:=6) rfl rfl rfl) (lw_tvn 2 rfl (wp_ret (post_ret [2] rfl (.bool (!(l.any (fun a=>!avB a)))) rfl ⟨z24_0,hE2⟩)))
  ·
    exact q_leq false rfl rfl (decide_eq_false hc1) zN (lw_tvn 6 rfl (wp_ret (post_ret [2] rfl (.bool false) rfl ⟨z24_0,hE0⟩)))
theorem c_impl_areSlots (w:World) (k:Int) (_hk:-9223372036854775808≤k∧k≤9223372036854775807)  :
    Calls Try.prog 26 #[.int .i64 k] w (fun e w'=>e = .returned (.bool (decide (0≤k) && decide (k≤8)))∧Ext w w'):=by
  refine calls_mk [.int .i64 k] 5 Try.func26 rfl rfl sM ?_
  have hE0:Ext w w:=Ext.refl w
  exact wp_seq (wp_plain _ [0] rfl (lw_tvn 1 rfl (wp_seq (wp_plain _ [0,0,0] rfl (lw_tv 1 rfl (lw_callq 46 [] [] [(.int .i64 k),(.int .i64 ((0:Nat):Int)),(.int .i64 ((8:Nat):Int))] rfl rfl cf46 zN (.bool (decide (((0:Nat):Int)≤k) && decide (k≤((8:Nat):Int)))) (fun wq=>c_impl_within wq _ _ _ _hk oM oM) (lw_tvn 1 rfl (wp_ret (post_ret [2] rfl (.bool (decide (((0:Nat):Int)≤k) && decide (k≤((8:Nat):Int)))) rfl ⟨rfl,hE0⟩)))))))))
theorem z38_0 {p:Prop} (h:p:=by first | exact ret_bool (by unfold avB; rw [if_pos oM]; rfl) | exact ret_bool (by unfold avB; rw [if_neg oM,if_pos oM]; rfl) | exact ret_bool (by unfold avB; rw [if_neg oM,if_neg oM,decide_eq_true (show a.kind = 4 by omega)]; rfl) | exact ret_bool (by unfold avB; rw [if_neg oM,if_neg oM,decide_eq_false (show ¬ a.kind = 4 by omega)]; rfl)):p:=h
theorem c_spec_l06Action (w:World) (a:Av) (ha:i64 a.kind∧i64 a.arg)  :
    Calls Try.prog 38 #[(.agg #[(.int .i64 a.kind),(.int .i64 a.arg)])] w (fun e w'=>e = .returned (.bool (avB a))∧Ext w w'):=by
  refine calls_mk [(.agg #[(.int .i64 a.kind),(.int .i64 a.arg)])] 21 Try.func38 rfl rfl sM ?_
  have hE0:Ext w w:=Ext.refl w
  refine wp_seq (wp_plain _ [3,0] rfl (r_boxA (cs:=#[(.int .i64 a.kind),(.int .i64 a.arg)]) rfl zN fun w1 hX1 hz1 hB1=>?_))
  have hzs1:w.heap.size≤w1.heap.size:=hX1.size
  have hE1:Ext w w1:=hE0.trans hX1
  replace hB1:BX w1.heap w.heap.size [(.int .i64 a.kind),(.int .i64 a.arg)]:=hB1
  refine lw_tvn 1 rfl (wp_seq (wp_seq (wp_plain _ [0,2] rfl (q_fldP (p:=(.pointer (some ⟨w.heap.size,0,none⟩))) (b:=w.heap.size) (o:=0) 0 fd56_0 rfl rfl zN (q_load (p:=(padd (.pointer (some ⟨w.heap.size,0,none⟩)) 0)) (.inr rfl) (.int .i64 a.kind) one2 rfl (hB1.ldp (i:=0) sM) zN (lw_nil (wp_block (wp_seq (wp_plain _ [0,0] rfl ?_)))))))))
  by_cases hc2:a.kind = ((1:Nat):Int)
  ·
    refine q_eql true rfl rfl (decide_eq_true hc2) zN (lw_tvn 1 rfl (c_cond_t rfl (wp_seq (wp_plain _ [0,2,0,0] rfl (q_fldP (p:=(.pointer (some ⟨w.heap.size,0,none⟩))) (b:=w.heap.size) (o:=0) 1 fd56_1 rfl rfl zN (q_load (p:=(padd (.pointer (some ⟨w.heap.size,0,none⟩)) 1)) (.inr rfl) (.int .i64 a.arg) one2 rfl (hB1.ldp (i:=1) sM) zN (lw_callq 40 [] [] [(.int .i64 a.arg),(.int .i64 ((1:Nat):Int)),(.int .i64 ((40:Nat):Int))] rfl rfl cf40 zN (.bool (decide (((1:Nat):Int)≤a.arg) && decide (a.arg≤((40:Nat):Int)))) (fun wq=>c_spec_l00In wq _ _ _ ha.2 oM oM) (lw_tvn 1 rfl (wp_ret (b_ret (t_ret ?_)))))))))))
    exact post_ret [2] rfl (.bool (decide (((1:Nat):Int)≤a.arg) && decide (a.arg≤((40:Nat):Int)))) rfl ⟨z38_0,hE1⟩
  ·
    refine q_eql false rfl rfl (decide_eq_false hc2) zN (lw_tvn 1 rfl (c_cond_f rfl (wp_seq (wp_seq (wp_plain _ [0,0] rfl ?_)))))
    by_cases hc4:a.kind = ((2:Nat):Int)
    ·
      refine q_eql true rfl rfl (decide_eq_true hc4) zN (lw_tvn 1 rfl (c_cond_t rfl (wp_skip (c_cond_t rfl (wp_seq (wp_plain _ [0,2,0,0] rfl (q_fldP (p:=(.pointer (some ⟨w.heap.size,0,none⟩))) (b:=w.heap.size) (o:=0) 1 fd56_1 rfl rfl zN (q_load (p:=(padd (.pointer (some ⟨w.heap.size,0,none⟩)) 1)) (.inr rfl) (.int .i64 a.arg) one2 rfl (hB1.ldp (i:=1) sM) zN (lw_callq 40 [] [] [(.int .i64 a.arg),(.int .i64 ((0:Nat):Int)),(.int .i64 ((7:Nat):Int))] rfl rfl cf40 zN (.bool (decide (((0:Nat):Int)≤a.arg) && decide (a.arg≤((7:Nat):Int)))) (fun wq=>c_spec_l00In wq _ _ _ ha.2 oM oM) (lw_tvn 1 rfl (wp_ret (b_ret (t_ret ?_)))))))))))))
      exact post_ret [2] rfl (.bool (decide (((0:Nat):Int)≤a.arg) && decide (a.arg≤((7:Nat):Int)))) rfl ⟨z38_0,hE1⟩
    ·
      refine q_eql false rfl rfl (decide_eq_false hc4) zN (lw_tvn 1 rfl (c_cond_f rfl (wp_plain _ [0,0] rfl ?_)))
      by_cases hc6:a.kind = ((3:Nat):Int)
      ·
        refine q_eql true rfl rfl (decide_eq_true hc6) zN (lw_tvn 1 rfl (c_cond_t rfl (wp_seq (wp_plain _ [0,2,0,0] rfl (q_fldP (p:=(.pointer (some ⟨w.heap.size,0,none⟩))) (b:=w.heap.size) (o:=0) 1 fd56_1 rfl rfl zN (q_load (p:=(padd (.pointer (some ⟨w.heap.size,0,none⟩)) 1)) (.inr rfl) (.int .i64 a.arg) one2 rfl (hB1.ldp (i:=1) sM) zN (lw_callq 40 [] [] [(.int .i64 a.arg),(.int .i64 ((0:Nat):Int)),(.int .i64 ((7:Nat):Int))] rfl rfl cf40 zN (.bool (decide (((0:Nat):Int)≤a.arg) && decide (a.arg≤((7:Nat):Int)))) (fun wq=>c_spec_l00In wq _ _ _ ha.2 oM oM) (lw_tvn 1 rfl (wp_ret (b_ret (t_ret ?_)))))))))))
        exact post_ret [2] rfl (.bool (decide (((0:Nat):Int)≤a.arg) && decide (a.arg≤((7:Nat):Int)))) rfl ⟨z38_0,hE1⟩
      ·
        refine q_eql false rfl rfl (decide_eq_false hc6) zN (lw_tvn 1 rfl (c_cond_f rfl (wp_seq (wp_plain _ [0,0] rfl ?_))))
        by_cases hc8:a.kind = ((4:Nat):Int)
        ·
          refine q_eql true rfl rfl (decide_eq_true hc8) zN (lw_tvn 1 rfl (c_cond_t rfl (wp_seq (wp_plain _ [0,2,0,0] rfl (q_fldP (p:=(.pointer (some ⟨w.heap.size,0,none⟩))) (b:=w.heap.size) (o:=0) 1 fd56_1 rfl rfl zN (q_load (p:=(padd (.pointer (some ⟨w.heap.size,0,none⟩)) 1)) (.inr rfl) (.int .i64 a.arg) one2 rfl (hB1.ldp (i:=1) sM) zN (q_eql (decide (a.arg = ((0:Nat):Int))) rfl rfl rfl zN (lw_tvn 1 rfl (wp_ret (b_ret (t_ret ?_)))))))))))
          exact post_ret [2] rfl (.bool (decide (a.arg = ((0:Nat):Int)))) rfl ⟨z38_0,hE1⟩
        ·
          exact q_eql false rfl rfl (decide_eq_false hc8) zN (lw_tvn 1 rfl (c_cond_f rfl (wp_skip (wp_seq (wp_plain _ [0] rfl (lw_tvn 1 rfl (wp_ret (post_ret [2] rfl (.bool false) rfl ⟨z38_0,hE1⟩))))))))
theorem c_spec_l06Schedule (w:World) (va:Value) (l:List Av) (hl:RN [] (rdS 2 rAv) w.heap va l) (hll:l.length≤1000000000) :
    Calls Try.prog 19 #[va] w (fun e w'=>e = .returned (.bool (schB l))∧Ext w w'):=by
  refine calls_mk [va] 19 Try.func19 rfl rfl sM ?_
  have hE0:Ext w w:=Ext.refl w
  refine wp_seq (wp_plain _ [0] rfl (lw_tvn 1 rfl (wp_seq (wp_seq (wp_plain _ [0] rfl (lw_tvn 1 rfl (wp_block (c_loop (S:=Nat) (fun (k:Nat)=>([(3,(.int .i64 ((k:Nat):Int))),(0,va)]:List (Nat × Value))) (fun (k:Nat) (W:World)=>Ext w W∧k≤l.length∧(∀ j,j < k→avB (l.getD j Av.zero) = true)) (fun (k:Nat)=>l.length - k) 0 ⟨rfl,rfl,trivial⟩ ⟨hE0,sD,(by intro j hj; omega)⟩ ?_))))))))
  clear hE0
  rintro k ρ1 w1 ⟨hE1,hp1_0,hq⟩
  have hzs1:w.heap.size≤w1.heap.size:=hE1.size
  refine wp_seq (wp_seq (wp_plain _ [0,0,0,0] rfl (lw_tv 2 rfl (q_len (v:=va) u24 rfl hl.isSl zN ?_))))
  by_cases hc2:((k:Nat):Int) < ((l.length:Nat):Int)
  ·
    refine q_lss true rfl rfl (decide_eq_true hc2) zN (lw_nil (c_cond_t rfl (wp_skip (wp_seq (wp_block (wp_seq (wp_plain _ [0,0,0,2,3,0] rfl (lw_tv 2 rfl (q_idx (v:=va) k u24 tiS56 rfl rfl hl.isSl rfl sD zN ?_)))))))))
    obtain ⟨cs3,hr3,hl3⟩:=hl.get good_rAv Av.zero (k:=k) sD
    obtain ⟨rfl,hx3⟩:=rn_av hr3
    refine q_loadA (p:=eptr va k 2) (.inr rfl) [(.int .i64 ((l.getD k Av.zero).kind)),(.int .i64 ((l.getD k Av.zero).arg))] agg56 rfl (fun wq9 hw9=>hl3 wq9 (Chg.of_ext [] (hE1.trans hw9))) rfl zN (lw_call 38 [] [] [(.agg #[(.int .i64 ((l.getD k Av.zero).kind)),(.int .i64 ((l.getD k Av.zero).arg))])] rfl rfl cf38 zN (c_spec_l06Action _ (l.getD k Av.zero) ⟨hx3.1,hx3.2⟩) ?_)
    rintro e4 w4 ⟨rfl,hX4⟩
    refine ⟨_,rfl,hX4,?_⟩
    have hzs4:w1.heap.size≤w4.heap.size:=hX4.size
    have hE4:Ext w w4:=hE1.trans hX4
    refine q_not (!(avB (l.getD k Av.zero))) rfl rfl zN (lw_nil ?_)
    cases hb5:(!(avB (l.getD k Av.zero)))
    ·
      refine c_cond_f (by first | rfl | (show Value.bool _ = _; rw [hb5])) (wp_skip (wp_plain _ [0,0,0] rfl (lw_tv 1 rfl (q_add ((k + 1:Nat):Int) rfl rfl (w64n oM sD) zN (lw_tvn 1 rfl ?_)))))
      exact ⟨(k + 1),_,rfl,⟨rfl,rfl,trivial⟩,⟨hE4,sD,(by intro j hj; exact (Nat.lt_succ_iff_lt_or_eq.1 hj).elim (hq j) fun h9=>by subst h9; have h8:(!avB (l.getD j Av.zero)) = false:=(by assumption); simpa using h8)⟩,by first | omega | (dsimp only; omega)⟩
    ·
      exact c_cond_t (by first | rfl | (show Value.bool _ = _; rw [hb5])) (wp_seq (wp_plain _ [0] rfl (lw_tvn 1 rfl (wp_ret (b_ret (t_ret (t_ret (b_ret (t_ret (post_ret [2] rfl (.bool false) rfl ⟨(ret_bool (schB_bad (k:=k) oM (by have h8:(!avB (l.getD k Av.zero)) = true:=(by assumption); simpa using h8))),hE4⟩))))))))))
  ·
    exact q_lss false rfl rfl (decide_eq_false hc2) zN (lw_nil (c_cond_f rfl (wp_exit (t_exit (t_exit (c_exit_here (wp_seq (wp_plain _ [0,0,0,0] rfl (lw_tv 1 rfl (q_len (v:=va) u24 rfl hl.isSl zN (q_leq (decide (((l.length:Nat):Int)≤((400:Nat):Int))) rfl rfl rfl zN (lw_tvn 1 rfl (wp_ret (post_ret [2] rfl (.bool (decide (((l.length:Nat):Int)≤((400:Nat):Int)))) rfl ⟨(ret_bool (by rw [← schB_end (fun i hi=>hq i oM)]; exact decide_eq_decide.2 oM)),hE1⟩))))))))))))))
theorem z27_0 {p:Prop} (h:p:=by intro u hu; simp only [List.mem_cons,List.not_mem_nil,or_false] at hu; rcases hu with rfl | rfl | rfl | rfl | rfl <;> first | exact ⟨rfl,rfl⟩):p:=h
theorem c_impl_usageOf (w:World) (va:Value) (l:List Av) (vw:Value) (ws:List Int) (k:Nat) (hl:RN [] (rdS 2 rAv) w.heap va l) (hws:Rd (rdL rI) w.heap vw ws) (_hk:k≤1000000000000) (hnk:ws.length≤40∧k≤8) (hll:l.length≤400) (havl:∀ i,i < l.length→avK (l.getD i Av.zero)) (hw9:∀ i,0≤ws.getD i 0∧ws.getD i 0≤1000) :
    Calls Try.prog 27 #[va,vw,.int .i64 ((k:Nat):Int)] w (fun e w'=>e = .returned (.tuple #[usV (usR l ws k),.int .i64 (usC l ws.length k)])∧Ext w w'):=by
  refine calls_mk [va,vw,.int .i64 ((k:Nat):Int)] 62 Try.func27 rfl rfl sM ?_
  have hE0:Ext w w:=Ext.refl w
  have hl_vw:=hws.lenle
  refine wp_seq (wp_plain _ [3,0] rfl (r_allocA (z:=.agg #[.int .i64 0,.int .i64 0,.int .i64 0,.int .i64 0,.int .i64 0]) zr31 zN fun w1 hX1 hz1 hB1=>?_))
  have hzs1:w.heap.size≤w1.heap.size:=hX1.size
  have hE1:Ext w w1:=hE0.trans hX1
  replace hB1:BX w1.heap w.heap.size [(.int .i64 0),(.int .i64 0),(.int .i64 0),(.int .i64 0),(.int .i64 0)]:=hB1
  refine lw_tvn 1 rfl (wp_seq (wp_plain _ [0,0,0,0,3,0,0,0,0,0] rfl (lw_tv 2 rfl (q_len (v:=vw) u25 rfl hws.isSl zN (lw_tv 1 rfl ?_)))))
  have hlb3:=(hB1).lt
  refine lw_call 32 [] [] [va,(.int .i64 ((ws.length:Nat):Int)),(.int .i64 ((k:Nat):Int))] rfl rfl cf32 zN (c_impl_firstBad _ va l ws.length k (hl.ext (good_rdS good_rAv) hE1) oM oM oM oM (by exact havl)) ?_
  rintro e2 w2 ⟨g,gm,vs,vo,Fs,Fo,z,rfl,hX2,hK,hlow,hfin⟩
  refine ⟨_,rfl,hX2,?_⟩
  have hzs2:w1.heap.size≤w2.heap.size:=hX2.size
  have hE2:Ext w w2:=hE1.trans hX2
  have hB1x2:=hB1.ext hX2
  have hlw9:w.heap.size≤w1.heap.size:=hE1.size
  have hfr2:=fb_rng l (bgn ((ws.length:Nat):Int) k)
  refine lw_tv 1 rfl (q_extract (vs:=[(.pointer (some ⟨g,0,none⟩)),(.int .i64 (fbS l (bgn ((ws.length:Nat):Int) k) 0))]) (.pointer (some ⟨g,0,none⟩)) rfl rfl zN (q_extract (vs:=[(.pointer (some ⟨g,0,none⟩)),(.int .i64 (fbS l (bgn ((ws.length:Nat):Int) k) 0))]) (.int .i64 (fbS l (bgn ((ws.length:Nat):Int) k) 0)) rfl rfl zN (lw_tvn 2 rfl (wp_seq (wp_seq (wp_plain _ [0,0] rfl (lw_tv 1 rfl ?_)))))))
  by_cases hc4:((0:Nat):Int)≤(fbS l (bgn ((ws.length:Nat):Int) k) 0)
  ·
    refine q_geq true rfl rfl (decide_eq_true hc4) zN (lw_nil (c_cond_t rfl (wp_seq (wp_plain _ [0,4,0] rfl ?_))))
    have hbd5:∀ (wq:World),(Instr.build 31 #[]).run Try.prog wq = .ok (.agg #[(.int .i64 0),(.int .i64 0),(.int .i64 0),(.int .i64 0),(.int .i64 0)]) wq:=by intro wq; kernel_rfl
    refine q_build (ps:=#[]) (.agg #[(.int .i64 0),(.int .i64 0),(.int .i64 0),(.int .i64 0),(.int .i64 0)]) (by simp only [List.map_toArray,List.map_cons,List.map_nil]) (fun wq=>hbd5  wq) zN (e_setA (vs:=[(.int .i64 0),(.int .i64 0),(.int .i64 0),(.int .i64 0),(.int .i64 0)]) agg31 rfl rfl z27_0 hB1x2 rfl rfl zN fun w6 hC6 hz6 hB6=>?_)
    replace hB6:BX w6.heap w.heap.size [(.int .i64 0),(.int .i64 0),(.int .i64 0),(.int .i64 0),(.int .i64 0)]:=hB6
    have hE6:Ext w w6:=hC6.below hE2 (fun c hc=>by have:=List.mem_singleton.1 hc; omega) hE2.size
    have hzs6:w2.heap.size≤w6.heap.size:=hC6.size
    exact lw_tvn 1 rfl (wp_ret (t_ret (post_retC (t0:=7) (ts:=[]) (cs:=[(.int .i64 0),(.int .i64 0),(.int .i64 0),(.int .i64 0),(.int .i64 0)]) [(.int .i64 ((4:Nat):Int))] rfl agg31 rfl hB6 rfl rfl ⟨(by rw [usC_4 oM,usR_4 (by rw [usC_4 oM]; omega)]; rfl),hE6⟩)))
  ·
    refine q_geq false rfl rfl (decide_eq_false hc4) zN (lw_nil (c_cond_f rfl (wp_skip (wp_seq (wp_seq (wp_plain _ [0,0,0,2,0,0] rfl ?_))))))
    obtain ⟨hzr,hB9⟩:=hfin oM
    have hcz:=hB9.z
    have hol:=hB9.len
    have hadv:=hB9.adv
    have hst:=hB9.st
    have hld:=hB9.ld
    have hat0:=hB9.k.at0
    have hatn:=hB9.k.atn
    have hl0:=hB9.k.l0
    have hln:=hB9.k.ln
    have hus:=rnC_us l (bgS ws.length k)
    rw [← hzr] at hus
    have hus0:(bgS ws.length k).us.length = 0:=rfl
    have hbx8:BX w2.heap g [(.int .i64 z.c.left),(.int .i64 z.c.at_),vs,vo,(.int .i64 z.u.cost),(.int .i64 z.u.adv),(.int .i64 z.u.st),(.int .i64 z.u.ld),(.int .i64 z.u.sl),(.map (some gm))]:=hK.bx
    have hsl8:owL rI 2 w2.heap vs z.c.slots Fs:=hK.sl
    have hov8:owL rI 2 w2.heap vo z.ov Fo:=hK.ov
    have hmp8:MapI w2.heap gm z.us:=hK.mp
    refine lw_tv 1 rfl (q_nil rfl zN (q_fldP (p:=(.pointer (some ⟨g,0,none⟩))) (b:=g) (o:=0) 3 fd84_3 rfl rfl zN (q_load (p:=(padd (.pointer (some ⟨g,0,none⟩)) 3)) (.inr rfl) vo one25 rfl (hbx8.ldp (i:=3) sM) zN (q_len (v:=vo) u25 rfl (hov8.rd id).isSl zN (lw_tvn 1 rfl (wp_block ?_))))))
    refine c_loop (S:=Nat) (fun (i:Nat)=>([(28,(.int .i64 ((i:Nat):Int))),(1,vw),(6,(.pointer (some ⟨w.heap.size,0,none⟩))),(8,(.pointer (some ⟨g,0,none⟩))),(26,vo),(27,(.int .i64 ((z.ov.length:Nat):Int)))]:List (Nat × Value))) (fun (i:Nat) (W:World)=>Ext w W∧BX W.heap w.heap.size [(.int .i64 0),(.int .i64 0),(.int .i64 0),(.int .i64 0),(.int .i64 0)]∧i≤z.ov.length∧ChK 2 W.heap g gm vs vo Fs Fo (cstZ z ws i)) (fun (i:Nat)=>z.ov.length - i) 0 ⟨rfl,rfl,rfl,rfl,rfl,rfl,trivial⟩ ⟨hE2,hB1x2,oM,(by rw [cstZ_0 hcz.1]; exact ⟨hbx8,hsl8,hK.sn,hov8,hK.on,hmp8,hK.d⟩)⟩ ?_
    clear hE0 hz1 hX1 hzs1 hE1 hX2 hzs2 hE2
    rintro i ρ9 w9 ⟨hE9,hL9_0,hp9_0,hKl⟩
    have hzs9:w.heap.size≤w9.heap.size:=hE9.size
    have hq10:=hL9_0.lt
    have hbx11:BX w9.heap g [(.int .i64 z.c.left),(.int .i64 z.c.at_),vs,vo,(.int .i64 (dotI z.ov ws i)),(.int .i64 z.u.adv),(.int .i64 z.u.st),(.int .i64 z.u.ld),(.int .i64 z.u.sl),(.map (some gm))]:=hKl.bx
    have hsl11:owL rI 2 w9.heap vs z.c.slots Fs:=hKl.sl
    have hov11:owL rI 2 w9.heap vo z.ov Fo:=hKl.ov
    have hmp11:MapI w9.heap gm z.us:=hKl.mp
    refine wp_seq (wp_plain _ [0] rfl ?_)
    by_cases hc12:((i:Nat):Int) < ((z.ov.length:Nat):Int)
    ·
      refine q_lss true rfl rfl (decide_eq_true hc12) zN (lw_nil (wp_seq (c_cond_t rfl (wp_skip (wp_seq (wp_block (wp_seq (wp_plain _ [0,0,2,0,0] rfl (lw_tv 1 rfl (q_idx (v:=vo) i u25 ti2 rfl rfl (hov11.rd id).isSl rfl sD zN ?_))))))))))
      refine q_load (p:=eptr vo i 1) (.inr rfl) (.int .i64 (z.ov.getD i 0)) one2 rfl ((own_rdI hov11).getI (k:=i) sD).1 zN (lw_tvn 2 rfl (wp_draw _ [0,0,0,0,1,0,0,0,0,1,0,0,0,0,0,4] mixed (by kernel_rfl) ?_))
      have hmb:=mul_bnd (hB9.ov i) (hw9 i)
      have hdb:=dotI_bnd hB9.ov hw9 i
      have hil:i < z.ov.length:=by omega
      have hdc:0≤z.ov.getD i 0 * ws.getD i 0∧z.ov.getD i 0 * ws.getD i 0≤400000:=by omega
      have hdd:dotI z.ov ws i≤16000000:=by have:(1000 * (l.length:Int) * (i:Int))≤400000 * 40:=Int.mul_le_mul oM oM oM oM; omega
      refine lw_tv 1 rfl (q_nil rfl zN (q_fldP (p:=(.pointer (some ⟨g,0,none⟩))) (b:=g) (o:=0) 4 fd84_4 rfl rfl zN (q_fldP (p:=(padd (.pointer (some ⟨g,0,none⟩)) 4)) (b:=g) (o:=4) 0 fd31_0 rfl rfl zN (q_load (p:=(padd (padd (.pointer (some ⟨g,0,none⟩)) 4) 0)) (.inl rfl) (.int .i64 (dotI z.ov ws i)) one2 rfl (hbx11.ldp (i:=4) sM) zN (lw_tv 3 rfl (q_idx (v:=vw) i u25 ti2 rfl rfl hws.isSl rfl sD zN ?_))))))
      refine q_load (p:=eptr vw i 1) (.inl rfl) (.int .i64 (ws.getD i 0)) one2 rfl (ldH_ext hE9.drew (hws.getI sD).1) zN ?_
      refine q_mul ((z.ov.getD i 0) * (ws.getD i 0)) rfl rfl (w64 sD sD) zN ?_
      refine q_add ((dotI z.ov ws i) + ((z.ov.getD i 0) * (ws.getD i 0))) rfl rfl (w64 sD sD) zN (q_nil rfl zN ?_)
      refine q_fldP (p:=(.pointer (some ⟨g,0,none⟩))) (b:=g) (o:=0) 4 fd84_4 rfl rfl zN (q_fldP (p:=(padd (.pointer (some ⟨g,0,none⟩)) 4)) (b:=g) (o:=4) 0 fd31_0 rfl rfl zN (e_setB (k:=4) (w:=w9.drew) sz2 rfl rfl ⟨rfl,rfl⟩ hbx11 sM zN fun w13 hC13 hz13 hB13=>?_))
      replace hB13:BX w13.heap g [(.int .i64 z.c.left),(.int .i64 z.c.at_),vs,vo,(.int .i64 ((dotI z.ov ws i) + ((z.ov.getD i 0) * (ws.getD i 0)))),(.int .i64 z.u.adv),(.int .i64 z.u.st),(.int .i64 z.u.ld),(.int .i64 z.u.sl),(.map (some gm))]:=hB13
      replace hC13:=hC13.of_drew
      have hzs13:w9.heap.size≤w13.heap.size:=hC13.size
      have hE13:Ext w w13:=hC13.below hE9 (fun c hc=>by have:=hlow c (zl_g c hc); omega) hE9.size
      have hF14:=hL9_0.chg hC13 (fun hm=>by have:=hlow _ (zl_g _ hm); omega)
      have hF15:=owI_chg hsl11 hC13 (fun b hb hm=>hK.d.gs ((List.mem_singleton.1 hm) ▸ hb))
      have hF16:=owI_chg hov11 hC13 (fun b hb hm=>hK.d.go ((List.mem_singleton.1 hm) ▸ hb))
      have hF17:=hmp11.chg hC13 (fun hm=>hK.d.gm_ (List.mem_singleton.1 hm).symm)
      refine lw_nil (wp_plain _ [0,0] rfl (q_add ((i + 1:Nat):Int) rfl rfl (w64n oM oM) zN (lw_tvn 1 rfl ?_)))
      have hKe:ChK 2 w13.heap g gm vs vo Fs Fo (⟨⟨z.c.at_,z.c.left,z.c.slots⟩,z.ov,z.us,⟨(dotI z.ov ws i) + ((z.ov.getD i 0) * (ws.getD i 0)),z.u.adv,z.u.st,z.u.ld,z.u.sl⟩⟩:CS):=⟨hB13,hF15,hK.sn,hF16,hK.on,hF17,hK.d⟩
      exact ⟨(i + 1),_,rfl,⟨rfl,rfl,rfl,rfl,rfl,rfl,trivial⟩,⟨hE13,hF14,oM,(by exact hKe)⟩,by first | omega | (dsimp only; omega)⟩
    ·
      refine q_lss false rfl rfl (decide_eq_false hc12) zN (lw_nil (wp_seq (c_cond_f rfl (wp_exit (t_exit (t_exit (c_exit_here (wp_seq (wp_plain _ [0,0,0,0,2,2,0,0,0,4] rfl ?_)))))))))
      have hdb:=dotI_bnd hB9.ov hw9 i
      refine lw_tv 2 rfl (q_nil rfl zN (q_fldP (p:=(.pointer (some ⟨g,0,none⟩))) (b:=g) (o:=0) 9 fd84_5 rfl rfl zN (q_load (p:=(padd (.pointer (some ⟨g,0,none⟩)) 9)) (.inr rfl) (.map (some gm)) one82 rfl (hbx11.ldp (i:=9) sM) zN (q_mlen (g:=gm) (show Try.prog.underlying 82 = some (.map 2 4) by kernel_rfl) rfl hmp11 zN (q_nil rfl zN (q_fldP (p:=(.pointer (some ⟨g,0,none⟩))) (b:=g) (o:=0) 4 fd84_4 rfl rfl zN (q_fldP (p:=(padd (.pointer (some ⟨g,0,none⟩)) 4)) (b:=g) (o:=4) 4 fd31_4 rfl rfl zN (e_setB (k:=8) (w:=w9) sz2 rfl rfl ⟨rfl,rfl⟩ hbx11 sM zN fun w18 hC18 hz18 hB18=>?_))))))))
      replace hB18:BX w18.heap g [(.int .i64 z.c.left),(.int .i64 z.c.at_),vs,vo,(.int .i64 (dotI z.ov ws i)),(.int .i64 z.u.adv),(.int .i64 z.u.st),(.int .i64 z.u.ld),(.int .i64 ((z.us.length:Nat):Int)),(.map (some gm))]:=hB18
      have hzs18:w9.heap.size≤w18.heap.size:=hC18.size
      have hE18:Ext w w18:=hC18.below hE9 (fun c hc=>by have:=hlow c (zl_g c hc); omega) hE9.size
      have hF19:=hL9_0.chg hC18 (fun hm=>by have:=hlow _ (zl_g _ hm); omega)
      have hF20:=owI_chg hsl11 hC18 (fun b hb hm=>hK.d.gs ((List.mem_singleton.1 hm) ▸ hb))
      have hF21:=owI_chg hov11 hC18 (fun b hb hm=>hK.d.go ((List.mem_singleton.1 hm) ▸ hb))
      have hF22:=hmp11.chg hC18 (fun hm=>hK.d.gm_ (List.mem_singleton.1 hm).symm)
      refine lw_nil (wp_seq (wp_plain _ [0,0,0,2,4,0] rfl ?_))
      have hKr:ChK 2 w18.heap g gm vs vo Fs Fo (⟨⟨z.c.at_,z.c.left,z.c.slots⟩,z.ov,z.us,⟨dotI z.ov ws i,z.u.adv,z.u.st,z.u.ld,((z.us.length:Nat):Int)⟩⟩:CS):=⟨hB18,hF20,hK.sn,hF21,hK.on,hF22,hK.d⟩
      refine lw_tv 1 rfl (q_nilP ⟨_,_,rfl⟩ rfl zN (q_fldP (p:=(.pointer (some ⟨g,0,none⟩))) (b:=g) (o:=0) 4 fd84_4 rfl rfl zN (q_loadA (p:=(padd (.pointer (some ⟨g,0,none⟩)) 4)) (.inr rfl) [(.int .i64 (dotI z.ov ws i)),(.int .i64 z.u.adv),(.int .i64 z.u.st),(.int .i64 z.u.ld),(.int .i64 ((z.us.length:Nat):Int))] agg31 rfl (fun wq9 hw9=>LD.of_boxA (n:=5) ((hKr.ext hw9).bx) sM) rfl zN (e_setA (vs:=[(.int .i64 (dotI z.ov ws i)),(.int .i64 z.u.adv),(.int .i64 z.u.st),(.int .i64 z.u.ld),(.int .i64 ((z.us.length:Nat):Int))]) agg31 rfl rfl z27_0 hF19 rfl rfl zN fun w23 hC23 hz23 hB23=>?_))))
      replace hB23:BX w23.heap w.heap.size [(.int .i64 (dotI z.ov ws i)),(.int .i64 z.u.adv),(.int .i64 z.u.st),(.int .i64 z.u.ld),(.int .i64 ((z.us.length:Nat):Int))]:=hB23
      have hE23:Ext w w23:=hC23.below hE18 (fun c hc=>by have:=List.mem_singleton.1 hc; omega) hE18.size
      have hzs23:w18.heap.size≤w23.heap.size:=hC23.size
      exact lw_tvn 1 rfl (wp_ret (post_retC (t0:=7) (ts:=[]) (cs:=[(.int .i64 (dotI z.ov ws i)),(.int .i64 z.u.adv),(.int .i64 z.u.st),(.int .i64 z.u.ld),(.int .i64 ((z.us.length:Nat):Int))]) [(.int .i64 ((0:Nat):Int))] rfl agg31 rfl hB23 rfl rfl ⟨(by have h90:usC l ws.length k = 0:=usC_0 oM; rw [usR_0 h90,h90,← hzr]; (have h91:i = ws.length:=by omega); subst h91; rfl),hE23⟩))
end Go.Proofs.Ytoacbkmejjhceaa
namespace Go.Proofs.Ytoacbkmejjhceaa
open Go Go.RowKit
set_option linter.unusedVariables false
set_option linter.unusedSimpArgs false
set_option maxHeartbeats 4000000
set_option maxRecDepth 100000
attribute [local irreducible] LW
theorem c_impl_ValidWeights_1 (w:World) (x:Int) (_hx:-9223372036854775808≤x∧x≤9223372036854775807)  :
    Calls Try.prog 45 #[.int .i64 x] w (fun e w'=>e = .returned (.bool (!(decide (0≤x) && decide (x≤1000))))∧Ext w w'):=by
  refine calls_mk [.int .i64 x] 6 Try.func45 rfl rfl sM ?_
  have hE0:Ext w w:=Ext.refl w
  exact wp_seq (wp_plain _ [0] rfl (lw_tvn 1 rfl (wp_seq (wp_plain _ [0,0,0,0] rfl (lw_tv 1 rfl (lw_callq 46 [] [] [(.int .i64 x),(.int .i64 ((0:Nat):Int)),(.int .i64 ((1000:Nat):Int))] rfl rfl cf46 zN (.bool (decide (((0:Nat):Int)≤x) && decide (x≤((1000:Nat):Int)))) (fun wq=>c_impl_within wq _ _ _ _hx oM oM) (q_not (!(decide (((0:Nat):Int)≤x) && decide (x≤((1000:Nat):Int)))) rfl rfl zN (lw_tvn 1 rfl (wp_ret (post_ret [2] rfl (.bool (!(decide (((0:Nat):Int)≤x) && decide (x≤((1000:Nat):Int))))) rfl ⟨rfl,hE0⟩))))))))))
theorem c_impl_ValidWeights (w:World) (va:Value) (a:List Int) (ha:Rd (rdL rI) w.heap va a)  :
    Calls Try.prog 25 #[va] w (fun e w'=>e = .returned (.bool (wgB a))∧Ext w w'):=by
  refine calls_mk [va] 11 Try.func25 rfl rfl sM ?_
  have hE0:Ext w w:=Ext.refl w
  have hl_va:=ha.lenle
  refine wp_seq (wp_plain _ [0] rfl (lw_tvn 1 rfl (wp_seq (wp_plain _ [0,0,0,0,0,3,0,0,0] rfl (lw_tv 1 rfl (q_len (v:=va) u25 rfl ha.isSl zN ?_))))))
  by_cases hc1:((a.length:Nat):Int)≤((40:Nat):Int)
  ·
    refine q_leq true rfl rfl (decide_eq_true hc1) zN (lw_tv 2 rfl (lw_call 44 [] [] [va,(.func (.func 45) #[] #[])] rfl rfl cf44 (zS (e:=6) rfl rfl rfl) (c_slices_ContainsFunc___int64_int64_ _ _ _ 45 [] [] (fun x=>!(decide (0≤x) && decide (x≤1000))) (ha.ext g1 hE0) cf45 (fun x hx w1 hw=>c_impl_ValidWeights_1 w1 x hx)) ?_))
    rintro e2 w2 ⟨rfl,hX2⟩
    refine ⟨_,rfl,hX2,?_⟩
    have hzs2:w.heap.size≤w2.heap.size:=hX2.size
    have hE2:Ext w w2:=hE0.trans hX2
    exact q_not (!(a.any (fun x=>!(decide (0≤x) && decide (x≤1000))))) rfl rfl (zS (e:=6) rfl rfl rfl) (lw_tvn 2 rfl (wp_ret (post_ret [2] rfl (.bool (!(a.any (fun x=>!(decide (0≤x) && decide (x≤1000)))))) rfl ⟨(by first | exact ret_bool (wgB_big oM) | exact ret_bool (wgB_any oM)),hE2⟩)))
  ·
    exact q_leq false rfl rfl (decide_eq_false hc1) zN (lw_tvn 6 rfl (wp_ret (post_ret [2] rfl (.bool false) rfl ⟨(by first | exact ret_bool (wgB_big oM) | exact ret_bool (wgB_any oM)),hE0⟩)))
theorem z8_0 {p:Prop} (h:p:=by intro u hu; simp only [List.mem_cons,List.not_mem_nil,or_false] at hu; rcases hu with rfl | rfl | rfl | rfl | rfl <;> first | exact ⟨rfl,rfl⟩):p:=h
theorem z8_1 {p:Prop} (h:p:=by first | (rw [hA,hU]; rfl) | (rw [rnU_n (by rw [hA]; omega),hA]; rfl)):p:=h
theorem z8_2 {p:Prop} (h:p:=by simp only [List.map_toArray,List.map_cons,List.map_nil]):p:=h
theorem c_impl_RunSchedule (w:World) (va:Value) (l:List Av) (vw:Value) (ws:List Int) (k:Int) (hl:RN [] (rdS 2 rAv) w.heap va l) (hws:Rd (rdL rI) w.heap vw ws) (_hk:-9223372036854775808≤k∧k≤9223372036854775807)  :
    Calls Try.prog 8 #[va,vw,.int .i64 k] w (fun e w'=>e = .returned (.tuple #[usV (rnU l ws k),.int .i64 (rnA l ws k)])∧Ext w w'):=by
  refine calls_mk [va,vw,.int .i64 k] 29 Try.func8 rfl rfl sM ?_
  have hE0:Ext w w:=Ext.refl w
  have hl_vw:=hws.lenle
  refine wp_seq (wp_plain _ [3,0] rfl (r_allocA (z:=.agg #[.int .i64 0,.int .i64 0,.int .i64 0,.int .i64 0,.int .i64 0]) zr31 zN fun w1 hX1 hz1 hB1=>?_))
  have hzs1:w.heap.size≤w1.heap.size:=hX1.size
  have hE1:Ext w w1:=hE0.trans hX1
  replace hB1:BX w1.heap w.heap.size [(.int .i64 0),(.int .i64 0),(.int .i64 0),(.int .i64 0),(.int .i64 0)]:=hB1
  refine lw_tvn 1 rfl (wp_seq (wp_block (wp_seq (wp_plain _ [0,3,0,0,0,3,0,0,0] rfl (lw_tv 1 rfl (lw_call 24 [] [] [va] rfl rfl cf24 zN (c_impl_ValidSchedule _ va l (hl.ext (good_rdS good_rAv) hE1)) ?_))))))
  rintro e2 w2 ⟨rfl,hX2⟩
  refine ⟨_,rfl,hX2,?_⟩
  have hzs2:w1.heap.size≤w2.heap.size:=hX2.size
  have hE2:Ext w w2:=hE1.trans hX2
  have hB1x2:=hB1.ext hX2
  refine q_not (!(schB l)) rfl rfl zN (lw_tv 1 rfl ?_)
  cases hb3:(!(schB l))
  ·
    refine lw_tv 1 rfl (lw_call 25 [] [] [vw] rfl rfl cf25 (zS (e:=12) rfl rfl rfl) (c_impl_ValidWeights _ _ _ (hws.ext g1 hE2)) ?_)
    rintro e4 w4 ⟨rfl,hX4⟩
    refine ⟨_,rfl,hX4,?_⟩
    have hzs4:w2.heap.size≤w4.heap.size:=hX4.size
    have hE4:Ext w w4:=hE2.trans hX4
    have hB1x4:=hB1x2.ext hX4
    refine q_not (!(wgB ws)) rfl rfl (zS (e:=12) rfl rfl rfl) (lw_tvn 2 rfl ?_)
    cases hb5:(!(wgB ws))
    ·
      refine c_cond_f (by first | rfl | (show Value.bool _ = _; rw [hb5])) (wp_seq (wp_plain _ [0,3,0,0] rfl ?_))
      have hok:schB l = true∧wgB ws = true:=⟨by simpa using (by assumption:(!schB l) = false),by simpa using (by assumption:(!wgB ws) = false)⟩
      refine lw_tv 1 rfl (lw_call 26 [] [] [(.int .i64 k)] rfl rfl cf26 zN (c_impl_areSlots _ _ _hk) ?_)
      rintro e6 w6 ⟨rfl,hX6⟩
      refine ⟨_,rfl,hX6,?_⟩
      have hzs6:w4.heap.size≤w6.heap.size:=hX6.size
      have hE6:Ext w w6:=hE4.trans hX6
      have hB1x6:=hB1x4.ext hX6
      refine q_not (!(decide (0≤k) && decide (k≤8))) rfl rfl zN (lw_tvn 1 rfl ?_)
      cases hb7:(!(decide (0≤k) && decide (k≤8)))
      ·
        refine c_cond_f (by first | rfl | (show Value.bool _ = _; rw [hb7])) (wp_skip (wp_seq (wp_plain _ [0,0,0,3,0,0,4,0] rfl ?_)))
        have hk8:0≤k∧k≤8:=by (have h8:(!(decide (0≤k) && decide (k≤8))) = false:=(by assumption)); simp at h8; omega
        have hsl:=schB_iff.1 hok.1
        have hwl:=wgB_iff.1 hok.2
        have hA:=rnA_0 hok hk8
        have hU:=rnU_u hok hk8
        generalize hg_kq:k = kqI at *
        obtain ⟨kq,rfl⟩:∃ n:Nat,kqI = ((n:Nat):Int):=⟨kqI.toNat,by omega⟩
        rw [Int.toNat_natCast] at hA hU
        refine lw_tv 3 rfl (lw_call 27 [] [] [va,vw,(.int .i64 ((kq:Nat):Int))] rfl rfl cf27 zN (c_impl_usageOf _ va l vw ws kq (hl.ext (good_rdS good_rAv) hE6) (hws.ext g1 hE6) oM oM oM (by exact hsl.2) (by exact hwl.2)) ?_)
        rintro e8 w8 ⟨rfl,hX8⟩
        refine ⟨_,rfl,hX8,?_⟩
        have hzs8:w6.heap.size≤w8.heap.size:=hX8.size
        have hE8:Ext w w8:=hE6.trans hX8
        have hB1x8:=hB1x6.ext hX8
        refine q_extract (vs:=[(.agg #[(.int .i64 ((usR l ws kq).cost)),(.int .i64 ((usR l ws kq).adv)),(.int .i64 ((usR l ws kq).st)),(.int .i64 ((usR l ws kq).ld)),(.int .i64 ((usR l ws kq).sl))]),(.int .i64 (usC l ws.length kq))]) (.agg #[(.int .i64 ((usR l ws kq).cost)),(.int .i64 ((usR l ws kq).adv)),(.int .i64 ((usR l ws kq).st)),(.int .i64 ((usR l ws kq).ld)),(.int .i64 ((usR l ws kq).sl))]) rfl rfl zN (q_extract (vs:=[(.agg #[(.int .i64 ((usR l ws kq).cost)),(.int .i64 ((usR l ws kq).adv)),(.int .i64 ((usR l ws kq).st)),(.int .i64 ((usR l ws kq).ld)),(.int .i64 ((usR l ws kq).sl))]),(.int .i64 (usC l ws.length kq))]) (.int .i64 (usC l ws.length kq)) rfl rfl zN ?_)
        refine e_setA (vs:=[(.int .i64 ((usR l ws kq).cost)),(.int .i64 ((usR l ws kq).adv)),(.int .i64 ((usR l ws kq).st)),(.int .i64 ((usR l ws kq).ld)),(.int .i64 ((usR l ws kq).sl))]) agg31 rfl rfl z8_0 hB1x8 rfl rfl zN fun w9 hC9 hz9 hB9=>?_
        replace hB9:BX w9.heap w.heap.size [(.int .i64 ((usR l ws kq).cost)),(.int .i64 ((usR l ws kq).adv)),(.int .i64 ((usR l ws kq).st)),(.int .i64 ((usR l ws kq).ld)),(.int .i64 ((usR l ws kq).sl))]:=hB9
        have hE9:Ext w w9:=hC9.below hE8 (fun c hc=>by have:=List.mem_singleton.1 hc; omega) hE8.size
        have hzs9:w8.heap.size≤w9.heap.size:=hC9.size
        exact lw_tvn 1 rfl (wp_ret (post_retC (t0:=7) (ts:=[]) (cs:=[(.int .i64 ((usR l ws kq).cost)),(.int .i64 ((usR l ws kq).adv)),(.int .i64 ((usR l ws kq).st)),(.int .i64 ((usR l ws kq).ld)),(.int .i64 ((usR l ws kq).sl))]) [(.int .i64 (usC l ws.length kq))] rfl agg31 rfl hB9 rfl rfl ⟨z8_1,hE9⟩))
      ·
        refine c_cond_t (by first | rfl | (show Value.bool _ = _; rw [hb7])) (wp_seq (wp_plain _ [0,4,0] rfl ?_))
        have hA:rnA l ws k = 2:=rnA_2 hok (fun h9=>by (have h8:(!(decide (0≤k) && decide (k≤8))) = true:=(by assumption)); simp at h8; omega)
        have hbd10:∀ (wq:World),(Instr.build 31 #[]).run Try.prog wq = .ok (.agg #[(.int .i64 0),(.int .i64 0),(.int .i64 0),(.int .i64 0),(.int .i64 0)]) wq:=by intro wq; kernel_rfl
        refine q_build (ps:=#[]) (.agg #[(.int .i64 0),(.int .i64 0),(.int .i64 0),(.int .i64 0),(.int .i64 0)]) z8_2 (fun wq=>hbd10  wq) zN (e_setA (vs:=[(.int .i64 0),(.int .i64 0),(.int .i64 0),(.int .i64 0),(.int .i64 0)]) agg31 rfl rfl z8_0 hB1x6 rfl rfl zN fun w11 hC11 hz11 hB11=>?_)
        replace hB11:BX w11.heap w.heap.size [(.int .i64 0),(.int .i64 0),(.int .i64 0),(.int .i64 0),(.int .i64 0)]:=hB11
        have hE11:Ext w w11:=hC11.below hE6 (fun c hc=>by have:=List.mem_singleton.1 hc; omega) hE6.size
        have hzs11:w6.heap.size≤w11.heap.size:=hC11.size
        exact lw_tvn 1 rfl (wp_ret (b_ret (t_ret (post_retC (t0:=7) (ts:=[]) (cs:=[(.int .i64 0),(.int .i64 0),(.int .i64 0),(.int .i64 0),(.int .i64 0)]) [(.int .i64 ((2:Nat):Int))] rfl agg31 rfl hB11 rfl rfl ⟨z8_1,hE11⟩))))
    ·
      refine c_cond_t (by first | rfl | (show Value.bool _ = _; rw [hb5])) (wp_seq (wp_plain _ [0,4,0] rfl ?_))
      have hA:rnA l ws k = 1:=rnA_1 (by rintro ⟨h8,h9⟩; simp_all)
      have hbd12:∀ (wq:World),(Instr.build 31 #[]).run Try.prog wq = .ok (.agg #[(.int .i64 0),(.int .i64 0),(.int .i64 0),(.int .i64 0),(.int .i64 0)]) wq:=by intro wq; kernel_rfl
      refine q_build (ps:=#[]) (.agg #[(.int .i64 0),(.int .i64 0),(.int .i64 0),(.int .i64 0),(.int .i64 0)]) z8_2 (fun wq=>hbd12  wq) zN (e_setA (vs:=[(.int .i64 0),(.int .i64 0),(.int .i64 0),(.int .i64 0),(.int .i64 0)]) agg31 rfl rfl z8_0 hB1x4 rfl rfl zN fun w13 hC13 hz13 hB13=>?_)
      replace hB13:BX w13.heap w.heap.size [(.int .i64 0),(.int .i64 0),(.int .i64 0),(.int .i64 0),(.int .i64 0)]:=hB13
      have hE13:Ext w w13:=hC13.below hE4 (fun c hc=>by have:=List.mem_singleton.1 hc; omega) hE4.size
      have hzs13:w4.heap.size≤w13.heap.size:=hC13.size
      exact lw_tvn 1 rfl (wp_ret (b_ret (t_ret (post_retC (t0:=7) (ts:=[]) (cs:=[(.int .i64 0),(.int .i64 0),(.int .i64 0),(.int .i64 0),(.int .i64 0)]) [(.int .i64 ((1:Nat):Int))] rfl agg31 rfl hB13 rfl rfl ⟨z8_1,hE13⟩))))
  ·
    refine lw_tvn 5 rfl (c_cond_t rfl (wp_seq (wp_plain _ [0,4,0] rfl ?_)))
    have hA:rnA l ws k = 1:=rnA_1 (by rintro ⟨h8,h9⟩; simp_all)
    have hbd14:∀ (wq:World),(Instr.build 31 #[]).run Try.prog wq = .ok (.agg #[(.int .i64 0),(.int .i64 0),(.int .i64 0),(.int .i64 0),(.int .i64 0)]) wq:=by intro wq; kernel_rfl
    refine q_build (ps:=#[]) (.agg #[(.int .i64 0),(.int .i64 0),(.int .i64 0),(.int .i64 0),(.int .i64 0)]) z8_2 (fun wq=>hbd14  wq) zN (e_setA (vs:=[(.int .i64 0),(.int .i64 0),(.int .i64 0),(.int .i64 0),(.int .i64 0)]) agg31 rfl rfl z8_0 hB1x2 rfl rfl zN fun w15 hC15 hz15 hB15=>?_)
    replace hB15:BX w15.heap w.heap.size [(.int .i64 0),(.int .i64 0),(.int .i64 0),(.int .i64 0),(.int .i64 0)]:=hB15
    have hE15:Ext w w15:=hC15.below hE2 (fun c hc=>by have:=List.mem_singleton.1 hc; omega) hE2.size
    have hzs15:w2.heap.size≤w15.heap.size:=hC15.size
    exact lw_tvn 1 rfl (wp_ret (b_ret (t_ret (post_retC (t0:=7) (ts:=[]) (cs:=[(.int .i64 0),(.int .i64 0),(.int .i64 0),(.int .i64 0),(.int .i64 0)]) [(.int .i64 ((1:Nat):Int))] rfl agg31 rfl hB15 rfl rfl ⟨z8_1,hE15⟩))))
end Go.Proofs.Ytoacbkmejjhceaa
namespace Go.Proofs.Ytoacbkmejjhceaa
open Go Go.RowKit
set_option linter.unusedVariables false
set_option linter.unusedSimpArgs false
set_option maxHeartbeats 4000000
set_option maxRecDepth 100000
attribute [local irreducible] LW
theorem bld98a (a:Option Addr) (n c:Nat) (w:World):(Instr.build 65 #[(0,.slice a n c)]).run Try.prog w = .ok (.agg #[.slice a n c,.int .i64 0,.int .u64 0]) w:=by
  kernel_rfl
theorem bld98 {v:Value} {n:Nat} (h:isSl v n) (w:World):(Instr.build 65 #[(0,v)]).run Try.prog w = .ok (.agg #[v,.int .i64 0,.int .u64 0]) w:=by
  obtain ⟨a,c,rfl,_⟩:=h
  exact bld98a a n c w
end Go.Proofs.Ytoacbkmejjhceaa
namespace Go.Proofs.Ytoacbkmejjhceaa
open Go Go.RowKit
set_option linter.unusedVariables false
set_option linter.unusedSimpArgs false
set_option maxHeartbeats 4000000
set_option maxRecDepth 100000
attribute [local irreducible] LW
theorem c_spec_l06Begin (w:World) (n:Nat) (k:Nat) (_hn:n≤1000000000000) (_hk:k≤1000000000000) (hnk:n≤40∧k≤8) :
    Calls Try.prog 36 #[.int .i64 ((n:Nat):Int),.int .i64 ((k:Nat):Int)] w (fun e w'=>∃ (g:Nat) (vs:Value) (Fs:List Nat),e = .returned (.pointer (some ⟨g,0,none⟩))∧Ext w w'∧RnK 2 w'.heap g vs Fs (bgn ((n:Nat):Int) k)∧∀ b∈ZR g Fs,w.heap.size≤b):=by
  refine calls_mk [.int .i64 ((n:Nat):Int),.int .i64 ((k:Nat):Int)] 25 Try.func36 rfl rfl sM ?_
  have hE0:Ext w w:=Ext.refl w
  refine wp_seq (wp_plain _ [0] rfl (lw_tvn 1 rfl (wp_seq (wp_plain _ [0,0,3,0] rfl (lw_tv 1 rfl ?_)))))
  have hbd1:∀ (wq:World),(Instr.build 71 #[(1,(.int .i64 ((n:Nat):Int)))]).run Try.prog wq = .ok (.agg #[(.int .i64 0),(.int .i64 ((n:Nat):Int)),(.slice none 0 0)]) wq:=by intro wq; kernel_rfl
  refine q_build (ps:=#[(1,(.int .i64 ((n:Nat):Int)))]) (.agg #[(.int .i64 0),(.int .i64 ((n:Nat):Int)),(.slice none 0 0)]) (by simp only [List.map_toArray,List.map_cons,List.map_nil]; rfl) (fun wq=>hbd1  wq) zN (r_boxA (cs:=#[(.int .i64 0),(.int .i64 ((n:Nat):Int)),(.slice none 0 0)]) rfl zN fun w2 hX2 hz2 hB2=>?_)
  have hzs2:w.heap.size≤w2.heap.size:=hX2.size
  have hE2:Ext w w2:=hE0.trans hX2
  replace hB2:BX w2.heap w.heap.size [(.int .i64 0),(.int .i64 ((n:Nat):Int)),(.slice none 0 0)]:=hB2
  refine lw_tvn 1 rfl (wp_seq (wp_seq (wp_plain _ [0] rfl (lw_tvn 1 rfl (wp_block ?_)))))
  have hnl0:Fr (owL rI 2) w2.heap.size w2.heap.size w2.heap (.slice none 0 0) ([]:List Int):=frNilI
  refine c_loop (S:=Nat × Value) (fun (⟨j,vq⟩:Nat × Value)=>([(6,(.int .i64 ((j:Nat):Int))),(1,(.int .i64 ((k:Nat):Int))),(5,(.pointer (some ⟨w.heap.size,0,none⟩)))]:List (Nat × Value))) (fun (⟨j,vq⟩:Nat × Value) (W:World)=>Ext w W∧Fr (owL rI 2) w2.heap.size W.heap.size W.heap vq (List.replicate j (-1))∧BX W.heap w.heap.size [(.int .i64 0),(.int .i64 ((n:Nat):Int)),vq]∧j≤k∧w.heap.size < w2.heap.size∧w2.heap.size≤W.heap.size) (fun (⟨j,vq⟩:Nat × Value)=>k - j) (0,(.slice none 0 0)) ⟨rfl,rfl,rfl,trivial⟩ ⟨hE2,hnl0.up o1,hB2,oM,oM,oM⟩ ?_
  clear hE0 hz2 hX2
  rintro ⟨j,vq⟩ ρ4 w4 ⟨hE4,hL4_0,hL4_1,hp4_0,hkg3,hkB5⟩
  have hzs4:w.heap.size≤w4.heap.size:=hE4.size
  have hq6:=hL4_1.lt
  refine wp_seq (wp_seq (wp_plain _ [0,0,0] rfl (lw_tv 2 rfl ?_)))
  by_cases hc7:((j:Nat):Int) < ((k:Nat):Int)
  ·
    refine q_lss true rfl rfl (decide_eq_true hc7) zN (lw_nil (c_cond_t rfl (wp_skip (wp_seq (wp_block (wp_plain _ [0,0,0,0,2,3,4,0,0,4] rfl (lw_tv 2 rfl (q_nil rfl zN (q_fldP (p:=(.pointer (some ⟨w.heap.size,0,none⟩))) (b:=w.heap.size) (o:=0) 2 fd71_2 rfl rfl zN (q_load (p:=(padd (.pointer (some ⟨w.heap.size,0,none⟩)) 2)) (.inr rfl) vq one25 rfl (hL4_1.ldp (i:=2) sM) zN (r_one (u:=(.int .i64 (-1))) (B:=w4.heap.size) good_rI u25 ti2 rfl rfl (frI w4.heap.size w4.heap.size _ _ oM) (Nat.le_refl _) zN fun v8 w8 hX8 hz8 hO8=>?_)))))))))))
    have hzs8:w4.heap.size≤w8.heap.size:=hX8.size
    have hE8:Ext w w8:=hE4.trans hX8
    have hL4_0x8:=hL4_0.ext (o1) hX8
    have hL4_1x8:=hL4_1.ext hX8
    refine e_appI (v:=vq) (a:=v8) u25 ti2 rfl rfl rfl hL4_0x8 oM hO8.rd1 sD (by unfold maxLen; first | omega | assumption | (simp only [List.length_nil,List.length_cons,List.length_append,List.length_set,List.length_replicate]; omega) | (simp [List.length_nil,List.length_cons,List.length_append,List.length_set,List.length_replicate]; done) | (simp [List.length_nil,List.length_cons,List.length_append,List.length_set,List.length_replicate]; omega)) zN fun v9 w9 F9 hC9 hF9 hO9=>?_
    have hE9:Ext w w9:=hC9.below hE8 (fun c hc=>Nat.le_trans hE2.size (hF9 c hc).1) hE8.size
    have hzs9:w8.heap.size≤w9.heap.size:=hC9.size
    have hF10:=hL4_1x8.chg hC9 (fun hm=>by have:=hF9 _ hm; omega)
    refine q_nil rfl zN (q_fldP (p:=(.pointer (some ⟨w.heap.size,0,none⟩))) (b:=w.heap.size) (o:=0) 2 fd71_2 rfl rfl zN (e_setB (k:=2) (w:=w9) sz25 rfl rfl (isSl_one hO9.isSl) hF10 sM zN fun w12 hC12 hz12 hB12=>?_))
    replace hB12:BX w12.heap w.heap.size [(.int .i64 0),(.int .i64 ((n:Nat):Int)),v9]:=hB12
    have hzs12:w9.heap.size≤w12.heap.size:=hC12.size
    have hE12:Ext w w12:=hC12.below hE9 (fun c hc=>by have:=List.mem_singleton.1 hc; omega) hE9.size
    have hF14:=hO9.chg (o1) hC12 (fun c hc=>by have:=List.mem_singleton.1 hc; omega)
    exact lw_nil (wp_plain _ [0,0,0] rfl (lw_tv 1 rfl (q_add ((j + 1:Nat):Int) rfl rfl (w64n oM oM) zN (lw_tvn 1 rfl ⟨((j + 1),v9),_,rfl,⟨rfl,rfl,rfl,trivial⟩,⟨hE12,(by rw [List.replicate_succ']; exact hF14.up o1),hB12,oM,oM,oM⟩,by first | omega | (dsimp only; omega)⟩))))
  ·
    refine q_lss false rfl rfl (decide_eq_false hc7) zN (lw_nil (c_cond_f rfl (wp_exit (t_exit (t_exit (c_exit_here (wp_seq (wp_plain _ [0,0] rfl (lw_tvn 2 rfl (wp_ret ?_))))))))))
    obtain ⟨Fs9,hK9,hl9⟩:=rnk_new (B:=w.heap.size) hL4_1 hL4_0 oM oM
    exact post_ret [4] rfl (.pointer (some ⟨w.heap.size,0,none⟩)) rfl ⟨_,_,Fs9,rfl,hE4,(by have h9:=hK9; rw [show j = k from by omega] at h9; exact h9),hl9⟩
theorem z51_0 {p:Prop} (h:p:=by first | (rw [ps_1 oM]; done) | (rw [ps_1 oM]; rfl) | (rw [ps_2 oM]; done) | (rw [ps_2 oM]; rfl) | (rw [ps_4 oM]; exact decide_eq_decide.2 oM) | (rw [ps_4 oM]; rfl) | (rw [ps_3 oM]; first | (rw [decide_eq_true (show a.arg < ((z.slots.length:Nat):Int) by omega)]; rfl) | (rw [decide_eq_false (show ¬ a.arg < ((z.slots.length:Nat):Int) by omega)]; rfl)) | (exfalso; omega)):p:=h
theorem c_spec_l06Run_possible (w:World) (g:Nat) (vs:Value) (Fs:List Nat) (z:Cn) (n:Int) (a:Av) (hK:RnK 2 w.heap g vs Fs z) (ha:i64 a.kind∧i64 a.arg) (hn:0≤n∧n≤40) (hB:CnK n z) (hav:avK a) :
    Calls Try.prog 51 #[.pointer (some ⟨g,0,none⟩),(.agg #[(.int .i64 a.kind),(.int .i64 a.arg)])] w (fun e w'=>e = .returned (.bool (posA z a))∧Ext w w'):=by
  refine calls_mk [.pointer (some ⟨g,0,none⟩),(.agg #[(.int .i64 a.kind),(.int .i64 a.arg)])] 62 Try.func51 rfl rfl sM ?_
  have hE0:Ext w w:=Ext.refl w
  have hat0:=hB.at0
  have hatn:=hB.atn
  have hl0:=hB.l0
  have hln:=hB.ln
  unfold avK at hav
  refine wp_seq (wp_plain _ [3,0] rfl (r_boxA (cs:=#[(.int .i64 a.kind),(.int .i64 a.arg)]) rfl zN fun w1 hX1 hz1 hB1=>?_))
  have hzs1:w.heap.size≤w1.heap.size:=hX1.size
  have hE1:Ext w w1:=hE0.trans hX1
  have hKx2:=hK.ext hX1
  replace hB1:BX w1.heap w.heap.size [(.int .i64 a.kind),(.int .i64 a.arg)]:=hB1
  refine lw_tvn 1 rfl (wp_seq (wp_seq (wp_plain _ [0,2] rfl (q_fldP (p:=(.pointer (some ⟨w.heap.size,0,none⟩))) (b:=w.heap.size) (o:=0) 0 fd56_0 rfl rfl zN (q_load (p:=(padd (.pointer (some ⟨w.heap.size,0,none⟩)) 0)) (.inr rfl) (.int .i64 a.kind) one2 rfl (hB1.ldp (i:=0) sM) zN (lw_nil (wp_block (wp_seq (wp_plain _ [0,0] rfl ?_)))))))))
  by_cases hc3:a.kind = ((1:Nat):Int)
  ·
    refine q_eql true rfl rfl (decide_eq_true hc3) zN (lw_tvn 1 rfl (c_cond_t rfl (wp_seq (wp_draw _ [0,0,0,1,0,1,0,0,0,0,1,0,0] mixed (by kernel_rfl) (lw_tv 1 rfl (q_nilP ⟨_,_,rfl⟩ rfl zN (q_fldP (p:=(.pointer (some ⟨g,0,none⟩))) (b:=g) (o:=0) 0 fd71_0 rfl rfl zN (q_load (p:=(padd (.pointer (some ⟨g,0,none⟩)) 0)) (.inl rfl) (.int .i64 z.at_) one2 rfl ((hKx2.bx).ldp (i:=0) sM) zN (q_fldP (p:=(.pointer (some ⟨w.heap.size,0,none⟩))) (b:=w.heap.size) (o:=0) 1 fd56_1 rfl rfl zN (q_load (p:=(padd (.pointer (some ⟨w.heap.size,0,none⟩)) 1)) (.inl rfl) (.int .i64 a.arg) one2 rfl (hB1.ldp (i:=1) sM) zN ?_))))))))))
    refine q_add (z.at_ + a.arg) rfl rfl (w64 sD sD) zN (lw_tv 1 rfl (q_nilP ⟨_,_,rfl⟩ rfl zN ?_))
    refine q_fldP (p:=(.pointer (some ⟨g,0,none⟩))) (b:=g) (o:=0) 1 fd71_1 rfl rfl zN (q_load (p:=(padd (.pointer (some ⟨g,0,none⟩)) 1)) (.inl rfl) (.int .i64 z.left) one2 rfl ((hKx2.bx).ldp (i:=1) sM) zN (q_lss (decide (z.at_ + a.arg < z.left)) rfl rfl rfl zN (lw_tvn 1 rfl (wp_ret (b_ret (t_ret ?_))))))
    exact post_ret [4] rfl (.bool (decide (z.at_ + a.arg < z.left))) rfl ⟨(ret_bool z51_0),hE1.drew⟩
  ·
    refine q_eql false rfl rfl (decide_eq_false hc3) zN (lw_tvn 1 rfl (c_cond_f rfl (wp_seq (wp_plain _ [0,0] rfl ?_))))
    by_cases hc4:a.kind = ((2:Nat):Int)
    ·
      refine q_eql true rfl rfl (decide_eq_true hc4) zN (lw_tvn 1 rfl (c_cond_t rfl (wp_seq (wp_draw _ [0,1,0,0,0,1,0,0,0] mixed (by kernel_rfl) (q_fldP (p:=(.pointer (some ⟨w.heap.size,0,none⟩))) (b:=w.heap.size) (o:=0) 1 fd56_1 rfl rfl zN (q_load (p:=(padd (.pointer (some ⟨w.heap.size,0,none⟩)) 1)) (.inl rfl) (.int .i64 a.arg) one2 rfl (hB1.ldp (i:=1) sM) zN (lw_tv 1 rfl (q_nilP ⟨_,_,rfl⟩ rfl zN (q_fldP (p:=(.pointer (some ⟨g,0,none⟩))) (b:=g) (o:=0) 2 fd71_2 rfl rfl zN (q_load (p:=(padd (.pointer (some ⟨g,0,none⟩)) 2)) (.inl rfl) vs one25 rfl ((hKx2.bx).ldp (i:=2) sM) zN (q_len (v:=vs) u25 rfl (hKx2.sl.rd id).isSl zN (q_lss (decide (a.arg < ((z.slots.length:Nat):Int))) rfl rfl rfl zN ?_))))))))))))
      exact lw_tvn 1 rfl (wp_ret (b_ret (t_ret (post_ret [4] rfl (.bool (decide (a.arg < ((z.slots.length:Nat):Int)))) rfl ⟨(ret_bool z51_0),hE1.drew⟩))))
    ·
      refine q_eql false rfl rfl (decide_eq_false hc4) zN (lw_tvn 1 rfl (c_cond_f rfl (wp_seq (wp_plain _ [0,0] rfl ?_))))
      by_cases hc5:a.kind = ((3:Nat):Int)
      ·
        refine q_eql true rfl rfl (decide_eq_true hc5) zN (lw_tvn 1 rfl (c_cond_t rfl (wp_seq (wp_draw _ [0,1,0,0,0,1,0,0,0,0,0,0,1,0,1,0,1,0,0,0] mixed (by kernel_rfl) (q_fldP (p:=(.pointer (some ⟨w.heap.size,0,none⟩))) (b:=w.heap.size) (o:=0) 1 fd56_1 rfl rfl zN (q_load (p:=(padd (.pointer (some ⟨w.heap.size,0,none⟩)) 1)) (.inl rfl) (.int .i64 a.arg) one2 rfl (hB1.ldp (i:=1) sM) zN (lw_tv 1 rfl (q_nilP ⟨_,_,rfl⟩ rfl zN (q_fldP (p:=(.pointer (some ⟨g,0,none⟩))) (b:=g) (o:=0) 2 fd71_2 rfl rfl zN (q_load (p:=(padd (.pointer (some ⟨g,0,none⟩)) 2)) (.inl rfl) vs one25 rfl ((hKx2.bx).ldp (i:=2) sM) zN (q_len (v:=vs) u25 rfl (hKx2.sl.rd id).isSl zN ?_)))))))))))
        by_cases hc6:a.arg < ((z.slots.length:Nat):Int)
        ·
          refine q_lss true rfl rfl (decide_eq_true hc6) zN (lw_tv 2 rfl (q_nilP ⟨_,_,rfl⟩ rfl (zS (e:=41) rfl rfl rfl) (q_fldP (p:=(.pointer (some ⟨g,0,none⟩))) (b:=g) (o:=0) 2 fd71_2 rfl rfl (zS (e:=41) rfl rfl rfl) (q_load (p:=(padd (.pointer (some ⟨g,0,none⟩)) 2)) (.inl rfl) vs one25 rfl ((hKx2.bx).ldp (i:=2) sM) (zS (e:=41) rfl rfl rfl) (q_fldP (p:=(.pointer (some ⟨w.heap.size,0,none⟩))) (b:=w.heap.size) (o:=0) 1 fd56_1 rfl rfl (zS (e:=41) rfl rfl rfl) (q_load (p:=(padd (.pointer (some ⟨w.heap.size,0,none⟩)) 1)) (.inl rfl) (.int .i64 a.arg) one2 rfl (hB1.ldp (i:=1) sM) (zS (e:=41) rfl rfl rfl) ?_))))))
          refine q_idx (v:=vs) ((a.arg).toNat) u25 ti2 rfl rfl (hKx2.sl.rd id).isSl oM sD (zS (e:=41) rfl rfl rfl) ?_
          refine q_load (p:=eptr vs ((a.arg).toNat) 1) (.inl rfl) (.int .i64 (z.slots.getD ((a.arg).toNat) 0)) one2 rfl ((own_rdI hKx2.sl).getI (k:=((a.arg).toNat)) sD).1 (zS (e:=41) rfl rfl rfl) (q_geq (decide (((0:Nat):Int)≤z.slots.getD ((a.arg).toNat) 0)) rfl rfl rfl (zS (e:=41) rfl rfl rfl) (lw_tvn 2 rfl (wp_ret (b_ret (t_ret ?_)))))
          exact post_ret [4] rfl (.bool (decide (((0:Nat):Int)≤z.slots.getD ((a.arg).toNat) 0))) rfl ⟨(ret_bool z51_0),hE1.drew⟩
        ·
          exact q_lss false rfl rfl (decide_eq_false hc6) zN (lw_tvn 12 rfl (wp_ret (b_ret (t_ret (post_ret [4] rfl (.bool false) rfl ⟨(ret_bool z51_0),hE1.drew⟩)))))
      ·
        refine q_eql false rfl rfl (decide_eq_false hc5) zN (lw_tvn 1 rfl (c_cond_f rfl (wp_skip (wp_seq (wp_draw _ [0,0,0,1,0,0,0,1,0,0,0] mixed (by kernel_rfl) (lw_tv 1 rfl (q_nilP ⟨_,_,rfl⟩ rfl zN (q_fldP (p:=(.pointer (some ⟨g,0,none⟩))) (b:=g) (o:=0) 0 fd71_0 rfl rfl zN (q_load (p:=(padd (.pointer (some ⟨g,0,none⟩)) 0)) (.inl rfl) (.int .i64 z.at_) one2 rfl ((hKx2.bx).ldp (i:=0) sM) zN (lw_tv 1 rfl (q_nilP ⟨_,_,rfl⟩ rfl zN (q_fldP (p:=(.pointer (some ⟨g,0,none⟩))) (b:=g) (o:=0) 1 fd71_1 rfl rfl zN (q_load (p:=(padd (.pointer (some ⟨g,0,none⟩)) 1)) (.inl rfl) (.int .i64 z.left) one2 rfl ((hKx2.bx).ldp (i:=1) sM) zN ?_)))))))))))))
        refine q_sub (z.left - ((1:Nat):Int)) rfl rfl (w64 sD sD) zN (q_eql (decide (z.at_ = z.left - ((1:Nat):Int))) rfl rfl rfl zN ?_)
        exact lw_tvn 1 rfl (wp_ret (post_ret [4] rfl (.bool (decide (z.at_ = z.left - ((1:Nat):Int)))) rfl ⟨(ret_bool z51_0),hE1.drew⟩))
theorem z52_0 {p:Prop} (h:p:=by first | (rw [← act_1 oM]; exact hKr) | (rw [← act_2 oM]; exact hKr) | (rw [← act_3 oM]; exact hKr) | (rw [← act_4 oM]; exact hKr) | (exfalso; omega)):p:=h
theorem c_spec_l06Run_act (w:World) (g:Nat) (vs:Value) (Fs:List Nat) (z:Cn) (n:Int) (a:Av) (hK:RnK 2 w.heap g vs Fs z) (ha:i64 a.kind∧i64 a.arg) (hn:0≤n∧n≤40) (hB:CnK n z) (hav:avK a) (hp:posA z a = true) :
    Calls Try.prog 52 #[.pointer (some ⟨g,0,none⟩),(.agg #[(.int .i64 a.kind),(.int .i64 a.arg)])] w (fun e w'=>e = .returned (.tuple #[])∧Chg (ZR g Fs) w w'∧RnK 2 w'.heap g vs Fs (actA z a)):=by
  refine calls_mk [.pointer (some ⟨g,0,none⟩),(.agg #[(.int .i64 a.kind),(.int .i64 a.arg)])] 52 Try.func52 rfl rfl sM ?_
  have hE0:Chg (ZR g Fs) w w:=Chg.refl (ZR g Fs) w
  have hl_vs:=hK.sl.lenle
  unfold maxLen at hl_vs
  have hgl:=hK.bx.lt
  have hZl:=hK.lt
  have hat0:=hB.at0
  have hatn:=hB.atn
  have hl0:=hB.l0
  have hln:=hB.ln
  unfold avK at hav
  have hps:=ps_sl hp
  refine wp_seq (wp_plain _ [3] rfl ?_)
  have hq2:=hK.bx.lt
  refine r_boxA (cs:=#[(.int .i64 a.kind),(.int .i64 a.arg)]) rfl zN fun w1 hX1 hz1 hB1=>?_
  have hzs1:w.heap.size≤w1.heap.size:=hX1.size
  have hE1:Chg (ZR g Fs) w w1:=hE0.ext hX1
  have hF3:=hK.bx.ext hX1
  have hF4:=own_ext (o1) hK.sl hX1
  replace hB1:BX w1.heap w.heap.size [(.int .i64 a.kind),(.int .i64 a.arg)]:=hB1
  refine lw_nil (wp_seq (wp_plain _ [0,2] rfl (q_fldP (p:=(.pointer (some ⟨w.heap.size,0,none⟩))) (b:=w.heap.size) (o:=0) 0 fd56_0 rfl rfl zN (q_load (p:=(padd (.pointer (some ⟨w.heap.size,0,none⟩)) 0)) (.inr rfl) (.int .i64 a.kind) one2 rfl (hB1.ldp (i:=0) sM) zN (lw_nil (wp_block (wp_seq (wp_plain _ [0,0] rfl ?_))))))))
  by_cases hc5:a.kind = ((1:Nat):Int)
  ·
    refine q_eql true rfl rfl (decide_eq_true hc5) zN (lw_tvn 1 rfl (c_cond_t rfl (wp_draw _ [0,0,0,1,0,1,0,0,0,4] mixed (by kernel_rfl) (lw_tv 1 rfl (q_nil rfl zN (q_fldP (p:=(.pointer (some ⟨g,0,none⟩))) (b:=g) (o:=0) 0 fd71_0 rfl rfl zN (q_load (p:=(padd (.pointer (some ⟨g,0,none⟩)) 0)) (.inl rfl) (.int .i64 z.at_) one2 rfl (hF3.ldp (i:=0) sM) zN (q_fldP (p:=(.pointer (some ⟨w.heap.size,0,none⟩))) (b:=w.heap.size) (o:=0) 1 fd56_1 rfl rfl zN (q_load (p:=(padd (.pointer (some ⟨w.heap.size,0,none⟩)) 1)) (.inl rfl) (.int .i64 a.arg) one2 rfl (hB1.ldp (i:=1) sM) zN ?_)))))))))
    refine q_add (z.at_ + a.arg) rfl rfl (w64 sD sD) zN (q_nil rfl zN ?_)
    refine q_fldP (p:=(.pointer (some ⟨g,0,none⟩))) (b:=g) (o:=0) 0 fd71_0 rfl rfl zN (e_setB (k:=0) (w:=w1.drew) sz2 rfl rfl ⟨rfl,rfl⟩ hF3 sM zN fun w6 hC6 hz6 hB6=>?_)
    replace hB6:BX w6.heap g [(.int .i64 (z.at_ + a.arg)),(.int .i64 z.left),vs]:=hB6
    replace hC6:=hC6.of_drew
    have hzs6:w1.heap.size≤w6.heap.size:=hC6.size
    have hE6:Chg (ZR g Fs) w w6:=hE1.trans (hC6.sub zr_g)
    have hF7:=owI_chg hF4 hC6 (fun b hb hm=>hK.d.gs ((List.mem_singleton.1 hm) ▸ hb))
    refine lw_nil ?_
    have hKr:RnK 2 w6.heap g vs Fs (⟨z.at_ + a.arg,z.left,z.slots⟩:Cn):=⟨hB6,hF7,hK.sn,hK.d⟩
    unfold Exit.inBlock
    exact post_end [] rfl (.tuple #[]) rfl ⟨rfl,hE6,z52_0⟩
  ·
    refine q_eql false rfl rfl (decide_eq_false hc5) zN (lw_tvn 1 rfl (c_cond_f rfl (wp_seq (wp_plain _ [0,0] rfl ?_))))
    by_cases hc9:a.kind = ((2:Nat):Int)
    ·
      refine q_eql true rfl rfl (decide_eq_true hc9) zN (lw_tvn 1 rfl (c_cond_t rfl ?_))
      letI:JR:=jrC Fs
      refine Jx.wp_draw _ [0,0,0,1,0,1,0,0,0,1,0,3] mixed (by kernel_rfl) ?_
      have hjz10:g∉Fs:=hK.d.gs
      have hjl10:∀ x∈Fs,x < w.heap.size:=fun x hx=>hZl _ (zr_s _ hx)
      refine Jx.q_move (.pointer (some ⟨g,0,none⟩)) rfl zN (Jx.j1 (q_nil rfl zN (lw_nil (Jx.j1 (q_fldP (p:=(.pointer (some ⟨g,0,none⟩))) (b:=g) (o:=0) 2 fd71_2 rfl rfl zN (lw_nil (Jx.q_loadJ (p:=(padd (.pointer (some ⟨g,0,none⟩)) 2)) vs one25 rfl (fun wj hj=>(BX.chg (w:=w1.drew) (F:=Fs) hF3 hj hjz10).ldp (i:=2) sM) zN (Jx.j1 (q_fldP (p:=(.pointer (some ⟨w.heap.size,0,none⟩))) (b:=w.heap.size) (o:=0) 1 fd56_1 rfl rfl zN (lw_nil (Jx.q_loadJ (p:=(padd (.pointer (some ⟨w.heap.size,0,none⟩)) 1)) (.int .i64 a.arg) one2 rfl (fun wj hj=>(BX.chg (w:=w1.drew) (F:=Fs) hB1 hj (fun hm=>by have:=hjl10 _ hm; omega)).ldp (i:=1) sM) zN (Jx.q_move (.pointer (some ⟨g,0,none⟩)) rfl zN (Jx.j1 ?_)))))))))))))
      refine q_nil rfl zN (lw_nil (Jx.j1 (q_fldP (p:=(.pointer (some ⟨g,0,none⟩))) (b:=g) (o:=0) 0 fd71_0 rfl rfl zN (lw_nil (Jx.q_loadJ (p:=(padd (.pointer (some ⟨g,0,none⟩)) 0)) (.int .i64 z.at_) one2 rfl (fun wj hj=>(BX.chg (w:=w1.drew) (F:=Fs) hF3 hj hjz10).ldp (i:=0) sM) zN (Jx.j1 (q_idx (v:=vs) ((a.arg).toNat) u25 ti2 rfl rfl (hF4.rd id).isSl oM sD zN (lw_nil (Jx.lift3 ?_)))))))))
      refine e_set0 (v:=vs) (w:=w1.drew) sz2 rfl rfl oM hF4 hK.sn sD zN fun w11 hC11 hz11 hO11=>?_
      replace hC11:=hC11.of_drew
      have hzs11:w1.heap.size≤w11.heap.size:=hC11.size
      have hE11:Chg (ZR g Fs) w w11:=hE1.trans (hC11.sub zr_s)
      have hF12:=hF3.chg hC11 hK.d.gs
      refine lw_nil ⟨⟨hC11.os,hC11.tape,hC11.output,hC11.size,hC11.block⟩,?_⟩
      refine Jx.lw_nil ?_
      have hKr:RnK 2 w11.heap g vs Fs (⟨z.at_,z.left,z.slots.set ((a.arg).toNat) z.at_⟩:Cn):=⟨hF12,hO11,hK.sn,hK.d⟩
      unfold Exit.inBlock
      exact post_end [] rfl (.tuple #[]) rfl ⟨rfl,hE11,z52_0⟩
    ·
      refine q_eql false rfl rfl (decide_eq_false hc9) zN (lw_tvn 1 rfl (c_cond_f rfl (wp_seq (wp_plain _ [0,0] rfl ?_))))
      by_cases hc14:a.kind = ((3:Nat):Int)
      ·
        refine q_eql true rfl rfl (decide_eq_true hc14) zN (lw_tvn 1 rfl (c_cond_t rfl (wp_draw _ [0,0,0,0,1,0,1,0,1,0,0,4] mixed (by kernel_rfl) (lw_tv 2 rfl (q_nil rfl zN (q_fldP (p:=(.pointer (some ⟨g,0,none⟩))) (b:=g) (o:=0) 2 fd71_2 rfl rfl zN (q_load (p:=(padd (.pointer (some ⟨g,0,none⟩)) 2)) (.inl rfl) vs one25 rfl (hF3.ldp (i:=2) sM) zN (q_fldP (p:=(.pointer (some ⟨w.heap.size,0,none⟩))) (b:=w.heap.size) (o:=0) 1 fd56_1 rfl rfl zN (q_load (p:=(padd (.pointer (some ⟨w.heap.size,0,none⟩)) 1)) (.inl rfl) (.int .i64 a.arg) one2 rfl (hB1.ldp (i:=1) sM) zN ?_)))))))))
        refine q_idx (v:=vs) ((a.arg).toNat) u25 ti2 rfl rfl (hF4.rd id).isSl oM sD zN ?_
        refine q_load (p:=eptr vs ((a.arg).toNat) 1) (.inl rfl) (.int .i64 (z.slots.getD ((a.arg).toNat) 0)) one2 rfl ((own_rdI hF4).getI (k:=((a.arg).toNat)) sD).1 zN (q_nil rfl zN (q_fldP (p:=(.pointer (some ⟨g,0,none⟩))) (b:=g) (o:=0) 0 fd71_0 rfl rfl zN (e_setB (k:=0) (w:=w1.drew) sz2 rfl rfl ⟨rfl,rfl⟩ hF3 sM zN fun w15 hC15 hz15 hB15=>?_)))
        replace hB15:BX w15.heap g [(.int .i64 (z.slots.getD ((a.arg).toNat) 0)),(.int .i64 z.left),vs]:=hB15
        replace hC15:=hC15.of_drew
        have hzs15:w1.heap.size≤w15.heap.size:=hC15.size
        have hE15:Chg (ZR g Fs) w w15:=hE1.trans (hC15.sub zr_g)
        have hF16:=owI_chg hF4 hC15 (fun b hb hm=>hK.d.gs ((List.mem_singleton.1 hm) ▸ hb))
        refine lw_nil ?_
        have hKr:RnK 2 w15.heap g vs Fs (⟨z.slots.getD ((a.arg).toNat) 0,z.left,z.slots⟩:Cn):=⟨hB15,hF16,hK.sn,hK.d⟩
        unfold Exit.inBlock
        exact post_end [] rfl (.tuple #[]) rfl ⟨rfl,hE15,z52_0⟩
      ·
        refine q_eql false rfl rfl (decide_eq_false hc14) zN (lw_tvn 1 rfl (c_cond_f rfl (wp_seq (wp_plain _ [0,0] rfl ?_))))
        by_cases hc18:a.kind = ((4:Nat):Int)
        ·
          refine q_eql true rfl rfl (decide_eq_true hc18) zN (lw_tvn 1 rfl (c_cond_t rfl (wp_plain _ [0,0,0,0,2,0,0,4] rfl (lw_tv 2 rfl (q_nil rfl zN (q_fldP (p:=(.pointer (some ⟨g,0,none⟩))) (b:=g) (o:=0) 0 fd71_0 rfl rfl zN (q_load (p:=(padd (.pointer (some ⟨g,0,none⟩)) 0)) (.inr rfl) (.int .i64 z.at_) one2 rfl (hF3.ldp (i:=0) sM) zN (q_nil rfl zN (q_fldP (p:=(.pointer (some ⟨g,0,none⟩))) (b:=g) (o:=0) 1 fd71_1 rfl rfl zN (e_setB (k:=1) (w:=w1) sz2 rfl rfl ⟨rfl,rfl⟩ hF3 sM zN fun w19 hC19 hz19 hB19=>?_))))))))))
          replace hB19:BX w19.heap g [(.int .i64 z.at_),(.int .i64 z.at_),vs]:=hB19
          have hzs19:w1.heap.size≤w19.heap.size:=hC19.size
          have hE19:Chg (ZR g Fs) w w19:=hE1.trans (hC19.sub zr_g)
          have hF20:=owI_chg hF4 hC19 (fun b hb hm=>hK.d.gs ((List.mem_singleton.1 hm) ▸ hb))
          refine lw_nil ?_
          have hKr:RnK 2 w19.heap g vs Fs (⟨z.at_,z.at_,z.slots⟩:Cn):=⟨hB19,hF20,hK.sn,hK.d⟩
          unfold Exit.inBlock
          exact post_end [] rfl (.tuple #[]) rfl ⟨rfl,hE19,z52_0⟩
        ·
          refine q_eql false rfl rfl (decide_eq_false hc18) zN (lw_tvn 1 rfl (c_cond_f rfl (wp_skip ?_)))
          have hKr:RnK 2 w1.heap g vs Fs (⟨z.at_,z.left,z.slots⟩:Cn):=⟨hF3,hF4,hK.sn,hK.d⟩
          unfold Exit.inBlock
          exact post_end [] rfl (.tuple #[]) rfl ⟨rfl,hE1,z52_0⟩
end Go.Proofs.Ytoacbkmejjhceaa
namespace Go.Proofs.Ytoacbkmejjhceaa
open Go Go.RowKit
set_option linter.unusedVariables false
set_option linter.unusedSimpArgs false
set_option maxHeartbeats 4000000
set_option maxRecDepth 100000
attribute [local irreducible] LW
theorem zq35_0 {p:Prop} (h:p:=by first | (exfalso; omega) | (have h9:n0 < cs.length:=by omega); exact ⟨btq_in h9,rfl⟩ | (have h9:cs.length≤n0:=by omega); exact ⟨btq_end hsd h9,rfl⟩):p:=h
theorem zq35_1 {p:Prop} (h:p:=by first | (exfalso; omega) | (have h9:n0 < cs.length:=by omega); exact sdq_in hsd h9 | (have h9:cs.length≤n0:=by omega); exact sdq_out hsd h9):p:=h
theorem zq35_2 {p:Prop} (h:p:=by kernel_rfl):p:=h
theorem cq_spec_l00Src_next (w:World) (g:Nat) (sv:Value) (cs:List UInt8) (n0:Nat) (hs:SrQ w.heap g sv cs n0) (hn0:n0 + 1≤1000000000000000000)  :
    Calls Try.prog 35 #[.pointer (some ⟨g,0,none⟩)] w (fun e w'=>∃ (x0:Int) (n1:Nat),e = .returned (.int .i64 x0)∧Chg [g] w w'∧SrQ w'.heap g sv cs n1∧(n0≤n1∧n1≤n0 + 1)∧(x0 = btq cs n0∧n1 = n0 + 1)):=by
  refine calls_mk [.pointer (some ⟨g,0,none⟩)] 62 Try.func35 rfl rfl sM ?_
  have hE0:Chg [g] w w:=Chg.refl [g] w
  have hgl:=hs.lt
  obtain ⟨sd,hbx,hsd,hrs⟩:=hs.parts
  have hl_sv:=(hrs _ (Chg.refl [g] w)).lenle
  refine wp_seq (wp_plain _ [0] rfl (lw_tvn 1 rfl (wp_seq (wp_plain _ [0] rfl (lw_tvn 1 rfl (wp_seq (wp_seq (wp_draw _ [0,0,0,1,0,0,0,1,0,0] mixed zq35_2 (lw_tv 1 rfl (q_nil rfl zN (q_fld 1 zq35_2 rfl zN (q_load (p:=(.pointer (some ⟨g,1,none⟩))) (.inl rfl) (.int .i64 ((n0:Nat):Int)) one3 rfl (hbx.ld (k:=1) sM) zN (lw_tv 1 rfl (q_nil rfl zN (q_fld 0 zq35_2 rfl zN (q_load (p:=(.pointer (some ⟨g,0,none⟩))) (.inl rfl) sv one22 rfl (hbx.ld (k:=0) sM) zN (q_len (v:=sv) u22 rfl (hrs _ hE0.drew).isSl zN ?_)))))))))))))))))
  by_cases hc1:((n0:Nat):Int) < ((cs.length:Nat):Int)
  ·
    refine q_lss true rfl rfl (decide_eq_true hc1) zN (lw_nil (c_cond_t rfl (wp_draw _ [0,0,0,1,0,0,0,1,0,1,0,0] mixed zq35_2 (lw_tv 1 rfl (q_nil rfl zN (q_fld 0 zq35_2 rfl zN (q_load (p:=(.pointer (some ⟨g,0,none⟩))) (.inl rfl) sv one22 rfl (hbx.ld (k:=0) sM) zN (lw_tv 1 rfl (q_nil rfl zN (q_fld 1 zq35_2 rfl zN (q_load (p:=(.pointer (some ⟨g,1,none⟩))) (.inl rfl) (.int .i64 ((n0:Nat):Int)) one3 rfl (hbx.ld (k:=1) sM) zN ?_)))))))))))
    refine q_idx (v:=sv) n0 u22 ti5 rfl rfl (hrs _ hE0.drew.drew).isSl rfl sD zN ?_
    refine q_load (p:=eptr sv n0 1) (.inl rfl) (.int .u8 ((cs.getD n0 0).toNat:Int)) one5 rfl ((hrs _ hE0.drew.drew).getU sD).1 zN (q_conv ((cs.getD n0 0).toNat:Int) u5 u3 rfl (w8 _) zN (lw_tvn 1 rfl (wp_seq (wp_plain _ [0,0,0,2,0,0,0,4] rfl (lw_tv 1 rfl (q_nil rfl zN (q_fld 1 zq35_2 rfl zN (q_load (p:=(.pointer (some ⟨g,1,none⟩))) (.inr rfl) (.int .i64 ((n0:Nat):Int)) one3 rfl (hbx.ld (k:=1) sM) zN ?_))))))))
    refine q_add ((n0 + 1:Nat):Int) rfl rfl (w64n oM sD) zN (q_nil rfl zN (q_fld 1 zq35_2 rfl zN (e_setB (w:=w.drew.drew) sz3 rfl rfl ⟨rfl,rfl⟩ hbx sM zN fun w2 hC2 hz2 hB2=>?_)))
    replace hC2:=hC2.of_drew
    replace hC2:=hC2.of_drew
    have hE2:Chg [g] w w2:=hE0.trans hC2
    have hBx2:BX w2.heap g [sv,(.int .i64 ((n0 + 1:Nat):Int)),(.int .u64 sd)]:=hB2
    refine lw_nil (wp_seq (wp_plain _ [0,0,0,0,2,0,0,0,0,0,0,0,4] rfl (lw_tv 2 rfl (q_nil rfl zN (q_fld 2 zq35_2 rfl zN (q_load (p:=(.pointer (some ⟨g,2,none⟩))) (.inr rfl) (.int .u64 sd) one63 rfl (hBx2.ld (k:=2) sM) zN (q_mul (IntKind.u64.wrap (sd * 6364136223846793005)) rfl rfl rfl zN (lw_tv 1 rfl (q_conv (IntKind.u64.wrap (((cs.getD n0 0).toNat:Int))) u3 u63 rfl rfl zN (q_add (IntKind.u64.wrap ((IntKind.u64.wrap (sd * 6364136223846793005)) + (IntKind.u64.wrap (((cs.getD n0 0).toNat:Int))))) rfl rfl rfl zN (q_add (IntKind.u64.wrap ((IntKind.u64.wrap ((IntKind.u64.wrap (sd * 6364136223846793005)) + (IntKind.u64.wrap (((cs.getD n0 0).toNat:Int))))) + 1442695040888963407)) rfl rfl rfl zN (q_nil rfl zN ?_))))))))))))
    refine q_fld 2 zq35_2 rfl zN (e_setB (w:=w2) sz63 rfl rfl ⟨rfl,rfl⟩ hBx2 sM zN fun w3 hC3 hz3 hB3=>?_)
    have hE3:Chg [g] w w3:=hE2.trans hC3
    have hBx3:BX w3.heap g [sv,(.int .i64 ((n0 + 1:Nat):Int)),(.int .u64 (IntKind.u64.wrap ((IntKind.u64.wrap ((IntKind.u64.wrap (sd * 6364136223846793005)) + (IntKind.u64.wrap (((cs.getD n0 0).toNat:Int))))) + 1442695040888963407)))]:=hB3
    refine lw_nil (wp_seq (wp_seq (wp_draw _ [0,0,0,1,0,0,0,1,0,0] mixed zq35_2 (lw_tv 1 rfl (q_nil rfl zN (q_fld 1 zq35_2 rfl zN (q_load (p:=(.pointer (some ⟨g,1,none⟩))) (.inl rfl) (.int .i64 ((n0 + 1:Nat):Int)) one3 rfl (hBx3.ld (k:=1) sM) zN (lw_tv 1 rfl (q_nil rfl zN (q_fld 0 zq35_2 rfl zN (q_load (p:=(.pointer (some ⟨g,0,none⟩))) (.inl rfl) sv one22 rfl (hBx3.ld (k:=0) sM) zN (q_len (v:=sv) u22 rfl (hrs _ hE3.drew).isSl zN ?_))))))))))))
    by_cases hc4:((n0 + 1:Nat):Int)≤((cs.length:Nat):Int)
    ·
      refine q_leq true rfl rfl (decide_eq_true hc4) zN (lw_nil (c_cond_t rfl (wp_seq (wp_plain _ [0,0] rfl (lw_tvn 2 rfl (wp_ret (t_ret ?_)))))))
      have hu8:=u8_lt (cs.getD n0 0)
      exact post_ret [2] rfl (.int .i64 ((cs.getD n0 0).toNat:Int)) rfl ⟨((cs.getD n0 0).toNat:Int),n0 + 1,rfl,hE3.drew,(hs.close hE3.drew hBx3 zq35_1),⟨by omega,by omega⟩,zq35_0⟩
    ·
      refine q_leq false rfl rfl (decide_eq_false hc4) zN (lw_nil (c_cond_f rfl (wp_skip (wp_seq (wp_plain _ [0,0,0,2,0,0,0,0] rfl (lw_tv 1 rfl (q_nil rfl zN (q_fld 2 zq35_2 rfl zN (q_load (p:=(.pointer (some ⟨g,2,none⟩))) (.inr rfl) (.int .u64 (IntKind.u64.wrap ((IntKind.u64.wrap ((IntKind.u64.wrap (sd * 6364136223846793005)) + (IntKind.u64.wrap (((cs.getD n0 0).toNat:Int))))) + 1442695040888963407))) one63 rfl (hBx3.ld (k:=2) sM) zN (q_shr ((IntKind.u64.wrap ((IntKind.u64.wrap ((IntKind.u64.wrap (sd * 6364136223846793005)) + (IntKind.u64.wrap (((cs.getD n0 0).toNat:Int))))) + 1442695040888963407)).fdiv (2 ^ (min (40:Int).toNat (IntKind.u64).bits))) rfl rfl oM rfl zN (q_and rfl rfl zN ?_)))))))))))
      refine q_conv (andV .u64 ((IntKind.u64.wrap ((IntKind.u64.wrap ((IntKind.u64.wrap (sd * 6364136223846793005)) + (IntKind.u64.wrap (((cs.getD n0 0).toNat:Int))))) + 1442695040888963407)).fdiv (2 ^ (min (40:Int).toNat (IntKind.u64).bits))) 255) u63 u2 rfl (wand _) zN (lw_tvn 1 rfl (wp_ret ?_))
      have hu8:=u8_lt (cs.getD n0 0)
      exact post_ret [2] rfl (.int .i64 (andV .u64 ((IntKind.u64.wrap ((IntKind.u64.wrap ((IntKind.u64.wrap (sd * 6364136223846793005)) + (IntKind.u64.wrap (((cs.getD n0 0).toNat:Int))))) + 1442695040888963407)).fdiv (2 ^ (min (40:Int).toNat (IntKind.u64).bits))) 255)) rfl ⟨andV .u64 ((IntKind.u64.wrap ((IntKind.u64.wrap ((IntKind.u64.wrap (sd * 6364136223846793005)) + (IntKind.u64.wrap (((cs.getD n0 0).toNat:Int))))) + 1442695040888963407)).fdiv (2 ^ (min (40:Int).toNat (IntKind.u64).bits))) 255,n0 + 1,rfl,hE3.drew,(hs.close hE3.drew hBx3 zq35_1),⟨by omega,by omega⟩,zq35_0⟩
  ·
    refine q_lss false rfl rfl (decide_eq_false hc1) zN (lw_nil (c_cond_f rfl (wp_skip (wp_seq (wp_plain _ [0,0,0,2,0,0,0,4] rfl (lw_tv 1 rfl (q_nil rfl zN (q_fld 1 zq35_2 rfl zN (q_load (p:=(.pointer (some ⟨g,1,none⟩))) (.inr rfl) (.int .i64 ((n0:Nat):Int)) one3 rfl (hbx.ld (k:=1) sM) zN (q_add ((n0 + 1:Nat):Int) rfl rfl (w64n oM sD) zN (q_nil rfl zN ?_)))))))))))
    refine q_fld 1 zq35_2 rfl zN (e_setB (w:=w.drew) sz3 rfl rfl ⟨rfl,rfl⟩ hbx sM zN fun w5 hC5 hz5 hB5=>?_)
    replace hC5:=hC5.of_drew
    have hE5:Chg [g] w w5:=hE0.trans hC5
    have hBx5:BX w5.heap g [sv,(.int .i64 ((n0 + 1:Nat):Int)),(.int .u64 sd)]:=hB5
    refine lw_nil (wp_seq (wp_plain _ [0,0,0,0,2,0,0,0,0,0,0,0,4] rfl (lw_tv 2 rfl (q_nil rfl zN (q_fld 2 zq35_2 rfl zN (q_load (p:=(.pointer (some ⟨g,2,none⟩))) (.inr rfl) (.int .u64 sd) one63 rfl (hBx5.ld (k:=2) sM) zN (q_mul (IntKind.u64.wrap (sd * 6364136223846793005)) rfl rfl rfl zN (lw_tv 1 rfl (q_conv (IntKind.u64.wrap (((0:Nat):Int))) u3 u63 rfl rfl zN (q_add (IntKind.u64.wrap ((IntKind.u64.wrap (sd * 6364136223846793005)) + (IntKind.u64.wrap (((0:Nat):Int))))) rfl rfl rfl zN (q_add (IntKind.u64.wrap ((IntKind.u64.wrap ((IntKind.u64.wrap (sd * 6364136223846793005)) + (IntKind.u64.wrap (((0:Nat):Int))))) + 1442695040888963407)) rfl rfl rfl zN (q_nil rfl zN (q_fld 2 zq35_2 rfl zN ?_)))))))))))))
    refine e_setB (w:=w5) sz63 rfl rfl ⟨rfl,rfl⟩ hBx5 sM zN fun w6 hC6 hz6 hB6=>?_
    have hE6:Chg [g] w w6:=hE5.trans hC6
    have hBx6:BX w6.heap g [sv,(.int .i64 ((n0 + 1:Nat):Int)),(.int .u64 (IntKind.u64.wrap ((IntKind.u64.wrap ((IntKind.u64.wrap (sd * 6364136223846793005)) + (IntKind.u64.wrap (((0:Nat):Int))))) + 1442695040888963407)))]:=hB6
    refine lw_nil (wp_seq (wp_seq (wp_draw _ [0,0,0,1,0,0,0,1,0,0] mixed zq35_2 (lw_tv 1 rfl (q_nil rfl zN (q_fld 1 zq35_2 rfl zN (q_load (p:=(.pointer (some ⟨g,1,none⟩))) (.inl rfl) (.int .i64 ((n0 + 1:Nat):Int)) one3 rfl (hBx6.ld (k:=1) sM) zN (lw_tv 1 rfl (q_nil rfl zN (q_fld 0 zq35_2 rfl zN (q_load (p:=(.pointer (some ⟨g,0,none⟩))) (.inl rfl) sv one22 rfl (hBx6.ld (k:=0) sM) zN (q_len (v:=sv) u22 rfl (hrs _ hE6.drew).isSl zN ?_))))))))))))
    by_cases hc7:((n0 + 1:Nat):Int)≤((cs.length:Nat):Int)
    ·
      refine q_leq true rfl rfl (decide_eq_true hc7) zN (lw_nil (c_cond_t rfl (wp_seq (wp_plain _ [0,0] rfl (lw_tvn 2 rfl (wp_ret (t_ret ?_)))))))
      have hu8:=u8_lt (cs.getD n0 0)
      exact post_ret [2] rfl (.int .i64 ((0:Nat):Int)) rfl ⟨((0:Nat):Int),n0 + 1,rfl,hE6.drew,(hs.close hE6.drew hBx6 zq35_1),⟨by omega,by omega⟩,zq35_0⟩
    ·
      refine q_leq false rfl rfl (decide_eq_false hc7) zN (lw_nil (c_cond_f rfl (wp_skip (wp_seq (wp_plain _ [0,0,0,2,0,0,0,0] rfl (lw_tv 1 rfl (q_nil rfl zN (q_fld 2 zq35_2 rfl zN (q_load (p:=(.pointer (some ⟨g,2,none⟩))) (.inr rfl) (.int .u64 (IntKind.u64.wrap ((IntKind.u64.wrap ((IntKind.u64.wrap (sd * 6364136223846793005)) + (IntKind.u64.wrap (((0:Nat):Int))))) + 1442695040888963407))) one63 rfl (hBx6.ld (k:=2) sM) zN (q_shr ((IntKind.u64.wrap ((IntKind.u64.wrap ((IntKind.u64.wrap (sd * 6364136223846793005)) + (IntKind.u64.wrap (((0:Nat):Int))))) + 1442695040888963407)).fdiv (2 ^ (min (40:Int).toNat (IntKind.u64).bits))) rfl rfl oM rfl zN (q_and rfl rfl zN ?_)))))))))))
      refine q_conv (andV .u64 ((IntKind.u64.wrap ((IntKind.u64.wrap ((IntKind.u64.wrap (sd * 6364136223846793005)) + (IntKind.u64.wrap (((0:Nat):Int))))) + 1442695040888963407)).fdiv (2 ^ (min (40:Int).toNat (IntKind.u64).bits))) 255) u63 u2 rfl (wand _) zN (lw_tvn 1 rfl (wp_ret ?_))
      have hu8:=u8_lt (cs.getD n0 0)
      exact post_ret [2] rfl (.int .i64 (andV .u64 ((IntKind.u64.wrap ((IntKind.u64.wrap ((IntKind.u64.wrap (sd * 6364136223846793005)) + (IntKind.u64.wrap (((0:Nat):Int))))) + 1442695040888963407)).fdiv (2 ^ (min (40:Int).toNat (IntKind.u64).bits))) 255)) rfl ⟨andV .u64 ((IntKind.u64.wrap ((IntKind.u64.wrap ((IntKind.u64.wrap (sd * 6364136223846793005)) + (IntKind.u64.wrap (((0:Nat):Int))))) + 1442695040888963407)).fdiv (2 ^ (min (40:Int).toNat (IntKind.u64).bits))) 255,n0 + 1,rfl,hE6.drew,(hs.close hE6.drew hBx6 zq35_1),⟨by omega,by omega⟩,zq35_0⟩
theorem zq14_0 {p:Prop} (h:p:=by first | exact pk_1 oM | exact pk_2 oM oM (by assumption) | exact pk_3 oM oM hp2_0 hp4_0):p:=h
theorem cq_spec_l00Src_pick (w:World) (g:Nat) (sv:Value) (cs:List UInt8) (n0:Nat) (k:Int) (hs:SrQ w.heap g sv cs n0) (hn0:n0 + 2≤1000000000000000000) (_hk:-9223372036854775808≤k∧k≤9223372036854775807) (hk:k≤1000000) :
    Calls Try.prog 14 #[.pointer (some ⟨g,0,none⟩),.int .i64 k] w (fun e w'=>∃ (x0:Int) (n1:Nat),e = .returned (.int .i64 x0)∧Chg [g] w w'∧SrQ w'.heap g sv cs n1∧(n0≤n1∧n1≤n0 + 2)∧(x0 = pkV cs n0 k∧n1 = pkN n0 k)):=by
  refine calls_mk [.pointer (some ⟨g,0,none⟩),.int .i64 k] 20 Try.func14 rfl rfl sM ?_
  have hE0:Chg [g] w w:=Chg.refl [g] w
  have hgl:=hs.lt
  refine wp_seq (wp_plain _ [0] rfl (lw_tvn 1 rfl (wp_seq (wp_seq (wp_plain _ [0,0] rfl (lw_tv 1 rfl ?_))))))
  by_cases hc1:k≤((1:Nat):Int)
  ·
    exact q_leq true rfl rfl (decide_eq_true hc1) zN (lw_nil (c_cond_t rfl (wp_seq (wp_plain _ [0] rfl (lw_tvn 1 rfl (wp_ret (t_ret (post_ret [4] rfl (.int .i64 ((0:Nat):Int)) rfl ⟨((0:Nat):Int),n0,rfl,hE0,hs,⟨by omega,by omega⟩,zq14_0⟩))))))))
  ·
    refine q_leq false rfl rfl (decide_eq_false hc1) zN (lw_nil (c_cond_f rfl (wp_skip (wp_seq (wp_plain _ [0,4,0] rfl (lw_tv 1 rfl (lw_callE 35 [] [] [(.pointer (some ⟨g,0,none⟩))] rfl rfl cf35 zN (cq_spec_l00Src_next _ g _ _ _ hs oM) ?_)))))))
    rintro e2 w2 ⟨x2_0,n2,rfl,hC2,hs2,hb2,hp2_0⟩
    refine ⟨_,rfl,?_⟩
    have hzs2:w.heap.size≤w2.heap.size:=hC2.size
    have hE2:Chg [g] w w2:=hE0.trans hC2
    refine lw_tvn 1 rfl (wp_seq (wp_seq (wp_plain _ [0,0] rfl (lw_tv 1 rfl ?_))))
    by_cases hc3:((200:Nat):Int) < k
    ·
      refine q_gtr true rfl rfl (decide_eq_true hc3) zN (lw_nil (c_cond_t rfl (wp_plain _ [0,0,0,4,0,0] rfl (lw_tv 1 rfl ?_))))
      have hbr:=btq_rng cs n0
      refine q_mul (x2_0 * ((256:Nat):Int)) rfl rfl (w64 sD sD) zN (lw_tv 1 rfl ?_)
      refine lw_callE 35 [] [] [(.pointer (some ⟨g,0,none⟩))] rfl rfl cf35 zN (cq_spec_l00Src_next _ g _ _ _ hs2 oM) ?_
      rintro e4 w4 ⟨x4_0,n4,rfl,hC4,hs4,hb4,hp4_0⟩
      refine ⟨_,rfl,?_⟩
      have hzs4:w2.heap.size≤w4.heap.size:=hC4.size
      have hE4:Chg [g] w w4:=hE2.trans hC4
      have hbr2:=btq_rng cs n2
      refine q_add ((x2_0 * ((256:Nat):Int)) + x4_0) rfl rfl (w64 sD sD) zN (lw_tvn 1 rfl (wp_seq (wp_plain _ [0,0,0,0] rfl ?_)))
      refine lw_tv 2 rfl ?_
      have hbr:=btq_rng cs n0
      have hbr2:=btq_rng cs (n0 + 1)
      exact q_rem (((x2_0 * ((256:Nat):Int)) + x4_0) % k) rfl rfl oM (Int.tmod_eq_emod_of_nonneg oM) zN (lw_tvn 1 rfl (wp_ret (post_ret [4] rfl (.int .i64 (((x2_0 * ((256:Nat):Int)) + x4_0) % k)) rfl ⟨((x2_0 * ((256:Nat):Int)) + x4_0) % k,n4,rfl,hE4,hs4,⟨by omega,by omega⟩,zq14_0⟩)))
    ·
      refine q_gtr false rfl rfl (decide_eq_false hc3) zN (lw_nil (c_cond_f rfl (wp_skip (wp_seq (wp_plain _ [0,0,0,0] rfl (lw_tv 2 rfl ?_))))))
      have hbr:=btq_rng cs n0
      have hbr2:=btq_rng cs (n0 + 1)
      exact q_rem ((x2_0) % k) rfl rfl oM (Int.tmod_eq_emod_of_nonneg oM) zN (lw_tvn 1 rfl (wp_ret (post_ret [4] rfl (.int .i64 ((x2_0) % k)) rfl ⟨(x2_0) % k,n2,rfl,hE2,hs2,⟨by omega,by omega⟩,zq14_0⟩)))
theorem cq_spec_l00Src_one (w:World) (g:Nat) (sv:Value) (cs:List UInt8) (n0:Nat) (k:Int) (hs:SrQ w.heap g sv cs n0) (hn0:n0 + 2≤1000000000000000000) (_hk:-9223372036854775808≤k∧k≤9223372036854775807) (hk:k≤1000000) :
    Calls Try.prog 15 #[.pointer (some ⟨g,0,none⟩),.int .i64 k] w (fun e w'=>∃ (x0:Bool) (n1:Nat),e = .returned (.bool x0)∧Chg [g] w w'∧SrQ w'.heap g sv cs n1∧(n0≤n1∧n1≤n0 + 2)∧(x0 = decide (pkV cs n0 k = 0)∧n1 = pkN n0 k)):=by
  refine calls_mk [.pointer (some ⟨g,0,none⟩),.int .i64 k] 9 Try.func15 rfl rfl sM ?_
  have hE0:Chg [g] w w:=Chg.refl [g] w
  have hgl:=hs.lt
  refine wp_seq (wp_plain _ [0] rfl (lw_tvn 1 rfl (wp_seq (wp_plain _ [0,0,4,0,0] rfl (lw_tv 2 rfl (lw_callE 14 [] [] [(.pointer (some ⟨g,0,none⟩)),(.int .i64 k)] rfl rfl cf14 zN (cq_spec_l00Src_pick _ g _ _ _ _ hs oM _hk sD) ?_))))))
  rintro e1 w1 ⟨x1_0,n1,rfl,hC1,hs1,hb1,hp1_0⟩
  refine ⟨_,rfl,?_⟩
  have hzs1:w.heap.size≤w1.heap.size:=hC1.size
  have hE1:Chg [g] w w1:=hE0.trans hC1
  exact q_eql (decide (x1_0 = ((0:Nat):Int))) rfl rfl rfl zN (lw_tvn 1 rfl (wp_ret (post_ret [4] rfl (.bool (decide (x1_0 = ((0:Nat):Int)))) rfl ⟨decide (x1_0 = ((0:Nat):Int)),n1,rfl,hE1,hs1,⟨by omega,by omega⟩,(by exact ⟨by rw [hp1_0.1]; rfl,hp1_0.2⟩)⟩)))
theorem cq_spec_l00Src_among (w:World) (g:Nat) (sv:Value) (cs:List UInt8) (n0:Nat) (vl:Value) (us:List Int) (hs:SrQ w.heap g sv cs n0) (hn0:n0 + 2≤1000000000000000000) (hus:∀ w',Chg [g] w w'→Rd (rdL rI) w'.heap vl us) (hk:1≤us.length∧us.length≤200) :
    Calls Try.prog 16 #[.pointer (some ⟨g,0,none⟩),vl] w (fun e w'=>∃ (x0:Int) (n1:Nat),e = .returned (.int .i64 x0)∧Chg [g] w w'∧SrQ w'.heap g sv cs n1∧(n0≤n1∧n1≤n0 + 2)∧(x0∈us∧n1 = pkN n0 ((us.length:Nat):Int))):=by
  refine calls_mk [.pointer (some ⟨g,0,none⟩),vl] 12 Try.func16 rfl rfl sM ?_
  have hE0:Chg [g] w w:=Chg.refl [g] w
  have hl_vl:=(hus _ hE0).lenle
  have hgl:=hs.lt
  refine wp_seq (wp_plain _ [0] rfl (lw_tvn 1 rfl (wp_seq (wp_plain _ [0,0,0,0,4,0,2,0] rfl (lw_tv 3 rfl (q_len (v:=vl) u25 rfl (hus _ hE0).isSl zN (lw_callE 14 [] [] [(.pointer (some ⟨g,0,none⟩)),(.int .i64 ((us.length:Nat):Int))] rfl rfl cf14 zN (cq_spec_l00Src_pick _ g _ _ _ _ hs oM oM sD) ?_)))))))
  rintro e1 w1 ⟨x1_0,n1,rfl,hC1,hs1,hb1,hp1_0⟩
  refine ⟨_,rfl,?_⟩
  have hzs1:w.heap.size≤w1.heap.size:=hC1.size
  have hE1:Chg [g] w w1:=hE0.trans hC1
  have hpr:=pkV_rng cs n0 ((us.length:Nat):Int)
  refine q_idx (v:=vl) ((x1_0).toNat) u25 ti2 rfl rfl (hus _ hE1).isSl oM sD zN ?_
  exact q_load (p:=eptr vl ((x1_0).toNat) 1) (.inr rfl) (.int .i64 (us.getD ((x1_0).toNat) 0)) one2 rfl ((hus _ hE1).getI sD).1 zN (lw_tvn 1 rfl (wp_ret (post_ret [4] rfl (.int .i64 (us.getD ((x1_0).toNat) 0)) rfl ⟨us.getD ((x1_0).toNat) 0,n1,rfl,hE1,hs1,⟨by omega,by omega⟩,(by exact ⟨gd_memI oM,hp1_0.2⟩)⟩)))
theorem cq_spec_l00From (w:World) (vc:Value) (cs:List UInt8) (hcs:Rd (rdL rU) w.heap vc cs)  :
    Calls Try.prog 13 #[vc] w (fun e w'=>∃ g:Nat,e = .returned (.pointer (some ⟨g,0,none⟩))∧Ext w w'∧SrQ w'.heap g vc cs 0∧w.heap.size≤g):=by
  refine calls_mk [vc] 6 Try.func13 rfl rfl sM ?_
  have hE0:Ext w w:=Ext.refl w
  have hl_vc:=hcs.lenle
  refine wp_seq (wp_plain _ [0] rfl (lw_tvn 1 rfl (wp_seq (wp_plain _ [0,0,3,0] rfl (lw_tv 1 rfl (q_build (ps:=#[(0,vc)]) (.agg #[vc,.int .i64 0,.int .u64 0]) (by simp only [List.map_toArray,List.map_cons,List.map_nil]; rfl) (fun wq=>bld98 hcs.isSl wq) zN (r_boxA rfl zN fun w1 hX1 hz1 hB1=>?_)))))))
  have hzs1:w.heap.size≤w1.heap.size:=hX1.size
  have hE1:Ext w w1:=hE0.trans hX1
  have hs1:=SrQ.new hcs hE1 hB1 hE0.size
  exact lw_tvn 1 rfl (wp_ret (post_ret [2] rfl (.pointer (some ⟨w.heap.size,0,none⟩)) rfl ⟨w.heap.size,rfl,hE1,hs1,hE0.size⟩))
theorem z37_0 {p:Prop} (h:p:=by first | (refine .inr ⟨?_,rfl,rfl⟩; (try (have h8:(!avB (⟨kd,ar⟩:Av)) = true:=(by assumption))); (try (have h9:(!posA z (⟨kd,ar⟩:Av)) = true:=(by assumption))); simp_all; done) | (refine .inl ⟨avB_iff.2 (by exact avB_iff.1 (by (have h8:(!avB (⟨kd,ar⟩:Av)) = false:=(by assumption)); simpa using h8)),(by (have h8:(!posA z (⟨kd,ar⟩:Av)) = false:=(by assumption)); simpa using h8),rfl,rfl⟩)):p:=h
theorem z37_1 {p:Prop} (h:p:=by exact avB_iff.1 (by (have h8:(!avB (⟨kd,ar⟩:Av)) = false:=(by assumption)); simpa using h8)):p:=h
theorem c_spec_l06Do (w:World) (g:Nat) (vs:Value) (Fs:List Nat) (z:Cn) (n:Int) (va:Value) (l:List Av) (B U:Nat) (kd:Int) (ar:Int) (hK:RnK 2 w.heap g vs Fs z) (hl:Fr (owS 2 rAv 56) B U w.heap va l) (hBU:B≤U∧U≤w.heap.size) (hzB:∀ b∈ZR g Fs,b < B) (_hkd:-9223372036854775808≤kd∧kd≤9223372036854775807) (_har:-9223372036854775808≤ar∧ar≤9223372036854775807) (hn:0≤n∧n≤40) (hB:CnK n z) (hll:l.length≤1000) :
    Calls Try.prog 37 #[.pointer (some ⟨g,0,none⟩),va,.int .i64 kd,.int .i64 ar] w (fun e w'=>∃ (v2:Value) (z2:Cn) (l2:List Av),e = .returned v2∧Chg (zbv g Fs B U) w w'∧RnK 2 w'.heap g vs Fs z2∧Fr (owS 2 rAv 56) B w'.heap.size w'.heap v2 l2∧DoR z l ⟨kd,ar⟩ z2 l2):=by
  refine calls_mk [.pointer (some ⟨g,0,none⟩),va,.int .i64 kd,.int .i64 ar] 30 Try.func37 rfl rfl sM ?_
  have hE0:Chg (zbv g Fs B U) w w:=Chg.refl (zbv g Fs B U) w
  refine wp_seq (wp_plain _ [0] rfl (lw_tvn 1 rfl (wp_seq (wp_plain _ [0,0,0,3,4] rfl (lw_tv 2 rfl ?_)))))
  have hbd1:∀ (wq:World),(Instr.build 56 #[(0,(.int .i64 kd)),(1,(.int .i64 ar))]).run Try.prog wq = .ok (.agg #[(.int .i64 kd),(.int .i64 ar)]) wq:=by intro wq; kernel_rfl
  refine q_build (ps:=#[(0,(.int .i64 kd)),(1,(.int .i64 ar))]) (.agg #[(.int .i64 kd),(.int .i64 ar)]) (by simp only [List.map_toArray,List.map_cons,List.map_nil]; rfl) (fun wq=>hbd1  wq) zN (r_allocA (z:=.agg #[.int .i64 0,.int .i64 0]) zr56 zN fun w2 hX2 hz2 hB2=>?_)
  have hzs2:w.heap.size≤w2.heap.size:=hX2.size
  have hE2:Chg (zbv g Fs B U) w w2:=hE0.ext hX2
  have hlx2:=hl.ext ((good_owS good_rAv)) hX2
  have hKx3:=hK.ext hX2
  replace hB2:BX w2.heap w.heap.size [(.int .i64 0),(.int .i64 0)]:=hB2
  refine e_setA (vs:=[(.int .i64 kd),(.int .i64 ar)]) agg56 rfl rfl (by intro u hu; simp only [List.mem_cons,List.not_mem_nil,or_false] at hu; rcases hu with rfl | rfl <;> first | exact ⟨rfl,rfl⟩) hB2 rfl rfl zN fun w4 hC4 hz4 hB4=>?_
  replace hB4:BX w4.heap w.heap.size [(.int .i64 kd),(.int .i64 ar)]:=hB4
  have hE4:Chg (zbv g Fs B U) w w4:=hE2.fresh hC4 (fun c hc=>by have:=List.mem_singleton.1 hc; omega)
  have hzs4:w2.heap.size≤w4.heap.size:=hC4.size
  have hF5:=hlx2.chg ((good_owS good_rAv)) hC4 (fun c hc=>by have:=List.mem_singleton.1 hc; omega)
  have hKx6:=hKx3.chg hC4 (fun b hb hm=>by have h91:=hK.lt b hb; have h92:=List.mem_singleton.1 hm; omega)
  refine lw_nil (wp_seq (wp_seq (wp_plain _ [2,3,0,0,0,2,3,0,0] rfl (q_loadA (p:=(.pointer (some ⟨w.heap.size,0,none⟩))) (.inr rfl) [(.int .i64 kd),(.int .i64 ar)] agg56 rfl (fun wq9 hw9=>LD.of_box (BX.ext (w:=w4) hB4 hw9)) rfl zN (lw_call 38 [] [] [(.agg #[(.int .i64 kd),(.int .i64 ar)])] rfl rfl cf38 zN (c_spec_l06Action _ (⟨kd,ar⟩:Av) ⟨_hkd,_har⟩) ?_)))))
  rintro e7 w7 ⟨rfl,hX7⟩
  refine ⟨_,rfl,hX7,?_⟩
  have hzs7:w4.heap.size≤w7.heap.size:=hX7.size
  have hE7:Chg (zbv g Fs B U) w w7:=hE4.ext hX7
  have hF5x7:=hF5.ext ((good_owS good_rAv)) hX7
  have hB4x7:=hB4.ext hX7
  have hKx8:=hKx6.ext hX7
  refine q_not (!(avB (⟨kd,ar⟩:Av))) rfl rfl zN (lw_tv 1 rfl ?_)
  cases hb9:(!(avB (⟨kd,ar⟩:Av)))
  ·
    refine lw_tv 1 rfl (q_loadA (p:=(.pointer (some ⟨w.heap.size,0,none⟩))) (.inr rfl) [(.int .i64 kd),(.int .i64 ar)] agg56 rfl (fun wq9 hw9=>LD.of_box (BX.ext (w:=w7) hB4x7 hw9)) rfl (zS (e:=16) rfl rfl rfl) (lw_call 51 [] [] [(.pointer (some ⟨g,0,none⟩)),(.agg #[(.int .i64 kd),(.int .i64 ar)])] rfl rfl cf51 (zS (e:=16) rfl rfl rfl) (c_spec_l06Run_possible _ g vs Fs z n (⟨kd,ar⟩:Av) hKx8 ⟨_hkd,_har⟩ oM (by exact hB) z37_1) ?_))
    rintro e10 w10 ⟨rfl,hX10⟩
    refine ⟨_,rfl,hX10,?_⟩
    have hzs10:w7.heap.size≤w10.heap.size:=hX10.size
    have hE10:Chg (zbv g Fs B U) w w10:=hE7.ext hX10
    have hF5x10:=hF5x7.ext ((good_owS good_rAv)) hX10
    have hB4x10:=hB4x7.ext hX10
    have hKx11:=hKx8.ext hX10
    refine q_not (!(posA z (⟨kd,ar⟩:Av))) rfl rfl (zS (e:=16) rfl rfl rfl) (lw_tvn 1 rfl ?_)
    cases hb12:(!(posA z (⟨kd,ar⟩:Av)))
    ·
      refine c_cond_f (by first | rfl | (show Value.bool _ = _; rw [hb12])) (wp_skip (wp_seq (wp_plain _ [0,2,4] rfl (lw_tv 1 rfl (q_loadA (p:=(.pointer (some ⟨w.heap.size,0,none⟩))) (.inr rfl) [(.int .i64 kd),(.int .i64 ar)] agg56 rfl (fun wq9 hw9=>LD.of_box (BX.ext (w:=w10) hB4x10 hw9)) rfl zN (lw_callE 52 [] [] [(.pointer (some ⟨g,0,none⟩)),(.agg #[(.int .i64 kd),(.int .i64 ar)])] rfl rfl cf52 zN (c_spec_l06Run_act _ g vs Fs z n (⟨kd,ar⟩:Av) hKx11 ⟨_hkd,_har⟩ oM (by exact hB) z37_1 (by (have h8:(!posA z (⟨kd,ar⟩:Av)) = false:=(by assumption)); simpa using h8)) ?_))))))
      rintro e13 w13 ⟨rfl,hC13,hK13⟩
      refine ⟨_,rfl,?_⟩
      have hzs13:w10.heap.size≤w13.heap.size:=hC13.size
      have hE13:=zbv_r hE10 hC13
      have hF14:=hF5x10.chg (good_owS good_rAv) hC13 (fun c hc=>by have h91:=hzB c hc; omega)
      have hF15:=hB4x10.chg hC13 (fun hm=>by have h91:=hK.lt _ hm; omega)
      refine lw_nil (wp_seq (wp_plain _ [0,2,3,4,0] rfl (lw_tv 1 rfl (q_loadA (p:=(.pointer (some ⟨w.heap.size,0,none⟩))) (.inr rfl) [(.int .i64 kd),(.int .i64 ar)] agg56 rfl (fun wq9 hw9=>LD.of_box (BX.ext (w:=w13) hF15 hw9)) rfl zN (r_oneS (cs:=[(.int .i64 kd),(.int .i64 ar)]) (y:=(⟨kd,ar⟩:Av)) (B:=w13.heap.size) (U:=w13.heap.size) good_rAv u24 tiS56 rfl (by decide) rfl (frN_av (a:=(⟨kd,ar⟩:Av)) ⟨_hkd,_har⟩) oM zN fun v17 w17 hX17 hz17 hO17=>?_)))))
      have hzs17:w13.heap.size≤w17.heap.size:=hX17.size
      have hE17:Chg (zbv g Fs B U) w w17:=hE13.ext hX17
      have hF14x17:=hF14.ext ((good_owS good_rAv)) hX17
      have hF15x17:=hF15.ext hX17
      have hKx18:=hK13.ext hX17
      refine e_appS (v:=va) (a:=v17) good_rAv u24 tiS56 rfl (by decide) rfl rfl hF14x17 oM hO17 oM oM oM (by unfold maxLen; omega) zN fun v19 w19 F19 hC19 hF19 hO19=>?_
      have hzs19:w17.heap.size≤w19.heap.size:=hC19.size
      have hE19:=zbv_l hE17 hC19 hF19
      have hKx19:=hKx18.chg hC19 (fun b hb hm=>by have h91:=hzB b hb; have h92:=hF19 b hm; omega)
      exact lw_tvn 1 rfl (wp_ret (post_ret [8] rfl v19 rfl ⟨_,_,_,rfl,hE19,hKx19,hO19.up (good_owS good_rAv),z37_0⟩))
    ·
      exact c_cond_t (by first | rfl | (show Value.bool _ = _; rw [hb12])) (wp_seq (wp_plain _ [0,0] rfl (lw_tvn 2 rfl (wp_ret (t_ret (post_ret [8] rfl va rfl ⟨_,_,_,rfl,hE10,hKx11,hF5x10.up (good_owS good_rAv),z37_0⟩))))))
  ·
    exact lw_tvn 5 rfl (c_cond_t rfl (wp_seq (wp_plain _ [0,0] rfl (lw_tvn 2 rfl (wp_ret (t_ret (post_ret [8] rfl va rfl ⟨_,_,_,rfl,hE7,hKx8,hF5x7.up (good_owS good_rAv),z37_0⟩)))))))
end Go.Proofs.Ytoacbkmejjhceaa
namespace Go.Proofs.Ytoacbkmejjhceaa
open Go Go.RowKit
set_option linter.unusedVariables false
set_option linter.unusedSimpArgs false
set_option maxHeartbeats 4000000
set_option maxRecDepth 100000
attribute [local irreducible] LW
theorem zq17_0 {p:Prop} (h:p:=by first | omega | exact Nat.zero_le _):p:=h
theorem zq17_1 {p:Prop} (h:p:=by first | omega | (dsimp only; omega)):p:=h
theorem zq17_2 {p:Prop} (h:p:=by exact ⟨hall,by omega⟩):p:=h
theorem c_spec_l06DrawList (w:World) (g:Nat) (sv:Value) (cs:List UInt8) (n0:Nat) (nn:Nat) (sl:Nat) (hs:SrQ w.heap g sv cs n0) (hn0:n0 + 902971725287784468≤1000000000000000000) (_hnn:nn≤1000000000000000000) (_hsl:sl≤1000000000000000000) (hnn:nn≤40∧sl≤8) (hcs5:cs.length≤5000) :
    Calls Try.prog 17 #[.pointer (some ⟨g,0,none⟩),.int .i64 ((nn:Nat):Int),.int .i64 ((sl:Nat):Int)] w (fun e w'=>∃ (v0:Value) (x0:List Av) (n1:Nat),e = .returned (v0)∧Chg [g] w w'∧SrQ w'.heap g sv cs n1∧(n0≤n1∧n1≤n0 + 902971725287784468)∧Fr (owS 2 rAv 56) w.heap.size w'.heap.size w'.heap v0 x0∧((∀ x∈x0,avB x = true)∧x0.length≤320)):=by
  refine calls_mk [.pointer (some ⟨g,0,none⟩),.int .i64 ((nn:Nat):Int),.int .i64 ((sl:Nat):Int)] 120 Try.func17 rfl rfl sM ?_
  have hE0:Chg [g] w w:=Chg.refl [g] w
  have hgl:=hs.lt
  refine wp_seq (wp_plain _ [0] rfl (lw_tvn 1 rfl (wp_seq (wp_plain _ [0,0,3,0] rfl (lw_tv 2 rfl (lw_call 36 [] [] [(.int .i64 ((nn:Nat):Int)),(.int .i64 ((sl:Nat):Int))] rfl rfl cf36 zN (c_spec_l06Begin _ nn sl oM oM oM) ?_))))))
  rintro e1 w1 ⟨gr,vr,Fz,rfl,hX1,hKr,hlr⟩
  refine ⟨_,rfl,hX1,?_⟩
  have hzs1:w.heap.size≤w1.heap.size:=hX1.size
  have hE1:Chg [g] w w1:=hE0.ext hX1
  have hsx1:=hs.ext hX1
  replace hlr:∀ b∈ZR gr Fz,w.heap.size≤b:=fun b hb=>by have:=hlr b hb; omega
  have hzr:=hKr.lt
  refine lw_tvn 1 rfl (wp_seq (wp_plain _ [3,0] rfl (r_nilS (α:=Av) good_rAv u24 tiS56 zN fun v2 w2 hX2 hz2 hO2=>?_)))
  have hzs2:w1.heap.size≤w2.heap.size:=hX2.size
  have hE2:Chg [g] w w2:=hE1.ext hX2
  have hsx2:=hsx1.ext hX2
  have hKx3:=hKr.ext hX2
  refine lw_tvn 1 rfl (wp_seq (wp_plain _ [0,0,4,0] rfl (lw_tv 2 rfl (lw_callE 37 [] [] [(.pointer (some ⟨gr,0,none⟩)),v2,(.int .i64 ((2:Nat):Int)),(.int .i64 ((0:Nat):Int))] rfl rfl cf37 zN (c_spec_l06Do _ gr vr Fz (bgn ((nn:Nat):Int) sl) ((nn:Nat):Int) v2 ([]:List Av) w1.heap.size w2.heap.size (((2:Nat):Int)) (((0:Nat):Int)) hKx3 hO2 ⟨by omega,by omega⟩ (fun b hb=>by have:=hzr b hb; omega) oM oM oM (by exact bgn_k oM sl) zq17_0) ?_))))
  rintro e4 w4 ⟨v4,z4,l4,rfl,hC4,hK4,hO4,hD4⟩
  refine ⟨_,rfl,?_⟩
  have hzs4:w2.heap.size≤w4.heap.size:=hC4.size
  have hE4:Chg [g] w w4:=hE2.fresh hC4 (fun c hc=>(mem_zbv.1 hc).elim (fun h=>by have:=hlr c h; omega) fun h=>by omega)
  have hF5:=hsx2.chg hC4 (fun c hc=>(mem_zbv.1 hc).elim (fun h=>by have:=hlr c h; omega) fun h=>by omega)
  have hnl4:([]:List Av).length = 0:=rfl
  obtain ⟨hd4,hgw4⟩:=do_len hD4
  have hle4:=hgw4.le
  have hal4:=do_all hD4 (fun x hx=>by cases hx)
  obtain ⟨hZ4,hza4,hzl4⟩:=do_z0 hD4 oM
  have hk4:=hZ4.k
  have hat4:=hk4.at0
  have hln4:=hk4.ln
  have hl04:=hk4.l0
  refine lw_tvn 1 rfl (wp_seq (wp_block ?_))
  obtain ⟨kk,hkk⟩:∃ kk:Nat,(sl = 0∧kk = 2)∨(1≤sl∧kk = 3):=(Nat.eq_zero_or_pos sl).elim (fun h=>⟨2,.inl ⟨h,rfl⟩⟩) fun h=>⟨3,.inr ⟨h,rfl⟩⟩
  have hk23:kk = 2∨kk = 3:=by omega
  have hwt:=wait_0 (cs:=cs) (m:=n0) hk23 hcs5
  have hKs:=hK4
  refine c_loop (S:=Nat × Value × List Av × Cn × Nat) (fun (⟨m,vo,l,z,t⟩:Nat × Value × List Av × Cn × Nat)=>([(8,vo),(0,(.pointer (some ⟨g,0,none⟩))),(2,(.int .i64 ((sl:Nat):Int))),(7,(.pointer (some ⟨gr,0,none⟩)))]:List (Nat × Value))) (fun (⟨m,vo,l,z,t⟩:Nat × Value × List Av × Cn × Nat) (W:World)=>Chg [g] w W∧Fr (owS 2 rAv 56) w1.heap.size W.heap.size W.heap vo l∧SrQ W.heap g sv cs m∧RnK 2 W.heap gr vr Fz z∧DrZ ((nn:Nat):Int) sl z∧l.length≤306∧(∀ x∈l,avB x = true)∧(1≤sl∨z.left≤0∨z.at_ < z.left)∧(∃ j,j < t∧btq cs (m + j * kk + (kk - 1)) % 5≠0)∧t≤140737488360329∧(n0≤m∧m + 8 * ((400 - l.length) * 281474976710656 + t)≤n0 + 902971725287784448)∧w1.heap.size≤W.heap.size) (fun (⟨m,vo,l,z,t⟩:Nat × Value × List Av × Cn × Nat)=>(400 - l.length) * 281474976710656 + t) (n0,v4,l4,z4,140737488360329) ⟨rfl,rfl,rfl,rfl,trivial⟩ ⟨hE4,hO4.up (good_owS good_rAv),hF5,(by exact hKs),(by exact hZ4),oM,(by exact hal4),oM,(by exact hwt),oM,oM,oM⟩ ?_
  clear hE0 hX1 hO2 hz2 hX2 hzs2 hE2 hO4 hC4 hzs4 hE4 hF5 hln4
  rintro ⟨m,vo,l,z,t⟩ ρ6 w6 ⟨hE6,hL6_0,hL6_1,hKl,hZl,hlen,hall,hsz,hwl,htl,hml,hkB7⟩
  have hzs6:w.heap.size≤w6.heap.size:=hE6.size
  have hkl:=hZl.k
  have hatl:=hkl.at0
  have hlnl:=hkl.ln
  have hl0l:=hkl.l0
  refine wp_seq (wp_seq (wp_plain _ [0,0,0,0,0,0,0,2,0,0] rfl (lw_tv 1 rfl (q_len (v:=vo) u24 rfl hL6_0.isSlS zN ?_))))
  by_cases hc8:((l.length:Nat):Int) < ((300:Nat):Int)
  ·
    refine q_lss true rfl rfl (decide_eq_true hc8) zN (lw_tv 2 rfl (q_nilP ⟨_,_,rfl⟩ rfl (zS (e:=19) rfl rfl rfl) (q_fldP (p:=(.pointer (some ⟨gr,0,none⟩))) (b:=gr) (o:=0) 1 fd71_1 rfl rfl (zS (e:=19) rfl rfl rfl) (q_load (p:=(padd (.pointer (some ⟨gr,0,none⟩)) 1)) (.inr rfl) (.int .i64 z.left) one2 rfl ((hKl.bx).ldp (i:=1) sM) (zS (e:=19) rfl rfl rfl) ?_))))
    by_cases hc9:((0:Nat):Int) < z.left
    ·
      refine q_gtr true rfl rfl (decide_eq_true hc9) (zS (e:=19) rfl rfl rfl) (lw_tvn 1 rfl (c_cond_t rfl (wp_skip (wp_block (wp_seq (wp_plain _ [0,0,0,0,4,4,0] rfl (lw_tv 4 rfl (lw_callE 14 [] [] [(.pointer (some ⟨g,0,none⟩)),(.int .i64 ((sl:Nat):Int))] rfl rfl cf14 zN (cq_spec_l00Src_pick _ g _ _ _ (((sl:Nat):Int)) hL6_1 oM oM oM) ?_))))))))
      rintro e10 w10 ⟨x10_0,n10,rfl,hC10,hs10,hb10,hp10_0⟩
      refine ⟨_,rfl,?_⟩
      have hzs10:w6.heap.size≤w10.heap.size:=hC10.size
      have hE10:Chg [g] w w10:=hE6.trans hC10
      have hF11:=hL6_0.chg ((good_owS good_rAv)) hC10 (fun c hc=>by have:=List.mem_singleton.1 hc; omega)
      have hKx12:=hKl.chg hC10 (fun b hb hm=>by have h91:=hlr b hb; have:=List.mem_singleton.1 hm; omega)
      have hpf10:=pk_fact hp10_0
      refine lw_callE 37 [] [] [(.pointer (some ⟨gr,0,none⟩)),vo,(.int .i64 ((3:Nat):Int)),(.int .i64 x10_0)] rfl rfl cf37 zN (c_spec_l06Do _ gr vr Fz z ((nn:Nat):Int) vo l w1.heap.size w6.heap.size (((3:Nat):Int)) (x10_0) hKx12 hF11 ⟨by omega,by omega⟩ (fun b hb=>by have:=hzr b hb; omega) oM oM oM (by exact hkl) zq17_0) ?_
      rintro e13 w13 ⟨v13,z13,l13,rfl,hC13,hK13,hO13,hD13⟩
      refine ⟨_,rfl,?_⟩
      have hzs13:w10.heap.size≤w13.heap.size:=hC13.size
      have hE13:Chg [g] w w13:=hE10.fresh hC13 (fun c hc=>(mem_zbv.1 hc).elim (fun h=>by have:=hlr c h; omega) fun h=>by omega)
      have hF14:=hs10.chg hC13 (fun c hc=>(mem_zbv.1 hc).elim (fun h=>by have:=hlr c h; omega) fun h=>by omega)
      obtain ⟨hd13,hgw13⟩:=do_len hD13
      have hle13:=hgw13.le
      have hal13:=do_all hD13 hall
      have hZ13:=do_z hD13 hZl (fun h9=>by (try dsimp only at h9); omega)
      have hk13:=hZ13.k
      have hat13:=hk13.at0
      have hln13:=hk13.ln
      have hl013:=hk13.l0
      obtain ⟨hq13,_⟩:=do_ld hD13 rfl
      have hy13:sl = 1→l13.length = l.length + 1:=fun h9=>(do_ld0 hD13 rfl zq17_1 hZl oM).2
      have hyo13:sl≠1∨l13.length = l.length + 1:=(Nat.decEq sl 1).byCases (fun h9=>.inr (hy13 h9)) .inl
      clear hy13
      have hzz13:sl = 0→z13.at_ = z.at_:=fun h9=>by rw [(do_ldn hD13 rfl (by rw [hZl.len]; exact h9)).1]
      have hzo13:sl≠0∨z13.at_ = z.at_:=(Nat.decEq sl 0).byCases (fun h9=>.inr (hzz13 h9)) .inl
      clear hzz13
      refine lw_tvn 1 rfl (wp_seq (c_cut (S:=Nat × Value × List Av × Cn) (fun (⟨mA,vA,lA,zA⟩:Nat × Value × List Av × Cn)=>([(8,vA),(0,(.pointer (some ⟨g,0,none⟩))),(2,(.int .i64 ((sl:Nat):Int))),(7,(.pointer (some ⟨gr,0,none⟩)))]:List (Nat × Value))) (fun (⟨mA,vA,lA,zA⟩:Nat × Value × List Av × Cn) (W:World)=>Chg [g] w W∧Fr (owS 2 rAv 56) w1.heap.size W.heap.size W.heap vA lA∧SrQ W.heap g sv cs mA∧RnK 2 W.heap gr vr Fz zA∧DrZ ((nn:Nat):Int) sl zA∧(∀ x∈lA,avB x = true)∧(zA.left = z.left∧zA.at_ < zA.left∧l.length≤lA.length∧l.length < 300)∧((sl≤1∧mA = m)∨(2≤sl∧mA = m + 1))∧(sl≠1∨l.length < lA.length)∧(lA.length≤l.length + 2∧m≤mA)∧w1.heap.size≤W.heap.size) ?_ ?_))
      ·
        refine wp_seq (wp_draw _ [0,0,0,1,0,0,0,1,0] mixed (by kernel_rfl) (lw_tv 1 rfl (q_nilP ⟨_,_,rfl⟩ rfl zN (q_fldP (p:=(.pointer (some ⟨gr,0,none⟩))) (b:=gr) (o:=0) 0 fd71_0 rfl rfl zN (q_load (p:=(padd (.pointer (some ⟨gr,0,none⟩)) 0)) (.inl rfl) (.int .i64 z13.at_) one2 rfl ((hK13.bx).ldp (i:=0) sM) zN (lw_tv 1 rfl (q_nilP ⟨_,_,rfl⟩ rfl zN (q_fldP (p:=(.pointer (some ⟨gr,0,none⟩))) (b:=gr) (o:=0) 1 fd71_1 rfl rfl zN (q_load (p:=(padd (.pointer (some ⟨gr,0,none⟩)) 1)) (.inl rfl) (.int .i64 z13.left) one2 rfl ((hK13.bx).ldp (i:=1) sM) zN ?_)))))))))
        by_cases hc17:z13.left≤z13.at_
        ·
          refine q_geq true rfl rfl (decide_eq_true hc17) zN (lw_nil (c_cond_t rfl (wp_plain _ [0,0,4,0] rfl (lw_tv 2 rfl ?_))))
          have hdr19:w13.drew.heap.size = w13.heap.size:=rfl
          refine lw_callE 37 [] [] [(.pointer (some ⟨gr,0,none⟩)),v13,(.int .i64 ((3:Nat):Int)),(.int .i64 ((0:Nat):Int))] rfl rfl cf37 zN (c_spec_l06Do _ gr vr Fz z13 ((nn:Nat):Int) v13 l13 w1.heap.size w13.heap.size (((3:Nat):Int)) (((0:Nat):Int)) hK13 hO13 ⟨by omega,by omega⟩ (fun b hb=>by have:=hzr b hb; omega) oM oM oM (by exact hk13) zq17_0) ?_
          rintro e18 w18 ⟨v18,z18,l18,rfl,hC18,hK18,hO18,hD18⟩
          replace hC18:=hC18.of_drew
          refine ⟨_,rfl,?_⟩
          have hzs18:w13.heap.size≤w18.heap.size:=hC18.size
          have hE18:Chg [g] w w18:=hE13.fresh hC18 (fun c hc=>(mem_zbv.1 hc).elim (fun h=>by have:=hlr c h; omega) fun h=>by omega)
          have hF20:=hF14.chg hC18 (fun c hc=>(mem_zbv.1 hc).elim (fun h=>by have:=hlr c h; omega) fun h=>by omega)
          obtain ⟨hd18,hgw18⟩:=do_len hD18
          have hle18:=hgw18.le
          have hal18:=do_all hD18 hal13
          have hZ18:=do_z hD18 hZ13 (fun h9=>by (try dsimp only at h9); omega)
          have hk18:=hZ18.k
          have hat18:=hk18.at0
          have hln18:=hk18.ln
          have hl018:=hk18.l0
          obtain ⟨hq18,_⟩:=do_ld hD18 rfl
          have hs118:1≤sl:=by omega
          obtain ⟨hz18,hy18⟩:=do_ld0 hD18 rfl rfl hZ13 hs118
          refine lw_tvn 1 rfl ?_
          have hKe:=hK18
          exact ⟨(n10,v18,l18,z18),_,rfl,⟨rfl,rfl,rfl,rfl,trivial⟩,⟨hE18,hO18.up (good_owS good_rAv),hF20,(by exact hKe),(by exact hZ18),(by exact hal18),oM,oM,oM,oM,oM⟩⟩
        ·
          refine q_geq false rfl rfl (decide_eq_false hc17) zN (lw_nil (c_cond_f rfl (wp_skip ?_)))
          have hdr21:w13.drew.heap.size = w13.heap.size:=rfl
          have hKe:=hK13
          exact ⟨(n10,v13,l13,z13),_,rfl,⟨rfl,rfl,rfl,rfl,trivial⟩,⟨hE13.drew,hO13.up (good_owS good_rAv),hF14,(by exact hKe),(by exact hZ13),(by exact hal13),oM,oM,oM,oM,oM⟩⟩
      ·
        clear hd4 hl04 hkB7 hl0l hc8 hc9 hp10_0 hd13 hl013 hL6_1 hL6_0 hE6 hzs6 hC10 hzs10 hE10 hF11 hO13 hC13 hzs13 hE13 hF14 hln13
        rintro ⟨mA,vA,lA,zA⟩ ρ15 w15 ⟨hE15,hL15_0,hL15_1,hKA,hZA,halA,hqA,hmA,hgA,hlA,hkB16⟩
        have hzs15:w.heap.size≤w15.heap.size:=hE15.size
        have hkA:=hZA.k
        have hatA:=hkA.at0
        have hlnA:=hkA.ln
        have hl0A:=hkA.l0
        refine wp_seq (c_cut (S:=Nat × Value × List Av × Cn) (fun (⟨mB,vB,lB,zB⟩:Nat × Value × List Av × Cn)=>([(8,vB),(0,(.pointer (some ⟨g,0,none⟩))),(2,(.int .i64 ((sl:Nat):Int))),(7,(.pointer (some ⟨gr,0,none⟩)))]:List (Nat × Value))) (fun (⟨mB,vB,lB,zB⟩:Nat × Value × List Av × Cn) (W:World)=>Chg [g] w W∧Fr (owS 2 rAv 56) w1.heap.size W.heap.size W.heap vB lB∧SrQ W.heap g sv cs mB∧RnK 2 W.heap gr vr Fz zB∧DrZ ((nn:Nat):Int) sl zB∧(∀ x∈lB,avB x = true)∧(zB.left = z.left∧zB.at_ < zB.left∧l.length≤lB.length∧l.length < 300)∧(l.length < lB.length∨mB + 1 = m + kk)∧(lB.length≤l.length + 4∧m≤mB∧mB≤m + 4)∧w1.heap.size≤W.heap.size) ?_ ?_)
        ·
          refine wp_seq (wp_plain _ [0,4] rfl (lw_tv 1 rfl (lw_callE 15 [] [] [(.pointer (some ⟨g,0,none⟩)),(.int .i64 ((2:Nat):Int))] rfl rfl cf15 zN (cq_spec_l00Src_one _ g _ _ _ (((2:Nat):Int)) hL15_1 oM oM oM) ?_)))
          rintro e24 w24 ⟨x24_0,n24,rfl,hC24,hs24,hb24,hp24_0⟩
          refine ⟨_,rfl,?_⟩
          have hzs24:w15.heap.size≤w24.heap.size:=hC24.size
          have hE24:Chg [g] w w24:=hE15.trans hC24
          have hF25:=hL15_0.chg ((good_owS good_rAv)) hC24 (fun c hc=>by have:=List.mem_singleton.1 hc; omega)
          have hKx26:=hKA.chg hC24 (fun b hb hm=>by have h91:=hlr b hb; have:=List.mem_singleton.1 hm; omega)
          have hpf24:=pk_one hp24_0 ⟨by decide,by decide⟩
          refine lw_nil ?_
          cases hb27:x24_0
          ·
            refine c_cond_f (by first | rfl | (show Value.bool _ = _; rw [hb27])) (wp_skip ?_)
            have hKe:=hKx26
            exact ⟨(n24,vA,lA,zA),_,rfl,⟨rfl,rfl,rfl,rfl,trivial⟩,⟨hE24,hF25.up (good_owS good_rAv),hs24,(by exact hKe),(by exact hZA),(by exact halA),oM,oM,oM,oM⟩⟩
          ·
            refine c_cond_t (by first | rfl | (show Value.bool _ = _; rw [hb27])) (wp_seq (wp_draw _ [0,0,0,0,0,0,1,0,0,0,0,1,0,4,0,4,0] mixed (by kernel_rfl) (lw_tv 4 rfl (q_nilP ⟨_,_,rfl⟩ rfl zN (q_fldP (p:=(.pointer (some ⟨gr,0,none⟩))) (b:=gr) (o:=0) 1 fd71_1 rfl rfl zN (q_load (p:=(padd (.pointer (some ⟨gr,0,none⟩)) 1)) (.inl rfl) (.int .i64 zA.left) one2 rfl ((hKx26.bx).ldp (i:=1) sM) zN ?_))))))
            refine q_sub (zA.left - ((1:Nat):Int)) rfl rfl (w64 sD sD) zN (lw_tv 1 rfl (q_nilP ⟨_,_,rfl⟩ rfl zN ?_))
            refine q_fldP (p:=(.pointer (some ⟨gr,0,none⟩))) (b:=gr) (o:=0) 0 fd71_0 rfl rfl zN (q_load (p:=(padd (.pointer (some ⟨gr,0,none⟩)) 0)) (.inl rfl) (.int .i64 zA.at_) one2 rfl ((hKx26.bx).ldp (i:=0) sM) zN ?_)
            refine q_sub ((zA.left - ((1:Nat):Int)) - zA.at_) rfl rfl (w64 sD sD) zN ?_
            refine lw_callE 14 [] [] [(.pointer (some ⟨g,0,none⟩)),(.int .i64 ((zA.left - ((1:Nat):Int)) - zA.at_))] rfl rfl cf14 zN (cq_spec_l00Src_pick _ g _ _ _ ((zA.left - ((1:Nat):Int)) - zA.at_) hs24 oM oM oM) ?_
            rintro e28 w28 ⟨x28_0,n28,rfl,hC28,hs28,hb28,hp28_0⟩
            refine ⟨_,rfl,?_⟩
            replace hC28:=hC28.of_drew
            have hzs28:w24.heap.size≤w28.heap.size:=hC28.size
            have hE28:Chg [g] w w28:=hE24.trans hC28
            have hF29:=hF25.chg ((good_owS good_rAv)) hC28 (fun c hc=>by have:=List.mem_singleton.1 hc; omega)
            have hKx30:=hKx26.chg hC28 (fun b hb hm=>by have h91:=hlr b hb; have:=List.mem_singleton.1 hm; omega)
            have hpf28:=pk_fact hp28_0
            refine q_add (((1:Nat):Int) + x28_0) rfl rfl (w64 sD sD) zN ?_
            refine lw_callE 37 [] [] [(.pointer (some ⟨gr,0,none⟩)),vA,(.int .i64 ((1:Nat):Int)),(.int .i64 (((1:Nat):Int) + x28_0))] rfl rfl cf37 zN (c_spec_l06Do _ gr vr Fz zA ((nn:Nat):Int) vA lA w1.heap.size w15.heap.size (((1:Nat):Int)) (((1:Nat):Int) + x28_0) hKx30 hF29 ⟨by omega,by omega⟩ (fun b hb=>by have:=hzr b hb; omega) oM oM oM (by exact hkA) zq17_0) ?_
            rintro e31 w31 ⟨v31,z31,l31,rfl,hC31,hK31,hO31,hD31⟩
            refine ⟨_,rfl,?_⟩
            have hzs31:w28.heap.size≤w31.heap.size:=hC31.size
            have hE31:Chg [g] w w31:=hE28.fresh hC31 (fun c hc=>(mem_zbv.1 hc).elim (fun h=>by have:=hlr c h; omega) fun h=>by omega)
            have hF32:=hs28.chg hC31 (fun c hc=>(mem_zbv.1 hc).elim (fun h=>by have:=hlr c h; omega) fun h=>by omega)
            obtain ⟨hd31,hgw31⟩:=do_len hD31
            have hle31:=hgw31.le
            have hal31:=do_all hD31 halA
            have hZ31:=do_z hD31 hZA (fun h9=>by (try dsimp only at h9); omega)
            have hk31:=hZ31.k
            have hat31:=hk31.at0
            have hln31:=hk31.ln
            have hl031:=hk31.l0
            obtain ⟨hq31,_,hw31⟩:=do_ad hD31 rfl
            have hw231:=hw31 oM
            clear hw31
            have hy31:zA.left - 1 - zA.at_ < 1∨l31.length = lA.length + 1:=(Int.decLt (zA.left - 1 - zA.at_) 1).byCases .inl fun h9=>.inr (do_ad1 hD31 rfl zq17_1 zq17_1 zq17_1).2
            refine lw_tvn 1 rfl (wp_seq (wp_plain _ [0,0] rfl (lw_tv 1 rfl ?_)))
            by_cases hc33:((1:Nat):Int) < ((sl:Nat):Int)
            ·
              refine q_gtr true rfl rfl (decide_eq_true hc33) zN (lw_nil (c_cond_t rfl (wp_plain _ [0,0,0,0,0,4,0,4,0] rfl (lw_tv 4 rfl ?_))))
              refine q_sub (((sl:Nat):Int) - ((1:Nat):Int)) rfl rfl (w64 sD sD) zN ?_
              refine lw_callE 14 [] [] [(.pointer (some ⟨g,0,none⟩)),(.int .i64 (((sl:Nat):Int) - ((1:Nat):Int)))] rfl rfl cf14 zN (cq_spec_l00Src_pick _ g _ _ _ (((sl:Nat):Int) - ((1:Nat):Int)) hF32 oM oM oM) ?_
              rintro e34 w34 ⟨x34_0,n34,rfl,hC34,hs34,hb34,hp34_0⟩
              refine ⟨_,rfl,?_⟩
              have hzs34:w31.heap.size≤w34.heap.size:=hC34.size
              have hE34:Chg [g] w w34:=hE31.trans hC34
              have hF35:=hO31.chg ((good_owS good_rAv)) hC34 (fun c hc=>by have:=List.mem_singleton.1 hc; omega)
              have hKx36:=hK31.chg hC34 (fun b hb hm=>by have h91:=hlr b hb; have:=List.mem_singleton.1 hm; omega)
              have hpf34:=pk_fact hp34_0
              refine q_add (((1:Nat):Int) + x34_0) rfl rfl (w64 sD sD) zN ?_
              refine lw_callE 37 [] [] [(.pointer (some ⟨gr,0,none⟩)),v31,(.int .i64 ((2:Nat):Int)),(.int .i64 (((1:Nat):Int) + x34_0))] rfl rfl cf37 zN (c_spec_l06Do _ gr vr Fz z31 ((nn:Nat):Int) v31 l31 w1.heap.size w31.heap.size (((2:Nat):Int)) (((1:Nat):Int) + x34_0) hKx36 hF35 ⟨by omega,by omega⟩ (fun b hb=>by have:=hzr b hb; omega) oM oM oM (by exact hk31) zq17_0) ?_
              rintro e37 w37 ⟨v37,z37,l37,rfl,hC37,hK37,hO37,hD37⟩
              refine ⟨_,rfl,?_⟩
              have hzs37:w34.heap.size≤w37.heap.size:=hC37.size
              have hE37:Chg [g] w w37:=hE34.fresh hC37 (fun c hc=>(mem_zbv.1 hc).elim (fun h=>by have:=hlr c h; omega) fun h=>by omega)
              have hF38:=hs34.chg hC37 (fun c hc=>(mem_zbv.1 hc).elim (fun h=>by have:=hlr c h; omega) fun h=>by omega)
              obtain ⟨hd37,hgw37⟩:=do_len hD37
              have hle37:=hgw37.le
              have hal37:=do_all hD37 hal31
              have hZ37:=do_z hD37 hZ31 (fun h9=>by (try dsimp only at h9); (try dsimp only); omega)
              have hk37:=hZ37.k
              have hat37:=hk37.at0
              have hln37:=hk37.ln
              have hl037:=hk37.l0
              obtain ⟨hq37,hw37⟩:=do_st hD37 rfl
              have hy37:=do_st1 hD37 rfl hZ31 zq17_1 zq17_1 oM
              refine lw_tvn 1 rfl ?_
              have hKe:=hK37
              exact ⟨(n34,v37,l37,z37),_,rfl,⟨rfl,rfl,rfl,rfl,trivial⟩,⟨hE37,hO37.up (good_owS good_rAv),hF38,(by exact hKe),(by exact hZ37),(by exact hal37),oM,oM,oM,oM⟩⟩
            ·
              refine q_gtr false rfl rfl (decide_eq_false hc33) zN (lw_nil (c_cond_f rfl (wp_skip ?_)))
              have hKe:=hK31
              exact ⟨(n28,v31,l31,z31),_,rfl,⟨rfl,rfl,rfl,rfl,trivial⟩,⟨hE31,hO31.up (good_owS good_rAv),hF32,(by exact hKe),(by exact hZ31),(by exact hal31),oM,oM,oM,oM⟩⟩
        ·
          clear hkB16 hl0A hL15_1 hL15_0 hE15 hzs15
          rintro ⟨mB,vB,lB,zB⟩ ρ22 w22 ⟨hE22,hL22_0,hL22_1,hKB,hZB,halB,hqB,hgB,hlB,hkB23⟩
          have hzs22:w.heap.size≤w22.heap.size:=hE22.size
          have hkB:=hZB.k
          have hatB:=hkB.at0
          have hlnB:=hkB.ln
          have hl0B:=hkB.l0
          refine wp_seq (wp_seq (wp_plain _ [0,4] rfl (lw_tv 1 rfl (lw_callE 15 [] [] [(.pointer (some ⟨g,0,none⟩)),(.int .i64 ((5:Nat):Int))] rfl rfl cf15 zN (cq_spec_l00Src_one _ g _ _ _ (((5:Nat):Int)) hL22_1 oM oM oM) ?_))))
          rintro e39 w39 ⟨x39_0,n39,rfl,hC39,hs39,hb39,hp39_0⟩
          refine ⟨_,rfl,?_⟩
          have hzs39:w22.heap.size≤w39.heap.size:=hC39.size
          have hE39:Chg [g] w w39:=hE22.trans hC39
          have hF40:=hL22_0.chg ((good_owS good_rAv)) hC39 (fun c hc=>by have:=List.mem_singleton.1 hc; omega)
          have hKx41:=hKB.chg hC39 (fun b hb hm=>by have h91:=hlr b hb; have:=List.mem_singleton.1 hm; omega)
          have hpf39:=pk_one hp39_0 ⟨by decide,by decide⟩
          refine lw_nil ?_
          cases hb42:x39_0
          ·
            refine c_cond_f (by first | rfl | (show Value.bool _ = _; rw [hb42])) (wp_skip (wp_seq (wp_draw _ [0,0,0,0,0,1,0,0,0,0,1,0,4,0] mixed (by kernel_rfl) (lw_tv 3 rfl (q_nilP ⟨_,_,rfl⟩ rfl zN (q_fldP (p:=(.pointer (some ⟨gr,0,none⟩))) (b:=gr) (o:=0) 1 fd71_1 rfl rfl zN (q_load (p:=(padd (.pointer (some ⟨gr,0,none⟩)) 1)) (.inl rfl) (.int .i64 zB.left) one2 rfl ((hKx41.bx).ldp (i:=1) sM) zN ?_)))))))
            refine q_sub (zB.left - ((1:Nat):Int)) rfl rfl (w64 sD sD) zN (lw_tv 1 rfl (q_nilP ⟨_,_,rfl⟩ rfl zN ?_))
            refine q_fldP (p:=(.pointer (some ⟨gr,0,none⟩))) (b:=gr) (o:=0) 0 fd71_0 rfl rfl zN (q_load (p:=(padd (.pointer (some ⟨gr,0,none⟩)) 0)) (.inl rfl) (.int .i64 zB.at_) one2 rfl ((hKx41.bx).ldp (i:=0) sM) zN ?_)
            refine q_sub ((zB.left - ((1:Nat):Int)) - zB.at_) rfl rfl (w64 sD sD) zN ?_
            have hdr44:w39.drew.heap.size = w39.heap.size:=rfl
            refine lw_callE 37 [] [] [(.pointer (some ⟨gr,0,none⟩)),vB,(.int .i64 ((1:Nat):Int)),(.int .i64 ((zB.left - ((1:Nat):Int)) - zB.at_))] rfl rfl cf37 zN (c_spec_l06Do _ gr vr Fz zB ((nn:Nat):Int) vB lB w1.heap.size w22.heap.size (((1:Nat):Int)) ((zB.left - ((1:Nat):Int)) - zB.at_) hKx41 hF40 ⟨by omega,by omega⟩ (fun b hb=>by have:=hzr b hb; omega) oM oM oM (by exact hkB) zq17_0) ?_
            rintro e43 w43 ⟨v43,z43,l43,rfl,hC43,hK43,hO43,hD43⟩
            replace hC43:=hC43.of_drew
            refine ⟨_,rfl,?_⟩
            have hzs43:w39.heap.size≤w43.heap.size:=hC43.size
            have hE43:Chg [g] w w43:=hE39.fresh hC43 (fun c hc=>(mem_zbv.1 hc).elim (fun h=>by have:=hlr c h; omega) fun h=>by omega)
            have hF45:=hs39.chg hC43 (fun c hc=>(mem_zbv.1 hc).elim (fun h=>by have:=hlr c h; omega) fun h=>by omega)
            obtain ⟨hd43,hgw43⟩:=do_len hD43
            have hle43:=hgw43.le
            have hal43:=do_all hD43 halB
            have hZ43:=do_z hD43 hZB (fun h9=>by (try dsimp only at h9); omega)
            have hk43:=hZ43.k
            have hat43:=hk43.at0
            have hln43:=hk43.ln
            have hl043:=hk43.l0
            obtain ⟨hq43,_,hw43⟩:=do_ad hD43 rfl
            have hw243:=hw43 oM
            clear hw43
            have hy43:zB.left - 1 - zB.at_ < 1∨l43.length = lB.length + 1:=(Int.decLt (zB.left - 1 - zB.at_) 1).byCases .inl fun h9=>.inr (do_ad1 hD43 rfl zq17_1 zq17_1 zq17_1).2
            refine lw_tvn 1 rfl (wp_seq (wp_plain _ [0,0,4,0] rfl (lw_tv 2 rfl (lw_callE 37 [] [] [(.pointer (some ⟨gr,0,none⟩)),v43,(.int .i64 ((4:Nat):Int)),(.int .i64 ((0:Nat):Int))] rfl rfl cf37 zN (c_spec_l06Do _ gr vr Fz z43 ((nn:Nat):Int) v43 l43 w1.heap.size w43.heap.size (((4:Nat):Int)) (((0:Nat):Int)) hK43 hO43 ⟨by omega,by omega⟩ (fun b hb=>by have:=hzr b hb; omega) oM oM oM (by exact hk43) zq17_0) ?_))))
            rintro e46 w46 ⟨v46,z46,l46,rfl,hC46,hK46,hO46,hD46⟩
            refine ⟨_,rfl,?_⟩
            have hzs46:w43.heap.size≤w46.heap.size:=hC46.size
            have hE46:Chg [g] w w46:=hE43.fresh hC46 (fun c hc=>(mem_zbv.1 hc).elim (fun h=>by have:=hlr c h; omega) fun h=>by omega)
            have hF47:=hF45.chg hC46 (fun c hc=>(mem_zbv.1 hc).elim (fun h=>by have:=hlr c h; omega) fun h=>by omega)
            obtain ⟨hd46,hgw46⟩:=do_len hD46
            have hle46:=hgw46.le
            have hal46:=do_all hD46 hal43
            have hZ46:=do_z hD46 hZ43 (fun h9=>by (try dsimp only at h9); omega)
            have hk46:=hZ46.k
            have hat46:=hk46.at0
            have hln46:=hk46.ln
            have hl046:=hk46.l0
            obtain ⟨hy46,hq46,hw46⟩:=do_end hD43 hD46 rfl rfl rfl rfl oM oM oM
            refine lw_tvn 1 rfl (wp_seq (wp_draw _ [0,0,0,0,0,0,1,0,0,0,1,0,0,0] mixed (by kernel_rfl) (lw_tv 1 rfl ?_)))
            by_cases hc48:((sl:Nat):Int) = ((0:Nat):Int)
            ·
              refine q_eql true rfl rfl (decide_eq_true hc48) zN (lw_tv 2 rfl (q_nilP ⟨_,_,rfl⟩ rfl (zS (e:=92) rfl rfl rfl) (q_fldP (p:=(.pointer (some ⟨gr,0,none⟩))) (b:=gr) (o:=0) 0 fd71_0 rfl rfl (zS (e:=92) rfl rfl rfl) (q_load (p:=(padd (.pointer (some ⟨gr,0,none⟩)) 0)) (.inl rfl) (.int .i64 z46.at_) one2 rfl ((hK46.bx).ldp (i:=0) sM) (zS (e:=92) rfl rfl rfl) (lw_tv 1 rfl (q_nilP ⟨_,_,rfl⟩ rfl (zS (e:=92) rfl rfl rfl) (q_fldP (p:=(.pointer (some ⟨gr,0,none⟩))) (b:=gr) (o:=0) 1 fd71_1 rfl rfl (zS (e:=92) rfl rfl rfl) (q_load (p:=(padd (.pointer (some ⟨gr,0,none⟩)) 1)) (.inl rfl) (.int .i64 z46.left) one2 rfl ((hK46.bx).ldp (i:=1) sM) (zS (e:=92) rfl rfl rfl) ?_))))))))
              refine q_sub (z46.left - ((1:Nat):Int)) rfl rfl (w64 sD sD) (zS (e:=92) rfl rfl rfl) ?_
              by_cases hc49:z46.left - ((1:Nat):Int) < z46.at_
              ·
                refine q_gtr true rfl rfl (decide_eq_true hc49) (zS (e:=92) rfl rfl rfl) (lw_tvn 1 rfl (c_cond_t rfl (wp_exit (c_exit_out rfl (t_exit (c_exit_here (wp_seq (wp_seq (wp_plain _ [0,0,0,0,4,0] rfl (lw_tv 1 rfl ?_))))))))))
                by_cases hc50:((0:Nat):Int) < ((sl:Nat):Int)
                ·
                  refine q_gtr true rfl rfl (decide_eq_true hc50) zN (lw_tv 2 rfl (lw_callE 15 [] [] [(.pointer (some ⟨g,0,none⟩)),(.int .i64 ((3:Nat):Int))] rfl rfl cf15 (zS (e:=106) rfl rfl rfl) (cq_spec_l00Src_one _ g _ _ _ (((3:Nat):Int)) hF47 oM oM oM) ?_))
                  rintro e51 w51 ⟨x51_0,n51,rfl,hC51,hs51,hb51,hp51_0⟩
                  refine ⟨_,rfl,?_⟩
                  replace hC51:=hC51.of_drew
                  have hzs51:w46.heap.size≤w51.heap.size:=hC51.size
                  have hE51:Chg [g] w w51:=hE46.trans hC51
                  have hF52:=hO46.chg ((good_owS good_rAv)) hC51 (fun c hc=>by have:=List.mem_singleton.1 hc; omega)
                  have hKx53:=hK46.chg hC51 (fun b hb hm=>by have h91:=hlr b hb; have:=List.mem_singleton.1 hm; omega)
                  have hpf51:=pk_one hp51_0 ⟨by decide,by decide⟩
                  refine lw_tvn 1 rfl ?_
                  cases hb54:x51_0
                  ·
                    exact c_cond_f (by first | rfl | (show Value.bool _ = _; rw [hb54])) (wp_skip (wp_seq (wp_plain _ [0,0] rfl (lw_tvn 2 rfl (wp_ret (post_ret [6] rfl v46 rfl ⟨v46,l46,n51,rfl,hE51,hs51,⟨by omega,by omega⟩,((hF52.up (good_owS good_rAv)).low (B':=w.heap.size) oM),(by exact ⟨hal46,by omega⟩)⟩))))))
                  ·
                    refine c_cond_t (by first | rfl | (show Value.bool _ = _; rw [hb54])) (wp_seq (wp_plain _ [0,0,0,0,4,4,0] rfl (lw_tv 4 rfl (lw_callE 14 [] [] [(.pointer (some ⟨g,0,none⟩)),(.int .i64 ((sl:Nat):Int))] rfl rfl cf14 zN (cq_spec_l00Src_pick _ g _ _ _ (((sl:Nat):Int)) hs51 oM oM oM) ?_))))
                    rintro e55 w55 ⟨x55_0,n55,rfl,hC55,hs55,hb55,hp55_0⟩
                    refine ⟨_,rfl,?_⟩
                    have hzs55:w51.heap.size≤w55.heap.size:=hC55.size
                    have hE55:Chg [g] w w55:=hE51.trans hC55
                    have hF56:=hF52.chg ((good_owS good_rAv)) hC55 (fun c hc=>by have:=List.mem_singleton.1 hc; omega)
                    have hKx57:=hKx53.chg hC55 (fun b hb hm=>by have h91:=hlr b hb; have:=List.mem_singleton.1 hm; omega)
                    have hpf55:=pk_fact hp55_0
                    refine lw_callE 37 [] [] [(.pointer (some ⟨gr,0,none⟩)),v46,(.int .i64 ((2:Nat):Int)),(.int .i64 x55_0)] rfl rfl cf37 zN (c_spec_l06Do _ gr vr Fz z46 ((nn:Nat):Int) v46 l46 w1.heap.size w46.heap.size (((2:Nat):Int)) (x55_0) hKx57 hF56 ⟨by omega,by omega⟩ (fun b hb=>by have:=hzr b hb; omega) oM oM oM (by exact hk46) zq17_0) ?_
                    rintro e58 w58 ⟨v58,z58,l58,rfl,hC58,hK58,hO58,hD58⟩
                    refine ⟨_,rfl,?_⟩
                    have hzs58:w55.heap.size≤w58.heap.size:=hC58.size
                    have hE58:Chg [g] w w58:=hE55.fresh hC58 (fun c hc=>(mem_zbv.1 hc).elim (fun h=>by have:=hlr c h; omega) fun h=>by omega)
                    have hF59:=hs55.chg hC58 (fun c hc=>(mem_zbv.1 hc).elim (fun h=>by have:=hlr c h; omega) fun h=>by omega)
                    obtain ⟨hd58,hgw58⟩:=do_len hD58
                    have hle58:=hgw58.le
                    have hal58:=do_all hD58 hal46
                    have hk58:=do_k hD58 hk46
                    refine lw_tvn 1 rfl (wp_plain _ [0,0,4,0] rfl (lw_tv 2 rfl (lw_callE 37 [] [] [(.pointer (some ⟨gr,0,none⟩)),v58,(.int .i64 ((3:Nat):Int)),(.int .i64 ((0:Nat):Int))] rfl rfl cf37 zN (c_spec_l06Do _ gr vr Fz z58 ((nn:Nat):Int) v58 l58 w1.heap.size w58.heap.size (((3:Nat):Int)) (((0:Nat):Int)) hK58 hO58 ⟨by omega,by omega⟩ (fun b hb=>by have:=hzr b hb; omega) oM oM oM (by exact hk58) zq17_0) ?_)))
                    rintro e60 w60 ⟨v60,z60,l60,rfl,hC60,hK60,hO60,hD60⟩
                    refine ⟨_,rfl,?_⟩
                    have hzs60:w58.heap.size≤w60.heap.size:=hC60.size
                    have hE60:Chg [g] w w60:=hE58.fresh hC60 (fun c hc=>(mem_zbv.1 hc).elim (fun h=>by have:=hlr c h; omega) fun h=>by omega)
                    have hF61:=hF59.chg hC60 (fun c hc=>(mem_zbv.1 hc).elim (fun h=>by have:=hlr c h; omega) fun h=>by omega)
                    obtain ⟨hd60,hgw60⟩:=do_len hD60
                    have hle60:=hgw60.le
                    have hal60:=do_all hD60 hal58
                    have hk60:=do_k hD60 hk58
                    exact lw_tvn 1 rfl (wp_seq (wp_plain _ [0,0] rfl (lw_tvn 2 rfl (wp_ret (post_ret [6] rfl v60 rfl ⟨v60,l60,n55,rfl,hE60,hF61,⟨by omega,by omega⟩,((hO60.up (good_owS good_rAv)).low (B':=w.heap.size) oM),(by exact ⟨hal60,by omega⟩)⟩)))))
                ·
                  exact q_gtr false rfl rfl (decide_eq_false hc50) zN (lw_tvn 4 rfl (c_cond_f rfl (wp_skip (wp_seq (wp_plain _ [0,0] rfl (lw_tvn 2 rfl (wp_ret (post_ret [6] rfl v46 rfl ⟨v46,l46,n39,rfl,hE46.drew,hF47,⟨by omega,by omega⟩,((hO46.up (good_owS good_rAv)).low (B':=w.heap.size) oM),(by exact ⟨hal46,by omega⟩)⟩))))))))
              ·
                refine q_gtr false rfl rfl (decide_eq_false hc49) (zS (e:=92) rfl rfl rfl) (lw_tvn 1 rfl (c_cond_f rfl (wp_skip ?_)))
                have hdr62:w46.drew.heap.size = w46.heap.size:=rfl
                have hfin63:l.length < l46.length∨(l46.length = l.length∧n39 = m + kk∧btq cs (m + (kk - 1)) % 5 = 0):=by
                  exact .inl oM
                obtain ⟨t9,hw9,ht9,hm9⟩:=wait_next hk23 hcs5 hwl htl oM hfin63
                have hKe:=hK46
                exact ⟨(n39,v46,l46,z46,t9),_,rfl,⟨rfl,rfl,rfl,rfl,trivial⟩,⟨hE46.drew,hO46.up (good_owS good_rAv),hF47,(by exact hKe),(by exact hZ46),oM,(by exact hal46),oM,(by exact hw9),(by exact ht9),oM,oM⟩,by first | omega | (dsimp only; omega)⟩
            ·
              refine q_eql false rfl rfl (decide_eq_false hc48) zN (lw_tvn 12 rfl (c_cond_f rfl (wp_skip ?_)))
              have hdr64:w46.drew.heap.size = w46.heap.size:=rfl
              have hfin65:l.length < l46.length∨(l46.length = l.length∧n39 = m + kk∧btq cs (m + (kk - 1)) % 5 = 0):=by
                exact .inl oM
              obtain ⟨t9,hw9,ht9,hm9⟩:=wait_next hk23 hcs5 hwl htl oM hfin65
              have hKe:=hK46
              exact ⟨(n39,v46,l46,z46,t9),_,rfl,⟨rfl,rfl,rfl,rfl,trivial⟩,⟨hE46.drew,hO46.up (good_owS good_rAv),hF47,(by exact hKe),(by exact hZ46),oM,(by exact hal46),oM,(by exact hw9),(by exact ht9),oM,oM⟩,by first | omega | (dsimp only; omega)⟩
          ·
            refine c_cond_t (by first | rfl | (show Value.bool _ = _; rw [hb42])) (wp_exit (t_exit (c_exit_here ?_)))
            have hfin66:l.length < lB.length∨(lB.length = l.length∧n39 = m + kk∧btq cs (m + (kk - 1)) % 5 = 0):=by
              exact (Nat.lt_or_ge l.length lB.length).elim .inl fun hgr=>.inr ⟨by omega,by omega,by rw [show m + (kk - 1) = mB from by omega]; exact pk_yes hp39_0 ⟨by decide,by decide⟩ hb42⟩
            obtain ⟨t9,hw9,ht9,hm9⟩:=wait_next hk23 hcs5 hwl htl oM hfin66
            have hKe:=hKx41
            exact ⟨(n39,vB,lB,zB,t9),_,rfl,⟨rfl,rfl,rfl,rfl,trivial⟩,⟨hE39,hF40.up (good_owS good_rAv),hs39,(by exact hKe),(by exact hZB),oM,(by exact halB),oM,(by exact hw9),(by exact ht9),oM,oM⟩,by first | omega | (dsimp only; omega)⟩
    ·
      refine q_gtr false rfl rfl (decide_eq_false hc9) (zS (e:=19) rfl rfl rfl) (lw_tvn 1 rfl (c_cond_f rfl (wp_exit (t_exit (t_exit (c_exit_here (wp_seq (wp_seq (wp_plain _ [0,0,0,0,4,0] rfl (lw_tv 1 rfl ?_))))))))))
      by_cases hc67:((0:Nat):Int) < ((sl:Nat):Int)
      ·
        refine q_gtr true rfl rfl (decide_eq_true hc67) zN (lw_tv 2 rfl (lw_callE 15 [] [] [(.pointer (some ⟨g,0,none⟩)),(.int .i64 ((3:Nat):Int))] rfl rfl cf15 (zS (e:=106) rfl rfl rfl) (cq_spec_l00Src_one _ g _ _ _ (((3:Nat):Int)) hL6_1 oM oM oM) ?_))
        rintro e68 w68 ⟨x68_0,n68,rfl,hC68,hs68,hb68,hp68_0⟩
        refine ⟨_,rfl,?_⟩
        have hzs68:w6.heap.size≤w68.heap.size:=hC68.size
        have hE68:Chg [g] w w68:=hE6.trans hC68
        have hF69:=hL6_0.chg ((good_owS good_rAv)) hC68 (fun c hc=>by have:=List.mem_singleton.1 hc; omega)
        have hKx70:=hKl.chg hC68 (fun b hb hm=>by have h91:=hlr b hb; have:=List.mem_singleton.1 hm; omega)
        have hpf68:=pk_one hp68_0 ⟨by decide,by decide⟩
        refine lw_tvn 1 rfl ?_
        cases hb71:x68_0
        ·
          exact c_cond_f (by first | rfl | (show Value.bool _ = _; rw [hb71])) (wp_skip (wp_seq (wp_plain _ [0,0] rfl (lw_tvn 2 rfl (wp_ret (post_ret [6] rfl vo rfl ⟨vo,l,n68,rfl,hE68,hs68,⟨by omega,by omega⟩,((hF69.up (good_owS good_rAv)).low (B':=w.heap.size) oM),zq17_2⟩))))))
        ·
          refine c_cond_t (by first | rfl | (show Value.bool _ = _; rw [hb71])) (wp_seq (wp_plain _ [0,0,0,0,4,4,0] rfl (lw_tv 4 rfl (lw_callE 14 [] [] [(.pointer (some ⟨g,0,none⟩)),(.int .i64 ((sl:Nat):Int))] rfl rfl cf14 zN (cq_spec_l00Src_pick _ g _ _ _ (((sl:Nat):Int)) hs68 oM oM oM) ?_))))
          rintro e72 w72 ⟨x72_0,n72,rfl,hC72,hs72,hb72,hp72_0⟩
          refine ⟨_,rfl,?_⟩
          have hzs72:w68.heap.size≤w72.heap.size:=hC72.size
          have hE72:Chg [g] w w72:=hE68.trans hC72
          have hF73:=hF69.chg ((good_owS good_rAv)) hC72 (fun c hc=>by have:=List.mem_singleton.1 hc; omega)
          have hKx74:=hKx70.chg hC72 (fun b hb hm=>by have h91:=hlr b hb; have:=List.mem_singleton.1 hm; omega)
          have hpf72:=pk_fact hp72_0
          refine lw_callE 37 [] [] [(.pointer (some ⟨gr,0,none⟩)),vo,(.int .i64 ((2:Nat):Int)),(.int .i64 x72_0)] rfl rfl cf37 zN (c_spec_l06Do _ gr vr Fz z ((nn:Nat):Int) vo l w1.heap.size w6.heap.size (((2:Nat):Int)) (x72_0) hKx74 hF73 ⟨by omega,by omega⟩ (fun b hb=>by have:=hzr b hb; omega) oM oM oM (by exact hkl) zq17_0) ?_
          rintro e75 w75 ⟨v75,z75,l75,rfl,hC75,hK75,hO75,hD75⟩
          refine ⟨_,rfl,?_⟩
          have hzs75:w72.heap.size≤w75.heap.size:=hC75.size
          have hE75:Chg [g] w w75:=hE72.fresh hC75 (fun c hc=>(mem_zbv.1 hc).elim (fun h=>by have:=hlr c h; omega) fun h=>by omega)
          have hF76:=hs72.chg hC75 (fun c hc=>(mem_zbv.1 hc).elim (fun h=>by have:=hlr c h; omega) fun h=>by omega)
          obtain ⟨hd75,hgw75⟩:=do_len hD75
          have hle75:=hgw75.le
          have hal75:=do_all hD75 hall
          have hk75:=do_k hD75 hkl
          refine lw_tvn 1 rfl (wp_plain _ [0,0,4,0] rfl (lw_tv 2 rfl (lw_callE 37 [] [] [(.pointer (some ⟨gr,0,none⟩)),v75,(.int .i64 ((3:Nat):Int)),(.int .i64 ((0:Nat):Int))] rfl rfl cf37 zN (c_spec_l06Do _ gr vr Fz z75 ((nn:Nat):Int) v75 l75 w1.heap.size w75.heap.size (((3:Nat):Int)) (((0:Nat):Int)) hK75 hO75 ⟨by omega,by omega⟩ (fun b hb=>by have:=hzr b hb; omega) oM oM oM (by exact hk75) zq17_0) ?_)))
          rintro e77 w77 ⟨v77,z77,l77,rfl,hC77,hK77,hO77,hD77⟩
          refine ⟨_,rfl,?_⟩
          have hzs77:w75.heap.size≤w77.heap.size:=hC77.size
          have hE77:Chg [g] w w77:=hE75.fresh hC77 (fun c hc=>(mem_zbv.1 hc).elim (fun h=>by have:=hlr c h; omega) fun h=>by omega)
          have hF78:=hF76.chg hC77 (fun c hc=>(mem_zbv.1 hc).elim (fun h=>by have:=hlr c h; omega) fun h=>by omega)
          obtain ⟨hd77,hgw77⟩:=do_len hD77
          have hle77:=hgw77.le
          have hal77:=do_all hD77 hal75
          have hk77:=do_k hD77 hk75
          exact lw_tvn 1 rfl (wp_seq (wp_plain _ [0,0] rfl (lw_tvn 2 rfl (wp_ret (post_ret [6] rfl v77 rfl ⟨v77,l77,n72,rfl,hE77,hF78,⟨by omega,by omega⟩,((hO77.up (good_owS good_rAv)).low (B':=w.heap.size) oM),(by exact ⟨hal77,by omega⟩)⟩)))))
      ·
        exact q_gtr false rfl rfl (decide_eq_false hc67) zN (lw_tvn 4 rfl (c_cond_f rfl (wp_skip (wp_seq (wp_plain _ [0,0] rfl (lw_tvn 2 rfl (wp_ret (post_ret [6] rfl vo rfl ⟨vo,l,m,rfl,hE6,hL6_1,⟨by omega,by omega⟩,((hL6_0.up (good_owS good_rAv)).low (B':=w.heap.size) oM),zq17_2⟩))))))))
  ·
    refine q_lss false rfl rfl (decide_eq_false hc8) zN (lw_tvn 7 rfl (c_cond_f rfl (wp_exit (t_exit (t_exit (c_exit_here (wp_seq (wp_seq (wp_plain _ [0,0,0,0,4,0] rfl (lw_tv 1 rfl ?_))))))))))
    by_cases hc79:((0:Nat):Int) < ((sl:Nat):Int)
    ·
      refine q_gtr true rfl rfl (decide_eq_true hc79) zN (lw_tv 2 rfl (lw_callE 15 [] [] [(.pointer (some ⟨g,0,none⟩)),(.int .i64 ((3:Nat):Int))] rfl rfl cf15 (zS (e:=106) rfl rfl rfl) (cq_spec_l00Src_one _ g _ _ _ (((3:Nat):Int)) hL6_1 oM oM oM) ?_))
      rintro e80 w80 ⟨x80_0,n80,rfl,hC80,hs80,hb80,hp80_0⟩
      refine ⟨_,rfl,?_⟩
      have hzs80:w6.heap.size≤w80.heap.size:=hC80.size
      have hE80:Chg [g] w w80:=hE6.trans hC80
      have hF81:=hL6_0.chg ((good_owS good_rAv)) hC80 (fun c hc=>by have:=List.mem_singleton.1 hc; omega)
      have hKx82:=hKl.chg hC80 (fun b hb hm=>by have h91:=hlr b hb; have:=List.mem_singleton.1 hm; omega)
      have hpf80:=pk_one hp80_0 ⟨by decide,by decide⟩
      refine lw_tvn 1 rfl ?_
      cases hb83:x80_0
      ·
        exact c_cond_f (by first | rfl | (show Value.bool _ = _; rw [hb83])) (wp_skip (wp_seq (wp_plain _ [0,0] rfl (lw_tvn 2 rfl (wp_ret (post_ret [6] rfl vo rfl ⟨vo,l,n80,rfl,hE80,hs80,⟨by omega,by omega⟩,((hF81.up (good_owS good_rAv)).low (B':=w.heap.size) oM),zq17_2⟩))))))
      ·
        refine c_cond_t (by first | rfl | (show Value.bool _ = _; rw [hb83])) (wp_seq (wp_plain _ [0,0,0,0,4,4,0] rfl (lw_tv 4 rfl (lw_callE 14 [] [] [(.pointer (some ⟨g,0,none⟩)),(.int .i64 ((sl:Nat):Int))] rfl rfl cf14 zN (cq_spec_l00Src_pick _ g _ _ _ (((sl:Nat):Int)) hs80 oM oM oM) ?_))))
        rintro e84 w84 ⟨x84_0,n84,rfl,hC84,hs84,hb84,hp84_0⟩
        refine ⟨_,rfl,?_⟩
        have hzs84:w80.heap.size≤w84.heap.size:=hC84.size
        have hE84:Chg [g] w w84:=hE80.trans hC84
        have hF85:=hF81.chg ((good_owS good_rAv)) hC84 (fun c hc=>by have:=List.mem_singleton.1 hc; omega)
        have hKx86:=hKx82.chg hC84 (fun b hb hm=>by have h91:=hlr b hb; have:=List.mem_singleton.1 hm; omega)
        have hpf84:=pk_fact hp84_0
        refine lw_callE 37 [] [] [(.pointer (some ⟨gr,0,none⟩)),vo,(.int .i64 ((2:Nat):Int)),(.int .i64 x84_0)] rfl rfl cf37 zN (c_spec_l06Do _ gr vr Fz z ((nn:Nat):Int) vo l w1.heap.size w6.heap.size (((2:Nat):Int)) (x84_0) hKx86 hF85 ⟨by omega,by omega⟩ (fun b hb=>by have:=hzr b hb; omega) oM oM oM (by exact hkl) zq17_0) ?_
        rintro e87 w87 ⟨v87,z87,l87,rfl,hC87,hK87,hO87,hD87⟩
        refine ⟨_,rfl,?_⟩
        have hzs87:w84.heap.size≤w87.heap.size:=hC87.size
        have hE87:Chg [g] w w87:=hE84.fresh hC87 (fun c hc=>(mem_zbv.1 hc).elim (fun h=>by have:=hlr c h; omega) fun h=>by omega)
        have hF88:=hs84.chg hC87 (fun c hc=>(mem_zbv.1 hc).elim (fun h=>by have:=hlr c h; omega) fun h=>by omega)
        obtain ⟨hd87,hgw87⟩:=do_len hD87
        have hle87:=hgw87.le
        have hal87:=do_all hD87 hall
        have hk87:=do_k hD87 hkl
        refine lw_tvn 1 rfl (wp_plain _ [0,0,4,0] rfl (lw_tv 2 rfl (lw_callE 37 [] [] [(.pointer (some ⟨gr,0,none⟩)),v87,(.int .i64 ((3:Nat):Int)),(.int .i64 ((0:Nat):Int))] rfl rfl cf37 zN (c_spec_l06Do _ gr vr Fz z87 ((nn:Nat):Int) v87 l87 w1.heap.size w87.heap.size (((3:Nat):Int)) (((0:Nat):Int)) hK87 hO87 ⟨by omega,by omega⟩ (fun b hb=>by have:=hzr b hb; omega) oM oM oM (by exact hk87) zq17_0) ?_)))
        rintro e89 w89 ⟨v89,z89,l89,rfl,hC89,hK89,hO89,hD89⟩
        refine ⟨_,rfl,?_⟩
        have hzs89:w87.heap.size≤w89.heap.size:=hC89.size
        have hE89:Chg [g] w w89:=hE87.fresh hC89 (fun c hc=>(mem_zbv.1 hc).elim (fun h=>by have:=hlr c h; omega) fun h=>by omega)
        have hF90:=hF88.chg hC89 (fun c hc=>(mem_zbv.1 hc).elim (fun h=>by have:=hlr c h; omega) fun h=>by omega)
        obtain ⟨hd89,hgw89⟩:=do_len hD89
        have hle89:=hgw89.le
        have hal89:=do_all hD89 hal87
        have hk89:=do_k hD89 hk87
        exact lw_tvn 1 rfl (wp_seq (wp_plain _ [0,0] rfl (lw_tvn 2 rfl (wp_ret (post_ret [6] rfl v89 rfl ⟨v89,l89,n84,rfl,hE89,hF90,⟨by omega,by omega⟩,((hO89.up (good_owS good_rAv)).low (B':=w.heap.size) oM),(by exact ⟨hal89,by omega⟩)⟩)))))
    ·
      exact q_gtr false rfl rfl (decide_eq_false hc79) zN (lw_tvn 4 rfl (c_cond_f rfl (wp_skip (wp_seq (wp_plain _ [0,0] rfl (lw_tvn 2 rfl (wp_ret (post_ret [6] rfl vo rfl ⟨vo,l,m,rfl,hE6,hL6_1,⟨by omega,by omega⟩,((hL6_0.up (good_owS good_rAv)).low (B':=w.heap.size) oM),zq17_2⟩))))))))
end Go.Proofs.Ytoacbkmejjhceaa
