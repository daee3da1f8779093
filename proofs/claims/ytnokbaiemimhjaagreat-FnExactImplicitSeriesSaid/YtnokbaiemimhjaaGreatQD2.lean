/- FwX, FwY, Gc, Ma, Mb, Na, Mc, Md, Me, Mj, Ml, Mf, Mg, Mh, Mo, Mi, Mq, Nb, Nc, Nd, Ne, Gd, Ge, Gu, Gv, Gw, Gx, Nf, Ng, Nh, Ni, Nj, Nk, Nl, Ga, Gj, Gk, Gh, Gl, Gm, Gr, Gq, Gp, Gs, Gy, Gz, Ha: texts of this claim, joined; what the claim does not come to is left out. -/
import Derived.Test.YtnokbaiemimhjaaGreatQD1
import Derived.Test.YtnokbaiemimhjaaGreatProg
set_option linter.unusedVariables false
set_option linter.unusedSimpArgs false
namespace Go.Proofs.YtnokbaiemimhjaaGreat
open Go Go.RowKit
section
theorem Dr.imp {α:Type}{E E':Bw α}{s:Nat}{H:Array Obj}{v:Value}{xs:List α}{F:List Nat}(hi:∀ {H cs x F},E H cs x F→E' H cs x F)(h:Dr s E H v xs F):Dr s E' H v xs F:=by
 rcases h with h|⟨css,g,off,cap,cur,e,fr,F',h1,h2⟩
 ·exact .inl h
 ·exact .inr ⟨css,g,off,cap,cur,e,fr,F',h1.imp hi,h2⟩
def RE (e:TypeId):Nat→Bw Ex
 |0=>fun _ _ _ _=>False
 |d+1=>fun H cs x F=>∃v,cs=Ge x v∧kP x∧DN 5 (RE e d) e H v x.kids F
theorem Ct (e:TypeId):∀d,Ck 5 (RE e d)
 |0=>⟨fun h=>h.elim,fun h=>h.elim,fun h=>h.elim,fun h=>h.elim⟩
 |d+1=>by
  have ih:=Ct e d
  refine⟨?_,?_,?_,?_⟩
  ·rintro H cs e F ⟨v,rfl,_,_⟩;rfl
  ·rintro H cs e F ⟨v,rfl,_,h⟩ u hu
   unfold Ge at hu
   simp only[List.mem_cons,List.not_mem_nil,or_false]at hu
   rcases hu with rfl|rfl|rfl|rfl|rfl
   ·exact⟨rfl,rfl⟩
   ·exact⟨rfl,rfl⟩
   ·exact⟨rfl,rfl⟩
   ·exact⟨rfl,rfl⟩
   ·exact⟨(Ax ih).cells h,(Ax ih).one h⟩
  ·rintro H cs e F ⟨v,rfl,_,h⟩ b hb
   exact(Ax ih).lt h b hb
  ·rintro H H' cs e F ⟨v,rfl,hr,h⟩ hb
   exact⟨v,rfl,hr,(Ax ih).stable h hb⟩
theorem Uh (e:TypeId):∀ {d:Nat}{H:Array Obj}{cs:List Value}{x:Ex}{F:List Nat},RE e d H cs x F→IE d H cs x F
 |0,_,_,_,_,h=>h.elim
 |d+1,_,_,_,_,⟨v,h1,h2,h3⟩=>⟨v,h1,h2,(h3.rd (Ct e d)).imp fun h=>Uh e h⟩
def Yf (e:TypeId)(d:Nat):Bw Fn:=fun H cs f F=>∃v,cs=Gf f v∧BC f.params∧DN 5 (RE e d) e H v f.outs F
theorem AZ (e:TypeId)(d:Nat):Ck 3 (Yf e d):=by
 have ih:=Ax (e:=e) (Ct e d)
 refine⟨?_,?_,?_,?_⟩
 ·rintro H cs e F ⟨v,rfl,_,_⟩;rfl
 ·rintro H cs e F ⟨v,rfl,_,h⟩ u hu
  unfold Gf at hu
  simp only[List.mem_cons,List.not_mem_nil,or_false]at hu
  rcases hu with rfl|rfl|rfl
  ·exact⟨rfl,rfl⟩
  ·exact⟨rfl,rfl⟩
  ·exact⟨ih.cells h,ih.one h⟩
 ·rintro H cs e F ⟨v,rfl,_,h⟩ b hb
  exact ih.lt h b hb
 ·rintro H H' cs e F ⟨v,rfl,hr,h⟩ hb
  exact⟨v,rfl,hr,ih.stable h hb⟩
theorem cC (e:TypeId){d:Nat}{H:Array Obj}{cs:List Value}{x:Fn}{F:List Nat}(h:Yf e d H cs x F):Y8 d H cs x F:=by
 obtain⟨v,h1,h2,h3⟩:=h
 exact⟨v,h1,h2,(h3.rd (Ct e d)).imp fun h=>Uh e h⟩
def QC (e:TypeId):Nat→Bw Ex
 |0=>fun _ _ _ _=>False
 |d+1=>fun H cs x F=>∃a b c k v,cs=[.int .i64 a,.int .i64 b,.int .i64 c,.int .i64 k,v]∧DN 5 (QC e d) e H v x.kids F
theorem EY (e:TypeId):∀d,Ck 5 (QC e d)
 |0=>⟨fun h=>h.elim,fun h=>h.elim,fun h=>h.elim,fun h=>h.elim⟩
 |d+1=>by
  have ih:=EY e d
  refine⟨?_,?_,?_,?_⟩
  ·rintro H cs e F ⟨a,b,c,k,v,rfl,_⟩;rfl
  ·rintro H cs e F ⟨a,b,c,k,v,rfl,h⟩ u hu
   simp only[List.mem_cons,List.not_mem_nil,or_false]at hu
   rcases hu with rfl|rfl|rfl|rfl|rfl
   ·exact⟨rfl,rfl⟩
   ·exact⟨rfl,rfl⟩
   ·exact⟨rfl,rfl⟩
   ·exact⟨rfl,rfl⟩
   ·exact⟨(Ax ih).cells h,(Ax ih).one h⟩
  ·rintro H cs e F ⟨a,b',c,k,v,rfl,h⟩ b hb
   exact(Ax ih).lt h b hb
  ·rintro H H' cs e F ⟨a,b,c,k,v,rfl,h⟩ hb
   exact⟨a,b,c,k,v,rfl,(Ax ih).stable h hb⟩
theorem ZB (e:TypeId):∀ {d:Nat}{H:Array Obj}{cs:List Value}{x:Ex}{F:List Nat},RE e d H cs x F→QC e d H cs x F
 |0,_,_,_,_,h=>h.elim
 |d+1,_,_,_,_,⟨v,h1,h2,h3⟩=>⟨_,_,_,_,v,h1,h3.imp fun h=>ZB e h⟩
def Tn (e:TypeId)(d:Nat):Bw Fn:=fun H cs f F=>∃s a v,cs=[.string s,.int .i64 a,v]∧DN 5 (QC e d) e H v f.outs F
theorem GO (e:TypeId)(d:Nat):Ck 3 (Tn e d):=by
 have ih:=Ax (e:=e) (EY e d)
 refine⟨?_,?_,?_,?_⟩
 ·rintro H cs e F ⟨s,a,v,rfl,_⟩;rfl
 ·rintro H cs e F ⟨s,a,v,rfl,h⟩ u hu
  simp only[List.mem_cons,List.not_mem_nil,or_false]at hu
  rcases hu with rfl|rfl|rfl
  ·exact⟨rfl,rfl⟩
  ·exact⟨rfl,rfl⟩
  ·exact⟨ih.cells h,ih.one h⟩
 ·rintro H cs e F ⟨s,a,v,rfl,h⟩ b hb
  exact ih.lt h b hb
 ·rintro H H' cs e F ⟨s,a,v,rfl,h⟩ hb
  exact⟨s,a,v,rfl,ih.stable h hb⟩
theorem fq (e:TypeId){d:Nat}{H:Array Obj}{cs:List Value}{x:Fn}{F:List Nat}(h:Yf e d H cs x F):Tn e d H cs x F:=by
 obtain⟨v,h1,h2,h3⟩:=h
 exact⟨_,_,v,h1,h3.imp fun h=>ZB e h⟩
section el
variable {α:Type} {E:Bw α} {s:Nat} {e:TypeId} {H:Array Obj} {v:Value} {xs:List α} {F:List Nat}
theorem DN.at_ (hE:Ck s E)(d:α){k:Nat}(h:DN s E e H v xs F)(hn:F.Nodup)(hk:k<xs.length) :
  ∃cs G,LD H (Aw v k s) cs∧E H cs (xs.getD k d) G∧G.Nodup∧(∀b∈G,b∈F) ∧
   ∀H':Array Obj,(∀b,b∈F→b∉G→H'[b]? = H[b]?)→E H' cs (xs.getD k d) G→DN s E e H' v xs F:=by
 rcases h with⟨rfl,rfl,rfl⟩|⟨css,g,cap,cur,F',h,rfl,hg,r1,r2,r3,r4,rfl⟩
 ·simp at hk
 ·have hn':=List.nodup_cons.1 hn
  obtain⟨cs,G,q1,q2,q3,q4,q5⟩:=h.upd d hk hn'.2
  have hgG:g∉G:=fun hm=>hn'.1 (q4 g hm)
  refine⟨cs,G,⟨g,0+k*s,Ks ..,fun i hi=>?_⟩,q2,q3,fun b hb=>List.mem_cons_of_mem _ (q4 b hb),fun H' hH hy=>.inr ⟨css,g,cap,cur,F',?_,rfl,by rw[hH g (List.mem_cons_self ..) hgG];exact hg,r1,r2,r3,r4,rfl⟩⟩
  ·obtain⟨cs',G',t1,t2,t3⟩:=h.get hE d hk
   have hl:=hE.len q2
   have hcc:cs'=cs:=by
    have hlen:=h.lens hE
    have hkl:k<css.length:=by rw[h.length];exact hk
    have e0:css[k]=cs:=by rw[List.getElem?_eq_getElem hkl]at q1;exact Option.some.inj q1
    have e1:∀i,i<s→css.flatten[k*s+i]? = some (cs.getD i undef):=by
     intro i hi
     have h1:=Ma (vs:=cs) hlen hl hkl
     have h2:(css.set k cs)=css:=by rw[← e0];simp
     rw[h2]at h1
     have hfl:=h.flen hE
     have hks:k*s+s≤xs.length*s:=by rw[← Nat.succ_mul];exact Nat.mul_le_mul_right s hk
     rw[← h1,List.append_assoc,List.getElem?_append_right (by rw[List.length_take];omega),List.length_take,List.getElem?_append_left (by omega)]
     rw[show k*s+i-min (k*s) css.flatten.length=i from by omega]
     simp[hl,hi]
    apply List.ext_getElem (by rw[hE.len t1,hl])
    intro i p1 p2
    have h3:=t3 i (by omega)
    rw[e1 i (by omega)]at h3
    have h4:=Option.some.inj h3
    simpa [p1,p2]using h4.symm
   subst hcc
   simp only[BZ,hg]
   have h3:=t3 i (by omega)
   have hks:k*s+s≤xs.length*s:=by rw[← Nat.succ_mul];exact Nat.mul_le_mul_right s hk
   have hl:=hE.len q2
   rw[← r4,List.getElem?_take,if_pos (by omega)]at h3
   rw[Nat.zero_add]
   simpa using h3
  ·have h2:(css.set k cs)=css:=by
    have hkl:k<css.length:=by rw[h.length];exact hk
    have e0:css[k]=cs:=by rw[List.getElem?_eq_getElem hkl]at q1;exact Option.some.inj q1
    rw[← e0];simp
   have h3:=q5 (H':=H') (cs':=cs) (fun {c x C} hc hb=>hE.stable hc fun b hm=>hH b (List.mem_cons_of_mem _ (hb b hm).1) (hb b hm).2) hy
   rwa [h2]at h3
end el
section ops
variable {P:Program} {ops:Array Oper} {w0:World} {Q:Act→World→Prop} {os:List Oper} {ks:List Nat} {N:Nat} {ρ:Nat→Value} {w:World}
 {d:Nat} {ty:TypeId} {pos:String} {aft:Array Edge} {g:Option (Nat×Bool)} {t e:TypeId} {α:Type} {E:Bw α} {s:Nat}
theorem Kw {st:TypeId}{x y:Operand}{v u:Value}{xs:List α}{F:List Nat}{k c:Nat}(hE:Ck s E)(hst:(P.info? st).map (·.size)=some 1)(hx:Bm N ρ x=Az (Aw v k s) c)(hy:Bm N ρ y=u)(hu1:u.cells=#[u]∧u.oneCell'=true)
  (hv:DN s E e w.heap v xs F) (hn:F.Nodup) (hk:k<xs.length) (hc:c<s) (hEc:∀ {H cs x G},E H cs x G→E H (cs.set c u) x G) (hu:Up ops N ρ ⟨none,.store st x y,ty,pos,aft,g⟩)
  (h:∀w1,AE F w w1→w1.heap.size=w.heap.size→DN s E e w1.heap v xs F→LW P ops w0 Q os ks (mk N ρ) w1) :
  LW P ops w0 Q (⟨none,.store st x y,ty,pos,aft,g⟩::os) (4::ks) (mk N ρ) w:=by
 rcases hv with⟨rfl,rfl,rfl⟩|⟨css,b,cap,cur,F',hels,rfl,hg,r1,r2,r3,r4,rfl⟩
 ·simp at hk
 ·have hn':=List.nodup_cons.1 hn
  have hfl:=hels.flen hE
  have hlen:=hels.lens hE
  have hkl:k<css.length:=by rw[hels.length];exact hk
  have hcs:xs.length*s≤cur.size:=by rw[r3];exact Nat.mul_le_mul_right s r1
  have hjs:k*s+s≤xs.length*s:=by rw[← Nat.succ_mul];exact Nat.mul_le_mul_right s hk
  have hel:∀ {css:List (List Value)} {xs:List α} {F:List Nat} {k:Nat},Ce E w.heap css xs F→∀cs,css[k]? = some cs→Ce E w.heap (css.set k (cs.set c u)) xs F:=by
   intro css
   induction css with
   |nil=>intro xs F k h cs hk;simp at hk
   |cons a css ih =>
    intro xs F k h cs hk
    cases xs with
    |nil=>exact h.elim
    |cons x xs =>
     obtain⟨A,C,rfl,q1,q2⟩:=h
     cases k with
     |zero =>
      have:a=cs:=by simpa using hk
      subst this
      exact⟨A,C,rfl,hEc q1,q2⟩
     |succ k=>exact⟨A,C,rfl,q1,ih q2 cs (by simpa using hk)⟩
  have hq:=List.getElem?_eq_getElem hkl
  have h2:=hel hels _ hq
  refine Ld rfl hu _ (CB (p:=.pointer (some ⟨b,k*s+c,none⟩)) (by rw[hx,Ks,Nat.zero_add];rfl) hy (Hf hst hg (by omega) hu1.1 hu1.2)) (h _ ((Lt w b (k*s+c) u).sub fun x hx=>by rw[Ab hx];exact List.mem_cons_self ..) (by simp[World.setCell]) (.inr ⟨css.set k (css[k].set c u),b,cap,_,F',?_,rfl,JC hg,r1,r2,by simpa using r3,?_,rfl⟩))
  ·exact h2.stable hE fun z hz=>Below.heap_setCell _ _ _ _ fun he=>by
    simp only at he
    subst he
    exact hn'.1 hz
  ·rw[Array.toList_setIfInBounds,List.take_set,r4];exact NX hlen hq hc
end ops
theorem DN.kidE {e:TypeId}{d k:Nat}{w:World}{v:Value}{xs:List Ex}{F:List Nat}(h:DN 5 (QC e d) e w.heap v xs F)(hn:F.Nodup)(hk:k<xs.length) :
  ∃d' u G,d=d'+1∧EX w.heap (Az (Aw v k 5) 4)=some u∧DN 5 (QC e d') e w.heap u (xs.getD k Ex.zero).kids G∧G.Nodup∧(∀b∈G,b∈F) ∧
   ∀w',AE G w w'→DN 5 (QC e d') e w'.heap u (xs.getD k Ex.zero).kids G→DN 5 (QC e d) e w'.heap v xs F:=by
 have hlt:=(Ax (EY e d)).lt h
 obtain⟨cs,G,h1,h2,h3,h4,h5⟩:=h.at_ (EY e d) Ex.zero hn hk
 cases d with
 |zero=>exact h2.elim
 |succ d =>
  obtain⟨a,b,c,q,u,rfl,h2⟩:=h2
  exact⟨d,u,G,rfl,h1.ld (i:=4) (by simp),h2,h3,h4,fun w' hc hu=>h5 _ (fun b hb hg=>hc.block b (hlt b hb) hg) ⟨a,b,c,q,u,rfl,hu⟩⟩
theorem DN.kidF {e e':TypeId}{d k:Nat}{w:World}{v:Value}{xs:List Fn}{F:List Nat}(h:DN 3 (Tn e d) e' w.heap v xs F)(hn:F.Nodup)(hk:k<xs.length) :
  ∃u G,EX w.heap (Az (Aw v k 3) 2)=some u∧DN 5 (QC e d) e w.heap u (xs.getD k Fn.zero).outs G∧G.Nodup∧(∀b∈G,b∈F) ∧
   ∀w',AE G w w'→DN 5 (QC e d) e w'.heap u (xs.getD k Fn.zero).outs G→DN 3 (Tn e d) e' w'.heap v xs F:=by
 have hlt:=(Ax (GO e d)).lt h
 obtain⟨cs,G,h1,h2,h3,h4,h5⟩:=h.at_ (GO e d) Fn.zero hn hk
 obtain⟨s,a,u,rfl,h2⟩:=h2
 exact⟨u,G,h1.ld (i:=2) (by simp),h2,h3,h4,fun w' hc hu=>h5 _ (fun b hb hg=>hc.block b (hlt b hb) hg) ⟨s,a,u,rfl,hu⟩⟩
theorem DN.isPtr {α:Type}{E:Bw α}{s k:Nat}{e:TypeId}{H:Array Obj}{v:Value}{xs:List α}{F:List Nat}(h:DN s E e H v xs F)(hk:k<xs.length):∃b o,Aw v k s=.pointer (some ⟨b,o,none⟩):=by
 rcases h with⟨rfl,rfl,rfl⟩|⟨css,g,cap,cur,F',h,rfl,hg,r1,r2,r3,r4,rfl⟩
 ·simp at hk
 ·exact⟨_,_,Ks ..⟩
theorem Lv {e:TypeId}{d c:Nat}{n:Int}(hc:c<4){H:Array Obj}{cs:List Value}{x:Ex}{G:List Nat}(h:QC e d H cs x G):QC e d H (cs.set c (.int .i64 n)) x G:=by
 cases d with
 |zero=>exact h.elim
 |succ d =>
  obtain⟨a,b,c',q,u,rfl,h2⟩:=h
  rcases c with _|_|_|_|c
  ·exact⟨n,b,c',q,u,rfl,h2⟩
  ·exact⟨a,n,c',q,u,rfl,h2⟩
  ·exact⟨a,b,n,q,u,rfl,h2⟩
  ·exact⟨a,b,c',n,u,rfl,h2⟩
  ·omega
theorem Ui {e:TypeId}{d:Nat}{n:ByteArray}{H:Array Obj}{cs:List Value}{x:Fn}{G:List Nat}(h:Tn e d H cs x G):Tn e d H (cs.set 0 (.string n)) x G:=by
 obtain⟨s,a,u,rfl,h2⟩:=h
 exact⟨n,a,u,rfl,h2⟩
theorem Uj {e:TypeId}{d:Nat}{n:Int}{H:Array Obj}{cs:List Value}{x:Fn}{G:List Nat}(h:Tn e d H cs x G):Tn e d H (cs.set 1 (.int .i64 n)) x G:=by
 obtain⟨s,a,u,rfl,h2⟩:=h
 exact⟨s,n,u,rfl,h2⟩
end
section
section res
variable {P:Program} {N:Nat} {ρ:Nat→Value} {w:World} {t:TypeId}
theorem JI {s b o:Nat}(ht:DT P t s=true){cs:List Value}(h:LD w.heap (.pointer (some ⟨b,o,none⟩)) cs)(hl:cs.length=s):(loadVar t ⟨b,o,none⟩).run P w=.ok (.agg cs.toArray) w:=by
 obtain⟨b',o',he,h⟩:=h
 injection he with he
 injection he with he
 injection he with hb ho _
 subst hb;subst ho
 unfold DT at ht
 simp only[Bool.and_eq_true]at ht
 obtain⟨h1,h2⟩:=ht
 split at h1
 ·rename_i fs hfs
  split at h2
  ·rename_i inf hin
   have hs:inf.size=s:=by simpa using h2
   have hag:(isAgg t).run P w=.ok true w:=by
    unfold isAgg
    simp only[Sem.run_bind,run_underlying hfs,Result.andThen_ok]
    rfl
   have hlc:=run_loadCells_list (P:=P) w ⟨b,o,none⟩ cs (fun j v hj=>by
    rw[J9,C6]
    have hjl:j<cs.length:=(List.getElem?_eq_some_iff.1 hj).1
    rw[h j hjl]
    simp[List.getD,hj])
   rw[hl,← hs]at hlc
   simp[loadVar,hag,sizeOf,typeInfo,hin,hlc]
  ·cases h2
 ·cases h1
theorem Kx {fn:Func}{R:Ending→World→Prop}{k s b:Nat}{ty:TypeId}{cs:List Value}(hr:fn.results=#[.cell k ty])(ha:DT P ty s=true)(hv:Bm N ρ (.tmp k)=.pointer (some ⟨b,0,none⟩))(hb:BX w.heap b cs)(hl:cs.length=s)
  (h:R (.returned (.agg cs.toArray)) w):bodyPost P fn R .ret (mk N ρ) w:=by
 refine⟨rfl,_,?_,h⟩
 have hld:=JI (P:=P) ha (LD.of_box hb) hl
 have hg:(mk N ρ).tmps.getD k undef=.pointer (some ⟨b,0,none⟩):=by rw[Ls,hv]
 have hi:(asAddr (.pointer (some ⟨b,0,none⟩))).run P w=.ok ⟨b,0,none⟩ w:=rfl
 unfold results
 rw[hr]
 have hg':(mk N ρ).tmps[k]?.getD undef=.pointer (some ⟨b,0,none⟩):=by simpa using hg
 simp[Sem.run_bind,hg',hi,hld,Result.andThen]
end res
section fr
variable {α:Type} {E:Bw α} {s:Nat} {e e':TypeId} {B U d:Nat} {H:Array Obj} {v:Value}
theorem Fr.isSlS {xs:List α}(h:Fr (DN s E e) B U H v xs):Go.Proofs.YtnokbaiemimhjaaGreat.FC v xs.length:=by obtain⟨F,h,_⟩:=h;exact h.isSl
theorem RN.of_frF {S:List Nat}{xs:List Fn}(h:Fr (DN 3 (Yf e d) e') B U H v xs)(hS:∀b∈S,b<B):RP S d H v xs:=by
 obtain⟨F,h1,_,h3⟩:=h
 exact⟨F,(h1.rd (AZ e d)).imp fun h=>cC e h,fun b hb hm=>by have:=h3 b hb;have:=hS b hm;omega⟩
theorem RN.exPos {S:List Nat}{xs:List Ex}(h:RN S (Dr 5 (IE d)) H v xs)(h0:0<xs.length):0<d:=by
 obtain⟨F,h,_⟩:=h
 obtain⟨cs,G,q,_⟩:=Dr.get (AC d) Ex.zero h h0
 cases d with
 |zero=>exact q.elim
 |succ d=>omega
theorem Uk (hd:0<d)(H:Array Obj):RE e d H (Ge Ex.zero (.slice none 0 0)) Ex.zero []:=by
 cases d with
 |zero=>omega
 |succ d=>exact⟨_,rfl,by constructor <;> (unfold BC;decide),.inl ⟨rfl,rfl,rfl⟩⟩
theorem Ul (H:Array Obj):Yf e d H (Gf Fn.zero (.slice none 0 0)) Fn.zero []:=⟨_,rfl,by unfold BC;decide,.inl ⟨rfl,rfl,rfl⟩⟩
theorem cD {d':Nat}{x:Ex}(hd:d=d'+1)(hr:kP x)(h:Fr (DN 5 (RE e d') e) B U H v x.kids):∃G,RE e d H (Ge x v) x G∧G.Nodup∧∀b∈G,B≤b∧b<U:=by
 subst hd
 obtain⟨G,h1,h2,h3⟩:=h
 exact⟨G,⟨v,rfl,hr,h1⟩,h2,h3⟩
theorem cG {x:Fn}(hr:BC x.params)(h:Fr (DN 5 (RE e d) e) B U H v x.outs):∃G,Yf e d H (Gf x v) x G∧G.Nodup∧∀b∈G,B≤b∧b<U:=by
 obtain⟨G,h1,h2,h3⟩:=h
 exact⟨G,⟨v,rfl,hr,h1⟩,h2,h3⟩
theorem PB {xs:List α}{z:α}{k:Nat}(hk:k<xs.length)(d:α):(xs.take k++List.replicate (xs.length-k) z).set k (xs.getD k d)=xs.take (k+1)++List.replicate (xs.length-(k+1)) z:=by
 have h1:(xs.take k).length=k:=by rw[List.length_take];omega
 rw[List.set_append,if_neg (by omega),h1,Nat.sub_self,show xs.length-k=(xs.length-(k+1))+1 from by omega,List.replicate_succ,List.set_cons_zero,show xs.take (k+1)=xs.take k++[xs.getD k d]from by rw[List.take_succ_eq_append_getElem hk];simp[hk],List.append_assoc]
 rfl
end fr
section str
variable {P:Program} {ops:Array Oper} {w0:World} {Q:Act→World→Prop} {os:List Oper} {ks:List Nat} {N:Nat} {ρ:Nat→Value} {w:World}
 {d:Nat} {ty:TypeId} {pos:String} {aft:Array Edge} {g:Option (Nat×Bool)} {t e:TypeId}
theorem Um {xt yt:TypeId}{x y:Operand}{a b:ByteArray}(hx:Bm N ρ x=.string a)(hy:Bm N ρ y=.string b)(hl:a.size+b.size≤9223372036854775807)(hu:Up ops N ρ ⟨some d,.binOp .add xt x y yt,ty,pos,aft,g⟩)
  (h:LW P ops w0 Q os ks (mk N (CY ρ d (.string (a++b)))) w):LW P ops w0 Q (⟨some d,.binOp .add xt x y yt,ty,pos,aft,g⟩::os) (0::ks) (mk N ρ) w :=
 CJ (by decide) rfl hu _ (fun w' _=>by
  have he:(eqGuard .add xt x y (.string a) (.string b)).run P w'=.ok () w':=rfl
  have hr:(binOp .add xt (.string a) (.string b)).run P w'=.ok (.string (a++b)) w':=by
   have h2:=run_string_add_sum (P:=P) w' a b hl
   simpa [binOp]using h2
  simp only[execOp,hx,hy,Sem.run_bind,he,Result.andThen_ok,hr,Sem.run_pure]) h
theorem cH {st dt:TypeId}{x:Operand}{v:Value}{n:Int}{B U:Nat}(hs:P.underlying st=some (.slice e))(he:P.underlying e=some (.int .u8))(hd:P.underlying dt=some .string)(hx:Bm N ρ x=v)(hv:Fr (AR rV e) B U w.heap v [.int .u8 n])
  (hu:Up ops N ρ ⟨some d,.convert st dt x,ty,pos,aft,g⟩) (h:∀s:ByteArray,s.size=1→LW P ops w0 Q os ks (mk N (CY ρ d (.string s))) w) :
  LW P ops w0 Q (⟨some d,.convert st dt x,ty,pos,aft,g⟩::os) (2::ks) (mk N ρ) w:=by
 obtain⟨F,hv,_,_⟩:=hv
 rcases hv with⟨_,hc,_⟩|⟨us,b,cap,cur,F',hels,rfl,hg,q1,q2,q3,q4,rfl⟩
 ·cases hc
 ·obtain⟨rfl,rfl⟩:=FD hels
  refine CJ (by decide) rfl hu _ (fun w' hcl=>?_) (h ⟨#[UInt8.ofNat n.toNat]⟩ rfl)
  have hcl:Ay w w':=hcl
  have hcb:w'.heap[b]? = w.heap[b]?:=hcl.heap (getElem?_lt hg)
  have hlc:=run_loadCells_list (P:=P) w' ⟨b,0,none⟩ [.int .u8 n] (fun j u hj=>by
   rw[J9,C6]
   simp only[BZ,hcb,hg]
   have hj0:j=0:=by have:=(List.getElem?_eq_some_iff.1 hj).1;simpa using this
   subst hj0
   have e1:cur.toList[0]? = some (.int .u8 n):=by
    have:(cur.toList.take 1)[0]? = some (.int .u8 n):=by rw[show cur.toList.take 1=[.int .u8 n]from q4];rfl
    rwa [List.getElem?_take,if_pos (by decide)]at this
   have e2:u=.int .u8 n:=by simpa using hj.symm
   rw[e2]
   simpa using e1)
  have hb:=run_bytesToString (P:=P) w' ⟨b,0,none⟩ 1 cap [n] (by simpa using hlc)
  have hr:=run_convert_bytes_string (P:=P) w' st dt e (some ⟨b,0,none⟩) 1 cap hs he hd
  simp only[execOp,hx,List.length_singleton,Sem.run_bind,hr,hb,Result.andThen_ok,Sem.run_pure]
  rfl
end str
end
section
theorem PC:∀(cs:List Value)(k:Nat)(A:Array Value),k+cs.length≤A.size→((cs.zipIdx k).foldl (fun A p=>A.setIfInBounds (0+p.2) p.1) A).toList=A.toList.take k++cs++A.toList.drop (k+cs.length)
 |[],k,A,_=>by simp
 |c::cs,k,A,h=>by
  rw[List.length_cons]at h
  rw[List.zipIdx_cons,List.foldl_cons,PC cs (k+1) _ (by simp;omega)]
  simp only[Array.toList_setIfInBounds,Nat.zero_add]
  have h1:(A.toList.set k c).take (k+1)=A.toList.take k++[c]:=by
   rw[List.take_succ_eq_append_getElem (by simp;omega),List.take_set,List.set_eq_of_length_le (by simp;omega)]
   simp
  have h2:(A.toList.set k c).drop (k+1+cs.length)=A.toList.drop (k+(c::cs).length):=by
   rw[List.drop_set_of_lt (by omega),List.length_cons,show k+1+cs.length=k+(cs.length+1)from by omega]
  rw[h1,h2,List.append_assoc (A.toList.take k)];simp
theorem Un {cs:List Value}{A:Array Value}(h:A.size=cs.length):cs.zipIdx.foldl (fun A p=>A.setIfInBounds p.2 p.1) A=cs.toArray:=by
 apply Array.ext'
 have:=PC cs 0 A (by omega)
 simp only[List.take_zero,List.nil_append,Nat.zero_add]at this
 rw[List.drop_of_length_le (by rw[Array.length_toList];omega),List.append_nil]at this
 simpa using this
section run
variable {P:Program} {w:World} {α:Type} {E:Bw α} {s:Nat} {t ty e:TypeId} {b:Nat} {z:Value}
theorem Yg {cs:List Value}(ht:P.underlying t=some (.slice e))(hi:TI P e s z b)(hs:0<s)(hs2:s≤1000)(hz:z.cells.size=s)(hc:cs.length=s) :
  (Instr.buildSlice t 1 #[(0,.agg cs.toArray)]).run P w=.ok (.slice (some ⟨w.heap.size,0,none⟩) 1 1) (w.alloc (.cells cs.toArray e)):=by
 obtain⟨i,h1,h2,h3,h4⟩:=hi.get
 have h0:¬(s=0):=by omega
 have hA:((Array.range s).map (fun x=>z.cells[x % s]!)).size=cs.length:=by simp[hc]
 have hf:=Un hA
 have hbig:¬(s > 2 ^ 24):=by omega
 simp only[Instr.buildSlice,Sem.run_bind,run_underlying ht,Result.andThen_ok,sizeOf,typeInfo,zeroValue,h1,h2,h3,Nat.one_mul,Instr.fill,hz,Sem.run_pure]
 have hag:(Value.agg cs.toArray).cells=cs.toArray:=rfl
 simp[h0,hbig,hag,hc,newRow,hz,h1,h2,h3,Instr.fill,run_underlying ht,typeInfo]
 rw[hf]
def kZ (E:Bw α)(B U:Nat)(H:Array Obj)(cs:List Value)(x:α):Prop:=∃G,E H cs x G∧G.Nodup∧∀b∈G,B≤b∧b<U
theorem RH (hE:Ck s E){css:List (List Value)}{xs:List α}{F:List Nat}{cur:Array Value}{cap:Nat}(h:Ce E w.heap css xs F)(hl:xs.length≤cap)(hm:cap≤maxLen)(hsz:cur.size=cap*s)(hc:cur.toList.take (xs.length*s)=css.flatten) :
  DN s E e (w.alloc (.cells cur e)).heap (.slice (some ⟨w.heap.size,0,none⟩) xs.length cap) xs (w.heap.size::F):=by
 refine .inr ⟨css,w.heap.size,cap,cur,F,h.stable hE fun b hb=>?_,rfl,?_,hl,hm,hsz,hc,rfl⟩
 ·exact Below.heap_alloc _ _ _ (h.lt hE b hb)
 ·show(w.heap.push _)[w.heap.size]? = _
  simp
def kR {α β:Type}(E:Array Obj→β→α→List Nat→Prop)(S:Nat→Prop)(H:Array Obj)(v:β)(x:α):Prop:=∃F,E H v x F∧F.Nodup∧∀b∈F,S b
theorem Uo (hE:Ck s E)(ht:P.underlying t=some (.slice e))(hi:TI P e s z b)(hz:z.cells.size=s)(hs:0<s){v:Value}{xs:List α}{S T:Nat→Prop}(hv:kR (DN s E e) S w.heap v xs)
  {a:Value} {y:α} (ha:kR (DN s E e) T w.heap a [y]) (hST:∀b,S b→T b→False) (hbytes:(xs.length+1)*b≤140737488355328) (hmx:xs.length+1≤maxLen) :
  ∃v' w' F,(Builtin.append_ #[t,t] ty #[v,a]).run P w=.ok v' w'∧kR (DN s E e) (fun b=>S b∨T b∨b=w.heap.size) w'.heap v' (xs++[y])∧AE F w w'∧∀c∈F,S c:=by
 obtain⟨F,hv1,hn,hF⟩:=hv
 obtain⟨G,ha1,hnG,hG⟩:=ha
 obtain⟨i,h1,h2,h3,h4⟩:=hi.get
 subst h4
 have hsmall:xs.length+1≤9223372036854775807:=by simp only[maxLen]at hmx;omega
 rcases ha1 with⟨_,h0,_⟩|⟨cas,ga,capa,cura,G',hels,rfl,hga,a1,a2,a3,a4,rfl⟩
 ·cases h0
 ·have hnG':=List.nodup_cons.1 hnG
  have hfl:cas.flatten.length=s:=by have:=hels.flen hE;simpa using this
  simp only[List.length_singleton,Nat.one_mul]at a4 a1
  have hnews:∀j u,cas.flatten[j]? = some u→w.cell? ((⟨ga,0,none⟩:Addr).add j)=some u:=by
   intro j u hj
   have e1:(⟨ga,0,none⟩:Addr).add j=⟨ga,j,none⟩:=by
    unfold Addr.add
    split
    ·rename_i hh;subst hh;rfl
    ·simp
   rw[e1,C6]
   simp only[BZ,hga]
   rw[← a4,List.getElem?_take]at hj
   split at hj
   ·simpa using hj
   ·cases hj
  have h1c:∀u∈cas.flatten,u.oneCell'=true:=fun u hu=>(hels.one hE u hu).2
  have hl1:cas.flatten.length=1*i.size:=by rw[h3,hfl,Nat.one_mul]
  have made:∀(w1:World) (ous:List (List Value)) (F0:List Nat) (rest:Nat),w1.heap=w.heap→w1.os=w.os→w1.tape=w.tape→w1.output=w.output→Ce E w.heap ous xs F0→(∀c∈F0,c∈F)→F0.Nodup →
    (xs.length+1+rest)≤maxLen →
    kR (DN s E e) (fun b=>S b∨T b∨b=w.heap.size) (w1.alloc (.cells (ous.flatten.toArray++cas.flatten.toArray++Builtin.zeroCells z.cells rest) e)).heap (.slice (some ⟨w.heap.size,0,none⟩) (xs.length+1) (xs.length+1+rest)) (xs++[y]) ∧
     AE ([]:List Nat) w (w1.alloc (.cells (ous.flatten.toArray++cas.flatten.toArray++Builtin.zeroCells z.cells rest) e)):=by
   intro w1 ous F0 rest hh ho htp hop hou hsub hnd hmax
   have happ:=hou.append hels
   have hofl:=hou.flen hE
   have hzc:(Builtin.zeroCells z.cells rest).size=rest*s:=by simp[Builtin.zeroCells,hz]
   have hsz:(ous.flatten.toArray++cas.flatten.toArray++Builtin.zeroCells z.cells rest).size=(xs.length+1+rest)*s:=by
    rw[Nat.add_mul,Nat.add_mul,Nat.one_mul]
    simp only[Array.size_append,List.size_toArray,hzc,hfl,hofl]
   have hlen:(xs++[y]).length=xs.length+1:=by simp
   have hnew:=RH (e:=e) (w:=w1) hE (css:=ous++cas) (xs:=xs++[y]) (F:=F0++G') (cur:=ous.flatten.toArray++cas.flatten.toArray++Builtin.zeroCells z.cells rest) (cap:=xs.length+1+rest)
    (by rw[hh];exact happ) (by rw[hlen];omega) hmax hsz (by
     rw[hlen,Array.toList_append,Array.toList_append,List.flatten_append]
     have e1:(xs.length+1)*s=(ous.flatten++cas.flatten).length:=by rw[List.length_append,hofl,hfl,Nat.add_mul,Nat.one_mul]
     rw[e1];exact List.take_left)
   rw[hh,hlen]at hnew
   have hnn:(w.heap.size::(F0++G')).Nodup:=by
    rw[List.nodup_cons]
    refine⟨fun hm=>?_,?_⟩
    ·have:=happ.lt hE _ hm;omega
    ·rw[List.nodup_append]
     refine⟨hnd,hnG'.2,?_⟩
     rintro x hx y hy rfl
     exact hST _ (hF x (hsub x hx)) (hG x (List.mem_cons_of_mem _ hy))
   refine⟨⟨_,hnew,hnn,fun c hc=>?_⟩,ho,htp,hop,?_,fun k hk _=>?_⟩
   ·rcases List.mem_cons.1 hc with rfl|hc
    ·exact .inr (.inr rfl)
    ·rcases List.mem_append.1 hc with hc|hc
     ·exact .inl (hF c (hsub c hc))
     ·exact .inr (.inl (hG c (List.mem_cons_of_mem _ hc)))
   ·show w.heap.size≤(w1.heap.push _).size
    rw[hh];simp
   ·have:=Below.heap_alloc w1 (.cells (ous.flatten.toArray++cas.flatten.toArray++Builtin.zeroCells z.cells rest) e) k (by rw[hh];exact hk)
    rw[this,hh]
  rcases hv1 with⟨rfl,rfl,rfl⟩|⟨ous,gv,capv,curv,F0,hels0,rfl,hgv,r1,r2,r3,r4,rfl⟩
  ·have hr:=run_append_nil (P:=P) w t ty e i z ht h1 h2 ⟨ga,0,none⟩ 1 capa cas.flatten hl1 hnews (by decide) (by decide) (by simp at hbytes ⊢;omega)
   have hge:=grownCap_ge w 1 0 e
   have hgm:=grownCap_le_maxLen w 1 0 e (by simpa using hmx)
   obtain⟨q1,q2⟩:=made w.drew [] [] (grownCap w 1 0 e-1) rfl rfl rfl rfl rfl (fun c hc=>by cases hc) List.nodup_nil (by simp;omega)
   refine⟨_,_,[],hr,?_,?_,fun c hc=>by cases hc⟩
   ·have ea:(([]:List α).length+1+(grownCap w 1 0 e-1))=grownCap w 1 0 e:=by simp;omega
    rw[ea]at q1
    simpa using q1
   ·simpa using q2
  ·have hn':=List.nodup_cons.1 hn
   have hofl:=hels0.flen hE
   by_cases hroom:xs.length+1≤capv
   ·have hbnd:xs.length*s+s≤curv.size:=by rw[r3,← Nat.succ_mul];exact Nat.mul_le_mul_right s hroom
    have hr:=run_append_room (P:=P) w t ty e i ht h1 gv xs.length capv curv hgv ⟨ga,0,none⟩ 1 capa cas.flatten hl1 hnews h1c hroom (by rw[h3,hfl];exact hbnd)
    rw[h3]at hr
    have hgF:gv∉F0:=hn'.1
    have hgG:gv∉G':=fun hm=>hST _ (hF gv (List.mem_cons_self ..)) (hG gv (List.mem_cons_of_mem _ hm))
    refine⟨_,_,[gv],hr,⟨gv::(F0++G'),.inr ⟨ous++cas,gv,capv,_,F0++G',?_,by rw[List.length_append,List.length_singleton],setRow_heap w gv curv _ e _ hgv,by rw[List.length_append,List.length_singleton];exact hroom,r2,?_,?_,rfl⟩,?_,fun c hc=>?_⟩,⟨rfl,rfl,rfl,by simp,fun k _ hk=>setRow_other w gv k _ fun hh=>hk (by simp[hh])⟩,fun c hc=>by rw[Ab hc];exact hF gv (List.mem_cons_self ..)⟩
    ·refine(hels0.append hels).stable hE fun c hc=>setRow_other w gv c _ fun hcg=>?_
     subst hcg
     rcases List.mem_append.1 hc with hc|hc
     ·exact hgF hc
     ·exact hgG hc
    ·rw[← r3]
     simp only[List.size_toArray,List.length_append,List.length_take,List.length_drop,Array.length_toList]
     omega
    ·rw[List.length_append,List.length_singleton]
     simp only[List.flatten_append]
     rw[r4]
     have e1:(xs.length+1)*s=(ous.flatten++cas.flatten).length:=by rw[List.length_append,hofl,hfl,Nat.add_mul,Nat.one_mul]
     rw[e1];exact List.take_left
    ·rw[List.nodup_cons,List.nodup_append]
     refine⟨fun hm=>?_,hn'.2,hnG'.2,?_⟩
     ·rcases List.mem_append.1 hm with hm|hm
      ·exact hgF hm
      ·exact hgG hm
     ·rintro x hx y hy rfl
      exact hST _ (hF x (List.mem_cons_of_mem _ hx)) (hG x (List.mem_cons_of_mem _ hy))
    ·rcases List.mem_cons.1 hc with rfl|hc
     ·exact .inl (hF c (List.mem_cons_self ..))
     ·rcases List.mem_append.1 hc with hc|hc
      ·exact .inl (hF c (List.mem_cons_of_mem _ hc))
      ·exact .inr (.inl (hG c (List.mem_cons_of_mem _ hc)))
   ·have holds:∀j u,ous.flatten[j]? = some u→w.cell? ((⟨gv,0,none⟩:Addr).add j)=some u:=by
     intro j u hj
     have e1:(⟨gv,0,none⟩:Addr).add j=⟨gv,j,none⟩:=by
      unfold Addr.add
      split
      ·rename_i hh;subst hh;rfl
      ·simp
     rw[e1,C6]
     simp only[BZ,hgv]
     rw[← r4,List.getElem?_take]at hj
     split at hj
     ·simpa using hj
     ·cases hj
    have hr:=run_append_grow (P:=P) w t ty e i z ht h1 h2 ⟨gv,0,none⟩ xs.length capv ous.flatten (by rw[h3,hofl]) holds ⟨ga,0,none⟩ 1 capa cas.flatten hl1 hnews (by omega) (by omega) (growslice_fits (by omega) hbytes)
    have hge:=grownCap_ge w (xs.length+1) capv e
    have hgm:=grownCap_le_maxLen w (xs.length+1) capv e hmx
    obtain⟨q1,q2⟩:=made w.drew ous F0 (grownCap w (xs.length+1) capv e-(xs.length+1)) rfl rfl rfl rfl hels0 (fun c hc=>List.mem_cons_of_mem _ hc) hn'.2 (by omega)
    refine⟨_,_,[],hr,?_,q2,fun c hc=>by cases hc⟩
    have ea:(xs.length+1+(grownCap w (xs.length+1) capv e-(xs.length+1)))=grownCap w (xs.length+1) capv e:=by omega
    rw[ea]at q1
    exact q1
end run
section ops
variable {P:Program} {ops:Array Oper} {w0:World} {Q:Act→World→Prop} {os:List Oper} {ks:List Nat} {N:Nat} {ρ:Nat→Value} {w:World}
 {d:Nat} {ty:TypeId} {pos:String} {aft:Array Edge} {g:Option (Nat×Bool)} {t e:TypeId} {z:Value} {b s:Nat} {α:Type} {E:Bw α}
theorem QD (hE:Ck s E){x:Operand}{cs:List Value}{y:α}{B U:Nat}(ht:P.underlying t=some (.slice e))(hi:TI P e s z b)(hz:z.cells.size=s)(hs:0<s∧s≤1000)(hx:Bm N ρ x=.agg cs.toArray)(hy:kZ E B U w.heap cs y)(hB:B≤w.heap.size)
  (hu:Up ops N ρ ⟨some d,.buildSlice t 1 #[(0,x)],ty,pos,aft,g⟩)
  (h:∀v w1,Ay w w1→w1.heap.size=w.heap.size+1→Fr (DN s E e) B w1.heap.size w1.heap v [y]→LW P ops w0 Q os ks (mk N (CY ρ d v)) w1) :
  LW P ops w0 Q (⟨some d,.buildSlice t 1 #[(0,x)],ty,pos,aft,g⟩::os) (3::ks) (mk N ρ) w:=by
 obtain⟨F,h1,h2,h3⟩:=hy
 have hl:=hE.len h1
 have hr:=Yg (P:=P) (w:=w) ht hi hs.1 hs.2 hz hl
 have hrun:(execOp (Bm N ρ) ⟨some d,.buildSlice t 1 #[(0,x)],ty,pos,aft,g⟩).run P w=.ok (.value (.slice (some ⟨w.heap.size,0,none⟩) 1 1)) (w.alloc (.cells cs.toArray e)):=by
  simp only[execOp,List.map_toArray,List.map_cons,List.map_nil,Sem.run_bind,hx,hr,Result.andThen_ok,Sem.run_pure]
 refine Ns rfl hu _ _ hrun (BY _ _) (h _ _ (BY _ _) (by simp) ?_)
 have hn:=RH (e:=e) (w:=w) hE (css:=[cs]) (xs:=[y]) (F:=F++[]) (cur:=cs.toArray) (cap:=1) ⟨F,[],rfl,h1,rfl⟩ (by simp) (by simp[maxLen]) (by simp[hl]) (by simp[← hl])
 refine⟨_,hn,?_,fun c hc=>?_⟩
 ·rw[List.append_nil,List.nodup_cons]
  exact⟨fun hm=>by have:=hE.lt h1 _ hm;omega,h2⟩
 ·have hlt:=(Ax hE).lt hn c hc
  refine⟨?_,hlt⟩
  rcases List.mem_cons.1 hc with rfl|hc
  ·exact hB
  ·exact(h3 c (by simpa using hc)).1
end ops
end
theorem Ds {p:Prop}(h:p):RowKit.Hid p:=h
def md (x:Int):Int:=x % 1000003
theorem Ci (x:Int):0≤md x:=Int.emod_nonneg x (by decide)
theorem FS (x:Int):md x<1000003:=Int.emod_lt_of_pos x (by decide)
theorem DO (x:Int):-9223372036854775808≤md x∧md x≤9223372036854775807:=by
 have:=Ci x;have:=FS x;omega
theorem L6 {x:Int}(h:0≤x)(h':x<1000003):md x=x:=Int.emod_eq_of_lt h h'
theorem EZ (x:Int):md (md x)=md x:=L6 (Ci x) (FS x)
theorem E5 (a b:Int):md (md a+md b)=md (a+b):=by unfold md;rw[← Int.add_emod]
theorem Df (a b:Int):md (md a*md b)=md (a*b):=by unfold md;rw[← Int.mul_emod]
theorem Fl (a b:Int):md (md a-md b)=md (a-b):=by unfold md;rw[← Int.sub_emod]
theorem Oq (a b:Int):md (md a+b)=md (a+b):=by rw[← E5,EZ,E5]
theorem Gm (a b:Int):md (a+md b)=md (a+b):=by rw[← E5,EZ,E5]
theorem EP (a b:Int):md (md a*b)=md (a*b):=by rw[← Df,EZ,Df]
theorem EQ (a b:Int):md (a*md b)=md (a*b):=by rw[← Df,EZ,Df]
theorem RJ (a b:Int):md (md a-b)=md (a-b):=by rw[← Fl,EZ,Fl]
theorem JJ (a b:Int):md (a-md b)=md (a-b):=by rw[← Fl,EZ,Fl]
theorem Uq (a:Int):md (a+1000003)=md a:=by unfold md;omega
theorem Ky (a:Int):md (-(md a))=md (-a):=by have:=JJ 0 a;simpa using this
theorem Lw {a b:Int}(ha:0≤a)(ha':a<1000003)(hb:0≤b)(hb':b<1000003):0≤a*b∧a*b≤1000004000004:=by
 refine⟨Int.mul_nonneg ha hb,?_⟩
 have h1:a*b≤1000002*b:=Int.mul_le_mul_of_nonneg_right (by omega) hb
 have h2:1000002*b≤1000002*1000002:=Int.mul_le_mul_of_nonneg_left (by omega) (by decide)
 omega
theorem tm (x:Int):x.tmod 1000003=if 0≤x then md x else -(md (-x)):=by
 unfold md
 split
 ·rename_i h;exact Int.tmod_eq_emod_of_nonneg h
 ·rename_i h
  have:=Int.tmod_eq_emod_of_nonneg (a:=-x) (b:=1000003) (by omega)
  rw[Int.neg_tmod]at this
  omega
theorem Gn {x:Int}(h:-9223372036854775808≤x)(h':x≤9223372036854775807):wr x=x:=DX h h'
theorem cI (n:Int):(wr (n.tmod 1000003+((1000003:Nat):Int))).tmod 1000003=md n:=by
 have h1:=Ci n;have h2:=FS n;have h3:=Ci (-n);have h4:=FS (-n)
 rw[tm n]
 split
 ·rw[Gn (by omega) (by omega),tm,if_pos (by omega)]
  have:=Uq (md n)
  rw[EZ]at this
  simpa using this
 ·rw[Gn (by omega) (by omega),tm,if_pos (by omega)]
  have e1:md (-(md (-n))+((1000003:Nat):Int))=md (-(md (-n))):=Uq _
  rw[e1,Ky]
  simp
theorem RK (a b:Int):(wr (md a+md b)).tmod 1000003=md (a+b):=by
 have h1:=Ci a;have h2:=FS a;have h3:=Ci b;have h4:=FS b
 rw[Gn (by omega) (by omega),tm,if_pos (by omega),E5]
theorem PD (a b:Int):(wr (md a*md b)).tmod 1000003=md (a*b):=by
 have:=Lw (Ci a) (FS a) (Ci b) (FS b)
 rw[Gn (by omega) (by omega),tm,if_pos (by omega),Df]
theorem Ur (a b:Int):md (a+wr (((1000003:Nat):Int)-md b))=md (a-b):=by
 have h3:=Ci b;have h4:=FS b
 rw[Gn (by omega) (by omega),show a+(((1000003:Nat):Int)-md b)=(a-md b)+1000003 from by omega,Uq,JJ]
theorem Mb (a:Int)(k:Nat):md ((md a) ^ k)=md (a ^ k):=by
 induction k with
 |zero=>rw[Int.pow_zero,Int.pow_zero]
 |succ k ih=>rw[Int.pow_succ,Int.pow_succ,← Df,ih,EZ,Df]
def pw (a n:Int):Int:=if n<0 then 0 else md (a ^ n.toNat)
theorem cJ (a n:Int):-9223372036854775808≤pw a n∧pw a n≤9223372036854775807:=by
 unfold pw;split
 ·omega
 ·exact DO _
theorem cK (a n:Int):0≤pw a n∧pw a n<1000003:=by
 unfold pw;split
 ·omega
 ·exact⟨Ci _,FS _⟩
def inv (a:Int):Int:=pw a ((1000001:Nat):Int)
theorem Lx (a:Int):-9223372036854775808≤inv a∧inv a≤9223372036854775807:=cJ _ _
theorem Yh (a:Int):0≤inv a∧inv a<1000003:=cK _ _
theorem PE (a:Int)(k:Nat):md (((1:Nat):Int)*(md a) ^ k)=md (a ^ k):=by
 rw[show((1:Nat):Int)*(md a) ^ k=(md a) ^ k from Int.one_mul _,Mb]
theorem cL {x b m R:Int}(h:md (x*b ^ m.toNat)=R)(h0:0<m)(h1:m % 2=1):md (md (x*b)*(md (b*b)) ^ (m / 2).toNat)=R:=by
 rw[← h,← Df,EZ,Mb,Df]
 congr 1
 have e:m.toNat=2*(m / 2).toNat+1:=by omega
 rw[e,Int.pow_succ,Int.pow_mul,show b ^ 2=b*b from by rw[Int.pow_succ,Int.pow_succ,Int.pow_zero,Int.one_mul]]
 rw[Int.mul_comm ((b*b) ^ (m / 2).toNat) b,Int.mul_assoc]
theorem Yi {x b m R:Int}(h:md (x*b ^ m.toNat)=R)(h0:0<m)(h1:¬m % 2=1):md (x*(md (b*b)) ^ (m / 2).toNat)=R:=by
 rw[← h,← Df,Mb,Df]
 congr 1
 have e:m.toNat=2*(m / 2).toNat:=by omega
 rw[e,Int.pow_mul,show b ^ 2=b*b from by rw[Int.pow_succ,Int.pow_succ,Int.pow_zero,Int.one_mul]]
theorem Us {x b m a n:Int}(h:md (x*b ^ m.toNat)=md (a ^ n.toNat))(h0:0≤m)(h1:¬((0:Nat):Int)<m)(hn:¬n<((0:Nat):Int))(hx:0≤x∧x<1000003):x=pw a n:=by
 have e:m=0:=by omega
 subst e
 unfold pw
 rw[if_neg (by omega),← h]
 simp only[Int.toNat_zero,Int.pow_zero,Int.mul_one]
 rw[L6 hx.1 hx.2]
theorem Ut {a n:Int}(h:n<((0:Nat):Int)):((0:Nat):Int)=pw a n:=by
 unfold pw;rw[if_pos (by omega)];rfl
theorem mE {m:Int}(h:0≤m):m.tmod ((2:Nat):Int)=m % 2:=Int.tmod_eq_emod_of_nonneg h
theorem kS {m:Int}(h:0≤m)(h':m≤9223372036854775807):IntKind.i64.wrap (m.tdiv ((2:Nat):Int))=m / 2:=by
 rw[Int.tdiv_eq_ediv_of_nonneg h]
 exact Gn (x:=m / 2) (by omega) (by omega)
theorem PF {x b:Int}(hx:0≤x∧x<1000003)(hb:0≤b∧b<1000003):(wr (x*b)).tmod ((1000003:Nat):Int)=md (x*b):=by
 have:=Lw hx.1 hx.2 hb.1 hb.2
 rw[Gn (by omega) (by omega)]
 have:=tm (x*b)
 rw[if_pos (by omega)]at this
 exact this
theorem BK (x:Int):0≤md x∧md x<1000003:=⟨Ci x,FS x⟩
def Jb (n:Int):Bool:=decide (0≤n) && decide (n≤1000002)
theorem Cn {n:Int}:Jb n=true↔0≤n∧n<1000003:=by
 unfold Jb;simp only[Bool.and_eq_true,decide_eq_true_eq];omega
def B8 (l:List Int):Bool:=l.all Jb
theorem Uu (f:Int→Bool)(l:List Int):(l.take 0).all f=true:=rfl
theorem Uv {α:Type}{f:α→Bool}{l:List α}{k:Nat}(d:α)(h:(l.take k).all f=true)(hk:k<l.length)(hf:f (l.getD k d)=true):(l.take (k+1)).all f=true:=by
 rw[List.take_succ_eq_append_getElem hk,List.all_append,h]
 have e:l.getD k d=l[k]:=by simp[hk]
 rw[e]at hf
 simp[hf]
theorem Uw {α:Type}{f:α→Bool}{l:List α}{k:Nat}(d:α)(hk:k<l.length)(hf:f (l.getD k d)=false):l.all f=false:=by
 have e:l.getD k d=l[k]:=by simp[hk]
 rw[e]at hf
 rw[List.all_eq_false]
 exact⟨l[k],List.getElem_mem hk,by simp[hf]⟩
theorem Ux {α:Type}{f:α→Bool}{l:List α}{k:Nat}(h:(l.take k).all f=true)(hk:l.length≤k):l.all f=true:=by
 rwa [List.take_of_length_le hk]at h
theorem Be {l:List Int}(h:B8 l=true)(k:Nat):0≤l.getD k 0∧l.getD k 0<1000003:=by
 by_cases hk:k<l.length
 ·have e:l.getD k 0=l[k]:=by simp[hk]
  rw[e]
  exact Cn.1 (List.all_eq_true.1 h _ (List.getElem_mem hk))
 ·have e:l.getD k 0=0:=by simp[Nat.not_lt.1 hk]
  rw[e];omega
theorem Cq {α:Type}{l:List α}{k:Nat}(d:α)(h:k<l.length):l.take (k+1)=l.take k++[l.getD k d]:=by
 rw[List.take_succ_eq_append_getElem h]
 simp[h]
def Fj {α:Type}(n:Nat)(f:Nat→α):List α:=(List.range n).map f
@[simp] theorem DB {α:Type}(n:Nat)(f:Nat→α):(Fj n f).length=n:=by simp[Fj]
theorem Bj {α:Type}{n:Nat}{f:Nat→α}{k:Nat}(d:α)(h:k<n):(Fj n f).getD k d=f k:=by simp[Fj,h]
theorem Mc {α:Type}(n:Nat)(f:Nat→α):Fj (n+1) f=Fj n f++[f n]:=by simp[Fj,List.range_succ]
theorem RM {α:Type}{n:Nat}{f g:Nat→α}(h:∀k,k<n→f k=g k):Fj n f=Fj n g:=by
 unfold Fj
 exact List.map_congr_left fun k hk=>h k (List.mem_range.1 hk)
theorem cM {α:Type}(l:List α)(d:α):l=Fj l.length (fun k=>l.getD k d):=by
 apply List.ext_getElem
 ·simp
 ·intro i h1 h2
  simp[Fj,h1]
def Cu {α:Type}(k:Nat)(t z:List α):List α:=t.take k++z.drop k
theorem Ch {α:Type}(t z:List α):Cu 0 t z=z:=by simp[Cu]
theorem CP {α:Type}{k:Nat}{t z:List α}(h:t.length=z.length)(hk:z.length≤k):Cu k t z=t:=by
 simp[Cu,List.take_of_length_le (show t.length≤k by omega),List.drop_of_length_le hk]
@[simp] theorem Dm {α:Type}(k:Nat)(t z:List α)(h:t.length=z.length):(Cu k t z).length=z.length:=by
 simp[Cu];omega
theorem Ip {α:Type}{k:Nat}{t z:List α}(d:α)(h:t.length=z.length)(hk:k<z.length):(Cu k t z).set k (t.getD k d)=Cu (k+1) t z:=by
 unfold Cu
 have hl:(t.take k).length=k:=by simp;omega
 rw[Cq d (by omega),List.set_append_right _ _ (by omega),hl,Nat.sub_self,List.append_assoc]
 congr 1
 rw[List.drop_eq_getElem_cons hk]
 rfl
theorem D4 {α:Type}{k j:Nat}{t z:List α}(d:α)(h:t.length=z.length)(hkj:k≤j)(hj:j<z.length):(Cu k t z).getD j d=z.getD j d:=by
 unfold Cu
 have hl:(t.take k).length=k:=by simp;omega
 rw[List.getD_eq_getElem?_getD,List.getElem?_append_right (by omega),hl,List.getElem?_drop,List.getD_eq_getElem?_getD]
 congr 2
 omega
theorem QE {α:Type}{k j:Nat}{t z:List α}(d:α)(hkj:j<k)(hj:j<t.length):(Cu k t z).getD j d=t.getD j d:=by
 unfold Cu
 rw[List.getD_eq_getElem?_getD,List.getElem?_append_left (by simp;omega),List.getElem?_take,if_pos hkj,List.getD_eq_getElem?_getD]
theorem DC {α:Type}{n k:Nat}{f:Nat→α}{z:List α}(hz:z.length=n)(hk:k<n):Cu (k+1) (Fj n f) z=(Cu k (Fj n f) z).set k (f k):=by
 rw[← Ip (f k) (by simp[hz]) (by omega),Bj _ hk]
theorem RO (l:List Int):(!l.any fun x=>!Jb x)=B8 l:=by
 unfold B8
 rw[← List.all_eq_not_any_not]
structure Sq (n:Nat)(M:List (List Int)):Prop where
 len:M.length=n
 row:∀k,k<n→(M.getD k []).length=n
 num:∀k,B8 (M.getD k [])=true
theorem Sq.get {n:Nat}{M:List (List Int)}(h:Sq n M)(r k:Nat):0≤(M.getD r []).getD k 0∧(M.getD r []).getD k 0<1000003:=Be (h.num r) k
theorem BA {α:Type}(l:List α)(i j:Nat)(x d:α)(hi:i<l.length):(l.set i x).getD j d=if j=i then x else l.getD j d:=by
 rw[List.getD_eq_getElem?_getD,List.getElem?_set]
 by_cases h:i=j
 ·subst h;simp[hi]
 ·simp[h,Ne.symm h]
theorem Sq.set {n:Nat}{M:List (List Int)}(h:Sq n M){r:Nat}(hr:r<n){y:List Int}(hy:y.length=n)(hn:B8 y=true):Sq n (M.set r y):=by
 have hl:=h.len
 refine⟨by simp[hl],fun k hk=>?_,fun k=>?_⟩
 ·rw[BA _ _ _ _ _ (by omega)]
  split
  ·exact hy
  ·exact h.row k hk
 ·rw[BA _ _ _ _ _ (by omega)]
  split
  ·exact hn
  ·exact h.num k
theorem FM {α:Type}(l:List α)(i j k:Nat)(d:α)(hi:i<l.length)(hj:j<l.length):(Bl l i j d).getD k d=if k=j then l.getD i d else if k=i then l.getD j d else l.getD k d:=by
 unfold Bl
 rw[BA _ _ _ _ _ (by simpa using hj),BA _ _ _ _ _ hi]
theorem Sq.swap {n:Nat}{M:List (List Int)}(h:Sq n M){i j:Nat}(hi:i<n)(hj:j<n):Sq n (Bl M i j []):=by
 have hl:=h.len
 refine⟨by simp[Cm,hl],fun k hk=>?_,fun k=>?_⟩
 ·rw[FM _ _ _ _ _ (by omega) (by omega)]
  split
  ·exact h.row i hi
  ·split
   ·exact h.row j hj
   ·exact h.row k hk
 ·rw[FM _ _ _ _ _ (by omega) (by omega)]
  split
  ·exact h.num i
  ·split
   ·exact h.num j
   ·exact h.num k
def NZ (a b:List Int)(y:Int):List Int:=Fj a.length fun k=>md (a.getD k 0-md (y*b.getD k 0))
@[simp] theorem Hi (a b:List Int)(y:Int):(NZ a b y).length=a.length:=by simp[NZ]
theorem FE {n:Nat}{f:Nat→Int}(h:∀k,k<n→0≤f k∧f k<1000003):B8 (Fj n f)=true:=by
 unfold B8 Fj
 rw[List.all_eq_true]
 intro x hx
 obtain⟨k,hk,rfl⟩:=List.mem_map.1 hx
 exact Cn.2 (h k (List.mem_range.1 hk))
theorem RQ (a b:List Int)(y:Int):B8 (NZ a b y)=true:=FE fun _ _=>BK _
def Nv (f:Nat→Bool):Nat→Nat→Nat
 |0,r=>r
 |m+1,r=>if f r then Nv f m (r+1)else r
theorem Or (f:Nat→Bool):∀m r,r≤Nv f m r∧Nv f m r≤r+m
 |0,r=>by simp[Nv]
 |m+1,r=>by
  unfold Nv
  split
  ·have:=Or f m (r+1);omega
  ·omega
theorem Uz (f:Nat→Bool):∀m r,Nv f m r<r+m→f (Nv f m r)=false
 |0,r,h=>by simp[Nv]at h
 |m+1,r,h=>by
  unfold Nv at h ⊢
  split
  ·rename_i hf
   rw[if_pos hf]at h
   exact Uz f m (r+1) (by omega)
  ·rename_i hf;simpa using hf
def HX (c:Nat)(rc:List Int)(iv:Int):Nat→List (List Int)→List (List Int):=it fun j M=>M.set (c+1+j) (NZ (M.getD (c+1+j) []) rc (md ((M.getD (c+1+j) []).getD c 0*iv)))
theorem Ly {n c:Nat}{rc:List Int}{iv:Int}{M:List (List Int)}(h:Sq n M):∀j,c+1+j≤n→Sq n (HX c rc iv j M)
 |0,_=>h
 |j+1,hj=>by
  have ih:=Ly (c:=c) (rc:=rc) (iv:=iv) h j (by omega)
  exact Sq.set (r:=c+1+j) ih (by omega) (by rw[Hi];exact ih.row _ (by omega)) (RQ _ _ _)
theorem Ot {n c:Nat}{rc:List Int}{iv:Int}{M:List (List Int)}(h:Sq n M)(d:List Int){k:Nat}(hk:k≤c):∀j,c+1+j≤n→(HX c rc iv j M).getD k d=M.getD k d
 |0,_=>rfl
 |j+1,hj=>by
  have ih:=Ot (rc:=rc) (iv:=iv) h d hk j (by omega)
  have hs:=Ly (c:=c) (rc:=rc) (iv:=iv) h j (by omega)
  show((HX c rc iv j M).set (c+1+j) _).getD k d=_
  rw[BA _ (c+1+j) k _ d (by have:=hs.len;omega),if_neg (by omega)]
  exact ih
def To (n c:Nat)(M:List (List Int)):Nat:=Nv (fun r=>decide ((M.getD r []).getD c 0=0)) (n-c) c
def Le (n:Nat):Nat→Nat→List (List Int)→Int→Int
 |0,_,_,det=>det
 |m+1,c,M,det =>
  if To n c M=n then 0 else
   let M1:=Bl M c (To n c M) []
   let rc:=M1.getD c []
   Le n m (c+1) (HX c rc (inv (rc.getD c 0)) (n-(c+1)) M1) (md ((if To n c M≠c then md (-det)else det)*rc.getD c 0))
def Ed (a:List (List Int)):Int:=Le a.length a.length 0 a 1
theorem ER {α:Type}(l:List α){r:Nat}(d:α)(h:r<l.length):l.set r (l.getD r d)=l:=by
 have:l.getD r d=l[r]:=by simp[h]
 rw[this,List.set_getElem_self]
theorem PG {α:Type}{a b:List α}{d:α}{k:Nat}(h:∀j,j<k→a.getD j d=b.getD j d)(hk:a.getD k d=b.getD k d):∀j,j<k+1→a.getD j d=b.getD j d:=by
 intro j hj
 by_cases e:j=k
 ·subst e;exact hk
 ·exact h j (by omega)
theorem FT {α:Type}{a b:List α}{d:α}{k:Nat}(h:∀j,j<k→a.getD j d=b.getD j d)(hl:a.length=b.length)(hk:a.length≤k):a=b:=by
 apply List.ext_getElem hl
 intro i h1 h2
 have:=h i (by omega)
 simpa [h1,h2]using this
theorem PH {α:Type}{a b:List α}{d:α}{k:Nat}(h:a.getD k d≠b.getD k d):a≠b:=fun e=>h (by rw[e])
theorem RR {α:Type}{a b:List α}(h:a.length≠b.length):a≠b:=fun e=>h (by rw[e])
theorem JK {f:Nat→Bool}{n p:Nat}(hp:p<n)(hf:f p=true):Nv f (n-p) p=Nv f (n-(p+1)) (p+1):=by
 obtain⟨m,hm⟩:∃m,n-p=m+1:=⟨n-p-1,by omega⟩
 rw[hm,show n-(p+1)=m from by omega]
 show(if f p then _ else _)=_
 rw[if_pos hf]
theorem Md {f:Nat→Bool}{n p:Nat}(hf:f p=false):Nv f (n-p) p=p:=by
 cases n-p with
 |zero=>rfl
 |succ m=>show(if f p then _ else _)=_;rw[if_neg (by simp[hf])]
theorem RS {f:Nat→Bool}{n p:Nat}(hp:n≤p):Nv f (n-p) p=p:=by
 rw[show n-p=0 from by omega];rfl
def HC (x a b:Int):Bool:=decide (a≤x) && decide (x≤b)
def Fm (e:Ex):Bool:=decide (e.pick=0) && decide (e.count=0)
def Kz (p:List Fn)(funcs vars:Int)(e:Ex):Bool :=
 if e.kind=1 then Fm e && (decide (e.kids.length=0) && Jb e.num)
 else if e.kind=2 then Fm e && (decide (e.kids.length=0) && HC e.num 0 (vars-1))
 else if e.kind=3∨e.kind=4∨e.kind=5∨e.kind=6∨e.kind=9 then Fm e && (decide (e.num=0) && decide (e.kids.length=2))
 else if e.kind=7 then Fm e && (decide (e.num=0) && decide (e.kids.length=1))
 else if e.kind=8 then Fm e && (decide (e.num=0) && decide (e.kids.length=3))
 else if e.kind=10∨e.kind=11 then
  HC e.num 0 (funcs-1) && (decide ((e.kids.length:Int)=(p.getD e.num.toNat Fn.zero).params) && (HC e.pick 0 (((p.getD e.num.toNat Fn.zero).outs.length:Int)-1) &&
   (if e.kind=10 then decide (e.count=0)else decide (((p.getD e.num.toNat Fn.zero).outs.length:Int)=(p.getD e.num.toNat Fn.zero).params) && HC e.count 0 8)))
 else false
mutual
def wf (p:List Fn)(funcs:Int):Ex→Int→Bool
 |.mk k n q c l,vars=>Kz p funcs vars (.mk k n q c l) && ZC p funcs (decide (k=9)) 0 l vars
def ZC (p:List Fn)(funcs:Int)(b:Bool):Nat→List Ex→Int→Bool
 |_,[],_=>true
 |i,e::l,vars=>wf p funcs e (if b=true∧i=1 then vars+1 else vars) && ZC p funcs b (i+1) l vars
end
theorem O0 (p:List Fn)(funcs:Int)(e:Ex)(vars:Int):wf p funcs e vars=(Kz p funcs vars e && ZC p funcs (decide (e.kind=9)) 0 e.kids vars):=by
 cases e;rw[wf];rfl
theorem Lz (p:List Fn)(funcs:Int)(b:Bool)(vars:Int):∀(l:List Ex)(i:Nat),ZC p funcs b i l vars=true↔∀j,j<l.length→wf p funcs (l.getD j Ex.zero) (if b=true∧i+j=1 then vars+1 else vars)=true
 |[],i=>by rw[ZC];simp
 |e::l,i=>by
  rw[ZC,Bool.and_eq_true,Lz p funcs b vars l (i+1)]
  constructor
  ·rintro⟨h1,h2⟩ j hj
   cases j with
   |zero=>simpa using h1
   |succ j =>
    have:=h2 j (by simpa using hj)
    rw[show i+1+j=i+(j+1)from by omega]at this
    simpa using this
  ·intro h
   refine⟨by simpa using h 0 (by simp),fun j hj=>?_⟩
   have:=h (j+1) (by simpa using hj)
   rw[show i+(j+1)=i+1+j from by omega]at this
   simpa using this
theorem Yj {p:List Fn}{funcs vars:Int}{e:Ex}(h:e.kids.length=0):wf p funcs e vars=Kz p funcs vars e:=by
 rw[O0]
 have:e.kids=[]:=List.eq_nil_of_length_eq_zero h
 rw[this,ZC,Bool.and_true]
theorem UA {p:List Fn}{funcs vars:Int}{e:Ex}(h:Kz p funcs vars e=false):false=wf p funcs e vars:=by
 rw[O0,h];rfl
theorem UB {p:List Fn}{funcs vars own:Int}{e:Ex}{k:Nat}(hk:k<e.kids.length)(ho:own=if e.kind=9∧k=1 then vars+1 else vars)(h:wf p funcs (e.kids.getD k Ex.zero) own=false):false=wf p funcs e vars:=by
 rw[O0]
 cases hw:ZC p funcs (decide (e.kind=9)) 0 e.kids vars with
 |false=>rw[Bool.and_false]
 |true =>
  have:=(Lz p funcs _ vars e.kids 0).1 hw k hk
  rw[Nat.zero_add]at this
  simp only[decide_eq_true_eq]at this
  rw[← ho,h]at this
  cases this
theorem RU {p:List Fn}{funcs vars:Int}{e:Ex}(hn:Kz p funcs vars e=true)(h:∀j,j<e.kids.length→wf p funcs (e.kids.getD j Ex.zero) (if e.kind=9∧j=1 then vars+1 else vars)=true):true=wf p funcs e vars:=by
 rw[O0,hn,Bool.true_and]
 refine((Lz p funcs _ vars e.kids 0).2 fun j hj=>?_).symm
 rw[Nat.zero_add]
 simp only[decide_eq_true_eq]
 exact h j hj
theorem Fy {l:List Ex}{k:Nat}(hk:k<l.length):(l.getD k Ex.zero).deep≤Ex.deeps l:=by
 have h1:=Hh hk
 have h2:∀(l:List Ex) (k:Nat),Ex.deeps (l.take k)≤Ex.deeps l:=by
  intro l
  induction l with
  |nil=>intro k;simp
  |cons e l ih =>
   intro k
   cases k with
   |zero=>rw[List.take_zero,Ex.deeps];omega
   |succ k=>rw[List.take_succ_cons,Ex.deeps,Ex.deeps];have:=ih k;omega
 have h3:=h2 l (k+1)
 omega
theorem Dc {α β:Type}{f:α→β}{l:List α}{k:Nat}(d:α)(h:k<l.length):(l.take (k+1)).map f=(l.take k).map f++[f (l.getD k d)]:=by
 rw[Cq d h,List.map_append];rfl
theorem cO {s x y:Int}(hs:0≤s∧s<1000003)(hx:0≤x∧x<1000003)(hy:0≤y∧y<1000003):(wr (s+wr (x*y))).tmod ((1000003:Nat):Int)=md (s+x*y):=by
 have h:=Lw hx.1 hx.2 hy.1 hy.2
 rw[Gn (x:=x*y) (by omega) (by omega),Gn (by omega) (by omega)]
 exact Int.tmod_eq_emod_of_nonneg (by omega)
def scl (a:List Int)(y:Int):List Int:=a.map fun x=>md (x*y)
def up (n:Nat)(k:Int):List Int:=Fj n fun i=>k+(i:Int)
@[simp] theorem QF (n:Nat)(k:Int):(up n k).length=n:=by simp[up]
theorem cQ {n i:Nat}{k:Int}(h:i<n):(up n k).getD i 0=k+(i:Int):=Bj 0 h
def Jc (a:List (List Int))(i:Nat):Nat:=((a.take i).map List.length).sum
theorem Me (a:List (List Int)):Jc a 0=0:=rfl
theorem FU {a:List (List Int)}{i:Nat}(h:i<a.length):Jc a (i+1)=Jc a i+(a.getD i []).length:=by
 unfold Jc
 rw[Dc [] h,List.sum_append]
 simp
theorem JL (a:List (List Int))(i:Nat):Jc a i≤Jc a a.length:=by
 unfold Jc
 rw[List.take_length]
 conv=>rhs;rw[← List.take_append_drop i a]
 rw[List.map_append,List.sum_append]
 omega
theorem UC {a:List (List Int)}{L:Nat}(h:∀k,(a.getD k []).length≤L):∀i,i≤a.length→Jc a i≤i*L
 |0,_=>by simp[Me]
 |i+1,hi=>by
  have h1:=UC h i (by omega)
  have h2:=h i
  rw[FU (by omega),Nat.succ_mul]
  omega
def Lf (a:List (List Int))(k:Int):List (List Int):=Fj a.length fun i=>up (a.getD i []).length (k+(Jc a i:Int))
@[simp] theorem Ek (a:List (List Int))(k:Int):(Lf a k).length=a.length:=by simp[Lf]
theorem RV {a:List (List Int)}{k:Int}{i:Nat}(h:i<a.length):(Lf a k).getD i []=up (a.getD i []).length (k+(Jc a i:Int)):=Bj [] h
theorem RW (a:List (List Int))(k:Int)(i:Nat):((Lf a k).getD i []).length=(a.getD i []).length:=by
 by_cases h:i<a.length
 ·rw[RV h,QF]
 ·rw[show(Lf a k).getD i []=[]from by simp[Nat.not_lt.1 h],show a.getD i []=[]from by simp[Nat.not_lt.1 h]]
theorem Iq (a:List (List Int))(k:Int):∀i,i≤a.length→Jc (Lf a k) i=Jc a i
 |0,_=>rfl
 |i+1,hi=>by rw[FU (by simp;omega),FU (by omega),Iq a k i (by omega),RW]
section
theorem JM {α:Type}{l l':List α}{k:Nat}{d:α}(h:k<l.length):(l++l').getD k d=l.getD k d:=by
 rw[List.getD_eq_getElem?_getD,List.getElem?_append_left h,List.getD_eq_getElem?_getD]
theorem GP {α:Type}{l l':List α}{k:Nat}{d:α}(h:l.length≤k):(l++l').getD k d=l'.getD (k-l.length) d:=by
 rw[List.getD_eq_getElem?_getD,List.getElem?_append_right h,List.getD_eq_getElem?_getD]
theorem O1:∀d,d<1001→2≤d→1000003 % d≠0:=by decide +kernel
theorem UD {d:Nat}(h:d ∣ 1000003)(h2:2≤d):d=1000003:=by
 obtain⟨e,he⟩:=h
 by_cases h3:d<1001
 ·exact absurd (by rw[he];exact Nat.mul_mod_right d e) (O1 d h3 h2)
 ·by_cases h4:e<1001
  ·by_cases h5:2≤e
   ·exact absurd (by rw[he];exact Nat.mul_mod_left d e) (O1 e h4 h5)
   ·have:e=0∨e=1:=by omega
    rcases this with rfl|rfl <;> omega
  ·have:1001*1001≤d*e:=Nat.mul_le_mul (by omega) (by omega)
   omega
theorem Tq {a:Nat}(h:0<a)(h':a<1000003):Nat.Coprime 1000003 a:=by
 have h1:Nat.gcd 1000003 a ∣ 1000003:=Nat.gcd_dvd_left _ _
 have h2:Nat.gcd 1000003 a ∣ a:=Nat.gcd_dvd_right _ _
 have h3:=Nat.le_of_dvd h h2
 have h4:0<Nat.gcd 1000003 a:=Nat.gcd_pos_of_pos_right _ h
 unfold Nat.Coprime
 by_cases h5:2≤Nat.gcd 1000003 a
 ·have:=UD h1 h5;omega
 ·omega
theorem UE {a b:Int}(ha:0<a∧a<1000003)(hb:0<b∧b<1000003):md (a*b)≠0:=by
 obtain⟨x,rfl⟩:=Int.eq_ofNat_of_zero_le (show 0≤a by omega)
 obtain⟨y,rfl⟩:=Int.eq_ofNat_of_zero_le (show 0≤b by omega)
 intro h
 unfold md at h
 have h1:(1000003:Nat) ∣ x*y:=by
  apply Nat.dvd_of_mod_eq_zero
  have h2:((x*y:Nat):Int) % 1000003=0:=by rw[Int.natCast_mul];exact h
  omega
 have h3:(1000003:Nat) ∣ y:=(Tq (a:=x) (by omega) (by omega)).dvd_of_dvd_mul_left h1
 have:=Nat.le_of_dvd (by omega) h3
 omega
structure Ar (α:Type) where
 q:α→α→α
 t:α→α→α→α
 z:α→Bool
 d:α
section Np
variable {α:Type} (R:Ar α)
def Ee (c:Nat)(row:List α):List α:=row.map fun x=>R.q x (row.getD c R.d)
def Gh (c:Nat)(row other:List α):List α:=Fj row.length fun k=>R.t (row.getD k R.d) (row.getD c R.d) (other.getD k R.d)
def Cc (n c:Nat)(M:List (List α)):List (List α):=Fj n fun r=>if r=c then M.getD c []else Gh R c (M.getD r []) (M.getD c [])
def FV (c p:Nat)(M:List (List α)):List (List α):=(Bl M c p []).set c (Ee R c ((Bl M c p []).getD c []))
def GQ (n c p:Nat)(M:List (List α)):List (List α):=Cc R n c (FV R c p M)
def Ha (n c:Nat)(M:List (List α)):Nat:=Nv (fun r=>R.z ((M.getD r []).getD c R.d)) (n-c) c
def Np (n:Nat):Nat→Nat→List (List α)→Option (List (List α))
 |0,_,M=>some M
 |m+1,c,M=>if Ha R n c M=n then none else Np n m (c+1) (GQ R n c (Ha R n c M) M)
end Np
structure Gi {α:Type}(V:α→Prop)(d:α)(m:Nat)(row:List α):Prop where
 len:row.length=m
 val:∀k,k<m→V (row.getD k d)
structure Sh {α:Type}(V:α→Prop)(d:α)(n m:Nat)(M:List (List α)):Prop where
 len:M.length=n
 row:∀r,r<n→Gi V d m (M.getD r [])
section sh
variable {α:Type} {R:Ar α} {V:α→Prop} {n m c p:Nat} {M:List (List α)}
structure UF (R:Ar α)(V:α→Prop):Prop where
 q:∀x y,V x→V y→V (R.q x y)
 t:∀x y w,V x→V y→V w→V (R.t x y w)
theorem FW {row:List α}{k:Nat}(hk:k<row.length):(Ee R c row).getD k R.d=R.q (row.getD k R.d) (row.getD c R.d):=by
 simp[Ee,hk]
theorem FX {row other:List α}{k:Nat}(hk:k<row.length):(Gh R c row other).getD k R.d=R.t (row.getD k R.d) (row.getD c R.d) (other.getD k R.d):=Bj _ hk
@[simp] theorem UG (row:List α):(Ee R c row).length=row.length:=by simp[Ee]
@[simp] theorem UH (row other:List α):(Gh R c row other).length=row.length:=by simp[Gh]
theorem Gi.q {row:List α}(hA:UF R V)(h:Gi V R.d m row)(hc:c<m):Gi V R.d m (Ee R c row) :=
 ⟨by simp[h.len],fun k hk=>by rw[FW (by rw[h.len];exact hk)];exact hA.q _ _ (h.val k hk) (h.val c hc)⟩
theorem Gi.t {row other:List α}(hA:UF R V)(h:Gi V R.d m row)(h':Gi V R.d m other)(hc:c<m):Gi V R.d m (Gh R c row other) :=
 ⟨by simp[h.len],fun k hk=>by rw[FX (by rw[h.len];exact hk)];exact hA.t _ _ _ (h.val k hk) (h.val c hc) (h'.val k hk)⟩
theorem Sh.set {d:α}(h:Sh V d n m M){r:Nat}(hr:r<n){y:List α}(hy:Gi V d m y):Sh V d n m (M.set r y):=by
 have hl:=h.len
 refine⟨by simp[hl],fun k hk=>?_⟩
 rw[BA _ _ _ _ _ (by omega)]
 split
 ·exact hy
 ·exact h.row k hk
theorem Sh.swap {d:α}(h:Sh V d n m M){i j:Nat}(hi:i<n)(hj:j<n):Sh V d n m (Bl M i j []):=by
 have hl:=h.len
 refine⟨by simp[Cm,hl],fun k hk=>?_⟩
 rw[FM _ _ _ _ _ (by omega) (by omega)]
 split
 ·exact h.row i hi
 ·split
  ·exact h.row j hj
  ·exact h.row k hk
theorem LA {β:Type}{l:List β}{d:β}(hc:c<l.length)(hp:p<l.length):(Bl l c p d).getD c d=l.getD p d:=by
 rw[FM _ _ _ _ _ hc hp]
 split
 ·rename_i h;rw[h]
 ·rw[if_pos rfl]
theorem Sh.div (hA:UF R V)(h:Sh V R.d n m M)(hc:c<n)(hp:p<n)(hcm:c<m):Sh V R.d n m (FV R c p M) :=
 (h.swap hc hp).set hc (((h.swap hc hp).row c hc).q hA hcm)
theorem UI (h:Sh V R.d n m M)(hc:c<n)(hp:p<n)(r:Nat):(FV R c p M).getD r []=if r=c then Ee R c (M.getD p [])else if r=p then M.getD c []else M.getD r []:=by
 have hl:=h.len
 unfold FV
 rw[BA _ _ _ _ _ (by rw[Cm];omega),LA (by omega) (by omega),FM _ _ _ _ _ (by omega) (by omega)]
 by_cases h1:r=c
 ·rw[if_pos h1,if_pos h1]
 ·rw[if_neg h1,if_neg h1,if_neg h1]
theorem KA {r:Nat}(hr:r<n):(Cc R n c M).getD r []=if r=c then M.getD c []else Gh R c (M.getD r []) (M.getD c []):=Bj _ hr
theorem Sh.rows (hA:UF R V)(h:Sh V R.d n m M)(hc:c<n)(hcm:c<m):Sh V R.d n m (Cc R n c M):=by
 refine⟨by simp[Cc],fun r hr=>?_⟩
 rw[KA hr]
 split
 ·exact h.row c hc
 ·exact(h.row r hr).t hA (h.row c hc) hcm
theorem Sh.step (hA:UF R V)(h:Sh V R.d n m M)(hc:c<n)(hp:p<n)(hcm:c<m):Sh V R.d n m (GQ R n c p M):=(h.div hA hc hp hcm).rows hA hc hcm
theorem E9 (h:Sh V R.d n m M)(hc:c<n)(hp:p<n){r:Nat}(hr:r<n) :
  (GQ R n c p M).getD r []=if r=c then Ee R c (M.getD p [])else Gh R c (if r=p then M.getD c []else M.getD r []) (Ee R c (M.getD p [])):=by
 unfold GQ
 rw[KA hr]
 simp only[UI h hc hp]
 by_cases hrc:r=c
 ·subst hrc;simp
 ·simp[hrc]
theorem KB (R:Ar α)(h:Ha R n c M≠n)(hc:c<n):c≤Ha R n c M∧Ha R n c M<n∧R.z ((M.getD (Ha R n c M) []).getD c R.d)=false:=by
 have h1:=Or (fun r=>R.z ((M.getD r []).getD c R.d)) (n-c) c
 have h2:=Uz (fun r=>R.z ((M.getD r []).getD c R.d)) (n-c) c
 unfold Ha at h ⊢
 refine⟨h1.1,by omega,h2 (by omega)⟩
theorem Sh.jor (hA:UF R V):∀(l c:Nat)(M:List (List α)),c+l≤n→n≤m→Sh V R.d n m M→∀ {M':List (List α)},Np R n l c M=some M'→Sh V R.d n m M'
 |0,c,M,_,_,h,M',e=>by cases e;exact h
 |l+1,c,M,hl,hm,h,M',e=>by
  unfold Go.Proofs.YtnokbaiemimhjaaGreat.Np at e
  split at e
  ·cases e
  ·rename_i hp
   obtain⟨_,h2,_⟩:=KB R hp (by omega)
   exact Sh.jor hA l (c+1) _ (by omega) hm (h.step hA (by omega) h2 (by omega)) e
end sh
theorem KC {f g:Nat→Bool}:∀m r,(∀i,r≤i→i<r+m→f i=g i)→Nv f m r=Nv g m r
 |0,_,_=>rfl
 |m+1,r,h=>by
  unfold Nv
  rw[h r (A9 _) (by omega),KC m (r+1) fun i h1 h2=>h i (by omega) (by omega)]
structure QG {α β:Type}(R:Ar α)(S:Ar β)(V:α→Prop)(h:α→β):Prop where
 q:∀x y,V x→V y→h (R.q x y)=S.q (h x) (h y)
 t:∀x y w,V x→V y→V w→h (R.t x y w)=S.t (h x) (h y) (h w)
 z:∀x,V x→S.z (h x)=R.z x
section hom
variable {α β:Type} {R:Ar α} {S:Ar β} {V:α→Prop} {h:α→β} {n m c p:Nat} {M:List (List α)}
def mm (h:α→β)(M:List (List α)):List (List β):=M.map (List.map h)
theorem EF (r:Nat):(mm h M).getD r []=(M.getD r []).map h:=by
 unfold mm
 by_cases hr:r<M.length
 ·simp[hr]
 ·simp[Nat.not_lt.1 hr]
theorem B4 {row:List α}{k:Nat}{d:α}{d':β}(hk:k<row.length):(row.map h).getD k d'=h (row.getD k d):=by simp[hk]
theorem Mf {A B:List (List β)}{n:Nat}(ha:A.length=n)(hb:B.length=n)(he:∀r,r<n→A.getD r []=B.getD r []):A=B :=
 FT (k:=n) (fun j hj=>he j hj) (by omega) (by omega)
theorem QG.rowQ (H:QG R S V h){row:List α}(hr:Gi V R.d m row)(hc:c<m):(Ee R c row).map h=Go.Proofs.YtnokbaiemimhjaaGreat.Ee S c (row.map h):=by
 have hl:=hr.len
 refine FT (d:=S.d) (k:=m) (fun k hk=>?_) (by simp) (by simp[hl])
 rw[B4 (d:=R.d) (by rw[UG];omega),FW (by omega),FW (by simp;omega),B4 (d:=R.d) (by omega),B4 (d:=R.d) (by omega)]
 exact H.q _ _ (hr.val k hk) (hr.val c hc)
theorem QG.rowT (H:QG R S V h){row other:List α}(hr:Gi V R.d m row)(ho:Gi V R.d m other)(hc:c<m):(Gh R c row other).map h=Go.Proofs.YtnokbaiemimhjaaGreat.Gh S c (row.map h) (other.map h):=by
 have hl:=hr.len
 have hl2:=ho.len
 refine FT (d:=S.d) (k:=m) (fun k hk=>?_) (by simp) (by simp[hl])
 rw[B4 (d:=R.d) (by rw[UH];omega),FX (by omega),FX (by simp;omega),B4 (d:=R.d) (by omega),B4 (d:=R.d) (by omega),B4 (d:=R.d) (by omega)]
 exact H.t _ _ _ (hr.val k hk) (hr.val c hc) (ho.val k hk)
theorem QG.sh (hs:Sh V R.d n m M):Sh (fun _=>True) S.d n m (mm h M) :=
 ⟨by simp[mm,hs.len],fun r hr=>⟨by rw[EF,List.length_map];exact(hs.row r hr).len,fun _ _=>trivial⟩⟩
theorem QG.step (H:QG R S V h)(hA:UF R V)(hs:Sh V R.d n m M)(hc:c<n)(hp:p<n)(hcm:c<m):mm h (GQ R n c p M)=GQ S n c p (mm h M):=by
 refine Mf (n:=n) (by simp[mm,GQ,Cc]) (by simp[GQ,Cc]) fun r hr=>?_
 rw[EF,E9 hs hc hp hr,E9 (QG.sh hs) hc hp hr]
 simp only[EF]
 have hq:=H.rowQ (hs.row p hp) hcm
 by_cases hrc:r=c
 ·simp only[hrc,if_pos];exact hq
 ·simp only[hrc,if_false]
  by_cases hrp:r=p
  ·simp only[hrp,if_pos]
   rw[← hq]
   exact H.rowT (hs.row c hc) ((hs.row p hp).q hA hcm) hcm
  ·simp only[hrp,if_false]
   rw[← hq]
   exact H.rowT (hs.row r hr) ((hs.row p hp).q hA hcm) hcm
theorem QG.pv (H:QG R S V h)(hs:Sh V R.d n m M)(hcm:c<m):Ha S n c (mm h M)=Ha R n c M:=by
 refine KC _ _ fun i h1 h2=>?_
 have hi:i<n:=by omega
 rw[EF,B4 (d:=R.d) (by rw[(hs.row i hi).len];exact hcm)]
 exact H.z _ ((hs.row i hi).val c hcm)
theorem QG.jor (H:QG R S V h)(hA:UF R V):∀(l c:Nat)(M:List (List α)),c+l≤n→n≤m→Sh V R.d n m M→Np S n l c (mm h M)=(Np R n l c M).map (mm h)
 |0,c,M,_,_,_=>rfl
 |l+1,c,M,hl,hm,hs=>by
  unfold Go.Proofs.YtnokbaiemimhjaaGreat.Np
  rw[H.pv hs (by omega)]
  split
  ·rfl
  ·rename_i hp
   obtain⟨_,h2,_⟩:=KB R hp (by omega)
   rw[← H.step hA hs (by omega) h2 (by omega)]
   exact QG.jor H hA l (c+1) _ (by omega) hm (hs.step hA (by omega) h2 (by omega))
end hom
def nA:Ar Int:=⟨fun x y=>md (x*inv y),fun a f b=>md (a-md (f*b)),fun x=>decide (x=0),0⟩
def Nm (x:Int):Prop:=0≤x∧x<1000003
theorem Ou:UF nA Nm:=⟨fun _ _ _ _=>BK _,fun _ _ _ _ _ _=>BK _⟩
theorem PI {m:Nat}{row:List Int}(h:Gi Nm 0 m row):B8 row=true:=by
 rw[cM row 0]
 exact FE fun k hk=>h.val k (by rw[← h.len];exact hk)
theorem PJ {n c:Nat}{rc:List Int}{iv:Int}{M:List (List Int)}(h:Sq n M):∀j,c+1+j≤n→∀r,(HX c rc iv j M).getD r []=if c<r∧r<c+1+j then NZ (M.getD r []) rc (md ((M.getD r []).getD c 0*iv))else M.getD r []
 |0,_,r=>by rw[if_neg (by omega)];rfl
 |j+1,hj,r=>by
  have ih:=PJ (c:=c) (rc:=rc) (iv:=iv) h j (by omega)
  have hs:=Ly (c:=c) (rc:=rc) (iv:=iv) h j (by omega)
  show((HX c rc iv j M).set (c+1+j) (NZ ((HX c rc iv j M).getD (c+1+j) []) rc (md (((HX c rc iv j M).getD (c+1+j) []).getD c 0*iv)))).getD r []=_
  have hl:c+1+j<(HX c rc iv j M).length:=by have:=hs.len;omega
  rw[BA _ (c+1+j) r _ _ hl]
  have e1:=ih (c+1+j)
  rw[if_neg (by omega)]at e1
  rw[e1,ih r]
  by_cases e:r=c+1+j
  ·subst e;rw[if_pos rfl,if_pos (by omega)]
  ·rw[if_neg e]
   by_cases e2:c<r∧r<c+1+j
   ·rw[if_pos e2,if_pos (by omega)]
   ·rw[if_neg e2,if_neg (by omega)]
def UJ (n c:Nat)(D G:List (List Int)):Prop:=∀r,c≤r→r<n→∀k,k<n→(D.getD r []).getD k 0=(G.getD r []).getD k 0
theorem cR {n c:Nat}{D G:List (List Int)}(h:UJ n c D G)(hc:c<n):To n c D=Ha nA n c G:=by
 refine KC _ _ fun i h1 h2=>?_
 show decide (_=0)=decide (_=0)
 rw[h i h1 (by omega) c hc];rfl
theorem UK {n c p:Nat}{D G:List (List Int)}(hD:Sq n D)(hG:Sh Nm 0 n (n+1) G)(h:UJ n c D G)(hc:c<n)(hp:p<n)(hcp:c≤p) :
  UJ n (c+1) (HX c ((Bl D c p []).getD c []) (inv (((Bl D c p []).getD c []).getD c 0)) (n-(c+1)) (Bl D c p [])) (GQ nA n c p G):=by
 intro r hr1 hr2 k hk
 have hl:=hD.len
 rw[PJ (hD.swap hc hp) _ (by omega),if_pos (by omega),E9 hG hc hp hr2,if_neg (by omega),LA (by omega) (by omega),FM _ _ _ _ _ (by omega) (by omega)]
 have key:∀(D0 G0:List Int),D0.length=n→G0.length=n+1→(∀k,k<n→D0.getD k 0=G0.getD k 0) →
   (NZ D0 (D.getD p []) (md (D0.getD c 0*inv ((D.getD p []).getD c 0)))).getD k 0=(Gh nA c G0 (Ee nA c (G.getD p []))).getD k 0:=by
  intro D0 G0 h1 h2 h3
  have hpl:=(hG.row p hp).len
  rw[show(0:Int)=nA.d from rfl,FX (by omega),FW (by omega)]
  show(Fj D0.length fun k=>md (D0.getD k 0-md (md (D0.getD c 0*inv ((D.getD p []).getD c 0))*(D.getD p []).getD k 0))).getD k 0=md (G0.getD k 0-md (G0.getD c 0*md ((G.getD p []).getD k 0*inv ((G.getD p []).getD c 0))))
  rw[Bj _ (by omega),h3 k hk,h3 c hc,h p hcp hp k hk,h p hcp hp c hc,JJ,JJ]
  rw[← Fl,← Fl (G0.getD k 0) (_*md _),EP,EQ]
  congr 3
  rw[Int.mul_assoc,Int.mul_comm (inv _)]
 by_cases e:r=p
 ·subst e
  rw[if_pos rfl,if_pos rfl]
  exact key _ _ (hD.row c hc) (hG.row c hc).len fun k hk=>h c (A9 _) hc k hk
 ·rw[if_neg e,if_neg (by omega),if_neg e]
  exact key _ _ (hD.row r hr2) (hG.row r hr2).len fun k hk=>h r (by omega) hr2 k hk
theorem RY {n:Nat}:∀(l c:Nat)(D G:List (List Int))(det:Int),c+l=n→Sq n D→Sh Nm 0 n (n+1) G→UJ n c D G→0<det→det<1000003→(Le n l c D det=0↔Np nA n l c G=none)
 |0,c,D,G,det,_,_,_,_,h1,_=>by
  unfold Le Np
  constructor
  ·intro h;omega
  ·intro h;cases h
 |l+1,c,D,G,det,hl,hD,hG,hr,h1,h2=>by
  have hc:c<n:=by omega
  have hpv:=cR hr hc
  unfold Le Np
  rw[hpv]
  by_cases hp:Ha nA n c G=n
  ·rw[if_pos hp,if_pos hp];simp
  ·rw[if_neg hp,if_neg hp]
   obtain⟨q1,q2,q3⟩:=KB nA hp hc
   have hne:(D.getD (Ha nA n c G) []).getD c 0≠0:=by
    rw[hr _ q1 q2 c hc]
    simpa [nA]using q3
   have hnum:=hD.get (Ha nA n c G) c
   have hdl:=hD.len
   have hs:=hD.swap hc q2
   have hdet:0<(if Ha nA n c G≠c then md (-det)else det)∧(if Ha nA n c G≠c then md (-det)else det)<1000003:=by
    split
    ·unfold md;omega
    ·omega
   have hz:=UE hdet (b:=(D.getD (Ha nA n c G) []).getD c 0) (by omega)
   have hm:=BK ((if Ha nA n c G≠c then md (-det)else det)*(D.getD (Ha nA n c G) []).getD c 0)
   have e:=LA (d:=[]) (c:=c) (p:=Ha nA n c G) (l:=D) (by omega) (by omega)
   have ih:=RY (n:=n) l (c+1) (HX c ((Bl D c (Ha nA n c G) []).getD c []) (inv (((Bl D c (Ha nA n c G) []).getD c []).getD c 0)) (n-(c+1)) (Bl D c (Ha nA n c G) [])) (GQ nA n c (Ha nA n c G) G)
    (md ((if Ha nA n c G≠c then md (-det)else det)*((Bl D c (Ha nA n c G) []).getD c []).getD c 0)) (by omega) (Ly hs _ (by omega)) (hG.step Ou hc q2 (by omega)) (UK hD hG hr hc q2 q1)
    (by rw[e];omega) (by rw[e];omega)
   exact ih
def DU (a:List (List Int))(b:List Int):List (List Int):=Fj a.length fun i=>a.getD i []++[b.getD i 0]
theorem Gw {a:List (List Int)}{b:List Int}(hS:Sq a.length a)(hb:B8 b=true):Sh Nm 0 a.length (a.length+1) (DU a b):=by
 refine⟨by simp[DU],fun r hr=>?_⟩
 unfold DU
 rw[Bj _ hr]
 have hl:=hS.row r hr
 refine⟨by rw[List.length_append,hl];rfl,fun k hk=>?_⟩
 by_cases e:k<a.length
 ·rw[JM (by omega)];exact hS.get r k
 ·rw[GP (by omega),show k-(a.getD r []).length=0 from by omega]
  exact Be hb r
theorem Ov {a:List (List Int)}{b:List Int}(hS:Sq a.length a):UJ a.length 0 a (DU a b):=by
 intro r _ hr k hk
 unfold DU
 rw[Bj _ hr,JM (by rw[hS.row r hr];exact hk)]
def IF (a:List (List Int))(b:List Int):Option (List (List Int)):=Np nA a.length a.length 0 (DU a b)
theorem JN {a:List (List Int)}{b:List Int}(hS:Sq a.length a)(hb:B8 b=true):Ed a=0↔IF a b=none :=
 RY a.length 0 a (DU a b) 1 (by omega) hS (Gw hS hb) (Ov hS) (by decide) (by decide)
def Mg {α:Type}(n:Nat)(d:α)(M:List (List α)):List α:=M.map fun r=>r.getD n d
def IG (a:List (List Int))(b:List Int):List Int:=Mg a.length 0 ((IF a b).getD [])
end
def Nw (a b:List Int)(k:Nat):Nat→Int
 |0=>0
 |i+1=>md (Nw a b k i+a.getD i 0*b.getD (k-i) 0)
theorem RZ (a b:List Int)(k:Nat):∀i,0≤Nw a b k i∧Nw a b k i<1000003
 |0=>by unfold Nw;omega
 |i+1=>BK _
def C5 (a b:List Int):List Int:=Fj a.length fun k=>Nw a b k (k+1)
@[simp] theorem Fb (a b:List Int):(C5 a b).length=a.length:=by simp[C5]
theorem Fd (a b:List Int):B8 (C5 a b)=true:=FE fun _ _=>RZ _ _ _ _
def Ox (a b o:List Int)(k:Nat):Nat→Int
 |0=>a.getD k 0
 |i+1=>md (Ox a b o k i-o.getD i 0*b.getD (k-i) 0)
def IV (a b:List Int):Nat→List Int
 |0=>[]
 |k+1=>IV a b k++[md (Ox a b (IV a b k) k k*inv (b.getD 0 0))]
def BT (a b:List Int):List Int:=IV a b a.length
@[simp] theorem DZ (a b:List Int):∀k,(IV a b k).length=k
 |0=>rfl
 |k+1=>by simp[IV,DZ a b k]
@[simp] theorem DV (a b:List Int):(BT a b).length=a.length:=DZ _ _ _
theorem S0 (a b:List Int):∀k,B8 (IV a b k)=true
 |0=>rfl
 |k+1=>by
  unfold IV B8
  rw[List.all_append]
  have h:=S0 a b k
  unfold B8 at h
  simp only[h,List.all_cons,List.all_nil,Bool.and_true,Bool.true_and]
  exact Cn.2 (BK _)
theorem El (a b:List Int):B8 (BT a b)=true:=S0 _ _ _
theorem S3 (a b:List Int){i:Nat}:∀k m,i<k→k≤m→(IV a b m).getD i 0=(IV a b k).getD i 0
 |k,m,h,hm=>by
  induction m with
  |zero=>omega
  |succ m ih =>
   by_cases e:k=m+1
   ·subst e;rfl
   ·show(IV a b m++_).getD i 0=_
    rw[JM (by rw[DZ];omega)]
    exact ih (by omega)
theorem O2 {a b o o':List Int}{k:Nat}:∀i,(∀j,j<i→o.getD j 0=o'.getD j 0)→Ox a b o k i=Ox a b o' k i
 |0,_=>rfl
 |i+1,h=>by unfold Ox;rw[O2 i fun j hj=>h j (by omega),h i (by omega)]
theorem JO {a b:List Int}{k:Nat}(hk:k<a.length):(BT a b).getD k 0=md (Ox a b (BT a b) k k*inv (b.getD 0 0)):=by
 unfold BT
 rw[S3 a b (k+1) a.length (by omega) (by omega)]
 show(IV a b k++[_]).getD k 0=_
 rw[GP (by simp),DZ,Nat.sub_self]
 show md _=_
 rw[O2 (o:=IV a b k) (o':=IV a b a.length) k fun j hj=>(S3 a b k a.length hj (by omega)).symm]
theorem Yk {a b:List Int}{k:Nat}(hk:k<a.length){z:List Int}(hz:z.length=a.length) :
  (Cu k (BT a b) z).set k (md (Ox a b (BT a b) k k*inv (b.getD 0 0)))=Cu (k+1) (BT a b) z:=by
 rw[← JO hk,Ip 0 (by simp[hz]) (by omega)]
def Em (a b:List Int):List Int:=Fj a.length fun k=>md (a.getD k 0+b.getD k 0)
def CK (a:List Int)(n:Int):List Int:=Fj a.length fun k=>md (a.getD k 0*n)
def Dt (a b:List Int):List Int:=Fj a.length fun k=>md (a.getD k 0-b.getD k 0)
@[simp] theorem GR (a b:List Int):(Em a b).length=a.length:=by simp[Em]
@[simp] theorem GS (a:List Int)(n:Int):(CK a n).length=a.length:=by simp[CK]
@[simp] theorem GT (a b:List Int):(Dt a b).length=a.length:=by simp[Dt]
theorem HY (a b:List Int):B8 (Em a b)=true:=FE fun _ _=>BK _
theorem Fe (a:List Int)(n:Int):B8 (CK a n)=true:=FE fun _ _=>BK _
theorem GU (a b:List Int):B8 (Dt a b)=true:=FE fun _ _=>BK _
theorem UL {a b:List Int}(h:a.length≤b.length):Em a (CK b 1000002)=Dt a b:=by
 unfold Em Dt
 refine RM fun k hk=>?_
 unfold CK
 rw[Bj _ (by omega),Gm]
 unfold md
 omega
theorem Yl {x y:Int}(hx:0≤x∧x<1000003)(hy:0≤y∧y<1000003):(wr (x+y)).tmod ((1000003:Nat):Int)=md (x+y):=by
 rw[Gn (by omega) (by omega)]
 exact Int.tmod_eq_emod_of_nonneg (by omega)
theorem UM {n k:Nat}{T:List Int}(hT:T.length=n)(hk:k<n):(Cu k T (List.replicate n 0)).set k 0=Cu k T (List.replicate n 0):=by
 have h1:(Cu k T (List.replicate n 0)).length=n:=by rw[Dm _ _ _ (by simp[hT])];simp
 have h2:(Cu k T (List.replicate n 0)).getD k 0=0:=by rw[D4 0 (by simp[hT]) (A9 _) (by simpa using hk)];simp[hk]
 have h3:=ER (Cu k T (List.replicate n 0)) (r:=k) 0 (by omega)
 rw[h2]at h3
 exact h3
theorem UN {a b q:List Int}{k i:Nat}(hq:B8 q=true)(hb:B8 b=true):md (Ox a b q k i-wr (q.getD i 0*b.getD (k-i) 0))=Ox a b q k (i+1):=by
 have h1:=Be hq i
 have h2:=Be hb (k-i)
 have h:=Lw h1.1 h1.2 h2.1 h2.2
 rw[Gn (by omega) (by omega)]
 rfl
def Bt (N:Nat)(s:List Int):Prop:=s.length=N∧B8 s=true
def sA:Ar (List Int):=⟨BT,fun a f b=>Dt a (C5 f b),fun s=>decide (s.getD 0 0=0),[]⟩
theorem QH (N:Nat):UF sA (Bt N):=⟨fun _ _ h _=>⟨by rw[← h.1];exact DV _ _,El _ _⟩,fun _ _ _ h _ _=>⟨by rw[← h.1];exact GT _ _,GU _ _⟩⟩
theorem Ym:QG nA sA Nm (fun x=>[x]) where
 q x y _ _:=by simp[nA,sA,BT,IV,Ox]
 t x y w _ _ _:=by simp[nA,sA,Dt,C5,Nw,Fj]
 z x _:=by simp[nA,sA]
def GV (a:List (List (List Int)))(b:List (List Int)):List (List (List Int)):=Fj a.length fun i=>a.getD i []++[b.getD i []]
def D5 (a:List (List (List Int)))(b:List (List Int)):Option (List (List (List Int))):=Np sA a.length a.length 0 (GV a b)
def FF (a:List (List (List Int)))(b:List (List Int)):List (List Int):=Mg a.length [] ((D5 a b).getD [])
def C7 (b:List Int):List (List Int):=b.map fun x=>[x]
theorem JP {a:List (List Int)}{b:List Int}(hS:Sq a.length a)(hb:b.length=a.length):GV (mm (fun x=>[x]) a) (C7 b)=mm (fun x=>[x]) (DU a b):=by
 have h1:(mm (fun x:Int=>[x]) a).length=a.length:=by simp[mm]
 unfold GV
 rw[h1]
 refine Mf (n:=a.length) (by simp) (by simp[mm,DU]) fun r hr=>?_
 rw[Bj _ hr,EF,EF]
 unfold DU
 rw[Bj _ hr,List.map_append,C7,B4 (d:=0) (by omega)]
 rfl
theorem Oy {a:List (List Int)}{b:List Int}(hS:Sq a.length a)(hb:b.length=a.length)(hn:B8 b=true) :
  D5 (mm (fun x=>[x]) a) (C7 b)=(IF a b).map (mm fun x=>[x]):=by
 unfold D5 IF
 rw[JP hS hb,show(mm (fun x:Int=>[x]) a).length=a.length from by simp[mm]]
 exact Ym.jor Ou a.length 0 _ (by omega) (by omega) (Gw hS hn)
theorem S4 {a:List (List Int)}{b:List Int}(hS:Sq a.length a)(hb:b.length=a.length)(hn:B8 b=true)(hs:IF a b≠none) :
  FF (mm (fun x=>[x]) a) (C7 b)=C7 (IG a b):=by
 obtain⟨M,hM⟩:=Option.ne_none_iff_exists'.1 hs
 have hsh:=Sh.jor Ou a.length 0 _ (by omega) (by omega) (Gw hS hn) hM
 have hl:=hsh.len
 unfold FF IG
 rw[Oy hS hb hn,hM,show(mm (fun x:Int=>[x]) a).length=a.length from by simp[mm]]
 simp only[Option.map_some,Option.getD_some]
 unfold Mg C7
 refine FT (d:=[]) (k:=a.length) (fun r hr=>?_) (by simp[mm,hl]) (by simp[mm,hl])
 have e1:((mm (fun x:Int=>[x]) M).map fun r=>r.getD a.length []).getD r []=((mm (fun x:Int=>[x]) M).getD r []).getD a.length []:=by
  rw[B4 (d:=[]) (by simp[mm,hl,hr])]
 have e2:((M.map fun r=>r.getD a.length 0).map fun x:Int=>[x]).getD r []=[(M.getD r []).getD a.length 0]:=by
  rw[B4 (d:=0) (by simp[hl,hr]),B4 (d:=[]) (by omega)]
 rw[e1,e2,EF,B4 (d:=0) (by rw[(hsh.row r hr).len];omega)]
def pm:Nat→Nat→Nat→Nat→Nat
 |0,_,_,acc=>acc
 |f+1,b,e,acc=>pm f (b*b % 1000003) (e / 2) (if e % 2=1 then acc*b % 1000003 else acc)
theorem S5:∀(f b e acc:Nat),e<2 ^ f→pm f b e acc % 1000003=acc*b ^ e % 1000003
 |0,b,e,acc,h=>by
  have:e=0:=by simp at h;exact h
  subst this;simp[pm]
 |f+1,b,e,acc,h=>by
  unfold pm
  rw[S5 f _ _ _ (by rw[Nat.pow_succ]at h;omega)]
  have e1:(b*b % 1000003) ^ (e / 2) % 1000003=(b*b) ^ (e / 2) % 1000003:=(Nat.pow_mod ..).symm
  have e2:(b*b) ^ (e / 2)=b ^ (2*(e / 2)):=by rw[Nat.pow_mul];congr 1;rw[Nat.pow_succ,Nat.pow_one]
  split
  ·rename_i ho
   rw[Nat.mul_mod,e1,← Nat.mul_mod,Nat.mul_mod (acc*b % 1000003),Nat.mod_mod,← Nat.mul_mod,e2,Nat.mul_assoc,← Nat.pow_succ']
   congr 3;omega
  ·rw[Nat.mul_mod,e1,← Nat.mul_mod,e2]
   congr 3;omega
theorem Tr:∀a,a<1001→a=0∨pm 20 a 1000002 1=1:=by decide +kernel
theorem Oz {a e:Nat}(he:e=1000002)(h:0<a)(h':a<1001):a ^ e % 1000003=1:=by
 have h1:=(Tr a h').resolve_left (by omega)
 have h2:∀e,e<2 ^ 20→pm 20 a e 1=1→a ^ e % 1000003=1:=fun e he h=>by
  have h3:=S5 20 a e 1 he
  rw[Nat.one_mul,h]at h3
  exact h3.symm
 exact h2 e (by subst he;decide) (by subst he;exact h1)
theorem OA {x y:Int}(n:Nat)(h:md x=md y):md (x ^ n)=md (y ^ n):=by rw[← Mb,h,Mb]
theorem OB (k:Nat):(-1:Int) ^ (2*k)=1:=by
 rw[Int.pow_mul]
 have:(-1:Int) ^ 2=1:=by decide
 rw[this,Int.one_pow]
theorem QI:∀(n a:Nat),a≤n→0<a→a<1000003→md ((a:Int) ^ 1000002)=1
 |0,a,h,h0,_=>by omega
 |n+1,a,h,h0,h1=>by
  by_cases hs:a<1001
  ·have:=Oz (e:=1000002) rfl h0 hs
   unfold md
   rw[← Int.natCast_pow]
   have e:((a ^ 1000002:Nat):Int) % 1000003=((a ^ 1000002 % 1000003:Nat):Int):=by omega
   rw[e,this];rfl
  ·have hq:1000003 / a<a:=by rw[Nat.div_lt_iff_lt_mul (by omega)];have:=Nat.mul_le_mul (show 1001≤a by omega) (show 1001≤a by omega);omega
   have hq0:0<1000003 / a:=Nat.div_pos (by omega) h0
   have hr:1000003 % a<a:=Nat.mod_lt _ h0
   have hr0:0<1000003 % a:=by
    rcases Nat.eq_zero_or_pos (1000003 % a)with hz|hz
    ·have:=UD (Nat.dvd_of_mod_eq_zero hz) (by omega);omega
    ·exact hz
   have f1:=QI n (1000003 / a) (by omega) hq0 (by omega)
   have f2:=QI n (1000003 % a) (by omega) hr0 (by omega)
   have hdm:=Nat.div_add_mod 1000003 a
   have key:md (((1000003 / a:Nat):Int)*(a:Int))=md (-1*((1000003 % a:Nat):Int)):=by
    have e:((1000003 / a:Nat):Int)*(a:Int)=1000003+(-1*((1000003 % a:Nat):Int)):=by
     have:((a*(1000003 / a)+1000003 % a:Nat):Int)=1000003:=by rw[hdm];rfl
     rw[Int.natCast_add,Int.natCast_mul,Int.mul_comm]at this
     omega
    rw[e,Int.add_comm];exact Uq _
   have k2:=OA 1000002 key
   rw[Int.mul_pow,Int.mul_pow,← Df,← Df (_ ^ _) (((1000003 % a:Nat):Int) ^ 1000002),f1,f2,show(1000002:Nat)=2*500001 from rfl,OB]at k2
   rw[show(2*500001:Nat)=1000002 from rfl,Int.one_mul,EZ]at k2
   rw[k2];decide
theorem S6 {a:Int}(h:0<a)(h':a<1000003):md (a*inv a)=1:=by
 obtain⟨x,rfl⟩:=Int.eq_ofNat_of_zero_le (show 0≤a by omega)
 unfold inv pw
 rw[if_neg (by omega),EQ]
 have:(((1000001:Nat):Int)).toNat=1000001:=rfl
 rw[this,← Int.pow_succ']
 exact QI x x (A9 _) (by omega) (by omega)
def cv (f g:Nat→Int):Nat→Int
 |0=>f 0*g 0
 |k+1=>f 0*g (k+1)+cv (fun i=>f (i+1)) g k
theorem PK {f f' g g':Nat→Int}:∀ {k:Nat},(∀i,i≤k→f i=f' i)→(∀i,i≤k→g i=g' i)→cv f g k=cv f' g' k
 |0,hf,hg=>by unfold cv;rw[hf 0 (A9 _),hg 0 (A9 _)]
 |k+1,hf,hg=>by
  unfold cv
  rw[hf 0 (by omega),hg (k+1) (by omega),PK (k:=k) (fun i hi=>hf (i+1) (by omega)) (fun i hi=>hg i (by omega))]
theorem JQ (f f' g:Nat→Int):∀k,cv (fun i=>f i+f' i) g k=cv f g k+cv f' g k
 |0=>by unfold cv;rw[Int.add_mul]
 |k+1=>by
  unfold cv
  rw[JQ (fun i=>f (i+1)) (fun i=>f' (i+1)) g k,Int.add_mul]
  omega
theorem JS (c:Int)(f g:Nat→Int):∀k,cv (fun i=>c*f i) g k=c*cv f g k
 |0=>by unfold cv;rw[Int.mul_assoc]
 |k+1=>by
  unfold cv
  rw[JS c (fun i=>f (i+1)) g k,Int.mul_add,Int.mul_assoc]
theorem JT (f g g':Nat→Int):∀k,cv f (fun i=>g i+g' i) k=cv f g k+cv f g' k
 |0=>by unfold cv;rw[Int.mul_add]
 |k+1=>by
  unfold cv
  rw[JT (fun i=>f (i+1)) g g' k,Int.mul_add]
  omega
theorem PL (c:Int)(f g:Nat→Int):∀k,cv f (fun i=>c*g i) k=c*cv f g k
 |0=>by unfold cv;rw[← Int.mul_assoc,Int.mul_comm (f 0) c,Int.mul_assoc]
 |k+1=>by
  unfold cv
  rw[PL c (fun i=>f (i+1)) g k,Int.mul_add,← Int.mul_assoc,Int.mul_comm (f 0) c,Int.mul_assoc]
theorem S7 (f g:Nat→Int):∀k,cv f g (k+1)=f (k+1)*g 0+cv f (fun i=>g (i+1)) k
 |0=>by
  show f 0*g 1+f 1*g 0=f 1*g 0+f 0*g 1
  omega
 |k+1=>by
  show f 0*g (k+2)+cv (fun i=>f (i+1)) g (k+1)=f (k+2)*g 0+(f 0*g (k+2)+cv (fun i=>f (i+1)) (fun i=>g (i+1)) k)
  rw[S7 (fun i=>f (i+1)) g k]
  show f 0*g (k+2)+(f (k+2)*g 0+_)=_
  omega
theorem Cv:∀(f g:Nat→Int)(k:Nat),cv f g k=cv g f k
 |f,g,0=>by unfold cv;rw[Int.mul_comm]
 |f,g,k+1=>by
  rw[S7 g f k]
  show f 0*g (k+1)+cv (fun i=>f (i+1)) g k=_
  rw[Cv (fun i=>f (i+1)) g k,Int.mul_comm]
theorem Ff:∀(f g h:Nat→Int)(k:Nat),cv (cv f g) h k=cv f (cv g h) k
 |f,g,h,0=>by unfold cv;unfold cv;rw[Int.mul_assoc]
 |f,g,h,k+1=>by
  show cv f g 0*h (k+1)+cv (fun i=>cv f g (i+1)) h k=f 0*cv g h (k+1)+cv (fun i=>f (i+1)) (cv g h) k
  have e:(fun i=>cv f g (i+1))=fun i=>f 0*g (i+1)+cv (fun i=>f (i+1)) g i:=rfl
  rw[e,JQ,JS,Ff (fun i=>f (i+1)) g h k]
  show f 0*g 0*h (k+1)+_=f 0*(g 0*h (k+1)+cv (fun i=>g (i+1)) h k)+_
  rw[Int.mul_add,Int.mul_assoc]
  omega
def sm (n:Nat)(f:Nat→Int):Int:=match n with
 |0=>0
 |n+1=>sm n f+f n
theorem C8 {f g:Nat→Int}:∀ {n:Nat},(∀i,i<n→f i=g i)→sm n f=sm n g
 |0,_=>rfl
 |n+1,h=>by unfold sm;rw[C8 (n:=n) fun i hi=>h i (by omega),h n (by omega)]
theorem QJ (f g:Nat→Int):∀n,sm n (fun i=>f i+g i)=sm n f+sm n g
 |0=>rfl
 |n+1=>by unfold sm;rw[QJ f g n];omega
theorem UO (c:Int)(f:Nat→Int):∀n,sm n (fun i=>c*f i)=c*sm n f
 |0=>by unfold sm;rw[Int.mul_zero]
 |n+1=>by unfold sm;rw[UO c f n,Int.mul_add]
theorem OC (f:Nat→Int):∀n,sm (n+1) f=f 0+sm n (fun i=>f (i+1))
 |0=>by unfold sm;unfold sm;omega
 |n+1=>by
  show sm (n+1) f+f (n+1)=f 0+(sm n (fun i=>f (i+1))+f (n+1))
  rw[OC f n];omega
theorem L7:∀(f g:Nat→Int)(k:Nat),cv f g k=sm (k+1) fun i=>f i*g (k-i)
 |f,g,0=>by unfold cv sm;unfold sm;simp
 |f,g,k+1=>by
  rw[OC]
  unfold cv
  rw[L7 (fun i=>f (i+1)) g k]
  congr 1
  exact C8 fun i hi=>by rw[show k+1-(i+1)=k-i from by omega]
theorem Mh {f g:Nat→Int}:∀ {n:Nat},(∀i,i<n→md (f i)=md (g i))→md (sm n f)=md (sm n g)
 |0,_=>rfl
 |n+1,h=>by
  unfold sm
  rw[← E5,Mh (n:=n) fun i hi=>h i (by omega),h n (by omega),E5]
theorem ft {f f' g g':Nat→Int}{k:Nat}(hf:∀i,i≤k→md (f i)=md (f' i))(hg:∀i,i≤k→md (g i)=md (g' i)):md (cv f g k)=md (cv f' g' k):=by
 rw[L7,L7]
 exact Mh fun i hi=>by rw[← Df,hf i (by omega),hg (k-i) (by omega),Df]
theorem UP (a b:List Int)(k:Nat):∀i,Nw a b k i=md (sm i fun j=>a.getD j 0*b.getD (k-j) 0)
 |0=>by unfold Nw sm;rfl
 |i+1=>by unfold Nw sm;rw[UP a b k i,Oq]
theorem Yn {a b:List Int}{k:Nat}(hk:k<a.length):(C5 a b).getD k 0=md (cv (fun i=>a.getD i 0) (fun i=>b.getD i 0) k):=by
 unfold C5
 rw[Bj _ hk,UP,L7]
section
section
variable {α:Type} {R:Ar α} {n c p:Nat} {M:List (List α)}
theorem PM {Z:Option (List (List α))}(h:Np R n (n-c) c M=Z)(hc:c<n)(hp:Ha R n c M≠n):Np R n (n-(c+1)) (c+1) (GQ R n c (Ha R n c M) M)=Z:=by
 rw[← h,show n-c=(n-(c+1))+1 from by omega]
 conv=>rhs;unfold Np
 rw[if_neg hp]
theorem PN {Z:Option (List (List α))}(h:Np R n (n-c) c M=Z)(hc:c<n)(hp:Ha R n c M=n):Z=none:=by
 rw[← h,show n-c=(n-(c+1))+1 from by omega]
 unfold Np
 rw[if_pos hp]
theorem S8 {Z:Option (List (List α))}(h:Np R n (n-c) c M=Z)(hc:n≤c):Z=some M:=by
 rw[← h,show n-c=0 from by omega];rfl
theorem Yo {Z:Option (List (List α))}(h:Np R n (n-c) c M=Z)(hc:c<n)(hz:Z≠none):Ha R n c M≠n:=fun hp=>hz (PN h hc hp)
theorem cT (R:Ar α)(n c:Nat)(M:List (List α))(hc:c<n):c≤Ha R n c M∧Ha R n c M≤n:=by
 have:=Or (fun r=>R.z ((M.getD r []).getD c R.d)) (n-c) c
 unfold Ha
 omega
theorem Mi {D:List (List α)}(hl:D.length=n){i:Nat}(hi:i<n)(hic:i≠c):(Cu i (Cc R n c D) D).set i (Gh R c (D.getD i []) (D.getD c []))=Cu (i+1) (Cc R n c D) D:=by
 unfold Cc
 rw[DC hl hi,if_neg hic]
theorem Jd {D:List (List α)}(hl:D.length=n){i:Nat}(hi:i<n)(hic:i=c):Cu (i+1) (Cc R n c D) D=Cu i (Cc R n c D) D:=by
 unfold Cc
 rw[DC hl hi,if_pos hic]
 subst hic
 have h1:(Cu i (Fj n fun r=>if r=i then D.getD i []else Gh R i (D.getD r []) (D.getD i [])) D).length=n:=by rw[Dm _ _ _ (by simp[hl])];exact hl
 have h2:(Cu i (Fj n fun r=>if r=i then D.getD i []else Gh R i (D.getD r []) (D.getD i [])) D).getD i []=D.getD i []:=D4 [] (by simp[hl]) (A9 _) (by omega)
 have h3:=ER (Cu i (Fj n fun r=>if r=i then D.getD i []else Gh R i (D.getD r []) (D.getD i [])) D) (r:=i) [] (by omega)
 rw[h2]at h3
 exact h3
theorem PO {D:List (List α)}(hl:D.length=n){i:Nat}(hi:i≤n)(hc:c<n):(Cu i (Cc R n c D) D).getD c []=D.getD c []:=by
 by_cases h:i≤c
 ·exact D4 [] (by simp[Cc,hl]) h (by omega)
 ·rw[QE [] (by omega) (by simp[Cc];omega),KA hc,if_pos rfl]
theorem Mj {D:List (List α)}(hl:D.length=n){i r:Nat}(hi:i≤r)(hr:r<n):(Cu i (Cc R n c D) D).getD r []=D.getD r []:=D4 [] (by simp[Cc,hl]) hi (by omega)
theorem Ts {D:List (List α)}(hl:D.length=n)(i:Nat):(Cu i (Cc R n c D) D).length=n:=by rw[Dm _ _ _ (by simp[Cc,hl])];exact hl
theorem O3 {V:α→Prop}{m:Nat}{D:List (List α)}(hA:UF R V)(h:Sh V R.d n m D)(hc:c<n)(hcm:c<m){i r:Nat}(hi:i≤n)(hr:r<n):Gi V R.d m ((Cu i (Cc R n c D) D).getD r []):=by
 by_cases hx:r<i
 ·rw[QE [] hx (by simp[Cc];omega)];exact(h.rows hA hc hcm).row r hr
 ·rw[Mj h.len (by omega) hr];exact h.row r hr
end
theorem UQ (a:List (List Int))(b:List Int){i:Nat}(hi:i<a.length):(Cu i (DU a b) a).set i ((Cu i (DU a b) a).getD i []++[b.getD i 0])=Cu (i+1) (DU a b) a:=by
 unfold DU
 rw[D4 [] (by simp) (A9 _) hi,DC rfl hi]
theorem OD (a:List (List Int))(b:List Int){i:Nat}(hi:i<a.length):(Cu i (DU a b) a).getD i []=a.getD i []:=D4 [] (by simp[DU]) (A9 _) hi
theorem UR (a:List (List Int))(b:List Int)(i:Nat):(Cu i (DU a b) a).length=a.length:=Dm _ _ _ (by simp[DU])
theorem OE {a:List (List Int)}{b:List Int}{M:List (List Int)}(h:IF a b=some M):IG a b=M.map fun r=>r.getD a.length 0:=by
 unfold IG Mg;rw[h];rfl
theorem PP {n c i:Nat}{D:List (List Int)}(hl:D.length=n)(hi:i<n)(hc:c<n)(hic:i≠c) :
  (Cu i (Cc nA n c D) D).set i (NZ ((Cu i (Cc nA n c D) D).getD i []) ((Cu i (Cc nA n c D) D).getD c []) (((Cu i (Cc nA n c D) D).getD i []).getD c 0))=Cu (i+1) (Cc nA n c D) D:=by
 rw[PO hl (by omega) hc,Mj hl (A9 _) hi]
 exact Mi (R:=nA) hl hi hic
theorem lA {c p:Nat}{M:List (List Int)}(hc:c<M.length)(hp:p<M.length):(Bl M c p []).set c (scl (M.getD p []) (inv ((M.getD p []).getD c 0)))=FV nA c p M:=by
 unfold FV
 rw[LA hc hp];rfl
theorem Mk {a:List (List Int)}{b:List Int}(hS:Sq a.length a)(hb:B8 b=true)(h:IF a b≠none):(IG a b).length=a.length:=by
 obtain⟨M,hM⟩:=Option.ne_none_iff_exists'.1 h
 rw[OE hM,List.length_map]
 exact(Sh.jor Ou a.length 0 _ (by omega) (by omega) (Gw hS hb) hM).len
theorem PQ {a:List (List Int)}{b:List Int}(hS:Sq a.length a)(hb:B8 b=true)(h:IF a b≠none):B8 (IG a b)=true:=by
 obtain⟨M,hM⟩:=Option.ne_none_iff_exists'.1 h
 have hs:=Sh.jor Ou a.length 0 _ (by omega) (by omega) (Gw hS hb) hM
 rw[OE hM]
 unfold B8
 rw[List.all_eq_true]
 intro x hx
 obtain⟨r,hr,rfl⟩:=List.mem_map.1 hx
 obtain⟨k,hk,rfl⟩:=List.getElem_of_mem hr
 have:=(hs.row k (by rw[← hs.len];exact hk)).val a.length (by omega)
 rw[show M.getD k []=M[k]from by simp[hk]]at this
 exact Cn.2 this
end
section
theorem Ml (a:List (List (List Int)))(b:List (List Int)){i:Nat}(hi:i<a.length):(GV a b).getD i []=a.getD i []++[b.getD i []]:=Bj _ hi
theorem Tt {a:List (List (List Int))}{b:List (List Int)}(h:D5 a b=none):FF a b=[]:=by
 unfold FF;rw[h];rfl
theorem Sa {a:List (List (List Int))}{b:List (List Int)}{M:List (List (List Int))}(h:D5 a b=some M):FF a b=M.map fun r=>r.getD a.length []:=by
 unfold FF;rw[h];rfl
theorem Gi.set {α:Type}{V:α→Prop}{d:α}{m k:Nat}{row:List α}{x:α}(h:Gi V d m row)(hx:V x):Gi V d m (row.set k x):=by
 refine⟨by rw[List.length_set];exact h.len,fun j hj=>?_⟩
 by_cases hk:k<row.length
 ·rw[BA _ _ _ _ _ hk]
  split
  ·exact hx
  ·exact h.val j hj
 ·rw[List.set_eq_of_length_le (Nat.not_lt.1 hk)];exact h.val j hj
theorem Sh.put {α:Type}{V:α→Prop}{d:α}{n m r k:Nat}{M:List (List α)}{x:α}(h:Sh V d n m M)(hr:r<n)(hx:V x):Sh V d n m (M.set r ((M.getD r []).set k x)):=h.set hr ((h.row r hr).set hx)
section
variable {N n c k r:Nat} {X:List (List (List Int))}
def KD (c k:Nat)(X:List (List (List Int))):List (List (List Int)):=X.set c (Cu k (Ee sA c (X.getD c [])) (X.getD c []))
theorem Tu (hc:c<X.length):KD c 0 X=X:=by
 unfold KD;rw[Ch,ER _ _ hc]
theorem cU (h:Sh (Bt N) [] n (n+1) X)(hc:c<n)(hk:k<n+1):((KD c k X).getD c []).getD k []=(X.getD c []).getD k []:=by
 have hl:=h.len
 have hr:=(h.row c hc).len
 unfold KD
 rw[BA _ _ _ _ _ (by omega),if_pos rfl,D4 [] (by simp) (A9 _) (by omega)]
theorem Tv (h:Sh (Bt N) [] n (n+1) X)(hc:c<n)(hk:k<n+1) :
  (KD c k X).set c (((KD c k X).getD c []).set k (BT (((KD c k X).getD c []).getD k []) ((X.getD c []).getD c [])))=KD c (k+1) X:=by
 have hl:=h.len
 have hr:=(h.row c hc).len
 rw[cU h hc hk]
 unfold KD
 rw[BA _ _ _ _ _ (by omega),if_pos rfl,List.set_set]
 congr 1
 have e:=FW (R:=sA) (c:=c) (row:=X.getD c []) (k:=k) (by omega)
 have e':BT ((X.getD c []).getD k []) ((X.getD c []).getD c [])=(Ee sA c (X.getD c [])).getD k []:=e.symm
 rw[e',Ip [] (by simp) (by omega)]
theorem Tw {M:List (List (List Int))}{p:Nat}(h:Sh (Bt N) [] n (n+1) (Bl M c p []))(hc:c<n)(hk:n+1≤k):KD c k (Bl M c p [])=FV sA c p M:=by
 unfold KD FV
 have:=(h.row c hc).len
 rw[CP (by simp) (by omega)]
def II (c r k:Nat)(X:List (List (List Int))):List (List (List Int)):=X.set r (Cu k (Gh sA c (X.getD r []) (X.getD c [])) (X.getD r []))
theorem Tx (hr:r<X.length):II c r 0 X=X:=by
 unfold II;rw[Ch,ER _ _ hr]
theorem cV (hl:X.length=n)(hX:(X.getD r []).length=n+1)(hr:r<n)(hk:k<n+1):((II c r k X).getD r []).getD k []=(X.getD r []).getD k []:=by
 unfold II
 rw[BA _ _ _ _ _ (by omega),if_pos rfl,D4 [] (by simp) (A9 _) (by omega)]
theorem cW (hl:X.length=n)(hr:r<n)(hne:r≠c):(II c r k X).getD c []=X.getD c []:=by
 unfold II
 rw[BA _ _ _ _ _ (by omega),if_neg (Ne.symm hne)]
theorem Ty (hl:X.length=n)(hX:(X.getD r []).length=n+1)(hr:r<n)(hk:k<n+1)(hne:r≠c) :
  (II c r k X).set r (((II c r k X).getD r []).set k (Dt (((II c r k X).getD r []).getD k []) (C5 ((X.getD r []).getD c []) (((II c r k X).getD c []).getD k []))))=II c r (k+1) X:=by
 rw[cV hl hX hr hk,cW hl hr hne]
 unfold II
 rw[BA _ _ _ _ _ (by omega),if_pos rfl,List.set_set]
 congr 1
 have e:=FX (R:=sA) (c:=c) (row:=X.getD r []) (other:=X.getD c []) (k:=k) (by omega)
 have e':Dt ((X.getD r []).getD k []) (C5 ((X.getD r []).getD c []) ((X.getD c []).getD k []))=(Gh sA c (X.getD r []) (X.getD c [])).getD k []:=e.symm
 rw[e',Ip [] (by simp) (by omega)]
theorem Tz {D:List (List (List Int))}(hl:D.length=n)(hD:(D.getD r []).length=n+1)(hr:r<n)(hc:c<n)(hne:r≠c)(hk:n+1≤k):II c r k (Cu r (Cc sA n c D) D)=Cu (r+1) (Cc sA n c D) D:=by
 unfold II
 rw[PO hl (by omega) hc,Mj hl (A9 _) hr]
 have e:=CP (k:=k) (t:=Gh sA c (D.getD r []) (D.getD c [])) (z:=D.getD r []) (by simp) (by omega)
 rw[e,Mi (R:=sA) hl hr hne]
end
end
theorem KE {α β:Type}(h:α→β)(M:List (List α)):(mm h M).length=M.length:=by simp[mm]
theorem HZ (b:List Int):(C7 b).length=b.length:=by simp[C7]
theorem cX {α β:Type}(h:α→β)(M:List (List α))(r:Nat):((mm h M).getD r []).length=(M.getD r []).length:=by rw[EF,List.length_map]
theorem US {n m:Nat}{M:List (List Int)}(h:Sh Nm 0 n m M):Sh (Bt 1) [] n m (mm (fun x=>[x]) M):=by
 refine⟨by rw[KE];exact h.len,fun r hr=>⟨by rw[cX];exact(h.row r hr).len,fun k hk=>?_⟩⟩
 rw[EF,B4 (d:=0) (by rw[(h.row r hr).len];exact hk)]
 refine⟨rfl,?_⟩
 have:=(h.row r hr).val k hk
 show([_]:List Int).all Jb=true
 simp only[List.all_cons,List.all_nil,Bool.and_true]
 exact Cn.2 this
theorem PR (b:List Int){k:Nat}(hk:k<b.length):(C7 b).getD k []=[b.getD k 0]:=by
 unfold C7;rw[B4 (d:=0) hk]
section
def EN (N:Nat)(f g:Nat→Int):Prop:=∀k,k<N→md (f k)=md (g k)
theorem EN.rfl' {N:Nat}(f:Nat→Int):EN N f f:=fun _ _=>rfl
theorem EN.symm {N:Nat}{f g:Nat→Int}(h:EN N f g):EN N g f:=fun k hk=>(h k hk).symm
theorem EN.trans {N:Nat}{f g h:Nat→Int}(h1:EN N f g)(h2:EN N g h):EN N f h:=fun k hk=>(h1 k hk).trans (h2 k hk)
theorem EN.cv {N:Nat}{f f' g g':Nat→Int}(hf:EN N f f')(hg:EN N g g'):EN N (cv f g) (Go.Proofs.YtnokbaiemimhjaaGreat.cv f' g'):=fun k hk=>ft (fun i hi=>hf i (by omega)) (fun i hi=>hg i (by omega))
theorem EN.sub {N:Nat}{f f' g g':Nat→Int}(hf:EN N f f')(hg:EN N g g'):EN N (fun k=>f k-g k) (fun k=>f' k-g' k):=fun k hk=>by rw[← Fl,hf k hk,hg k hk,Fl]
theorem EN.sm {N n:Nat}{F G:Nat→Nat→Int}(h:∀j,j<n→EN N (F j) (G j)):EN N (fun k=>sm n fun j=>F j k) (fun k=>Go.Proofs.YtnokbaiemimhjaaGreat.sm n fun j=>G j k):=fun k hk=>Mh fun j hj=>h j hj k hk
def BM (s:List Int):Nat→Int:=fun i=>s.getD i 0
def PS:Nat→Int:=fun i=>if i=0 then 1 else 0
def Hj:Nat→Int:=fun _=>0
theorem DD (g:Nat→Int):∀k,cv Hj g k=0
 |0=>by unfold cv Hj;rw[Int.zero_mul]
 |k+1=>by
  unfold cv
  show 0*g (k+1)+cv Hj g k=0
  rw[DD g k,Int.zero_mul];rfl
theorem OF (g:Nat→Int):∀k,cv PS g k=g k
 |0=>by unfold cv PS;simp
 |k+1=>by
  unfold cv
  show PS 0*g (k+1)+cv Hj g k=g (k+1)
  rw[DD];simp[PS]
theorem QK (F:Nat→Nat→Int)(g:Nat→Int)(k:Nat):∀n,cv (fun i=>sm n fun j=>F j i) g k=sm n fun j=>cv (F j) g k
 |0=>DD g k
 |n+1=>by
  show cv (fun i=>(sm n fun j=>F j i)+F n i) g k=(sm n fun j=>cv (F j) g k)+cv (F n) g k
  rw[JQ,QK F g k n]
theorem cY (f:Nat→Int)(F:Nat→Nat→Int)(k n:Nat):cv f (fun i=>sm n fun j=>F j i) k=sm n fun j=>cv f (F j) k:=by
 rw[Cv,QK]
 exact C8 fun j _=>Cv _ _ _
theorem OG (f f' g:Nat→Int)(k:Nat):cv (fun i=>f i-f' i) g k=cv f g k-cv f' g k:=by
 have e:(fun i=>f i-f' i)=fun i=>f i+(-1)*f' i:=funext fun i=>by omega
 rw[e,JQ,JS];omega
theorem cZ (f g:Nat→Int)(n:Nat):sm n (fun i=>f i-g i)=sm n f-sm n g:=by
 have e:(fun i=>f i-g i)=fun i=>f i+(-1)*g i:=funext fun i=>by omega
 rw[e,QJ,UO];omega
section ops
variable {N:Nat} {a b:List Int}
theorem QL (ha:Bt N a):EN N (BM (C5 a b)) (cv (BM a) (BM b)):=fun k hk=>by
 show md ((C5 a b).getD k 0)=_
 rw[Yn (by rw[ha.1];exact hk),EZ];rfl
theorem UT (ha:Bt N a):EN N (BM (Dt a b)) (fun k=>BM a k-BM b k):=fun k hk=>by
 show md ((Dt a b).getD k 0)=_
 unfold Dt
 rw[Bj _ (by rw[ha.1];exact hk),EZ];rfl
theorem UU (a b o:List Int)(k:Nat):∀i,md (Ox a b o k i)=md (a.getD k 0-sm i fun j=>o.getD j 0*b.getD (k-j) 0)
 |0=>by unfold Ox sm;rw[Int.sub_zero]
 |i+1=>by
  unfold Ox sm
  rw[EZ,← RJ,UU a b o k i,RJ]
  congr 1;omega
theorem UV (ha:Bt N a)(hb:Bt N b)(hz:b.getD 0 0≠0):EN N (cv (BM (BT a b)) (BM b)) (BM a):=fun k hk=>by
 have hb0:=Be hb.2 0
 have hi:=S6 (a:=b.getD 0 0) (by omega) (by omega)
 rw[L7]
 show md (sm k _+BM (BT a b) k*BM b (k-k))=md (a.getD k 0)
 rw[Nat.sub_self]
 show md ((sm k fun i=>(BT a b).getD i 0*b.getD (k-i) 0)+(BT a b).getD k 0*b.getD 0 0)=_
 rw[JO (by rw[ha.1];exact hk),← Gm,EP]
 generalize hS:(sm k fun i=>(BT a b).getD i 0*b.getD (k-i) 0)=S
 have h1:=UU a b (BT a b) k k
 rw[hS]at h1
 rw[Int.mul_assoc,← Df,h1,Int.mul_comm (inv _),hi,Int.mul_one,EZ,Gm]
 congr 1;omega
theorem Hk {s t d:Nat→Int}(hd:∃e:Int,md (d 0*e)=1)(h:EN N (cv s d) (cv t d)):EN N s t:=by
 obtain⟨e,he⟩:=hd
 have key:∀m k,k≤m→k<N→md (s k)=md (t k):=by
  intro m
  induction m with
  |zero =>
   intro k hk hN
   have e0:k=0:=by omega
   subst e0
   have h0:=h 0 hN
   have h1:md (s 0*d 0)=md (t 0*d 0):=h0
   have h2:md (s 0*d 0*e)=md (t 0*d 0*e):=by rw[← EP,h1,EP]
   rw[Int.mul_assoc,Int.mul_assoc,← EQ,he,← EQ (t 0),he,Int.mul_one,Int.mul_one]at h2
   exact h2
  |succ m ih =>
   intro k hk hN
   by_cases hkm:k≤m
   ·exact ih k hkm hN
   ·have h0:=h k hN
    rw[L7,L7]at h0
    have h1:md ((sm k fun i=>s i*d (k-i))+s k*d (k-k))=md ((sm k fun i=>t i*d (k-i))+t k*d (k-k)):=h0
    have h2:md (sm k fun i=>s i*d (k-i))=md (sm k fun i=>t i*d (k-i)):=Mh fun i hi=>by rw[← EP,ih i (by omega) (by omega),EP]
    rw[Nat.sub_self]at h1
    have h3:md (s k*d 0)=md (t k*d 0):=by
     have e1:s k*d 0=((sm k fun i=>s i*d (k-i))+s k*d 0)-(sm k fun i=>s i*d (k-i)):=by omega
     have e2:t k*d 0=((sm k fun i=>t i*d (k-i))+t k*d 0)-(sm k fun i=>t i*d (k-i)):=by omega
     rw[e1,e2,← Fl,h1,h2,Fl]
    have h4:md (s k*d 0*e)=md (t k*d 0*e):=by rw[← EP,h3,EP]
    rw[Int.mul_assoc,Int.mul_assoc,← EQ,he,← EQ (t k),he,Int.mul_one,Int.mul_one]at h4
    exact h4
 exact fun k hk=>key k k (A9 _) hk
theorem OH (hb:Bt N b)(hz:b.getD 0 0≠0):∃e:Int,md (BM b 0*e)=1:=by
 have hb0:=Be hb.2 0
 exact⟨inv (b.getD 0 0),S6 (a:=b.getD 0 0) (by omega) (by omega)⟩
end ops
section sys
variable {N n c p:Nat} {v:Nat→Nat→Int}
def Dg (n:Nat)(v:Nat→Nat→Int)(row:List (List Int)):Nat→Int:=fun k=>sm n fun j=>cv (BM (row.getD j [])) (v j) k
def I0 (N n:Nat)(v:Nat→Nat→Int)(row:List (List Int)):Prop:=EN N (Dg n v row) (BM (row.getD n []))
def TA (N n:Nat)(v:Nat→Nat→Int)(M:List (List (List Int))):Prop:=∀r,r<n→I0 N n v (M.getD r [])
theorem fu {row:List (List Int)}(h:Gi (Bt N) [] (n+1) row)(hc:c<n)(hz:(row.getD c []).getD 0 0≠0):I0 N n v row↔I0 N n v (Ee sA c row):=by
 have hd:=h.val c (by omega)
 have hg:∀j,j<n+1→(Ee sA c row).getD j []=BT (row.getD j []) (row.getD c []):=fun j hj=>FW (R:=sA) (by rw[h.len];exact hj)
 have hq:∀j,j<n+1→EN N (cv (BM ((Ee sA c row).getD j [])) (BM (row.getD c []))) (BM (row.getD j [])):=fun j hj=>by
  rw[hg j hj];exact UV (h.val j hj) hd hz
 have key:EN N (cv (Dg n v (Ee sA c row)) (BM (row.getD c []))) (Dg n v row):=by
  have e:cv (Dg n v (Ee sA c row)) (BM (row.getD c []))=fun k=>sm n fun j=>cv (cv (BM ((Ee sA c row).getD j [])) (BM (row.getD c []))) (v j) k:=by
   funext k
   unfold Dg
   rw[QK]
   refine C8 fun j _=>?_
   rw[Ff,Ff]
   exact PK (fun _ _=>rfl) fun i _=>Cv _ _ i
  rw[e]
  exact EN.sm fun j hj=>(hq j (by omega)).cv (EN.rfl' _)
 have hn:=hq n (by omega)
 constructor
 ·intro hs
  exact Hk (OH hd hz) (key.trans (EN.trans hs hn.symm))
 ·intro hs
  exact key.symm.trans (EN.trans (EN.cv hs (EN.rfl' _)) hn)
theorem Sb {row other:List (List Int)}(h:Gi (Bt N) [] (n+1) row)(ho:Gi (Bt N) [] (n+1) other)(hc:c<n)(hs:I0 N n v other):I0 N n v row↔I0 N n v (Gh sA c row other):=by
 have hf:=h.val c (by omega)
 have hg:∀j,j<n+1→(Gh sA c row other).getD j []=Dt (row.getD j []) (C5 (row.getD c []) (other.getD j [])):=fun j hj=>FX (R:=sA) (by rw[h.len];exact hj)
 have ht:∀j,j<n+1→EN N (BM ((Gh sA c row other).getD j [])) (fun k=>BM (row.getD j []) k-cv (BM (row.getD c [])) (BM (other.getD j [])) k):=fun j hj=>by
  rw[hg j hj]
  exact(UT (h.val j hj)).trans (EN.sub (EN.rfl' _) (QL hf))
 have key:EN N (Dg n v (Gh sA c row other)) (fun k=>Dg n v row k-cv (BM (row.getD c [])) (Dg n v other) k):=by
  have e:(fun k=>Dg n v row k-cv (BM (row.getD c [])) (Dg n v other) k)=fun k=>sm n fun j=>cv (fun i=>BM (row.getD j []) i-cv (BM (row.getD c [])) (BM (other.getD j [])) i) (v j) k:=by
   funext k
   unfold Dg
   rw[cY,← cZ]
   refine C8 fun j _=>?_
   rw[OG,Ff]
  rw[e]
  exact EN.sm fun j hj=>(ht j (by omega)).cv (EN.rfl' _)
 have hn:=ht n (by omega)
 have hco:EN N (cv (BM (row.getD c [])) (Dg n v other)) (cv (BM (row.getD c [])) (BM (other.getD n []))):=EN.cv (EN.rfl' _) hs
 constructor
 ·intro hr
  exact key.trans (EN.trans (EN.sub hr hco) hn.symm)
 ·intro hr k hk
  have h1:=(key.symm.trans (EN.trans hr hn)) k hk
  have h2:=hco k hk
  dsimp only at h1
  have e1:Dg n v row k=(Dg n v row k-cv (BM (row.getD c [])) (Dg n v other) k)+cv (BM (row.getD c [])) (Dg n v other) k:=by omega
  rw[e1,← E5,h1,h2,E5]
  congr 1;omega
theorem UW {M:List (List (List Int))}(h:Sh (Bt N) [] n (n+1) M)(hc:c<n)(hp:p<n)(hz:((M.getD p []).getD c []).getD 0 0≠0):TA N n v M↔TA N n v (GQ sA n c p M):=by
 have hq:=fu (v:=v) (h.row p hp) hc hz
 have hqv:Gi (Bt N) [] (n+1) (Ee sA c (M.getD p [])):=(h.row p hp).q (QH N) (by omega)
 constructor
 ·intro hs r hr
  rw[E9 h hc hp hr]
  have hc':=hq.1 (hs p hp)
  split
  ·exact hc'
  ·split
   ·exact(Sb (h.row c hc) hqv hc hc').1 (hs c hc)
   ·exact(Sb (h.row r hr) hqv hc hc').1 (hs r hr)
 ·intro hs r hr
  have hc':I0 N n v (Ee sA c (M.getD p [])):=by
   have:=hs c hc
   rwa [E9 h hc hp hc,if_pos rfl]at this
  have hp':=hq.2 hc'
  by_cases hrp:r=p
  ·rw[hrp];exact hp'
  ·by_cases hrc:r=c
   ·have hpc:p≠c:=fun e=>hrp (hrc.trans e.symm)
    have:=hs p hp
    rw[E9 h hc hp hp,if_neg hpc,if_pos rfl]at this
    rw[hrc]
    exact(Sb (h.row c hc) hqv hc hc').2 this
   ·have:=hs r hr
    rw[E9 h hc hp hr,if_neg hrc,if_neg hrp]at this
    exact(Sb (h.row r hr) hqv hc hc').2 this
def GW (r j:Nat):Nat→Int:=if r=j then PS else Hj
def fv (N n c:Nat)(M:List (List (List Int))):Prop:=∀r,r<n→∀j,j<c→EN N (BM ((M.getD r []).getD j [])) (GW r j)
theorem UX {M:List (List (List Int))}(h:Sh (Bt N) [] n (n+1) M)(hI:fv N n c M)(hc:c<n)(hp:p<n)(hcp:c≤p)(hz:((M.getD p []).getD c []).getD 0 0≠0):fv N n (c+1) (GQ sA n c p M):=by
 have hpr:=h.row p hp
 have hd:=hpr.val c (by omega)
 have hu:=OH hd hz
 have hg:∀j,j<n+1→(Ee sA c (M.getD p [])).getD j []=BT ((M.getD p []).getD j []) ((M.getD p []).getD c []):=fun j hj=>FW (R:=sA) (by rw[hpr.len];exact hj)
 have hq:∀j,j<n+1→EN N (cv (BM ((Ee sA c (M.getD p [])).getD j [])) (BM ((M.getD p []).getD c []))) (BM ((M.getD p []).getD j [])):=fun j hj=>by
  rw[hg j hj];exact UV (hpr.val j hj) hd hz
 have hrow:∀j,j<c+1→EN N (BM ((Ee sA c (M.getD p [])).getD j [])) (GW c j):=by
  intro j hj
  by_cases e:c=j
  ·subst e
   unfold GW;rw[if_pos rfl]
   exact Hk hu ((hq c (by omega)).trans fun k _=>by rw[OF])
  ·unfold GW;rw[if_neg e]
   have h0:=hI p hp j (by omega)
   unfold GW at h0;rw[if_neg (by omega)]at h0
   exact Hk hu ((hq j (by omega)).trans (h0.trans fun k _=>by rw[DD];rfl))
 intro r hr j hj
 rw[E9 h hc hp hr]
 by_cases hrc:r=c
 ·rw[if_pos hrc,hrc];exact hrow j hj
 ·rw[if_neg hrc]
  have gen:∀X:List (List Int),Gi (Bt N) [] (n+1) X→(j<c→EN N (BM (X.getD j [])) (GW r j))→EN N (BM ((Gh sA c X (Ee sA c (M.getD p []))).getD j [])) (GW r j):=by
   intro X hX hXj
   have e:=FX (R:=sA) (c:=c) (row:=X) (other:=Ee sA c (M.getD p [])) (k:=j) (by rw[hX.len];omega)
   have e':(Gh sA c X (Ee sA c (M.getD p []))).getD j []=Dt (X.getD j []) (C5 (X.getD c []) ((Ee sA c (M.getD p [])).getD j [])):=e
   rw[e']
   have h1:=(UT (b:=C5 (X.getD c []) ((Ee sA c (M.getD p [])).getD j [])) (hX.val j (by omega))).trans (EN.sub (EN.rfl' _) (QL (b:=(Ee sA c (M.getD p [])).getD j []) (hX.val c (by omega))))
   have h2:=h1.trans (EN.sub (EN.rfl' _) (EN.cv (EN.rfl' _) (hrow j hj)))
   by_cases hjc:j=c
   ·subst hjc
    refine h2.trans fun k hk=>?_
    unfold GW
    rw[if_pos rfl,if_neg hrc]
    have:cv (BM (X.getD j [])) PS k=BM (X.getD j []) k:=by rw[Cv,OF]
    dsimp only
    rw[this,Int.sub_self];rfl
   ·refine(h2.trans fun k hk=>?_).trans (hXj (by omega))
    unfold GW
    rw[if_neg (Ne.symm hjc)]
    have:cv (BM (X.getD c [])) Hj k=0:=by rw[Cv,DD]
    rw[this,Int.sub_zero]
  split
  ·rename_i hrp
   refine gen _ (h.row c hc) fun hjc=>?_
   have h0:=hI c hc j hjc
   unfold GW at h0 ⊢
   rw[if_neg (by omega)]at h0
   rw[if_neg (by omega)];exact h0
  ·exact gen _ (h.row r hr) fun hjc=>hI r hr j hjc
theorem Sc:∀(l c:Nat)(M:List (List (List Int))),c+l=n→Sh (Bt N) [] n (n+1) M→fv N n c M→∀ {M':List (List (List Int))},Np sA n l c M=some M'→(fv N n n M'∧Sh (Bt N) [] n (n+1) M'∧(TA N n v M↔TA N n v M'))
 |0,c,M,hl,h,hI,M',e=>by
  cases e
  have:c=n:=by omega
  subst this
  exact⟨hI,h,Iff.rfl⟩
 |l+1,c,M,hl,h,hI,M',e=>by
  unfold Np at e
  split at e
  ·cases e
  ·rename_i hp
   obtain⟨h1,h2,h3⟩:=KB sA hp (by omega)
   have hz:((M.getD (Ha sA n c M) []).getD c []).getD 0 0≠0:=by simpa [sA]using h3
   obtain⟨q1,q2,q3⟩:=Sc l (c+1) _ (by omega) (h.step (QH N) (by omega) h2 (by omega)) (UX h hI (by omega) h2 h1 hz) e
   exact⟨q1,q2,(UW h (by omega) h2 hz).trans q3⟩
theorem JU (r:Nat)(g:Nat→Int):∀m,(sm m fun j=>if r=j then g j else 0)=if r<m then g r else 0
 |0=>by unfold sm;simp
 |m+1=>by
  unfold sm
  rw[JU r g m]
  by_cases h1:r<m
  ·rw[if_pos h1,if_neg (by omega),if_pos (by omega)];omega
  ·by_cases h2:r=m
   ·subst h2;rw[if_neg h1,if_pos rfl,if_pos (by omega)];omega
   ·rw[if_neg h1,if_neg h2,if_neg (by omega)];rfl
theorem Yp {M:List (List (List Int))}(hI:fv N n n M):TA N n v M↔∀r,r<n→EN N (v r) (BM ((M.getD r []).getD n [])):=by
 have key:∀r,r<n→EN N (Dg n v (M.getD r [])) (v r):=by
  intro r hr
  have h1:EN N (Dg n v (M.getD r [])) (fun k=>sm n fun j=>cv (GW r j) (v j) k):=EN.sm fun j hj=>(hI r hr j hj).cv (EN.rfl' _)
  refine h1.trans fun k hk=>?_
  have e:(sm n fun j=>cv (GW r j) (v j) k)=sm n fun j=>if r=j then v j k else 0:=C8 fun j _=>by
   unfold GW
   split
   ·rw[OF]
   ·rw[DD]
  dsimp only
  rw[e,JU r (fun j=>v j k) n,if_pos hr]
 constructor
 ·exact fun hs r hr=>(key r hr).symm.trans (hs r hr)
 ·exact fun hs r hr=>(key r hr).trans (hs r hr)
theorem Mm {a:List (List (List Int))}{b:List (List Int)}(hA:Sh (Bt N) [] a.length (a.length+1) (GV a b))(hs:D5 a b≠none) :
  TA N a.length v (GV a b)↔∀r,r<a.length→EN N (v r) (BM ((FF a b).getD r [])):=by
 obtain⟨M,hM⟩:=Option.ne_none_iff_exists'.1 hs
 obtain⟨q1,q2,q3⟩:=Sc (v:=v) a.length 0 _ (by omega) hA (fun r hr j hj=>by omega) hM
 rw[q3,Yp q1,show FF a b=Mg a.length [] M from by unfold FF;rw[hM];rfl]
 have hl:=q2.len
 have e:∀r,r<a.length→(Mg a.length [] M).getD r []=(M.getD r []).getD a.length []:=fun r hr=>by
  unfold Mg
  rw[B4 (d:=[]) (by omega)]
 constructor
 ·exact fun h r hr=>by rw[e r hr];exact h r hr
 ·exact fun h r hr=>by have:=h r hr;rwa [e r hr]at this
end sys
theorem PT {a:List (List Int)}{b:List Int}(hS:Sq a.length a)(hl:b.length=a.length)(hb:B8 b=true)(hs:IF a b≠none){r:Nat}(hr:r<a.length) :
  md (sm a.length fun j=>(a.getD r []).getD j 0*(IG a b).getD j 0)=b.getD r 0:=by
 have hA:Sh (Bt 1) [] (mm (fun x:Int=>[x]) a).length ((mm (fun x:Int=>[x]) a).length+1) (GV (mm (fun x=>[x]) a) (C7 b)):=by
  rw[JP hS hl,KE];exact US (Gw hS hb)
 have hj:D5 (mm (fun x=>[x]) a) (C7 b)≠none:=by
  rw[Oy hS hl hb]
  obtain⟨M,hM⟩:=Option.ne_none_iff_exists'.1 hs
  rw[hM];simp
 have h:=(Mm (v:=fun j=>BM ((FF (mm (fun x=>[x]) a) (C7 b)).getD j [])) hA hj).2 (fun r hr=>EN.rfl' _)
 rw[KE]at h
 have h0:=h r hr 0 (by omega)
 rw[S4 hS hl hb hs]at h0
 have hln:=Mk hS hb hs
 unfold Dg at h0
 rw[JP hS hl,EF]at h0
 have hrow:=(Gw hS hb).row r hr
 have hrl:=hrow.len
 have e1:(sm a.length fun j=>cv (BM ((((DU a b).getD r []).map fun x:Int=>[x]).getD j [])) (BM ((C7 (IG a b)).getD j [])) 0)=sm a.length fun j=>(a.getD r []).getD j 0*(IG a b).getD j 0:=by
  refine C8 fun j hj'=>?_
  rw[B4 (d:=0) (by omega),PR _ (by omega),← Ov (b:=b) hS r (Nat.zero_le _) hr j hj']
  rfl
 have e2:BM ((((DU a b).getD r []).map fun x:Int=>[x]).getD a.length []) 0=b.getD r 0:=by
  rw[B4 (d:=0) (by omega)]
  unfold DU
  rw[Bj _ hr,GP (by rw[hS.row r hr];omega),hS.row r hr,Nat.sub_self]
  rfl
 rw[e1,e2]at h0
 rw[h0]
 have:=Be hb r
 exact L6 this.1 this.2
end
def uN (n k:Nat):List Int:=(List.replicate n 0).set k 1
section
theorem Dn {α:Type}{l:List α}{j:Nat}{d:α}(h:j<l.length):l.getD j d=l[j]:=by simp[h]
structure I1 (a:List (List (List Int)))(b:List (List Int))(N:Nat):Prop where
 n6:a.length≤6
 bl:b.length=a.length
 row:∀r,r<a.length→(a.getD r []).length=a.length
 ser:∀r j,r<a.length→j<a.length→Bt N ((a.getD r []).getD j [])
 bser:∀r,r<a.length→Bt N (b.getD r [])
 n1:1≤N
 n13:N≤13
theorem I1.sh {a:List (List (List Int))}{b:List (List Int)}{N:Nat}(h:I1 a b N):Sh (Bt N) [] a.length (a.length+1) (GV a b):=by
 refine⟨by simp[GV],fun r hr=>?_⟩
 unfold GV
 rw[Bj _ hr]
 have hl:=h.row r hr
 refine⟨by rw[List.length_append,hl];rfl,fun k hk=>?_⟩
 by_cases e:k<a.length
 ·rw[JM (by omega)];exact h.ser r k hr e
 ·rw[GP (by omega),show k-(a.getD r []).length=0 from by omega];exact h.bser r hr
def Pp (y:List (List Int)):List Int:=y.map fun s=>s.getD 0 0
def I2 (a:List (List (List Int))):List (List Int):=a.map Pp
theorem Yq {N:Nat}(hN:1≤N):QG sA nA (Bt N) (fun s=>s.getD 0 0) where
 q x y hx _:=by
  show(BT x y).getD 0 0=md (x.getD 0 0*inv (y.getD 0 0))
  rw[JO (by rw[hx.1];omega)];rfl
 t x y w hx hy _:=by
  show(Dt x (C5 y w)).getD 0 0=md (x.getD 0 0-md (y.getD 0 0*w.getD 0 0))
  unfold Dt
  rw[Bj _ (by rw[hx.1];omega)]
  unfold C5
  rw[Bj _ (by rw[hy.1];omega)]
  show md (x.getD 0 0-md (0+y.getD 0 0*w.getD 0 0))=_
  rw[Int.zero_add]
 z x _:=rfl
section
variable {a:List (List (List Int))} {b:List (List Int)} {N:Nat}
theorem OI (y:List (List Int)):(Pp y).length=y.length:=by simp[Pp]
theorem En (a:List (List (List Int))):(I2 a).length=a.length:=by simp[I2]
theorem GX (a:List (List (List Int)))(r:Nat):(I2 a).getD r []=Pp (a.getD r []):=EF (h:=fun s:List Int=>s.getD 0 0) (M:=a) r
theorem I1.sq (h:I1 a b N):Sq a.length (I2 a):=by
 have num:∀r,B8 (Pp (a.getD r []))=true:=by
  intro r
  by_cases hr:r<a.length
  ·unfold B8 Pp
   rw[List.all_eq_true]
   intro x hx
   obtain⟨s,hs,rfl⟩:=List.mem_map.1 hx
   obtain⟨j,hj,rfl⟩:=List.getElem_of_mem hs
   have h1:=h.ser r j hr (by rw[← h.row r hr];exact hj)
   rw[Dn hj]at h1
   exact Cn.2 (Be h1.2 0)
  ·rw[show a.getD r []=[]from by simp[Nat.not_lt.1 hr]];rfl
 exact⟨En a,fun r hr=>by rw[GX,OI];exact h.row r hr,fun r=>by rw[GX];exact num r⟩
theorem I1.sq' (h:I1 a b N):Sq (I2 a).length (I2 a):=by rw[En];exact h.sq
theorem I1.bnum (h:I1 a b N):B8 (Pp b)=true:=by
 unfold B8 Pp
 rw[List.all_eq_true]
 intro x hx
 obtain⟨s,hs,rfl⟩:=List.mem_map.1 hx
 obtain⟨j,hj,rfl⟩:=List.getElem_of_mem hs
 have h1:=h.bser j (by rw[← h.bl];exact hj)
 rw[show b.getD j []=b[j]from by simp[hj]]at h1
 exact Cn.2 (Be h1.2 0)
theorem Yr (h:I1 a b N):mm (fun s:List Int=>s.getD 0 0) (GV a b)=DU (I2 a) (Pp b):=by
 refine Mf (n:=a.length) (by rw[KE];simp[GV]) (by simp[DU,En]) fun r hr=>?_
 rw[EF]
 unfold GV DU
 rw[Bj _ hr,Bj _ (by rw[En];exact hr),List.map_append,GX]
 congr 1
 have hb:=h.bl
 show [(b.getD r []).getD 0 0]=[(Pp b).getD r 0]
 unfold Pp
 rw[B4 (d:=[]) (by omega)]
theorem I1.jor (h:I1 a b N):D5 a b=none↔Ed (I2 a)=0:=by
 rw[JN (b:=Pp b) h.sq' h.bnum]
 have e:=(Yq h.n1).jor (QH N) a.length 0 (GV a b) (by omega) (by omega) h.sh
 rw[Yr h]at e
 unfold IF
 rw[En,e]
 unfold D5
 simp
theorem PU (h:I1 a b N)(hs:D5 a b≠none):(FF a b).length=a.length∧∀r,r<a.length→Bt N ((FF a b).getD r []):=by
 obtain⟨M,hM⟩:=Option.ne_none_iff_exists'.1 hs
 have hsh:=Sh.jor (QH N) a.length 0 _ (by omega) (by omega) h.sh hM
 have hl:=hsh.len
 rw[Sa hM]
 refine⟨by simp[hl],fun r hr=>?_⟩
 rw[B4 (d:=[]) (by omega)]
 exact(hsh.row r hr).val a.length (by omega)
end
theorem UY {a:List (List (List Int))}{b:List (List Int)}{N:Nat}(h:I1 a b N):(D5 a b).isSome = !decide (Ed (I2 a)=0):=by
 have hj:=h.jor
 by_cases hd:Ed (I2 a)=0
 ·rw[hj.2 hd];simp[hd]
 ·obtain⟨M,hM⟩:=Option.ne_none_iff_exists'.1 (fun hn=>hd (hj.1 hn))
  rw[hM];simp[hd]
end
abbrev Sr:=List Int
def cst (n:Nat)(x:Int):Sr:=(List.replicate n 0).set 0 x
inductive Rs (α:Type) where
 |ok (x:α) (s:Nat)
 |err (c:Int)
structure Ca where
 one:Nat→Nat→List Sr→Nat→Rs Sr
 all:Nat→List Sr→Nat→Rs (List Sr)
def Rs.bind {α β:Type}(r:Rs α)(f:α→Nat→Rs β):Rs β:=match r with
 |.ok x s=>f x s
 |.err c=>.err c
theorem Rs.bind_ok {α β:Type}(x:α)(s:Nat)(f:α→Nat→Rs β):(Rs.ok x s).bind f=f x s:=rfl
theorem Rs.bind_err {α β:Type}(c:Int)(f:α→Nat→Rs β):(Rs.err c:Rs α).bind f=.err c:=rfl
theorem Rs.bind_assoc {α β γ:Type}(r:Rs α)(f:α→Nat→Rs β)(h:β→Nat→Rs γ):(r.bind f).bind h=r.bind fun x s=>(f x s).bind h:=by cases r <;> rfl
def LB (f:List Sr→Nat→Rs (List Sr)):Nat→List Sr→Nat→Rs (List Sr)
 |0,a,s=>.ok a s
 |k+1,a,s=>(LB f k a s).bind f
def LC (k:Int)(xs:List Sr)(t:Nat):Rs Sr :=
 if k=3 then .ok (Em (xs.getD 0 []) (xs.getD 1 [])) t
 else if k=4 then .ok (Dt (xs.getD 0 []) (xs.getD 1 [])) t
 else if k=5 then .ok (C5 (xs.getD 0 []) (xs.getD 1 [])) t
 else if k=7 then .ok (CK (xs.getD 0 []) 1000002) t
 else if (xs.getD 1 []).getD 0 0=0 then .err 6 else .ok (BT (xs.getD 0 []) (xs.getD 1 [])) t
mutual
def Ea (n:Nat)(C:Ca):Ex→List Sr→Nat→Rs Sr
 |.mk k num pick cnt l,env,s =>
  if 3000≤s then .err 7
  else if k=1 then .ok (cst n num) (s+1)
  else if k=2 then .ok (env.getD num.toNat []) (s+1)
  else if k=8 then(IW n C l 0 env (s+1)).bind fun x t=>if x.getD 0 0=0 then IW n C l 1 env t else IW n C l 2 env t
  else if k=9 then(IW n C l 0 env (s+1)).bind fun x t=>IW n C l 1 (env++[x]) t
  else(E6 n C l env (s+1)).bind fun xs t =>
   if k=10 then C.one num.toNat pick.toNat xs t
   else if k=11 then(LB (C.all num.toNat) cnt.toNat xs t).bind fun ys u=>.ok (ys.getD pick.toNat []) u
   else LC k xs t
def IW (n:Nat)(C:Ca):List Ex→Nat→List Sr→Nat→Rs Sr
 |[],_,_,_=>.err 0
 |e::_,0,env,s=>Ea n C e env s
 |_::l,j+1,env,s=>IW n C l j env s
def E6 (n:Nat)(C:Ca):List Ex→List Sr→Nat→Rs (List Sr)
 |[],_,s=>.ok [] s
 |e::l,env,s=>(Ea n C e env s).bind fun x t=>(E6 n C l env t).bind fun xs u=>.ok (x::xs) u
end
theorem DP (n:Nat)(C:Ca)(env:List Sr)(s:Nat):∀(l:List Ex)(j:Nat),j<l.length→IW n C l j env s=Ea n C (l.getD j Ex.zero) env s
 |[],j,h=>by simp at h
 |e::l,0,_=>by rw[IW];rfl
 |e::l,j+1,h=>by rw[IW,DP n C env s l j (by simpa using h)];simp
theorem PV (n:Nat)(C:Ca)(env:List Sr)(e:Ex):∀(l:List Ex)(s:Nat),E6 n C (l++[e]) env s=(E6 n C l env s).bind fun xs t=>(Ea n C e env t).bind fun x u=>.ok (xs++[x]) u
 |[],s=>by
  rw[List.nil_append,E6,E6]
  simp only[Rs.bind_ok]
  cases Ea n C e env s <;> simp only[Rs.bind_ok,Rs.bind_err,E6] <;> rfl
 |a::l,s=>by
  rw[List.cons_append,E6,E6]
  cases Ea n C a env s with
  |err c=>rfl
  |ok x t =>
   simp only[Rs.bind_ok]
   rw[PV n C env e l t]
   simp only[Rs.bind_assoc]
   cases E6 n C l env t with
   |err c=>rfl
   |ok xs u =>
    simp only[Rs.bind_ok]
    cases Ea n C e env u <;> rfl
theorem UZ {n:Nat}{C:Ca}{env:List Sr}{s:Nat}{l:List Ex}{k:Nat}(hk:k<l.length):E6 n C (l.take (k+1)) env s=(E6 n C (l.take k) env s).bind fun xs t=>(Ea n C (l.getD k Ex.zero) env t).bind fun x u=>.ok (xs++[x]) u:=by
 rw[List.take_succ_eq_append_getElem hk,PV]
 simp[hk]
theorem Fp (n:Nat)(C:Ca)(e:Ex)(env:List Sr)(s:Nat):Ea n C e env s =
  if 3000≤s then .err 7
  else if e.kind=1 then .ok (cst n e.num) (s+1)
  else if e.kind=2 then .ok (env.getD e.num.toNat []) (s+1)
  else if e.kind=8 then(IW n C e.kids 0 env (s+1)).bind fun x t=>if x.getD 0 0=0 then IW n C e.kids 1 env t else IW n C e.kids 2 env t
  else if e.kind=9 then(IW n C e.kids 0 env (s+1)).bind fun x t=>IW n C e.kids 1 (env++[x]) t
  else(E6 n C e.kids env (s+1)).bind fun xs t =>
   if e.kind=10 then C.one e.num.toNat e.pick.toNat xs t
   else if e.kind=11 then(LB (C.all e.num.toNat) e.count.toNat xs t).bind fun ys u=>.ok (ys.getD e.pick.toNat []) u
   else LC e.kind xs t:=by cases e;rw[Ea];rfl
def GY (p:List Fn)(n:Nat):Nat→Ca
 |0=>⟨fun _ _ _ _=>.err 0,fun _ _ _=>.err 0⟩
 |k+1=>⟨fun f j a s=>if f=k then Ea n (GY p n k) ((p.getD k Fn.zero).outs.getD j Ex.zero) a s else(GY p n k).one f j a s,
   fun f a s=>if f=k then E6 n (GY p n k) (p.getD k Fn.zero).outs a s else(GY p n k).all f a s⟩
theorem Sd {p:List Fn}{n f j:Nat}{a:List Sr}{s:Nat}:∀ {F:Nat},f<F→(GY p n F).one f j a s=Ea n (GY p n f) ((p.getD f Fn.zero).outs.getD j Ex.zero) a s
 |0,h=>by omega
 |F+1,h=>by
  show(if f=F then _ else _)=_
  split
  ·rename_i e;rw[e]
  ·exact Sd (by omega)
theorem JV {p:List Fn}{n f:Nat}{a:List Sr}{s:Nat}:∀ {F:Nat},f<F→(GY p n F).all f a s=E6 n (GY p n f) (p.getD f Fn.zero).outs a s
 |0,h=>by omega
 |F+1,h=>by
  show(if f=F then _ else _)=_
  split
  ·rename_i e;rw[e]
  ·exact JV (by omega)
def ev (p:List Fn)(n f:Nat)(a:List Sr):Rs (List Sr):=E6 n (GY p n f) (p.getD f Fn.zero).outs a 0
def go {α:Type}(c:Int)(r:Rs α):Rs α:=if c=0 then r else .err c
theorem CV {α:Type}(r:Rs α):go 0 r=r:=rfl
theorem Du {α:Type}{c:Int}(h:c≠0)(r:Rs α):go c r=.err c:=if_neg h
def Bs (n:Nat)(env:List Sr):Prop:=∀k,k<env.length→Bt n (env.getD k [])
def AT {α:Type}(r:Rs α)(x:α)(s:Nat)(c:Int):Prop:=match r with
 |.ok y t=>x=y∧s=t∧c=0
 |.err d=>c=d∧d≠0
theorem AT.ok {α:Type}{r:Rs α}{x:α}{s:Nat}(h:AT r x s 0):r=.ok x s:=by
 cases r with
 |ok y t=>obtain⟨rfl,rfl,_⟩:=h;rfl
 |err d=>exact absurd h.1.symm h.2
theorem AT.err {α:Type}{r:Rs α}{x:α}{s:Nat}{c:Int}(h:AT r x s c)(hc:c≠0):r=.err c:=by
 cases r with
 |ok y t=>exact absurd h.2.2 hc
 |err d=>rw[h.1]
theorem AT.mk_ok {α:Type}{r:Rs α}{x:α}{s:Nat}(h:r=.ok x s):AT r x s 0:=by subst h;exact⟨rfl,rfl,rfl⟩
theorem AT.mk_err {α:Type}{r:Rs α}{x:α}{s:Nat}{c:Int}(h:r=.err c)(hc:c≠0):AT r x s c:=by subst h;exact⟨rfl,hc⟩
theorem AT.bindE {α β:Type}{r:Rs α}{x:α}{s:Nat}{c:Int}(h:AT r x s c)(hc:c≠0){f:α→Nat→Rs β}:r.bind f=.err c:=by rw[h.err hc];rfl
theorem AT.bindO {α β:Type}{r:Rs α}{x:α}{s:Nat}(h:AT r x s 0){f:α→Nat→Rs β}:r.bind f=f x s:=by rw[h.ok];rfl
theorem FG (n:Nat)(x:Int):(cst n x).length=n:=by simp[cst]
theorem GZ (n:Nat):B8 (List.replicate n 0)=true:=by
 unfold B8
 rw[List.all_eq_true]
 intro y hy
 rw[List.eq_of_mem_replicate hy];decide
theorem ES {n:Nat}{x:Int}(h:Jb x=true):Bt n (cst n x):=by
 refine⟨FG n x,?_⟩
 unfold cst B8
 rw[List.all_eq_true]
 intro y hy
 rcases List.mem_or_eq_of_mem_set hy with hy|rfl
 ·rw[List.eq_of_mem_replicate hy];decide
 ·exact h
theorem Bs.snoc {n:Nat}{env:List Sr}{x:Sr}(h:Bs n env)(hx:Bt n x):Bs n (env++[x]):=by
 intro k hk
 rw[List.length_append,List.length_singleton]at hk
 by_cases e:k<env.length
 ·rw[JF e];exact h k e
 ·have:k=env.length:=by omega
  rw[JG this];exact hx
section
structure IJ (p:List Fn):Prop where
 par:∀k,k<p.length→0≤(p.getD k Fn.zero).params∧(p.getD k Fn.zero).params≤12
 outs:∀k,k<p.length→1≤(p.getD k Fn.zero).outs.length∧(p.getD k Fn.zero).outs.length≤12
 deep:∀k,k<p.length→∀j,j<(p.getD k Fn.zero).outs.length→((p.getD k Fn.zero).outs.getD j Ex.zero).deep≤60
 wf:∀k,k<p.length→∀j,j<(p.getD k Fn.zero).outs.length→wf p ((k:Nat):Int) ((p.getD k Fn.zero).outs.getD j Ex.zero) (p.getD k Fn.zero).params=true
theorem CL {x a b:Int}:HC x a b=true↔a≤x∧x≤b:=by unfold HC;simp
theorem Do {p:List Fn}{F vars:Int}{e:Ex}(h:Kz p F vars e=true) :
  (e.kind=1∨e.kind=2∨e.kind=3∨e.kind=4∨e.kind=5∨e.kind=6∨e.kind=7∨e.kind=8∨e.kind=9∨e.kind=10∨e.kind=11) ∧
  (e.kind=2→0≤e.num∧e.num≤vars-1)∧(e.kind=3∨e.kind=4∨e.kind=5∨e.kind=6∨e.kind=9→e.kids.length=2)∧(e.kind=7→e.kids.length=1)∧(e.kind=8→e.kids.length=3) ∧
  (e.kind=10∨e.kind=11→0≤e.num∧e.num≤F-1∧(e.kids.length:Int)=(p.getD e.num.toNat Fn.zero).params∧0≤e.pick∧e.pick≤((p.getD e.num.toNat Fn.zero).outs.length:Int)-1) ∧
  (e.kind=11→((p.getD e.num.toNat Fn.zero).outs.length:Int)=(p.getD e.num.toNat Fn.zero).params∧0≤e.count∧e.count≤8)∧(e.kind=1→0≤e.num∧e.num<1000003):=by
 unfold Kz at h
 split at h
 ·simp only[Bool.and_eq_true,decide_eq_true_eq,Cn]at h;omega
 ·split at h
  ·simp only[Bool.and_eq_true,decide_eq_true_eq,CL]at h;omega
  ·split at h
   ·simp only[Bool.and_eq_true,decide_eq_true_eq]at h;omega
   ·split at h
    ·simp only[Bool.and_eq_true,decide_eq_true_eq]at h;omega
    ·split at h
     ·simp only[Bool.and_eq_true,decide_eq_true_eq]at h;omega
     ·split at h
      ·simp only[Bool.and_eq_true,decide_eq_true_eq,CL]at h
       obtain⟨h1,h2,h3,h4⟩:=h
       split at h4
       ·simp only[decide_eq_true_eq]at h4;omega
       ·simp only[Bool.and_eq_true,decide_eq_true_eq,CL]at h4;omega
      ·cases h
theorem D6 {p:List Fn}{F vars:Int}{e:Ex}(h:wf p F e vars=true):Kz p F vars e=true:=by
 rw[O0,Bool.and_eq_true]at h;exact h.1
theorem ZD {p:List Fn}{F vars:Int}{e:Ex}(h:wf p F e vars=true){j:Nat}(hj:j<e.kids.length):wf p F (e.kids.getD j Ex.zero) (if e.kind=9∧j=1 then vars+1 else vars)=true:=by
 rw[O0,Bool.and_eq_true]at h
 have:=(Lz p F _ vars e.kids 0).1 h.2 j hj
 rw[Nat.zero_add]at this
 simpa only[decide_eq_true_eq]using this
theorem Gx {p:List Fn}{F vars:Int}{e:Ex}(h:wf p F e vars=true){j:Nat}(hj:j<e.kids.length)(hn:¬(e.kind=9∧j=1)):wf p F (e.kids.getD j Ex.zero) vars=true:=by
 have:=ZD h hj
 rwa [if_neg hn]at this
theorem Mn {p:List Fn}{F vars:Int}{e:Ex}(h:wf p F e vars=true)(hj:1<e.kids.length)(hk:e.kind=9):wf p F (e.kids.getD 1 Ex.zero) (vars+1)=true:=by
 have:=ZD h hj
 rwa [if_pos ⟨hk,rfl⟩]at this
section
variable {p:List Fn} {F:Nat} {vars:Int} {e:Ex}
theorem V2 (h:wf p ((F:Nat):Int) e vars=true)(hk:e.kind=1):0≤e.num∧e.num<1000003:=(Do (D6 h)).2.2.2.2.2.2.2 hk
theorem V3 (h:wf p ((F:Nat):Int) e vars=true)(hk:e.kind=2):0≤e.num∧e.num≤vars-1:=(Do (D6 h)).2.1 hk
theorem ZE (h:wf p ((F:Nat):Int) e vars=true)(hk:e.kind=8):e.kids.length=3:=(Do (D6 h)).2.2.2.2.1 hk
theorem V4 (h:wf p ((F:Nat):Int) e vars=true)(hk:e.kind=9):e.kids.length=2:=(Do (D6 h)).2.2.1 (by omega)
theorem V5 (h:wf p ((F:Nat):Int) e vars=true)(hk:e.kind=7):e.kids.length=1:=(Do (D6 h)).2.2.2.1 hk
theorem V6 (h:wf p ((F:Nat):Int) e vars=true)(hk:e.kind=3∨e.kind=4∨e.kind=5∨e.kind=6):e.kids.length=2:=(Do (D6 h)).2.2.1 (by omega)
theorem LE (h:wf p ((F:Nat):Int) e vars=true)(hk:e.kind=10∨e.kind=11):(0≤e.num∧e.num≤((F:Nat):Int)-1)∧(e.kids.length:Int)=(p.getD e.num.toNat Fn.zero).params∧(0≤e.pick∧e.pick≤((p.getD e.num.toNat Fn.zero).outs.length:Int)-1):=by
 have:=(Do (D6 h)).2.2.2.2.2.1 hk
 exact⟨⟨this.1,this.2.1⟩,this.2.2.1,this.2.2.2⟩
theorem Se (h:wf p ((F:Nat):Int) e vars=true)(hk:e.kind=11):((p.getD e.num.toNat Fn.zero).outs.length:Int)=(p.getD e.num.toNat Fn.zero).params∧(0≤e.count∧e.count≤8):=(Do (D6 h)).2.2.2.2.2.2.1 hk
theorem dA (h:wf p ((F:Nat):Int) e vars=true)(hk:(e.kind≠1∧e.kind≠2∧e.kind≠7∧e.kind≠8)∧(e.kind≠9∧e.kind≠10∧e.kind≠11)):e.kind=3∨e.kind=4∨e.kind=5∨e.kind=6:=by
 have:=(Do (D6 h)).1
 omega
theorem dB (h:wf p ((F:Nat):Int) e vars=true)(hv:IJ p)(hF:F≤p.length):e.kids.length≤12:=by
 have hq:=Do (D6 h)
 by_cases h10:e.kind=10∨e.kind=11
 ·have h1:=LE h h10
  have:=hv.par e.num.toNat (by omega)
  omega
 ·have h1:=hq.1;have h2:=hq.2.2.1;have h3:=hq.2.2.2.1;have h4:=hq.2.2.2.2.1
  by_cases hl:e.kind=1∨e.kind=2
  ·have h5:=D6 h
   unfold Kz at h5
   rcases hl with hl|hl
   ·rw[if_pos hl]at h5;simp only[Bool.and_eq_true,decide_eq_true_eq]at h5;omega
   ·rw[if_neg (by omega),if_pos hl]at h5;simp only[Bool.and_eq_true,decide_eq_true_eq]at h5;omega
  ·omega
end
section
variable {n:Nat} {C:Ca} {e:Ex} {env:List Sr} {s s1 s2:Nat} {c c1 c2:Int} {x y:Sr} {xs ys:List Sr}
theorem V7 (hc:c≠0){r:Rs Sr}:AT (go c r) x s c:=AT.mk_err (Du hc r) hc
theorem QM (hc:c=0)(hs:s=3000):AT (go c (Ea n C e env s)) x s1 7:=by
 subst hc;rw[CV,Fp,if_pos (by omega)];exact AT.mk_err rfl (by decide)
theorem Ys (hc:c=0)(hs:s+1≤3000)(hk:e.kind=1):AT (go c (Ea n C e env s)) (cst n e.num) (s+1) c:=by
 subst hc;rw[CV,Fp,if_neg (by omega),if_pos hk];exact AT.mk_ok rfl
theorem Yt (hc:c=0)(hs:s+1≤3000)(hk:e.kind=2):AT (go c (Ea n C e env s)) (env.getD e.num.toNat []) (s+1) c:=by
 subst hc;rw[CV,Fp,if_neg (by omega),if_neg (by omega),if_pos hk];exact AT.mk_ok rfl
theorem Yu (hc:c=0)(hs:s+1≤3000)(hk:e.kind=8)(hl:e.kids.length=3)(h1:AT (go c (Ea n C (e.kids.getD 0 Ex.zero) env (s+1))) x s1 c1)(hx:x.getD 0 0=0)
  (h2:AT (go c1 (Ea n C (e.kids.getD 1 Ex.zero) env s1)) y s2 c2):AT (go c (Ea n C e env s)) y s2 c2:=by
 subst hc
 rw[CV,Fp,if_neg (by omega),if_neg (by omega),if_neg (by omega),if_pos hk,DP _ _ _ _ _ _ (by omega)]
 rw[CV]at h1
 by_cases h0:c1=0
 ·subst h0;rw[h1.bindO,if_pos hx,DP _ _ _ _ _ _ (by omega)];exact h2
 ·rw[h1.bindE h0];rw[Du h0]at h2;exact h2
theorem Yw (hc:c=0)(hs:s+1≤3000)(hk:e.kind=8)(hl:e.kids.length=3)(h1:AT (go c (Ea n C (e.kids.getD 0 Ex.zero) env (s+1))) x s1 c1)(hx:¬x.getD 0 0=0)
  (h2:AT (go c1 (Ea n C (e.kids.getD 2 Ex.zero) env s1)) y s2 c2):AT (go c (Ea n C e env s)) y s2 c2:=by
 subst hc
 rw[CV,Fp,if_neg (by omega),if_neg (by omega),if_neg (by omega),if_pos hk,DP _ _ _ _ _ _ (by omega)]
 rw[CV]at h1
 by_cases h0:c1=0
 ·subst h0;rw[h1.bindO,if_neg hx,DP _ _ _ _ _ _ (by omega)];exact h2
 ·rw[h1.bindE h0];rw[Du h0]at h2;exact h2
theorem Yx (hc:c=0)(hs:s+1≤3000)(hk:e.kind=9)(hl:e.kids.length=2)(h1:AT (go c (Ea n C (e.kids.getD 0 Ex.zero) env (s+1))) x s1 c1)
  (h2:AT (go c1 (Ea n C (e.kids.getD 1 Ex.zero) (env++[x]) s1)) y s2 c2):AT (go c (Ea n C e env s)) y s2 c2:=by
 subst hc
 rw[CV,Fp,if_neg (by omega),if_neg (by omega),if_neg (by omega),if_neg (by omega),if_pos hk,DP _ _ _ _ _ _ (by omega)]
 rw[CV]at h1
 by_cases h0:c1=0
 ·subst h0;rw[h1.bindO,DP _ _ _ _ _ _ (by omega)];exact h2
 ·rw[h1.bindE h0];rw[Du h0]at h2;exact h2
theorem Mo (hs : s + 1 ≤ 3000) (h1 : e.kind ≠ 1) (h2 : e.kind ≠ 2) (h8 : e.kind ≠ 8) (h9 : e.kind ≠ 9) : Ea n C e env s = (E6 n C e.kids env (s + 1)).bind fun xs t =>
      if e.kind = 10 then C.one e.num.toNat e.pick.toNat xs t
      else if e.kind = 11 then (LB (C.all e.num.toNat) e.count.toNat xs t).bind fun ys u=>.ok (ys.getD e.pick.toNat []) u
      else LC e.kind xs t:=by
  rw [Fp,if_neg (by omega),if_neg h1,if_neg h2,if_neg h8,if_neg h9]
theorem TB (hc:c=0)(hs:s+1≤3000)(h1:e.kind≠1)(h2:e.kind≠2)(h8:e.kind≠8)(h9:e.kind≠9)(hr:AT (go c (E6 n C e.kids env (s+1))) xs s1 c1)(hc1:c1≠0):AT (go c (Ea n C e env s)) x s2 c1:=by
 subst hc
 rw[CV]at hr ⊢
 rw[Mo hs h1 h2 h8 h9,hr.bindE hc1];exact AT.mk_err rfl hc1
theorem dC (hc:c=0)(hs:s+1≤3000)(h1:e.kind≠1)(h2:e.kind≠2)(h8:e.kind≠8)(h9:e.kind≠9)(h10:e.kind≠10)(h11:e.kind≠11)(hr:AT (go c (E6 n C e.kids env (s+1))) xs s1 c1)(hc1:c1=0)
  (h:AT (LC e.kind xs s1) y s2 c2):AT (go c (Ea n C e env s)) y s2 c2:=by
 subst hc;subst hc1
 rw[CV]at hr ⊢
 rw[Mo hs h1 h2 h8 h9,hr.bindO,if_neg h10,if_neg h11];exact h
theorem dD {k:Int}(hk:k=3):AT (LC k xs s) (Em (xs.getD 0 []) (xs.getD 1 [])) s 0:=by subst hk;exact AT.mk_ok rfl
theorem dE {k:Int}(hk:k=4):AT (LC k xs s) (Dt (xs.getD 0 []) (xs.getD 1 [])) s 0:=by subst hk;exact AT.mk_ok rfl
theorem dF {k:Int}(hk:k=5):AT (LC k xs s) (C5 (xs.getD 0 []) (xs.getD 1 [])) s 0:=by subst hk;exact AT.mk_ok rfl
theorem dG {k:Int}(hk:k=7):AT (LC k xs s) (CK (xs.getD 0 []) 1000002) s 0:=by subst hk;exact AT.mk_ok rfl
theorem Yy {k:Int}(hk:k=6)(hz:(xs.getD 1 []).getD 0 0=0):AT (LC k xs s) x s1 6:=by
 subst hk
 have:LC 6 xs s=.err 6:=by
  show(if (xs.getD 1 []).getD 0 0=0 then _ else _)=_
  rw[if_pos hz]
 exact AT.mk_err this (by decide)
theorem dH {k:Int}(hk:k=6)(hz:¬(xs.getD 1 []).getD 0 0=0):AT (LC k xs s) (BT (xs.getD 0 []) (xs.getD 1 [])) s 0:=by
 subst hk
 have:LC 6 xs s=.ok (BT (xs.getD 0 []) (xs.getD 1 [])) s:=by
  show(if (xs.getD 1 []).getD 0 0=0 then _ else _)=_
  rw[if_neg hz]
 exact AT.mk_ok this
theorem I3 {l:List Ex}{k:Nat}(hk:k<l.length)(h:AT (go c (E6 n C (l.take k) env s)) xs s1 c1)(h2:AT (go c1 (Ea n C (l.getD k Ex.zero) env s1)) x s2 c2) :
  AT (go c (E6 n C (l.take (k+1)) env s)) (xs++[x]) s2 c2:=by
 by_cases hc:c=0
 ·subst hc
  rw[CV]at h ⊢
  rw[UZ hk]
  by_cases h0:c1=0
  ·subst h0
   rw[CV]at h2
   rw[h.bindO]
   by_cases h3:c2=0
   ·subst h3;rw[h2.bindO];exact AT.mk_ok rfl
   ·rw[h2.bindE h3];exact AT.mk_err rfl h3
  ·rw[h.bindE h0];rw[Du h0]at h2;exact AT.mk_err (by rw[h2.1]) (by rw[h2.1];exact h2.2)
 ·rw[Du hc]at h ⊢
  have hc1:c1≠0:=by rw[h.1];exact hc
  rw[Du hc1]at h2
  exact AT.mk_err (by rw[h2.1,h.1]) (by rw[h2.1];exact hc1)
end
theorem Ir (n:Nat)(C:Ca)(l:List Ex)(env:List Sr)(s:Nat)(c:Int):AT (go c (E6 n C (l.take 0) env s)) [] s c:=by
 rw[List.take_zero,E6]
 by_cases h:c=0
 ·subst h;exact AT.mk_ok rfl
 ·exact AT.mk_err (Du h _) h
theorem I4 {n:Nat}{a b:Sr}(ha:Bt n a):Bt n (Em a b):=⟨by unfold Em;rw[DB];exact ha.1,HY _ _⟩
theorem Mp {n:Nat}{a b:Sr}(ha:Bt n a):Bt n (Dt a b):=⟨by rw[GT];exact ha.1,GU _ _⟩
theorem I5 {n:Nat}{a b:Sr}(ha:Bt n a):Bt n (C5 a b):=⟨by unfold C5;rw[DB];exact ha.1,Fd _ _⟩
theorem H0 {n:Nat}{a b:Sr}(ha:Bt n a):Bt n (BT a b):=⟨by rw[DV];exact ha.1,El _ _⟩
theorem PW {n:Nat}{a:Sr}{y:Int}(ha:Bt n a):Bt n (CK a y):=⟨by unfold CK;rw[DB];exact ha.1,Fe _ _⟩
end
section
def E7 (p:List Fn)(n f:Nat)(a:List Sr):List Sr:=match ev p n f a with
 |.ok xs _=>xs
 |.err _=>[]
def QN (p:List Fn)(n f:Nat)(a:List Sr):Nat:=match ev p n f a with
 |.ok _ s=>s
 |.err _=>0
def Hl (p:List Fn)(n f:Nat)(a:List Sr):Int:=match ev p n f a with
 |.ok _ _=>0
 |.err c=>c
section
variable {p:List Fn} {n f s:Nat} {a x:List Sr} {c:Int}
theorem O4 (h:AT (go 0 (E6 n (GY p n f) (p.getD f Fn.zero).outs a 0)) x s c)(hc:c=0):ev p n f a=.ok x s:=by subst hc;exact h.ok
theorem KF (h:AT (go 0 (E6 n (GY p n f) (p.getD f Fn.zero).outs a 0)) x s c)(hc:c≠0):ev p n f a=.err c:=h.err hc
theorem Mq (h:ev p n f a=.ok x s):E7 p n f a=x:=by unfold E7;rw[h]
theorem ZF (h:ev p n f a=.ok x s):QN p n f a=s:=by unfold QN;rw[h]
theorem O5 (h:ev p n f a=.ok x s):Hl p n f a=0:=by unfold Hl;rw[h]
theorem V8 (h:ev p n f a=.err c):E7 p n f a=[]:=by unfold E7;rw[h]
theorem ZG (h:ev p n f a=.err c):QN p n f a=0:=by unfold QN;rw[h]
theorem I6 (h:ev p n f a=.err c):Hl p n f a=c:=by unfold Hl;rw[h]
end
structure ZH (p:List Fn)(n f:Nat)(a:List Sr):Prop where
 code:0≤Hl p n f a∧Hl p n f a≤9
 steps:QN p n f a≤3000
 len:Hl p n f a=0→(E7 p n f a).length=(p.getD f Fn.zero).outs.length
 ser:Bs n (E7 p n f a)
 non:Hl p n f a≠0→E7 p n f a=[]
theorem ZH.mk' {p:List Fn}{n f s:Nat}{a x:List Sr}{c:Int}(h:AT (go 0 (E6 n (GY p n f) (p.getD f Fn.zero).outs a 0)) x s c)(hc:0≤c∧c≤9)(hs:s≤3000)(hl:x.length=(p.getD f Fn.zero).outs.length)(hx:Bs n x):ZH p n f a:=by
 by_cases h0:c=0
 ·have e:=O4 h h0
  exact⟨by rw[O5 e];omega,by rw[ZF e];exact hs,fun _=>by rw[Mq e];exact hl,by rw[Mq e];exact hx,fun hh=>absurd (O5 e) hh⟩
 ·have e:=KF h h0
  exact⟨by rw[I6 e];exact hc,by rw[ZG e];omega,fun hh=>absurd (by rw[← hh,I6 e]) h0,by rw[V8 e];intro k hk;simp at hk,fun _=>V8 e⟩
end
def ZI (s:ByteArray)(i:Nat):Bool:=(decide (97≤Kk s i) && decide (Kk s i≤122)) || (decide (i≠0) && (decide (48≤Kk s i) && decide (Kk s i≤57)))
def Pq (s:ByteArray):Bool:=(decide (1≤s.size) && decide (s.size≤12)) && (List.range s.size).all (ZI s)
def O6 (p:List Fn)(e:Ex)(vars funcs:Int):Bool :=
 HC vars 0 412 && (HC funcs 0 ((p.length:Nat):Int) && (decide (e.size≤400) && (decide (e.deep≤60) && wf p funcs e vars)))
def dI (p:List Fn)(k:Nat):Bool:=!((p.take k).any fun g=>GN g.name (p.getD k Fn.zero).name)
def Lg (p:List Fn)(k:Nat):Bool :=
 (Pq (p.getD k Fn.zero).name && dI p k) && ((HC (p.getD k Fn.zero).params 0 12 && HC (((p.getD k Fn.zero).outs.length:Nat):Int) 1 12) &&
  ((List.range (p.getD k Fn.zero).outs.length).all (fun j=>O6 p ((p.getD k Fn.zero).outs.getD j Ex.zero) (p.getD k Fn.zero).params ((k:Nat):Int)) && decide (Ex.sizes (p.getD k Fn.zero).outs≤400)))
def Lh (p:List Fn):Bool:=decide (p.length≤16) && (List.range p.length).all (Lg p)
def Sf (p:List Fn):Prop:=∀k,k<p.length→Ex.sizes (p.getD k Fn.zero).outs≤2000000∧(p.getD k Fn.zero).outs.length≤2000000∧(p.getD k Fn.zero).name.size≤2000000
theorem Eb {f:Nat→Bool}{k:Nat}(h:(List.range k).all f=true)(hk:f k=true):(List.range (k+1)).all f=true:=by
 rw[List.range_succ,List.all_append,h];simp[hk]
theorem KG {f:Nat→Bool}{k n:Nat}(hk:k<n)(h:f k=false):(List.range n).all f=false:=by
 rw[List.all_eq_false]
 exact⟨k,List.mem_range.2 hk,by simp[h]⟩
theorem Sg {f:Nat→Bool}{k n:Nat}(h:(List.range n).all f=true)(hk:k<n):f k=true:=List.all_eq_true.1 h k (List.mem_range.2 hk)
theorem dJ {p:List Fn}(h:Lh p=true){k:Nat}(hk:k<p.length):Lg p k=true:=by
 unfold Lh at h
 rw[Bool.and_eq_true]at h
 exact Sg h.2 hk
theorem Is {p:List Fn}(h:Lh p=true):IJ p:=by
 have h1:∀k,k<p.length→(0≤(p.getD k Fn.zero).params∧(p.getD k Fn.zero).params≤12)∧(1≤(p.getD k Fn.zero).outs.length∧(p.getD k Fn.zero).outs.length≤12) ∧
   ∀j,j<(p.getD k Fn.zero).outs.length→O6 p ((p.getD k Fn.zero).outs.getD j Ex.zero) (p.getD k Fn.zero).params ((k:Nat):Int)=true:=by
  intro k hk
  have:=dJ h hk
  unfold Lg at this
  simp only[Bool.and_eq_true,CL]at this
  exact⟨this.2.1.1,by omega,fun j hj=>Sg this.2.2.1 hj⟩
 have h2:∀k,k<p.length→∀j,j<(p.getD k Fn.zero).outs.length→((p.getD k Fn.zero).outs.getD j Ex.zero).deep≤60∧wf p ((k:Nat):Int) ((p.getD k Fn.zero).outs.getD j Ex.zero) (p.getD k Fn.zero).params=true:=by
  intro k hk j hj
  have:=(h1 k hk).2.2 j hj
  unfold O6 at this
  simp only[Bool.and_eq_true,decide_eq_true_eq]at this
  exact⟨this.2.2.2.1,this.2.2.2.2⟩
 exact⟨fun k hk=>(h1 k hk).1,fun k hk=>(h1 k hk).2.1,fun k hk j hj=>(h2 k hk j hj).1,fun k hk j hj=>(h2 k hk j hj).2⟩
section
namespace Jx
variable [J:JR] {P:Program} {ops:Array Oper} {w0:World} {Q:Act→World→Prop}
theorem j1 {o:Oper}{os:List Oper}{ks:List Nat}{a:Act}{w:World}(h:_root_.Go.Proofs.YtnokbaiemimhjaaGreat.LW P ops w0 (fun a w=>LW P ops w0 Q os ks a w) [o] [0] a w):LW P ops w0 Q (o::os) (0::ks) a w:=by
 simp only[_root_.Go.Proofs.YtnokbaiemimhjaaGreat.LW]at h
 simp only[LW]
 split
 ·rename_i hw
  rw[if_pos hw]at h
  unfold _root_.Go.Proofs.YtnokbaiemimhjaaGreat.BF at h
  unfold BF
  rw[if_pos (by decide)]at h
  rw[if_pos (by decide)]
  obtain⟨v,h1,h2⟩:=h
  exact⟨v,fun w' _=>h1 w' trivial,h2⟩
 ·rename_i hw
  rw[if_neg hw]at h
  exact h
theorem Yz:∀ {os:List Oper}{ks:List Nat}{a:Act}{w:World}(_:ks.all (fun k=>k == 0 || k == 3 || k == 4)=true)(_:_root_.Go.Proofs.YtnokbaiemimhjaaGreat.LW P ops w0 Q os ks a w),LW P ops w0 Q os ks a w
 |[],_,_,_,_,h=>h
 |_::_,[],_,_,_,h=>h.elim
 |o::os,k::ks,a,w,hk,h=>by
  simp only[List.all_cons,Bool.and_eq_true]at hk
  simp only[_root_.Go.Proofs.YtnokbaiemimhjaaGreat.LW]at h
  simp only[LW]
  split
  ·rename_i hw
   rw[if_pos hw]at h
   unfold _root_.Go.Proofs.YtnokbaiemimhjaaGreat.BF at h
   unfold BF
   split at h
   ·rename_i h2
    rw[if_pos h2]
    have:k=0:=by
     have:=hk.1
     simp only[Bool.or_eq_true,beq_iff_eq]at this
     omega
    subst this
    obtain⟨v,h1,h3⟩:=h
    exact⟨v,fun w' _=>h1 w' trivial,Yz hk.2 h3⟩
   ·rename_i h2
    rw[if_neg h2]
    split at h
    ·rename_i h3
     rw[if_pos h3]
     exact Oper.wp_mono (fun a w hh=>⟨J.ext hh.1,Yz hk.2 hh.2⟩) h
    ·rename_i h3
     rw[if_neg h3]
     exact Oper.wp_mono (fun a w hh=>Yz hk.2 hh) h
  ·rename_i hw
   rw[if_neg hw]at h
   exact Yz hk.2 h
end Jx
end
section
section str
variable {P:Program} {ops:Array Oper} {w0:World} {Q:Act→World→Prop} {os:List Oper} {ks:List Nat} {N:Nat} {ρ:Nat→Value} {w:World}
 {d:Nat} {ty:TypeId} {pos:String} {aft:Array Edge} {g:Option (Nat×Bool)} {t e:TypeId}
end str
section res
variable {P:Program} {N:Nat} {ρ:Nat→Value} {w:World}
theorem V9:∀(l:List Nat),(((l.map ResultVar.tmp).mapM (m:=Sem) fun
  |.tmp t=>pure ((mk N ρ).tmps.getD t undef)
  |.cell a t=>do loadVar t (← asAddr ((mk N ρ).tmps.getD a undef)))).run P w=.ok (l.map fun t=>Bm N ρ (.tmp t)) w:=by
 intro l
 induction l with
 |nil=>rfl
 |cons t l ih =>
  simp only[List.map_cons,List.mapM_cons,Sem.run_bind,Sem.run_pure,Result.andThen_ok,Ls]at ih ⊢
  rw[ih]
  rfl
theorem O7 {fn:Func}{R:Ending→World→Prop}{k s b t0:Nat}{ts:List Nat}{ty:TypeId}{cs:List Value}(vs:List Value)(hr:fn.results=(ResultVar.cell k ty::((t0::ts).map ResultVar.tmp)).toArray)(ha:DT P ty s=true)(hv:Bm N ρ (.tmp k)=.pointer (some ⟨b,0,none⟩))(hb:BX w.heap b cs)(hl:cs.length=s)
  (hvs:((t0::ts).map fun t=>Bm N ρ (.tmp t))=vs) (h:R (.returned (.tuple (.agg cs.toArray::vs).toArray)) w):bodyPost P fn R .ret (mk N ρ) w:=by
 subst hvs
 refine⟨rfl,_,?_,h⟩
 have hld:=JI (P:=P) ha (LD.of_box hb) hl
 have hg:(mk N ρ).tmps.getD k undef=.pointer (some ⟨b,0,none⟩):=by rw[Ls,hv]
 have hi:(asAddr (.pointer (some ⟨b,0,none⟩))).run P w=.ok ⟨b,0,none⟩ w:=rfl
 have key:=V9 (P:=P) (N:=N) (ρ:=ρ) (w:=w) (t0::ts)
 unfold results
 rw[hr]
 simp only[List.mapM_toArray,Sem.run_bind,Sem.run_map]
 have hfull:(((ResultVar.cell k ty::((t0::ts).map ResultVar.tmp)).mapM (m:=Sem) fun
  |.tmp t=>pure ((mk N ρ).tmps.getD t undef)
  |.cell a t=>do loadVar t (← asAddr ((mk N ρ).tmps.getD a undef)))).run P w=.ok (.agg cs.toArray::((t0::ts).map fun t=>Bm N ρ (.tmp t))) w:=by
  rw[List.mapM_cons]
  simp only[Sem.run_bind,Sem.run_pure,hg,hi,hld,Result.andThen_ok]
  rw[key]
  rfl
 refine(congrArg (fun r=>(Result.andThen (Result.andThen r fun a w'=>Result.ok a.toArray w') fun a w'=>Result.ok (if h:a.size=1 then a[0]else Value.tuple a) w')) hfull).trans ?_
 simp only[Result.andThen_ok]
 rfl
end res
end
section
set_option linter.unusedSectionVars false
namespace Jx
section
variable [J:JR] {P:Program} {ops:Array Oper} {md:Region.Mode} {kd bs:Nat→Nat} {w0:World} {Q:Act→World→Prop}
theorem LF {Q':Act→World→Prop}(h:∀a w,Q a w→Q' a w):∀(l:List Nat)(a:Act)(w:World),LI P ops kd w0 Q l a w→LI P ops kd w0 Q' l a w
 |[],a,w,hh=>h a w hh
 |i::l,a,w,hh=>by
  simp only[LI]at hh ⊢
  cases hoi:ops[i]? with
  |none=>rw[hoi]at hh;exact hh.elim
  |some o =>
   rw[hoi]at hh
   simp only at hh ⊢
   split
   ·rename_i hw
    rw[if_pos hw]at hh
    exact hh.mono (fun a w=>LF h l a w)
   ·rename_i hw
    rw[if_neg hw]at hh
    exact LF h l _ _ hh
theorem Mr (s:List Nat):∀(l:List Nat)(a:Act)(w:World),LI P ops kd w0 (LI P ops kd w0 Q s) l a w→LI P ops kd w0 Q (l++s) a w
 |[],a,w,hh=>hh
 |i::l,a,w,hh=>by
  simp only[LI,List.cons_append]at hh ⊢
  cases hoi:ops[i]? with
  |none=>rw[hoi]at hh;exact hh.elim
  |some o =>
   rw[hoi]at hh
   simp only at hh ⊢
   split
   ·rename_i hw
    rw[if_pos hw]at hh
    exact hh.mono (fun a w=>Mr s l a w)
   ·rename_i hw
    rw[if_neg hw]at hh
    exact Mr s l _ _ hh
theorem DA {Q':Act→World→Prop}(hQ:∀a w,Q a w→Q' a w):∀(l:List Nat)(os:List Oper)(ks:List Nat)(a:Act)(w:World),Mt ops kd l os ks→LW P ops w0 Q os ks a w→LI P ops kd w0 Q' l a w
 |[],[],_,a,w,_,h=>by simpa [LI]using hQ a w (by simpa [LW]using h)
 |x::l,o::os,k::ks,a,w,⟨h0,hk,hM⟩,h=>by
  have hr:∀a w,LW P ops w0 Q os ks a w→LI P ops kd w0 Q' l a w:=fun a w hh=>DA hQ l os ks a w hM hh
  simp only[LI,h0,LW]at h ⊢
  split
  ·rename_i hw
   rw[if_pos hw]at h
   rw[hk]
   exact h.mono hr
  ·rename_i hw
   rw[if_neg hw]at h
   exact hr _ _ h
 |[],_::_,_,_,_,h,_=>h.elim
 |_::_,[],_,_,_,h,_=>h.elim
 |_::_,_::_,[],_,_,h,_=>h.elim
structure QO (ops:Array Oper)(kd bs:Nat→Nat)(w0:World)(L0 S:List Nat)(n:Nat)(l:List Nat)(listed:Array Bool)(w:World):Prop where
 sub:l.Sublist L0
 len:l.length+S.length=n
 mem:∀i,i∈l++S↔listed.getD i true=false
 sz:listed.size=ops.size
 clo:J7 bs listed
 inv:Km kd w0 w (l++S)
 nd:(l++S).Nodup
variable {L0:List Nat}
theorem YB {l:List Nat}(hp:l.Pairwise (fun x y=>4≤kd x→kd y≠1)):J6 kd l:=by
 intro l1 i l2 hl hk j hj
 subst hl
 exact List.rel_of_pairwise_cons (List.pairwise_append.1 hp).2.1 hj hk
theorem Ms (hsel:∀(j:Nat)(o:Oper) cs b,ops[j]? = some o→o.op≠.select cs b)(hS:L3 md ops bs)
  (hlex:∀j oj,ops[j]? = some oj→∀e∈oj.after,Region.binds md e=true→e.on<j) {s:List Nat} (hp:(L0++s).Pairwise (CM md ops kd bs)) (h14:(L0++s).Pairwise (fun x y=>4≤kd x→kd y≠1))
  (n:Nat) (l:List Nat) (listed:Array Bool) (a:Act) (w:World) (hC:QO ops kd bs w0 L0 s n l listed w) (h:LI P ops kd w0 (LI P ops kd w0 Q s) l a w):wpAny P md ops (NQ Q) n listed a w :=
 E8 hsel hS hlex n (l++s) listed a w (by rw[List.length_append];exact hC.len) (hp.sublist (List.Sublist.append_right hC.sub s)) hC.nd hC.sz hC.mem hC.clo
  (YB (h14.sublist (List.Sublist.append_right hC.sub s))) hC.inv (Mr s l a w h)
theorem KH (hsel:∀ (j:Nat) (o:Oper) cs b,ops[j]? = some o→o.op≠.select cs b) (hS:L3 md ops bs)
  (hlex:∀ j oj,ops[j]? = some oj→∀ e∈oj.after,Region.binds md e = true→e.on < j)
  {h1 h2:Nat} {S1 S2:List Nat} {Q1 Q2:Act→World→Prop} (hperm:(h1 :: S1).Perm (h2 :: S2)) (hk1:kd h1 = 3) (hk2:kd h2 = 3)
  (hl:∀ x∈L0,kd x≤2) (hL:L0.Pairwise (CM md ops kd bs)) (hf1:∀ x∈L0,CM md ops kd bs x h1) (hf2:∀ x∈L0,CM md ops kd bs x h2)
  (hz:∀ z∈S1,z = h2∨(bs z).testBit h1 = true∨(bs z).testBit h2 = true)
  (hord:(L0++h1 :: S1).Pairwise (fun x y=>∀ ox,ops[x]? = some ox→∀ e∈ox.after,Region.binds md e = true→e.on≠y))
  (rec1:∀ n l listed a w,QO ops kd bs w0 L0 S1 n l listed w→LI P ops kd w0 Q1 l a w→wpAny P md ops (NQ Q) n listed a w)
  (rec2:∀ n l listed a w,QO ops kd bs w0 L0 S2 n l listed w→LI P ops kd w0 Q2 l a w→wpAny P md ops (NQ Q) n listed a w) :
  ∀ (n:Nat) (l:List Nat) (listed:Array Bool) (a:Act) (w:World),QO ops kd bs w0 L0 (h1 :: S1) n l listed w→LI P ops kd w0 (fun a w=>LI P ops kd w0 Q1 [h1] a w∧LI P ops kd w0 Q2 [h2] a w) l a w→wpAny P md ops (NQ Q) n listed a w
 | 0,l,listed,a,w,hC,h=>by have:=hC.len; simp at this
 | n + 1,l,listed,a,w,hC,h=>by
  have hm2:∀ i,i∈l++h1 :: S1↔i∈l++h2 :: S2:=fun i=>by
   simp only [List.mem_append]; rw [hperm.mem_iff]
  have hun_of:∀ i∈l++h1 :: S1,listed.getD i true = false:=fun i hi=>(hC.mem i).1 hi
  -- a place that makes memory is taken
  have heavy:∀ (x:Nat) (T:List Nat) (Qx:Act→World→Prop),kd x = 3→(h1 :: S1).Perm (x :: T)→(∀ y∈L0,CM md ops kd bs y x)→LI P ops kd w0 Qx (l++[x]) a w →
    (∀ l' a' w' listed',QO ops kd bs w0 L0 T n l' listed' w'→LI P ops kd w0 Qx l' a' w'→wpAny P md ops (NQ Q) n listed' a' w') →
    ∀ (ox:Oper),ops[x]? = some ox→(∀ e∈ox.after,Region.binds md e = true→listed.getD e.on false = true)→wpOp P ops (NQ Q) x (wpAny P md ops (NQ Q) n (listed.setIfInBounds x true)) a w:=by
   intro x T Qx hkx hpx hfx hLx hrec ox hox hall
   have hbits:=DR hS hC.clo hox hall
   have hxm:x∈l++h1 :: S1:=List.mem_append_right _ (hpx.mem_iff.2 (List.mem_cons_self ..))
   have hxu:=hun_of x hxm
   have hfree:=CZ (kd:=kd) (l1:=l) hox (fun y hy=>(hfx y (hC.sub.subset hy)).1) (fun y hy=>hun_of y (List.mem_append_left _ hy)) hbits
   have hsz:=CA hxu
   have hnd2:(l++x :: T).Nodup:=(List.Perm.append_left l hpx).nodup_iff.1 hC.nd
   have hxl:x∉l++T:=by
    have h1:=List.nodup_append.1 hnd2
    intro hmem
    rcases List.mem_append.1 hmem with hh | hh
    ·exact h1.2.2 x hh x (List.mem_cons_self ..) rfl
    ·exact (List.nodup_cons.1 h1.2.1).1 hh
   have hmT:∀ i,i∈l++x :: T↔listed.getD i true = false:=fun i=>by
    rw [← hC.mem i]; simp only [List.mem_append]; rw [hpx.mem_iff]
   have hcond:∀ w',(Ay w w')→QO ops kd bs w0 L0 T n l (listed.setIfInBounds x true) w':=fun w' hE =>
    ⟨hC.sub,by have:=hC.len; have:=hpx.length_eq; simp at *; omega,Ez hmT hxl hsz,by simpa using hC.sz,E3 hC.clo hbits,
     fun ⟨j,hj,hkj⟩=>(hC.inv ⟨j,by
      rcases List.mem_append.1 hj with hh | hh
      ·exact List.mem_append_left _ hh
      ·exact List.mem_append_right _ (hpx.mem_iff.2 (List.mem_cons_of_mem _ hh)),hkj⟩).trans hE,
     hnd2.sublist (List.Sublist.append_left (List.sublist_cons_self _ _) _)⟩
   obtain ⟨g1,g2⟩:=IT (Q:=Qx) hsel hox (by omega) l [] a w hfree (by simpa using hLx)
   unfold wpOp
   rw [hox]
   by_cases hw:Region.wanted ox (yielded ops a.tmps) = true
   ·simp only [hw,if_true]
    exact .inl (Oper.wp_mono (fun a' w' hK=>hrec l a' w' _ (hcond w' (hK.1 hkx)) (by simpa using hK.2)) (Hc (g1 hw)))
   ·simp only [hw,Bool.false_eq_true,if_false]
    exact hrec l _ w _ (hcond w (Ay.refl w)) (by simpa using g2 (by simpa using hw))
  refine ⟨fun h0=>?_,fun i hi=>?_⟩
  ·exfalso
   have hready:∀ (x:Nat) (t:List Nat),l++h1 :: S1 = x :: t→False:=fun x t ht=>by
    have hs:(x :: t).Pairwise (fun x y=>∀ ox,ops[x]? = some ox→∀ e∈ox.after,Region.binds md e = true→e.on≠y):=ht ▸ hord.sublist (List.Sublist.append_right hC.sub _)
    have:=Hd (md:=md) (i:=x) (l:=t) hC.sz (fun y=>ht ▸ hC.mem y) hlex (fun y hy ox hox=>(List.pairwise_cons.1 hs).1 y hy ox hox)
    rw [h0] at this
    cases this
   cases l with
   | nil=>exact hready _ _ rfl
   | cons x l=>exact hready x (l++h1 :: S1) rfl
  ·obtain ⟨hun,oi,hoi,hall⟩:=mem_ready.1 hi
   have hmem:=(hC.mem i).2 hun
   have hbits:=DR hS hC.clo hoi hall
   by_cases hil:i∈l
   ·obtain ⟨l1,l2,rfl⟩:=List.append_of_mem hil
    have hpi:∀ x∈l1,CM md ops kd bs x i:=fun x hx=>(List.pairwise_append.1 (hL.sublist hC.sub)).2.2 x hx i (List.mem_cons_self ..)
    have hfree:=CZ (kd:=kd) (l1:=l1) hoi (fun x hx=>(hpi x hx).1) (fun x hx=>hun_of x (by simp [hx])) hbits
    have hk:kd i≤2:=hl i (hC.sub.subset (by simp))
    have hsub0:(l1++l2).Sublist (l1++i :: l2):=List.Sublist.append_left (List.sublist_cons_self _ _) _
    have hnd1:(l1++i :: (l2++h1 :: S1)).Nodup:=by have:=hC.nd; rwa [List.append_assoc,List.cons_append] at this
    have hnot:i∉l1++(l2++h1 :: S1):=by
     have h1:=List.nodup_append.1 hnd1
     intro hmem
     rcases List.mem_append.1 hmem with hh | hh
     ·exact h1.2.2 i hh i (List.mem_cons_self ..) rfl
     ·exact (List.nodup_cons.1 h1.2.1).1 hh
    have hm1:∀ x,x∈l1++i :: (l2++h1 :: S1)↔listed.getD x true = false:=fun x=>by
     have:=hC.mem x; rwa [List.append_assoc,List.cons_append] at this
    have hcond:QO ops kd bs w0 L0 (h1 :: S1) n (l1++l2) (listed.setIfInBounds i true) w :=
     ⟨hsub0.trans hC.sub,by have:=hC.len; simp at *; omega,fun x=>by rw [List.append_assoc]; exact Ez hm1 hnot (CA hun) x,by simpa using hC.sz,E3 hC.clo hbits,
      fun ⟨j,hj,hkj⟩=>hC.inv ⟨j,by
       rcases List.mem_append.1 hj with hh | hh
       ·exact List.mem_append_left _ (hsub0.subset hh)
       ·exact List.mem_append_right _ hh,hkj⟩,
      hC.nd.sublist (List.Sublist.append_right hsub0 _)⟩
    obtain ⟨v,hv,hL'⟩:=HB hsel hoi hk l1 l2 a w hfree (fun h1=>hC.inv ⟨i,by simp,h1⟩) h
    unfold wpOp
    rw [hoi]
    have rec_:=fun a' hh=>KH hsel hS hlex hperm hk1 hk2 hl hL hf1 hf2 hz hord rec1 rec2 n (l1++l2) (listed.setIfInBounds i true) a' w hcond hh
    rcases hv with ⟨hw,hy⟩ | ⟨hw,rfl⟩
    ·simp only [hw,if_true]
     exact .inl (HW (hy w (Cl.self fun h1=>hC.inv ⟨i,by simp,h1⟩)) (rec_ _ hL'))
    ·simp only [hw,Bool.false_eq_true,if_false]
     exact rec_ _ hL'
   ·have hiS:i∈h1 :: S1:=(List.mem_append.1 hmem).resolve_left hil
    have h12:i = h1∨i = h2:=by
     rcases List.mem_cons.1 hiS with hh | hh
     ·exact .inl hh
     ·rcases hz i hh with hh | hh | hh
      ·exact .inr hh
      ·have q1:=hbits h1 hh
       have q2:=D1 (hun_of h1 (by simp))
       rw [q1] at q2; cases q2
      ·have q1:=hbits h2 hh
       have q2:=D1 (hun_of h2 ((hm2 h2).2 (by simp)))
       rw [q1] at q2; cases q2
    rcases h12 with rfl | rfl
    ·exact heavy i S1 Q1 hk1 (List.Perm.refl _) hf1 (Mr [i] l a w (LF (fun _ _ hh=>hh.1) l a w h)) (fun l' a' w' li hc hh=>rec1 n l' li a' w' hc hh) oi hoi hall
    ·exact heavy i S2 Q2 hk2 hperm hf2 (Mr [i] l a w (LF (fun _ _ hh=>hh.2) l a w h)) (fun l' a' w' li hc hh=>rec2 n l' li a' w' hc hh) oi hoi hall
theorem OJ (x:Nat)(l:List Nat)(a:Act)(w:World)(hh:LI P ops kd w0 Q (x::l) a w):LI P ops kd w0 (LI P ops kd w0 Q l) [x] a w:=by
 simp only[LI]at hh ⊢
 cases hoi:ops[x]? with
 |none=>rw[hoi]at hh;exact hh.elim
 |some o =>
  rw[hoi]at hh
  simp only at hh ⊢
  split
  ·rename_i hw
   rw[if_pos hw]at hh
   exact hh.mono (fun a w h=>h)
  ·rename_i hw
   rw[if_neg hw]at hh
   exact hh
end
def Si (ops:Array Oper)(x y:Nat):Bool:=match ops[x]? with|some ox=>ox.after.all fun e=>!Region.binds .any e || e.on != y|none=>true
def fw (os:List Oper)(ks:List Nat)(L0:List Nat)(h1 g1:Nat)(r1:List Nat)(g2:Nat)(r2:List Nat)(h2:Nat)(r3:List Nat):Bool :=
  let ops:=os.toArray
  let b:=(Region.before ops).toList
  Region.noSelect ops &&
  (os.zipIdx.all fun(o,j) =>
    (o.after.all fun e=>!Region.binds .any e || decide (e.on<j)) &&
    (let m:=o.after.foldl (fun s e=>if Region.binds .any e then s ||| 2 ^ e.on ||| b.getD e.on 0 else s) 0
     (b.getD j 0 == m))) &&
  (decide (ks.getD h1 0=3) && (decide (ks.getD h2 0=3) && (decide (ks.getD g1 0=3) && decide (ks.getD g2 0=3)))) &&
  (L0.all fun x=>decide (ks.getD x 0≤2)) &&
  Po (GK ops ks b) L0 &&
  (L0.all fun x=>GK ops ks b x h1 && (GK ops ks b x h2 && (GK ops ks b x g1 && GK ops ks b x g2))) &&
  ((h1::g1::r1).isPerm (h2::r3) && (g1::r1).isPerm (g2::r2)) &&
  ((g1::r1).all fun z=>decide (z=h2) || ((b.getD z 0).testBit h1 || (b.getD z 0).testBit h2)) &&
  (r1.all fun z=>decide (z=g2) || ((b.getD z 0).testBit g1 || (b.getD z 0).testBit g2)) &&
  (Po (Si ops) (L0++h1::g1::r1)) &&
  (Po (GK ops ks b) (L0++r1) && (Po (GK ops ks b) (L0++r2) && Po (GK ops ks b) (L0++r3))) &&
  (Po (fun x y=>!(decide (4≤ks.getD x 0)) || ks.getD y 0 != 1) (L0++r1) && (Po (fun x y=>!(decide (4≤ks.getD x 0)) || ks.getD y 0 != 1) (L0++r2) && Po (fun x y=>!(decide (4≤ks.getD x 0)) || ks.getD y 0 != 1) (L0++r3))) &&
  (decide ((L0++h1::g1::r1).length=os.length) && (decide (L0++h1::g1::r1).Nodup && ((L0++h1::g1::r1).all (fun x=>decide (x<os.length)) && (List.range os.length).all fun x=>(L0++h1::g1::r1).contains x)))
section
variable [J:JR] {P:Program}
theorem fy {id:Nat}{Q:Exit→Act→World→Prop}{a:Act}{w:World}(os:List Oper)(ks:List Nat)(L0:List Nat)(h1 g1:Nat)(r1:List Nat)(g2:Nat)(r2:List Nat)(h2:Nat)(r3:List Nat)
  (oL:List Oper) (kL:List Nat) (oh1 og1:Oper) (o1:List Oper) (k1:List Nat) (og2:Oper) (o2:List Oper) (k2:List Nat) (oh2:Oper) (o3:List Oper) (k3:List Nat) (hm:P.follows .mixedOrders=true) (hB:fw os ks L0 h1 g1 r1 g2 r2 h2 r3=true)
  (hML:Mt os.toArray (fun i=>ks.getD i 0) L0 oL kL) (hMh:Mt os.toArray (fun i=>ks.getD i 0) [h1] [oh1] [3]) (hM1:Mt os.toArray (fun i=>ks.getD i 0) (g1::r1) (og1::o1) (3::k1)) (hM2:Mt os.toArray (fun i=>ks.getD i 0) (g2::r2) (og2::o2) (3::k2)) (hM3:Mt os.toArray (fun i=>ks.getD i 0) (h2::r3) (oh2::o3) (3::k3))
  (h:LW P os.toArray w.drew (fun a' w'=>LW P os.toArray w.drew (fun a'' w''=>LW P os.toArray w.drew (fun a w=>Q .normal a w) (og1::o1) (3::k1) a'' w''∧LW P os.toArray w.drew (fun a w=>Q .normal a w) (og2::o2) (3::k2) a'' w'') [oh1] [3] a' w' ∧
   LW P os.toArray w.drew (fun a w=>Q .normal a w) (oh2::o3) (3::k3) a' w') oL kL a w.drew):(Code.region id os.toArray true).wp P Q a w:=by
 refine wp_region_any hm ?_
 simp only[fw,Bool.and_eq_true,decide_eq_true_eq]at hB
 obtain⟨⟨⟨⟨⟨⟨⟨⟨⟨⟨⟨⟨hsel,hpl⟩,hk1,hk2,hk3,hk4⟩,hl⟩,hpL⟩,hpx⟩,hpe1,hpe2⟩,hz1⟩,hz2⟩,hord⟩,hb1,hb2,hb3⟩,hn1,hn2,hn3⟩,hln,hnd,hlt,hct⟩:=hB
 have hz:∀ {j:Nat} {o:Oper},os.toArray[j]? = some o→(o,j)∈os.zipIdx:=by
  intro j o ho
  rw[List.mem_zipIdx_iff_getElem?]
  simpa using ho
 have hall:∀j oj,os.toArray[j]? = some oj→_:=fun j oj hj=>List.all_eq_true.1 hpl _ (hz hj)
 have hlex:∀j oj,os.toArray[j]? = some oj→∀e∈oj.after,Region.binds .any e=true→e.on<j:=by
  intro j oj hj e he hb
  have h1:=(Bool.and_eq_true _ _ ▸ hall j oj hj:_∧_).1
  have h2:=(Array.all_eq_true_iff_forall_mem.1 h1) e he
  simpa [hb]using h2
 have hS:L3 .any os.toArray (fun j=>(Region.before os.toArray).toList.getD j 0):=by
  intro j oj hj i hb
  have h3:=(Bool.and_eq_true _ _ ▸ hall j oj hj:_∧_).2
  have h5:(Region.before os.toArray).toList.getD j 0=oj.after.foldl (fun s e=>if Region.binds .any e then s ||| 2 ^ e.on ||| (Region.before os.toArray).toList.getD e.on 0 else s) 0:=by simpa using h3
  dsimp only at hb
  rw[h5,← Array.foldl_toList]at hb
  rcases FO _ _ _ _ hb with hb|⟨e,he,hbb,hh⟩
  ·simp at hb
  ·exact⟨e,Array.mem_toList_iff.1 he,hbb,hh⟩
 have hmem:∀x,x∈L0++h1::g1::r1↔x<os.length:=fun x=>by
  constructor
  ·intro hx;exact of_decide_eq_true (List.all_eq_true.1 hlt x hx)
  ·intro hx
   have:=List.all_eq_true.1 hct x (List.mem_range.2 hx)
   simpa using this
 have hse:=Region.noSelect_spec hsel
 have P2:∀ {l:List Nat},Po (GK os.toArray ks (Region.before os.toArray).toList) l=true→l.Pairwise (CM .any os.toArray (fun i=>ks.getD i 0) (fun j=>(Region.before os.toArray).toList.getD j 0)):=fun h=>FP (fun x y hh=>E4 hh) h
 have N2:∀ {l:List Nat},Po (fun x y=>!(decide (4≤ks.getD x 0)) || ks.getD y 0 != 1) l=true→l.Pairwise (fun x y=>4≤ks.getD x 0→ks.getD y 0≠1):=fun h=>FP (fun x y hxy h4=>by
  rcases Bool.or_eq_true_iff.1 hxy with hh|hh
  ·simp only[Bool.not_eq_true',decide_eq_false_iff_not]at hh;exact absurd h4 hh
  ·simpa using hh) h
 have hL2:∀x∈L0,ks.getD x 0≤2:=fun x hx=>of_decide_eq_true (List.all_eq_true.1 hl x hx)
 have hx4:∀x∈L0,_:=fun x hx=>List.all_eq_true.1 hpx x hx
 simp only[Bool.and_eq_true]at hx4
 have hordP:(L0++h1::g1::r1).Pairwise (fun x y=>∀ox,os.toArray[x]? = some ox→∀e∈ox.after,Region.binds .any e=true→e.on≠y):=FP (fun x y hh ox hox e he hb=>by
  unfold Si at hh
  rw[hox]at hh
  have:=(Array.all_eq_true_iff_forall_mem.1 hh) e he
  simpa [hb]using this) hord
 have hord2:(L0++g1::r1).Pairwise (fun x y=>∀ox,os.toArray[x]? = some ox→∀e∈ox.after,Region.binds .any e=true→e.on≠y):=hordP.sublist (List.Sublist.append_left (List.sublist_cons_self _ _) _)
 have zz1:∀z∈g1::r1,z=h2∨((Region.before os.toArray).toList.getD z 0).testBit h1=true∨((Region.before os.toArray).toList.getD z 0).testBit h2=true:=fun z hz=>by
  have:=List.all_eq_true.1 hz1 z hz
  simpa only[Bool.or_eq_true,decide_eq_true_eq]using this
 have zz2:∀z∈r1,z=g2∨((Region.before os.toArray).toList.getD z 0).testBit g1=true∨((Region.before os.toArray).toList.getD z 0).testBit g2=true:=fun z hz=>by
  have:=List.all_eq_true.1 hz2 z hz
  simpa only[Bool.or_eq_true,decide_eq_true_eq]using this
 have base1:=Ms (P:=P) (w0:=w.drew) (Q:=fun a w=>Q .normal a w) hse hS hlex (P2 hb1) (N2 hn1)
 have base2:=Ms (P:=P) (w0:=w.drew) (Q:=fun a w=>Q .normal a w) hse hS hlex (P2 hb2) (N2 hn2)
 have base3:=Ms (P:=P) (w0:=w.drew) (Q:=fun a w=>Q .normal a w) hse hS hlex (P2 hb3) (N2 hn3)
 have inner:=KH (P:=P) (w0:=w.drew) (Q:=fun a w=>Q .normal a w) hse hS hlex (h1:=g1) (h2:=g2) (S1:=r1) (S2:=r2) (List.isPerm_iff.1 hpe2) hk3 hk4 hL2 (P2 hpL) (fun x hx=>E4 (hx4 x hx).2.2.1) (fun x hx=>E4 (hx4 x hx).2.2.2) zz2 hord2 base1 base2
 have outer:=KH (P:=P) (w0:=w.drew) (Q:=fun a w=>Q .normal a w) hse hS hlex (h1:=h1) (h2:=h2) (S1:=g1::r1) (S2:=r3) (List.isPerm_iff.1 hpe1) hk1 hk2 hL2 (P2 hpL) (fun x hx=>E4 (hx4 x hx).1) (fun x hx=>E4 (hx4 x hx).2.1) zz1 hordP inner base3
 have key:=outer os.length L0 (Array.replicate os.length false) a w.drew ⟨List.Sublist.refl _,by rw[← hln,List.length_append],fun x=>?_,by simp,?_,fun _=>Ay.refl _,hnd⟩ ?_
 ·have:=He _ _ _ _ key
  simpa using this
 ·rw[hmem]
  constructor
  ·intro hx;simp[hx]
  ·intro hh
   rcases Nat.lt_or_ge x os.length with h'|h'
   ·exact h'
   ·simp[Array.getElem?_eq_none (show(Array.replicate os.length false).size≤x by simpa using h')]at hh
 ·intro i hi
  rcases Nat.lt_or_ge i os.length with h'|h'
  ·simp[h']at hi
  ·simp[Array.getElem?_eq_none (show(Array.replicate os.length false).size≤i by simpa using h')]at hi
 ·refine DA (fun a w hh=>⟨?_,?_⟩) _ _ _ _ _ hML h
  ·exact DA (fun a w hh=>⟨OJ _ _ _ _ (DA (fun _ _ h=>h) _ _ _ _ _ hM1 hh.1),OJ _ _ _ _ (DA (fun _ _ h=>h) _ _ _ _ _ hM2 hh.2)⟩) _ _ _ _ _ hMh hh.1
  ·exact OJ _ _ _ _ (DA (fun _ _ h=>h) _ _ _ _ _ hM3 hh.2)
theorem mF {ops:Array Oper}{w0:World}{Q:Act→World→Prop}{o:Oper}{os:List Oper}{ks:List Nat}{a:Act}{w:World}(h:_root_.Go.Proofs.YtnokbaiemimhjaaGreat.LW P ops w0 (fun a' w'=>Ay w w'∧LW P ops w0 Q os ks a' w') [o] [4] a w):LW P ops w0 Q (o::os) (3::ks) a w:=by
 simp only[_root_.Go.Proofs.YtnokbaiemimhjaaGreat.LW]at h
 simp only[LW]
 split
 ·rename_i hw
  rw[if_pos hw]at h
  unfold _root_.Go.Proofs.YtnokbaiemimhjaaGreat.BF at h
  unfold BF
  rw[if_neg (by decide),if_neg (by decide)]at h
  rw[if_neg (by decide),if_pos rfl]
  exact h
 ·rename_i hw
  rw[if_neg hw]at h
  exact h.2
theorem lB {ops:Array Oper}{w0:World}{Q:Act→World→Prop}{o:Oper}{os:List Oper}{ks:List Nat}{a:Act}{w:World}(h:_root_.Go.Proofs.YtnokbaiemimhjaaGreat.LW P ops w0 (fun a' w'=>LW P ops w0 Q os ks a' w') [o] [3] a w):LW P ops w0 Q (o::os) (3::ks) a w:=by
 simp only[_root_.Go.Proofs.YtnokbaiemimhjaaGreat.LW]at h
 simp only[LW]
 split
 ·rename_i hw
  rw[if_pos hw]at h
  unfold _root_.Go.Proofs.YtnokbaiemimhjaaGreat.BF at h
  unfold BF
  rw[if_neg (by decide),if_pos rfl]at h
  rw[if_neg (by decide),if_pos rfl]
  exact Oper.wp_mono (fun a w hh=>⟨J.ext hh.1,hh.2⟩) h
 ·rename_i hw
  rw[if_neg hw]at h
  exact h
end
end Jx
end
section
structure AF where
 op:Int
 a:Int
 b:Int
 num:Int
def AF.zero:AF:=⟨0,0,0,0⟩
structure QP where
 reg:Int
 z:Bool
def QP.zero:QP:=⟨0,false⟩
structure Tp where
 code:List AF
 grd:List QP
 vals:List Int
def kT (x:AF):List Value:=[.int .i64 x.op,.int .i64 x.a,.int .i64 x.b,.int .i64 x.num]
def lC (x:QP):List Value:=[.int .i64 x.reg,.bool x.z]
def YC (x:AF):Prop:=BC x.op∧BC x.a∧BC x.b∧BC x.num
def QQ:Bw AF:=fun _ cs x F=>cs=kT x∧YC x∧F=[]
def Sj:Bw QP:=fun _ cs x F=>cs=lC x∧BC x.reg∧F=[]
theorem AN:Ck 4 QQ where
 len:=fun h=>by rw[h.1];rfl
 one:=fun h u hu=>by
  rw[h.1]at hu
  simp only[kT,List.mem_cons,List.not_mem_nil,or_false]at hu
  rcases hu with rfl|rfl|rfl|rfl <;> exact⟨rfl,rfl⟩
 lt:=fun h b hb=>by rw[h.2.2]at hb;cases hb
 stable:=fun h _=>h
theorem AX:Ck 2 Sj where
 len:=fun h=>by rw[h.1];rfl
 one:=fun h u hu=>by
  rw[h.1]at hu
  simp only[lC,List.mem_cons,List.not_mem_nil,or_false]at hu
  rcases hu with rfl|rfl <;> exact⟨rfl,rfl⟩
 lt:=fun h b hb=>by rw[h.2.2]at hb;cases hb
 stable:=fun h _=>h
theorem Va {B U:Nat}{H:Array Obj}{x:AF}(h:YC x):kZ QQ B U H (kT x) x:=⟨[],⟨rfl,h,rfl⟩,List.nodup_nil,fun b hb=>by cases hb⟩
theorem dK {B U:Nat}{H:Array Obj}{x:QP}(h:BC x.reg):kZ Sj B U H (lC x) x:=⟨[],⟨rfl,h,rfl⟩,List.nodup_nil,fun b hb=>by cases hb⟩
section ops
variable {P:Program} {ops:Array Oper} {w0:World} {Q:Act→World→Prop} {os:List Oper} {ks:List Nat} {N:Nat} {ρ:Nat→Value} {w:World}
 {d:Nat} {ty:TypeId} {pos:String} {aft:Array Edge} {g:Option (Nat×Bool)} {t e:TypeId} {z:Value} {b s:Nat}
theorem OK {α:Type}{E:Bw α}(hE:Ck s E){x y:Operand}{v a:Value}{xs:List α}{y0:α}{B T B' U':Nat}{F:List Nat}(ht:P.underlying t=some (.slice e))(hi:TI P e s z b)(hz:z.cells.size=s)(hs:0<s)(hx:Bm N ρ x=v)(hy:Bm N ρ y=a)(hv:Ow (DN s E e) B T w.heap v xs F)
  (ha:Fr (DN s E e) B' U' w.heap a [y0]) (hT:T≤B') (hB:B≤B') (hBw:B≤w.heap.size) (hbytes:(xs.length+1)*b≤140737488355328) (hmx:xs.length+1≤maxLen) (hu:Up ops N ρ ⟨some d,.call ⟨.builtin .append,#[x,y],#[t,t]⟩,ty,pos,aft,g⟩)
  (h:∀v1 w1 F1,AE F w w1→Ow (DN s E e) B w1.heap.size w1.heap v1 (xs++[y0]) F1→(∀c∈F1,c∈F∨(B'≤c∧c<U')∨w.heap.size≤c)→LW P ops w0 Q os ks (mk N (CY ρ d v1)) w1) :
  LW P ops w0 Q (⟨some d,.call ⟨.builtin .append,#[x,y],#[t,t]⟩,ty,pos,aft,g⟩::os) (4::ks) (mk N ρ) w:=by
 obtain⟨v1,w1,F0,r1,⟨F1,r2,r3,r4⟩,r5,r6⟩:=Uo (P:=P) (ty:=ty) hE ht hi hz hs (S:=fun b=>b∈F) (T:=fun b=>B'≤b∧b<U') ⟨F,hv.own,hv.nodup,fun _ h=>h⟩ ha (fun b h1 h2=>by have:=hv.high b h1;omega) hbytes hmx
 have hh:∀c∈F1,c∈F∨(B'≤c∧c<U')∨w.heap.size≤c:=fun c hc=>by
  rcases r4 c hc with h|h|h
  ·exact .inl h
  ·exact .inr (.inl h)
  ·exact .inr (.inr (Nat.le_of_eq h.symm))
 exact Lc rfl hu v1 w1 (by simp only[execOp,resolve,invoke,builtin,List.map_toArray,List.map_cons,List.map_nil,Sem.run_bind,Sem.run_pure,Result.andThen_ok,hx,hy,r1])
  (h v1 w1 F1 (r5.sub r6) ⟨r2,r3,fun c hc=>by
   rcases hh c hc with h|h|h
   ·exact hv.low c h
   ·omega
   ·omega,fun c hc=>(Ax hE).lt r2 c hc⟩ hh)
theorem Mu {x y:Operand}{v a:Value}{xs ys:List Int}{B T:Nat}{F:List Nat}(ht:P.underlying t=some (.slice e))(hi:TI P e 1 z b)(hz:z.cells=#[z])(hx:Bm N ρ x=v)(hy:Bm N ρ y=a)(hv:Ow (AR rI e) B T w.heap v xs F)
  (ha:Rd (B3 rI) w.heap a ys) (hB:B≤w.heap.size) (hbytes:(xs.length+ys.length)*b≤140737488355328) (hmx:xs.length+ys.length≤maxLen) (hu:Up ops N ρ ⟨some d,.call ⟨.builtin .append,#[x,y],#[t,t]⟩,ty,pos,aft,g⟩)
  (h:∀v1 w1 F1,AE F w w1→Ow (AR rI e) B w1.heap.size w1.heap v1 (xs++ys) F1→(∀c∈F1,c∈F∨w.heap.size≤c)→LW P ops w0 Q os ks (mk N (CY ρ d v1)) w1) :
  LW P ops w0 Q (⟨some d,.call ⟨.builtin .append,#[x,y],#[t,t]⟩,ty,pos,aft,g⟩::os) (4::ks) (mk N ρ) w:=by
 obtain⟨G,g1⟩:=ha
 have hG:G.drop 1=[]:=by
  rcases g1 with⟨_,_,_,_,rfl⟩|⟨us,g,off,cap,cur,e',fr,G',hels,_,_,_,_,rfl⟩
  ·rfl
  ·exact J8 hels
 obtain⟨v',w',F',r1,r2,r3,r4,r5⟩:=Gl (P:=P) (ty:=ty) AO ht hi hz hv.own hv.nodup g1 rfl hbytes hmx (fun c hc=>by rw[hG]at hc;cases hc) (by rw[hG];exact List.nodup_nil)
 have hh:∀c∈F',c∈F∨w.heap.size≤c:=fun c hc=>by
  rcases r4 c hc with h|h|h
  ·exact .inl h
  ·rw[hG]at h;cases h
  ·exact .inr (Nat.le_of_eq h.symm)
 exact Lc rfl hu v' w' (by simp only[execOp,resolve,invoke,builtin,List.map_toArray,List.map_cons,List.map_nil,Sem.run_bind,Sem.run_pure,Result.andThen_ok,hx,hy,r1])
  (h v' w' F' (r5.sub fun c hc=>List.mem_of_mem_take hc) ⟨r2,r3,fun c hc=>by
   rcases hh c hc with h|h
   ·exact hv.low c h
   ·omega,fun c hc=>(Bb AO).lt r2 c hc⟩ hh)
theorem YD {x y:Operand} {v a u:Value} {xs:List Int} {r:Int} {S:List Nat} {B' U':Nat} (ht:P.underlying t = some (.slice e)) (hi:TI P e 1 z b) (hz:z.cells = #[z]) (hx:Bm N ρ x = JH v) (hy:Bm N ρ y = a)
  (hv:RN S (B3 rI) w.heap v xs) (ha:Fr (AR rV e) B' U' w.heap a [u]) (hr:RN S rI w.heap u r) (hS:∀ c∈S,c < w.heap.size) (hbytes:(xs.length + 1) * b≤140737488355328) (hmx:xs.length + 1≤maxLen)
  (hu:Up ops N ρ ⟨some d,.call ⟨.builtin .append,#[x,y],#[t,t]⟩,ty,pos,aft,g⟩)
  (h:∀ v1 w1,Ay w w1→RN S (B3 rI) w1.heap v1 (xs++[r])→Cf v1→LW P ops w0 Q os ks (mk N (CY ρ d v1)) w1) :
  LW P ops w0 Q (⟨some d,.call ⟨.builtin .append,#[x,y],#[t,t]⟩,ty,pos,aft,g⟩ :: os) (4 :: ks) (mk N ρ) w:=by
 obtain ⟨G,g1',g2',g3'⟩:=ha
 obtain ⟨K,k1,k2⟩:=hv
 obtain ⟨R,r1,r2⟩:=hr
 obtain ⟨i,h1,h2,h3,h4⟩:=hi.get
 subst h4
 have hone:=AO.one r1
 rcases g1' with ⟨_,hc,_⟩ | ⟨asq,ga,capa,cura,Fa,helsa,hav,hga,qa1,qa2,qa3,qa4,rfl⟩
 ·cases hc
 ·obtain ⟨hq,hFa⟩:=FD helsa
  subst hq
  subst hav
  have hnews:∀ j q,[u][j]? = some q→w.cell? ((⟨ga,0,none⟩:Addr).add j) = some q:=by
   intro j q hj
   rw [J9,C6]
   simp only [BZ,hga]
   rw [← qa4,List.getElem?_take] at hj
   split at hj
   ·simpa using hj
   ·cases hj
  have made:∀ (w1:World) (ous:List Value) (K0:List Nat) (rest:Nat),w1.heap = w.heap→w1.os = w.os→w1.tape = w.tape→w1.output = w.output→els rI w.heap ous xs K0→(∀ c∈K0,c∈K)→xs.length + 1 + rest≤maxLen →
    Ay w (w1.alloc (.cells (ous.toArray++[u].toArray++Builtin.zeroCells z.cells rest) e))∧RN S (B3 rI) (w1.alloc (.cells (ous.toArray++[u].toArray++Builtin.zeroCells z.cells rest) e)).heap (.slice (some ⟨w.heap.size,0,none⟩) (xs.length + 1) (xs.length + 1 + rest)) (xs++[r]):=by
   intro w1 ous K0 rest hh ho htp hop hou hsub hmax
   have hE:Ay w (w1.alloc (.cells (ous.toArray++[u].toArray++Builtin.zeroCells z.cells rest) e)):=by
    refine ⟨ho,htp,hop,?_,fun k hk=>?_⟩
    ·show w.heap.size≤(w1.heap.push _).size
     rw [hh]; simp
    ·have:=Below.heap_alloc w1 (.cells (ous.toArray++[u].toArray++Builtin.zeroCells z.cells rest) e) k (by rw [hh]; exact hk)
     rw [this,hh]
   refine ⟨hE,w.heap.size :: (K0++R),.inr ⟨ous++[u],w.heap.size,0,xs.length + 1 + rest,(ous.toArray++[u].toArray++Builtin.zeroCells z.cells rest),e,(0,0),K0++R,?_,by simp,?_,?_,by simp; omega,rfl⟩,?_⟩
   ·refine els.stable AO (hou.append (show els rI w.heap [u] [r] R from ⟨R,[],by simp,r1,rfl⟩)) fun c hc=>hE.heap ?_
    exact (hou.append (show els rI w.heap [u] [r] R from ⟨R,[],by simp,r1,rfl⟩)).lt AO c hc
   ·have:=heap_alloc_new w1 (.cells (ous.toArray++[u].toArray++Builtin.zeroCells z.cells rest) e)
    rw [hh] at this; exact this
   ·have hl:=hou.length
    simp only [Array.toList_append,List.drop_zero]
    rw [show (xs++[r]).length = (ous++[u]).length from by simp [hl]]
    exact List.take_left
   ·intro c hc hm
    rcases List.mem_cons.1 hc with rfl | hc
    ·have:=hS _ hm; omega
    ·rcases List.mem_append.1 hc with hc | hc
     ·exact k2 c (hsub c hc) hm
     ·exact r2 c hc hm
  have hone1:[u].length = [u].length * i.size:=by rw [h3,Nat.mul_one]
  rcases k1 with ⟨a0,cap0,rfl,rfl,rfl⟩ | ⟨ous,gv,off,cap,cur,e',fr,K',hels,rfl,hg,hw,_,rfl⟩
  ·-- nothing so far
   cases a0 with
   | none =>
    have hrr:=run_append_nil (P:=P) w t ty e i z ht h1 h2 ⟨ga,0,none⟩ 1 capa [u] hone1 hnews (by decide) (by decide) (by simp at hbytes; omega)
    have hge:=grownCap_ge w 1 0 e
    have hgm:=grownCap_le_maxLen w 1 0 e (by simpa using hmx)
    obtain ⟨q1,q2⟩:=made w.drew [] [] (grownCap w 1 0 e - 1) rfl rfl rfl rfl rfl (fun c hc=>by cases hc) (by simp; omega)
    refine Lc rfl hu _ _ (by simp only [execOp,resolve,invoke,builtin,List.map_toArray,List.map_cons,List.map_nil,Sem.run_bind,Sem.run_pure,Result.andThen_ok,hx,hy,JH]; rw [show [u].length = 1 from rfl,hrr]; rfl) (h _ _ ?_ ?_ ?_)
    ·simpa using q1
    ·have ea:(([]:List Int).length + 1 + (grownCap w 1 0 e - 1)) = grownCap w 1 0 e:=by simp; omega
     rw [ea] at q2
     simpa using q2
    ·exact hge
   | some a1 =>
    have hrr:=run_append_grow (P:=P) w t ty e i z ht h1 h2 a1 0 0 [] (by rw [h3]; rfl) (by intro j q hj; cases hj) ⟨ga,0,none⟩ 1 capa [u] hone1 hnews (by omega) (by decide) (growslice_fits (by omega) (by simpa using hbytes))
    have hge:=grownCap_ge w (0 + 1) 0 e
    have hgm:=grownCap_le_maxLen w (0 + 1) 0 e (by simpa using hmx)
    obtain ⟨q1,q2⟩:=made w.drew [] [] (grownCap w (0 + 1) 0 e - (0 + 1)) rfl rfl rfl rfl rfl (fun c hc=>by cases hc) (by show 0 + 1 + (grownCap w (0 + 1) 0 e - (0 + 1))≤maxLen; omega)
    refine Lc rfl hu _ _ (by simp only [execOp,resolve,invoke,builtin,List.map_toArray,List.map_cons,List.map_nil,Sem.run_bind,Sem.run_pure,Result.andThen_ok,hx,hy,JH]; rw [show [u].length = 1 from rfl,hrr]; rfl) (h _ _ q1 ?_ ?_)
    rotate_left
    ·exact hge
    have ea:(([]:List Int).length + 1 + (grownCap w (0 + 1) 0 e - (0 + 1))) = grownCap w (0 + 1) 0 e:=by show 0 + 1 + (grownCap w (0 + 1) 0 e - (0 + 1)) = _; omega
    rw [ea] at q2
    simpa using q2
  ·have holds:∀ j q,ous[j]? = some q→w.cell? ((⟨gv,off,none⟩:Addr).add j) = some q:=by
    intro j q hj
    rw [J9,C6]
    simp only [BZ,hg]
    rw [← hw,List.getElem?_take] at hj
    split at hj
    ·rw [List.getElem?_drop] at hj; simpa using hj
    ·cases hj
   have hrr:=run_append_grow (P:=P) w t ty e i z ht h1 h2 ⟨gv,off,none⟩ xs.length xs.length ous (by rw [h3,hels.length]; omega) holds ⟨ga,0,none⟩ 1 capa [u] hone1 hnews (by omega) (by simp only [maxLen] at hmx; omega) (growslice_fits (by omega) hbytes)
   have hge:=grownCap_ge w (xs.length + 1) xs.length e
   have hgm:=grownCap_le_maxLen w (xs.length + 1) xs.length e hmx
   obtain ⟨q1,q2⟩:=made w.drew ous K' (grownCap w (xs.length + 1) xs.length e - (xs.length + 1)) rfl rfl rfl rfl hels (fun c hc=>List.mem_cons_of_mem _ hc) (by omega)
   refine Lc rfl hu _ _ (by simp only [execOp,resolve,invoke,builtin,List.map_toArray,List.map_cons,List.map_nil,Sem.run_bind,Sem.run_pure,Result.andThen_ok,hx,hy,JH]; rw [show [u].length = 1 from rfl,hrr]; rfl) (h _ _ q1 ?_ ?_)
   rotate_left
   ·exact hge
   have ea:(xs.length + 1 + (grownCap w (xs.length + 1) xs.length e - (xs.length + 1))) = grownCap w (xs.length + 1) xs.length e:=by omega
   rw [ea] at q2
   exact q2
end ops
def CG (t1 t2 t3:TypeId)(S:List Nat)(g:Nat)(H:Array Obj)(vc vg vv:Value)(T:Tp):Prop :=
 ∃Fc Fg Fv,Ow (DN 4 QQ t1) 0 H.size H vc T.code Fc∧Ow (DN 2 Sj t2) 0 H.size H vg T.grd Fg∧Ow (AR rI t3) 0 H.size H vv T.vals Fv ∧
  ((∀b∈Fc,b∉Fg)∧(∀b∈Fc,b∉Fv)∧(∀b∈Fg,b∉Fv))∧(g∉Fc∧g∉Fg∧g∉Fv)∧(∀b∈Fc,b∈S)∧(∀b∈Fg,b∈S)∧(∀b∈Fv,b∈S)
section rcm
variable {t1 t2 t3:TypeId} {S S':List Nat} {g:Nat} {w w':World} {vc vg vv:Value} {T:Tp}
theorem Ow.chgS {α:Type}{E:Bc α}(hE:BI E){B:Nat}{v:Value}{x:α}{F G:List Nat}(h:Ow E B w.heap.size w.heap v x F)(c:AE G w w')(hG:∀b∈G,b∉F):Ow E B w'.heap.size w'.heap v x F:=(h.keep hE c hG).up c.size
theorem CG.ext (h:CG t1 t2 t3 S g w.heap vc vg vv T)(k:Ay w w'):CG t1 t2 t3 S g w'.heap vc vg vv T:=by
 obtain⟨Fc,Fg,Fv,h1,h2,h3,h4⟩:=h
 exact⟨Fc,Fg,Fv,(h1.ext (Ax AN) k).up k.size,(h2.ext (Ax AX) k).up k.size,(h3.ext (Bb AO) k).up k.size,h4⟩
theorem CG.chg (h:CG t1 t2 t3 S g w.heap vc vg vv T)(k:AE [g] w w'):CG t1 t2 t3 S g w'.heap vc vg vv T:=by
 obtain⟨Fc,Fg,Fv,h1,h2,h3,h4,h5,h6⟩:=h
 exact⟨Fc,Fg,Fv,h1.chgS (Ax AN) k fun b hb hm=>by rw[Ab hb]at hm;exact h5.1 hm,h2.chgS (Ax AX) k fun b hb hm=>by rw[Ab hb]at hm;exact h5.2.1 hm,
  h3.chgS (Bb AO) k fun b hb hm=>by rw[Ab hb]at hm;exact h5.2.2 hm,h4,h5,h6⟩
theorem CG.chgO {F:List Nat}(h:CG t1 t2 t3 S g w.heap vc vg vv T)(k:AE F w w')(hF:∀b∈F,b∉S):CG t1 t2 t3 S g w'.heap vc vg vv T:=by
 obtain⟨Fc,Fg,Fv,h1,h2,h3,h4,h5,h6⟩:=h
 exact⟨Fc,Fg,Fv,h1.chgS (Ax AN) k fun b hb hm=>hF b hb (h6.1 b hm),h2.chgS (Ax AX) k fun b hb hm=>hF b hb (h6.2.1 b hm),
  h3.chgS (Bb AO) k fun b hb hm=>hF b hb (h6.2.2 b hm),h4,h5,h6⟩
theorem CG.rdv (h:CG t1 t2 t3 S g w.heap vc vg vv T):Rd (B3 rI) w.heap vv T.vals:=by
 obtain⟨Fc,Fg,Fv,h1,h2,h3,_⟩:=h
 exact h3.fr.rd1
theorem CG.slv (h:CG t1 t2 t3 S g w.heap vc vg vv T):FC vv T.vals.length:=by
 obtain⟨Fc,Fg,Fv,h1,h2,h3,_⟩:=h
 exact h3.fr.isSl
theorem CG.slc (h:CG t1 t2 t3 S g w.heap vc vg vv T):FC vc T.code.length:=by
 obtain⟨Fc,Fg,Fv,h1,h2,h3,_⟩:=h
 exact h1.own.isSl
theorem CG.slg (h:CG t1 t2 t3 S g w.heap vc vg vv T):FC vg T.grd.length:=by
 obtain⟨Fc,Fg,Fv,h1,h2,h3,_⟩:=h
 exact h2.own.isSl
end rcm
def TR (t1 t2 t3:TypeId)(S:List Nat)(g:Nat)(H:Array Obj)(vp:Value)(ip:Int)(T:Tp)(s:Nat)(c:Int):Prop :=
 ∃vc vg vv,BX H g [vp,.int .i64 ip,vc,vg,.slice none 0 0,vv,.int .i64 ((s:Nat):Int),.int .i64 c]∧CG t1 t2 t3 S g H vc vg vv T
theorem RN.stp {α:Type}{E:Bc α}(hE:BI E){S S':List Nat}{w w':World}{v:Value}{x:α}(h:RN S E w.heap v x)(c:AE S w w')(hs:∀b∈S',b∈S∨w.heap.size≤b):RN S' E w'.heap v x:=by
 obtain⟨F,h1,h2⟩:=h
 refine⟨F,hE.stable h1 fun b hb=>c.block b (hE.lt h1 b hb) (h2 b hb),fun b hb hm=>?_⟩
 rcases hs b hm with hh|hh
 ·exact h2 b hb hh
 ·have:=hE.lt h1 b hb;omega
theorem AE.stp {S S':List Nat}{a b c:World}(h:AE S a b)(k:AE S' b c)(hs:∀x∈S',x∈S∨a.heap.size≤x):AE S a c :=
 ⟨k.os.trans h.os,k.tape.trans h.tape,k.output.trans h.output,Aa h.size k.size,fun i hi hm=>(k.block i (Nat.lt_of_lt_of_le hi h.size) fun hh=>by
  rcases hs i hh with h9|h9
  ·exact hm h9
  ·omega).trans (h.block i hi hm)⟩
theorem QR {S S' S'':List Nat}{n m:Nat}(h:∀b∈S',b∈S∨n≤b)(k:∀b∈S'',b∈S'∨m≤b)(hn:n≤m):∀b∈S'',b∈S∨n≤b:=fun b hb=>by
 rcases k b hb with hh|hh
 ·exact h b hh
 ·exact .inr (by omega)
end
section
def Tp.put (T:Tp)(c:AF)(v:Int):Tp:=⟨T.code++[c],T.grd,T.vals++[v]⟩
def Tp.guard (T:Tp)(r:Int)(z:Bool):Tp:=⟨T.code,T.grd++[⟨r,z⟩],T.vals⟩
def Tp.at (T:Tp)(r:Int):Int:=T.vals.getD r.toNat 0
abbrev RI:=Int×Tp
abbrev RL:=List Int×Tp
structure Cg where
 one:Nat→Nat→List Int→Nat→Tp→Rs RI
 all:Nat→List Int→Nat→Tp→Rs RL
def Je (f:List Int→Nat→Tp→Rs RL):Nat→List Int→Nat→Tp→Rs RL
 |0,a,s,T=>.ok (a,T) s
 |k+1,a,s,T=>(Je f k a s T).bind fun x t=>f x.1 t x.2
def HP (k x y:Int):Int:=if k=3 then md (x+y)else if k=4 then md (x-y)else if k=5 then md (x*y)else if k=7 then md (0-x)else md (x*inv y)
def KI (k:Int)(xs:List Int):AF:=⟨k,xs.getD 0 0,if k=7 then 0 else xs.getD 1 0,0⟩
def Vb (k:Int)(xs:List Int)(t:Nat)(T:Tp):Rs RI :=
 if k≠3∧k≠4∧k≠5∧k≠7∧T.at (KI k xs).b=0 then .err 6
 else .ok (((T.vals.length:Nat):Int),T.put (KI k xs) (HP k (T.at (KI k xs).a) (T.at (KI k xs).b))) t
mutual
def HD (C:Cg):Ex→List Int→Nat→Tp→Rs RI
 |.mk k num pick cnt l,env,s,T =>
  if 3000≤s then .err 7
  else if k=1 then .ok (((T.vals.length:Nat):Int),T.put ⟨2,0,0,num⟩ num) (s+1)
  else if k=2 then .ok (env.getD num.toNat 0,T) (s+1)
  else if k=8 then(QT C l 0 env (s+1) T).bind fun x t=>if x.2.at x.1=0 then QT C l 1 env t (x.2.guard x.1 true)else QT C l 2 env t (x.2.guard x.1 false)
  else if k=9 then(QT C l 0 env (s+1) T).bind fun x t=>QT C l 1 (env++[x.1]) t x.2
  else(It C l env (s+1) T).bind fun xs t =>
   if k=10 then C.one num.toNat pick.toNat xs.1 t xs.2
   else if k=11 then(Je (C.all num.toNat) cnt.toNat xs.1 t xs.2).bind fun ys u=>.ok (ys.1.getD pick.toNat 0,ys.2) u
   else Vb k xs.1 t xs.2
def QT (C:Cg):List Ex→Nat→List Int→Nat→Tp→Rs RI
 |[],_,_,_,_=>.err 0
 |e::_,0,env,s,T=>HD C e env s T
 |_::l,j+1,env,s,T=>QT C l j env s T
def It (C:Cg):List Ex→List Int→Nat→Tp→Rs RL
 |[],_,s,T=>.ok ([],T) s
 |e::l,env,s,T=>(HD C e env s T).bind fun x t=>(It C l env t x.2).bind fun xs u=>.ok (x.1::xs.1,xs.2) u
end
theorem FY (C:Cg)(env:List Int)(s:Nat)(T:Tp):∀(l:List Ex)(j:Nat),j<l.length→QT C l j env s T=HD C (l.getD j Ex.zero) env s T
 |[],j,h=>by simp at h
 |e::l,0,_=>by rw[QT];rfl
 |e::l,j+1,h=>by rw[QT,FY C env s T l j (by simpa using h)];simp
theorem PX (C:Cg)(env:List Int)(e:Ex):∀(l:List Ex)(s:Nat)(T:Tp),It C (l++[e]) env s T=(It C l env s T).bind fun xs t=>(HD C e env t xs.2).bind fun x u=>.ok (xs.1++[x.1],x.2) u
 |[],s,T=>by
  rw[List.nil_append,It,It]
  simp only[Rs.bind_ok]
  cases HD C e env s T <;> simp only[Rs.bind_ok,Rs.bind_err,It] <;> rfl
 |a::l,s,T=>by
  rw[List.cons_append,It,It]
  cases HD C a env s T with
  |err c=>rfl
  |ok x t =>
   simp only[Rs.bind_ok]
   rw[PX C env e l t]
   simp only[Rs.bind_assoc]
   cases It C l env t x.2 with
   |err c=>rfl
   |ok xs u =>
    simp only[Rs.bind_ok]
    cases HD C e env u xs.2 <;> rfl
theorem Vc {C:Cg}{env:List Int}{s:Nat}{T:Tp}{l:List Ex}{k:Nat}(hk:k<l.length):It C (l.take (k+1)) env s T=(It C (l.take k) env s T).bind fun xs t=>(HD C (l.getD k Ex.zero) env t xs.2).bind fun x u=>.ok (xs.1++[x.1],x.2) u:=by
 rw[List.take_succ_eq_append_getElem hk,PX]
 simp[hk]
theorem Hm (C:Cg)(e:Ex)(env:List Int)(s:Nat)(T:Tp):HD C e env s T =
  if 3000≤s then .err 7
  else if e.kind=1 then .ok (((T.vals.length:Nat):Int),T.put ⟨2,0,0,e.num⟩ e.num) (s+1)
  else if e.kind=2 then .ok (env.getD e.num.toNat 0,T) (s+1)
  else if e.kind=8 then(QT C e.kids 0 env (s+1) T).bind fun x t=>if x.2.at x.1=0 then QT C e.kids 1 env t (x.2.guard x.1 true)else QT C e.kids 2 env t (x.2.guard x.1 false)
  else if e.kind=9 then(QT C e.kids 0 env (s+1) T).bind fun x t=>QT C e.kids 1 (env++[x.1]) t x.2
  else(It C e.kids env (s+1) T).bind fun xs t =>
   if e.kind=10 then C.one e.num.toNat e.pick.toNat xs.1 t xs.2
   else if e.kind=11 then(Je (C.all e.num.toNat) e.count.toNat xs.1 t xs.2).bind fun ys u=>.ok (ys.1.getD e.pick.toNat 0,ys.2) u
   else Vb e.kind xs.1 t xs.2:=by cases e;rw[HD];rfl
def Li (p:List Fn):Nat→Cg
 |0=>⟨fun _ _ _ _ _=>.err 0,fun _ _ _ _=>.err 0⟩
 |k+1=>⟨fun f j a s T=>if f=k then HD (Li p k) ((p.getD k Fn.zero).outs.getD j Ex.zero) a s T else(Li p k).one f j a s T,
   fun f a s T=>if f=k then It (Li p k) (p.getD k Fn.zero).outs a s T else(Li p k).all f a s T⟩
theorem Sk {p:List Fn}{f j:Nat}{a:List Int}{s:Nat}{T:Tp}:∀ {F:Nat},f<F→(Li p F).one f j a s T=HD (Li p f) ((p.getD f Fn.zero).outs.getD j Ex.zero) a s T
 |0,h=>by omega
 |F+1,h=>by
  show(if f=F then _ else _)=_
  split
  ·rename_i e;rw[e]
  ·exact Sk (by omega)
theorem OL {p:List Fn}{f:Nat}{a:List Int}{s:Nat}{T:Tp}:∀ {F:Nat},f<F→(Li p F).all f a s T=It (Li p f) (p.getD f Fn.zero).outs a s T
 |0,h=>by omega
 |F+1,h=>by
  show(if f=F then _ else _)=_
  split
  ·rename_i e;rw[e]
  ·exact OL (by omega)
section
variable {C:Cg} {e:Ex} {env:List Int} {s s1 s2:Nat} {c c1 c2:Int} {T T1 T2:Tp} {x y:Int} {xs ys:List Int}
theorem YE {α:Type}{r:Rs α}{x:α}(hc:c≠0):AT (go c r) x s c:=AT.mk_err (Du hc r) hc
theorem TC {x:RI}(hc:c=0)(hs:s=3000):AT (go c (HD C e env s T)) x s1 7:=by
 subst hc;rw[CV,Hm,if_pos (by omega)];exact AT.mk_err rfl (by decide)
theorem dL (hc:c=0)(hs:s+1≤3000)(hk:e.kind=1):AT (go c (HD C e env s T)) (((T.vals.length:Nat):Int),T.put ⟨2,0,0,e.num⟩ e.num) (s+1) c:=by
 subst hc;rw[CV,Hm,if_neg (by omega),if_pos hk];exact AT.mk_ok rfl
theorem dM (hc:c=0)(hs:s+1≤3000)(hk:e.kind=2):AT (go c (HD C e env s T)) (env.getD e.num.toNat 0,T) (s+1) c:=by
 subst hc;rw[CV,Hm,if_neg (by omega),if_neg (by omega),if_pos hk];exact AT.mk_ok rfl
theorem dN {z:RI}(hc:c=0)(hs:s+1≤3000)(hk:e.kind=8)(hl:e.kids.length=3)(h1:AT (go c (HD C (e.kids.getD 0 Ex.zero) env (s+1) T)) (x,T1) s1 c1)(hc1:c1≠0):AT (go c (HD C e env s T)) z s2 c1:=by
 subst hc
 rw[CV]at h1
 rw[CV,Hm,if_neg (by omega),if_neg (by omega),if_neg (by omega),if_pos hk,FY _ _ _ _ _ _ (by omega),h1.bindE hc1]
 exact AT.mk_err rfl hc1
theorem dO (hc:c=0)(hs:s+1≤3000)(hk:e.kind=8)(hl:e.kids.length=3)(h1:AT (go c (HD C (e.kids.getD 0 Ex.zero) env (s+1) T)) (x,T1) s1 c1)(hc1:c1=0)(hx:T1.at x=0)
  (h2:AT (go c1 (HD C (e.kids.getD 1 Ex.zero) env s1 (T1.guard x (decide (T1.at x=0))))) (y,T2) s2 c2):AT (go c (HD C e env s T)) (y,T2) s2 c2:=by
 subst hc;subst hc1
 rw[CV]at h1 h2
 rw[CV,Hm,if_neg (by omega),if_neg (by omega),if_neg (by omega),if_pos hk,FY _ _ _ _ _ _ (by omega),h1.bindO]
 dsimp only
 rw[A7 hx]at h2
 rw[if_pos hx,FY _ _ _ _ _ _ (by omega)];exact h2
theorem dP (hc:c=0)(hs:s+1≤3000)(hk:e.kind=8)(hl:e.kids.length=3)(h1:AT (go c (HD C (e.kids.getD 0 Ex.zero) env (s+1) T)) (x,T1) s1 c1)(hc1:c1=0)(hx:¬T1.at x=0)
  (h2:AT (go c1 (HD C (e.kids.getD 2 Ex.zero) env s1 (T1.guard x (decide (T1.at x=0))))) (y,T2) s2 c2):AT (go c (HD C e env s T)) (y,T2) s2 c2:=by
 subst hc;subst hc1
 rw[CV]at h1 h2
 rw[CV,Hm,if_neg (by omega),if_neg (by omega),if_neg (by omega),if_pos hk,FY _ _ _ _ _ _ (by omega),h1.bindO]
 dsimp only
 rw[A8 hx]at h2
 rw[if_neg hx,FY _ _ _ _ _ _ (by omega)];exact h2
theorem dQ (hc:c=0)(hs:s+1≤3000)(hk:e.kind=9)(hl:e.kids.length=2)(h1:AT (go c (HD C (e.kids.getD 0 Ex.zero) env (s+1) T)) (x,T1) s1 c1)
  (h2:AT (go c1 (HD C (e.kids.getD 1 Ex.zero) (env++[x]) s1 T1)) (y,T2) s2 c2):AT (go c (HD C e env s T)) (y,T2) s2 c2:=by
 subst hc
 rw[CV,Hm,if_neg (by omega),if_neg (by omega),if_neg (by omega),if_neg (by omega),if_pos hk,FY _ _ _ _ _ _ (by omega)]
 rw[CV]at h1
 by_cases h0:c1=0
 ·subst h0;rw[h1.bindO,FY _ _ _ _ _ _ (by omega)];exact h2
 ·rw[h1.bindE h0];rw[Du h0]at h2;exact h2
theorem JW (hs:s+1≤3000)(h1:e.kind≠1)(h2:e.kind≠2)(h8:e.kind≠8)(h9:e.kind≠9):HD C e env s T=(It C e.kids env (s+1) T).bind fun xs t =>
  if e.kind=10 then C.one e.num.toNat e.pick.toNat xs.1 t xs.2
   else if e.kind=11 then(Je (C.all e.num.toNat) e.count.toNat xs.1 t xs.2).bind fun ys u=>.ok (ys.1.getD e.pick.toNat 0,ys.2) u
   else Vb e.kind xs.1 t xs.2:=by
 rw[Hm,if_neg (by omega),if_neg h1,if_neg h2,if_neg h8,if_neg h9]
theorem Vd {z:RI}(hc:c=0)(hs:s+1≤3000)(h1:e.kind≠1)(h2:e.kind≠2)(h8:e.kind≠8)(h9:e.kind≠9)(hr:AT (go c (It C e.kids env (s+1) T)) (xs,T1) s1 c1)(hc1:c1≠0):AT (go c (HD C e env s T)) z s2 c1:=by
 subst hc
 rw[CV]at hr ⊢
 rw[JW hs h1 h2 h8 h9,hr.bindE hc1];exact AT.mk_err rfl hc1
theorem YF {p:List Fn}{F:Nat}(hc:c=0)(hs:s+1≤3000)(hk:e.kind=10)(hF:e.num.toNat<F)(hr:AT (go c (It (Li p F) e.kids env (s+1) T)) (xs,T1) s1 c1)(hc1:c1=0)
  (h2:AT (go c1 (HD (Li p e.num.toNat) ((p.getD e.num.toNat Fn.zero).outs.getD e.pick.toNat Ex.zero) xs s1 T1)) (y,T2) s2 c2):AT (go c (HD (Li p F) e env s T)) (y,T2) s2 c2:=by
 subst hc;subst hc1
 rw[CV]at hr h2 ⊢
 rw[JW hs (by omega) (by omega) (by omega) (by omega),hr.bindO,if_pos hk,Sk hF];exact h2
theorem YG {p:List Fn}{F:Nat}(hc:c=0)(hs:s+1≤3000)(hk:e.kind=11)(hF:e.num.toNat<F)(hr:AT (go c (It (Li p F) e.kids env (s+1) T)) (xs,T1) s1 c1)(hc1:c1=0)
  (h2:AT (Je (fun a t U=>It (Li p e.num.toNat) (p.getD e.num.toNat Fn.zero).outs a t U) e.count.toNat xs s1 T1) (ys,T2) s2 c2):AT (go c (HD (Li p F) e env s T)) (ys.getD e.pick.toNat 0,T2) s2 c2:=by
 subst hc;subst hc1
 rw[CV]at hr ⊢
 rw[JW hs (by omega) (by omega) (by omega) (by omega),hr.bindO,if_neg (by omega),if_pos hk]
 have hl:(Li p F).all e.num.toNat=fun a t U=>It (Li p e.num.toNat) (p.getD e.num.toNat Fn.zero).outs a t U:=funext fun a=>funext fun t=>funext fun U=>OL hF
 rw[hl]
 by_cases h0:c2=0
 ·subst h0;rw[h2.bindO];exact AT.mk_ok rfl
 ·rw[h2.bindE h0];exact AT.mk_err rfl h0
theorem fz {z:RI}(hc:c=0)(hs:s+1≤3000)(h1:e.kind≠1)(h2:e.kind≠2)(h8:e.kind≠8)(h9:e.kind≠9)(h10:e.kind≠10)(h11:e.kind≠11)(hr:AT (go c (It C e.kids env (s+1) T)) (xs,T1) s1 c1)(hc1:c1=0)
  (h:AT (go c1 (Vb e.kind xs s1 T1)) z s2 c2):AT (go c (HD C e env s T)) z s2 c2:=by
 subst hc;subst hc1
 rw[CV]at hr h ⊢
 rw[JW hs h1 h2 h8 h9,hr.bindO,if_neg h10,if_neg h11];exact h
theorem Ve (C:Cg)(l:List Ex)(env:List Int)(s:Nat)(T:Tp)(c:Int):AT (go c (It C (l.take 0) env s T)) ([],T) s c:=by
 rw[List.take_zero,It]
 by_cases h:c=0
 ·subst h;exact AT.mk_ok rfl
 ·exact AT.mk_err (Du h _) h
theorem YH {l:List Ex}{k:Nat}(hk:k<l.length)(h:AT (go c (It C (l.take k) env s T)) (xs,T1) s1 c1)(h2:AT (go c1 (HD C (l.getD k Ex.zero) env s1 T1)) (x,T2) s2 c2) :
  AT (go c (It C (l.take (k+1)) env s T)) (xs++[x],T2) s2 c2:=by
 by_cases hc:c=0
 ·subst hc
  rw[CV]at h ⊢
  rw[Vc hk]
  by_cases h0:c1=0
  ·subst h0
   rw[CV]at h2
   rw[h.bindO]
   by_cases h9:c2=0
   ·subst h9;rw[h2.bindO];exact AT.mk_ok rfl
   ·rw[h2.bindE h9];exact AT.mk_err rfl h9
  ·rw[h.bindE h0]
   rw[Du h0]at h2
   have:=h2.1
   exact AT.mk_err (by rw[this]) (this ▸ h0)
 ·rw[Du hc]at h ⊢
  have h3:=h.1
  subst h3
  rw[Du hc]at h2
  exact AT.mk_err (by rw[h2.1]) (h2.1 ▸ hc)
theorem dR {f:List Int→Nat→Tp→Rs RL}{k:Nat}(h:AT (Je f k xs s T) (ys,T1) s1 c1)(hc:c1=0){zs:RL}(h2:AT (go c1 (f ys s1 T1)) zs s2 c2):AT (Je f (k+1) xs s T) zs s2 c2:=by
 subst hc
 show AT ((Je f k xs s T).bind _) _ _ _
 rw[h.bindO];rw[CV]at h2;exact h2
theorem PY {f:List Int→Nat→Tp→Rs RL}{d:Int}:∀ {m k:Nat},Je f k xs s T=.err d→k≤m→Je f m xs s T=.err d
 |0,k,h,hk=>by
  have:k=0:=by omega
  subst this;exact h
 |m+1,k,h,hk=>by
  by_cases e:k=m+1
  ·subst e;exact h
  ·show(Je f m xs s T).bind _=_
   rw[PY h (by omega)];rfl
theorem YI {f:List Int→Nat→Tp→Rs RL}{k m:Nat}{zs:RL}(h:AT (Je f k xs s T) zs s1 c1)(hk:k≤m)(hs:k=m∨c1≠0):AT (Je f m xs s T) zs s1 c1:=by
 by_cases hc:c1=0
 ·rcases hs with rfl|hh
  ·exact h
  ·exact absurd hc hh
 ·exact AT.mk_err (PY (h.err hc) hk) hc
end
def L8 (T:Tp)(s:Nat):Prop:=T.code.length=T.vals.length∧T.vals.length≤12+s∧T.grd.length≤s∧B8 T.vals=true
theorem L8.put {T:Tp}{s:Nat}(h:L8 T s)(c:AF){v:Int}(hv:0≤v∧v<1000003):L8 (T.put c v) (s+1):=by
 obtain⟨h1,h2,h3,h4⟩:=h
 unfold Tp.put
 refine⟨by simp[h1],by simp;omega,by simp;omega,?_⟩
 unfold B8 at h4 ⊢
 rw[List.all_append,h4]
 simp[Cn.2 hv]
theorem L8.guard {T:Tp}{s:Nat}(h:L8 T s)(r:Int)(z:Bool)(hg:T.grd.length+1≤s):L8 (T.guard r z) s:=by
 obtain⟨h1,h2,h3,h4⟩:=h
 exact⟨h1,h2,by show(T.grd++[_]).length≤s;simp;omega,h4⟩
theorem L8.up {T:Tp}{s s':Nat}(h:L8 T s)(hs:s≤s'):L8 T s':=⟨h.1,by have:=h.2.1;omega,by have:=h.2.2.1;omega,h.2.2.2⟩
theorem L8.dn {T:Tp}{s s':Nat}(h:L8 T s)(hv:T.vals.length≤12+s')(hg:T.grd.length≤s'):L8 T s':=⟨h.1,hv,hg,h.2.2.2⟩
theorem L8.ln {T:Tp}{s:Nat}(h:L8 T s)(hs:s≤3000):T.code.length≤4000∧T.vals.length≤4000:=by have:=h.1;have:=h.2.1;omega
abbrev Ev (k b:Int):Prop:=k≠3∧k≠4∧k≠5∧k≠7∧b=0
section
variable {k a b:Int}
theorem Vf (h:k=3):(if Ev k b then 0 else HP k a b)=md (a+b)∧(!decide (Ev k b))=true:=by subst h;exact⟨rfl,rfl⟩
theorem Vg (h:k=4):(if Ev k b then 0 else HP k a b)=md (a-b)∧(!decide (Ev k b))=true:=by subst h;exact⟨rfl,rfl⟩
theorem Vh (h:k=5):(if Ev k b then 0 else HP k a b)=md (a*b)∧(!decide (Ev k b))=true:=by subst h;exact⟨rfl,rfl⟩
theorem Vi (h:k=7):(if Ev k b then 0 else HP k a b)=md (0-a)∧(!decide (Ev k b))=true:=by subst h;exact⟨rfl,rfl⟩
theorem Sl (h:k≠3∧k≠4∧k≠5∧k≠7)(hb:b=0):(if Ev k b then 0 else HP k a b)=0∧(!decide (Ev k b))=false:=by
 have hz:Ev k b:=⟨h.1,h.2.1,h.2.2.1,h.2.2.2,hb⟩
 rw[if_pos hz,A7 hz];exact⟨rfl,rfl⟩
theorem Vj (h:k≠3∧k≠4∧k≠5∧k≠7)(hb:b≠0):(if Ev k b then 0 else HP k a b)=md (a*inv b)∧(!decide (Ev k b))=true:=by
 have hz:¬Ev k b:=fun h9=>hb h9.2.2.2.2
 rw[if_neg hz,A8 hz]
 refine⟨?_,rfl⟩
 unfold HP
 rw[if_neg h.1,if_neg h.2.1,if_neg h.2.2.1,if_neg h.2.2.2]
theorem OM (k a b:Int):0≤HP k a b∧HP k a b<1000003:=by unfold HP;split <;> (try split) <;> (try split) <;> (try split) <;> exact BK _
end
theorem Jf {k:Int}{xs:List Int}{T:Tp}{t:Nat}(h:¬Ev k (T.at (KI k xs).b)):Vb k xs t T=.ok (((T.vals.length:Nat):Int),T.put (KI k xs) (HP k (T.at (KI k xs).a) (T.at (KI k xs).b))) t:=if_neg h
theorem Sm {k:Int}{xs:List Int}{T:Tp}{t:Nat}(h:Ev k (T.at (KI k xs).b)):Vb k xs t T=.err 6:=if_pos h
theorem fA {α:Type}{r:Rs α}{x:α}{s:Nat}{c c1:Int}(h:AT (go c r) x s c1)(h1:c1=0):c=0:=by
 by_cases hc:c=0
 ·exact hc
 ·rw[Du hc]at h
  have:=h.1
  omega
theorem Sn (k a b:Int):0≤(if Ev k b then 0 else HP k a b)∧(if Ev k b then 0 else HP k a b)<1000003:=by
 have:=OM k a b
 split <;> omega
theorem fB {Q:Prop} [Decidable Q] (h:(!(!decide Q))=true):Q:=by simpa using h
theorem lD {Q:Prop} [Decidable Q] (h:(!(!decide Q))=false):¬Q:=by simpa using h
theorem Hn {k:Int}{xs:List Int}(h:k≠7):KI k xs=⟨k,xs.getD 0 0,xs.getD 1 0,0⟩:=by unfold KI;rw[if_neg h]
theorem Vk {k:Int}{xs:List Int}(h:k=7):KI k xs=⟨k,xs.getD 0 0,0,0⟩:=by unfold KI;rw[if_pos h]
theorem YJ {k c:Int}{xs:List Int}{T:Tp}{s s2:Nat}{z:RI}(hc:c=0)(h7:k≠7)(hz:Ev k (T.vals.getD (xs.getD 1 0).toNat 0)):AT (go c (Vb k xs s T)) z s2 6:=by
 subst hc
 rw[CV,Sm (by rw[Hn h7];exact hz)];exact AT.mk_err rfl (by decide)
theorem YK {k c:Int}{xs:List Int}{T:Tp}{s:Nat}(hc:c=0)(h7:k≠7)(hz:¬Ev k (T.vals.getD (xs.getD 1 0).toNat 0)) :
  AT (go c (Vb k xs s T)) (((T.vals.length:Nat):Int),T.put ⟨k,xs.getD 0 0,xs.getD 1 0,0⟩ (if Ev k (T.vals.getD (xs.getD 1 0).toNat 0)then 0 else HP k (T.vals.getD (xs.getD 0 0).toNat 0) (T.vals.getD (xs.getD 1 0).toNat 0))) s c:=by
 subst hc
 rw[CV,Jf (by rw[Hn h7];exact hz),Hn h7,if_neg hz];exact AT.mk_ok rfl
theorem YL {k c:Int}{xs:List Int}{T:Tp}{s:Nat}{b:Int}(hc:c=0)(h7:k=7) :
  AT (go c (Vb k xs s T)) (((T.vals.length:Nat):Int),T.put ⟨k,xs.getD 0 0,0,0⟩ (if Ev k b then 0 else HP k (T.vals.getD (xs.getD 0 0).toNat 0) b)) s c:=by
 subst hc
 subst h7
 rw[CV,Jf (fun h=>h.2.2.2.1 rfl),Vk rfl,if_neg (fun h:Ev 7 b=>h.2.2.2.1 rfl)];exact AT.mk_ok rfl
theorem ZJ {k b:Int}(h:k=7):¬Ev k b:=fun h9=>h9.2.2.2.1 h
def KJ (T:Tp)(env:List Int):Prop:=∀k,k<env.length→0≤env.getD k 0∧env.getD k 0<((T.vals.length:Nat):Int)
theorem KJ.mono {T T':Tp}{env:List Int}(h:KJ T env)(hl:T.vals.length≤T'.vals.length):KJ T' env:=fun k hk=>by have:=h k hk;omega
theorem KJ.snoc {T:Tp}{env:List Int}{r:Int}(h:KJ T env)(hr:0≤r∧r<((T.vals.length:Nat):Int)):KJ T (env++[r]):=fun k hk=>by
 rw[List.length_append,List.length_singleton]at hk
 rw[Pz]
 split
 ·exact hr
 ·exact h k (by omega)
theorem KJ.nil (T:Tp):KJ T []:=fun k hk=>absurd hk (Nat.not_lt_zero k)
theorem E0 {Q:Nat→Prop}:∀b∈([]:List Nat),Q b:=fun b hb=>(by cases hb)
theorem AE.drewL {F:List Nat}{a b:World}(h:AE F a b):AE F a.drew b:=⟨h.os,h.tape,h.output,h.size,h.block⟩
def TD {α:Type}(S:List Nat)(B:Nat)(E:Bc α)(H:Array Obj)(v:Value)(x:α):Prop:=∃F,E H v x F∧∀b∈F,b∉S∧B≤b
theorem TD.rn {α:Type}{S:List Nat}{B:Nat}{E:Bc α}{H:Array Obj}{v:Value}{x:α}(h:TD S B E H v x):RN S E H v x:=by
 obtain⟨F,h1,h2⟩:=h
 exact⟨F,h1,fun b hb=>(h2 b hb).1⟩
theorem TD.upd {α:Type}{S F:List Nat}{B:Nat}{E:Bc α}(hE:BI E){w w':World}{v:Value}{x:α}(h:TD S B E w.heap v x)(c:AE F w w')(hF:∀b∈F,b∈S∨b<B):TD S B E w'.heap v x:=by
 obtain⟨G,h1,h2⟩:=h
 refine⟨G,hE.stable h1 fun b hb=>c.block b (hE.lt h1 b hb) fun hm=>?_,h2⟩
 rcases hF b hm with hh|hh
 ·exact(h2 b hb).1 hh
 ·have:=(h2 b hb).2;omega
theorem TD.of_ow {e:TypeId}{B T:Nat}{H:Array Obj}{v:Value}{xs:List Int}{F S:List Nat}(h:Ow (AR rI e) B T H v xs F)(hS:∀b∈F,b∉S):TD S B (B3 rI) H v xs:=⟨F,h.own.rd id,fun b hb=>⟨hS b hb,h.low b hb⟩⟩
structure Gg (S S':List Nat)(w w':World):Prop where
 sub:∀b∈S,b∈S'
 new:∀b∈S',b∈S∨w.heap.size≤b
 lt:∀b∈S',b<w'.heap.size
 chg:AE S w w'
section
variable {S S' S'':List Nat} {w w' w'':World} {g:Nat}
theorem Gg.refl (h:∀b∈S,b<w.heap.size):Gg S S w w:=⟨fun _ h=>h,fun _ h=>.inl h,h,AE.refl S w⟩
theorem Gg.trans (h:Gg S S' w w')(k:Gg S' S'' w' w''):Gg S S'' w w'' :=
 ⟨fun b hb=>k.sub b (h.sub b hb),QR h.new k.new h.chg.size,k.lt,h.chg.stp k.chg h.new⟩
theorem Gg.ext (h:Gg S S' w w')(k:Ay w' w''):Gg S S' w w'':=⟨h.sub,h.new,fun b hb=>Nat.lt_of_lt_of_le (h.lt b hb) k.size,h.chg.ext k⟩
theorem Gg.drew (h:Gg S S' w w'):Gg S S' w w'.drew:=⟨h.sub,h.new,h.lt,h.chg.drew⟩
theorem Gg.of_drew (h:Gg S S' w.drew w'):Gg S S' w w':=⟨h.sub,h.new,h.lt,h.chg.of_drew⟩
theorem Gg.set (h:Gg S S' w w')(hg:g∈S)(k:AE [g] w' w''):Gg S S' w w'':=⟨h.sub,h.new,fun b hb=>Nat.lt_of_lt_of_le (h.lt b hb) k.size,h.chg.trans (k.sub (Bg hg))⟩
theorem Gg.more {F:List Nat}(h:Gg S S' w w')(k:AE F w' w'')(hF:∀b∈F,b∈S):Gg S S' w w'':=⟨h.sub,h.new,fun b hb=>Nat.lt_of_lt_of_le (h.lt b hb) k.size,h.chg.trans (k.sub hF)⟩
theorem Gg.fresh {F:List Nat}(h:Gg S S' w w')(k:AE F w' w'')(hF:∀b∈F,w.heap.size≤b):Gg S S' w w'':=⟨h.sub,h.new,fun b hb=>Nat.lt_of_lt_of_le (h.lt b hb) k.size,h.chg.fresh k hF⟩
end
structure ZK (T T':Tp)(s0 s1:Nat)(c1:Int):Prop where
 bnd:L8 T' s1
 num:s1≤3000∧(0≤c1∧c1≤9)∧T.vals.length≤T'.vals.length∧T'.vals.length+s0≤T.vals.length+s1∧T'.grd.length+s0≤T.grd.length+s1
@[simp] theorem Ho (T:Tp)(c:AF)(v:Int):(T.put c v).vals.length=T.vals.length+1:=by simp[Tp.put]
@[simp] theorem QU (T:Tp)(c:AF)(v:Int):(T.put c v).code.length=T.code.length+1:=by simp[Tp.put]
@[simp] theorem Vl (T:Tp)(c:AF)(v:Int):(T.put c v).grd=T.grd:=rfl
@[simp] theorem PZ (T:Tp)(r:Int)(z:Bool):(T.guard r z).vals=T.vals:=rfl
@[simp] theorem Q0 (T:Tp)(r:Int)(z:Bool):(T.guard r z).grd.length=T.grd.length+1:=by simp[Tp.guard]
theorem RN.of_ow {e:TypeId}{B T:Nat}{H:Array Obj}{v:Value}{xs:List Int}{F S:List Nat}(h:Ow (AR rI e) B T H v xs F)(hS:∀b∈F,b∉S):RN S (B3 rI) H v xs:=⟨F,h.own.rd id,hS⟩
theorem CG.len {t1 t2 t3:TypeId}{S:List Nat}{g:Nat}{H:Array Obj}{vc vg vv:Value}{T:Tp}(h:CG t1 t2 t3 S g H vc vg vv T):T.code.length≤maxLen∧T.grd.length≤maxLen∧T.vals.length≤maxLen:=by
 obtain⟨Fc,Fg,Fv,h1,h2,h3,_⟩:=h
 exact⟨h1.own.lenle,h2.own.lenle,h3.own.lenle⟩
end
section
def JX (a:List Int):Nat→Tp
 |0=>⟨[],[],[]⟩
 |k+1=>(JX a k).put ⟨1,0,0,((k:Nat):Int)⟩ (a.getD k 0)
def HE (k:Nat):List Int:=(List.range k).map fun i=>((i:Nat):Int)
@[simp] theorem H1 (k:Nat):(HE k).length=k:=by simp[HE]
theorem QV (k:Nat):HE (k+1)=HE k++[((k:Nat):Int)]:=by simp[HE,List.range_succ]
theorem Q3 {k j:Nat}(h:j<k):(HE k).getD j 0=((j:Nat):Int):=by
 unfold HE
 rw[B4 (d:=0) (by simpa using h)]
 simp[h]
@[simp] theorem KK (a:List Int):∀k,(JX a k).vals.length=k
 |0=>rfl
 |k+1=>by show((JX a k).put _ _).vals.length=_;rw[Ho,KK a k]
@[simp] theorem ON (a:List Int):∀k,(JX a k).code.length=k
 |0=>rfl
 |k+1=>by show((JX a k).put _ _).code.length=_;rw[QU,ON a k]
theorem Vm (a:List Int):∀k,(JX a k).grd=[]
 |0=>rfl
 |k+1=>by show((JX a k).put _ _).grd=_;rw[Vl,Vm a k]
theorem Q4 (a:List Int):∀k,k≤a.length→(JX a k).vals=a.take k
 |0,_=>rfl
 |k+1,h=>by
  show(JX a k).vals++[a.getD k 0]=_
  rw[Q4 a k (by omega),Cq 0 (by omega)]
theorem fC {a:List Int}(hn:B8 a=true)(h:a.length≤12):L8 (JX a a.length) 0:=by
 refine⟨by simp,by simp;omega,by rw[Vm];simp,?_⟩
 rw[Q4 a _ (A9 _),List.take_length];exact hn
theorem fD (a:List Int)(k:Nat):KJ (JX a k) (HE k):=fun j hj=>by
 rw[H1]at hj
 rw[Q3 hj,KK];omega
def Mv (p:List Fn)(f:Nat)(a:List Int):Rs RL:=It (Li p f) (p.getD f Fn.zero).outs (HE a.length) 0 (JX a a.length)
section rcm
variable {t1 t2 t3:TypeId} {S:List Nat} {g:Nat} {w w':World} {vc vg vv:Value} {T:Tp}
theorem CG.nil:CG t1 t2 t3 S g w.heap (.slice none 0 0) (.slice none 0 0) (.slice none 0 0) ⟨[],[],[]⟩ :=
 ⟨[],[],[],⟨.inl ⟨rfl,rfl,rfl⟩,List.nodup_nil,E0,E0⟩,⟨.inl ⟨rfl,rfl,rfl⟩,List.nodup_nil,E0,E0⟩,⟨.inl ⟨rfl,rfl,rfl⟩,List.nodup_nil,E0,E0⟩,
  ⟨E0,E0,E0⟩,⟨List.not_mem_nil,List.not_mem_nil,List.not_mem_nil⟩,E0,E0,E0⟩
theorem AE.toExt {F:List Nat}(h:AE F w w')(hF:∀b∈F,w.heap.size≤b):Ay w w':=⟨h.os,h.tape,h.output,h.size,fun k hk=>h.block k hk fun hm=>by have:=hF k hm;omega⟩
end rcm
def RG {α:Type}(T:Nat)(E:Bc α)(H:Array Obj)(v:Value)(x:α):Prop:=∃F,E H v x F∧∀b∈F,T≤b
theorem TD.rg {α:Type}{S:List Nat}{B T:Nat}{E:Bc α}{H:Array Obj}{v:Value}{x:α}(h:TD S B E H v x)(hT:T≤B):RG T E H v x:=by
 obtain⟨F,h1,h2⟩:=h
 exact⟨F,h1,fun b hb=>Aa hT (h2 b hb).2⟩
theorem RG.rnG {α:Type}{T g:Nat}{E:Bc α}{w:World}{v:Value}{x:α}(hE:BI E)(h:RG T E w.heap v x)(hg:g<T∨w.heap.size≤g):RN [g] E w.heap v x:=by
 obtain⟨F,h1,h2⟩:=h
 refine⟨F,h1,fun b hb hm=>?_⟩
 rw[Ab hm]at hb
 have:=h2 g hb
 have:=hE.lt h1 g hb
 omega
theorem CG.readsG {t1 t2 t3:TypeId}{S:List Nat}{g n:Nat}{w:World}{vc vg vv:Value}{T:Tp}(h:CG t1 t2 t3 S g w.heap vc vg vv T)(hS:∀b∈S,n≤b):RG n (Dr 4 QQ) w.heap vc T.code∧RG n (Dr 2 Sj) w.heap vg T.grd:=by
 obtain⟨Fc,Fg,Fv,h1,h2,h3,h4,h5,h6,h7,h8⟩:=h
 exact⟨⟨Fc,h1.own.rd AN,fun b hb=>hS b (h6 b hb)⟩,⟨Fg,h2.own.rd AX,fun b hb=>hS b (h7 b hb)⟩⟩
theorem AT.go0 {α:Type}{r:Rs α}{x:α}{s:Nat}{c:Int}(h:AT (go ((0:Nat):Int) r) x s c):AT r x s c:=h
theorem LD.part {H:Array Obj}{g k:Nat}{cs ds:List Value}(h:BX H g cs)(hl:k+ds.length≤cs.length)(hd:∀i,i<ds.length→ds.getD i undef=cs.getD (k+i) undef):LD H (.pointer (some ⟨g,k,none⟩)) ds:=by
 obtain⟨e,h⟩:=h
 refine⟨g,k,rfl,fun i hi=>?_⟩
 simp only[BZ,h]
 rw[hd i hi]
 simp[show k+i<cs.length by omega]
end
section
def IX (p:List Fn)(f:Int):Int:=if Lh p=true then(if 0≤f∧f≤((p.length:Nat):Int)-1 then 0 else 2)else 1
def I7 (p:List Fn)(f:Int)(pr:Int→Int→Bool):Int :=
 if IX p f=0 then(if pr (p.getD f.toNat Fn.zero).params (((p.getD f.toNat Fn.zero).outs.length:Nat):Int)=true then 0 else 2)else IX p f
theorem Vn {p:List Fn}{f:Int}(h:IX p f=0):Lh p=true∧0≤f∧f<((p.length:Nat):Int):=by
 unfold IX at h
 split at h
 ·split at h
  ·rename_i h1 h2;exact⟨h1,h2.1,by omega⟩
  ·omega
 ·omega
theorem fE {p:List Fn}{f:Int}{pr:Int→Int→Bool}(h:I7 p f pr=0):IX p f=0∧pr (p.getD f.toNat Fn.zero).params (((p.getD f.toNat Fn.zero).outs.length:Nat):Int)=true:=by
 unfold I7 at h
 split at h
 ·rename_i h1
  split at h
  ·rename_i h2;exact⟨h1,h2⟩
  ·omega
 ·rename_i h1;exact absurd h h1
def JY (a:List Sr):Nat:=(a.getD 0 []).length-1
theorem dS {n k:Nat}{s:Sr}(h:Bt n s)(hk:k<n):Jb (s.getD k 0)=true:=by
 have hk':k<s.length:=by rw[h.1];exact hk
 have:=h.2
 unfold B8 at this
 have h2:=List.all_eq_true.1 this s[k] (List.getElem_mem hk')
 rwa [show s.getD k 0=s[k]from by simp[hk']]
section
variable {p:List Fn} {f o:Int} {a:Sr}
end
end
section
mutual
def IK:Ex→Int→Int
 |.mk _ _ _ _ l,x=>Dh l (x-1)
def Dh:List Ex→Int→Int
 |[],x=>x
 |e::l,x=>if 0≤x then Dh l (IK e x)else x
end
theorem YM (e:Ex)(x:Int):IK e x=Dh e.kids (x-1):=by cases e;rw[IK];rfl
theorem Mw {l:List Ex}{x:Int}(h:x<0):Dh l x=x:=by
 cases l with
 |nil=>rw[Dh]
 |cons e l=>rw[Dh,if_neg (by omega)]
mutual
theorem Mx:∀(e:Ex)(x:Int),0≤x→(IK e x=x-(e.size:Int)∧(e.size:Int)≤x)∨(IK e x = -1∧x<(e.size:Int))
 |.mk k n q c l,x,h=>by
  rw[IK,Ex.size]
  by_cases h0:x=0
  ·subst h0
   right
   rw[Mw (by omega)]
   refine⟨by omega,by omega⟩
  ·rcases Iu l (x-1) (by omega)with h1|h1
   ·left;omega
   ·right;omega
theorem Iu:∀(l:List Ex)(x:Int),0≤x→(Dh l x=x-(Ex.sizes l:Int)∧(Ex.sizes l:Int)≤x)∨(Dh l x = -1∧x<(Ex.sizes l:Int))
 |[],x,h=>by rw[Dh,Ex.sizes];left;omega
 |e::l,x,h=>by
  rw[Dh,if_pos h,Ex.sizes]
  rcases Mx e x h with h1|h1
  ·rw[h1.1]
   rcases Iu l (x-(e.size:Int)) (by omega)with h2|h2
   ·left;omega
   ·right;omega
  ·rw[h1.1,Mw (by omega)]
   right;omega
end
theorem O8 (e:Ex):∀(l:List Ex)(x:Int),Dh (l++[e]) x=if 0≤Dh l x then IK e (Dh l x)else Dh l x
 |[],x=>by
  rw[List.nil_append,Dh,Dh]
  split
  ·rw[Dh]
  ·rfl
 |a::l,x=>by
  rw[List.cons_append,Dh,Dh]
  by_cases h:0≤x
  ·rw[if_pos h,if_pos h,O8 e l]
  ·rw[if_neg h,if_neg h,if_neg h]
theorem O9 {l:List Ex}{k:Nat}(hk:k<l.length){x:Int}(h:0≤Dh (l.take k) x):Dh (l.take (k+1)) x=IK (l.getD k Ex.zero) (Dh (l.take k) x):=by
 rw[List.take_succ_eq_append_getElem hk,O8,if_pos h]
 simp[hk]
theorem Q5:∀(l r:List Ex)(x:Int),Dh l x<0→Dh (l++r) x=Dh l x
 |[],r,x,h=>by rw[Dh]at h ⊢;rw[List.nil_append,Mw h]
 |a::l,r,x,h=>by
  rw[Dh]at h ⊢
  rw[List.cons_append,Dh]
  split
  ·rename_i h0;rw[if_pos h0]at h;exact Q5 l r _ h
  ·rfl
theorem Oa {l:List Ex}{k:Nat}{x:Int}(h:Dh (l.take k) x<0):Dh l x=Dh (l.take k) x:=by
 have:=Q5 (l.take k) (l.drop k) x h
 rwa [List.take_append_drop]at this
theorem Q6 {e:Ex}{x:Int}(h:0≤x):-1≤IK e x∧IK e x≤x:=by
 rcases Mx e x h with h1|h1 <;> omega
theorem Vo {e:Ex}{x:Int}(h:0≤x):0≤IK e x↔(e.size:Int)≤x:=by
 rcases Mx e x h with h1|h1 <;> omega
def TF (k:Int):Int:=if k=1∨k=2 then 0 else if k=3∨k=4∨k=5∨k=6∨k=9 then 2 else if k=7 then 1 else if k=8 then 3 else -1
theorem OO {p q:Prop} [Decidable p] [Decidable q] (h:p↔q):decide p=decide q:=decide_eq_decide.2 h
section
variable {p:List Fn} {F vars:Int} {e:Ex}
theorem TG (h:Kz p F vars e=true)(h10:e.kind≠10)(h11:e.kind≠11):e.pick=0∧e.count=0∧TF e.kind=((e.kids.length:Nat):Int)∧(e.kind≠1→e.kind≠2→e.num=0):=by
 unfold Kz Fm at h
 unfold TF
 split at h
 ·rename_i h1
  simp only[Bool.and_eq_true,decide_eq_true_eq]at h
  rw[if_pos (by omega)]
  exact⟨h.1.1,h.1.2,by omega,fun hh=>absurd h1 hh⟩
 ·split at h
  ·rename_i h1
   simp only[Bool.and_eq_true,decide_eq_true_eq]at h
   rw[if_pos (by omega)]
   exact⟨h.1.1,h.1.2,by omega,fun _ hh=>absurd h1 hh⟩
  ·split at h
   ·simp only[Bool.and_eq_true,decide_eq_true_eq]at h
    rw[if_neg (by omega),if_pos (by omega)]
    exact⟨h.1.1,h.1.2,by omega,fun _ _=>h.2.1⟩
   ·split at h
    ·simp only[Bool.and_eq_true,decide_eq_true_eq]at h
     rw[if_neg (by omega),if_neg (by omega),if_pos (by omega)]
     exact⟨h.1.1,h.1.2,by omega,fun _ _=>h.2.1⟩
    ·split at h
     ·simp only[Bool.and_eq_true,decide_eq_true_eq]at h
      rw[if_neg (by omega),if_neg (by omega),if_neg (by omega),if_pos (by omega)]
      exact⟨h.1.1,h.1.2,by omega,fun _ _=>h.2.1⟩
     ·split at h
      ·omega
      ·cases h
theorem dT (h10:e.kind≠10)(h11:e.kind≠11)(h:TF e.kind≠((e.kids.length:Nat):Int)∨e.pick≠0∨e.count≠0):false=Kz p F vars e:=by
 cases hw:Kz p F vars e with
 |false=>rfl
 |true =>
  have:=TG hw h10 h11
  omega
theorem lE (hk:TF e.kind=((e.kids.length:Nat):Int))(h1:e.kind=1)(hp:e.pick=0)(hc:e.count=0):Jb e.num=Kz p F vars e:=by
 have hl:e.kids.length=0:=by unfold TF at hk;rw[if_pos (by omega)]at hk;omega
 unfold Kz Fm
 rw[if_pos h1,A7 hp,A7 hc,A7 hl];rfl
theorem lF (hk:TF e.kind=((e.kids.length:Nat):Int))(h1:e.kind=2)(hp:e.pick=0)(hc:e.count=0):(decide (((0:Nat):Int)≤e.num) && decide (e.num≤vars-1))=Kz p F vars e:=by
 have hl:e.kids.length=0:=by unfold TF at hk;rw[if_pos (by omega)]at hk;omega
 unfold Kz Fm HC
 rw[if_neg (by omega),if_pos h1,A7 hp,A7 hc,A7 hl];rfl
theorem lG (hk:TF e.kind=((e.kids.length:Nat):Int))(h1:e.kind≠1)(h2:e.kind≠2)(h10:e.kind≠10)(h11:e.kind≠11)(hp:e.pick=0)(hc:e.count=0):decide (e.num=0)=Kz p F vars e:=by
 unfold TF at hk
 unfold Kz Fm
 rw[if_neg h1,if_neg h2,A7 hp,A7 hc]
 rw[if_neg (by omega)]at hk
 split at hk
 ·rename_i h3
  rw[if_pos h3,A7 (show e.kids.length=2 by omega)];simp
 ·rename_i h3
  rw[if_neg h3]
  split at hk
  ·rename_i h4
   rw[if_pos h4,A7 (show e.kids.length=1 by omega)];simp
  ·rename_i h4
   rw[if_neg h4]
   split at hk
   ·rename_i h5
    rw[if_pos h5,A7 (show e.kids.length=3 by omega)];simp
   ·omega
end
end
section
def L9 (n:Nat)(C:Ca)(e:Ex)(env:List Sr)(s:Nat):Rs Sr:=(E6 n C e.kids env s).bind fun xs t =>
 if e.kind=10 then C.one e.num.toNat e.pick.toNat xs t else(LB (C.all e.num.toNat) e.count.toNat xs t).bind fun ys u=>.ok (ys.getD e.pick.toNat []) u
section
variable {n:Nat} {C:Ca} {e:Ex} {env:List Sr} {s s1 s2:Nat} {c c1 c2:Int} {x y:Sr} {xs ys:List Sr}
theorem Ob (hc:c=0)(hs:s+1≤3000)(hk:e.kind=10∨e.kind=11)(h:AT (go c (L9 n C e env (s+1))) y s2 c2):AT (go c (Ea n C e env s)) y s2 c2:=by
 subst hc
 rw[CV]at h ⊢
 rw[Mo hs (by omega) (by omega) (by omega) (by omega)]
 unfold L9 at h
 cases hv:E6 n C e.kids env (s+1)with
 |err d=>rw[hv]at h;exact h
 |ok zs t =>
  rw[hv]at h
  rw[Rs.bind_ok]at h ⊢
  by_cases h10:e.kind=10
  ·rw[if_pos h10]at h ⊢;exact h
  ·rw[if_neg h10]at h;rw[if_neg h10,if_pos (by omega)];exact h
theorem Vp {α:Type}{r:Rs α}{v:α}(h:AT (go c r) v s1 c1)(hc:c≠0):c1=c:=by
 rw[Du hc]at h;exact h.1
theorem dU (hl:e.kids.length=1)(h:AT (go c (Ea n C (e.kids.getD 0 Ex.zero) env s)) x s1 c1):AT (go c (E6 n C e.kids env s)) [x] s1 c1:=by
 have h1:=I3 (l:=e.kids) (k:=0) (by omega) (Ir n C e.kids env s c) h
 rwa [List.take_of_length_le (by omega)]at h1
theorem KL (hl:e.kids.length=2)(h:AT (go c (Ea n C (e.kids.getD 0 Ex.zero) env s)) x s1 c1)(h2:AT (go c1 (Ea n C (e.kids.getD 1 Ex.zero) env s1)) y s2 c2):AT (go c (E6 n C e.kids env s)) [x,y] s2 c2:=by
 have h1:=I3 (l:=e.kids) (k:=0) (by omega) (Ir n C e.kids env s c) h
 have h3:=I3 (l:=e.kids) (k:=1) (by omega) h1 h2
 rwa [List.take_of_length_le (by omega)]at h3
theorem Hp (hc:c=0)(hs:s+1≤3000)(hk:e.kind=3∨e.kind=4∨e.kind=5∨e.kind=6∨e.kind=7)(hr:AT (go c (E6 n C e.kids env (s+1))) xs s1 c1)
  (h:c1=0→AT (LC e.kind xs s1) y s1 c2) (h0:c1≠0→c2=c1):AT (go c (Ea n C e env s)) y s1 c2:=by
 by_cases hc1:c1=0
 ·exact dC hc hs (by omega) (by omega) (by omega) (by omega) (by omega) (by omega) hr hc1 (h hc1)
 ·rw[h0 hc1];exact TB hc hs (by omega) (by omega) (by omega) (by omega) hr hc1
theorem Vq {p:List Fn}{F:Nat}(hk:e.kind=10)(hF:e.num.toNat<F)(hr:AT (go c (E6 n (GY p n F) e.kids env s)) xs s1 c1)
  (h2:AT (go c1 (Ea n (GY p n e.num.toNat) ((p.getD e.num.toNat Fn.zero).outs.getD e.pick.toNat Ex.zero) xs s1)) y s2 c2):AT (go c (L9 n (GY p n F) e env s)) y s2 c2:=by
 by_cases hc:c=0
 ·subst hc
  rw[CV]at hr ⊢
  unfold L9
  by_cases hc1:c1=0
  ·subst hc1;rw[hr.bindO,if_pos hk,Sd hF];rw[CV]at h2;exact h2
  ·rw[hr.bindE hc1];rw[Du hc1]at h2;exact h2
 ·have e1:=Vp hr hc
  subst e1
  rw[Du hc]at h2 ⊢;exact h2
theorem Vr {f:List Sr→Nat→Rs (List Sr)}{k:Nat}(h:AT (go c (LB f k xs s)) ys s1 c1){zs:List Sr}(h2:AT (go c1 (f ys s1)) zs s2 c2):AT (go c (LB f (k+1) xs s)) zs s2 c2:=by
 by_cases hc:c=0
 ·subst hc
  rw[CV]at h ⊢
  show AT ((LB f k xs s).bind f) _ _ _
  by_cases hc1:c1=0
  ·subst hc1;rw[h.bindO];rw[CV]at h2;exact h2
  ·rw[h.bindE hc1];rw[Du hc1]at h2;exact h2
 ·have e1:=Vp h hc
  subst e1
  rw[Du hc]at h2 ⊢;exact h2
theorem Vs {f:List Sr→Nat→Rs (List Sr)}(hc:0=0):AT (go c (LB f 0 xs s)) xs s c:=by
 by_cases h:c=0
 ·subst h;exact⟨rfl,rfl,rfl⟩
 ·exact AT.mk_err (Du h _) h
theorem Vt {p:List Fn}{F:Nat}(hk:e.kind≠10)(hF:e.num.toNat<F)(hr:AT (go c (E6 n (GY p n F) e.kids env s)) xs s1 c1)
  (h2:AT (go c1 (LB (fun a t=>E6 n (GY p n e.num.toNat) (p.getD e.num.toNat Fn.zero).outs a t) e.count.toNat xs s1)) ys s2 c2):AT (go c (L9 n (GY p n F) e env s)) (ys.getD e.pick.toNat []) s2 c2:=by
 have hl:(GY p n F).all e.num.toNat=fun a t=>E6 n (GY p n e.num.toNat) (p.getD e.num.toNat Fn.zero).outs a t:=funext fun a=>funext fun t=>JV hF
 by_cases hc:c=0
 ·subst hc
  rw[CV]at hr ⊢
  unfold L9
  by_cases hc1:c1=0
  ·subst hc1
   rw[hr.bindO,if_neg hk,hl]
   rw[CV]at h2
   by_cases h0:c2=0
   ·subst h0;rw[h2.bindO];exact AT.mk_ok rfl
   ·rw[h2.bindE h0];exact AT.mk_err rfl h0
  ·rw[hr.bindE hc1]
   rw[Du hc1]at h2
   exact AT.mk_err (by rw[h2.1]) (by rw[h2.1];exact hc1)
 ·have e1:=Vp hr hc
  subst e1
  rw[Du hc]at h2 ⊢
  exact AT.mk_err (by rw[h2.1]) (by rw[h2.1];exact hc)
end
end
section
section
variable {p:List Fn} {f:Int} {y:List Sr}
end
def ET (p:List Fn)(f:Nat)(s:Sr):Int:=Hl p 1 f (C7 s)
def FN (p:List Fn)(f:Nat)(s:Sr):Sr:=(E7 p 1 f (C7 s)).map fun s=>s.getD 0 0
theorem Dv {a:Sr}(h:B8 a=true):Bs 1 (C7 a):=by
 intro k hk
 unfold C7 at hk ⊢
 rw[List.length_map]at hk
 rw[List.getD_eq_getElem?_getD,List.getElem?_map,List.getElem?_eq_getElem hk]
 refine⟨rfl,?_⟩
 unfold B8 at h ⊢
 have:=List.all_eq_true.1 h _ (List.getElem_mem hk)
 simpa using this
theorem QW {x:List Sr}{n:Nat}(h:Bs (n+1) x):B8 (x.map fun s=>s.getD 0 0)=true:=by
 unfold B8
 rw[List.all_eq_true]
 intro y hy
 obtain⟨s,hs,rfl⟩:=List.mem_map.1 hy
 obtain⟨k,hk,rfl⟩:=List.mem_iff_getElem.1 hs
 have h2:=h k hk
 rw[Dn hk]at h2
 exact dS h2 (by omega)
section
variable {p:List Fn} {f:Nat} {a s:Sr} {k n:Nat}
structure fi (p:List Fn)(f:Nat)(s:Sr):Prop where
 code:0≤ET p f s∧ET p f s≤9
 len:ET p f s=0→(FN p f s).length=(p.getD f Fn.zero).outs.length
 num:B8 (FN p f s)=true
 non:ET p f s≠0→FN p f s=[]
theorem fi.mk' (h:ZH p 1 f (C7 s)):fi p f s :=
 ⟨h.code,fun h0=>by unfold FN;rw[List.length_map];exact h.len h0,QW h.ser,fun h0=>by unfold FN;rw[h.non h0];rfl⟩
end
section
variable {p:List Fn} {f n:Int} {a:Sr}
end
end
def JZ (t:Nat)(x:Int):Int:=if ((t:Nat):Int)≤x then x-((t:Nat):Int)else -1
theorem OP (t:Nat){x:Int}(h:0≤x):-1≤JZ t x∧JZ t x≤x:=by unfold JZ;split <;> omega
theorem LG {t:Nat}{x:Int}(h:0≤JZ t x):JZ t x=x-((t:Nat):Int)∧((t:Nat):Int)≤x:=by
 unfold JZ at h ⊢
 split at h
 ·rename_i h1;rw[if_pos h1];exact⟨rfl,h1⟩
 ·omega
theorem K1 {t:Nat}{x:Int}(h0:0≤x)(h:JZ t x<0):x<((t:Nat):Int):=by
 unfold JZ at h
 split at h <;> omega
theorem Vu {t:Nat}{x y:Int}(h:((t:Nat):Int)≤x)(hy:y=x-((t:Nat):Int)):y=JZ t x:=by unfold JZ;rw[if_pos h,hy]
theorem La {t:Nat}{x:Int}(h:x<((t:Nat):Int)):-1=JZ t x:=by unfold JZ;rw[if_neg (by omega)]
theorem FZ:∀(l:List Ex)(k:Nat),Ex.sizes (l.take k)+(l.length-k)≤Ex.sizes l
 |[],k=>by simp[Ex.sizes]
 |e::l,0=>by
  have h:=FZ l 0
  have:=Cb e
  rw[List.take_zero]at h ⊢
  rw[Ex.sizes]at h ⊢
  rw[List.length_cons,Ex.sizes];omega
 |e::l,k+1=>by
  have h:=FZ l k
  rw[List.take_succ_cons,Ex.sizes,Ex.sizes,List.length_cons];omega
def Fn.sz (f:Fn):Nat:=f.name.size+Ex.sizes f.outs
def Fn.szs:List Fn→Nat
 |[]=>0
 |f::l=>f.sz+Fn.szs l
theorem OQ:Fn.szs []=0:=rfl
theorem Vv (l:List Fn)(f:Fn):Fn.szs (l++[f])=Fn.szs l+f.sz:=by
 induction l with
 |nil=>simp[Fn.szs]
 |cons g l ih=>rw[List.cons_append,Fn.szs,Fn.szs,ih];omega
theorem My {l:List Fn}{k:Nat}(hk:k<l.length):Fn.szs (l.take (k+1))=Fn.szs (l.take k)+(l.getD k Fn.zero).sz:=by
 rw[List.take_succ_eq_append_getElem hk,Vv]
 simp[hk]
theorem I8:∀(l:List Fn)(k:Nat),Fn.szs (l.take k)≤Fn.szs l
 |l,0=>by rw[List.take_zero,OQ];omega
 |[],k+1=>by simp[Fn.szs]
 |f::l,k+1=>by rw[List.take_succ_cons,Fn.szs,Fn.szs];have:=I8 l k;omega
theorem Vw {l:List Fn}{k:Nat}(hk:k<l.length):(l.getD k Fn.zero).sz≤Fn.szs l:=by
 have h1:=My hk
 have h2:=I8 l (k+1)
 omega
def OR (p:List Fn):Nat:=p.length+Fn.szs p
theorem dV {p:List Fn}(h:OR p≤1048576):Sf p:=by
 intro k hk
 have h1:=Vw hk
 have h2:(p.getD k Fn.zero).sz=(p.getD k Fn.zero).name.size+Ex.sizes (p.getD k Fn.zero).outs:=rfl
 have h3:OR p=p.length+Fn.szs p:=rfl
 have h4:=FZ (p.getD k Fn.zero).outs 0
 exact⟨by omega,by omega,by omega⟩
section
def Rs.map {α β:Type}(f:α→β)(r:Rs α):Rs β:=match r with
 |.ok x s=>.ok (f x) s
 |.err c=>.err c
abbrev Cs (m:Nat)(x:Sr):Sr:=x.take m
theorem DE {m k:Nat}(x:Sr)(h:k<m):(Cs m x).getD k 0=x.getD k 0:=by
 simp only[Cs,List.getD_eq_getElem?_getD,List.getElem?_take,if_pos h]
theorem LH {m:Nat}(l:Nat)(f g:Nat→Int)(h:∀k,k<m→f k=g k):Fj (min m l) f=Cs m (Fj l g):=by
 unfold Fj Cs
 rw[← List.map_take,List.take_range]
 exact List.map_congr_left fun k hk=>h k (by have:=List.mem_range.1 hk;omega)
section
variable {m:Nat} (a b:Sr)
theorem Gp:(Cs m a).length=min m a.length:=List.length_take ..
theorem Vx:Em (Cs m a) (Cs m b)=Cs m (Em a b):=by
 unfold Em;rw[Gp]
 exact LH _ _ _ fun k hk=>by rw[DE a hk,DE b hk]
theorem Vy:Dt (Cs m a) (Cs m b)=Cs m (Dt a b):=by
 unfold Dt;rw[Gp]
 exact LH _ _ _ fun k hk=>by rw[DE a hk,DE b hk]
theorem Vz (y:Int):CK (Cs m a) y=Cs m (CK a y):=by
 unfold CK;rw[Gp]
 exact LH _ _ _ fun k hk=>by rw[DE a hk]
theorem So {k:Nat}(hk:k<m):∀i,i≤k+1→Nw (Cs m a) (Cs m b) k i=Nw a b k i
 |0,_=>rfl
 |i+1,h=>by
  show md (Nw (Cs m a) (Cs m b) k i+(Cs m a).getD i 0*(Cs m b).getD (k-i) 0)=md (Nw a b k i+a.getD i 0*b.getD (k-i) 0)
  rw[So hk i (by omega),DE a (by omega),DE b (by omega)]
theorem VA:C5 (Cs m a) (Cs m b)=Cs m (C5 a b):=by
 unfold C5;rw[Gp]
 exact LH _ _ _ fun k hk=>So a b hk (k+1) (A9 _)
theorem Sp (o:Sr){k:Nat}(hk:k<m):∀i,i≤k→Ox (Cs m a) (Cs m b) o k i=Ox a b o k i
 |0,_=>DE a hk
 |i+1,h=>by
  show md (Ox (Cs m a) (Cs m b) o k i-o.getD i 0*(Cs m b).getD (k-i) 0)=md (Ox a b o k i-o.getD i 0*b.getD (k-i) 0)
  rw[Sp o hk i (by omega),DE b (by omega)]
theorem Ss (hm:1≤m):∀k,k≤m→IV (Cs m a) (Cs m b) k=IV a b k
 |0,_=>rfl
 |k+1,h=>by
  rw[IV,IV,Ss hm k (by omega),Sp a b _ (by omega) k (A9 _),DE b (by omega)]
theorem Q7:∀ (k j:Nat),j≤k→(IV a b k).take j = IV a b j
  | 0, j, h => by have : j = 0 := by omega
                  subst this; rfl
  | k + 1,j,h=>by
    by_cases e:j = k + 1
    · subst e; rw [List.take_of_length_le (by rw [DZ]; exact A9 _)]
    · rw [IV,List.take_append_of_le_length (by rw [DZ]; omega)]; exact Q7 k j (by omega)
theorem VB (hm:1≤m):BT (Cs m a) (Cs m b)=Cs m (BT a b):=by
 unfold BT;rw[Gp,Ss a b hm _ (by omega)]
 show _=(IV a b a.length).take m
 by_cases h:m≤a.length
 ·rw[Q7 a b _ _ h,Nat.min_eq_left h]
 ·rw[List.take_of_length_le (by rw[DZ];omega),Nat.min_eq_right (by omega)]
end
theorem YN {m n:Nat}(x:Int)(h:m≤n):cst m x=Cs m (cst n x):=by
 unfold cst Cs
 rw[List.take_set,List.take_replicate,Nat.min_eq_left h]
theorem LJ {m:Nat}(env:List Sr)(k:Nat):(env.map (Cs m)).getD k []=Cs m (env.getD k []):=by
 simp only[List.getD_eq_getElem?_getD,List.getElem?_map]
 cases env[k]? <;> simp[Cs]
structure lH (m:Nat)(C C':Ca):Prop where
 one:∀f j xs t,C'.one f j (xs.map (Cs m)) t=(C.one f j xs t).map (Cs m)
 all:∀f xs t,C'.all f (xs.map (Cs m)) t=(C.all f xs t).map (List.map (Cs m))
theorem YO {m:Nat}(hm:1≤m)(k:Int)(xs:List Sr)(t:Nat):LC k (xs.map (Cs m)) t=(LC k xs t).map (Cs m):=by
 unfold LC
 rw[LJ,LJ]
 split
 ·rw[Vx];rfl
 ·split
  ·rw[Vy];rfl
  ·split
   ·rw[VA];rfl
   ·split
    ·rw[Vz];rfl
    ·rw[DE _ (by omega)]
     split
     ·rfl
     ·rw[VB _ _ hm];rfl
section
variable {m n:Nat} {C C':Ca}
theorem St (hC:lH m C C')(f:Nat):∀(k:Nat)(xs:List Sr)(t:Nat),LB (C'.all f) k (xs.map (Cs m)) t=(LB (C.all f) k xs t).map (List.map (Cs m))
 |0,xs,t=>rfl
 |k+1,xs,t=>by
  rw[LB,LB,St hC f k xs t]
  cases LB (C.all f) k xs t with
  |err c=>rfl
  |ok ys u=>exact hC.all f ys u
theorem LK:∀(l:List Ex),(∀e∈l,∀env s,Ea m C' e (env.map (Cs m)) s=(Ea n C e env s).map (Cs m))→∀env s,E6 m C' l (env.map (Cs m)) s=(E6 n C l env s).map (List.map (Cs m))
 |[],_,env,s=>by rw[E6,E6];rfl
 |e::l,h,env,s=>by
  rw[E6,E6,h e (List.mem_cons_self ..)]
  cases Ea n C e env s with
  |err c=>rfl
  |ok x t =>
   show(E6 m C' l (env.map (Cs m)) t).bind _=_
   rw[LK l (fun e he=>h e (List.mem_cons_of_mem _ he)) env t]
   simp only[Rs.bind_ok]
   cases E6 n C l env t <;> rfl
theorem Iv:∀(l:List Ex)(j:Nat),(∀e∈l,∀env s,Ea m C' e (env.map (Cs m)) s=(Ea n C e env s).map (Cs m))→∀env s,IW m C' l j (env.map (Cs m)) s=(IW n C l j env s).map (Cs m)
 |[],j,_,env,s=>by rw[IW,IW];rfl
 |e::l,0,h,env,s=>by rw[IW,IW];exact h e (List.mem_cons_self ..) env s
 |e::l,j+1,h,env,s=>by rw[IW,IW];exact Iv l j (fun e he=>h e (List.mem_cons_of_mem _ he)) env s
theorem KM:∀ {l:List Ex}{e:Ex},e∈l→e.size≤Ex.sizes l
 |[],_,h=>by cases h
 |a::l,e,h=>by
  rw[Ex.sizes]
  rcases List.mem_cons.1 h with rfl|h
  ·omega
  ·have:=KM h;omega
theorem LL (hm:1≤m)(hmn:m≤n)(hC:lH m C C'):∀(z:Nat)(e:Ex),e.size≤z→∀env s,Ea m C' e (env.map (Cs m)) s=(Ea n C e env s).map (Cs m)
 |0,e,h,_,_=>by have:=Cb e;omega
 |z+1,e,h,env,s=>by
  have hk:∀x∈e.kids,∀env s,Ea m C' x (env.map (Cs m)) s=(Ea n C x env s).map (Cs m):=fun x hx=>LL hm hmn hC z x (by have:=Cb e;have:=KM hx;omega)
  rw[Fp,Fp]
  split
  ·rfl
  ·split
   ·rw[YN _ hmn];rfl
   ·split
    ·rw[LJ];rfl
    ·split
     ·rw[Iv _ 0 hk]
      cases IW n C e.kids 0 env (s+1)with
      |err c=>rfl
      |ok x t =>
       show(if (Cs m x).getD 0 0=0 then _ else _)=((if x.getD 0 0=0 then _ else _:Rs Sr)).map (Cs m)
       rw[DE _ (by omega)]
       split
       ·exact Iv _ 1 hk env t
       ·exact Iv _ 2 hk env t
     ·split
      ·rw[Iv _ 0 hk]
       cases IW n C e.kids 0 env (s+1)with
       |err c=>rfl
       |ok x t =>
        show IW m C' e.kids 1 (env.map (Cs m)++[Cs m x]) t=(IW n C e.kids 1 (env++[x]) t).map (Cs m)
        rw[← Iv _ 1 hk,List.map_append];rfl
      ·rw[LK _ hk]
       cases E6 n C e.kids env (s+1)with
       |err c=>rfl
       |ok xs t =>
        show(if e.kind=10 then _ else _)=((if e.kind=10 then _ else _:Rs Sr)).map (Cs m)
        split
        ·exact hC.one _ _ _ _
        ·split
         ·rw[St hC]
          cases LB (C.all e.num.toNat) e.count.toNat xs t with
          |err c=>rfl
          |ok ys u=>show Rs.ok _ _=Rs.ok _ _;rw[LJ]
         ·exact YO hm _ _ _
theorem Su (p:List Fn)(hm:1≤m)(hmn:m≤n):∀F,lH m (GY p n F) (GY p m F)
 |0=>⟨fun _ _ _ _=>rfl,fun _ _ _=>rfl⟩
 |F+1=>by
  have ih:=Su p hm hmn F
  refine⟨fun f j xs t=>?_,fun f xs t=>?_⟩
  ·show(if f=F then _ else _)=((if f=F then _ else _:Rs Sr)).map (Cs m)
   split
   ·exact LL hm hmn ih _ _ (A9 _) _ _
   ·exact ih.one f j xs t
  ·show(if f=F then _ else _)=((if f=F then _ else _:Rs (List Sr))).map (List.map (Cs m))
   split
   ·exact LK _ (fun e _=>LL hm hmn ih _ e (A9 _)) _ _
   ·exact ih.all f xs t
end
theorem VC (p:List Fn){m n:Nat}(hm:1≤m)(hmn:m≤n)(f:Nat)(a:List Sr):ev p m f (a.map (Cs m))=(ev p n f a).map (List.map (Cs m)) :=
 LK _ (fun e _=>LL hm hmn (Su p hm hmn f) _ e (A9 _)) _ _
theorem Sv (p:List Fn){m n:Nat}(hm:1≤m)(hmn:m≤n)(f:Nat)(a:List Sr):E7 p m f (a.map (Cs m))=(E7 p n f a).map (Cs m):=by
 unfold E7;rw[VC p hm hmn]
 cases ev p n f a <;> rfl
theorem YP (p:List Fn){m n:Nat}(hm:1≤m)(hmn:m≤n)(f:Nat)(a:List Sr):Hl p m f (a.map (Cs m))=Hl p n f a:=by
 unfold Hl;rw[VC p hm hmn]
 cases ev p n f a <;> rfl
end
section
def dW (n:Nat)(r:Rs Sr):Prop:=match r with
 |.ok x s=>Bt n x∧s≤3000
 |.err c=>c=6∨c=7
def kU (n m:Nat)(r:Rs (List Sr)):Prop:=match r with
 |.ok xs s=>xs.length=m∧Bs n xs∧s≤3000
 |.err c=>c=6∨c=7
structure lI (p:List Fn)(n F:Nat)(C:Ca):Prop where
 one:∀f j xs t,f<F→j<(p.getD f Fn.zero).outs.length→Bs n xs→((xs.length:Nat):Int)=(p.getD f Fn.zero).params→t≤3000→dW n (C.one f j xs t)
 all:∀f xs t,f<F→Bs n xs→((xs.length:Nat):Int)=(p.getD f Fn.zero).params→t≤3000→kU n (p.getD f Fn.zero).outs.length (C.all f xs t)
theorem Bs.nil (n:Nat):Bs n []:=fun k hk=>by simp at hk
theorem Bs.cons {n:Nat}{x:Sr}{xs:List Sr}(hx:Bt n x)(h:Bs n xs):Bs n (x::xs):=by
 intro k hk
 cases k with
 |zero=>exact hx
 |succ k=>exact h k (by simpa using hk)
theorem VD {n:Nat}{C:Ca}{env:List Sr}:∀(l:List Ex),(∀e∈l,∀s,s≤3000→dW n (Ea n C e env s))→∀s,s≤3000→kU n l.length (E6 n C l env s)
 |[],_,s,hs=>by rw[E6];exact⟨rfl,Bs.nil n,hs⟩
 |e::l,h,s,hs=>by
  rw[E6]
  have h1:=h e (List.mem_cons_self ..) s hs
  cases h2:Ea n C e env s with
  |err c=>rw[h2]at h1;exact h1
  |ok x t =>
   rw[h2]at h1
   have h3:=VD l (fun e he=>h e (List.mem_cons_of_mem _ he)) t h1.2
   rw[Rs.bind_ok]
   cases h4:E6 n C l env t with
   |err c=>rw[h4]at h3;exact h3
   |ok xs u=>rw[h4]at h3;exact⟨by simp[h3.1],Bs.cons h1.1 h3.2.1,h3.2.2⟩
theorem ZL {p:List Fn}{n F f:Nat}{C:Ca}(hC:lI p n F C)(hf:f<F)(ho:(((p.getD f Fn.zero).outs.length:Nat):Int)=(p.getD f Fn.zero).params):∀(k:Nat)(xs:List Sr)(t:Nat),Bs n xs→xs.length=(p.getD f Fn.zero).outs.length→t≤3000→kU n (p.getD f Fn.zero).outs.length (LB (C.all f) k xs t)
 |0,xs,t,h1,h2,h3=>⟨h2,h1,h3⟩
 |k+1,xs,t,h1,h2,h3=>by
  have h:=ZL hC hf ho k xs t h1 h2 h3
  rw[LB]
  cases h4:LB (C.all f) k xs t with
  |err c=>rw[h4]at h;exact h
  |ok ys u=>rw[h4]at h;rw[Rs.bind_ok];exact hC.all f ys u hf h.2.1 (by rw[h.1];exact ho) h.2.2
theorem fF {n:Nat}{k:Int}{xs:List Sr}{t:Nat}(hx:Bs n xs)(h0:0<xs.length)(ht:t≤3000):dW n (LC k xs t):=by
 have h1:=(hx 0 h0).1
 unfold LC
 split
 ·exact⟨⟨by rw[GR];exact h1,HY _ _⟩,ht⟩
 ·split
  ·exact⟨⟨by rw[GT];exact h1,GU _ _⟩,ht⟩
  ·split
   ·exact⟨⟨by rw[Fb];exact h1,Fd _ _⟩,ht⟩
   ·split
    ·exact⟨⟨by rw[GS];exact h1,Fe _ _⟩,ht⟩
    ·split
     ·exact .inl rfl
     ·exact⟨⟨by rw[DV];exact h1,El _ _⟩,ht⟩
theorem VE {p:List Fn}{n F:Nat}{C:Ca}(hC:lI p n F C):∀(z:Nat)(e:Ex),e.size≤z→∀(env:List Sr)(s:Nat),wf p ((F:Nat):Int) e ((env.length:Nat):Int)=true→Bs n env→s≤3000→dW n (Ea n C e env s)
 |0,e,h,_,_,_,_,_=>by have:=Cb e;omega
 |z+1,e,h,env,s,hw,he,hs=>by
  obtain⟨w1,w2,w3,w4,w5,w6,w7,w8⟩:=Do (D6 hw)
  have hz:∀j,j<e.kids.length→(e.kids.getD j Ex.zero).size≤z:=fun j hj=>by
   have h2:e.kids.getD j Ex.zero∈e.kids:=by rw[Dn hj];exact List.getElem_mem hj
   have:=Cb e;have:=KM h2;omega
  have hk:∀j,j<e.kids.length→¬(e.kind=9∧j=1)→∀t,t≤3000→dW n (IW n C e.kids j env t):=fun j hj hn t ht=>by
   rw[DP _ _ _ _ _ _ hj]
   exact VE hC z _ (hz j hj) env t (Gx hw hj hn) he ht
  rw[Fp]
  split
  ·exact .inr rfl
  ·rename_i hs3
   split
   ·rename_i h1;exact⟨ES (Cn.2 (w8 h1)),by omega⟩
   ·split
    ·rename_i h1 h2;exact⟨he _ (by have:=w2 h2;omega),by omega⟩
    ·split
     ·rename_i h1 h2 h8
      have h3:=w5 h8
      have hc:=hk 0 (by omega) (by omega) (s+1) (by omega)
      cases h4:IW n C e.kids 0 env (s+1)with
      |err c=>rw[h4]at hc;exact hc
      |ok x t =>
       rw[h4]at hc;rw[Rs.bind_ok]
       split
       ·exact hk 1 (by omega) (by omega) t hc.2
       ·exact hk 2 (by omega) (by omega) t hc.2
     ·split
      ·rename_i h1 h2 h8 h9
       have h3:=w3 (by omega)
       have hc:=hk 0 (by omega) (by omega) (s+1) (by omega)
       cases h4:IW n C e.kids 0 env (s+1)with
       |err c=>rw[h4]at hc;exact hc
       |ok x t =>
        rw[h4]at hc;rw[Rs.bind_ok,DP _ _ _ _ _ _ (show 1<e.kids.length by omega)]
        refine VE hC z _ (hz 1 (by omega)) (env++[x]) t ?_ (he.snoc hc.1) hc.2
        have:=Mn hw (by omega) h9
        rw[List.length_append,List.length_singleton];exact this
      ·rename_i h1 h2 h8 h9
       have hc:=VD (n:=n) (C:=C) (env:=env) e.kids (fun x hx t ht=>by
        obtain⟨j,hj,rfl⟩:=List.mem_iff_getElem.1 hx
        have:=hk j hj (by omega) t ht
        rwa [DP _ _ _ _ _ _ hj,Dn hj]at this) (s+1) (by omega)
       cases h4:E6 n C e.kids env (s+1)with
       |err c=>rw[h4]at hc;exact hc
       |ok xs t =>
        rw[h4]at hc;rw[Rs.bind_ok]
        obtain⟨c1,c2,c3⟩:=hc
        split
        ·rename_i h10
         have h6:=w6 (.inl h10)
         exact hC.one _ _ xs t (by omega) (by omega) c2 (by rw[c1];exact h6.2.2.1) c3
        ·split
         ·rename_i h11
          have h6:=w6 (.inr h11);have h7:=w7 h11
          have hl:=ZL hC (f:=e.num.toNat) (by omega) h7.1 e.count.toNat xs t c2 (by omega) c3
          cases h5:LB (C.all e.num.toNat) e.count.toNat xs t with
          |err c=>rw[h5]at hl;exact hl
          |ok ys u=>rw[h5]at hl;exact⟨hl.2.1 _ (by rw[hl.1];omega),hl.2.2⟩
         ·refine fF c2 ?_ c3
          rw[c1]
          by_cases h7:e.kind=7
          ·rw[w4 h7];decide
          ·rw[w3 (by omega)];decide
theorem ZM {p:List Fn}(hv:IJ p)(n:Nat):∀F,F≤p.length→lI p n F (GY p n F)
 |0,_=>⟨fun f j xs t h=>by omega,fun f xs t h=>by omega⟩
 |F+1,hF=>by
  have ih:=ZM hv n F (by omega)
  have hO:∀j xs t,j<(p.getD F Fn.zero).outs.length→Bs n xs→((xs.length:Nat):Int)=(p.getD F Fn.zero).params→t≤3000→dW n (Ea n (GY p n F) ((p.getD F Fn.zero).outs.getD j Ex.zero) xs t):=fun j xs t h2 h3 h4 h5 =>
   VE ih _ _ (A9 _) xs t (by rw[h4];exact hv.wf F (by omega) j h2) h3 h5
  refine⟨fun f j xs t h1 h2 h3 h4 h5=>?_,fun f xs t h1 h3 h4 h5=>?_⟩
  ·show dW n (if f=F then _ else _)
   split
   ·rename_i e;subst e;exact hO j xs t h2 h3 h4 h5
   ·exact ih.one f j xs t (by omega) h2 h3 h4 h5
  ·show kU n _ (if f=F then _ else _)
   split
   ·rename_i e;subst e
    refine VD _ (fun e he s hs=>?_) t h5
    obtain⟨j,hj,rfl⟩:=List.mem_iff_getElem.1 he
    have:=hO j xs s hj h3 h4 hs
    rwa [Dn hj]at this
   ·exact ih.all f xs t (by omega) h3 h4 h5
theorem dX {y z:List Sr}(hl:y.length=z.length)(h:∀j,j<y.length→y.getD j []=z.getD j []):y=z :=
 List.ext_getElem hl fun j h1 h2=>by have:=h j h1;rwa [Dn h1,Dn h2]at this
section
variable {p:List Fn} {f o:Nat} {a:List Int}
theorem QX (s:Sr)(k:Nat)(x:Int)(j:Nat):(s.set k x).getD j 0=if j=k∧k<s.length then x else s.getD j 0:=by
 simp only[List.getD_eq_getElem?_getD,List.getElem?_set]
 by_cases e:k=j
 ·subst e
  by_cases h:k<s.length
  ·simp[h]
  ·simp[h,List.getElem?_eq_none (Nat.le_of_not_lt h)]
 ·rw[if_neg e,if_neg (by omega)]
end
end
theorem Fr.rowCap {α:Type}{E:Bc α}{e e':TypeId}(hE:BI (AR E e)){B U:Nat}{w:World}{v:Value}{xs:List (List α)}(h:Fr (AR (AR E e) e') B U w.heap v xs){r:Nat}(hr:r<xs.length){u:Value}(hu:EX w.heap (Aw v r 1)=some u):Cf u:=by
 obtain⟨G,h1,_⟩:=h.row_two hE [] hr hu
 exact h1.cap
theorem VF {α:Type}{E:Bc α}{H:Array Obj}:∀ {us:List Value}{xs:List α}{F:List Nat}(k:Nat),els E H us xs F→∃G,els E H (us.take k) (xs.take k) G∧∀b∈G,b∈F:=by
 intro us
 induction us with
 |nil=>intro xs F k h;cases xs with
  |nil=>exact⟨F,by simpa using h,fun b hb=>hb⟩
  |cons=>exact h.elim
 |cons u us ih =>
  intro xs F k h
  cases xs with
  |nil=>exact h.elim
  |cons x xs =>
   cases k with
   |zero=>exact⟨[],rfl,fun b hb=>by cases hb⟩
   |succ k =>
    obtain⟨A,C,rfl,p1,p2⟩:=h
    obtain⟨G,g1,g2⟩:=ih k p2
    exact⟨A++G,⟨A,G,rfl,p1,g1⟩,fun b hb=>by
     rcases List.mem_append.1 hb with hb|hb
     ·exact List.mem_append_left _ hb
     ·exact List.mem_append_right _ (g2 b hb)⟩
theorem Rd.pref {α:Type}{E:Bc α}{H:Array Obj}{v:Value}{xs:List α}{k:Nat}(h:Rd (B3 E) H v xs)(hk:k≤xs.length):Rd (B3 E) H (M9 v k) (xs.take k):=by
 obtain⟨F,h⟩:=h
 rcases h with⟨a,cap,rfl,rfl,rfl⟩|⟨us,g,off,cap,cur,e,fr,F',hels,rfl,hg,h1,h2,rfl⟩
 ·have:k=0:=by simpa using hk
  subst this
  exact⟨[],.inl ⟨a,cap,rfl,by simp,rfl⟩⟩
 ·obtain⟨G,g1,_⟩:=VF k hels
  have hl:(xs.take k).length=k:=by rw[List.length_take];omega
  refine⟨g::G,.inr ⟨us.take k,g,off,cap,cur,e,fr,G,g1,by rw[hl];rfl,hg,?_,by rw[hl];omega,rfl⟩⟩
  rw[hl,← h1,List.take_take,Nat.min_eq_left hk]
section
def Iw {α:Type}(K:Nat)(R:(Nat→α)→α→Prop)(r:Nat→Rs α)(rz:Rs α):Prop:=match rz with
 |.ok z t=>∃x,(∀k,k<K→r k=.ok (x k) t)∧R x z
 |.err c=>∀k,k<K→r k=.err c
theorem Iw.congr {α:Type}{K:Nat}{R:(Nat→α)→α→Prop}{r r':Nat→Rs α}{rz:Rs α}(h:Iw K R r rz)(e:∀k,k<K→r' k=r k):Iw K R r' rz:=by
 cases rz with
 |ok z t=>obtain⟨x,h1,h2⟩:=h;exact⟨x,fun k hk=>(e k hk).trans (h1 k hk),h2⟩
 |err c=>exact fun k hk=>(e k hk).trans (h k hk)
theorem Iw.bind {α β:Type}{K:Nat}{R:(Nat→α)→α→Prop}{R':(Nat→β)→β→Prop}{r:Nat→Rs α}{rz:Rs α}{g:Nat→α→Nat→Rs β}{gz:α→Nat→Rs β}(h:Iw K R r rz)
  (hg:∀x z t,R x z→Iw K R' (fun k=>g k (x k) t) (gz z t)):Iw K R' (fun k=>(r k).bind (g k)) (rz.bind gz):=by
 cases rz with
 |ok z t =>
  obtain⟨x,h1,h2⟩:=h
  exact(hg x z t h2).congr fun k hk=>by rw[h1 k hk];rfl
 |err c=>exact fun k hk=>by show(r k).bind _=_;rw[h k hk];rfl
theorem Iw.ret {α:Type}{K:Nat}{R:(Nat→α)→α→Prop}{x:Nat→α}{z:α}{t:Nat}(h:R x z):Iw K R (fun k=>.ok (x k) t) (.ok z t):=⟨x,fun _ _=>rfl,h⟩
theorem Iw.fail {α:Type}{K:Nat}{R:(Nat→α)→α→Prop}{c:Int}:Iw K R (fun _=>.err c) (.err c):=fun _ _=>rfl
structure fG (K:Nat)(n:Nat→Nat)(nz:Nat)(R:(Nat→Sr)→Sr→Prop):Prop where
 zero:∀x z,R x z→∀k,k<K→((x k).getD 0 0=0↔z.getD 0 0=0)
 cst:∀c,Jb c=true→R (fun k=>cst (n k) c) (Go.Proofs.YtnokbaiemimhjaaGreat.cst nz c)
 add:∀x z y w,R x z→R y w→R (fun k=>Em (x k) (y k)) (Em z w)
 red:∀x z y w,R x z→R y w→R (fun k=>Dt (x k) (y k)) (Dt z w)
 pro:∀x z y w,R x z→R y w→R (fun k=>C5 (x k) (y k)) (C5 z w)
 scl:∀x z,R x z→R (fun k=>CK (x k) 1000002) (CK z 1000002)
 quo:∀x z y w,R x z→R y w→w.getD 0 0≠0→R (fun k=>BT (x k) (y k)) (BT z w)
def LM (K:Nat)(R:(Nat→Sr)→Sr→Prop)(m:Nat)(xs:Nat→List Sr)(zs:List Sr):Prop:=zs.length=m∧(∀k,k<K→(xs k).length=m)∧∀i,i<m→∃x,(∀k,k<K→(xs k).getD i []=x k)∧R x (zs.getD i [])
section
variable {K:Nat} {n:Nat→Nat} {nz:Nat} {R:(Nat→Sr)→Sr→Prop} {p:List Fn}
theorem LM.nil:LM K R 0 (fun _=>[]) []:=⟨rfl,fun _ _=>rfl,fun i hi=>by omega⟩
theorem LM.cons {m:Nat}{x:Nat→Sr}{z:Sr}{xs:Nat→List Sr}{zs:List Sr}(h1:R x z)(h:LM K R m xs zs):LM K R (m+1) (fun k=>x k::xs k) (z::zs):=by
 refine⟨by rw[List.length_cons,h.1],fun k hk=>by rw[List.length_cons,h.2.1 k hk],fun i hi=>?_⟩
 cases i with
 |zero=>exact⟨x,fun _ _=>rfl,h1⟩
 |succ i =>
  obtain⟨y,h3,h4⟩:=h.2.2 i (by omega)
  exact⟨y,fun k hk=>by simpa using h3 k hk,by simpa using h4⟩
theorem LM.snoc {m:Nat}{x:Nat→Sr}{z:Sr}{xs:Nat→List Sr}{zs:List Sr}(h:LM K R m xs zs)(h1:R x z):LM K R (m+1) (fun k=>xs k++[x k]) (zs++[z]):=by
 refine⟨by simp[h.1],fun k hk=>by simp[h.2.1 k hk],fun i hi=>?_⟩
 by_cases e:i=m
 ·exact⟨x,fun k hk=>JG (by rw[h.2.1 k hk];exact e),by rw[JG (by rw[h.1];exact e)];exact h1⟩
 ·obtain⟨y,h3,h4⟩:=h.2.2 i (by omega)
  exact⟨y,fun k hk=>by rw[JF (by rw[h.2.1 k hk];omega)];exact h3 k hk,by rw[JF (by rw[h.1];omega)];exact h4⟩
structure lJ (K:Nat)(R:(Nat→Sr)→Sr→Prop)(p:List Fn)(F:Nat)(C:Nat→Ca)(Cz:Ca):Prop where
 one:∀f j m xs zs t,f<F→j<(p.getD f Fn.zero).outs.length→LM K R m xs zs→((m:Nat):Int)=(p.getD f Fn.zero).params→Iw K R (fun k=>(C k).one f j (xs k) t) (Cz.one f j zs t)
 all:∀f m xs zs t,f<F→LM K R m xs zs→((m:Nat):Int)=(p.getD f Fn.zero).params→Iw K (LM K R (p.getD f Fn.zero).outs.length) (fun k=>(C k).all f (xs k) t) (Cz.all f zs t)
theorem VG {C:Nat→Ca}{Cz:Ca}{env:Nat→List Sr}{ez:List Sr}:∀(l:List Ex),(∀e∈l,∀s,Iw K R (fun k=>Ea (n k) (C k) e (env k) s) (Ea nz Cz e ez s))→∀s,Iw K (LM K R l.length) (fun k=>E6 (n k) (C k) l (env k) s) (E6 nz Cz l ez s)
 |[],_,s=>by
  simp only[E6]
  exact Iw.ret LM.nil
 |e::l,h,s=>by
  simp only[E6]
  exact(h e (List.mem_cons_self ..) s).bind fun x z t hx=>(VG l (fun e he=>h e (List.mem_cons_of_mem _ he)) t).bind fun xs zs u hxs=>Iw.ret (hxs.cons hx)
theorem ZN {F f:Nat}{C:Nat→Ca}{Cz:Ca}(hC:lJ K R p F C Cz)(hf:f<F)(ho:(((p.getD f Fn.zero).outs.length:Nat):Int)=(p.getD f Fn.zero).params):∀(c:Nat)(xs:Nat→List Sr)(zs:List Sr)(t:Nat),LM K R (p.getD f Fn.zero).outs.length xs zs →
  Iw K (LM K R (p.getD f Fn.zero).outs.length) (fun k=>LB ((C k).all f) c (xs k) t) (LB (Cz.all f) c zs t)
 |0,xs,zs,t,h=>Iw.ret h
 |c+1,xs,zs,t,h=>(ZN hC hf ho c xs zs t h).bind fun ys ws u hy=>hC.all f _ ys ws u hf hy ho
theorem LM.at {m i:Nat}{xs:Nat→List Sr}{zs:List Sr}{t:Nat}(h:LM K R m xs zs)(hi:i<m):Iw K R (fun k=>.ok ((xs k).getD i []) t) (.ok (zs.getD i []) t):=by
 obtain⟨x,h1,h2⟩:=h.2.2 i hi
 exact(Iw.ret h2).congr fun k hk=>by rw[h1 k hk]
theorem LM.two {m t t':Nat}{xs:Nat→List Sr}{zs:List Sr}{o:Sr→Sr→Sr}(h:LM K R m xs zs)(hm:2≤m)(ho:∀x z y w,R x z→R y w→R (fun k=>o (x k) (y k)) (o z w)) :
  Iw K R (fun k=>.ok (o ((xs k).getD 0 []) ((xs k).getD 1 [])) t) (.ok (o (zs.getD 0 []) (zs.getD 1 [])) t):=by
 obtain⟨x,h1,h2⟩:=h.2.2 0 (by omega)
 obtain⟨y,h3,h4⟩:=h.2.2 1 (by omega)
 exact(Iw.ret (ho x _ y _ h2 h4)).congr fun k hk=>by rw[h1 k hk,h3 k hk]
theorem fH (hR:fG K n nz R){kd:Int}{m t:Nat}{xs:Nat→List Sr}{zs:List Sr}(h:LM K R m xs zs)(h1:kd=7→1≤m)(h2:kd≠7→2≤m):Iw K R (fun k=>LC kd (xs k) t) (LC kd zs t):=by
 unfold LC
 by_cases k3:kd=3
 ·simp only[if_pos k3];exact h.two (t':=0) (h2 (by omega)) hR.add
 simp only[if_neg k3]
 by_cases k4:kd=4
 ·simp only[if_pos k4];exact h.two (t':=0) (h2 (by omega)) hR.red
 simp only[if_neg k4]
 by_cases k5:kd=5
 ·simp only[if_pos k5];exact h.two (t':=0) (h2 (by omega)) hR.pro
 simp only[if_neg k5]
 by_cases k7:kd=7
 ·simp only[if_pos k7]
  obtain⟨x,q1,q2⟩:=h.2.2 0 (h1 k7)
  exact(Iw.ret (hR.scl x _ q2)).congr fun k hk=>by rw[q1 k hk]
 simp only[if_neg k7]
 obtain⟨x,q1,q2⟩:=h.2.2 0 (by have:=h2 k7;omega)
 obtain⟨y,q3,q4⟩:=h.2.2 1 (by have:=h2 k7;omega)
 have hz:=hR.zero y _ q4
 by_cases h0:(zs.getD 1 []).getD 0 0=0
 ·simp only[if_pos h0]
  exact fun k hk=>by
   show(if List.getD ((xs k).getD 1 []) 0 0=0 then _ else _)=_
   rw[q3 k hk,if_pos ((hz k hk).2 h0)]
 ·simp only[if_neg h0]
  exact(Iw.ret (hR.quo x _ y _ q2 q4 h0)).congr fun k hk=>by rw[q3 k hk,q1 k hk,if_neg fun h=>h0 ((hz k hk).1 h)]
theorem VH (hR:fG K n nz R){F:Nat}{C:Nat→Ca}{Cz:Ca}(hC:lJ K R p F C Cz):∀(z:Nat)(e:Ex),e.size≤z→∀(m:Nat)(env:Nat→List Sr)(ez:List Sr)(s:Nat),wf p ((F:Nat):Int) e ((m:Nat):Int)=true→LM K R m env ez→Iw K R (fun k=>Ea (n k) (C k) e (env k) s) (Ea nz Cz e ez s)
 |0,e,h,_,_,_,_,_,_=>by have:=Cb e;omega
 |z+1,e,h,m,env,ez,s,hw,he=>by
  obtain⟨w1,w2,w3,w4,w5,w6,w7,w8⟩:=Do (D6 hw)
  have hz:∀j,j<e.kids.length→(e.kids.getD j Ex.zero).size≤z:=fun j hj=>by
   have:=Cb e;have:=M7 hj;omega
  have hk:∀j,j<e.kids.length→¬(e.kind=9∧j=1)→∀t,Iw K R (fun k=>IW (n k) (C k) e.kids j (env k) t) (IW nz Cz e.kids j ez t):=fun j hj hn t=>by
   simp only[DP _ _ _ _ _ _ hj]
   exact VH hR hC z _ (hz j hj) m env ez t (Gx hw hj hn) he
  simp only[Fp]
  by_cases hs3:3000≤s
  ·simp only[if_pos hs3];exact Iw.fail
  simp only[if_neg hs3]
  by_cases k1:e.kind=1
  ·simp only[if_pos k1];exact Iw.ret (hR.cst _ (Cn.2 (w8 k1)))
  simp only[if_neg k1]
  by_cases k2:e.kind=2
  ·simp only[if_pos k2];exact he.at (by have:=w2 k2;omega)
  simp only[if_neg k2]
  by_cases k8:e.kind=8
  ·simp only[if_pos k8]
   have h3:=w5 k8
   refine(hk 0 (by omega) (by omega) (s+1)).bind fun x y t hx=>?_
   have hq:=hR.zero x y hx
   by_cases h0:y.getD 0 0=0
   ·simp only[if_pos h0]
    exact(hk 1 (by omega) (by omega) t).congr fun k hk=>by rw[if_pos ((hq k hk).2 h0)]
   ·simp only[if_neg h0]
    exact(hk 2 (by omega) (by omega) t).congr fun k hk=>by rw[if_neg fun h=>h0 ((hq k hk).1 h)]
  simp only[if_neg k8]
  by_cases k9:e.kind=9
  ·simp only[if_pos k9]
   have h3:=w3 (by omega)
   refine(hk 0 (by omega) (by omega) (s+1)).bind fun x y t hx=>?_
   simp only[DP _ _ _ _ _ _ (show 1<e.kids.length by omega)]
   refine VH hR hC z _ (hz 1 (by omega)) (m+1) (fun k=>env k++[x k]) (ez++[y]) t ?_ (he.snoc hx)
   have:=Mn hw (by omega) k9
   rw[Int.natCast_add];exact this
  simp only[if_neg k9]
  have hc:=VG (n:=n) (C:=C) (nz:=nz) (Cz:=Cz) (env:=env) (ez:=ez) e.kids (fun x hx t=>by
   obtain⟨j,hj,rfl⟩:=List.mem_iff_getElem.1 hx
   have:=hk j hj (by omega) t
   simp only[DP _ _ _ _ _ _ hj,Dn hj]at this
   exact this) (s+1)
  refine hc.bind fun xs zs t hx=>?_
  by_cases k10:e.kind=10
  ·simp only[if_pos k10]
   have h6:=w6 (.inl k10)
   exact hC.one _ _ _ xs zs t (by omega) (by omega) hx (by exact h6.2.2.1)
  simp only[if_neg k10]
  by_cases k11:e.kind=11
  ·simp only[if_pos k11]
   have h6:=w6 (.inr k11);have h7:=w7 k11
   have hl:e.kids.length=(p.getD e.num.toNat Fn.zero).outs.length:=by omega
   rw[hl]at hx
   exact(ZN hC (f:=e.num.toNat) (by omega) h7.1 e.count.toNat xs zs t hx).bind fun ys ws u hy=>hy.at (by omega)
  simp only[if_neg k11]
  exact fH hR hx (fun h7=>by rw[w4 h7];decide) (fun h7=>by rw[w3 (by omega)];decide)
theorem ZO (hR:fG K n nz R)(hv:IJ p):∀F,F≤p.length→lJ K R p F (fun k=>GY p (n k) F) (GY p nz F)
 |0,_=>⟨fun f j m xs zs t h=>by omega,fun f m xs zs t h=>by omega⟩
 |F+1,hF=>by
  have ih:=ZO hR hv F (by omega)
  have hO:∀j m xs zs t,j<(p.getD F Fn.zero).outs.length→LM K R m xs zs→((m:Nat):Int)=(p.getD F Fn.zero).params→Iw K R (fun k=>Ea (n k) (GY p (n k) F) ((p.getD F Fn.zero).outs.getD j Ex.zero) (xs k) t) (Ea nz (GY p nz F) ((p.getD F Fn.zero).outs.getD j Ex.zero) zs t):=fun j m xs zs t h2 h3 h4 =>
   VH hR ih _ _ (A9 _) m xs zs t (by rw[h4];exact hv.wf F (by omega) j h2) h3
  refine⟨fun f j m xs zs t h1 h2 h3 h4=>?_,fun f m xs zs t h1 h3 h4=>?_⟩
  ·show Iw K R (fun k=>if f=F then _ else _) (if f=F then _ else _)
   by_cases e:f=F
   ·subst e;simp only[if_true];exact hO j m xs zs t h2 h3 h4
   ·simp only[if_neg e];exact ih.one f j m xs zs t (by omega) h2 h3 h4
  ·show Iw K _ (fun k=>if f=F then _ else _) (if f=F then _ else _)
   by_cases e:f=F
   ·subst e;simp only[if_true]
    refine VG _ (fun e he s=>?_) t
    obtain⟨j,hj,rfl⟩:=List.mem_iff_getElem.1 he
    have:=hO j m xs zs s hj h3 h4
    rwa [Dn hj]at this
   ·simp only[if_neg e];exact ih.all f m xs zs t (by omega) h3 h4
theorem lK (hR:fG K n nz R)(hv:IJ p){f m:Nat}{a:Nat→List Sr}{az:List Sr}(hf:f<p.length)(ha:LM K R m a az)(hl:((m:Nat):Int)=(p.getD f Fn.zero).params) :
  Iw K (LM K R (p.getD f Fn.zero).outs.length) (fun k=>ev p (n k) f (a k)) (ev p nz f az):=by
 have h:=(ZO hR hv (f+1) (by omega)).all f m a az 0 (by omega) ha hl
 simp only[JV (show f<f+1 by omega)]at h
 exact h
end
end
def Qs (f:Nat→Int):Nat→Int
 |0=>0
 |k+1=>Qs f k+f k
theorem LN {f g:Nat→Int}:∀K,(∀k,k<K→md (f k)=md (g k))→md (Qs f K)=md (Qs g K)
 |0,_=>rfl
 |K+1,h=>by
  show md (Qs f K+f K)=md (Qs g K+g K)
  rw[← E5,LN K (fun k hk=>h k (by omega)),h K (by omega),E5]
theorem Sw (A B:Int)(f g:Nat→Int):∀K,Qs (fun k=>A*f k+B*g k) K=A*Qs f K+B*Qs g K
 |0=>by show(0:Int)=A*0+B*0;simp
 |K+1=>by
  show Qs _ K+(A*f K+B*g K)=A*(Qs f K+f K)+B*(Qs g K+g K)
  rw[Sw A B f g K,Int.mul_add,Int.mul_add];omega
structure Rl (K:Nat)(c:Nat→Int)(x:Nat→Sr)(z:Sr):Prop where
 sz:Bt 2 z
 sx:∀k,k<K→Bt 2 (x k)
 v:∀k,k<K→(x k).getD 0 0=z.getD 0 0
 d:z.getD 1 0=md (Qs (fun k=>c k*(x k).getD 1 0) K)
theorem Rl.op {K:Nat}{c:Nat→Int}{xa xb out:Nat→Sr}{za zb oz:Sr}{A B:Int}(ha:Rl K c xa za)(hb:Rl K c xb zb)(hz:Bt 2 oz)(hx:∀k,k<K→Bt 2 (out k))(hv:∀k,k<K→(out k).getD 0 0=oz.getD 0 0)
  (h1:oz.getD 1 0=md (A*za.getD 1 0+B*zb.getD 1 0)) (h2:∀k,k<K→(out k).getD 1 0=md (A*(xa k).getD 1 0+B*(xb k).getD 1 0)):Rl K c out oz:=by
 refine⟨hz,hx,hv,?_⟩
 rw[h1,ha.d,hb.d,← E5,EQ,EQ,E5,← Sw]
 refine LN K fun k hk=>?_
 rw[h2 k hk,EQ]
 congr 1
 rw[Int.mul_add,Int.mul_left_comm,Int.mul_left_comm B]
theorem Oc {a b:Sr}{k:Nat}(h:k<a.length):(Em a b).getD k 0=md (a.getD k 0+b.getD k 0):=Bj 0 h
theorem Q8 {a b:Sr}{k:Nat}(h:k<a.length):(Dt a b).getD k 0=md (a.getD k 0-b.getD k 0):=Bj 0 h
theorem Od {a:Sr}{y:Int}{k:Nat}(h:k<a.length):(CK a y).getD k 0=md (a.getD k 0*y):=Bj 0 h
theorem Mz {a b:Sr}(h:0<a.length):(C5 a b).getD 0 0=md (0+a.getD 0 0*b.getD 0 0):=Bj 0 h
theorem ZP {a b:Sr}(h:1<a.length):(C5 a b).getD 1 0=md (md (0+a.getD 0 0*b.getD 1 0)+a.getD 1 0*b.getD 0 0):=Bj 0 h
theorem Q9 {a b:Sr}(h:0<a.length):(BT a b).getD 0 0=md (a.getD 0 0*inv (b.getD 0 0)):=JO h
theorem ZQ {a b:Sr}(h:1<a.length):(BT a b).getD 1 0=md (md (a.getD 1 0-(BT a b).getD 0 0*b.getD 1 0)*inv (b.getD 0 0)):=JO h
theorem YQ {n:Nat}{c:Int}(h:0<n):(cst n c).getD 0 0=c:=by
 obtain⟨n,rfl⟩:∃k,n=k+1:=⟨n-1,by omega⟩
 unfold cst;rw[List.replicate_succ];rfl
theorem ZR (c:Int):(cst 2 c).getD 1 0=0:=rfl
theorem Rl.all (K:Nat)(c:Nat→Int):fG K (fun _=>2) 2 (Rl K c) where
 zero:=fun x z h k hk=>by rw[h.v k hk]
 cst:=fun a ha=>⟨ES ha,fun _ _=>ES ha,fun _ _=>rfl,by
  have:∀K,Qs (fun k=>c k*(Go.Proofs.YtnokbaiemimhjaaGreat.cst 2 a).getD 1 0) K=0:=fun K=>by
   induction K with
   |zero=>rfl
   |succ K ih=>show Qs _ K+c K*(Go.Proofs.YtnokbaiemimhjaaGreat.cst 2 a).getD 1 0=0;rw[ih,ZR];simp
  rw[this,ZR];rfl⟩
 add:=fun x z y w hx hy=>Rl.op (A:=1) (B:=1) hx hy ⟨by rw[GR];exact hx.sz.1,HY _ _⟩ (fun k hk=>⟨by rw[GR];exact(hx.sx k hk).1,HY _ _⟩)
  (fun k hk=>by rw[Oc (by rw[(hx.sx k hk).1];decide),Oc (by rw[hx.sz.1];decide),hx.v k hk,hy.v k hk]) (by rw[Oc (by rw[hx.sz.1];decide),Int.one_mul,Int.one_mul]) (fun k hk=>by rw[Oc (by rw[(hx.sx k hk).1];decide),Int.one_mul,Int.one_mul])
 red:=fun x z y w hx hy=>Rl.op (A:=1) (B:=-1) hx hy ⟨by rw[GT];exact hx.sz.1,GU _ _⟩ (fun k hk=>⟨by rw[GT];exact(hx.sx k hk).1,GU _ _⟩)
  (fun k hk=>by rw[Q8 (by rw[(hx.sx k hk).1];decide),Q8 (by rw[hx.sz.1];decide),hx.v k hk,hy.v k hk]) (by rw[Q8 (by rw[hx.sz.1];decide)];congr 1;omega) (fun k hk=>by rw[Q8 (by rw[(hx.sx k hk).1];decide)];congr 1;omega)
 pro:=fun x z y w hx hy=>Rl.op (A:=w.getD 0 0) (B:=z.getD 0 0) hx hy ⟨by rw[Fb];exact hx.sz.1,Fd _ _⟩ (fun k hk=>⟨by rw[Fb];exact(hx.sx k hk).1,Fd _ _⟩)
  (fun k hk=>by rw[Mz (by rw[(hx.sx k hk).1];decide),Mz (by rw[hx.sz.1];decide),hx.v k hk,hy.v k hk])
  (by rw[ZP (by rw[hx.sz.1];decide),Oq,Int.zero_add,Int.add_comm,Int.mul_comm (z.getD 1 0)])
  (fun k hk=>by rw[ZP (by rw[(hx.sx k hk).1];decide),Oq,Int.zero_add,Int.add_comm,Int.mul_comm ((x k).getD 1 0),hx.v k hk,hy.v k hk])
 scl:=fun x z hx=>Rl.op (A:=1000002) (B:=0) hx hx ⟨by rw[GS];exact hx.sz.1,Fe _ _⟩ (fun k hk=>⟨by rw[GS];exact(hx.sx k hk).1,Fe _ _⟩)
  (fun k hk=>by rw[Od (by rw[(hx.sx k hk).1];decide),Od (by rw[hx.sz.1];decide),hx.v k hk]) (by rw[Od (by rw[hx.sz.1];decide)];congr 1;omega) (fun k hk=>by rw[Od (by rw[(hx.sx k hk).1];decide)];congr 1;omega)
 quo:=fun x z y w hx hy h0=>by
  have hq:∀k,k<K→(BT (x k) (y k)).getD 0 0=(BT z w).getD 0 0:=fun k hk=>by rw[Q9 (by rw[(hx.sx k hk).1];decide),Q9 (by rw[hx.sz.1];decide),hx.v k hk,hy.v k hk]
  have hf:∀a q b i:Int,md (md (a-q*b)*i)=md (i*a+(-(q*i))*b):=fun a q b i=>by
   rw[EP];congr 1
   rw[Int.sub_mul,Int.neg_mul,Int.mul_comm a i,Int.mul_assoc,Int.mul_assoc,Int.mul_comm b i];omega
  exact Rl.op (A:=inv (w.getD 0 0)) (B:=-((BT z w).getD 0 0*inv (w.getD 0 0))) hx hy ⟨by rw[DV];exact hx.sz.1,El _ _⟩ (fun k hk=>⟨by rw[DV];exact(hx.sx k hk).1,El _ _⟩) hq
   (by rw[ZQ (by rw[hx.sz.1];decide),hf]) (fun k hk=>by rw[ZQ (by rw[(hx.sx k hk).1];decide),hf,hq k hk,hy.v k hk])
section
section ops
variable {P:Program} {ops:Array Oper} {w0:World} {Q:Act→World→Prop} {os:List Oper} {ks:List Nat} {N:Nat} {ρ:Nat→Value} {w:World}
 {d:Nat} {ty:TypeId} {pos:String} {aft:Array Edge} {g:Option (Nat×Bool)} {t e:TypeId} {z:Value} {b s:Nat} {α:Type} {E:Bw α}
end ops
theorem MA {p:List Fn}(hv:IJ p){n f:Nat}{a:List Sr}(hf:f<p.length)(ha:Bs n a)(hl:((a.length:Nat):Int)=(p.getD f Fn.zero).params) :
  (∃x s,ev p n f a=.ok x s∧x.length=(p.getD f Fn.zero).outs.length∧Bs n x)∨ev p n f a=.err 6∨ev p n f a=.err 7:=by
 have h:=(ZM hv n (f+1) (by omega)).all f a 0 (by omega) ha hl (by omega)
 rw[JV (by omega)]at h
 have e:ev p n f a=E6 n (GY p n f) (p.getD f Fn.zero).outs a 0:=rfl
 rw[← e]at h
 cases h2:ev p n f a with
 |err c =>
  rw[h2]at h;have h:c=6∨c=7:=h
  rcases h with rfl|rfl
  ·exact .inr (.inl rfl)
  ·exact .inr (.inr rfl)
 |ok xs s =>
  rw[h2]at h;have h:xs.length=_∧Bs n xs∧s≤3000:=h
  exact .inl ⟨xs,s,rfl,h.1,h.2.1⟩
section
variable {p:List Fn} {f:Int} {a:List Int}
end
end
def Gj (a d:List Int)(n:Nat):List Sr:=Fj a.length fun i=>(cst n (a.getD i 0)).set 1 (d.getD i 0)
@[simp] theorem CQ (a d:List Int)(n:Nat):(Gj a d n).length=a.length:=by simp[Gj]
theorem MB {a d:List Int}{n k:Nat}(h:k<a.length):(Gj a d n).getD k []=(cst n (a.getD k 0)).set 1 (d.getD k 0):=Bj [] h
theorem Hq {a d:List Int}{n:Nat}(ha:B8 a=true)(hd:B8 d=true):Bs n (Gj a d n):=fun k hk=>by
 rw[CQ]at hk
 rw[MB hk]
 refine⟨by rw[List.length_set,FG],?_⟩
 have h1:=ES (n:=n) (Cn.2 (Be ha k))
 unfold B8
 rw[List.all_eq_true]
 intro y hy
 rcases List.mem_or_eq_of_mem_set hy with hy|rfl
 ·have:=h1.2;unfold B8 at this;exact List.all_eq_true.1 this y hy
 ·exact Cn.2 (Be hd k)
def Qa (p:List Fn)(f:Nat)(a d:List Int):List Sr:=E7 p 2 f (Gj a d 2)
def fI (p:List Fn)(f:Nat)(a d:List Int):Int:=Hl p 2 f (Gj a d 2)
def G3 (n:Nat)(ps:List Int):Nat→List Int
 |0=>List.replicate n 0
 |j+1=>(G3 n ps j).set (ps.getD j 0).toNat (md ((G3 n ps j).getD (ps.getD j 0).toNat 0+1))
theorem I9 (n:Nat)(ps:List Int):∀j,(G3 n ps j).length=n
 |0=>List.length_replicate ..
 |j+1=>by show(List.set _ _ _).length=n;rw[List.length_set,I9 n ps j]
theorem H2 (n:Nat)(ps:List Int):∀j,B8 (G3 n ps j)=true
 |0=>GZ n
 |j+1=>by
  have h:=H2 n ps j
  unfold B8 at h ⊢
  rw[List.all_eq_true]at h ⊢
  intro y hy
  rcases List.mem_or_eq_of_mem_set hy with hy|rfl
  ·exact h y hy
  ·exact Cn.2 (BK _)
def lL (p:List Fn)(f:Nat)(a:List Int)(i r:Nat):List Int:=Fj i fun c=>((Qa p f a (G3 a.length [((c:Nat):Int)] 1)).getD r []).getD 1 0
@[simp] theorem YS (p:List Fn)(f:Nat)(a:List Int)(i r:Nat):(lL p f a i r).length=i:=by simp[lL]
def OS (p:List Fn)(f:Nat)(a:List Int)(K i:Nat):List (List Int):=Fj K (lL p f a i)
@[simp] theorem OT (p:List Fn)(f:Nat)(a:List Int)(K i:Nat):(OS p f a K i).length=K:=by simp[OS]
theorem dY {p:List Fn}{f:Nat}{a:List Int}{K i r:Nat}(hr:r<K) :
  (Cu r (OS p f a K (i+1)) (OS p f a K i)).set r ((Cu r (OS p f a K (i+1)) (OS p f a K i)).getD r []++[((Qa p f a (G3 a.length [((i:Nat):Int)] 1)).getD r []).getD 1 0])=Cu (r+1) (OS p f a K (i+1)) (OS p f a K i):=by
 unfold OS
 rw[D4 [] (by simp) (A9 _) (by simpa using hr),Bj [] hr,DC (by simp) hr]
 congr 1
 exact(Mc i fun c=>((Qa p f a (G3 a.length [((c:Nat):Int)] 1)).getD r []).getD 1 0).symm
theorem VI {p:List Fn}{f:Nat}{a:List Int}{K i r:Nat}(hr:r<K):((Cu r (OS p f a K (i+1)) (OS p f a K i)).getD r []).length=i:=by
 unfold OS
 rw[D4 [] (by simp) (A9 _) (by simpa using hr),Bj [] hr,YS]
theorem dZ (a d:List Int):(Gj a d 2).map (Cs 1)=C7 a:=by
 refine dX (by rw[List.length_map,CQ];unfold C7;rw[List.length_map]) fun k hk=>?_
 rw[List.length_map,CQ]at hk
 rw[B4 (d:=[]) (by rw[CQ];exact hk),MB hk]
 unfold C7
 rw[B4 (d:=0) hk]
 rfl
theorem fJ (p:List Fn)(f:Nat)(a d:List Int):fI p f a d=ET p f a:=by
 unfold fI ET
 rw[← YP p (A9 1) (show 1≤2 by decide),dZ]
theorem lM (p:List Fn)(f:Nat)(a:List Int)(K:Nat):OS p f a K 0=List.replicate K []:=by
 refine dX (by simp) fun i hi=>?_
 rw[OT]at hi
 unfold OS
 rw[Bj [] hi,List.getD_eq_getElem?_getD,List.getElem?_replicate,if_pos hi];rfl
section
def eV (n k:Nat):List Int:=G3 n [((k:Nat):Int)] 1
theorem HF (n j:Nat):(List.replicate n (0:Int)).getD j 0=0:=by
 rw[List.getD_eq_getElem?_getD,List.getElem?_replicate];split <;> rfl
theorem VJ {n k j:Nat}(hk:k<n):(eV n k).getD j 0=if k=j then 1 else 0:=by
 show((List.replicate n (0:Int)).set (((k:Nat):Int)).toNat (md ((List.replicate n (0:Int)).getD (((k:Nat):Int)).toNat 0+1))).getD j 0=_
 rw[Int.toNat_natCast,QX,List.length_replicate,HF,HF]
 by_cases e:k=j
 ·subst e;rw[if_pos ⟨rfl,hk⟩,if_pos rfl];rfl
 ·rw[if_neg (by omega),if_neg e]
theorem QY (n k:Nat):B8 (eV n k)=true:=H2 _ _ _
theorem VL {a d:List Int}{i:Nat}(h:i<a.length):((Gj a d 2).getD i []).getD 0 0=a.getD i 0:=by rw[MB h];rfl
theorem Sx {a d:List Int}{i:Nat}(h:i<a.length):((Gj a d 2).getD i []).getD 1 0=d.getD i 0:=by rw[MB h];rfl
theorem eA {p:List Fn}(hv:IJ p){n f:Nat}{a:List Sr}(hf:f<p.length)(ha:Bs n a)(hl:((a.length:Nat):Int)=(p.getD f Fn.zero).params)(h0:Hl p n f a=0):∃x t,ev p n f a=.ok x t∧x.length=(p.getD f Fn.zero).outs.length∧Bs n x:=by
 rcases MA hv hf ha hl with⟨x,s,h1,h2,h3⟩|h1|h1
 ·exact⟨x,s,h1,h2,h3⟩
 ·rw[I6 h1]at h0;omega
 ·rw[I6 h1]at h0;omega
theorem VN {p:List Fn}{f:Nat}{a d:List Int}{K:Nat}{D:Nat→List Int}{c:Nat→Int}(hv:IJ p)(hf:f<p.length)(hl:((a.length:Nat):Int)=(p.getD f Fn.zero).params)(hna:B8 a=true)(hnd:B8 d=true)
  (hD:∀k,k<K→B8 (D k)=true) (hc:∀i,i<a.length→d.getD i 0=md (Qs (fun k=>c k*(D k).getD i 0) K)) (h0:ET p f a=0) {r:Nat} (hr:r<(p.getD f Fn.zero).outs.length) :
  ((Qa p f a d).getD r []).getD 1 0=md (Qs (fun k=>c k*((Qa p f a (D k)).getD r []).getD 1 0) K):=by
 have h:=lK (Rl.all K c) hv (m:=a.length) (a:=fun k=>Gj a (D k) 2) (az:=Gj a d 2) hf
  ⟨CQ _ _ _,fun k _=>CQ _ _ _,fun i hi=>⟨fun k=>(Gj a (D k) 2).getD i [],fun _ _=>rfl,
   ⟨Hq hna hnd i (by rw[CQ];exact hi),fun k hk=>Hq hna (hD k hk) i (by rw[CQ];exact hi),fun k _=>by rw[VL hi,VL hi],by
    rw[Sx hi,hc i hi]
    refine LN K fun k _=>?_
    rw[Sx hi]⟩⟩⟩ hl
 have hdc:Hl p 2 f (Gj a d 2)=0:=(fJ p f a d).trans h0
 obtain⟨z,t,he,_,_⟩:=eA hv hf (Hq (n:=2) hna hnd) (by rw[CQ];exact hl) hdc
 rw[he]at h
 obtain⟨x,h1,h2⟩:=h
 obtain⟨y,h3,h4⟩:=h2.2.2 r hr
 unfold Qa
 rw[Mq he,h4.d]
 refine LN K fun k hk=>?_
 rw[← h3 k hk,Mq (h1 k hk)]
structure mM (p:List Fn)(f:Nat)(a:List Int):Prop where
 v:IJ p
 lt:f<p.length
 l:((a.length:Nat):Int)=(p.getD f Fn.zero).params
 n:B8 a=true
 z:ET p f a=0
section
variable {p:List Fn} {f:Nat} {a d e:List Int}
end
end
theorem eB {N:Nat}{a b:Sr}(ha:Bt N a):EN N (BM (Em a b)) (fun k=>BM a k+BM b k):=fun k hk=>by
 show md ((Em a b).getD k 0)=_
 rw[Oc (by rw[ha.1];exact hk),EZ];rfl
theorem lN {N:Nat}{a:Sr}{y:Int}(ha:Bt N a):EN N (BM (CK a y)) (fun k=>y*BM a k):=fun k hk=>by
 show md ((CK a y).getD k 0)=_
 rw[Od (by rw[ha.1];exact hk),EZ,Int.mul_comm];rfl
theorem EN.add {N:Nat}{f f' g g':Nat→Int}(hf:EN N f f')(hg:EN N g g'):EN N (fun k=>f k+g k) (fun k=>f' k+g' k):=fun k hk=>by rw[← E5,hf k hk,hg k hk,E5]
section
section str
variable {P:Program} {ops:Array Oper} {w0:World} {Q:Act→World→Prop} {os:List Oper} {ks:List Nat} {N:Nat} {ρ:Nat→Value} {w:World}
 {d:Nat} {ty:TypeId} {pos:String} {aft:Array Edge} {g:Option (Nat×Bool)} {t e:TypeId}
theorem eC {x:Operand}{u:Value}(hx:Bm N ρ x=u)(hc:u.cells=#[u])(hu:Up ops N ρ ⟨some d,.box t x,ty,pos,aft,g⟩)
  (h:∀w1,Ay w w1→w1.heap.size=w.heap.size+1→BX w1.heap w.heap.size [u]→LW P ops w0 Q os ks (mk N (CY ρ d (.pointer (some ⟨w.heap.size,0,none⟩)))) w1) :
  LW P ops w0 Q (⟨some d,.box t x,ty,pos,aft,g⟩::os) (3::ks) (mk N ρ) w:=by
 have hrun:(execOp (Bm N ρ) ⟨some d,.box t x,ty,pos,aft,g⟩).run P w=.ok (.value (.pointer (some ⟨w.heap.size,0,none⟩))) (w.alloc (.cells #[u] t)):=by
  simp[execOp,Instr.box,newVar,newRow,hx,hc]
 refine Ns rfl hu _ _ hrun (BY _ _) (h _ (BY _ _) (by simp) ⟨t,?_⟩)
 have:=heap_alloc_new w (.cells #[u] t)
 simpa using this
end str
section draw3
variable {P:Program}
end draw3
end
def dl (i:Nat)(j:Nat):Int:=if i=j then 1 else 0
section
structure QZ (m:Nat)(a:List Int)(X:List Sr):Prop where
 len:X.length=a.length
 ser:∀i,i<a.length→Bt m (X.getD i [])
 at0:∀i,i<a.length→(X.getD i []).getD 0 0=a.getD i 0
section
variable {p:List Fn} {f m:Nat} {a:List Int} {X:List Sr} {b:Sr}
end
end
section
theorem Qb {α:Type}{P:List α→Prop}(h0:P [])(h1:∀l c,P l→P (l++[c]))(l:List α):P l:=by
 have h:∀l:List α,P l.reverse:=fun l=>by
  induction l with
  |nil=>exact h0
  |cons c l ih=>rw[List.reverse_cons];exact h1 _ _ ih
 have:=h l.reverse
 rwa [List.reverse_reverse]at this
def G5 (m:Nat)(A R:List Sr)(c:AF):Sr :=
 if c.op=1 then A.getD c.num.toNat []else if c.op=3 then Em (R.getD c.a.toNat []) (R.getD c.b.toNat [])else if c.op=4 then Dt (R.getD c.a.toNat []) (R.getD c.b.toNat [])
 else if c.op=5 then C5 (R.getD c.a.toNat []) (R.getD c.b.toNat [])else if c.op=7 then CK (R.getD c.a.toNat []) 1000002
 else if c.op=6 then BT (R.getD c.a.toNat []) (R.getD c.b.toNat [])else cst m c.num
def B9 (m:Nat)(A:List Sr)(cs:List AF):List Sr:=cs.foldl (fun R c=>R++[G5 m A R c]) []
section
variable {m:Nat} {A:List Sr}
theorem H3 (cs:List AF)(c:AF):B9 m A (cs++[c])=B9 m A cs++[G5 m A (B9 m A cs) c]:=by unfold B9;rw[List.foldl_append];rfl
@[simp] theorem BE (cs:List AF):(B9 m A cs).length=cs.length:=by
 induction cs using Qb with
 |h0=>rfl
 |h1 l c ih=>rw[H3,List.length_append,ih,List.length_append];rfl
theorem MC (cs l:List AF){k:Nat}(hk:k<cs.length):(B9 m A (cs++l)).getD k []=(B9 m A cs).getD k []:=by
 induction l using Qb with
 |h0=>rw[List.append_nil]
 |h1 l c ih=>rw[← List.append_assoc,H3,JF (by rw[BE,List.length_append];omega),ih]
theorem Oe (cs:List AF)(c:AF):(B9 m A (cs++[c])).getD cs.length []=G5 m A (B9 m A cs) c:=by rw[H3,JG (by rw[BE])]
end
def GH (ni k:Nat)(c:AF):Prop :=
 (c.op=1∧c.a=0∧c.b=0∧0≤c.num∧c.num<((ni:Nat):Int))∨(c.op=2∧c.a=0∧c.b=0∧0≤c.num∧c.num<1000003) ∨
 ((c.op=3∨c.op=4∨c.op=5∨c.op=6)∧(0≤c.a∧c.a<((k:Nat):Int))∧(0≤c.b∧c.b<((k:Nat):Int))∧c.num=0)∨(c.op=7∧(0≤c.a∧c.a<((k:Nat):Int))∧c.b=0∧c.num=0)
theorem GH.bin {ni k:Nat}{op a b:Int}(h:op=3∨op=4∨op=5∨op=6)(ha:0≤a∧a<((k:Nat):Int))(hb:0≤b∧b<((k:Nat):Int)):GH ni k ⟨op,a,b,0⟩:=.inr (.inr (.inl ⟨h,ha,hb,rfl⟩))
theorem GH.neg {ni k:Nat}{a:Int}(ha:0≤a∧a<((k:Nat):Int)):GH ni k ⟨7,a,0,0⟩:=.inr (.inr (.inr ⟨rfl,ha,rfl,rfl⟩))
structure DF (m:Nat)(A:List Sr)(T:Tp):Prop where
 cl:T.code.length=T.vals.length
 ser:∀k,k<T.code.length→Bt m ((B9 m A T.code).getD k [])∧((B9 m A T.code).getD k []).getD 0 0=T.vals.getD k 0
 form:∀k,k<T.code.length→GH A.length k (T.code.getD k AF.zero)
 dv:∀k,k<T.code.length→(T.code.getD k AF.zero).op=6→T.at (T.code.getD k AF.zero).b≠0
 gd:∀k,k<T.grd.length→(0≤(T.grd.getD k QP.zero).reg∧(T.grd.getD k QP.zero).reg<((T.vals.length:Nat):Int))∧(T.grd.getD k QP.zero).z=decide (T.at (T.grd.getD k QP.zero).reg=0)
def TE (T T':Tp):Prop:=(∃l,T'.code=T.code++l)∧∃l,T'.vals=T.vals++l
theorem TE.refl (T:Tp):TE T T:=⟨⟨[],by simp⟩,[],by simp⟩
theorem TE.trans {T T' T'':Tp}(h:TE T T')(k:TE T' T''):TE T T'':=by
 obtain⟨⟨l,h1⟩,l2,h2⟩:=h
 obtain⟨⟨l3,h3⟩,l4,h4⟩:=k
 exact⟨⟨l++l3,by rw[h3,h1,List.append_assoc]⟩,l2++l4,by rw[h4,h2,List.append_assoc]⟩
theorem TE.put (T:Tp)(c:AF)(v:Int):TE T (T.put c v):=⟨⟨[c],rfl⟩,[v],rfl⟩
theorem TE.guard (T:Tp)(r:Int)(z:Bool):TE T (T.guard r z):=⟨⟨[],by simp[Tp.guard]⟩,[],by simp[Tp.guard]⟩
section
variable {m:Nat} {A:List Sr} {T T':Tp}
theorem TE.reg (h:TE T T'){k:Nat}(hk:k<T.code.length):(B9 m A T'.code).getD k []=(B9 m A T.code).getD k []:=by
 obtain⟨⟨l,h1⟩,_⟩:=h
 rw[h1,MC _ _ hk]
theorem TE.at (h:TE T T'){r:Int}(hr:0≤r∧r<((T.vals.length:Nat):Int)):T'.at r=T.at r:=by
 obtain⟨_,l,h1⟩:=h
 unfold Tp.at
 rw[h1,JF (by omega)]
theorem TE.len (h:TE T T'):T.code.length≤T'.code.length∧T.vals.length≤T'.vals.length:=by
 obtain⟨⟨l,h1⟩,l2,h2⟩:=h
 rw[h1,h2,List.length_append,List.length_append];omega
def Pr (m:Nat)(A:List Sr)(T:Tp)(r:Int)(z:Sr):Prop:=(0≤r∧r<((T.vals.length:Nat):Int))∧z=(B9 m A T.code).getD r.toNat []
def Of (m:Nat)(A:List Sr)(n:Nat)(T:Tp)(rs:List Int)(zs:List Sr):Prop:=rs.length=n∧zs.length=n∧∀i,i<n→Pr m A T (rs.getD i 0) (zs.getD i [])
theorem Pr.mono {r:Int}{z:Sr}(hc:T.code.length=T.vals.length)(h:Pr m A T r z)(k:TE T T'):Pr m A T' r z:=by
 have:=k.len
 exact⟨by have:=h.1;omega,by rw[k.reg (by have:=h.1;omega)];exact h.2⟩
theorem Of.mono {n:Nat}{rs:List Int}{zs:List Sr}(hc:T.code.length=T.vals.length)(h:Of m A n T rs zs)(k:TE T T'):Of m A n T' rs zs:=⟨h.1,h.2.1,fun i hi=>(h.2.2 i hi).mono hc k⟩
theorem Of.snoc {n:Nat}{rs:List Int}{zs:List Sr}{r:Int}{z:Sr}(h:Of m A n T rs zs)(h1:Pr m A T r z):Of m A (n+1) T (rs++[r]) (zs++[z]):=by
 refine⟨by simp[h.1],by simp[h.2.1],fun i hi=>?_⟩
 by_cases e:i=n
 ·rw[JG (by rw[h.1];exact e),JG (by rw[h.2.1];exact e)];exact h1
 ·rw[JF (by rw[h.1];omega),JF (by rw[h.2.1];omega)];exact h.2.2 i (by omega)
theorem Pr.at (hI:DF m A T){r:Int}{z:Sr}(h:Pr m A T r z):Bt m z∧z.getD 0 0=T.at r:=by
 have:=hI.ser r.toNat (by rw[hI.cl];have:=h.1;omega)
 rw[h.2];exact this
def Ix {α β:Type}(m:Nat)(A:List Sr)(T:Tp)(R:Tp→α→β→Prop)(r:Rs (α×Tp))(rz:Rs β):Prop:=match r with
 |.ok x t=>∃z,rz=.ok z t∧DF m A x.2∧TE T x.2∧R x.2 x.1 z
 |.err c=>rz=.err c
theorem Ix.bind {α β α' β':Type}{R:Tp→α→β→Prop}{R':Tp→α'→β'→Prop}{r:Rs (α×Tp)}{rz:Rs β}{g:α×Tp→Nat→Rs (α'×Tp)}{gz:β→Nat→Rs β'}(h:Ix m A T R r rz)
  (hg:∀x T' z t,DF m A T'→TE T T'→R T' x z→Ix m A T' R' (g (x,T') t) (gz z t)):Ix m A T R' (r.bind g) (rz.bind gz):=by
 cases r with
 |err c=>have h9:rz=.err c:=h;subst h9;exact rfl
 |ok x t =>
  obtain⟨z,h1,h2,h3,h4⟩:=h
  subst h1
  have h5:=hg x.1 x.2 z t h2 h3 h4
  rw[Rs.bind_ok,Rs.bind_ok]
  cases hr:g x t with
  |err c=>rw[hr]at h5;exact h5
  |ok y u =>
   rw[hr]at h5
   obtain⟨v,q1,q2,q3,q4⟩:=h5
   exact⟨v,q1,q2,h3.trans q3,q4⟩
theorem Ix.ret {α β:Type}{R:Tp→α→β→Prop}{x:α}{z:β}{t:Nat}(hI:DF m A T')(hE:TE T T')(h:R T' x z):Ix m A T R (.ok (x,T') t) (.ok z t):=⟨z,rfl,hI,hE,h⟩
theorem DF.put (h:DF m A T){c:AF}{v:Int}(hs:Bt m (G5 m A (B9 m A T.code) c))(hv:(G5 m A (B9 m A T.code) c).getD 0 0=v)(hf:GH A.length T.code.length c)(hd:c.op=6→T.at c.b≠0):DF m A (T.put c v):=by
 have hE:=TE.put T c v
 have hcl:=h.cl
 have key:∀k,k<(T.put c v).code.length→k<T.code.length∨k=T.code.length:=fun k hk=>by rw[QU]at hk;omega
 have cg:∀k,k<T.code.length→(T.put c v).code.getD k AF.zero=T.code.getD k AF.zero:=fun k hk=>JF hk
 have cn:(T.put c v).code.getD T.code.length AF.zero=c:=JG rfl
 refine⟨by rw[QU,Ho,hcl],fun k hk=>?_,fun k hk=>?_,fun k hk h6=>?_,fun k hk=>?_⟩
 ·rcases key k hk with hk|rfl
  ·rw[hE.reg hk,show(T.put c v).vals.getD k 0=T.vals.getD k 0 from JF (by omega)];exact h.ser k hk
  ·rw[show(B9 m A (T.put c v).code).getD T.code.length []=_ from Oe _ _,show(T.put c v).vals.getD T.code.length 0=v from JG hcl];exact⟨hs,hv⟩
 ·rcases key k hk with hk|rfl
  ·rw[cg k hk];exact h.form k hk
  ·rw[cn];exact hf
 ·rcases key k hk with hk|rfl
  ·rw[cg k hk]at h6 ⊢
   have:=h.form k hk
   unfold GH at this
   rw[hE.at (by omega)];exact h.dv k hk h6
  ·rw[cn]at h6 ⊢
   unfold GH at hf
   rw[hE.at (by omega)];exact hd h6
 ·have:=h.gd k hk
  rw[Vl]at hk ⊢
  refine⟨by rw[Ho];omega,?_⟩
  rw[hE.at this.1];exact this.2
theorem DF.guard (h:DF m A T){r:Int}(hr:0≤r∧r<((T.vals.length:Nat):Int)):DF m A (T.guard r (decide (T.at r=0))):=by
 refine⟨h.cl,h.ser,h.form,h.dv,fun k hk=>?_⟩
 rw[Q0]at hk
 by_cases e:k<T.grd.length
 ·rw[show(T.guard r (decide (T.at r=0))).grd.getD k QP.zero=T.grd.getD k QP.zero from JF e];exact h.gd k e
 ·rw[show(T.guard r (decide (T.at r=0))).grd.getD k QP.zero=⟨r,decide (T.at r=0)⟩from JG (by omega)];exact⟨hr,rfl⟩
theorem Ix.put {R:Tp→Int→Sr→Prop}{c:AF}{v:Int}{z:Sr}{t:Nat}(h:DF m A T)(hz:G5 m A (B9 m A T.code) c=z)(hs:Bt m z)(hv:z.getD 0 0=v)(hf:GH A.length T.code.length c)(hd:c.op=6→T.at c.b≠0)
  (hR:∀T' r z,Pr m A T' r z→R T' r z):Ix m A T R (.ok (((T.vals.length:Nat):Int),T.put c v) t) (.ok z t):=by
 subst hz
 refine Ix.ret (h.put hs hv hf hd) (TE.put T c v) (hR _ _ _ ⟨by rw[Ho];omega,?_⟩)
 rw[Int.toNat_natCast,← h.cl];exact(Oe _ _).symm
theorem fK (hm:1≤m)(h:DF m A T){k:Int}{n t:Nat}{rs:List Int}{zs:List Sr}(hr:Of m A n T rs zs)(hk:3≤k∧k≤7)(h1:k=7→1≤n)(h2:k≠7→2≤n):Ix m A T (Pr m A) (Vb k rs t T) (LC k zs t):=by
 have hn1:1≤n:=by by_cases e:k=7;exact h1 e;have:=h2 e;omega
 have ha:=hr.2.2 0 (by omega)
 have hA:=ha.at h
 have hal:=hA.1.1
 have hac:=ha.1
 have hcl:=h.cl
 have fin:∀T' r z,Pr m A T' r z→Pr m A T' r z:=fun _ _ _ h=>h
 by_cases k7:k=7
 ·subst k7
  rw[Jf (ZJ rfl),Vk rfl]
  refine Ix.put h ?_ ⟨(GS _ _).trans hal,Fe _ _⟩ ?_ (GH.neg (by omega)) (fun h6=>absurd (show(7:Int)=6 from h6) (by decide)) fin
  ·rw[ha.2];rfl
  ·rw[Od (by omega),hA.2]
   show md (T.at (rs.getD 0 0)*1000002)=md (0-T.at (rs.getD 0 0))
   unfold md;omega
 have hb:=hr.2.2 1 (h2 k7)
 have hB:=hb.at h
 have hbl:=hB.1.1
 have hbc:=hb.1
 by_cases k3:k=3
 ·subst k3
  rw[Jf (fun h=>h.1 rfl),Hn (by decide)]
  refine Ix.put h ?_ ⟨(GR _ _).trans hal,HY _ _⟩ ?_ (GH.bin (.inl rfl) (by omega) (by omega)) (fun h6=>absurd (show(3:Int)=6 from h6) (by decide)) fin
  ·rw[ha.2,hb.2];rfl
  ·rw[Oc (by omega),hA.2,hB.2];rfl
 by_cases k4:k=4
 ·subst k4
  rw[Jf (fun h=>h.2.1 rfl),Hn (by decide)]
  refine Ix.put h ?_ ⟨(GT _ _).trans hal,GU _ _⟩ ?_ (GH.bin (.inr (.inl rfl)) (by omega) (by omega)) (fun h6=>absurd (show(4:Int)=6 from h6) (by decide)) fin
  ·rw[ha.2,hb.2];rfl
  ·rw[Q8 (by omega),hA.2,hB.2];rfl
 by_cases k5:k=5
 ·subst k5
  rw[Jf (fun h=>h.2.2.1 rfl),Hn (by decide)]
  refine Ix.put h ?_ ⟨(Fb _ _).trans hal,Fd _ _⟩ ?_ (GH.bin (.inr (.inr (.inl rfl))) (by omega) (by omega)) (fun h6=>absurd (show(5:Int)=6 from h6) (by decide)) fin
  ·rw[ha.2,hb.2];rfl
  ·rw[Mz (by omega),hA.2,hB.2,Int.zero_add];rfl
 have k6:k=6:=by omega
 subst k6
 by_cases hz:T.at (rs.getD 1 0)=0
 ·rw[Sm (by rw[Hn (by decide)];exact⟨by decide,by decide,by decide,by decide,hz⟩)]
  show LC 6 zs t=.err 6
  show(if (zs.getD 1 []).getD 0 0=0 then _ else _)=_
  rw[if_pos (by rw[hB.2];exact hz)]
 ·rw[Jf (by rw[Hn (by decide)];exact fun h9=>hz h9.2.2.2.2),Hn (by decide)]
  have e:LC 6 zs t=.ok (BT (zs.getD 0 []) (zs.getD 1 [])) t:=by
   show(if (zs.getD 1 []).getD 0 0=0 then _ else _)=_
   rw[if_neg (by rw[hB.2];exact hz)]
  rw[e]
  refine Ix.put h ?_ ⟨(DV _ _).trans hal,El _ _⟩ ?_ (GH.bin (.inr (.inr (.inr rfl))) (by omega) (by omega)) (fun _=>hz) fin
  ·rw[ha.2,hb.2];rfl
  ·rw[Q9 (by omega),hA.2,hB.2];rfl
end
structure lO (m:Nat)(A:List Sr)(p:List Fn)(F:Nat)(G:Cg)(C:Ca):Prop where
 one:∀f j n T rs zs t,f<F→j<(p.getD f Fn.zero).outs.length→DF m A T→Of m A n T rs zs→((n:Nat):Int)=(p.getD f Fn.zero).params→Ix m A T (Pr m A) (G.one f j rs t T) (C.one f j zs t)
 all:∀f n T rs zs t,f<F→DF m A T→Of m A n T rs zs→((n:Nat):Int)=(p.getD f Fn.zero).params→Ix m A T (Of m A (p.getD f Fn.zero).outs.length) (G.all f rs t T) (C.all f zs t)
section
variable {m:Nat} {A:List Sr} {p:List Fn}
theorem VO {G:Cg}{C:Ca}{env:List Int}{ez:List Sr}{n:Nat}:∀(l:List Ex),(∀e∈l,∀s T,DF m A T→Of m A n T env ez→Ix m A T (Pr m A) (HD G e env s T) (Ea m C e ez s))→∀s T,DF m A T→Of m A n T env ez→Ix m A T (Of m A l.length) (It G l env s T) (E6 m C l ez s)
 |[],_,s,T,hI,he=>by
  rw[It,E6]
  exact Ix.ret hI (TE.refl T) ⟨rfl,rfl,fun i hi=>absurd hi (Nat.not_lt_zero i)⟩
 |e::l,h,s,T,hI,he=>by
  rw[It,E6]
  refine(h e (by simp) s T hI he).bind fun x T1 z t h1 h2 h3=>?_
  refine(VO l (fun e' he'=>h e' (by simp[he'])) t T1 h1 (he.mono hI.cl h2)).bind fun xs T2 zs u q1 q2 q3=>?_
  refine Ix.ret q1 (TE.refl T2) ⟨by simp[q3.1],by simp[q3.2.1],fun i hi=>?_⟩
  cases i with
  |zero=>exact h3.mono h1.cl q2
  |succ i=>exact q3.2.2 i (by simpa using hi)
theorem VP {F f:Nat}{G:Cg}{C:Ca}(hC:lO m A p F G C)(hf:f<F)(ho:(((p.getD f Fn.zero).outs.length:Nat):Int)=(p.getD f Fn.zero).params):∀(c:Nat)(rs:List Int)(zs:List Sr)(t:Nat)(T:Tp),DF m A T→Of m A (p.getD f Fn.zero).outs.length T rs zs →
  Ix m A T (Of m A (p.getD f Fn.zero).outs.length) (Je (G.all f) c rs t T) (LB (C.all f) c zs t)
 |0,rs,zs,t,T,hI,h=>Ix.ret hI (TE.refl T) h
 |c+1,rs,zs,t,T,hI,h=>(VP hC hf ho c rs zs t T hI h).bind fun x T1 z u h1 h2 h3=>hC.all f _ T1 x z u hf h1 h3 ho
theorem VQ (hm:1≤m){F:Nat}{G:Cg}{C:Ca}(hC:lO m A p F G C):∀(z:Nat)(e:Ex),e.size≤z→∀(n:Nat)(env:List Int)(ez:List Sr)(s:Nat)(T:Tp),wf p ((F:Nat):Int) e ((n:Nat):Int)=true→DF m A T→Of m A n T env ez →
  Ix m A T (Pr m A) (HD G e env s T) (Ea m C e ez s)
 |0,e,h,_,_,_,_,_,_,_,_=>by have:=Cb e;omega
 |z+1,e,h,n,env,ez,s,T,hw,hI,he=>by
  obtain⟨w1,w2,w3,w4,w5,w6,w7,w8⟩:=Do (D6 hw)
  have hz:∀j,j<e.kids.length→(e.kids.getD j Ex.zero).size≤z:=fun j hj=>by
   have:=Cb e;have:=M7 hj;omega
  have hk:∀j,j<e.kids.length→¬(e.kind=9∧j=1)→∀t T',DF m A T'→Of m A n T' env ez→Ix m A T' (Pr m A) (QT G e.kids j env t T') (IW m C e.kids j ez t):=fun j hj hn t T' h1 h2=>by
   rw[FY _ _ _ _ _ _ hj,DP _ _ _ _ _ _ hj]
   exact VQ hm hC z _ (hz j hj) n env ez t T' (Gx hw hj hn) h1 h2
  rw[Hm,Fp]
  by_cases hs3:3000≤s
  ·rw[if_pos hs3,if_pos hs3];exact rfl
  rw[if_neg hs3,if_neg hs3]
  by_cases k1:e.kind=1
  ·rw[if_pos k1,if_pos k1]
   have:=w8 k1
   exact Ix.put hI rfl (ES (Cn.2 this)) (YQ hm) (.inr (.inl ⟨rfl,rfl,rfl,this⟩)) (fun h6=>absurd (show(2:Int)=6 from h6) (by decide)) fun _ _ _ h=>h
  rw[if_neg k1,if_neg k1]
  by_cases k2:e.kind=2
  ·rw[if_pos k2,if_pos k2]
   exact Ix.ret hI (TE.refl T) (he.2.2 _ (by have:=w2 k2;omega))
  rw[if_neg k2,if_neg k2]
  by_cases k8:e.kind=8
  ·rw[if_pos k8,if_pos k8]
   have h3:=w5 k8
   refine(hk 0 (by omega) (by omega) (s+1) T hI he).bind fun x T1 y t h1 h2 hx=>?_
   have hq:=(hx.at h1).2
   have he1:=he.mono hI.cl h2
   dsimp only
   have fin:∀ {r:Rs RI} {rz:Rs Sr} {b:Bool},Ix m A (T1.guard x b) (Pr m A) r rz→Ix m A T1 (Pr m A) r rz:=fun {r rz b} hh=>by
    cases r with
    |err c=>exact hh
    |ok v u=>obtain⟨q,a1,a2,a3,a4⟩:=hh;exact⟨q,a1,a2,(TE.guard T1 x b).trans a3,a4⟩
   have hg:=h1.guard hx.1
   by_cases h0:T1.at x=0
   ·rw[if_pos h0,if_pos (by rw[hq];exact h0)]
    rw[A7 h0]at hg
    exact fin (hk 1 (by omega) (by omega) t _ hg (he1.mono h1.cl (TE.guard T1 x true)))
   ·rw[if_neg h0,if_neg (by rw[hq];exact h0)]
    rw[A8 h0]at hg
    exact fin (hk 2 (by omega) (by omega) t _ hg (he1.mono h1.cl (TE.guard T1 x false)))
  rw[if_neg k8,if_neg k8]
  by_cases k9:e.kind=9
  ·rw[if_pos k9,if_pos k9]
   have h3:=w3 (by omega)
   refine(hk 0 (by omega) (by omega) (s+1) T hI he).bind fun x T1 y t h1 h2 hx=>?_
   dsimp only
   rw[FY _ _ _ _ _ _ (show 1<e.kids.length by omega),DP _ _ _ _ _ _ (show 1<e.kids.length by omega)]
   refine VQ hm hC z _ (hz 1 (by omega)) (n+1) (env++[x]) (ez++[y]) t T1 ?_ h1 ((he.mono hI.cl h2).snoc hx)
   have:=Mn hw (by omega) k9
   rw[Int.natCast_add];exact this
  rw[if_neg k9,if_neg k9]
  have hc:=VO (G:=G) (C:=C) (env:=env) (ez:=ez) (n:=n) e.kids (fun x hx t T' h1 h2=>by
   obtain⟨j,hj,rfl⟩:=List.mem_iff_getElem.1 hx
   have:=hk j hj (by omega) t T' h1 h2
   rw[FY _ _ _ _ _ _ hj,DP _ _ _ _ _ _ hj,Dn hj]at this
   exact this) (s+1) T hI he
  refine hc.bind fun xs T1 zs t h1 h2 hx=>?_
  dsimp only
  by_cases k10:e.kind=10
  ·rw[if_pos k10,if_pos k10]
   have h6:=w6 (.inl k10)
   exact hC.one _ _ _ T1 xs zs t (by omega) (by omega) h1 hx (by exact h6.2.2.1)
  rw[if_neg k10,if_neg k10]
  by_cases k11:e.kind=11
  ·rw[if_pos k11,if_pos k11]
   have h6:=w6 (.inr k11);have h7:=w7 k11
   have hl:e.kids.length=(p.getD e.num.toNat Fn.zero).outs.length:=by omega
   rw[hl]at hx
   refine(VP hC (f:=e.num.toNat) (by omega) h7.1 e.count.toNat xs zs t T1 h1 hx).bind fun ys T2 ws u q1 q2 q3=>?_
   exact Ix.ret q1 (TE.refl T2) (q3.2.2 _ (by omega))
  rw[if_neg k11,if_neg k11]
  exact fK hm h1 hx (by omega) (fun h7=>by rw[w4 h7];decide) (fun h7=>by rw[w3 (by omega)];decide)
theorem ZT (hm:1≤m)(hv:IJ p):∀F,F≤p.length→lO m A p F (Li p F) (GY p m F)
 |0,_=>⟨fun f j n T rs zs t h=>by omega,fun f n T rs zs t h=>by omega⟩
 |F+1,hF=>by
  have ih:=ZT hm hv F (by omega)
  have hO:∀j n T rs zs t,j<(p.getD F Fn.zero).outs.length→DF m A T→Of m A n T rs zs→((n:Nat):Int)=(p.getD F Fn.zero).params→Ix m A T (Pr m A) (HD (Li p F) ((p.getD F Fn.zero).outs.getD j Ex.zero) rs t T) (Ea m (GY p m F) ((p.getD F Fn.zero).outs.getD j Ex.zero) zs t):=fun j n T rs zs t h2 h1 h3 h4 =>
   VQ hm ih _ _ (A9 _) n rs zs t T (by rw[h4];exact hv.wf F (by omega) j h2) h1 h3
  refine⟨fun f j n T rs zs t h1 h2 h0 h3 h4=>?_,fun f n T rs zs t h1 h0 h3 h4=>?_⟩
  ·show Ix m A T _ (if f=F then _ else _) (if f=F then _ else _)
   by_cases e:f=F
   ·subst e;rw[if_pos rfl,if_pos rfl];exact hO j n T rs zs t h2 h0 h3 h4
   ·rw[if_neg e,if_neg e];exact ih.one f j n T rs zs t (by omega) h2 h0 h3 h4
  ·show Ix m A T _ (if f=F then _ else _) (if f=F then _ else _)
   by_cases e:f=F
   ·subst e;rw[if_pos rfl,if_pos rfl]
    refine VO (n:=n) _ (fun e he s T' h5 h6=>?_) t T h0 h3
    obtain⟨j,hj,rfl⟩:=List.mem_iff_getElem.1 he
    have:=hO j n T' rs zs s hj h5 h6 h4
    rwa [Dn hj]at this
   ·rw[if_neg e,if_neg e];exact ih.all f n T rs zs t (by omega) h0 h3 h4
theorem ZU {a:List Int}(hn:B8 a=true)(hA:QZ m a A):∀k,k≤a.length→DF m A (JX a k)
 |0,_=>⟨rfl,fun k hk=>absurd hk (Nat.not_lt_zero k),fun k hk=>absurd hk (Nat.not_lt_zero k),fun k hk=>absurd hk (Nat.not_lt_zero k),fun k hk=>absurd hk (Nat.not_lt_zero k)⟩
 |k+1,h=>by
  have e:G5 m A (B9 m A (JX a k).code) ⟨1,0,0,((k:Nat):Int)⟩=A.getD k []:=by
   show A.getD (((k:Nat):Int)).toNat []=_
   rw[Int.toNat_natCast]
  refine(ZU hn hA k (by omega)).put ?_ ?_ (.inl ⟨rfl,rfl,rfl,Int.natCast_nonneg k,by rw[hA.len];exact Int.ofNat_lt.2 h⟩) (fun h6=>absurd (show(1:Int)=6 from h6) (by decide))
  ·rw[e];exact hA.ser k h
  ·rw[e];exact hA.at0 k h
theorem fL {a:List Int}(hA:QZ m a A):Of m A a.length (JX a a.length) (HE a.length) A:=by
 have hr:∀k,k≤a.length→∀j,j<k→(B9 m A (JX a k).code).getD j []=A.getD j []:=fun k=>by
  induction k with
  |zero=>exact fun _ j hj=>absurd hj (Nat.not_lt_zero j)
  |succ k ih =>
   intro hk j hj
   show(B9 m A ((JX a k).code++[_])).getD j []=_
   rw[H3]
   by_cases e:j=k
   ·rw[JG (by rw[BE,ON];exact e),e]
    show A.getD (((k:Nat):Int)).toNat []=_
    rw[Int.toNat_natCast]
   ·rw[JF (by rw[BE,ON];omega)];exact ih (by omega) j (by omega)
 refine⟨H1 _,hA.len,fun i hi=>?_⟩
 rw[Q3 hi]
 exact⟨by rw[KK];omega,by rw[Int.toNat_natCast,hr _ (A9 _) i hi]⟩
theorem Sy {a:List Int}{f:Nat}(hm:1≤m)(hv:IJ p)(hf:f<p.length)(hn:B8 a=true)(hA:QZ m a A)(hl:((a.length:Nat):Int)=(p.getD f Fn.zero).params) :
  Ix m A (JX a a.length) (Of m A (p.getD f Fn.zero).outs.length) (Mv p f a) (ev p m f A):=by
 have h:=(ZT (A:=A) hm hv (f+1) (by omega)).all f a.length (JX a a.length) (HE a.length) A 0 (by omega) (ZU hn hA _ (A9 _)) (fL hA) hl
 rw[OL (show f<f+1 by omega),JV (show f<f+1 by omega)]at h
 exact h
theorem K2 {a:List Int}{f:Nat}(hm:1≤m)(hv:IJ p)(hf:f<p.length)(hn:B8 a=true)(hA:QZ m a A)(hl:((a.length:Nat):Int)=(p.getD f Fn.zero).params){xs:List Int}{T:Tp}{s:Nat}{c:Int}(h:AT (Mv p f a) (xs,T) s c):Hl p m f A=c:=by
 have hT:=Sy hm hv hf hn hA hl
 cases hr:Mv p f a with
 |err d =>
  rw[hr]at h hT
  have h9:ev p m f A=.err d:=hT
  rw[I6 h9];exact h.1.symm
 |ok x t =>
  rw[hr]at h hT
  obtain⟨z,h1,_⟩:=hT
  rw[O5 h1];exact h.2.2.symm
theorem K3 {a:List Int}{f:Nat}(hm:1≤m)(hv:IJ p)(hf:f<p.length)(hn:B8 a=true)(hA:QZ m a A)(hl:((a.length:Nat):Int)=(p.getD f Fn.zero).params){xs:List Int}{T:Tp}{s:Nat}{c:Int}(h:AT (Mv p f a) (xs,T) s c)(hc:c=0) :
  DF m A T∧E7 p m f A=xs.map fun r=>(B9 m A T.code).getD r.toNat []:=by
 have hT:=Sy hm hv hf hn hA hl
 subst hc
 have hr:=h.ok
 rw[hr]at hT
 obtain⟨z,h1,h2,h3,h4⟩:=hT
 refine⟨h2,?_⟩
 rw[Mq h1]
 refine dX (by rw[h4.2.1,List.length_map,h4.1]) fun i hi=>?_
 rw[h4.2.1]at hi
 rw[B4 (d:=0) (by rw[h4.1];exact hi)]
 exact(h4.2.2 i hi).2
end
end
section
def Nx (m:Nat)(A:List Sr)(cs:List AF)(k:Nat):Prop:=∀j,j<k→(cs.getD j AF.zero).op=6→((B9 m A (cs.take j)).getD (cs.getD j AF.zero).b.toNat []).getD 0 0≠0
section
variable {m k:Nat} {A R:List Sr} {cs:List AF} {c:AF}
theorem DG (hk:k<cs.length):B9 m A (cs.take (k+1))=B9 m A (cs.take k)++[G5 m A (B9 m A (cs.take k)) (cs.getD k AF.zero)]:=by
 rw[Cq AF.zero hk,H3]
theorem OU (h:c.op=1):G5 m A R c=A.getD c.num.toNat []:=if_pos h
theorem MD (h:c.op=3):G5 m A R c=Em (R.getD c.a.toNat []) (R.getD c.b.toNat []):=by unfold G5;rw[if_neg (by omega),if_pos h]
theorem ME (h:c.op=4):G5 m A R c=Dt (R.getD c.a.toNat []) (R.getD c.b.toNat []):=by unfold G5;rw[if_neg (by omega),if_neg (by omega),if_pos h]
theorem MF (h:c.op=5):G5 m A R c=C5 (R.getD c.a.toNat []) (R.getD c.b.toNat []):=by unfold G5;rw[if_neg (by omega),if_neg (by omega),if_neg (by omega),if_pos h]
theorem MG (h:c.op=7):G5 m A R c=CK (R.getD c.a.toNat []) 1000002:=by unfold G5;rw[if_neg (by omega),if_neg (by omega),if_neg (by omega),if_neg (by omega),if_pos h]
theorem MH (h:c.op=6):G5 m A R c=BT (R.getD c.a.toNat []) (R.getD c.b.toNat []):=by unfold G5;rw[if_neg (by omega),if_neg (by omega),if_neg (by omega),if_neg (by omega),if_neg (by omega),if_pos h]
theorem MI (h:c.op≠1∧c.op≠3∧c.op≠4∧c.op≠5∧c.op≠7∧c.op≠6):G5 m A R c=cst m c.num:=by
 unfold G5;rw[if_neg h.1,if_neg h.2.1,if_neg h.2.2.1,if_neg h.2.2.2.1,if_neg h.2.2.2.2.1,if_neg h.2.2.2.2.2]
theorem VS (hA:Bs m A)(hR:Bs m R)(hl:R.length=k)(h:GH A.length k c):Bt m (G5 m A R c):=by
 have hg:∀x:Int,0≤x→x<((k:Nat):Int)→Bt m (R.getD x.toNat []):=fun x h0 h1=>hR _ (by omega)
 rcases h with⟨h1,_,_,h2,h3⟩|⟨h1,_,_,h2,h3⟩|⟨h1,h2,h3,_⟩|⟨h1,h2,_⟩
 ·rw[OU h1];exact hA _ (by omega)
 ·rw[MI (by omega)];exact ES (Cn.2 ⟨h2,h3⟩)
 ·have ha:=hg c.a h2.1 h2.2
  rcases h1 with h1|h1|h1|h1
  ·rw[MD h1];exact I4 ha
  ·rw[ME h1];exact Mp ha
  ·rw[MF h1];exact I5 ha
  ·rw[MH h1];exact H0 ha
 ·rw[MG h1];exact PW (hg c.a h2.1 h2.2)
theorem YT (h:Bs m (B9 m A (cs.take k)))(hA:Bs m A)(hf:GH A.length k (cs.getD k AF.zero))(hk:k<cs.length):Bs m (B9 m A (cs.take (k+1))):=by
 rw[DG hk]
 exact Bs.snoc h (VS hA h (by rw[BE,List.length_take];omega) hf)
theorem eD:Nx m A cs 0:=fun j hj=>absurd hj (Nat.not_lt_zero j)
theorem YU (h:Nx m A cs k)(hk:(cs.getD k AF.zero).op≠6):Nx m A cs (k+1):=fun j hj h6=>by
 by_cases e:j=k
 ·subst e;exact absurd h6 hk
 ·exact h j (by omega) h6
theorem YV (h:Nx m A cs k)(hk:((B9 m A (cs.take k)).getD (cs.getD k AF.zero).b.toNat []).getD 0 0≠0):Nx m A cs (k+1):=fun j hj h6=>by
 by_cases e:j=k
 ·subst e;exact hk
 ·exact h j (by omega) h6
theorem VT {n:Nat}(hk:k<n)(h6:(cs.getD k AF.zero).op=6)(hz:((B9 m A (cs.take k)).getD (cs.getD k AF.zero).b.toNat []).getD 0 0=0):¬Nx m A cs n:=fun h=>h k hk h6 hz
end
theorem DF.nz {m:Nat}{A:List Sr}{T:Tp}(h:DF m A T):Nx m A T.code T.code.length:=fun j hj h6=>by
 have hf:=h.form j hj
 have hd:=h.dv j hj h6
 unfold GH at hf
 have hb:(T.code.getD j AF.zero).b.toNat<j:=by omega
 have hs:=(h.ser (T.code.getD j AF.zero).b.toNat (by omega)).2
 have e:(B9 m A (T.code.take j)).getD (T.code.getD j AF.zero).b.toNat []=(B9 m A T.code).getD (T.code.getD j AF.zero).b.toNat []:=by
  have h9:=MC (m:=m) (A:=A) (T.code.take j) (T.code.drop j) (k:=(T.code.getD j AF.zero).b.toNat) (by rw[List.length_take];omega)
  rw[List.take_append_drop]at h9
  exact h9.symm
 rw[e,hs]
 exact hd
section io
variable {ni k:Nat} {c:AF}
theorem GH.i1 (h:GH ni k c)(h1:c.op=1):(0≤c.num∧c.num<((ni:Nat):Int)):=by unfold GH at h;omega
theorem GH.i2 (h:GH ni k c)(h1:3≤c.op∧c.op≤6):(0≤c.a∧c.a<((k:Nat):Int))∧(0≤c.b∧c.b<((k:Nat):Int)):=by unfold GH at h;omega
theorem GH.i7 (h:GH ni k c)(h1:c.op=7):(0≤c.a∧c.a<((k:Nat):Int)):=by unfold GH at h;omega
end io
theorem R0 {S:List Nat}{H:Array Obj}{cs:List Value}{x:AF}(h:RN S QQ H cs x):cs=kT x∧YC x:=by
 obtain⟨F,h,_⟩:=h
 exact⟨h.1,h.2.1⟩
def YW (m:Nat)(A:List Sr)(cs:List AF)(c:Int):Prop:=(c=0∧Nx m A cs cs.length)∨(c=6∧¬Nx m A cs cs.length)
end
section
def FH (B:List Sr)(r:Int)(s:Sr):List Sr:=B.set r.toNat (Em (B.getD r.toNat []) s)
def Og (cs:List AF)(R:List Sr)(k:Nat)(B:List Sr):List Sr :=
 if (cs.getD k AF.zero).op=3 then FH (FH B (cs.getD k AF.zero).a (B.getD k [])) (cs.getD k AF.zero).b (B.getD k [])
 else if (cs.getD k AF.zero).op=4 then FH (FH B (cs.getD k AF.zero).a (B.getD k [])) (cs.getD k AF.zero).b (CK (B.getD k []) 1000002)
 else if (cs.getD k AF.zero).op=5 then FH (FH B (cs.getD k AF.zero).a (C5 (B.getD k []) (R.getD (cs.getD k AF.zero).b.toNat []))) (cs.getD k AF.zero).b (C5 (B.getD k []) (R.getD (cs.getD k AF.zero).a.toNat []))
 else if (cs.getD k AF.zero).op=6 then FH (FH B (cs.getD k AF.zero).a (BT (B.getD k []) (R.getD (cs.getD k AF.zero).b.toNat []))) (cs.getD k AF.zero).b (CK (C5 (BT (B.getD k []) (R.getD (cs.getD k AF.zero).b.toNat [])) (R.getD k [])) 1000002)
 else if (cs.getD k AF.zero).op=7 then FH B (cs.getD k AF.zero).a (CK (B.getD k []) 1000002)else B
def TT (cs:List AF)(R:List Sr):Nat→List Sr→List Sr
 |0,B=>B
 |k+1,B=>TT cs R k (Og cs R k B)
def Nq (os:List Int)(ws:List Int):Nat→List Sr→List Sr
 |0,B=>B
 |k+1,B=>(Nq os ws k B).set (os.getD k 0).toNat (((Nq os ws k B).getD (os.getD k 0).toNat []).set 0 (md (((Nq os ws k B).getD (os.getD k 0).toNat []).getD 0 0+ws.getD k 0)))
def K4 (R:List Sr):List Sr:=R.map fun s=>List.replicate s.length 0
def Lj (cs:List AF)(R:List Sr)(os ws:List Int):List Sr:=TT cs R cs.length (Nq os ws os.length (K4 R))
section
variable {m:Nat} {cs:List AF} {R B:List Sr} {os ws:List Int}
theorem Hr (h:Bs m R):Bs m (K4 R):=fun k hk=>by
 have hk':k<R.length:=by unfold K4 at hk;simpa using hk
 have e:(K4 R).getD k []=List.replicate (R.getD k []).length 0:=by unfold K4;simp[List.getD_eq_getElem?_getD,List.getElem?_map,hk']
 rw[e]
 exact⟨by rw[List.length_replicate];exact(h k hk').1,GZ _⟩
@[simp] theorem D7:(K4 R).length=R.length:=by simp[K4]
@[simp] theorem Eo (k:Nat):(Nq os ws k B).length=B.length:=by
 induction k with
 |zero=>rfl
 |succ k ih=>show((Nq os ws k B).set _ _).length=_;rw[List.length_set,ih]
theorem Bs.set {k:Nat}{s:Sr}(h:Bs m B)(hs:Bt m s):Bs m (B.set k s):=fun j hj=>by
 rw[List.length_set]at hj
 by_cases e:j=k
 ·rw[e,BA _ _ _ _ _ (by omega),if_pos rfl];exact hs
 ·rw[show(B.set k s).getD j []=B.getD j []from by rw[List.getD_eq_getElem?_getD,List.getElem?_set_ne (fun h=>e h.symm),← List.getD_eq_getElem?_getD]];exact h j hj
theorem KN {s:Sr}{y:Int}(h:B8 s=true)(hy:0≤y∧y<1000003):B8 (s.set 0 y)=true:=by
 cases s with
 |nil=>rfl
 |cons x s =>
  rw[List.set_cons_zero]
  unfold B8 at h ⊢
  rw[List.all_cons]at h ⊢
  have:=Bool.and_eq_true_iff.1 h
  rw[this.2,Bool.and_true]
  exact Cn.2 hy
theorem Iy (h:Bs m B)(ho:∀k,k<os.length→(os.getD k 0).toNat<B.length):∀k,k≤os.length→Bs m (Nq os ws k B)
 |0,_=>h
 |k+1,hk=>by
  have ih:=Iy h ho k (by omega)
  have h9:=ih (os.getD k 0).toNat (by rw[Eo];exact ho k (by omega))
  exact ih.set ⟨by rw[List.length_set];exact h9.1,KN h9.2 (BK _)⟩
@[simp] theorem C0 {r:Int}{s:Sr}:(FH B r s).length=B.length:=by unfold FH;rw[List.length_set]
theorem D8 {r:Int}{s:Sr}(h:Bs m B)(hr:r.toNat<B.length):Bs m (FH B r s):=h.set (I4 (h _ hr))
theorem LO (k:Nat):(Og cs R k B).length=B.length:=by
 unfold Og
 split
 ·rw[C0,C0]
 ·split
  ·rw[C0,C0]
  ·split
   ·rw[C0,C0]
   ·split
    ·rw[C0,C0]
    ·split
     ·rw[C0]
     ·rfl
theorem Hs {ni k:Nat}(h:Bs m B)(hk:k≤B.length)(hf:GH ni k (cs.getD k AF.zero)):Bs m (Og cs R k B):=by
 have h2:=fun h9=>hf.i2 h9
 have h7:=fun h9=>hf.i7 h9
 unfold Og
 split
 ·have:=h2 (by omega);exact D8 (D8 h (by omega)) (by rw[C0];omega)
 ·split
  ·have:=h2 (by omega);exact D8 (D8 h (by omega)) (by rw[C0];omega)
  ·split
   ·have:=h2 (by omega);exact D8 (D8 h (by omega)) (by rw[C0];omega)
   ·split
    ·have:=h2 (by omega);exact D8 (D8 h (by omega)) (by rw[C0];omega)
    ·split
     ·have:=h7 (by omega);exact D8 h (by omega)
     ·exact h
theorem Sz:∀(n:Nat)(B:List Sr),(TT cs R n B).length=B.length
 |0,_=>rfl
 |n+1,B=>by show(TT cs R n _).length=_;rw[Sz n,LO]
theorem SA {ni:Nat}(hf:∀k,k<cs.length→GH ni k (cs.getD k AF.zero)):∀(n:Nat)(B:List Sr),n≤cs.length→n≤B.length→Bs m B→Bs m (TT cs R n B)
 |0,_,_,_,h=>h
 |n+1,B,hn,hb,h=>SA hf n _ (by omega) (by rw[LO];omega) (Hs h (by omega) (hf n (by omega)))
theorem Qc {k:Nat}(h:(cs.getD k AF.zero).op=3):Og cs R k B=FH (FH B (cs.getD k AF.zero).a (B.getD k [])) (cs.getD k AF.zero).b (B.getD k []):=if_pos h
theorem Qd {k:Nat}(h:(cs.getD k AF.zero).op=4):Og cs R k B=FH (FH B (cs.getD k AF.zero).a (B.getD k [])) (cs.getD k AF.zero).b (CK (B.getD k []) 1000002):=by unfold Og;rw[if_neg (by omega),if_pos h]
theorem Qe {k:Nat}(h:(cs.getD k AF.zero).op=5):Og cs R k B=FH (FH B (cs.getD k AF.zero).a (C5 (B.getD k []) (R.getD (cs.getD k AF.zero).b.toNat []))) (cs.getD k AF.zero).b (C5 (B.getD k []) (R.getD (cs.getD k AF.zero).a.toNat [])):=by unfold Og;rw[if_neg (by omega),if_neg (by omega),if_pos h]
theorem Qf {k:Nat}(h:(cs.getD k AF.zero).op=6):Og cs R k B=FH (FH B (cs.getD k AF.zero).a (BT (B.getD k []) (R.getD (cs.getD k AF.zero).b.toNat []))) (cs.getD k AF.zero).b (CK (C5 (BT (B.getD k []) (R.getD (cs.getD k AF.zero).b.toNat [])) (R.getD k [])) 1000002):=by
 unfold Og;rw[if_neg (by omega),if_neg (by omega),if_neg (by omega),if_pos h]
theorem Qg {k:Nat}(h:(cs.getD k AF.zero).op=7):Og cs R k B=FH B (cs.getD k AF.zero).a (CK (B.getD k []) 1000002):=by unfold Og;rw[if_neg (by omega),if_neg (by omega),if_neg (by omega),if_neg (by omega),if_pos h]
theorem Qh {k:Nat}(h:(cs.getD k AF.zero).op<3∨7<(cs.getD k AF.zero).op):Og cs R k B=B:=by unfold Og;rw[if_neg (by omega),if_neg (by omega),if_neg (by omega),if_neg (by omega),if_neg (by omega)]
theorem H4 {n k:Nat}{D B':List Sr}(h:TT cs R n B=D)(hn:n=k+1)(hi:Og cs R k B=B'):TT cs R k B'=D:=by
 subst hn
 rw[← hi];exact h
end
theorem OV {e:TypeId}{H:Array Obj}{v:Value}{us:List Value}{F:List Nat}(h:AR rV e H v us F)(hl:0<us.length):∃g cap,F=[g]∧v=.slice (some ⟨g,0,none⟩) us.length cap∧∀k,k<us.length→EX H (Aw v k 1)=some (us.getD k undef):=by
 rcases h with⟨_,rfl,_⟩|⟨vs,g,cap,cur,F',hels,rfl,hg,r1,r2,r3,r4,rfl⟩
 ·simp at hl
 ·obtain⟨rfl,rfl⟩:=FD hels
  refine⟨g,cap,rfl,rfl,fun k hk=>?_⟩
  have hu:vs[k]? = some (vs.getD k undef):=by simp[List.getD_eq_getElem?_getD,hk]
  rw[DY]
  simp only[EX,BZ,hg,Nat.zero_add]
  rw[← r4,List.getElem?_take,if_pos hk]at hu
  rw[r4]at hu
  simpa using hu
section
variable {e:TypeId} {B:Nat} {w w':World} {v:Value} {xs:List (List Int)} {us:List Value} {F:List Nat}
theorem HO.getF {S:List Nat}{H:Array Obj}(h:HO e S B H v xs us F){k:Nat}(hk:k<xs.length):∃u,EX H (Aw v k 1)=some u∧RN (S++F) (B3 rI) H u (xs.getD k []):=by
 obtain⟨g,cap,_,_,h3⟩:=OV h.own (by rw[h.len];omega)
 exact⟨_,h3 k (by rw[h.len];exact hk),h.els k hk⟩
theorem HO.ofFr {S:List Nat}{e1:TypeId}{U:Nat}{H:Array Obj}(h:Fr (AR (AR rI e1) e) B U H v xs)(hS:∀b∈S,b<B):∃us F,HO e S B H v xs us F∧∀b∈F,b<U:=by
 obtain⟨F,h1,h2,h3⟩:=h
 rcases h1 with⟨rfl,rfl,rfl⟩|⟨us,g,cap,cur,F',hels,rfl,hg,r1,r2,r3,r4,rfl⟩
 ·exact⟨[],[],⟨.inl ⟨rfl,rfl,rfl⟩,List.nodup_nil,(fun b hb=>absurd hb List.not_mem_nil),rfl,(fun k hk=>absurd hk (Nat.not_lt_zero k))⟩,(fun b hb=>absurd hb List.not_mem_nil)⟩
 ·have hl:=hels.length
  have hn:=List.nodup_cons.1 h2
  refine⟨us,[g],⟨.inr ⟨us,g,cap,cur,[],M4 (hels.cells1 o1),by rw[hl],hg,by omega,r2,r3,by rw[hl];exact r4,rfl⟩,by simp,fun b hb=>?_,hl,fun k hk=>?_⟩,fun b hb=>?_⟩
  ·have:=h3 b (by rw[Ab hb];exact List.mem_cons_self ..);omega
  ·obtain⟨u,G,hu,q1,q2,q3,_⟩:=hels.at_ (k:=k) [] hk hn.2
   have e1:us.getD k undef=u:=by simp[List.getD_eq_getElem?_getD,hu]
   rw[e1]
   exact⟨G,q1.rd id,fun b hb hm=>by
    have hb':=q3 b hb
    rcases List.mem_append.1 hm with hm|hm
    ·have h8:=hS b hm
     have h9:=(h3 b (List.mem_cons_of_mem _ hb')).1
     omega
    ·rw[Ab hm]at hb'
     exact hn.1 hb'⟩
  ·exact(h3 b (by rw[Ab hb];exact List.mem_cons_self ..)).2
end
section ops
variable {P:Program} {ops:Array Oper} {w0:World} {Q:Act→World→Prop} {os:List Oper} {ks:List Nat} {N:Nat} {ρ:Nat→Value} {w:World}
 {d:Nat} {ty:TypeId} {pos:String} {aft:Array Edge} {g:Option (Nat×Bool)} {t e:TypeId} {z:Value} {b:Nat}
theorem VU {S:List Nat}{st:TypeId}{x y:Operand}{v u:Value}{xs:List (List Int)}{r:List Int}{us:List Value}{F:List Nat}{B j:Nat}(hst:(P.info? st).map (·.size)=some 1)(hx:Bm N ρ x=Aw v j 1)(hy:Bm N ρ y=u)
  (hv:HO e S B w.heap v xs us F) (hr:RN (S++F) (B3 rI) w.heap u r) (hj:j<xs.length) (hu:Up ops N ρ ⟨none,.store st x y,ty,pos,aft,g⟩)
  (h:∀w1,AE F w w1→w1.heap.size=w.heap.size→HO e S B w1.heap v (xs.set j r) (us.set j u) F→LW P ops w0 Q os ks (mk N ρ) w1) :
  LW P ops w0 Q (⟨none,.store st x y,ty,pos,aft,g⟩::os) (4::ks) (mk N ρ) w:=by
 obtain⟨g0,cap,hF,hvv,_⟩:=OV hv.own (by rw[hv.len];omega)
 have hone:=hr.one1 g1
 obtain⟨w1,F',q1,q2,q3,q4,q5,q6⟩:=JD (P:=P) Ba hst hv.own hv.nd (by rw[hv.len];exact hj) (u:=u) (y:=u) (G:=[]) ⟨rfl,rfl,hone.1,hone.2⟩ List.nodup_nil (fun b hb=>by cases hb)
 obtain⟨g2,cap2,hF2,hvv2,_⟩:=OV q2 (by rw[List.length_set,hv.len];omega)
 have hg:g2=g0:=by
  rw[hvv]at hvv2
  injection hvv2 with h1 _ _
  injection h1 with h1
  injection h1 with h1 _ _
  exact h1.symm
 have hFF:F'=F:=by rw[hF2,hF,hg]
 subst hFF
 have hc:AE F' w w1:=q5.sub fun x hx=>List.mem_of_mem_take hx
 refine Ld rfl hu w1 (CB hx hy q1) (h w1 hc q6 ⟨q2,hv.nd,hv.low,by rw[List.length_set,List.length_set];exact hv.len,fun k hk=>?_⟩)
 rw[List.length_set]at hk
 have hku:k<us.length:=by rw[hv.len];exact hk
 rw[BA _ _ _ _ _ (by rw[hv.len];exact hj),BA _ _ _ _ _ hj]
 have hcS:AE (S++F') w w1:=hc.sub fun b hb=>List.mem_append_right _ hb
 by_cases ek:k=j
 ·rw[if_pos ek,if_pos ek];exact hr.chg g1 hcS
 ·rw[if_neg ek,if_neg ek]
  exact(hv.els k hk).chg g1 hcS
theorem YX {st e':TypeId}{x y:Operand}{v u:Value}{n:Int}{xs:List (List Int)}{B T r j:Nat}{F:List Nat}(hst:(P.info? st).map (·.size)=some 1)(hx:Bm N ρ x=Aw u j 1)(hy:Bm N ρ y=.int .i64 n)(hn:-9223372036854775808≤n∧n≤9223372036854775807)
  (hv:Ow (AR (AR rI e) e') B T w.heap v xs F) (hr:r<xs.length) (hl:EX w.heap (Aw v r 1)=some u) (hj:j<(xs.getD r []).length) (hu:Up ops N ρ ⟨none,.store st x y,ty,pos,aft,g⟩)
  (h:∀w1 G,AE G w w1→w1.heap.size=w.heap.size→(∀c∈G,c∈F)→Ow (AR (AR rI e) e') B T w1.heap v (xs.set r ((xs.getD r []).set j n)) F→LW P ops w0 Q os ks (mk N ρ) w1) :
  LW P ops w0 Q (⟨none,.store st x y,ty,pos,aft,g⟩::os) (4::ks) (mk N ρ) w:=by
 obtain⟨hown,hnd,hlow,hhigh⟩:=hv
 rcases hown with⟨_,rfl,_⟩|⟨us,g0,cap,cur,F',hels,rfl,hg,r1,r2,r3,r4,rfl⟩
 ·simp at hr
 ·have hc:=List.nodup_cons.1 hnd
  obtain⟨u',G,q0,q1,q2,q3,q4⟩:=hels.at_ (k:=r) [] hr hc.2
  have hlen:=hels.length
  have hu':u'=u:=by
   rw[DY]at hl
   simp only[EX,BZ,hg,Nat.zero_add]at hl
   rw[← r4,List.getElem?_take,if_pos hr]at q0
   have:some u'=some u:=by rw[← q0,← hl];simp
   exact Option.some.inj this
  subst hu'
  obtain⟨w1,p1,p2,p3,p4⟩:=Pw (P:=P) hst q1 q2 hj hn
  have hgG:g0∉G:=fun hm=>hc.1 (q3 g0 hm)
  refine Ld rfl hu w1 (CB hx hy p1) (h w1 G p3 p4 (fun c hm=>List.mem_cons_of_mem _ (q3 c hm)) ⟨.inr ⟨us,g0,cap,cur,F',?_,by rw[List.length_set],?_,by rw[List.length_set];exact r1,r2,r3,by rw[List.length_set];exact r4,rfl⟩,hnd,hlow,hhigh⟩)
  ·exact q4 (fun hE hC=>o1.stable hE fun b hb=>p3.block b (o1.lt hE b hb) (hC b hb).2) p2
  ·have hlt:g0<w.heap.size:=(Array.getElem?_eq_some_iff.1 hg).1
   rw[p3.block g0 hlt hgG];exact hg
end ops
section
variable {e1 e:TypeId} {B T:Nat} {w:World} {v:Value} {xs:List (List Int)} {F:List Nat}
theorem Ow.rowO (h:Ow (AR (AR rI e1) e) B T w.heap v xs F){k:Nat}(hk:k<xs.length):∃u,EX w.heap (Aw v k 1)=some u∧Rd (B3 rI) w.heap u (xs.getD k []):=by
 obtain⟨u,G,q0,q1,_⟩:=h.fr.row o1 [] hk
 exact⟨u,q0,G,q1.rd id⟩
theorem Ow.slO {H:Array Obj}(h:Ow (AR (AR rI e1) e) B T H v xs F):FC v xs.length:=(AR.rd id h.own:B3 (AR rI e1) H v xs F).isSl
theorem HO.ofOw {S:List Nat}(h:Ow (AR (AR rI e1) e) B T w.heap v xs F)(hS:∀b∈S,b<B):∃us F',HO e S B w.heap v xs us F'∧∀b∈F',b∈F:=by
 obtain⟨h1,h2,h3,h4⟩:=h
 rcases h1 with⟨rfl,rfl,rfl⟩|⟨us,g,cap,cur,F',hels,rfl,hg,r1,r2,r3,r4,rfl⟩
 ·exact⟨[],[],⟨.inl ⟨rfl,rfl,rfl⟩,List.nodup_nil,(fun b hb=>absurd hb List.not_mem_nil),rfl,(fun k hk=>absurd hk (Nat.not_lt_zero k))⟩,(fun b hb=>absurd hb List.not_mem_nil)⟩
 ·have hl:=hels.length
  have hn:=List.nodup_cons.1 h2
  refine⟨us,[g],⟨.inr ⟨us,g,cap,cur,[],M4 (hels.cells1 o1),by rw[hl],hg,by omega,r2,r3,by rw[hl];exact r4,rfl⟩,by simp,fun b hb=>?_,hl,fun k hk=>?_⟩,fun b hb=>?_⟩
  ·exact h3 b (by rw[Ab hb];exact List.mem_cons_self ..)
  ·obtain⟨u,G,hu,q1,q2,q3,_⟩:=hels.at_ (k:=k) [] hk hn.2
   have e1:us.getD k undef=u:=by simp[List.getD_eq_getElem?_getD,hu]
   rw[e1]
   exact⟨G,q1.rd id,fun b hb hm=>by
    have hb':=q3 b hb
    rcases List.mem_append.1 hm with hm|hm
    ·have h8:=hS b hm
     have h9:=h3 b (List.mem_cons_of_mem _ hb')
     omega
    ·rw[Ab hm]at hb'
     exact hn.1 hb'⟩
  ·rw[Ab hb];exact List.mem_cons_self ..
end
theorem VV {R:List Sr}{k:Nat}(hk:k<R.length):K4 (R.take k)++[List.replicate (R.getD k []).length 0]=K4 (R.take (k+1)):=by
 unfold K4
 rw[Cq [] hk,List.map_append];rfl
end
end Go.Proofs.YtnokbaiemimhjaaGreat
