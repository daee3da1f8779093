/- Gc, Ma, Mb, Na, Mc, Md, Me, Mj, Ml, Mf, Mg, Mh, Mo, Mi, Mq, Nb, Nc, Nd, Ne, Gd, Ge, Gu, Gv, Gw, Gx, Nf, Ng, Nh, Ni, Nk, Nl, Ga, Gf, Gj, Gk, Gh, Gl, Gm, Gr, Gq, Gp, Gs, Gy, Gz, Ha, Hb: texts of this claim, joined; what the claim does not come to is left out. -/
import Derived.Test.YtbajepcpgncekaaGreatQH1
import Derived.Test.YtbajepcpgncekaaGreatProg
set_option linter.unusedVariables false
set_option linter.unusedSimpArgs false
namespace Go.Proofs.YtbajepcpgncekaaGreat
open Go Go.RowKit
section
theorem Qo:∀(cs:List Value)(k:Nat)(A:Array Value),k+cs.length≤A.size→((cs.zipIdx k).foldl (fun A p=>A.setIfInBounds (0+p.2) p.1) A).toList=A.toList.take k++cs++A.toList.drop (k+cs.length)
 |[],k,A,_=>by simp
 |c::cs,k,A,h=>by
  rw[z9]at h
  rw[List.zipIdx_cons,List.foldl_cons,Qo cs (k+1) _ (by simp;omega)]
  simp only[Array.toList_setIfInBounds,Nat.zero_add]
  have h1:(A.toList.set k c).take (k+1)=A.toList.take k++[c]:=by
   rw[List.take_succ_eq_append_getElem (by simp;omega),List.take_set,List.set_eq_of_length_le (by simp;omega)]
   simp
  have h2:(A.toList.set k c).drop (k+1+cs.length)=A.toList.drop (k+(c::cs).length):=by
   rw[List.drop_set_of_lt zO,z9,show k+1+cs.length=k+(cs.length+1)from by omega]
  rw[h1,h2,List.append_assoc (A.toList.take k)];simp
theorem Vi {cs:List Value}{A:Array Value}(h:A.size=cs.length):cs.zipIdx.foldl (fun A p=>A.setIfInBounds p.2 p.1) A=cs.toArray:=by
 apply Array.ext'
 have:=Qo cs 0 A zO
 simp only[List.take_zero,zl,Nat.zero_add]at this
 rw[List.drop_of_length_le (by rw[Array.length_toList];omega),List.append_nil]at this
 simpa using this
section run
variable {P:Program} {w:World} {α:Type} {E:BW α} {s:Nat} {t ty e:TypeId} {b:Nat} {z:Value}
theorem Zs {cs:List Value}(ht:P.underlying t=some (.slice e))(hi:TI P e s z b)(hs:0<s)(hs2:s≤1000)(hz:z.cells.size=s)(hc:cs.length=s) :
  (Instr.buildSlice t 1 #[(0,.agg cs.toArray)]).run P w=.ok (.slice (some ⟨w.heap.size,0,none⟩) 1 1) (w.alloc (.cells cs.toArray e)):=by
 obtain⟨i,h1,h2,h3,h4⟩:=hi.get
 have h0:¬(s=0):=by omega
 have hA:((Array.range s).map (fun x=>z.cells[x % s]!)).size=cs.length:=by simp[hc]
 have hf:=Vi hA
 have hbig:¬(s > 2 ^ 24):=by omega
 simp only[Instr.buildSlice,Sem.run_bind,run_underlying ht,Result.andThen_ok,sizeOf,typeInfo,zeroValue,h1,h2,h3,Nat.one_mul,Instr.fill,hz,Sem.run_pure]
 have hag:(Value.agg cs.toArray).cells=cs.toArray:=rfl
 simp[h0,hbig,hag,hc,newRow,hz,h1,h2,h3,Instr.fill,run_underlying ht,typeInfo]
 rw[hf]
def L6 (E:BW α)(B U:Nat)(H:Array Obj)(cs:List Value)(x:α):Prop:=∃G,E H cs x G∧G.Nodup∧∀b∈G,B≤b∧b<U
theorem Pb (hE:Cw s E){css:List (List Value)}{xs:List α}{F:List Nat}{cur:Array Value}{cap:Nat}(h:CE E w.heap css xs F)(hl:xs.length≤cap)(hm:cap≤maxLen)(hsz:cur.size=cap*s)(hc:cur.toList.take (xs.length*s)=css.flatten) :
  D7 s E e (w.alloc (.cells cur e)).heap (.slice (some ⟨w.heap.size,0,none⟩) xs.length cap) xs (w.heap.size::F):=by
 refine .inr ⟨css,w.heap.size,cap,cur,F,h.stable hE fun b hb=>?_,rfl,?_,hl,hm,hsz,hc,rfl⟩
 ·exact Below.heap_alloc _ _ _<|h.lt hE b hb
 ·show(w.heap.push _)[w.heap.size]? = _
  simp
def OC {α β:Type}(E:Array Obj→β→α→List Nat→Prop)(S:Nat→Prop)(H:Array Obj)(v:β)(x:α):Prop:=∃F,E H v x F∧F.Nodup∧∀b∈F,S b
theorem OC.chg {α:Type}{E:Bk α}(hE:BT E){S:Nat→Prop}{w w':World}{v:Value}{x:α}{F:List Nat}(h:OC E S w.heap v x)(c:Az F w w')(hF:∀b∈F,¬S b):OC E S w'.heap v x:=by
 obtain⟨G,h1,h2,h3⟩:=h
 exact⟨G,hE.stable h1 fun b hb=>c.block b (hE.lt h1 b hb) fun hm=>hF b hm (h3 b hb),h2,h3⟩
theorem OC.isSlS {α:Type}{E:BW α}{s:Nat}{e:TypeId}{S:Nat→Prop}{H:Array Obj}{v:Value}{xs:List α}(h:OC (D7 s E e) S H v xs):Go.Proofs.YtbajepcpgncekaaGreat.Er v xs.length:=by obtain⟨F,h,_⟩:=h;exact h.isSl
theorem OC.fr {α:Type}{E:Bk α}(hE:BT E){S:Nat→Prop}{w:World}{v:Value}{x:α}{B:Nat}(h:OC E S w.heap v x)(hB:∀b,S b→B≤b):Fr E B w.heap.size w.heap v x:=by
 obtain⟨G,h1,h2,h3⟩:=h
 exact⟨G,h1,h2,fun b hb=>⟨hB b (h3 b hb),hE.lt h1 b hb⟩⟩
theorem MS (hE:Cw s E)(ht:P.underlying t=some (.slice e))(hi:TI P e s z b)(hz:z.cells.size=s)(hs:0<s){v:Value}{xs:List α}{S T:Nat→Prop}(hv:OC (D7 s E e) S w.heap v xs)
  {a:Value} {y:α} (ha:OC (D7 s E e) T w.heap a [y]) (hST:∀b,S b→T b→False) (hbytes:(xs.length+1)*b≤140737488355328) (hmx:xs.length+1≤maxLen) :
  ∃v' w' F,(Builtin.append_ #[t,t] ty #[v,a]).run P w=.ok v' w'∧OC (D7 s E e) (fun b=>S b∨T b∨b=w.heap.size) w'.heap v' (xs++[y])∧Az F w w'∧∀c∈F,S c:=by
 obtain⟨F,hv1,hn,hF⟩:=hv
 obtain⟨G,ha1,hnG,hG⟩:=ha
 obtain⟨i,h1,h2,h3,h4⟩:=hi.get
 subst h4
 have hsmall:xs.length+1≤9223372036854775807:=by simp only[maxLen]at hmx;omega
 rcases ha1 with⟨_,h0,_⟩|⟨cas,ga,capa,cura,G',hels,rfl,hga,a1,a2,a3,a4,rfl⟩
 ·cases h0
 ·have hnG':=List.nodup_cons.1 hnG
  have hfl:cas.flatten.length=s:=by have:=hels.flen hE;simpa using this
  simp only[zd,Nat.one_mul]at a4 a1
  have hnews:∀j u,cas.flatten[j]? = some u→w.cell? ((⟨ga,0,none⟩:Addr).add j)=some u:=by
   intro j u hj
   have e1:(⟨ga,0,none⟩:Addr).add j=⟨ga,j,none⟩:=by
    unfold Addr.add
    split
    ·rename_i hh;subst hh;rfl
    ·simp
   rw[e1,Cu]
   simp only[Ch,hga]
   rw[← a4,List.getElem?_take]at hj
   split at hj
   ·simpa using hj
   ·cases hj
  have h1c:∀u∈cas.flatten,u.oneCell'=true:=fun u hu=>(hels.one hE u hu).2
  have hl1:cas.flatten.length=1*i.size:=by rw[h3,hfl,Nat.one_mul]
  have made:∀(w1:World) (ous:List (List Value)) (F0:List Nat) (rest:Nat),w1.heap=w.heap→w1.os=w.os→w1.tape=w.tape→w1.output=w.output→CE E w.heap ous xs F0→(∀c∈F0,c∈F)→F0.Nodup →
    (xs.length+1+rest)≤maxLen →
    OC (D7 s E e) (fun b=>S b∨T b∨b=w.heap.size) (w1.alloc (.cells (ous.flatten.toArray++cas.flatten.toArray++Builtin.zeroCells z.cells rest) e)).heap (.slice (some ⟨w.heap.size,0,none⟩) (xs.length+1) (xs.length+1+rest)) (xs++[y]) ∧
     Az ([]:List Nat) w (w1.alloc (.cells (ous.flatten.toArray++cas.flatten.toArray++Builtin.zeroCells z.cells rest) e)):=by
   intro w1 ous F0 rest hh ho htp hop hou hsub hnd hmax
   have happ:=hou.append hels
   have hofl:=hou.flen hE
   have hzc:(Builtin.zeroCells z.cells rest).size=rest*s:=by simp[Builtin.zeroCells,hz]
   have hsz:(ous.flatten.toArray++cas.flatten.toArray++Builtin.zeroCells z.cells rest).size=(xs.length+1+rest)*s:=by
    rw[Nat.add_mul,Nat.add_mul,Nat.one_mul]
    simp only[Array.size_append,List.size_toArray,hzc,hfl,hofl]
   have hlen:(xs++[y]).length=xs.length+1:=by simp
   have hnew:=Pb (e:=e) (w:=w1) hE (css:=ous++cas) (xs:=xs++[y]) (F:=F0++G') (cur:=ous.flatten.toArray++cas.flatten.toArray++Builtin.zeroCells z.cells rest) (cap:=xs.length+1+rest)
    (by rw[hh];exact happ) (by rw[hlen];omega) hmax hsz (by
     rw[hlen,Array.toList_append,Array.toList_append,List.flatten_append]
     have e1:(xs.length+1)*s=(ous.flatten++cas.flatten).length:=by rw[z4,hofl,hfl,Nat.add_mul,Nat.one_mul]
     rw[e1];exact List.take_left)
   rw[hh,hlen]at hnew
   have hnn:(w.heap.size::(F0++G')).Nodup:=by
    rw[List.nodup_cons]
    refine⟨fun hm=>?_,?_⟩
    ·have:=happ.lt hE _ hm;omega
    ·rw[List.nodup_append]
     refine⟨hnd,hnG'.2,?_⟩
     rintro x hx y hy rfl
     exact hST _ (hF x<|hsub x hx)<|hG x<|z3 _ hy
   refine⟨⟨_,hnew,hnn,fun c hc=>?_⟩,ho,htp,hop,?_,fun k hk _=>?_⟩
   ·rcases ze.1 hc with rfl|hc
    ·exact .inr<|.inr rfl
    ·rcases zi.1 hc with hc|hc
     ·exact .inl<|hF c<|hsub c hc
     ·exact .inr<|.inl<|hG c<|z3 _ hc
   ·show w.heap.size≤(w1.heap.push _).size
    rw[hh];simp
   ·have:=Below.heap_alloc w1 (.cells (ous.flatten.toArray++cas.flatten.toArray++Builtin.zeroCells z.cells rest) e) k (by rw[hh];exact hk)
    rw[this,hh]
  rcases hv1 with⟨rfl,rfl,rfl⟩|⟨ous,gv,capv,curv,F0,hels0,rfl,hgv,r1,r2,r3,r4,rfl⟩
  ·have hr:=run_append_nil (P:=P) w t ty e i z ht h1 h2 ⟨ga,0,none⟩ 1 capa cas.flatten hl1 hnews (by decide) (by decide) (by simp at hbytes ⊢;omega)
   have hge:=grownCap_ge w 1 0 e
   have hgm:=grownCap_le_maxLen w 1 0 e (by simpa using hmx)
   obtain⟨q1,q2⟩:=made w.drew [] [] (grownCap w 1 0 e-1) rfl rfl rfl rfl rfl (fun c hc=>by cases hc) zk (by simp;omega)
   refine⟨_,_,[],hr,?_,?_,fun c hc=>by cases hc⟩
   ·have ea:(([]:List α).length+1+(grownCap w 1 0 e-1))=grownCap w 1 0 e:=by simp;omega
    rw[ea]at q1
    simpa using q1
   ·simpa using q2
  ·have hn':=List.nodup_cons.1 hn
   have hofl:=hels0.flen hE
   by_cases hroom:xs.length+1≤capv
   ·have hbnd:xs.length*s+s≤curv.size:=by rw[r3,← Nat.succ_mul];exact Nat.mul_le_mul_right s hroom
    have hr:=run_append_room (P:=P) w t ty e i ht h1 gv xs.length capv curv hgv ⟨ga,0,none⟩ 1 capa cas.flatten hl1 hnews h1c hroom (by rw[h3,hfl];exact hbnd)
    rw[h3]at hr
    have hgF:gv∉F0:=hn'.1
    have hgG:gv∉G':=fun hm=>hST _ (hF gv (z0 ..)) (hG gv (z3 _ hm))
    refine⟨_,_,[gv],hr,⟨gv::(F0++G'),.inr ⟨ous++cas,gv,capv,_,F0++G',?_,by rw[z4,zd],setRow_heap w gv curv _ e _ hgv,by rw[z4,zd];exact hroom,r2,?_,?_,rfl⟩,?_,fun c hc=>?_⟩,⟨rfl,rfl,rfl,by simp,fun k _ hk=>setRow_other w gv k _ fun hh=>hk (by simp[hh])⟩,fun c hc=>by rw[Ab hc];exact hF gv (z0 ..)⟩
    ·refine (hels0.append hels).stable hE fun c hc=>setRow_other w gv c _ fun hcg=>?_
     subst hcg
     rcases zi.1 hc with hc|hc
     ·exact hgF hc
     ·exact hgG hc
    ·rw[← r3]
     simp only[List.size_toArray,z4,List.length_take,List.length_drop,Array.length_toList]
     omega
    ·rw[z4,zd]
     simp only[List.flatten_append]
     rw[r4]
     have e1:(xs.length+1)*s=(ous.flatten++cas.flatten).length:=by rw[z4,hofl,hfl,Nat.add_mul,Nat.one_mul]
     rw[e1];exact List.take_left
    ·rw[List.nodup_cons,List.nodup_append]
     refine⟨fun hm=>?_,hn'.2,hnG'.2,?_⟩
     ·rcases zi.1 hm with hm|hm
      ·exact hgF hm
      ·exact hgG hm
     ·rintro x hx y hy rfl
      exact hST _ (hF x<|z3 _ hx)<|hG x<|z3 _ hy
    ·rcases ze.1 hc with rfl|hc
     ·exact .inl<|hF c (z0 ..)
     ·rcases zi.1 hc with hc|hc
      ·exact .inl<|hF c<|z3 _ hc
      ·exact .inr<|.inl<|hG c<|z3 _ hc
   ·have holds:∀j u,ous.flatten[j]? = some u→w.cell? ((⟨gv,0,none⟩:Addr).add j)=some u:=by
     intro j u hj
     have e1:(⟨gv,0,none⟩:Addr).add j=⟨gv,j,none⟩:=by
      unfold Addr.add
      split
      ·rename_i hh;subst hh;rfl
      ·simp
     rw[e1,Cu]
     simp only[Ch,hgv]
     rw[← r4,List.getElem?_take]at hj
     split at hj
     ·simpa using hj
     ·cases hj
    have hr:=run_append_grow (P:=P) w t ty e i z ht h1 h2 ⟨gv,0,none⟩ xs.length capv ous.flatten (by rw[h3,hofl]) holds ⟨ga,0,none⟩ 1 capa cas.flatten hl1 hnews zO zO<|growslice_fits zO hbytes
    have hge:=grownCap_ge w (xs.length+1) capv e
    have hgm:=grownCap_le_maxLen w (xs.length+1) capv e hmx
    obtain⟨q1,q2⟩:=made w.drew ous F0 (grownCap w (xs.length+1) capv e-(xs.length+1)) rfl rfl rfl rfl hels0 (fun c hc=>z3 _ hc) hn'.2 zO
    refine⟨_,_,[],hr,?_,q2,fun c hc=>by cases hc⟩
    have ea:(xs.length+1+(grownCap w (xs.length+1) capv e-(xs.length+1)))=grownCap w (xs.length+1) capv e:=by omega
    rw[ea]at q1
    exact q1
theorem Vj (hE:Cw s E)(ht:P.underlying t=some (.slice e))(hi:TI P e s z b)(hz:z.cells.size=s)(hs:0<s){v:Value}{xs:List α}{B U:Nat}(hv:Fr (D7 s E e) B U w.heap v xs)(hB:B≤w.heap.size)
  {a:Value} {y:α} {B' U':Nat} (ha:Fr (D7 s E e) B' U' w.heap a [y]) (hU:U≤B') (hBB:B≤B') (hbytes:(xs.length+1)*b≤140737488355328) (hmx:xs.length+1≤maxLen) :
  ∃v' w' F,(Builtin.append_ #[t,t] ty #[v,a]).run P w=.ok v' w'∧Fr (D7 s E e) B w'.heap.size w'.heap v' (xs++[y])∧Az F w w'∧∀c∈F,B≤c∧c<U:=by
 obtain⟨v',w',F,r1,⟨G,h1,h2,h3⟩,r3,r4⟩:=MS (P:=P) (ty:=ty) hE ht hi hz hs (S:=fun b=>B≤b∧b<U) (T:=fun b=>B'≤b∧b<U') hv ha (fun b h1 h2=>by omega) hbytes hmx
 exact⟨v',w',F,r1,⟨G,h1,h2,fun b hb=>⟨by have:=h3 b hb;omega,(Ao hE).lt h1 b hb⟩⟩,r3,r4⟩
end run
section ops
variable {P:Program} {ops:Array Oper} {w0:World} {Q:Act→World→Prop} {os:List Oper} {ks:List Nat} {N:Nat} {ρ:Nat→Value} {w:World}
 {d:Nat} {ty:TypeId} {pos:String} {aft:Array Edge} {g:Option (Nat×Bool)} {t e:TypeId} {z:Value} {b s:Nat} {α:Type} {E:BW α}
theorem Gm (hE:Cw s E){x:Operand}{cs:List Value}{y:α}{B U:Nat}(ht:P.underlying t=some (.slice e))(hi:TI P e s z b)(hz:z.cells.size=s)(hs:0<s∧s≤1000)(hx:Bw N ρ x=.agg cs.toArray)(hy:L6 E B U w.heap cs y)(hB:B≤w.heap.size)
  (hu:Up ops N ρ ⟨some d,.buildSlice t 1 #[(0,x)],ty,pos,aft,g⟩)
  (h:∀v w1,AB w w1→w1.heap.size=w.heap.size+1→Fr (D7 s E e) B w1.heap.size w1.heap v [y]→LW P ops w0 Q os ks (mk N (D3 ρ d v)) w1) :
  LW P ops w0 Q (⟨some d,.buildSlice t 1 #[(0,x)],ty,pos,aft,g⟩::os) (3::ks) (mk N ρ) w:=by
 obtain⟨F,h1,h2,h3⟩:=hy
 have hl:=hE.len h1
 have hr:=Zs (P:=P) (w:=w) ht hi hs.1 hs.2 hz hl
 have hrun:(execOp (Bw N ρ) ⟨some d,.buildSlice t 1 #[(0,x)],ty,pos,aft,g⟩).run P w=.ok (.value (.slice (some ⟨w.heap.size,0,none⟩) 1 1)) (w.alloc (.cells cs.toArray e)):=by
  simp only[execOp,zc,zf,zh,Sem.run_bind,hx,hr,Result.andThen_ok,Sem.run_pure]
 refine MH rfl hu _ _ hrun (BZ _ _)<|h _ _ (BZ _ _) (by simp) ?_
 have hn:=Pb (e:=e) (w:=w) hE (css:=[cs]) (xs:=[y]) (F:=F++[]) (cur:=cs.toArray) (cap:=1) ⟨F,[],rfl,h1,rfl⟩ (by simp) (by simp[maxLen]) (by simp[hl]) (by simp[← hl])
 refine⟨_,hn,?_,fun c hc=>?_⟩
 ·rw[List.append_nil,List.nodup_cons]
  exact⟨fun hm=>by have:=hE.lt h1 _ hm;omega,h2⟩
 ·have hlt:=(Ao hE).lt hn c hc
  refine⟨?_,hlt⟩
  rcases ze.1 hc with rfl|hc
  ·exact hB
  ·exact (h3 c (by simpa using hc)).1
theorem JW (hE:Cw s E){x y:Operand}{v a:Value}{xs:List α}{y0:α}{B U B' U':Nat}(ht:P.underlying t=some (.slice e))(hi:TI P e s z b)(hz:z.cells.size=s)(hs:0<s)(hx:Bw N ρ x=v)(hy:Bw N ρ y=a)(hv:Fr (D7 s E e) B U w.heap v xs)(hB:B≤w.heap.size)
  (ha:Fr (D7 s E e) B' U' w.heap a [y0]) (hU:U≤B') (hBB:B≤B') (hbytes:(xs.length+1)*b≤140737488355328) (hmx:xs.length+1≤maxLen) (hu:Up ops N ρ ⟨some d,.call ⟨.builtin .append,#[x,y],#[t,t]⟩,ty,pos,aft,g⟩)
  (h:∀v1 w1 F,Az F w w1→(∀c∈F,B≤c∧c<U)→Fr (D7 s E e) B w1.heap.size w1.heap v1 (xs++[y0])→LW P ops w0 Q os ks (mk N (D3 ρ d v1)) w1) :
  LW P ops w0 Q (⟨some d,.call ⟨.builtin .append,#[x,y],#[t,t]⟩,ty,pos,aft,g⟩::os) (4::ks) (mk N ρ) w:=by
 obtain⟨v1,w1,F,r1,r2,r3,r4⟩:=Vj (P:=P) (ty:=ty) hE ht hi hz hs hv hB ha hU hBB hbytes hmx
 exact Kn rfl hu v1 w1 (by simp only[execOp,resolve,invoke,builtin,zc,zf,zh,Sem.run_bind,Sem.run_pure,Result.andThen_ok,hx,hy,r1])<|h v1 w1 F r3 r4 r2
theorem fi (hE:Cw s E){x y:Operand}{v a:Value}{xs:List α}{y0:α}{B U B' U':Nat}(ht:P.underlying t=some (.slice e))(hi:TI P e s z b)(hz:z.cells.size=s)(hs:0<s)(hx:Bw N ρ x=v)(hy:Bw N ρ y=a)(hv:Fr (D7 s E e) B U w.heap v xs)
  (ha:Fr (D7 s E e) B' U' w.heap a [y0]) (hU:U≤B') (hbytes:(xs.length+1)*b≤140737488355328) (hmx:xs.length+1≤maxLen) (hu:Up ops N ρ ⟨some d,.call ⟨.builtin .append,#[x,y],#[t,t]⟩,ty,pos,aft,g⟩)
  (h:∀v1 w1 F,Az F w w1→(∀c∈F,B≤c∧c<U)→OC (D7 s E e) (fun b=>(B≤b∧b<U)∨(B'≤b∧b<U')∨b=w.heap.size) w1.heap v1 (xs++[y0])→LW P ops w0 Q os ks (mk N (D3 ρ d v1)) w1) :
  LW P ops w0 Q (⟨some d,.call ⟨.builtin .append,#[x,y],#[t,t]⟩,ty,pos,aft,g⟩::os) (4::ks) (mk N ρ) w:=by
 obtain⟨v1,w1,F,r1,r2,r3,r4⟩:=MS (P:=P) (ty:=ty) hE ht hi hz hs (S:=fun b=>B≤b∧b<U) (T:=fun b=>B'≤b∧b<U') hv ha (fun b h1 h2=>by omega) hbytes hmx
 exact Kn rfl hu v1 w1 (by simp only[execOp,resolve,invoke,builtin,zc,zf,zh,Sem.run_bind,Sem.run_pure,Result.andThen_ok,hx,hy,r1])<|h v1 w1 F r3 r4 r2
end ops
theorem HO {α:Type}{s:Nat}{E:BW α}{e:TypeId}(B U:Nat)(H:Array Obj):Fr (D7 s E e) B U H (.slice none 0 0) ([]:List α):=⟨[],.inl ⟨rfl,rfl,rfl⟩,zk,fun c hc=>by cases hc⟩
end
theorem DZ {p:Prop}(h:p):RowKit.Hid p:=h
def md (x:Int):Int:=x % 1000003
theorem Cv (x:Int):0≤md x:=Int.emod_nonneg x (by decide)
theorem Gn (x:Int):md x<1000003:=Int.emod_lt_of_pos x (by decide)
theorem DI (x:Int):-9223372036854775808≤md x∧md x≤9223372036854775807:=by
 have:=Cv x;have:=Gn x;omega
theorem Jv {x:Int}(h:0≤x)(h':x<1000003):md x=x:=Int.emod_eq_of_lt h h'
theorem FE (x:Int):md (md x)=md x:=Jv (Cv x) (Gn x)
theorem Ej (a b:Int):md (md a+md b)=md (a+b):=by unfold md;rw[← Int.add_emod]
theorem Du (a b:Int):md (md a*md b)=md (a*b):=by unfold md;rw[← Int.mul_emod]
theorem EB (a b:Int):md (md a-md b)=md (a-b):=by unfold md;rw[← Int.sub_emod]
theorem Pc (a b:Int):md (md a+b)=md (a+b):=by rw[← Ej,FE,Ej]
theorem GO (a b:Int):md (a+md b)=md (a+b):=by rw[← Ej,FE,Ej]
theorem Fm (a b:Int):md (md a*b)=md (a*b):=by rw[← Du,FE,Du]
theorem Fp (a b:Int):md (a*md b)=md (a*b):=by rw[← Du,FE,Du]
theorem SN (a b:Int):md (md a-b)=md (a-b):=by rw[← EB,FE,EB]
theorem Ks (a b:Int):md (a-md b)=md (a-b):=by rw[← EB,FE,EB]
theorem Vk (a:Int):md (a+1000003)=md a:=by unfold md;omega
theorem Lh (a:Int):md (-(md a))=md (-a):=by have:=Ks 0 a;simpa using this
theorem Mg {a b:Int}(ha:0≤a)(ha':a<1000003)(hb:0≤b)(hb':b<1000003):0≤a*b∧a*b≤1000004000004:=by
 refine⟨Int.mul_nonneg ha hb,?_⟩
 have h1:a*b≤1000002*b:=Int.mul_le_mul_of_nonneg_right zO hb
 have h2:1000002*b≤1000002*1000002:=Int.mul_le_mul_of_nonneg_left zO (by decide)
 omega
theorem tm (x:Int):x.tmod 1000003=if 0≤x then md x else -(md (-x)):=by
 unfold md
 split
 ·rename_i h;exact Int.tmod_eq_emod_of_nonneg h
 ·rename_i h
  have:=Int.tmod_eq_emod_of_nonneg (a:=-x) (b:=1000003) zO
  rw[Int.neg_tmod]at this
  omega
theorem GP {x:Int}(h:-9223372036854775808≤x)(h':x≤9223372036854775807):wr x=x:=Dh h h'
theorem fj (n:Int):(wr (n.tmod 1000003+((1000003:Nat):Int))).tmod 1000003=md n:=by
 have h1:=Cv n;have h2:=Gn n;have h3:=Cv (-n);have h4:=Gn (-n)
 rw[tm n]
 split
 ·rw[GP zO zO,tm,if_pos (by omega)]
  have:=Vk (md n)
  rw[FE]at this
  simpa using this
 ·rw[GP zO zO,tm,if_pos (by omega)]
  have e1:md (-(md (-n))+((1000003:Nat):Int))=md (-(md (-n))):=Vk _
  rw[e1,Lh]
  simp
theorem SP (a b:Int):(wr (md a+md b)).tmod 1000003=md (a+b):=by
 have h1:=Cv a;have h2:=Gn a;have h3:=Cv b;have h4:=Gn b
 rw[GP zO zO,tm,if_pos zO,Ej]
theorem Qp (a b:Int):(wr (md a*md b)).tmod 1000003=md (a*b):=by
 have:=Mg (Cv a) (Gn a) (Cv b) (Gn b)
 rw[GP zO zO,tm,if_pos zO,Du]
theorem Vl (a b:Int):md (a+wr (((1000003:Nat):Int)-md b))=md (a-b):=by
 have h3:=Cv b;have h4:=Gn b
 rw[GP zO zO,show a+(((1000003:Nat):Int)-md b)=(a-md b)+1000003 from by omega,Vk,Ks]
theorem MT (a:Int)(k:Nat):md ((md a) ^ k)=md (a ^ k):=by
 induction k with
 |zero=>rw[Int.pow_zero,Int.pow_zero]
 |succ k ih=>rw[Int.pow_succ,Int.pow_succ,← Du,ih,FE,Du]
def pw (a n:Int):Int:=if n<0 then 0 else md (a ^ n.toNat)
theorem fk (a n:Int):-9223372036854775808≤pw a n∧pw a n≤9223372036854775807:=by
 unfold pw;split
 ·omega
 ·exact DI _
theorem fl (a n:Int):0≤pw a n∧pw a n<1000003:=by
 unfold pw;split
 ·omega
 ·exact⟨Cv _,Gn _⟩
def inv (a:Int):Int:=pw a ((1000001:Nat):Int)
theorem Mh (a:Int):-9223372036854775808≤inv a∧inv a≤9223372036854775807:=fk _ _
theorem Zt (a:Int):0≤inv a∧inv a<1000003:=fl _ _
theorem Qq (a:Int)(k:Nat):md (((1:Nat):Int)*(md a) ^ k)=md (a ^ k):=by
 rw[show((1:Nat):Int)*(md a) ^ k=(md a) ^ k from Int.one_mul _,MT]
theorem fm {x b m R:Int}(h:md (x*b ^ m.toNat)=R)(h0:0<m)(h1:m % 2=1):md (md (x*b)*(md (b*b)) ^ (m / 2).toNat)=R:=by
 rw[← h,← Du,FE,MT,Du]
 congr 1
 have e:m.toNat=2*(m / 2).toNat+1:=by omega
 rw[e,Int.pow_succ,Int.pow_mul,show b ^ 2=b*b from by rw[Int.pow_succ,Int.pow_succ,Int.pow_zero,Int.one_mul]]
 rw[Int.mul_comm ((b*b) ^ (m / 2).toNat) b,Int.mul_assoc]
theorem Zu {x b m R:Int}(h:md (x*b ^ m.toNat)=R)(h0:0<m)(h1:¬m % 2=1):md (x*(md (b*b)) ^ (m / 2).toNat)=R:=by
 rw[← h,← Du,MT,Du]
 congr 1
 have e:m.toNat=2*(m / 2).toNat:=by omega
 rw[e,Int.pow_mul,show b ^ 2=b*b from by rw[Int.pow_succ,Int.pow_succ,Int.pow_zero,Int.one_mul]]
theorem Vm {x b m a n:Int}(h:md (x*b ^ m.toNat)=md (a ^ n.toNat))(h0:0≤m)(h1:¬((0:Nat):Int)<m)(hn:¬n<((0:Nat):Int))(hx:0≤x∧x<1000003):x=pw a n:=by
 have e:m=0:=by omega
 subst e
 unfold pw
 rw[if_neg zO,← h]
 simp only[Int.toNat_zero,Int.pow_zero,Int.mul_one]
 rw[Jv hx.1 hx.2]
theorem Vn {a n:Int}(h:n<((0:Nat):Int)):((0:Nat):Int)=pw a n:=by
 unfold pw;rw[if_pos (by omega)];rfl
theorem qW {m:Int}(h:0≤m):m.tmod ((2:Nat):Int)=m % 2:=Int.tmod_eq_emod_of_nonneg h
theorem nR {m:Int}(h:0≤m)(h':m≤9223372036854775807):IntKind.i64.wrap (m.tdiv ((2:Nat):Int))=m / 2:=by
 rw[Int.tdiv_eq_ediv_of_nonneg h]
 exact GP (x:=m / 2) zO zO
theorem Qr {x b:Int}(hx:0≤x∧x<1000003)(hb:0≤b∧b<1000003):(wr (x*b)).tmod ((1000003:Nat):Int)=md (x*b):=by
 have:=Mg hx.1 hx.2 hb.1 hb.2
 rw[GP zO (by omega)]
 have:=tm (x*b)
 rw[if_pos (by omega)]at this
 exact this
theorem BU (x:Int):0≤md x∧md x<1000003:=⟨Cv x,Gn x⟩
def JX (n:Int):Bool:=decide (0≤n) && decide (n≤1000002)
theorem Ck {n:Int}:JX n=true↔0≤n∧n<1000003:=by
 unfold JX;simp only[z7,decide_eq_true_eq];omega
def B9 (l:List Int):Bool:=l.all JX
theorem Vo (f:Int→Bool)(l:List Int):(l.take 0).all f=true:=rfl
theorem MU {α:Type}{f:α→Bool}{l:List α}{k:Nat}(d:α)(h:(l.take k).all f=true)(hk:k<l.length)(hf:f (l.getD k d)=true):(l.take (k+1)).all f=true:=by
 rw[List.take_succ_eq_append_getElem hk,List.all_append,h]
 have e:l.getD k d=l[k]:=by simp[hk]
 rw[e]at hf
 simp[hf]
theorem Kt {α:Type}{f:α→Bool}{l:List α}{k:Nat}(d:α)(hk:k<l.length)(hf:f (l.getD k d)=false):l.all f=false:=by
 have e:l.getD k d=l[k]:=by simp[hk]
 rw[e]at hf
 rw[List.all_eq_false]
 exact⟨l[k],List.getElem_mem hk,by simp[hf]⟩
theorem MV {α:Type}{f:α→Bool}{l:List α}{k:Nat}(h:(l.take k).all f=true)(hk:l.length≤k):l.all f=true:=by
 rwa [za hk]at h
theorem Bg {l:List Int}(h:B9 l=true)(k:Nat):0≤l.getD k 0∧l.getD k 0<1000003:=by
 by_cases hk:k<l.length
 ·have e:l.getD k 0=l[k]:=by simp[hk]
  rw[e]
  exact Ck.1<|zm.1 h _<|List.getElem_mem hk
 ·have e:l.getD k 0=0:=by simp[Nat.not_lt.1 hk]
  rw[e];omega
theorem Cp {α:Type}{l:List α}{k:Nat}(d:α)(h:k<l.length):l.take (k+1)=l.take k++[l.getD k d]:=by
 rw[List.take_succ_eq_append_getElem h]
 simp[h]
def FN {α:Type}(n:Nat)(f:Nat→α):List α:=(List.range n).map f
@[simp] theorem DR {α:Type}(n:Nat)(f:Nat→α):(FN n f).length=n:=by simp[FN]
theorem Bx {α:Type}{n:Nat}{f:Nat→α}{k:Nat}(d:α)(h:k<n):(FN n f).getD k d=f k:=by simp[FN,h]
theorem MW {α:Type}(n:Nat)(f:Nat→α):FN (n+1) f=FN n f++[f n]:=by simp[FN,List.range_succ]
theorem SQ {α:Type}{n:Nat}{f g:Nat→α}(h:∀k,k<n→f k=g k):FN n f=FN n g:=by
 unfold FN
 exact List.map_congr_left fun k hk=>h k<|List.mem_range.1 hk
theorem fo {α:Type}(l:List α)(d:α):l=FN l.length (fun k=>l.getD k d):=by
 apply List.ext_getElem
 ·simp
 ·intro i h1 h2
  simp[FN,h1]
def CK {α:Type}(k:Nat)(t z:List α):List α:=t.take k++z.drop k
theorem D8 {α:Type}(t z:List α):CK 0 t z=z:=by simp[CK]
theorem DS {α:Type}{k:Nat}{t z:List α}(h:t.length=z.length)(hk:z.length≤k):CK k t z=t:=by
 simp[CK,za (show t.length≤k by omega),List.drop_of_length_le hk]
@[simp] theorem EC {α:Type}(k:Nat)(t z:List α)(h:t.length=z.length):(CK k t z).length=z.length:=by
 simp[CK];omega
theorem Ku {α:Type}{k:Nat}{t z:List α}(d:α)(h:t.length=z.length)(hk:k<z.length):(CK k t z).set k (t.getD k d)=CK (k+1) t z:=by
 unfold CK
 have hl:(t.take k).length=k:=by simp;omega
 rw[Cp d zO,List.set_append_right _ _ zO,hl,Nat.sub_self,List.append_assoc]
 congr 1
 rw[List.drop_eq_getElem_cons hk]
 rfl
theorem Ek {α:Type}{k j:Nat}{t z:List α}(d:α)(h:t.length=z.length)(hkj:k≤j)(hj:j<z.length):(CK k t z).getD j d=z.getD j d:=by
 unfold CK
 have hl:(t.take k).length=k:=by simp;omega
 rw[List.getD_eq_getElem?_getD,List.getElem?_append_right zO,hl,List.getElem?_drop,List.getD_eq_getElem?_getD]
 congr 2
 omega
theorem Ru {α:Type}{k j:Nat}{t z:List α}(d:α)(hkj:j<k)(hj:j<t.length):(CK k t z).getD j d=t.getD j d:=by
 unfold CK
 rw[List.getD_eq_getElem?_getD,List.getElem?_append_left (by simp;omega),List.getElem?_take,if_pos hkj,List.getD_eq_getElem?_getD]
theorem G4 {α:Type}{n k:Nat}{f:Nat→α}{z:List α}(hz:z.length=n)(hk:k<n):CK (k+1) (FN n f) z=(CK k (FN n f) z).set k (f k):=by
 rw[← Ku (f k) (by simp[hz]) zO,Bx _ hk]
theorem SR (l:List Int):(!l.any fun x=>!JX x)=B9 l:=by
 unfold B9
 rw[← List.all_eq_not_any_not]
structure Sq (n:Nat)(M:List (List Int)):Prop where
 len:M.length=n
 row:∀k,k<n→(M.getD k []).length=n
 num:∀k,B9 (M.getD k [])=true
theorem Sq.get {n:Nat}{M:List (List Int)}(h:Sq n M)(r k:Nat):0≤(M.getD r []).getD k 0∧(M.getD r []).getD k 0<1000003:=Bg (h.num r) k
theorem BK {α:Type}(l:List α)(i j:Nat)(x d:α)(hi:i<l.length):(l.set i x).getD j d=if j=i then x else l.getD j d:=by
 rw[List.getD_eq_getElem?_getD,List.getElem?_set]
 by_cases h:i=j
 ·subst h;simp[hi]
 ·simp[h,Ne.symm h]
theorem Sq.set {n:Nat}{M:List (List Int)}(h:Sq n M){r:Nat}(hr:r<n){y:List Int}(hy:y.length=n)(hn:B9 y=true):Sq n (M.set r y):=by
 have hl:=h.len
 refine⟨by simp[hl],fun k hk=>?_,fun k=>?_⟩
 ·rw[BK _ _ _ _ _ (by omega)]
  split
  ·exact hy
  ·exact h.row k hk
 ·rw[BK _ _ _ _ _ (by omega)]
  split
  ·exact hn
  ·exact h.num k
theorem Gf {α:Type}(l:List α)(i j k:Nat)(d:α)(hi:i<l.length)(hj:j<l.length):(Bv l i j d).getD k d=if k=j then l.getD i d else if k=i then l.getD j d else l.getD k d:=by
 unfold Bv
 rw[BK _ _ _ _ _ (by simpa using hj),BK _ _ _ _ _ hi]
theorem Sq.swap {n:Nat}{M:List (List Int)}(h:Sq n M){i j:Nat}(hi:i<n)(hj:j<n):Sq n (Bv M i j []):=by
 have hl:=h.len
 refine⟨by simp[Cx,hl],fun k hk=>?_,fun k=>?_⟩
 ·rw[Gf _ _ _ _ _ zO (by omega)]
  split
  ·exact h.row i hi
  ·split
   ·exact h.row j hj
   ·exact h.row k hk
 ·rw[Gf _ _ _ _ _ zO (by omega)]
  split
  ·exact h.num i
  ·split
   ·exact h.num j
   ·exact h.num k
def OD (a b:List Int)(y:Int):List Int:=FN a.length fun k=>md (a.getD k 0-md (y*b.getD k 0))
@[simp] theorem HP (a b:List Int)(y:Int):(OD a b y).length=a.length:=by simp[OD]
theorem G5 {n:Nat}{f:Nat→Int}(h:∀k,k<n→0≤f k∧f k<1000003):B9 (FN n f)=true:=by
 unfold B9 FN
 rw[zm]
 intro x hx
 obtain⟨k,hk,rfl⟩:=List.mem_map.1 hx
 exact Ck.2<|h k<|List.mem_range.1 hk
theorem SS (a b:List Int)(y:Int):B9 (OD a b y)=true:=G5 fun _ _=>BU _
def O7 (f:Nat→Bool):Nat→Nat→Nat
 |0,r=>r
 |m+1,r=>if f r then O7 f m (r+1)else r
theorem Pd (f:Nat→Bool):∀m r,r≤O7 f m r∧O7 f m r≤r+m
 |0,r=>by simp[O7]
 |m+1,r=>by
  unfold O7
  split
  ·have:=Pd f m (r+1);omega
  ·omega
theorem Vp (f:Nat→Bool):∀m r,O7 f m r<r+m→f (O7 f m r)=false
 |0,r,h=>by simp[O7]at h
 |m+1,r,h=>by
  unfold O7 at h ⊢
  split
  ·rename_i hf
   rw[if_pos hf]at h
   exact Vp f m (r+1) zO
  ·rename_i hf;simpa using hf
def Ix (c:Nat)(rc:List Int)(iv:Int):Nat→List (List Int)→List (List Int):=it fun j M=>M.set (c+1+j) (OD (M.getD (c+1+j) []) rc (md ((M.getD (c+1+j) []).getD c 0*iv)))
theorem Mi {n c:Nat}{rc:List Int}{iv:Int}{M:List (List Int)}(h:Sq n M):∀j,c+1+j≤n→Sq n (Ix c rc iv j M)
 |0,_=>h
 |j+1,hj=>by
  have ih:=Mi (c:=c) (rc:=rc) (iv:=iv) h j zO
  exact Sq.set (r:=c+1+j) ih zO (by rw[HP];exact ih.row _ zO)<|SS _ _ _
theorem Pe {n c:Nat}{rc:List Int}{iv:Int}{M:List (List Int)}(h:Sq n M)(d:List Int){k:Nat}(hk:k≤c):∀j,c+1+j≤n→(Ix c rc iv j M).getD k d=M.getD k d
 |0,_=>rfl
 |j+1,hj=>by
  have ih:=Pe (rc:=rc) (iv:=iv) h d hk j zO
  have hs:=Mi (c:=c) (rc:=rc) (iv:=iv) h j zO
  show((Ix c rc iv j M).set (c+1+j) _).getD k d=_
  rw[BK _ (c+1+j) k _ d (by have:=hs.len;omega),if_neg (by omega)]
  exact ih
def Un (n c:Nat)(M:List (List Int)):Nat:=O7 (fun r=>decide ((M.getD r []).getD c 0=0)) (n-c) c
def M0 (n:Nat):Nat→Nat→List (List Int)→Int→Int
 |0,_,_,det=>det
 |m+1,c,M,det =>
  if Un n c M=n then 0 else
   let M1:=Bv M c (Un n c M) []
   let rc:=M1.getD c []
   M0 n m (c+1) (Ix c rc (inv (rc.getD c 0)) (n-(c+1)) M1) (md ((if Un n c M≠c then md (-det)else det)*rc.getD c 0))
def DD (a:List (List Int)):Int:=M0 a.length a.length 0 a 1
theorem Fq {α:Type}(l:List α){r:Nat}(d:α)(h:r<l.length):l.set r (l.getD r d)=l:=by
 have:l.getD r d=l[r]:=by simp[h]
 rw[this,List.set_getElem_self]
theorem Vq {α:Type}{a b:List α}{d:α}{k:Nat}(h:∀j,j<k→a.getD j d=b.getD j d)(hk:a.getD k d=b.getD k d):∀j,j<k+1→a.getD j d=b.getD j d:=by
 intro j hj
 by_cases e:j=k
 ·subst e;exact hk
 ·exact h j zO
theorem Hj {α:Type}{a b:List α}{d:α}{k:Nat}(h:∀j,j<k→a.getD j d=b.getD j d)(hl:a.length=b.length)(hk:a.length≤k):a=b:=by
 apply List.ext_getElem hl
 intro i h1 h2
 have:=h i zO
 simpa [h1,h2]using this
theorem Vr {α:Type}{a b:List α}{d:α}{k:Nat}(h:a.getD k d≠b.getD k d):a≠b:=fun e=>h (by rw[e])
theorem Zv {α:Type}{a b:List α}(h:a.length≠b.length):a≠b:=fun e=>h (by rw[e])
theorem Kv {f:Nat→Bool}{n p:Nat}(hp:p<n)(hf:f p=true):O7 f (n-p) p=O7 f (n-(p+1)) (p+1):=by
 obtain⟨m,hm⟩:∃m,n-p=m+1:=⟨n-p-1,zO⟩
 rw[hm,show n-(p+1)=m from by omega]
 show(if f p then _ else _)=_
 rw[if_pos hf]
theorem MX {f:Nat→Bool}{n p:Nat}(hf:f p=false):O7 f (n-p) p=p:=by
 cases n-p with
 |zero=>rfl
 |succ m=>show(if f p then _ else _)=_;rw[if_neg (by simp[hf])]
theorem ST {f:Nat→Bool}{n p:Nat}(hp:n≤p):O7 f (n-p) p=p:=by
 rw[show n-p=0 from by omega];rfl
def Gp (x a b:Int):Bool:=decide (a≤x) && decide (x≤b)
def El (e:Ex):Bool:=decide (e.pick=0) && decide (e.count=0)
def HQ (p:List Fn)(funcs vars:Int)(e:Ex):Bool :=
 if e.kind=1 then El e && (decide (e.kids.length=0) && JX e.num)
 else if e.kind=2 then El e && (decide (e.kids.length=0) && Gp e.num 0 (vars-1))
 else if e.kind=3∨e.kind=4∨e.kind=5∨e.kind=6∨e.kind=9 then El e && (decide (e.num=0) && decide (e.kids.length=2))
 else if e.kind=7 then El e && (decide (e.num=0) && decide (e.kids.length=1))
 else if e.kind=8 then El e && (decide (e.num=0) && decide (e.kids.length=3))
 else if e.kind=10∨e.kind=11 then
  Gp e.num 0 (funcs-1) && (decide ((e.kids.length:Int)=(p.getD e.num.toNat Fn.zero).params) && (Gp e.pick 0 (((p.getD e.num.toNat Fn.zero).outs.length:Int)-1) &&
   (if e.kind=10 then decide (e.count=0)else decide (((p.getD e.num.toNat Fn.zero).outs.length:Int)=(p.getD e.num.toNat Fn.zero).params) && Gp e.count 0 8)))
 else false
mutual
def wf (p:List Fn)(funcs:Int):Ex→Int→Bool
 |.mk k n q c l,vars=>HQ p funcs vars (.mk k n q c l) && SU p funcs (decide (k=9)) 0 l vars
def SU (p:List Fn)(funcs:Int)(b:Bool):Nat→List Ex→Int→Bool
 |_,[],_=>true
 |i,e::l,vars=>wf p funcs e (if b=true∧i=1 then vars+1 else vars) && SU p funcs b (i+1) l vars
end
theorem OE (p:List Fn)(funcs:Int)(e:Ex)(vars:Int):wf p funcs e vars=(HQ p funcs vars e && SU p funcs (decide (e.kind=9)) 0 e.kids vars):=by
 cases e;rw[wf];rfl
theorem Mj (p:List Fn)(funcs:Int)(b:Bool)(vars:Int):∀(l:List Ex)(i:Nat),SU p funcs b i l vars=true↔∀j,j<l.length→wf p funcs (l.getD j Ex.zero) (if b=true∧i+j=1 then vars+1 else vars)=true
 |[],i=>by rw[SU];simp
 |e::l,i=>by
  rw[SU,z7,Mj p funcs b vars l (i+1)]
  constructor
  ·rintro⟨h1,h2⟩ j hj
   cases j with
   |zero=>simpa using h1
   |succ j =>
    have:=h2 j (by simpa using hj)
    rw[show i+1+j=i+(j+1)from by omega]at this
    simpa using this
  ·intro h
   refine⟨by simpa using h 0 (by simp),fun j hj=>?_⟩
   have:=h (j+1) (by simpa using hj)
   rw[show i+(j+1)=i+1+j from by omega]at this
   simpa using this
theorem Pf {p:List Fn}{funcs vars:Int}{e:Ex}(h:e.kids.length=0):wf p funcs e vars=HQ p funcs vars e:=by
 rw[OE]
 have:e.kids=[]:=List.eq_nil_of_length_eq_zero h
 rw[this,SU,Bool.and_true]
theorem Vs {p:List Fn}{funcs vars:Int}{e:Ex}(h:HQ p funcs vars e=false):false=wf p funcs e vars:=by
 rw[OE,h];rfl
theorem Vt {p:List Fn}{funcs vars own:Int}{e:Ex}{k:Nat}(hk:k<e.kids.length)(ho:own=if e.kind=9∧k=1 then vars+1 else vars)(h:wf p funcs (e.kids.getD k Ex.zero) own=false):false=wf p funcs e vars:=by
 rw[OE]
 cases hw:SU p funcs (decide (e.kind=9)) 0 e.kids vars with
 |false=>rw[Bool.and_false]
 |true =>
  have:=(Mj p funcs _ vars e.kids 0).1 hw k hk
  rw[Nat.zero_add]at this
  simp only[decide_eq_true_eq]at this
  rw[← ho,h]at this
  cases this
theorem Pg {p:List Fn}{funcs vars:Int}{e:Ex}(hn:HQ p funcs vars e=true)(h:∀j,j<e.kids.length→wf p funcs (e.kids.getD j Ex.zero) (if e.kind=9∧j=1 then vars+1 else vars)=true):true=wf p funcs e vars:=by
 rw[OE,hn,Bool.true_and]
 refine ((Mj p funcs _ vars e.kids 0).2 fun j hj=>?_).symm
 rw[Nat.zero_add]
 simp only[decide_eq_true_eq]
 exact h j hj
theorem FV {l:List Ex}{k:Nat}(hk:k<l.length):(l.getD k Ex.zero).deep≤Ex.deeps l:=by
 have h1:=HN hk
 have h2:∀(l:List Ex) (k:Nat),Ex.deeps (l.take k)≤Ex.deeps l:=by
  intro l
  induction l with
  |nil=>intro k;simp
  |cons e l ih =>
   intro k
   cases k with
   |zero=>rw[List.take_zero,Ex.deeps];omega
   |succ k=>rw[List.take_succ_cons,Ex.deeps,Ex.deeps];have:=ih k;omega
 have h3:=h2 l (k+1)
 omega
theorem Dq {α β:Type}{f:α→β}{l:List α}{k:Nat}(d:α)(h:k<l.length):(l.take (k+1)).map f=(l.take k).map f++[f (l.getD k d)]:=by
 rw[Cp d h,List.map_append];rfl
def jI (a b:List Int):Nat→Int
 |0=>0
 |k+1=>md (jI a b k+a.getD k 0*b.getD k 0)
def oA (a b:List Int):Int:=jI a b a.length
theorem fp {s x y:Int}(hs:0≤s∧s<1000003)(hx:0≤x∧x<1000003)(hy:0≤y∧y<1000003):(wr (s+wr (x*y))).tmod ((1000003:Nat):Int)=md (s+x*y):=by
 have h:=Mg hx.1 hx.2 hy.1 hy.2
 rw[GP (x:=x*y) zO zO,GP zO (by omega)]
 exact Int.tmod_eq_emod_of_nonneg zO
def scl (a:List Int)(y:Int):List Int:=a.map fun x=>md (x*y)
def rh (m:List (List Int))(v:List Int):List Int:=m.map fun r=>oA r v
def nw (a:List (List Int))(s:List Int):Nat→List Int
 |0=>s
 |k+1=>scl (rh a (nw a s k)) (inv ((k+1:Nat):Int))
def up (n:Nat)(k:Int):List Int:=FN n fun i=>k+(i:Int)
section
theorem Kw {α:Type}{l l':List α}{k:Nat}{d:α}(h:k<l.length):(l++l').getD k d=l.getD k d:=by
 rw[List.getD_eq_getElem?_getD,List.getElem?_append_left h,List.getD_eq_getElem?_getD]
theorem Hk {α:Type}{l l':List α}{k:Nat}{d:α}(h:l.length≤k):(l++l').getD k d=l'.getD (k-l.length) d:=by
 rw[List.getD_eq_getElem?_getD,List.getElem?_append_right h,List.getD_eq_getElem?_getD]
theorem OF:∀d,d<1001→2≤d→1000003 % d≠0:=by decide +kernel
theorem Vu {d:Nat}(h:d ∣ 1000003)(h2:2≤d):d=1000003:=by
 obtain⟨e,he⟩:=h
 by_cases h3:d<1001
 ·exact absurd (by rw[he];exact Nat.mul_mod_right d e)<|OF d h3 h2
 ·by_cases h4:e<1001
  ·by_cases h5:2≤e
   ·exact absurd (by rw[he];exact Nat.mul_mod_left d e)<|OF e h4 h5
   ·have:e=0∨e=1:=by omega
    rcases this with rfl|rfl <;> omega
  ·have:1001*1001≤d*e:=Nat.mul_le_mul zO zO
   omega
theorem Uo {a:Nat}(h:0<a)(h':a<1000003):Nat.Coprime 1000003 a:=by
 have h1:Nat.gcd 1000003 a ∣ 1000003:=Nat.gcd_dvd_left _ _
 have h2:Nat.gcd 1000003 a ∣ a:=Nat.gcd_dvd_right _ _
 have h3:=Nat.le_of_dvd h h2
 have h4:0<Nat.gcd 1000003 a:=Nat.gcd_pos_of_pos_right _ h
 unfold Nat.Coprime
 by_cases h5:2≤Nat.gcd 1000003 a
 ·have:=Vu h1 h5;omega
 ·omega
theorem Vv {a b:Int}(ha:0<a∧a<1000003)(hb:0<b∧b<1000003):md (a*b)≠0:=by
 obtain⟨x,rfl⟩:=Int.eq_ofNat_of_zero_le (show 0≤a by omega)
 obtain⟨y,rfl⟩:=Int.eq_ofNat_of_zero_le (show 0≤b by omega)
 intro h
 unfold md at h
 have h1:(1000003:Nat) ∣ x*y:=by
  apply Nat.dvd_of_mod_eq_zero
  have h2:((x*y:Nat):Int) % 1000003=0:=by rw[Int.natCast_mul];exact h
  omega
 have h3:(1000003:Nat) ∣ y:=(Uo (a:=x) zO zO).dvd_of_dvd_mul_left h1
 have:=Nat.le_of_dvd zO h3
 omega
structure Ar (α:Type) where
 q:α→α→α
 t:α→α→α→α
 z:α→Bool
 d:α
section O3
variable {α:Type} (R:Ar α)
def Es (c:Nat)(row:List α):List α:=row.map fun x=>R.q x (row.getD c R.d)
def GI (c:Nat)(row other:List α):List α:=FN row.length fun k=>R.t (row.getD k R.d) (row.getD c R.d) (other.getD k R.d)
def Cq (n c:Nat)(M:List (List α)):List (List α):=FN n fun r=>if r=c then M.getD c []else GI R c (M.getD r []) (M.getD c [])
def Gq (c p:Nat)(M:List (List α)):List (List α):=(Bv M c p []).set c (Es R c ((Bv M c p []).getD c []))
def Hl (n c p:Nat)(M:List (List α)):List (List α):=Cq R n c (Gq R c p M)
def HF (n c:Nat)(M:List (List α)):Nat:=O7 (fun r=>R.z ((M.getD r []).getD c R.d)) (n-c) c
def O3 (n:Nat):Nat→Nat→List (List α)→Option (List (List α))
 |0,_,M=>some M
 |m+1,c,M=>if HF R n c M=n then none else O3 n m (c+1) (Hl R n c (HF R n c M) M)
end O3
structure GJ {α:Type}(V:α→Prop)(d:α)(m:Nat)(row:List α):Prop where
 len:row.length=m
 val:∀k,k<m→V (row.getD k d)
structure Sh {α:Type}(V:α→Prop)(d:α)(n m:Nat)(M:List (List α)):Prop where
 len:M.length=n
 row:∀r,r<n→GJ V d m (M.getD r [])
section sh
variable {α:Type} {R:Ar α} {V:α→Prop} {n m c p:Nat} {M:List (List α)}
structure Vw (R:Ar α)(V:α→Prop):Prop where
 q:∀x y,V x→V y→V (R.q x y)
 t:∀x y w,V x→V y→V w→V (R.t x y w)
theorem Gr {row:List α}{k:Nat}(hk:k<row.length):(Es R c row).getD k R.d=R.q (row.getD k R.d) (row.getD c R.d):=by
 simp[Es,hk]
theorem Gt {row other:List α}{k:Nat}(hk:k<row.length):(GI R c row other).getD k R.d=R.t (row.getD k R.d) (row.getD c R.d) (other.getD k R.d):=Bx _ hk
@[simp] theorem Vx (row:List α):(Es R c row).length=row.length:=by simp[Es]
@[simp] theorem Vy (row other:List α):(GI R c row other).length=row.length:=by simp[GI]
theorem GJ.q {row:List α}(hA:Vw R V)(h:GJ V R.d m row)(hc:c<m):GJ V R.d m (Es R c row) :=
 ⟨by simp[h.len],fun k hk=>by rw[Gr (by rw[h.len];exact hk)];exact hA.q _ _ (h.val k hk) (h.val c hc)⟩
theorem GJ.t {row other:List α}(hA:Vw R V)(h:GJ V R.d m row)(h':GJ V R.d m other)(hc:c<m):GJ V R.d m (GI R c row other) :=
 ⟨by simp[h.len],fun k hk=>by rw[Gt (by rw[h.len];exact hk)];exact hA.t _ _ _ (h.val k hk) (h.val c hc) (h'.val k hk)⟩
theorem Sh.set {d:α}(h:Sh V d n m M){r:Nat}(hr:r<n){y:List α}(hy:GJ V d m y):Sh V d n m (M.set r y):=by
 have hl:=h.len
 refine⟨by simp[hl],fun k hk=>?_⟩
 rw[BK _ _ _ _ _ (by omega)]
 split
 ·exact hy
 ·exact h.row k hk
theorem Sh.swap {d:α}(h:Sh V d n m M){i j:Nat}(hi:i<n)(hj:j<n):Sh V d n m (Bv M i j []):=by
 have hl:=h.len
 refine⟨by simp[Cx,hl],fun k hk=>?_⟩
 rw[Gf _ _ _ _ _ zO (by omega)]
 split
 ·exact h.row i hi
 ·split
  ·exact h.row j hj
  ·exact h.row k hk
theorem Mk {β:Type}{l:List β}{d:β}(hc:c<l.length)(hp:p<l.length):(Bv l c p d).getD c d=l.getD p d:=by
 rw[Gf _ _ _ _ _ hc hp]
 split
 ·rename_i h;rw[h]
 ·rw[if_pos rfl]
theorem Sh.div (hA:Vw R V)(h:Sh V R.d n m M)(hc:c<n)(hp:p<n)(hcm:c<m):Sh V R.d n m (Gq R c p M) :=
 (h.swap hc hp).set hc (((h.swap hc hp).row c hc).q hA hcm)
theorem Vz (h:Sh V R.d n m M)(hc:c<n)(hp:p<n)(r:Nat):(Gq R c p M).getD r []=if r=c then Es R c (M.getD p [])else if r=p then M.getD c []else M.getD r []:=by
 have hl:=h.len
 unfold Gq
 rw[BK _ _ _ _ _ (by rw[Cx];omega),Mk zO zO,Gf _ _ _ _ _ zO (by omega)]
 by_cases h1:r=c
 ·rw[if_pos h1,if_pos h1]
 ·rw[if_neg h1,if_neg h1,if_neg h1]
theorem Li {r:Nat}(hr:r<n):(Cq R n c M).getD r []=if r=c then M.getD c []else GI R c (M.getD r []) (M.getD c []):=Bx _ hr
theorem Sh.rows (hA:Vw R V)(h:Sh V R.d n m M)(hc:c<n)(hcm:c<m):Sh V R.d n m (Cq R n c M):=by
 refine⟨by simp[Cq],fun r hr=>?_⟩
 rw[Li hr]
 split
 ·exact h.row c hc
 ·exact (h.row r hr).t hA (h.row c hc) hcm
theorem Sh.step (hA:Vw R V)(h:Sh V R.d n m M)(hc:c<n)(hp:p<n)(hcm:c<m):Sh V R.d n m (Hl R n c p M):=(h.div hA hc hp hcm).rows hA hc hcm
theorem En (h:Sh V R.d n m M)(hc:c<n)(hp:p<n){r:Nat}(hr:r<n) :
  (Hl R n c p M).getD r []=if r=c then Es R c (M.getD p [])else GI R c (if r=p then M.getD c []else M.getD r []) (Es R c (M.getD p [])):=by
 unfold Hl
 rw[Li hr]
 simp only[Vz h hc hp]
 by_cases hrc:r=c
 ·subst hrc;simp
 ·simp[hrc]
theorem Lj (R:Ar α)(h:HF R n c M≠n)(hc:c<n):c≤HF R n c M∧HF R n c M<n∧R.z ((M.getD (HF R n c M) []).getD c R.d)=false:=by
 have h1:=Pd (fun r=>R.z<|(M.getD r []).getD c R.d) (n-c) c
 have h2:=Vp (fun r=>R.z<|(M.getD r []).getD c R.d) (n-c) c
 unfold HF at h ⊢
 refine⟨h1.1,zO,h2 zO⟩
theorem Sh.jor (hA:Vw R V):∀(l c:Nat)(M:List (List α)),c+l≤n→n≤m→Sh V R.d n m M→∀ {M':List (List α)},O3 R n l c M=some M'→Sh V R.d n m M'
 |0,c,M,_,_,h,M',e=>by cases e;exact h
 |l+1,c,M,hl,hm,h,M',e=>by
  unfold Go.Proofs.YtbajepcpgncekaaGreat.O3 at e
  split at e
  ·cases e
  ·rename_i hp
   obtain⟨_,h2,_⟩:=Lj R hp zO
   exact Sh.jor hA l (c+1) _ zO hm (h.step hA zO h2 zO) e
end sh
theorem Lk {f g:Nat→Bool}:∀m r,(∀i,r≤i→i<r+m→f i=g i)→O7 f m r=O7 g m r
 |0,_,_=>rfl
 |m+1,r,h=>by
  unfold O7
  rw[h r (A9 _) zO,Lk m (r+1) fun i h1 h2=>h i zO (by omega)]
structure Rv {α β:Type}(R:Ar α)(S:Ar β)(V:α→Prop)(h:α→β):Prop where
 q:∀x y,V x→V y→h (R.q x y)=S.q (h x) (h y)
 t:∀x y w,V x→V y→V w→h (R.t x y w)=S.t (h x) (h y) (h w)
 z:∀x,V x→S.z (h x)=R.z x
section hom
variable {α β:Type} {R:Ar α} {S:Ar β} {V:α→Prop} {h:α→β} {n m c p:Nat} {M:List (List α)}
def mm (h:α→β)(M:List (List α)):List (List β):=M.map (List.map h)
theorem EY (r:Nat):(mm h M).getD r []=(M.getD r []).map h:=by
 unfold mm
 by_cases hr:r<M.length
 ·simp[hr]
 ·simp[Nat.not_lt.1 hr]
theorem B8 {row:List α}{k:Nat}{d:α}{d':β}(hk:k<row.length):(row.map h).getD k d'=h (row.getD k d):=by simp[hk]
theorem MY {A B:List (List β)}{n:Nat}(ha:A.length=n)(hb:B.length=n)(he:∀r,r<n→A.getD r []=B.getD r []):A=B :=
 Hj (k:=n) (fun j hj=>he j hj) zO zO
theorem Rv.rowQ (H:Rv R S V h){row:List α}(hr:GJ V R.d m row)(hc:c<m):(Es R c row).map h=Go.Proofs.YtbajepcpgncekaaGreat.Es S c (row.map h):=by
 have hl:=hr.len
 refine Hj (d:=S.d) (k:=m) (fun k hk=>?_) (by simp) (by simp[hl])
 rw[B8 (d:=R.d) (by rw[Vx];omega),Gr zO,Gr (by simp;omega),B8 (d:=R.d) zO,B8 (d:=R.d) (by omega)]
 exact H.q _ _ (hr.val k hk)<|hr.val c hc
theorem Rv.rowT (H:Rv R S V h){row other:List α}(hr:GJ V R.d m row)(ho:GJ V R.d m other)(hc:c<m):(GI R c row other).map h=Go.Proofs.YtbajepcpgncekaaGreat.GI S c (row.map h) (other.map h):=by
 have hl:=hr.len
 have hl2:=ho.len
 refine Hj (d:=S.d) (k:=m) (fun k hk=>?_) (by simp) (by simp[hl])
 rw[B8 (d:=R.d) (by rw[Vy];omega),Gt zO,Gt (by simp;omega),B8 (d:=R.d) zO,B8 (d:=R.d) zO,B8 (d:=R.d) (by omega)]
 exact H.t _ _ _ (hr.val k hk) (hr.val c hc)<|ho.val k hk
theorem Rv.sh (hs:Sh V R.d n m M):Sh (fun _=>True) S.d n m (mm h M) :=
 ⟨by simp[mm,hs.len],fun r hr=>⟨by rw[EY,zg];exact(hs.row r hr).len,fun _ _=>trivial⟩⟩
theorem Rv.step (H:Rv R S V h)(hA:Vw R V)(hs:Sh V R.d n m M)(hc:c<n)(hp:p<n)(hcm:c<m):mm h (Hl R n c p M)=Hl S n c p (mm h M):=by
 refine MY (n:=n) (by simp[mm,Hl,Cq]) (by simp[Hl,Cq]) fun r hr=>?_
 rw[EY,En hs hc hp hr,En (Rv.sh hs) hc hp hr]
 simp only[EY]
 have hq:=H.rowQ (hs.row p hp) hcm
 by_cases hrc:r=c
 ·simp only[hrc,if_pos];exact hq
 ·simp only[hrc,if_false]
  by_cases hrp:r=p
  ·simp only[hrp,if_pos]
   rw[← hq]
   exact H.rowT (hs.row c hc) ((hs.row p hp).q hA hcm) hcm
  ·simp only[hrp,if_false]
   rw[← hq]
   exact H.rowT (hs.row r hr) ((hs.row p hp).q hA hcm) hcm
theorem Rv.pv (H:Rv R S V h)(hs:Sh V R.d n m M)(hcm:c<m):HF S n c (mm h M)=HF R n c M:=by
 refine Lk _ _ fun i h1 h2=>?_
 have hi:i<n:=by omega
 rw[EY,B8 (d:=R.d) (by rw[(hs.row i hi).len];exact hcm)]
 exact H.z _<|(hs.row i hi).val c hcm
theorem Rv.jor (H:Rv R S V h)(hA:Vw R V):∀(l c:Nat)(M:List (List α)),c+l≤n→n≤m→Sh V R.d n m M→O3 S n l c (mm h M)=(O3 R n l c M).map (mm h)
 |0,c,M,_,_,_=>rfl
 |l+1,c,M,hl,hm,hs=>by
  unfold Go.Proofs.YtbajepcpgncekaaGreat.O3
  rw[H.pv hs (by omega)]
  split
  ·rfl
  ·rename_i hp
   obtain⟨_,h2,_⟩:=Lj R hp zO
   rw[← H.step hA hs zO h2 (by omega)]
   exact Rv.jor H hA l (c+1) _ zO hm<|hs.step hA zO h2 zO
end hom
def nA:Ar Int:=⟨fun x y=>md (x*inv y),fun a f b=>md (a-md (f*b)),fun x=>decide (x=0),0⟩
def Nm (x:Int):Prop:=0≤x∧x<1000003
theorem Ph:Vw nA Nm:=⟨fun _ _ _ _=>BU _,fun _ _ _ _ _ _=>BU _⟩
theorem Qs {m:Nat}{row:List Int}(h:GJ Nm 0 m row):B9 row=true:=by
 rw[fo row 0]
 exact G5 fun k hk=>h.val k (by rw[← h.len];exact hk)
theorem Qt {n c:Nat}{rc:List Int}{iv:Int}{M:List (List Int)}(h:Sq n M):∀j,c+1+j≤n→∀r,(Ix c rc iv j M).getD r []=if c<r∧r<c+1+j then OD (M.getD r []) rc (md ((M.getD r []).getD c 0*iv))else M.getD r []
 |0,_,r=>by rw[if_neg (by omega)];rfl
 |j+1,hj,r=>by
  have ih:=Qt (c:=c) (rc:=rc) (iv:=iv) h j zO
  have hs:=Mi (c:=c) (rc:=rc) (iv:=iv) h j zO
  show((Ix c rc iv j M).set (c+1+j) (OD ((Ix c rc iv j M).getD (c+1+j) []) rc (md (((Ix c rc iv j M).getD (c+1+j) []).getD c 0*iv)))).getD r []=_
  have hl:c+1+j<(Ix c rc iv j M).length:=by have:=hs.len;omega
  rw[BK _ (c+1+j) r _ _ hl]
  have e1:=ih (c+1+j)
  rw[if_neg (by omega)]at e1
  rw[e1,ih r]
  by_cases e:r=c+1+j
  ·subst e;rw[if_pos rfl,if_pos (by omega)]
  ·rw[if_neg e]
   by_cases e2:c<r∧r<c+1+j
   ·rw[if_pos e2,if_pos (by omega)]
   ·rw[if_neg e2,if_neg (by omega)]
def VA (n c:Nat)(D G:List (List Int)):Prop:=∀r,c≤r→r<n→∀k,k<n→(D.getD r []).getD k 0=(G.getD r []).getD k 0
theorem fq {n c:Nat}{D G:List (List Int)}(h:VA n c D G)(hc:c<n):Un n c D=HF nA n c G:=by
 refine Lk _ _ fun i h1 h2=>?_
 show decide (_=0)=decide (_=0)
 rw[h i h1 zO c hc];rfl
theorem VB {n c p:Nat}{D G:List (List Int)}(hD:Sq n D)(hG:Sh Nm 0 n (n+1) G)(h:VA n c D G)(hc:c<n)(hp:p<n)(hcp:c≤p) :
  VA n (c+1) (Ix c ((Bv D c p []).getD c []) (inv (((Bv D c p []).getD c []).getD c 0)) (n-(c+1)) (Bv D c p [])) (Hl nA n c p G):=by
 intro r hr1 hr2 k hk
 have hl:=hD.len
 rw[Qt (hD.swap hc hp) _ zO,if_pos zO,En hG hc hp hr2,if_neg zO,Mk zO zO,Gf _ _ _ _ _ zO (by omega)]
 have key:∀(D0 G0:List Int),D0.length=n→G0.length=n+1→(∀k,k<n→D0.getD k 0=G0.getD k 0) →
   (OD D0 (D.getD p []) (md (D0.getD c 0*inv ((D.getD p []).getD c 0)))).getD k 0=(GI nA c G0 (Es nA c (G.getD p []))).getD k 0:=by
  intro D0 G0 h1 h2 h3
  have hpl:=(hG.row p hp).len
  rw[show(0:Int)=nA.d from rfl,Gt zO,Gr (by omega)]
  show(FN D0.length fun k=>md (D0.getD k 0-md (md (D0.getD c 0*inv ((D.getD p []).getD c 0))*(D.getD p []).getD k 0))).getD k 0=md (G0.getD k 0-md (G0.getD c 0*md ((G.getD p []).getD k 0*inv ((G.getD p []).getD c 0))))
  rw[Bx _ zO,h3 k hk,h3 c hc,h p hcp hp k hk,h p hcp hp c hc,Ks,Ks]
  rw[← EB,← EB (G0.getD k 0) (_*md _),Fm,Fp]
  congr 3
  rw[Int.mul_assoc,Int.mul_comm (inv _)]
 by_cases e:r=p
 ·subst e
  rw[if_pos rfl,if_pos rfl]
  exact key _ _ (hD.row c hc) (hG.row c hc).len fun k hk=>h c (A9 _) hc k hk
 ·rw[if_neg e,if_neg zO,if_neg e]
  exact key _ _ (hD.row r hr2) (hG.row r hr2).len fun k hk=>h r zO hr2 k hk
theorem SW {n:Nat}:∀(l c:Nat)(D G:List (List Int))(det:Int),c+l=n→Sq n D→Sh Nm 0 n (n+1) G→VA n c D G→0<det→det<1000003→(M0 n l c D det=0↔O3 nA n l c G=none)
 |0,c,D,G,det,_,_,_,_,h1,_=>by
  unfold M0 O3
  constructor
  ·intro h;omega
  ·intro h;cases h
 |l+1,c,D,G,det,hl,hD,hG,hr,h1,h2=>by
  have hc:c<n:=by omega
  have hpv:=fq hr hc
  unfold M0 O3
  rw[hpv]
  by_cases hp:HF nA n c G=n
  ·rw[if_pos hp,if_pos hp];simp
  ·rw[if_neg hp,if_neg hp]
   obtain⟨q1,q2,q3⟩:=Lj nA hp hc
   have hne:(D.getD (HF nA n c G) []).getD c 0≠0:=by
    rw[hr _ q1 q2 c hc]
    simpa [nA]using q3
   have hnum:=hD.get (HF nA n c G) c
   have hdl:=hD.len
   have hs:=hD.swap hc q2
   have hdet:0<(if HF nA n c G≠c then md (-det)else det)∧(if HF nA n c G≠c then md (-det)else det)<1000003:=by
    split
    ·unfold md;omega
    ·omega
   have hz:=Vv hdet (b:=(D.getD (HF nA n c G) []).getD c 0) zO
   have hm:=BU ((if HF nA n c G≠c then md (-det)else det)*(D.getD (HF nA n c G) []).getD c 0)
   have e:=Mk (d:=[]) (c:=c) (p:=HF nA n c G) (l:=D) zO zO
   have ih:=SW (n:=n) l (c+1) (Ix c ((Bv D c (HF nA n c G) []).getD c []) (inv (((Bv D c (HF nA n c G) []).getD c []).getD c 0)) (n-(c+1)) (Bv D c (HF nA n c G) [])) (Hl nA n c (HF nA n c G) G)
    (md ((if HF nA n c G≠c then md (-det)else det)*((Bv D c (HF nA n c G) []).getD c []).getD c 0)) zO (Mi hs _ zO) (hG.step Ph hc q2 zO) (VB hD hG hr hc q2 q1)
    (by rw[e];omega) (by rw[e];omega)
   exact ih
def E6 (a:List (List Int))(b:List Int):List (List Int):=FN a.length fun i=>a.getD i []++[b.getD i 0]
theorem H0 {a:List (List Int)}{b:List Int}(hS:Sq a.length a)(hb:B9 b=true):Sh Nm 0 a.length (a.length+1) (E6 a b):=by
 refine⟨by simp[E6],fun r hr=>?_⟩
 unfold E6
 rw[Bx _ hr]
 have hl:=hS.row r hr
 refine⟨by rw[z4,hl];rfl,fun k hk=>?_⟩
 by_cases e:k<a.length
 ·rw[Kw (by omega)];exact hS.get r k
 ·rw[Hk zO,show k-(a.getD r []).length=0 from by omega]
  exact Bg hb r
theorem Pi {a:List (List Int)}{b:List Int}(hS:Sq a.length a):VA a.length 0 a (E6 a b):=by
 intro r _ hr k hk
 unfold E6
 rw[Bx _ hr,Kw (by rw[hS.row r hr];exact hk)]
def Iy (a:List (List Int))(b:List Int):Option (List (List Int)):=O3 nA a.length a.length 0 (E6 a b)
theorem Iz {a:List (List Int)}{b:List Int}(hS:Sq a.length a)(hb:B9 b=true):DD a=0↔Iy a b=none :=
 SW a.length 0 a (E6 a b) 1 zO hS (H0 hS hb) (Pi hS) (by decide) (by decide)
def MZ {α:Type}(n:Nat)(d:α)(M:List (List α)):List α:=M.map fun r=>r.getD n d
def Ji (a:List (List Int))(b:List Int):List Int:=MZ a.length 0 ((Iy a b).getD [])
end
def O8 (a b:List Int)(k:Nat):Nat→Int
 |0=>0
 |i+1=>md (O8 a b k i+a.getD i 0*b.getD (k-i) 0)
theorem SX (a b:List Int)(k:Nat):∀i,0≤O8 a b k i∧O8 a b k i<1000003
 |0=>by unfold O8;omega
 |i+1=>BU _
def Ci (a b:List Int):List Int:=FN a.length fun k=>O8 a b k (k+1)
@[simp] theorem FF (a b:List Int):(Ci a b).length=a.length:=by simp[Ci]
theorem FG (a b:List Int):B9 (Ci a b)=true:=G5 fun _ _=>SX _ _ _ _
def Pj (a b o:List Int)(k:Nat):Nat→Int
 |0=>a.getD k 0
 |i+1=>md (Pj a b o k i-o.getD i 0*b.getD (k-i) 0)
def Jw (a b:List Int):Nat→List Int
 |0=>[]
 |k+1=>Jw a b k++[md (Pj a b (Jw a b k) k k*inv (b.getD 0 0))]
def C6 (a b:List Int):List Int:=Jw a b a.length
@[simp] theorem Ea (a b:List Int):∀k,(Jw a b k).length=k
 |0=>rfl
 |k+1=>by simp[Jw,Ea a b k]
@[simp] theorem E7 (a b:List Int):(C6 a b).length=a.length:=Ea _ _ _
theorem SY (a b:List Int):∀k,B9 (Jw a b k)=true
 |0=>rfl
 |k+1=>by
  unfold Jw B9
  rw[List.all_append]
  have h:=SY a b k
  unfold B9 at h
  simp only[h,List.all_cons,List.all_nil,Bool.and_true,Bool.true_and]
  exact Ck.2<|BU _
theorem ED (a b:List Int):B9 (C6 a b)=true:=SY _ _ _
theorem SZ (a b:List Int){i:Nat}:∀k m,i<k→k≤m→(Jw a b m).getD i 0=(Jw a b k).getD i 0
 |k,m,h,hm=>by
  induction m with
  |zero=>omega
  |succ m ih =>
   by_cases e:k=m+1
   ·subst e;rfl
   ·show(Jw a b m++_).getD i 0=_
    rw[Kw (by rw[Ea];omega)]
    exact ih zO
theorem OG {a b o o':List Int}{k:Nat}:∀i,(∀j,j<i→o.getD j 0=o'.getD j 0)→Pj a b o k i=Pj a b o' k i
 |0,_=>rfl
 |i+1,h=>by unfold Pj;rw[OG i fun j hj=>h j zO,h i (by omega)]
theorem Kx {a b:List Int}{k:Nat}(hk:k<a.length):(C6 a b).getD k 0=md (Pj a b (C6 a b) k k*inv (b.getD 0 0)):=by
 unfold C6
 rw[SZ a b (k+1) a.length zO (by omega)]
 show(Jw a b k++[_]).getD k 0=_
 rw[Hk (by simp),Ea,Nat.sub_self]
 show md _=_
 rw[OG (o:=Jw a b k) (o':=Jw a b a.length) k fun j hj=>(SZ a b k a.length hj zO).symm]
theorem Zw {a b:List Int}{k:Nat}(hk:k<a.length){z:List Int}(hz:z.length=a.length) :
  (CK k (C6 a b) z).set k (md (Pj a b (C6 a b) k k*inv (b.getD 0 0)))=CK (k+1) (C6 a b) z:=by
 rw[← Kx hk,Ku 0 (by simp[hz]) (by omega)]
def EE (a b:List Int):List Int:=FN a.length fun k=>md (a.getD k 0+b.getD k 0)
def CX (a:List Int)(n:Int):List Int:=FN a.length fun k=>md (a.getD k 0*n)
def DJ (a b:List Int):List Int:=FN a.length fun k=>md (a.getD k 0-b.getD k 0)
@[simp] theorem Hm (a b:List Int):(EE a b).length=a.length:=by simp[EE]
@[simp] theorem Hn (a:List Int)(n:Int):(CX a n).length=a.length:=by simp[CX]
@[simp] theorem Ho (a b:List Int):(DJ a b).length=a.length:=by simp[DJ]
theorem IA (a b:List Int):B9 (EE a b)=true:=G5 fun _ _=>BU _
theorem FH (a:List Int)(n:Int):B9 (CX a n)=true:=G5 fun _ _=>BU _
theorem Hp (a b:List Int):B9 (DJ a b)=true:=G5 fun _ _=>BU _
theorem VC {a b:List Int}(h:a.length≤b.length):EE a (CX b 1000002)=DJ a b:=by
 unfold EE DJ
 refine SQ fun k hk=>?_
 unfold CX
 rw[Bx _ zO,GO]
 unfold md
 omega
theorem Zx {x y:Int}(hx:0≤x∧x<1000003)(hy:0≤y∧y<1000003):(wr (x+y)).tmod ((1000003:Nat):Int)=md (x+y):=by
 rw[GP zO (by omega)]
 exact Int.tmod_eq_emod_of_nonneg zO
theorem VD {n k:Nat}{T:List Int}(hT:T.length=n)(hk:k<n):(CK k T (List.replicate n 0)).set k 0=CK k T (List.replicate n 0):=by
 have h1:(CK k T (List.replicate n 0)).length=n:=by rw[EC _ _ _ (by simp[hT])];simp
 have h2:(CK k T (List.replicate n 0)).getD k 0=0:=by rw[Ek 0 (by simp[hT]) (A9 _) (by simpa using hk)];simp[hk]
 have h3:=Fq (CK k T<|List.replicate n 0) (r:=k) 0 zO
 rw[h2]at h3
 exact h3
theorem VE {a b q:List Int}{k i:Nat}(hq:B9 q=true)(hb:B9 b=true):md (Pj a b q k i-wr (q.getD i 0*b.getD (k-i) 0))=Pj a b q k (i+1):=by
 have h1:=Bg hq i
 have h2:=Bg hb (k-i)
 have h:=Mg h1.1 h1.2 h2.1 h2.2
 rw[GP zO (by omega)]
 rfl
def BN (N:Nat)(s:List Int):Prop:=s.length=N∧B9 s=true
def sA:Ar (List Int):=⟨C6,fun a f b=>DJ a (Ci f b),fun s=>decide (s.getD 0 0=0),[]⟩
theorem Rw (N:Nat):Vw sA (BN N):=⟨fun _ _ h _=>⟨by rw[← h.1];exact E7 _ _,ED _ _⟩,fun _ _ _ h _ _=>⟨by rw[← h.1];exact Ho _ _,Hp _ _⟩⟩
theorem Zy:Rv nA sA Nm (fun x=>[x]) where
 q x y _ _:=by simp[nA,sA,C6,Jw,Pj]
 t x y w _ _ _:=by simp[nA,sA,DJ,Ci,O8,FN]
 z x _:=by simp[nA,sA]
def Hq (a:List (List (List Int)))(b:List (List Int)):List (List (List Int)):=FN a.length fun i=>a.getD i []++[b.getD i []]
def CR (a:List (List (List Int)))(b:List (List Int)):Option (List (List (List Int))):=O3 sA a.length a.length 0 (Hq a b)
def G6 (a:List (List (List Int)))(b:List (List Int)):List (List Int):=MZ a.length [] ((CR a b).getD [])
def Cd (b:List Int):List (List Int):=b.map fun x=>[x]
theorem Ky {a:List (List Int)}{b:List Int}(hS:Sq a.length a)(hb:b.length=a.length):Hq (mm (fun x=>[x]) a) (Cd b)=mm (fun x=>[x]) (E6 a b):=by
 have h1:(mm (fun x:Int=>[x]) a).length=a.length:=by simp[mm]
 unfold Hq
 rw[h1]
 refine MY (n:=a.length) (by simp) (by simp[mm,E6]) fun r hr=>?_
 rw[Bx _ hr,EY,EY]
 unfold E6
 rw[Bx _ hr,List.map_append,Cd,B8 (d:=0) (by omega)]
 rfl
theorem Pk {a:List (List Int)}{b:List Int}(hS:Sq a.length a)(hb:b.length=a.length)(hn:B9 b=true) :
  CR (mm (fun x=>[x]) a) (Cd b)=(Iy a b).map (mm fun x=>[x]):=by
 unfold CR Iy
 rw[Ky hS hb,show(mm (fun x:Int=>[x]) a).length=a.length from by simp[mm]]
 exact Zy.jor Ph a.length 0 _ zO zO<|H0 hS hn
theorem T5 {a:List (List Int)}{b:List Int}(hS:Sq a.length a)(hb:b.length=a.length)(hn:B9 b=true)(hs:Iy a b≠none) :
  G6 (mm (fun x=>[x]) a) (Cd b)=Cd (Ji a b):=by
 obtain⟨M,hM⟩:=Option.ne_none_iff_exists'.1 hs
 have hsh:=Sh.jor Ph a.length 0 _ zO zO (H0 hS hn) hM
 have hl:=hsh.len
 unfold G6 Ji
 rw[Pk hS hb hn,hM,show(mm (fun x:Int=>[x]) a).length=a.length from by simp[mm]]
 simp only[Option.map_some,Option.getD_some]
 unfold MZ Cd
 refine Hj (d:=[]) (k:=a.length) (fun r hr=>?_) (by simp[mm,hl]) (by simp[mm,hl])
 have e1:((mm (fun x:Int=>[x]) M).map fun r=>r.getD a.length []).getD r []=((mm (fun x:Int=>[x]) M).getD r []).getD a.length []:=by
  rw[B8 (d:=[]) (by simp[mm,hl,hr])]
 have e2:((M.map fun r=>r.getD a.length 0).map fun x:Int=>[x]).getD r []=[(M.getD r []).getD a.length 0]:=by
  rw[B8 (d:=0) (by simp[hl,hr]),B8 (d:=[]) (by omega)]
 rw[e1,e2,EY,B8 (d:=0) (by rw[(hsh.row r hr).len];omega)]
def pm:Nat→Nat→Nat→Nat→Nat
 |0,_,_,acc=>acc
 |f+1,b,e,acc=>pm f (b*b % 1000003) (e / 2) (if e % 2=1 then acc*b % 1000003 else acc)
theorem T6:∀(f b e acc:Nat),e<2 ^ f→pm f b e acc % 1000003=acc*b ^ e % 1000003
 |0,b,e,acc,h=>by
  have:e=0:=by simp at h;exact h
  subst this;simp[pm]
 |f+1,b,e,acc,h=>by
  unfold pm
  rw[T6 f _ _ _ (by rw[Nat.pow_succ]at h;omega)]
  have e1:(b*b % 1000003) ^ (e / 2) % 1000003=(b*b) ^ (e / 2) % 1000003:=(Nat.pow_mod ..).symm
  have e2:(b*b) ^ (e / 2)=b ^ (2*(e / 2)):=by rw[Nat.pow_mul];congr 1;rw[Nat.pow_succ,Nat.pow_one]
  split
  ·rename_i ho
   rw[Nat.mul_mod,e1,← Nat.mul_mod,Nat.mul_mod (acc*b % 1000003),Nat.mod_mod,← Nat.mul_mod,e2,Nat.mul_assoc,← Nat.pow_succ']
   congr 3;omega
  ·rw[Nat.mul_mod,e1,← Nat.mul_mod,e2]
   congr 3;omega
theorem Uq:∀a,a<1001→a=0∨pm 20 a 1000002 1=1:=by decide +kernel
theorem Pl {a e:Nat}(he:e=1000002)(h:0<a)(h':a<1001):a ^ e % 1000003=1:=by
 have h1:=(Uq a h').resolve_left zO
 have h2:∀e,e<2 ^ 20→pm 20 a e 1=1→a ^ e % 1000003=1:=fun e he h=>by
  have h3:=T6 20 a e 1 he
  rw[Nat.one_mul,h]at h3
  exact h3.symm
 exact h2 e (by subst he;decide) (by subst he;exact h1)
theorem Pm {x y:Int}(n:Nat)(h:md x=md y):md (x ^ n)=md (y ^ n):=by rw[← MT,h,MT]
theorem Pn (k:Nat):(-1:Int) ^ (2*k)=1:=by
 rw[Int.pow_mul]
 have:(-1:Int) ^ 2=1:=by decide
 rw[this,Int.one_pow]
theorem Rx:∀(n a:Nat),a≤n→0<a→a<1000003→md ((a:Int) ^ 1000002)=1
 |0,a,h,h0,_=>by omega
 |n+1,a,h,h0,h1=>by
  by_cases hs:a<1001
  ·have:=Pl (e:=1000002) rfl h0 hs
   unfold md
   rw[← Int.natCast_pow]
   have e:((a ^ 1000002:Nat):Int) % 1000003=((a ^ 1000002 % 1000003:Nat):Int):=by omega
   rw[e,this];rfl
  ·have hq:1000003 / a<a:=by rw[Nat.div_lt_iff_lt_mul (by omega)];have:=Nat.mul_le_mul (show 1001≤a by omega) (show 1001≤a by omega);omega
   have hq0:0<1000003 / a:=Nat.div_pos zO h0
   have hr:1000003 % a<a:=Nat.mod_lt _ h0
   have hr0:0<1000003 % a:=by
    rcases Nat.eq_zero_or_pos (1000003 % a)with hz|hz
    ·have:=Vu (Nat.dvd_of_mod_eq_zero hz) (by omega);omega
    ·exact hz
   have f1:=Rx n (1000003 / a) zO hq0 zO
   have f2:=Rx n (1000003 % a) zO hr0 zO
   have hdm:=Nat.div_add_mod 1000003 a
   have key:md (((1000003 / a:Nat):Int)*(a:Int))=md (-1*((1000003 % a:Nat):Int)):=by
    have e:((1000003 / a:Nat):Int)*(a:Int)=1000003+(-1*((1000003 % a:Nat):Int)):=by
     have:((a*(1000003 / a)+1000003 % a:Nat):Int)=1000003:=by rw[hdm];rfl
     rw[Int.natCast_add,Int.natCast_mul,Int.mul_comm]at this
     omega
    rw[e,Int.add_comm];exact Vk _
   have k2:=Pm 1000002 key
   rw[Int.mul_pow,Int.mul_pow,← Du,← Du (_ ^ _) (((1000003 % a:Nat):Int) ^ 1000002),f1,f2,show(1000002:Nat)=2*500001 from rfl,Pn]at k2
   rw[show(2*500001:Nat)=1000002 from rfl,Int.one_mul,FE]at k2
   rw[k2];decide
theorem T7 {a:Int}(h:0<a)(h':a<1000003):md (a*inv a)=1:=by
 obtain⟨x,rfl⟩:=Int.eq_ofNat_of_zero_le (show 0≤a by omega)
 unfold inv pw
 rw[if_neg zO,Fp]
 have:(((1000001:Nat):Int)).toNat=1000001:=rfl
 rw[this,← Int.pow_succ']
 exact Rx x x (A9 _) zO zO
def cv (f g:Nat→Int):Nat→Int
 |0=>f 0*g 0
 |k+1=>f 0*g (k+1)+cv (fun i=>f (i+1)) g k
theorem Qu {f f' g g':Nat→Int}:∀ {k:Nat},(∀i,i≤k→f i=f' i)→(∀i,i≤k→g i=g' i)→cv f g k=cv f' g' k
 |0,hf,hg=>by unfold cv;rw[hf 0 (A9 _),hg 0 (A9 _)]
 |k+1,hf,hg=>by
  unfold cv
  rw[hf 0 zO,hg (k+1) zO,Qu (k:=k) (fun i hi=>hf (i+1) zO) (fun i hi=>hg i zO)]
theorem Kz (f f' g:Nat→Int):∀k,cv (fun i=>f i+f' i) g k=cv f g k+cv f' g k
 |0=>by unfold cv;rw[Int.add_mul]
 |k+1=>by
  unfold cv
  rw[Kz (fun i=>f (i+1)) (fun i=>f' (i+1)) g k,Int.add_mul]
  omega
theorem KA (c:Int)(f g:Nat→Int):∀k,cv (fun i=>c*f i) g k=c*cv f g k
 |0=>by unfold cv;rw[Int.mul_assoc]
 |k+1=>by
  unfold cv
  rw[KA c (fun i=>f (i+1)) g k,Int.mul_add,Int.mul_assoc]
theorem KB (f g g':Nat→Int):∀k,cv f (fun i=>g i+g' i) k=cv f g k+cv f g' k
 |0=>by unfold cv;rw[Int.mul_add]
 |k+1=>by
  unfold cv
  rw[KB (fun i=>f (i+1)) g g' k,Int.mul_add]
  omega
theorem Qv (c:Int)(f g:Nat→Int):∀k,cv f (fun i=>c*g i) k=c*cv f g k
 |0=>by unfold cv;rw[← Int.mul_assoc,Int.mul_comm (f 0) c,Int.mul_assoc]
 |k+1=>by
  unfold cv
  rw[Qv c (fun i=>f (i+1)) g k,Int.mul_add,← Int.mul_assoc,Int.mul_comm (f 0) c,Int.mul_assoc]
theorem T8 (f g:Nat→Int):∀k,cv f g (k+1)=f (k+1)*g 0+cv f (fun i=>g (i+1)) k
 |0=>by
  show f 0*g 1+f 1*g 0=f 1*g 0+f 0*g 1
  omega
 |k+1=>by
  show f 0*g (k+2)+cv (fun i=>f (i+1)) g (k+1)=f (k+2)*g 0+(f 0*g (k+2)+cv (fun i=>f (i+1)) (fun i=>g (i+1)) k)
  rw[T8 (fun i=>f (i+1)) g k]
  show f 0*g (k+2)+(f (k+2)*g 0+_)=_
  omega
theorem CF:∀(f g:Nat→Int)(k:Nat),cv f g k=cv g f k
 |f,g,0=>by unfold cv;rw[Int.mul_comm]
 |f,g,k+1=>by
  rw[T8 g f k]
  show f 0*g (k+1)+cv (fun i=>f (i+1)) g k=_
  rw[CF (fun i=>f (i+1)) g k,Int.mul_comm]
theorem FI:∀(f g h:Nat→Int)(k:Nat),cv (cv f g) h k=cv f (cv g h) k
 |f,g,h,0=>by unfold cv;unfold cv;rw[Int.mul_assoc]
 |f,g,h,k+1=>by
  show cv f g 0*h (k+1)+cv (fun i=>cv f g (i+1)) h k=f 0*cv g h (k+1)+cv (fun i=>f (i+1)) (cv g h) k
  have e:(fun i=>cv f g (i+1))=fun i=>f 0*g (i+1)+cv (fun i=>f (i+1)) g i:=rfl
  rw[e,Kz,KA,FI (fun i=>f (i+1)) g h k]
  show f 0*g 0*h (k+1)+_=f 0*(g 0*h (k+1)+cv (fun i=>g (i+1)) h k)+_
  rw[Int.mul_add,Int.mul_assoc]
  omega
def sm (n:Nat)(f:Nat→Int):Int:=match n with
 |0=>0
 |n+1=>sm n f+f n
theorem Cm {f g:Nat→Int}:∀ {n:Nat},(∀i,i<n→f i=g i)→sm n f=sm n g
 |0,_=>rfl
 |n+1,h=>by unfold sm;rw[Cm (n:=n) fun i hi=>h i zO,h n (by omega)]
theorem Ry (f g:Nat→Int):∀n,sm n (fun i=>f i+g i)=sm n f+sm n g
 |0=>rfl
 |n+1=>by unfold sm;rw[Ry f g n];omega
theorem VF (c:Int)(f:Nat→Int):∀n,sm n (fun i=>c*f i)=c*sm n f
 |0=>by unfold sm;rw[Int.mul_zero]
 |n+1=>by unfold sm;rw[VF c f n,Int.mul_add]
theorem Po (f:Nat→Int):∀n,sm (n+1) f=f 0+sm n (fun i=>f (i+1))
 |0=>by unfold sm;unfold sm;omega
 |n+1=>by
  show sm (n+1) f+f (n+1)=f 0+(sm n (fun i=>f (i+1))+f (n+1))
  rw[Po f n];omega
theorem LT:∀(f g:Nat→Int)(k:Nat),cv f g k=sm (k+1) fun i=>f i*g (k-i)
 |f,g,0=>by unfold cv sm;unfold sm;simp
 |f,g,k+1=>by
  rw[Po]
  unfold cv
  rw[LT (fun i=>f (i+1)) g k]
  congr 1
  exact Cm fun i hi=>by rw[show k+1-(i+1)=k-i from by omega]
theorem N0 {f g:Nat→Int}:∀ {n:Nat},(∀i,i<n→md (f i)=md (g i))→md (sm n f)=md (sm n g)
 |0,_=>rfl
 |n+1,h=>by
  unfold sm
  rw[← Ej,N0 (n:=n) fun i hi=>h i zO,h n zO,Ej]
theorem jJ {f f' g g':Nat→Int}{k:Nat}(hf:∀i,i≤k→md (f i)=md (f' i))(hg:∀i,i≤k→md (g i)=md (g' i)):md (cv f g k)=md (cv f' g' k):=by
 rw[LT,LT]
 exact N0 fun i hi=>by rw[← Du,hf i zO,hg (k-i) zO,Du]
theorem VG (a b:List Int)(k:Nat):∀i,O8 a b k i=md (sm i fun j=>a.getD j 0*b.getD (k-j) 0)
 |0=>by unfold O8 sm;rfl
 |i+1=>by unfold O8 sm;rw[VG a b k i,Pc]
theorem Zz {a b:List Int}{k:Nat}(hk:k<a.length):(Ci a b).getD k 0=md (cv (fun i=>a.getD i 0) (fun i=>b.getD i 0) k):=by
 unfold Ci
 rw[Bx _ hk,VG,LT]
section
section
variable {α:Type} {R:Ar α} {n c p:Nat} {M:List (List α)}
theorem Qw {Z:Option (List (List α))}(h:O3 R n (n-c) c M=Z)(hc:c<n)(hp:HF R n c M≠n):O3 R n (n-(c+1)) (c+1) (Hl R n c (HF R n c M) M)=Z:=by
 rw[← h,show n-c=(n-(c+1))+1 from by omega]
 conv=>rhs;unfold O3
 rw[if_neg hp]
theorem Qy {Z:Option (List (List α))}(h:O3 R n (n-c) c M=Z)(hc:c<n)(hp:HF R n c M=n):Z=none:=by
 rw[← h,show n-c=(n-(c+1))+1 from by omega]
 unfold O3
 rw[if_pos hp]
theorem Ta {Z:Option (List (List α))}(h:O3 R n (n-c) c M=Z)(hc:n≤c):Z=some M:=by
 rw[← h,show n-c=0 from by omega];rfl
theorem ZA {Z:Option (List (List α))}(h:O3 R n (n-c) c M=Z)(hc:c<n)(hz:Z≠none):HF R n c M≠n:=fun hp=>hz (Qy h hc hp)
theorem ft (R:Ar α)(n c:Nat)(M:List (List α))(hc:c<n):c≤HF R n c M∧HF R n c M≤n:=by
 have:=Pd (fun r=>R.z ((M.getD r []).getD c R.d)) (n-c) c
 unfold HF
 omega
theorem N1 {D:List (List α)}(hl:D.length=n){i:Nat}(hi:i<n)(hic:i≠c):(CK i (Cq R n c D) D).set i (GI R c (D.getD i []) (D.getD c []))=CK (i+1) (Cq R n c D) D:=by
 unfold Cq
 rw[G4 hl hi,if_neg hic]
theorem JY {D:List (List α)}(hl:D.length=n){i:Nat}(hi:i<n)(hic:i=c):CK (i+1) (Cq R n c D) D=CK i (Cq R n c D) D:=by
 unfold Cq
 rw[G4 hl hi,if_pos hic]
 subst hic
 have h1:(CK i (FN n fun r=>if r=i then D.getD i []else GI R i (D.getD r []) (D.getD i [])) D).length=n:=by rw[EC _ _ _ (by simp[hl])];exact hl
 have h2:(CK i (FN n fun r=>if r=i then D.getD i []else GI R i (D.getD r []) (D.getD i [])) D).getD i []=D.getD i []:=Ek [] (by simp[hl]) (A9 _) zO
 have h3:=Fq (CK i (FN n fun r=>if r=i then D.getD i []else GI R i (D.getD r []) (D.getD i [])) D) (r:=i) [] zO
 rw[h2]at h3
 exact h3
theorem Qz {D:List (List α)}(hl:D.length=n){i:Nat}(hi:i≤n)(hc:c<n):(CK i (Cq R n c D) D).getD c []=D.getD c []:=by
 by_cases h:i≤c
 ·exact Ek [] (by simp[Cq,hl]) h zO
 ·rw[Ru [] zO (by simp[Cq];omega),Li hc,if_pos rfl]
theorem N3 {D:List (List α)}(hl:D.length=n){i r:Nat}(hi:i≤r)(hr:r<n):(CK i (Cq R n c D) D).getD r []=D.getD r []:=Ek [] (by simp[Cq,hl]) hi zO
theorem Ur {D:List (List α)}(hl:D.length=n)(i:Nat):(CK i (Cq R n c D) D).length=n:=by rw[EC _ _ _ (by simp[Cq,hl])];exact hl
theorem OH {V:α→Prop}{m:Nat}{D:List (List α)}(hA:Vw R V)(h:Sh V R.d n m D)(hc:c<n)(hcm:c<m){i r:Nat}(hi:i≤n)(hr:r<n):GJ V R.d m ((CK i (Cq R n c D) D).getD r []):=by
 by_cases hx:r<i
 ·rw[Ru [] hx (by simp[Cq];omega)];exact(h.rows hA hc hcm).row r hr
 ·rw[N3 h.len zO hr];exact h.row r hr
end
theorem VH (a:List (List Int))(b:List Int){i:Nat}(hi:i<a.length):(CK i (E6 a b) a).set i ((CK i (E6 a b) a).getD i []++[b.getD i 0])=CK (i+1) (E6 a b) a:=by
 unfold E6
 rw[Ek [] (by simp) (A9 _) hi,G4 rfl hi]
theorem Pp (a:List (List Int))(b:List Int){i:Nat}(hi:i<a.length):(CK i (E6 a b) a).getD i []=a.getD i []:=Ek [] (by simp[E6]) (A9 _) hi
theorem VI (a:List (List Int))(b:List Int)(i:Nat):(CK i (E6 a b) a).length=a.length:=EC _ _ _ (by simp[E6])
theorem Pq {a:List (List Int)}{b:List Int}{M:List (List Int)}(h:Iy a b=some M):Ji a b=M.map fun r=>r.getD a.length 0:=by
 unfold Ji MZ;rw[h];rfl
theorem QA {n c i:Nat}{D:List (List Int)}(hl:D.length=n)(hi:i<n)(hc:c<n)(hic:i≠c) :
  (CK i (Cq nA n c D) D).set i (OD ((CK i (Cq nA n c D) D).getD i []) ((CK i (Cq nA n c D) D).getD c []) (((CK i (Cq nA n c D) D).getD i []).getD c 0))=CK (i+1) (Cq nA n c D) D:=by
 rw[Qz hl zO hc,N3 hl (A9 _) hi]
 exact N1 (R:=nA) hl hi hic
theorem oB {c p:Nat}{M:List (List Int)}(hc:c<M.length)(hp:p<M.length):(Bv M c p []).set c (scl (M.getD p []) (inv ((M.getD p []).getD c 0)))=Gq nA c p M:=by
 unfold Gq
 rw[Mk hc hp];rfl
theorem N4 {a:List (List Int)}{b:List Int}(hS:Sq a.length a)(hb:B9 b=true)(h:Iy a b≠none):(Ji a b).length=a.length:=by
 obtain⟨M,hM⟩:=Option.ne_none_iff_exists'.1 h
 rw[Pq hM,zg]
 exact (Sh.jor Ph a.length 0 _ zO zO (H0 hS hb) hM).len
theorem QB {a:List (List Int)}{b:List Int}(hS:Sq a.length a)(hb:B9 b=true)(h:Iy a b≠none):B9 (Ji a b)=true:=by
 obtain⟨M,hM⟩:=Option.ne_none_iff_exists'.1 h
 have hs:=Sh.jor Ph a.length 0 _ zO zO (H0 hS hb) hM
 rw[Pq hM]
 unfold B9
 rw[zm]
 intro x hx
 obtain⟨r,hr,rfl⟩:=List.mem_map.1 hx
 obtain⟨k,hk,rfl⟩:=List.getElem_of_mem hr
 have:=(hs.row k (by rw[← hs.len];exact hk)).val a.length zO
 rw[show M.getD k []=M[k]from by simp[hk]]at this
 exact Ck.2 this
end
section
theorem N5 (a:List (List (List Int)))(b:List (List Int)){i:Nat}(hi:i<a.length):(Hq a b).getD i []=a.getD i []++[b.getD i []]:=Bx _ hi
theorem Us {a:List (List (List Int))}{b:List (List Int)}(h:CR a b=none):G6 a b=[]:=by
 unfold G6;rw[h];rfl
theorem Tb {a:List (List (List Int))}{b:List (List Int)}{M:List (List (List Int))}(h:CR a b=some M):G6 a b=M.map fun r=>r.getD a.length []:=by
 unfold G6;rw[h];rfl
theorem GJ.set {α:Type}{V:α→Prop}{d:α}{m k:Nat}{row:List α}{x:α}(h:GJ V d m row)(hx:V x):GJ V d m (row.set k x):=by
 refine⟨by rw[z6];exact h.len,fun j hj=>?_⟩
 by_cases hk:k<row.length
 ·rw[BK _ _ _ _ _ hk]
  split
  ·exact hx
  ·exact h.val j hj
 ·rw[List.set_eq_of_length_le (Nat.not_lt.1 hk)];exact h.val j hj
theorem Sh.put {α:Type}{V:α→Prop}{d:α}{n m r k:Nat}{M:List (List α)}{x:α}(h:Sh V d n m M)(hr:r<n)(hx:V x):Sh V d n m (M.set r ((M.getD r []).set k x)):=h.set hr ((h.row r hr).set hx)
section
variable {N n c k r:Nat} {X:List (List (List Int))}
def Ll (c k:Nat)(X:List (List (List Int))):List (List (List Int)):=X.set c (CK k (Es sA c (X.getD c [])) (X.getD c []))
theorem Ut (hc:c<X.length):Ll c 0 X=X:=by
 unfold Ll;rw[D8,Fq _ _ hc]
theorem fu (h:Sh (BN N) [] n (n+1) X)(hc:c<n)(hk:k<n+1):((Ll c k X).getD c []).getD k []=(X.getD c []).getD k []:=by
 have hl:=h.len
 have hr:=(h.row c hc).len
 unfold Ll
 rw[BK _ _ _ _ _ zO,if_pos rfl,Ek [] (by simp) (A9 _) (by omega)]
theorem Uu (h:Sh (BN N) [] n (n+1) X)(hc:c<n)(hk:k<n+1) :
  (Ll c k X).set c (((Ll c k X).getD c []).set k (C6 (((Ll c k X).getD c []).getD k []) ((X.getD c []).getD c [])))=Ll c (k+1) X:=by
 have hl:=h.len
 have hr:=(h.row c hc).len
 rw[fu h hc hk]
 unfold Ll
 rw[BK _ _ _ _ _ zO,if_pos rfl,List.set_set]
 congr 1
 have e:=Gr (R:=sA) (c:=c) (row:=X.getD c []) (k:=k) zO
 have e':C6 ((X.getD c []).getD k []) ((X.getD c []).getD c [])=(Es sA c (X.getD c [])).getD k []:=e.symm
 rw[e',Ku [] (by simp) (by omega)]
theorem Uv {M:List (List (List Int))}{p:Nat}(h:Sh (BN N) [] n (n+1) (Bv M c p []))(hc:c<n)(hk:n+1≤k):Ll c k (Bv M c p [])=Gq sA c p M:=by
 unfold Ll Gq
 have:=(h.row c hc).len
 rw[DS (by simp) (by omega)]
def Jj (c r k:Nat)(X:List (List (List Int))):List (List (List Int)):=X.set r (CK k (GI sA c (X.getD r []) (X.getD c [])) (X.getD r []))
theorem Uw (hr:r<X.length):Jj c r 0 X=X:=by
 unfold Jj;rw[D8,Fq _ _ hr]
theorem fv (hl:X.length=n)(hX:(X.getD r []).length=n+1)(hr:r<n)(hk:k<n+1):((Jj c r k X).getD r []).getD k []=(X.getD r []).getD k []:=by
 unfold Jj
 rw[BK _ _ _ _ _ zO,if_pos rfl,Ek [] (by simp) (A9 _) (by omega)]
theorem fw (hl:X.length=n)(hr:r<n)(hne:r≠c):(Jj c r k X).getD c []=X.getD c []:=by
 unfold Jj
 rw[BK _ _ _ _ _ zO,if_neg (Ne.symm hne)]
theorem Ux (hl:X.length=n)(hX:(X.getD r []).length=n+1)(hr:r<n)(hk:k<n+1)(hne:r≠c) :
  (Jj c r k X).set r (((Jj c r k X).getD r []).set k (DJ (((Jj c r k X).getD r []).getD k []) (Ci ((X.getD r []).getD c []) (((Jj c r k X).getD c []).getD k []))))=Jj c r (k+1) X:=by
 rw[fv hl hX hr hk,fw hl hr hne]
 unfold Jj
 rw[BK _ _ _ _ _ zO,if_pos rfl,List.set_set]
 congr 1
 have e:=Gt (R:=sA) (c:=c) (row:=X.getD r []) (other:=X.getD c []) (k:=k) zO
 have e':DJ ((X.getD r []).getD k []) (Ci ((X.getD r []).getD c []) ((X.getD c []).getD k []))=(GI sA c (X.getD r []) (X.getD c [])).getD k []:=e.symm
 rw[e',Ku [] (by simp) (by omega)]
theorem Uz {D:List (List (List Int))}(hl:D.length=n)(hD:(D.getD r []).length=n+1)(hr:r<n)(hc:c<n)(hne:r≠c)(hk:n+1≤k):Jj c r k (CK r (Cq sA n c D) D)=CK (r+1) (Cq sA n c D) D:=by
 unfold Jj
 rw[Qz hl zO hc,N3 hl (A9 _) hr]
 have e:=DS (k:=k) (t:=GI sA c (D.getD r [])<|D.getD c []) (z:=D.getD r []) (by simp) zO
 rw[e,N1 (R:=sA) hl hr hne]
end
end
theorem Lm {α β:Type}(h:α→β)(M:List (List α)):(mm h M).length=M.length:=by simp[mm]
theorem IB (b:List Int):(Cd b).length=b.length:=by simp[Cd]
theorem fy {α β:Type}(h:α→β)(M:List (List α))(r:Nat):((mm h M).getD r []).length=(M.getD r []).length:=by rw[EY,zg]
theorem VJ {n m:Nat}{M:List (List Int)}(h:Sh Nm 0 n m M):Sh (BN 1) [] n m (mm (fun x=>[x]) M):=by
 refine⟨by rw[Lm];exact h.len,fun r hr=>⟨by rw[fy];exact(h.row r hr).len,fun k hk=>?_⟩⟩
 rw[EY,B8 (d:=0) (by rw[(h.row r hr).len];exact hk)]
 refine⟨rfl,?_⟩
 have:=(h.row r hr).val k hk
 show([_]:List Int).all JX=true
 simp only[List.all_cons,List.all_nil,Bool.and_true]
 exact Ck.2 this
theorem QC (b:List Int){k:Nat}(hk:k<b.length):(Cd b).getD k []=[b.getD k 0]:=by
 unfold Cd;rw[B8 (d:=0) hk]
section
def EN (N:Nat)(f g:Nat→Int):Prop:=∀k,k<N→md (f k)=md (g k)
theorem EN.rfl' {N:Nat}(f:Nat→Int):EN N f f:=fun _ _=>rfl
theorem EN.symm {N:Nat}{f g:Nat→Int}(h:EN N f g):EN N g f:=fun k hk=>(h k hk).symm
theorem EN.trans {N:Nat}{f g h:Nat→Int}(h1:EN N f g)(h2:EN N g h):EN N f h:=fun k hk=>(h1 k hk).trans (h2 k hk)
theorem EN.cv {N:Nat}{f f' g g':Nat→Int}(hf:EN N f f')(hg:EN N g g'):EN N (cv f g) (Go.Proofs.YtbajepcpgncekaaGreat.cv f' g'):=fun k hk=>jJ (fun i hi=>hf i zO) (fun i hi=>hg i zO)
theorem EN.sub {N:Nat}{f f' g g':Nat→Int}(hf:EN N f f')(hg:EN N g g'):EN N (fun k=>f k-g k) (fun k=>f' k-g' k):=fun k hk=>by rw[← EB,hf k hk,hg k hk,EB]
theorem EN.sm {N n:Nat}{F G:Nat→Nat→Int}(h:∀j,j<n→EN N (F j) (G j)):EN N (fun k=>sm n fun j=>F j k) (fun k=>Go.Proofs.YtbajepcpgncekaaGreat.sm n fun j=>G j k):=fun k hk=>N0 fun j hj=>h j hj k hk
def C0 (s:List Int):Nat→Int:=fun i=>s.getD i 0
def QD:Nat→Int:=fun i=>if i=0 then 1 else 0
def Hr:Nat→Int:=fun _=>0
theorem DT (g:Nat→Int):∀k,cv Hr g k=0
 |0=>by unfold cv Hr;rw[Int.zero_mul]
 |k+1=>by
  unfold cv
  show 0*g (k+1)+cv Hr g k=0
  rw[DT g k,Int.zero_mul];rfl
theorem Pr (g:Nat→Int):∀k,cv QD g k=g k
 |0=>by unfold cv QD;simp
 |k+1=>by
  unfold cv
  show QD 0*g (k+1)+cv Hr g k=g (k+1)
  rw[DT];simp[QD]
theorem Rz (F:Nat→Nat→Int)(g:Nat→Int)(k:Nat):∀n,cv (fun i=>sm n fun j=>F j i) g k=sm n fun j=>cv (F j) g k
 |0=>DT g k
 |n+1=>by
  show cv (fun i=>(sm n fun j=>F j i)+F n i) g k=(sm n fun j=>cv (F j) g k)+cv (F n) g k
  rw[Kz,Rz F g k n]
theorem fz (f:Nat→Int)(F:Nat→Nat→Int)(k n:Nat):cv f (fun i=>sm n fun j=>F j i) k=sm n fun j=>cv f (F j) k:=by
 rw[CF,Rz]
 exact Cm fun j _=>CF _ _ _
theorem Ps (f f' g:Nat→Int)(k:Nat):cv (fun i=>f i-f' i) g k=cv f g k-cv f' g k:=by
 have e:(fun i=>f i-f' i)=fun i=>f i+(-1)*f' i:=funext fun i=>by omega
 rw[e,Kz,KA];omega
theorem fA (f g:Nat→Int)(n:Nat):sm n (fun i=>f i-g i)=sm n f-sm n g:=by
 have e:(fun i=>f i-g i)=fun i=>f i+(-1)*g i:=funext fun i=>by omega
 rw[e,Ry,VF];omega
section ops
variable {N:Nat} {a b:List Int}
theorem RA (ha:BN N a):EN N (C0 (Ci a b)) (cv (C0 a) (C0 b)):=fun k hk=>by
 show md ((Ci a b).getD k 0)=_
 rw[Zz (by rw[ha.1];exact hk),FE];rfl
theorem VL (ha:BN N a):EN N (C0 (DJ a b)) (fun k=>C0 a k-C0 b k):=fun k hk=>by
 show md ((DJ a b).getD k 0)=_
 unfold DJ
 rw[Bx _ (by rw[ha.1];exact hk),FE];rfl
theorem VN (a b o:List Int)(k:Nat):∀i,md (Pj a b o k i)=md (a.getD k 0-sm i fun j=>o.getD j 0*b.getD (k-j) 0)
 |0=>by unfold Pj sm;rw[Int.sub_zero]
 |i+1=>by
  unfold Pj sm
  rw[FE,← SN,VN a b o k i,SN]
  congr 1;omega
theorem VO (ha:BN N a)(hb:BN N b)(hz:b.getD 0 0≠0):EN N (cv (C0 (C6 a b)) (C0 b)) (C0 a):=fun k hk=>by
 have hb0:=Bg hb.2 0
 have hi:=T7 (a:=b.getD 0 0) zO zO
 rw[LT]
 show md (sm k _+C0 (C6 a b) k*C0 b (k-k))=md (a.getD k 0)
 rw[Nat.sub_self]
 show md ((sm k fun i=>(C6 a b).getD i 0*b.getD (k-i) 0)+(C6 a b).getD k 0*b.getD 0 0)=_
 rw[Kx (by rw[ha.1];exact hk),← GO,Fm]
 generalize hS:(sm k fun i=>(C6 a b).getD i 0*b.getD (k-i) 0)=S
 have h1:=VN a b (C6 a b) k k
 rw[hS]at h1
 rw[Int.mul_assoc,← Du,h1,Int.mul_comm (inv _),hi,Int.mul_one,FE,GO]
 congr 1;omega
theorem HR {s t d:Nat→Int}(hd:∃e:Int,md (d 0*e)=1)(h:EN N (cv s d) (cv t d)):EN N s t:=by
 obtain⟨e,he⟩:=hd
 have key:∀m k,k≤m→k<N→md (s k)=md (t k):=by
  intro m
  induction m with
  |zero =>
   intro k hk hN
   have e0:k=0:=by omega
   subst e0
   have h0:=h 0 hN
   have h1:md (s 0*d 0)=md (t 0*d 0):=h0
   have h2:md (s 0*d 0*e)=md (t 0*d 0*e):=by rw[← Fm,h1,Fm]
   rw[Int.mul_assoc,Int.mul_assoc,← Fp,he,← Fp (t 0),he,Int.mul_one,Int.mul_one]at h2
   exact h2
  |succ m ih =>
   intro k hk hN
   by_cases hkm:k≤m
   ·exact ih k hkm hN
   ·have h0:=h k hN
    rw[LT,LT]at h0
    have h1:md ((sm k fun i=>s i*d (k-i))+s k*d (k-k))=md ((sm k fun i=>t i*d (k-i))+t k*d (k-k)):=h0
    have h2:md (sm k fun i=>s i*d (k-i))=md (sm k fun i=>t i*d (k-i)):=N0 fun i hi=>by rw[← Fm,ih i zO zO,Fm]
    rw[Nat.sub_self]at h1
    have h3:md (s k*d 0)=md (t k*d 0):=by
     have e1:s k*d 0=((sm k fun i=>s i*d (k-i))+s k*d 0)-(sm k fun i=>s i*d (k-i)):=by omega
     have e2:t k*d 0=((sm k fun i=>t i*d (k-i))+t k*d 0)-(sm k fun i=>t i*d (k-i)):=by omega
     rw[e1,e2,← EB,h1,h2,EB]
    have h4:md (s k*d 0*e)=md (t k*d 0*e):=by rw[← Fm,h3,Fm]
    rw[Int.mul_assoc,Int.mul_assoc,← Fp,he,← Fp (t k),he,Int.mul_one,Int.mul_one]at h4
    exact h4
 exact fun k hk=>key k k (A9 _) hk
theorem Pt (hb:BN N b)(hz:b.getD 0 0≠0):∃e:Int,md (C0 b 0*e)=1:=by
 have hb0:=Bg hb.2 0
 exact⟨inv (b.getD 0 0),T7 (a:=b.getD 0 0) zO zO⟩
end ops
section sys
variable {N n c p:Nat} {v:Nat→Nat→Int}
def Dv (n:Nat)(v:Nat→Nat→Int)(row:List (List Int)):Nat→Int:=fun k=>sm n fun j=>cv (C0 (row.getD j [])) (v j) k
def IC (N n:Nat)(v:Nat→Nat→Int)(row:List (List Int)):Prop:=EN N (Dv n v row) (C0 (row.getD n []))
def UA (N n:Nat)(v:Nat→Nat→Int)(M:List (List (List Int))):Prop:=∀r,r<n→IC N n v (M.getD r [])
theorem jK {row:List (List Int)}(h:GJ (BN N) [] (n+1) row)(hc:c<n)(hz:(row.getD c []).getD 0 0≠0):IC N n v row↔IC N n v (Es sA c row):=by
 have hd:=h.val c zO
 have hg:∀j,j<n+1→(Es sA c row).getD j []=C6 (row.getD j []) (row.getD c []):=fun j hj=>Gr (R:=sA) (by rw[h.len];exact hj)
 have hq:∀j,j<n+1→EN N (cv (C0 ((Es sA c row).getD j [])) (C0 (row.getD c []))) (C0 (row.getD j [])):=fun j hj=>by
  rw[hg j hj];exact VO (h.val j hj) hd hz
 have key:EN N (cv (Dv n v (Es sA c row)) (C0 (row.getD c []))) (Dv n v row):=by
  have e:cv (Dv n v (Es sA c row)) (C0 (row.getD c []))=fun k=>sm n fun j=>cv (cv (C0 ((Es sA c row).getD j [])) (C0 (row.getD c []))) (v j) k:=by
   funext k
   unfold Dv
   rw[Rz]
   refine Cm fun j _=>?_
   rw[FI,FI]
   exact Qu (fun _ _=>rfl) fun i _=>CF _ _ i
  rw[e]
  exact EN.sm fun j hj=>(hq j zO).cv<|EN.rfl' _
 have hn:=hq n zO
 constructor
 ·intro hs
  exact HR (Pt hd hz)<|key.trans<|EN.trans hs hn.symm
 ·intro hs
  exact key.symm.trans<|EN.trans (EN.cv hs<|EN.rfl' _) hn
theorem Tc {row other:List (List Int)}(h:GJ (BN N) [] (n+1) row)(ho:GJ (BN N) [] (n+1) other)(hc:c<n)(hs:IC N n v other):IC N n v row↔IC N n v (GI sA c row other):=by
 have hf:=h.val c zO
 have hg:∀j,j<n+1→(GI sA c row other).getD j []=DJ (row.getD j []) (Ci (row.getD c []) (other.getD j [])):=fun j hj=>Gt (R:=sA) (by rw[h.len];exact hj)
 have ht:∀j,j<n+1→EN N (C0 ((GI sA c row other).getD j [])) (fun k=>C0 (row.getD j []) k-cv (C0 (row.getD c [])) (C0 (other.getD j [])) k):=fun j hj=>by
  rw[hg j hj]
  exact (VL<|h.val j hj).trans<|EN.sub (EN.rfl' _)<|RA hf
 have key:EN N (Dv n v (GI sA c row other)) (fun k=>Dv n v row k-cv (C0 (row.getD c [])) (Dv n v other) k):=by
  have e:(fun k=>Dv n v row k-cv (C0 (row.getD c [])) (Dv n v other) k)=fun k=>sm n fun j=>cv (fun i=>C0 (row.getD j []) i-cv (C0 (row.getD c [])) (C0 (other.getD j [])) i) (v j) k:=by
   funext k
   unfold Dv
   rw[fz,← fA]
   refine Cm fun j _=>?_
   rw[Ps,FI]
  rw[e]
  exact EN.sm fun j hj=>(ht j zO).cv<|EN.rfl' _
 have hn:=ht n zO
 have hco:EN N (cv (C0 (row.getD c [])) (Dv n v other)) (cv (C0 (row.getD c [])) (C0 (other.getD n []))):=EN.cv (EN.rfl' _) hs
 constructor
 ·intro hr
  exact key.trans<|EN.trans (EN.sub hr hco) hn.symm
 ·intro hr k hk
  have h1:=(key.symm.trans<|EN.trans hr hn) k hk
  have h2:=hco k hk
  dsimp only at h1
  have e1:Dv n v row k=(Dv n v row k-cv (C0 (row.getD c [])) (Dv n v other) k)+cv (C0 (row.getD c [])) (Dv n v other) k:=by omega
  rw[e1,← Ej,h1,h2,Ej]
  congr 1;omega
theorem VP {M:List (List (List Int))}(h:Sh (BN N) [] n (n+1) M)(hc:c<n)(hp:p<n)(hz:((M.getD p []).getD c []).getD 0 0≠0):UA N n v M↔UA N n v (Hl sA n c p M):=by
 have hq:=jK (v:=v) (h.row p hp) hc hz
 have hqv:GJ (BN N) [] (n+1) (Es sA c (M.getD p [])):=(h.row p hp).q (Rw N) zO
 constructor
 ·intro hs r hr
  rw[En h hc hp hr]
  have hc':=hq.1 (hs p hp)
  split
  ·exact hc'
  ·split
   ·exact (Tc (h.row c hc) hqv hc hc').1 (hs c hc)
   ·exact (Tc (h.row r hr) hqv hc hc').1 (hs r hr)
 ·intro hs r hr
  have hc':IC N n v (Es sA c (M.getD p [])):=by
   have:=hs c hc
   rwa [En h hc hp hc,if_pos rfl]at this
  have hp':=hq.2 hc'
  by_cases hrp:r=p
  ·rw[hrp];exact hp'
  ·by_cases hrc:r=c
   ·have hpc:p≠c:=fun e=>hrp (hrc.trans e.symm)
    have:=hs p hp
    rw[En h hc hp hp,if_neg hpc,if_pos rfl]at this
    rw[hrc]
    exact (Tc (h.row c hc) hqv hc hc').2 this
   ·have:=hs r hr
    rw[En h hc hp hr,if_neg hrc,if_neg hrp]at this
    exact (Tc (h.row r hr) hqv hc hc').2 this
def Hs (r j:Nat):Nat→Int:=if r=j then QD else Hr
def jL (N n c:Nat)(M:List (List (List Int))):Prop:=∀r,r<n→∀j,j<c→EN N (C0 ((M.getD r []).getD j [])) (Hs r j)
theorem VQ {M:List (List (List Int))}(h:Sh (BN N) [] n (n+1) M)(hI:jL N n c M)(hc:c<n)(hp:p<n)(hcp:c≤p)(hz:((M.getD p []).getD c []).getD 0 0≠0):jL N n (c+1) (Hl sA n c p M):=by
 have hpr:=h.row p hp
 have hd:=hpr.val c zO
 have hu:=Pt hd hz
 have hg:∀j,j<n+1→(Es sA c (M.getD p [])).getD j []=C6 ((M.getD p []).getD j []) ((M.getD p []).getD c []):=fun j hj=>Gr (R:=sA) (by rw[hpr.len];exact hj)
 have hq:∀j,j<n+1→EN N (cv (C0 ((Es sA c (M.getD p [])).getD j [])) (C0 ((M.getD p []).getD c []))) (C0 ((M.getD p []).getD j [])):=fun j hj=>by
  rw[hg j hj];exact VO (hpr.val j hj) hd hz
 have hrow:∀j,j<c+1→EN N (C0 ((Es sA c (M.getD p [])).getD j [])) (Hs c j):=by
  intro j hj
  by_cases e:c=j
  ·subst e
   unfold Hs;rw[if_pos rfl]
   exact HR hu ((hq c zO).trans fun k _=>by rw[Pr])
  ·unfold Hs;rw[if_neg e]
   have h0:=hI p hp j zO
   unfold Hs at h0;rw[if_neg (by omega)]at h0
   exact HR hu<|(hq j zO).trans (h0.trans fun k _=>by rw[DT];rfl)
 intro r hr j hj
 rw[En h hc hp hr]
 by_cases hrc:r=c
 ·rw[if_pos hrc,hrc];exact hrow j hj
 ·rw[if_neg hrc]
  have gen:∀X:List (List Int),GJ (BN N) [] (n+1) X→(j<c→EN N (C0 (X.getD j [])) (Hs r j))→EN N (C0 ((GI sA c X (Es sA c (M.getD p []))).getD j [])) (Hs r j):=by
   intro X hX hXj
   have e:=Gt (R:=sA) (c:=c) (row:=X) (other:=Es sA c<|M.getD p []) (k:=j) (by rw[hX.len];omega)
   have e':(GI sA c X (Es sA c (M.getD p []))).getD j []=DJ (X.getD j []) (Ci (X.getD c []) ((Es sA c (M.getD p [])).getD j [])):=e
   rw[e']
   have h1:=(VL (b:=Ci (X.getD c [])<|(Es sA c<|M.getD p []).getD j [])<|hX.val j zO).trans<|EN.sub (EN.rfl' _)<|RA (b:=(Es sA c<|M.getD p []).getD j [])<|hX.val c zO
   have h2:=h1.trans<|EN.sub (EN.rfl' _)<|EN.cv (EN.rfl' _)<|hrow j hj
   by_cases hjc:j=c
   ·subst hjc
    refine h2.trans fun k hk=>?_
    unfold Hs
    rw[if_pos rfl,if_neg hrc]
    have:cv (C0 (X.getD j [])) QD k=C0 (X.getD j []) k:=by rw[CF,Pr]
    dsimp only
    rw[this,Int.sub_self];rfl
   ·refine (h2.trans fun k hk=>?_).trans<|hXj zO
    unfold Hs
    rw[if_neg (Ne.symm hjc)]
    have:cv (C0 (X.getD c [])) Hr k=0:=by rw[CF,DT]
    rw[this,Int.sub_zero]
  split
  ·rename_i hrp
   refine gen _ (h.row c hc) fun hjc=>?_
   have h0:=hI c hc j hjc
   unfold Hs at h0 ⊢
   rw[if_neg (by omega)]at h0
   rw[if_neg (by omega)];exact h0
  ·exact gen _ (h.row r hr) fun hjc=>hI r hr j hjc
theorem Td:∀(l c:Nat)(M:List (List (List Int))),c+l=n→Sh (BN N) [] n (n+1) M→jL N n c M→∀ {M':List (List (List Int))},O3 sA n l c M=some M'→(jL N n n M'∧Sh (BN N) [] n (n+1) M'∧(UA N n v M↔UA N n v M'))
 |0,c,M,hl,h,hI,M',e=>by
  cases e
  have:c=n:=by omega
  subst this
  exact⟨hI,h,Iff.rfl⟩
 |l+1,c,M,hl,h,hI,M',e=>by
  unfold O3 at e
  split at e
  ·cases e
  ·rename_i hp
   obtain⟨h1,h2,h3⟩:=Lj sA hp zO
   have hz:((M.getD (HF sA n c M) []).getD c []).getD 0 0≠0:=by simpa [sA]using h3
   obtain⟨q1,q2,q3⟩:=Td l (c+1) _ zO (h.step (Rw N) zO h2 zO) (VQ h hI zO h2 h1 hz) e
   exact⟨q1,q2,(VP h zO h2 hz).trans q3⟩
theorem KC (r:Nat)(g:Nat→Int):∀m,(sm m fun j=>if r=j then g j else 0)=if r<m then g r else 0
 |0=>by unfold sm;simp
 |m+1=>by
  unfold sm
  rw[KC r g m]
  by_cases h1:r<m
  ·rw[if_pos h1,if_neg zO,if_pos (by omega)];omega
  ·by_cases h2:r=m
   ·subst h2;rw[if_neg h1,if_pos rfl,if_pos (by omega)];omega
   ·rw[if_neg h1,if_neg h2,if_neg (by omega)];rfl
theorem ZB {M:List (List (List Int))}(hI:jL N n n M):UA N n v M↔∀r,r<n→EN N (v r) (C0 ((M.getD r []).getD n [])):=by
 have key:∀r,r<n→EN N (Dv n v (M.getD r [])) (v r):=by
  intro r hr
  have h1:EN N (Dv n v (M.getD r [])) (fun k=>sm n fun j=>cv (Hs r j) (v j) k):=EN.sm fun j hj=>(hI r hr j hj).cv (EN.rfl' _)
  refine h1.trans fun k hk=>?_
  have e:(sm n fun j=>cv (Hs r j) (v j) k)=sm n fun j=>if r=j then v j k else 0:=Cm fun j _=>by
   unfold Hs
   split
   ·rw[Pr]
   ·rw[DT]
  dsimp only
  rw[e,KC r (fun j=>v j k) n,if_pos hr]
 constructor
 ·exact fun hs r hr=>(key r hr).symm.trans<|hs r hr
 ·exact fun hs r hr=>(key r hr).trans<|hs r hr
theorem N6 {a:List (List (List Int))}{b:List (List Int)}(hA:Sh (BN N) [] a.length (a.length+1) (Hq a b))(hs:CR a b≠none) :
  UA N a.length v (Hq a b)↔∀r,r<a.length→EN N (v r) (C0 ((G6 a b).getD r [])):=by
 obtain⟨M,hM⟩:=Option.ne_none_iff_exists'.1 hs
 obtain⟨q1,q2,q3⟩:=Td (v:=v) a.length 0 _ zO hA (fun r hr j hj=>by omega) hM
 rw[q3,ZB q1,show G6 a b=MZ a.length [] M from by unfold G6;rw[hM];rfl]
 have hl:=q2.len
 have e:∀r,r<a.length→(MZ a.length [] M).getD r []=(M.getD r []).getD a.length []:=fun r hr=>by
  unfold MZ
  rw[B8 (d:=[]) (by omega)]
 constructor
 ·exact fun h r hr=>by rw[e r hr];exact h r hr
 ·exact fun h r hr=>by have:=h r hr;rwa [e r hr]at this
end sys
theorem QE {a:List (List Int)}{b:List Int}(hS:Sq a.length a)(hl:b.length=a.length)(hb:B9 b=true)(hs:Iy a b≠none){r:Nat}(hr:r<a.length) :
  md (sm a.length fun j=>(a.getD r []).getD j 0*(Ji a b).getD j 0)=b.getD r 0:=by
 have hA:Sh (BN 1) [] (mm (fun x:Int=>[x]) a).length ((mm (fun x:Int=>[x]) a).length+1) (Hq (mm (fun x=>[x]) a) (Cd b)):=by
  rw[Ky hS hl,Lm];exact VJ (H0 hS hb)
 have hj:CR (mm (fun x=>[x]) a) (Cd b)≠none:=by
  rw[Pk hS hl hb]
  obtain⟨M,hM⟩:=Option.ne_none_iff_exists'.1 hs
  rw[hM];simp
 have h:=(N6 (v:=fun j=>C0<|(G6 (mm (fun x=>[x]) a)<|Cd b).getD j []) hA hj).2 (fun r hr=>EN.rfl' _)
 rw[Lm]at h
 have h0:=h r hr 0 zO
 rw[T5 hS hl hb hs]at h0
 have hln:=N4 hS hb hs
 unfold Dv at h0
 rw[Ky hS hl,EY]at h0
 have hrow:=(H0 hS hb).row r hr
 have hrl:=hrow.len
 have e1:(sm a.length fun j=>cv (C0 ((((E6 a b).getD r []).map fun x:Int=>[x]).getD j [])) (C0 ((Cd (Ji a b)).getD j [])) 0)=sm a.length fun j=>(a.getD r []).getD j 0*(Ji a b).getD j 0:=by
  refine Cm fun j hj'=>?_
  rw[B8 (d:=0) zO,QC _ zO,← Pi (b:=b) hS r (Nat.zero_le _) hr j hj']
  rfl
 have e2:C0 ((((E6 a b).getD r []).map fun x:Int=>[x]).getD a.length []) 0=b.getD r 0:=by
  rw[B8 (d:=0) (by omega)]
  unfold E6
  rw[Bx _ hr,Hk (by rw[hS.row r hr];omega),hS.row r hr,Nat.sub_self]
  rfl
 rw[e1,e2]at h0
 rw[h0]
 have:=Bg hb r
 exact Jv this.1 this.2
end
def uN (n k:Nat):List Int:=(List.replicate n 0).set k 1
section
theorem D9 {α:Type}{l:List α}{j:Nat}{d:α}(h:j<l.length):l.getD j d=l[j]:=by simp[h]
def Zk (s:List Int):Bool:=(decide (((1:Nat):Int)≤((s.length:Nat):Int)) && decide (((s.length:Nat):Int)≤((13:Nat):Int))) && B9 s
theorem Pu {s:List Int}:Zk s=true↔(1≤s.length∧s.length≤13)∧B9 s=true:=by
 unfold Zk
 simp only[z7,decide_eq_true_eq]
 constructor
 ·rintro⟨⟨h1,h2⟩,h3⟩;exact⟨⟨zO,zO⟩,h3⟩
 ·rintro⟨⟨h1,h2⟩,h3⟩;exact⟨⟨zO,zO⟩,h3⟩
def O9 (N:Nat)(s:List Int):Bool:=Zk s && decide (s.length=N)
structure ID (a:List (List (List Int)))(b:List (List Int))(N:Nat):Prop where
 n6:a.length≤6
 bl:b.length=a.length
 row:∀r,r<a.length→(a.getD r []).length=a.length
 ser:∀r j,r<a.length→j<a.length→BN N ((a.getD r []).getD j [])
 bser:∀r,r<a.length→BN N (b.getD r [])
 n1:1≤N
 n13:N≤13
theorem ID.sh {a:List (List (List Int))}{b:List (List Int)}{N:Nat}(h:ID a b N):Sh (BN N) [] a.length (a.length+1) (Hq a b):=by
 refine⟨by simp[Hq],fun r hr=>?_⟩
 unfold Hq
 rw[Bx _ hr]
 have hl:=h.row r hr
 refine⟨by rw[z4,hl];rfl,fun k hk=>?_⟩
 by_cases e:k<a.length
 ·rw[Kw (by omega)];exact h.ser r k hr e
 ·rw[Hk zO,show k-(a.getD r []).length=0 from by omega];exact h.bser r hr
def Qe (y:List (List Int)):List Int:=y.map fun s=>s.getD 0 0
def IE (a:List (List (List Int))):List (List Int):=a.map Qe
theorem ZC {N:Nat}(hN:1≤N):Rv sA nA (BN N) (fun s=>s.getD 0 0) where
 q x y hx _:=by
  show(C6 x y).getD 0 0=md (x.getD 0 0*inv (y.getD 0 0))
  rw[Kx (by rw[hx.1];omega)];rfl
 t x y w hx hy _:=by
  show(DJ x (Ci y w)).getD 0 0=md (x.getD 0 0-md (y.getD 0 0*w.getD 0 0))
  unfold DJ
  rw[Bx _ (by rw[hx.1];omega)]
  unfold Ci
  rw[Bx _ (by rw[hy.1];omega)]
  show md (x.getD 0 0-md (0+y.getD 0 0*w.getD 0 0))=_
  rw[Int.zero_add]
 z x _:=rfl
section
variable {a:List (List (List Int))} {b:List (List Int)} {N:Nat}
theorem Pv (y:List (List Int)):(Qe y).length=y.length:=by simp[Qe]
theorem EF (a:List (List (List Int))):(IE a).length=a.length:=by simp[IE]
theorem Ht (a:List (List (List Int)))(r:Nat):(IE a).getD r []=Qe (a.getD r []):=EY (h:=fun s:List Int=>s.getD 0 0) (M:=a) r
theorem ID.sq (h:ID a b N):Sq a.length (IE a):=by
 have num:∀r,B9 (Qe (a.getD r []))=true:=by
  intro r
  by_cases hr:r<a.length
  ·unfold B9 Qe
   rw[zm]
   intro x hx
   obtain⟨s,hs,rfl⟩:=List.mem_map.1 hx
   obtain⟨j,hj,rfl⟩:=List.getElem_of_mem hs
   have h1:=h.ser r j hr (by rw[← h.row r hr];exact hj)
   rw[D9 hj]at h1
   exact Ck.2<|Bg h1.2 0
  ·rw[show a.getD r []=[]from by simp[Nat.not_lt.1 hr]];rfl
 exact⟨EF a,fun r hr=>by rw[Ht,Pv];exact h.row r hr,fun r=>by rw[Ht];exact num r⟩
theorem ID.sq' (h:ID a b N):Sq (IE a).length (IE a):=by rw[EF];exact h.sq
theorem ID.bnum (h:ID a b N):B9 (Qe b)=true:=by
 unfold B9 Qe
 rw[zm]
 intro x hx
 obtain⟨s,hs,rfl⟩:=List.mem_map.1 hx
 obtain⟨j,hj,rfl⟩:=List.getElem_of_mem hs
 have h1:=h.bser j (by rw[← h.bl];exact hj)
 rw[show b.getD j []=b[j]from by simp[hj]]at h1
 exact Ck.2<|Bg h1.2 0
theorem ZD (h:ID a b N):mm (fun s:List Int=>s.getD 0 0) (Hq a b)=E6 (IE a) (Qe b):=by
 refine MY (n:=a.length) (by rw[Lm];simp[Hq]) (by simp[E6,EF]) fun r hr=>?_
 rw[EY]
 unfold Hq E6
 rw[Bx _ hr,Bx _ (by rw[EF];exact hr),List.map_append,Ht]
 congr 1
 have hb:=h.bl
 show [(b.getD r []).getD 0 0]=[(Qe b).getD r 0]
 unfold Qe
 rw[B8 (d:=[]) (by omega)]
theorem ID.jor (h:ID a b N):CR a b=none↔DD (IE a)=0:=by
 rw[Iz (b:=Qe b) h.sq' h.bnum]
 have e:=(ZC h.n1).jor (Rw N) a.length 0 (Hq a b) zO zO h.sh
 rw[ZD h]at e
 unfold Iy
 rw[EF,e]
 unfold CR
 simp
theorem QF (h:ID a b N)(hs:CR a b≠none):(G6 a b).length=a.length∧∀r,r<a.length→BN N ((G6 a b).getD r []):=by
 obtain⟨M,hM⟩:=Option.ne_none_iff_exists'.1 hs
 have hsh:=Sh.jor (Rw N) a.length 0 _ zO zO h.sh hM
 have hl:=hsh.len
 rw[Tb hM]
 refine⟨by simp[hl],fun r hr=>?_⟩
 rw[B8 (d:=[]) (by omega)]
 exact (hsh.row r hr).val a.length zO
end
def Ln (xs:List (List Int)):Bool:=xs.all (O9 (xs.getD 0 []).length)
theorem VS {a:List (List (List Int))}{b:List (List Int)}{N:Nat}(h:ID a b N):(CR a b).isSome = !decide (DD (IE a)=0):=by
 have hj:=h.jor
 by_cases hd:DD (IE a)=0
 ·rw[hj.2 hd];simp[hd]
 ·obtain⟨M,hM⟩:=Option.ne_none_iff_exists'.1 (fun hn=>hd (hj.1 hn))
  rw[hM];simp[hd]
end
abbrev Sr:=List Int
def cst (n:Nat)(x:Int):Sr:=(List.replicate n 0).set 0 x
inductive Rs (α:Type) where
 |ok (x:α) (s:Nat)
 |err (c:Int)
structure Ca where
 one:Nat→Nat→List Sr→Nat→Rs Sr
 all:Nat→List Sr→Nat→Rs (List Sr)
def Rs.bind {α β:Type}(r:Rs α)(f:α→Nat→Rs β):Rs β:=match r with
 |.ok x s=>f x s
 |.err c=>.err c
theorem Rs.bind_ok {α β:Type}(x:α)(s:Nat)(f:α→Nat→Rs β):(Rs.ok x s).bind f=f x s:=rfl
theorem Rs.bind_err {α β:Type}(c:Int)(f:α→Nat→Rs β):(Rs.err c:Rs α).bind f=.err c:=rfl
theorem Rs.bind_assoc {α β γ:Type}(r:Rs α)(f:α→Nat→Rs β)(h:β→Nat→Rs γ):(r.bind f).bind h=r.bind fun x s=>(f x s).bind h:=by cases r <;> rfl
def Ml (f:List Sr→Nat→Rs (List Sr)):Nat→List Sr→Nat→Rs (List Sr)
 |0,a,s=>.ok a s
 |k+1,a,s=>(Ml f k a s).bind f
def Mm (k:Int)(xs:List Sr)(t:Nat):Rs Sr :=
 if k=3 then .ok (EE (xs.getD 0 []) (xs.getD 1 [])) t
 else if k=4 then .ok (DJ (xs.getD 0 []) (xs.getD 1 [])) t
 else if k=5 then .ok (Ci (xs.getD 0 []) (xs.getD 1 [])) t
 else if k=7 then .ok (CX (xs.getD 0 []) 1000002) t
 else if (xs.getD 1 []).getD 0 0=0 then .err 6 else .ok (C6 (xs.getD 0 []) (xs.getD 1 [])) t
mutual
def Eo (n:Nat)(C:Ca):Ex→List Sr→Nat→Rs Sr
 |.mk k num pick cnt l,env,s =>
  if 3000≤s then .err 7
  else if k=1 then .ok (cst n num) (s+1)
  else if k=2 then .ok (env.getD num.toNat []) (s+1)
  else if k=8 then(Jy n C l 0 env (s+1)).bind fun x t=>if x.getD 0 0=0 then Jy n C l 1 env t else Jy n C l 2 env t
  else if k=9 then(Jy n C l 0 env (s+1)).bind fun x t=>Jy n C l 1 (env++[x]) t
  else(Eb n C l env (s+1)).bind fun xs t =>
   if k=10 then C.one num.toNat pick.toNat xs t
   else if k=11 then(Ml (C.all num.toNat) cnt.toNat xs t).bind fun ys u=>.ok (ys.getD pick.toNat []) u
   else Mm k xs t
def Jy (n:Nat)(C:Ca):List Ex→Nat→List Sr→Nat→Rs Sr
 |[],_,_,_=>.err 0
 |e::_,0,env,s=>Eo n C e env s
 |_::l,j+1,env,s=>Jy n C l j env s
def Eb (n:Nat)(C:Ca):List Ex→List Sr→Nat→Rs (List Sr)
 |[],_,s=>.ok [] s
 |e::l,env,s=>(Eo n C e env s).bind fun x t=>(Eb n C l env t).bind fun xs u=>.ok (x::xs) u
end
theorem E0 (n:Nat)(C:Ca)(env:List Sr)(s:Nat):∀(l:List Ex)(j:Nat),j<l.length→Jy n C l j env s=Eo n C (l.getD j Ex.zero) env s
 |[],j,h=>by simp at h
 |e::l,0,_=>by rw[Jy];rfl
 |e::l,j+1,h=>by rw[Jy,E0 n C env s l j (by simpa using h)];simp
theorem QG (n:Nat)(C:Ca)(env:List Sr)(e:Ex):∀(l:List Ex)(s:Nat),Eb n C (l++[e]) env s=(Eb n C l env s).bind fun xs t=>(Eo n C e env t).bind fun x u=>.ok (xs++[x]) u
 |[],s=>by
  rw[zl,Eb,Eb]
  simp only[Rs.bind_ok]
  cases Eo n C e env s <;> simp only[Rs.bind_ok,Rs.bind_err,Eb] <;> rfl
 |a::l,s=>by
  rw[List.cons_append,Eb,Eb]
  cases Eo n C a env s with
  |err c=>rfl
  |ok x t =>
   simp only[Rs.bind_ok]
   rw[QG n C env e l t]
   simp only[Rs.bind_assoc]
   cases Eb n C l env t with
   |err c=>rfl
   |ok xs u =>
    simp only[Rs.bind_ok]
    cases Eo n C e env u <;> rfl
theorem VT {n:Nat}{C:Ca}{env:List Sr}{s:Nat}{l:List Ex}{k:Nat}(hk:k<l.length):Eb n C (l.take (k+1)) env s=(Eb n C (l.take k) env s).bind fun xs t=>(Eo n C (l.getD k Ex.zero) env t).bind fun x u=>.ok (xs++[x]) u:=by
 rw[List.take_succ_eq_append_getElem hk,QG]
 simp[hk]
theorem FO (n:Nat)(C:Ca)(e:Ex)(env:List Sr)(s:Nat):Eo n C e env s =
  if 3000≤s then .err 7
  else if e.kind=1 then .ok (cst n e.num) (s+1)
  else if e.kind=2 then .ok (env.getD e.num.toNat []) (s+1)
  else if e.kind=8 then(Jy n C e.kids 0 env (s+1)).bind fun x t=>if x.getD 0 0=0 then Jy n C e.kids 1 env t else Jy n C e.kids 2 env t
  else if e.kind=9 then(Jy n C e.kids 0 env (s+1)).bind fun x t=>Jy n C e.kids 1 (env++[x]) t
  else(Eb n C e.kids env (s+1)).bind fun xs t =>
   if e.kind=10 then C.one e.num.toNat e.pick.toNat xs t
   else if e.kind=11 then(Ml (C.all e.num.toNat) e.count.toNat xs t).bind fun ys u=>.ok (ys.getD e.pick.toNat []) u
   else Mm e.kind xs t:=by cases e;rw[Eo];rfl
def Hc (p:List Fn)(n:Nat):Nat→Ca
 |0=>⟨fun _ _ _ _=>.err 0,fun _ _ _=>.err 0⟩
 |k+1=>⟨fun f j a s=>if f=k then Eo n (Hc p n k) ((p.getD k Fn.zero).outs.getD j Ex.zero) a s else(Hc p n k).one f j a s,
   fun f a s=>if f=k then Eb n (Hc p n k) (p.getD k Fn.zero).outs a s else(Hc p n k).all f a s⟩
theorem Te {p:List Fn}{n f j:Nat}{a:List Sr}{s:Nat}:∀ {F:Nat},f<F→(Hc p n F).one f j a s=Eo n (Hc p n f) ((p.getD f Fn.zero).outs.getD j Ex.zero) a s
 |0,h=>by omega
 |F+1,h=>by
  show(if f=F then _ else _)=_
  split
  ·rename_i e;rw[e]
  ·exact Te zO
theorem J1 {p:List Fn}{n f:Nat}{a:List Sr}{s:Nat}:∀ {F:Nat},f<F→(Hc p n F).all f a s=Eb n (Hc p n f) (p.getD f Fn.zero).outs a s
 |0,h=>by omega
 |F+1,h=>by
  show(if f=F then _ else _)=_
  split
  ·rename_i e;rw[e]
  ·exact J1 zO
def ev (p:List Fn)(n f:Nat)(a:List Sr):Rs (List Sr):=Eb n (Hc p n f) (p.getD f Fn.zero).outs a 0
def go {α:Type}(c:Int)(r:Rs α):Rs α:=if c=0 then r else .err c
theorem Da {α:Type}(r:Rs α):go 0 r=r:=rfl
theorem DK {α:Type}{c:Int}(h:c≠0)(r:Rs α):go c r=.err c:=if_neg h
def BC (n:Nat)(env:List Sr):Prop:=∀k,k<env.length→BN n (env.getD k [])
def AX {α:Type}(r:Rs α)(x:α)(s:Nat)(c:Int):Prop:=match r with
 |.ok y t=>x=y∧s=t∧c=0
 |.err d=>c=d∧d≠0
theorem AX.ok {α:Type}{r:Rs α}{x:α}{s:Nat}(h:AX r x s 0):r=.ok x s:=by
 cases r with
 |ok y t=>obtain⟨rfl,rfl,_⟩:=h;rfl
 |err d=>exact absurd h.1.symm h.2
theorem AX.err {α:Type}{r:Rs α}{x:α}{s:Nat}{c:Int}(h:AX r x s c)(hc:c≠0):r=.err c:=by
 cases r with
 |ok y t=>exact absurd h.2.2 hc
 |err d=>rw[h.1]
theorem AX.mk_ok {α:Type}{r:Rs α}{x:α}{s:Nat}(h:r=.ok x s):AX r x s 0:=by subst h;exact⟨rfl,rfl,rfl⟩
theorem AX.mk_err {α:Type}{r:Rs α}{x:α}{s:Nat}{c:Int}(h:r=.err c)(hc:c≠0):AX r x s c:=by subst h;exact⟨rfl,hc⟩
theorem AX.bindE {α β:Type}{r:Rs α}{x:α}{s:Nat}{c:Int}(h:AX r x s c)(hc:c≠0){f:α→Nat→Rs β}:r.bind f=.err c:=by rw[h.err hc];rfl
theorem AX.bindO {α β:Type}{r:Rs α}{x:α}{s:Nat}(h:AX r x s 0){f:α→Nat→Rs β}:r.bind f=f x s:=by rw[h.ok];rfl
theorem G7 (n:Nat)(x:Int):(cst n x).length=n:=by simp[cst]
theorem Gu (n:Nat):B9 (List.replicate n 0)=true:=by
 unfold B9
 rw[zm]
 intro y hy
 rw[List.eq_of_mem_replicate hy];decide
theorem Ft {n:Nat}{x:Int}(h:JX x=true):BN n (cst n x):=by
 refine⟨G7 n x,?_⟩
 unfold cst B9
 rw[zm]
 intro y hy
 rcases List.mem_or_eq_of_mem_set hy with hy|rfl
 ·rw[List.eq_of_mem_replicate hy];decide
 ·exact h
theorem BC.snoc {n:Nat}{env:List Sr}{x:Sr}(h:BC n env)(hx:BN n x):BC n (env++[x]):=by
 intro k hk
 rw[z4,zd]at hk
 by_cases e:k<env.length
 ·rw[Hi e];exact h k e
 ·have:k=env.length:=by omega
  rw[GZ this];exact hx
section
structure J2 (p:List Fn):Prop where
 par:∀k,k<p.length→0≤(p.getD k Fn.zero).params∧(p.getD k Fn.zero).params≤12
 outs:∀k,k<p.length→1≤(p.getD k Fn.zero).outs.length∧(p.getD k Fn.zero).outs.length≤12
 deep:∀k,k<p.length→∀j,j<(p.getD k Fn.zero).outs.length→((p.getD k Fn.zero).outs.getD j Ex.zero).deep≤60
 wf:∀k,k<p.length→∀j,j<(p.getD k Fn.zero).outs.length→wf p ((k:Nat):Int) ((p.getD k Fn.zero).outs.getD j Ex.zero) (p.getD k Fn.zero).params=true
theorem Ct {x a b:Int}:Gp x a b=true↔a≤x∧x≤b:=by unfold Gp;simp
theorem DB {p:List Fn}{F vars:Int}{e:Ex}(h:HQ p F vars e=true) :
  (e.kind=1∨e.kind=2∨e.kind=3∨e.kind=4∨e.kind=5∨e.kind=6∨e.kind=7∨e.kind=8∨e.kind=9∨e.kind=10∨e.kind=11) ∧
  (e.kind=2→0≤e.num∧e.num≤vars-1)∧(e.kind=3∨e.kind=4∨e.kind=5∨e.kind=6∨e.kind=9→e.kids.length=2)∧(e.kind=7→e.kids.length=1)∧(e.kind=8→e.kids.length=3) ∧
  (e.kind=10∨e.kind=11→0≤e.num∧e.num≤F-1∧(e.kids.length:Int)=(p.getD e.num.toNat Fn.zero).params∧0≤e.pick∧e.pick≤((p.getD e.num.toNat Fn.zero).outs.length:Int)-1) ∧
  (e.kind=11→((p.getD e.num.toNat Fn.zero).outs.length:Int)=(p.getD e.num.toNat Fn.zero).params∧0≤e.count∧e.count≤8)∧(e.kind=1→0≤e.num∧e.num<1000003):=by
 unfold HQ at h
 split at h
 ·simp only[z7,decide_eq_true_eq,Ck]at h;omega
 ·split at h
  ·simp only[z7,decide_eq_true_eq,Ct]at h;omega
  ·split at h
   ·simp only[z7,decide_eq_true_eq]at h;omega
   ·split at h
    ·simp only[z7,decide_eq_true_eq]at h;omega
    ·split at h
     ·simp only[z7,decide_eq_true_eq]at h;omega
     ·split at h
      ·simp only[z7,decide_eq_true_eq,Ct]at h
       obtain⟨h1,h2,h3,h4⟩:=h
       split at h4
       ·simp only[decide_eq_true_eq]at h4;omega
       ·simp only[z7,decide_eq_true_eq,Ct]at h4;omega
      ·cases h
theorem Dj {p:List Fn}{F vars:Int}{e:Ex}(h:wf p F e vars=true):HQ p F vars e=true:=by
 rw[OE,z7]at h;exact h.1
theorem cD {p:List Fn}{F vars:Int}{e:Ex}(h:wf p F e vars=true){j:Nat}(hj:j<e.kids.length):wf p F (e.kids.getD j Ex.zero) (if e.kind=9∧j=1 then vars+1 else vars)=true:=by
 rw[OE,z7]at h
 have:=(Mj p F _ vars e.kids 0).1 h.2 j hj
 rw[Nat.zero_add]at this
 simpa only[decide_eq_true_eq]using this
theorem H1 {p:List Fn}{F vars:Int}{e:Ex}(h:wf p F e vars=true){j:Nat}(hj:j<e.kids.length)(hn:¬(e.kind=9∧j=1)):wf p F (e.kids.getD j Ex.zero) vars=true:=by
 have:=cD h hj
 rwa [if_neg hn]at this
theorem N7 {p:List Fn}{F vars:Int}{e:Ex}(h:wf p F e vars=true)(hj:1<e.kids.length)(hk:e.kind=9):wf p F (e.kids.getD 1 Ex.zero) (vars+1)=true:=by
 have:=cD h hj
 rwa [if_pos ⟨hk,rfl⟩]at this
section
variable {p:List Fn} {F:Nat} {vars:Int} {e:Ex}
theorem VU (h:wf p ((F:Nat):Int) e vars=true)(hk:e.kind=1):0≤e.num∧e.num<1000003:=(DB (Dj h)).2.2.2.2.2.2.2 hk
theorem VV (h:wf p ((F:Nat):Int) e vars=true)(hk:e.kind=2):0≤e.num∧e.num≤vars-1:=(DB (Dj h)).2.1 hk
theorem cE (h:wf p ((F:Nat):Int) e vars=true)(hk:e.kind=8):e.kids.length=3:=(DB (Dj h)).2.2.2.2.1 hk
theorem VW (h:wf p ((F:Nat):Int) e vars=true)(hk:e.kind=9):e.kids.length=2:=(DB (Dj h)).2.2.1 zO
theorem VX (h:wf p ((F:Nat):Int) e vars=true)(hk:e.kind=7):e.kids.length=1:=(DB (Dj h)).2.2.2.1 hk
theorem VY (h:wf p ((F:Nat):Int) e vars=true)(hk:e.kind=3∨e.kind=4∨e.kind=5∨e.kind=6):e.kids.length=2:=(DB (Dj h)).2.2.1 zO
theorem Mn (h:wf p ((F:Nat):Int) e vars=true)(hk:e.kind=10∨e.kind=11):(0≤e.num∧e.num≤((F:Nat):Int)-1)∧(e.kids.length:Int)=(p.getD e.num.toNat Fn.zero).params∧(0≤e.pick∧e.pick≤((p.getD e.num.toNat Fn.zero).outs.length:Int)-1):=by
 have:=(DB (Dj h)).2.2.2.2.2.1 hk
 exact⟨⟨this.1,this.2.1⟩,this.2.2.1,this.2.2.2⟩
theorem Tf (h:wf p ((F:Nat):Int) e vars=true)(hk:e.kind=11):((p.getD e.num.toNat Fn.zero).outs.length:Int)=(p.getD e.num.toNat Fn.zero).params∧(0≤e.count∧e.count≤8):=(DB (Dj h)).2.2.2.2.2.2.1 hk
theorem fB (h:wf p ((F:Nat):Int) e vars=true)(hk:(e.kind≠1∧e.kind≠2∧e.kind≠7∧e.kind≠8)∧(e.kind≠9∧e.kind≠10∧e.kind≠11)):e.kind=3∨e.kind=4∨e.kind=5∨e.kind=6:=by
 have:=(DB (Dj h)).1
 omega
theorem fC (h:wf p ((F:Nat):Int) e vars=true)(hv:J2 p)(hF:F≤p.length):e.kids.length≤12:=by
 have hq:=DB<|Dj h
 by_cases h10:e.kind=10∨e.kind=11
 ·have h1:=Mn h h10
  have:=hv.par e.num.toNat zO
  omega
 ·have h1:=hq.1;have h2:=hq.2.2.1;have h3:=hq.2.2.2.1;have h4:=hq.2.2.2.2.1
  by_cases hl:e.kind=1∨e.kind=2
  ·have h5:=Dj h
   unfold HQ at h5
   rcases hl with hl|hl
   ·rw[if_pos hl]at h5;simp only[z7,decide_eq_true_eq]at h5;omega
   ·rw[if_neg zO,if_pos hl]at h5;simp only[z7,decide_eq_true_eq]at h5;omega
  ·omega
end
section
variable {n:Nat} {C:Ca} {e:Ex} {env:List Sr} {s s1 s2:Nat} {c c1 c2:Int} {x y:Sr} {xs ys:List Sr}
theorem VZ (hc:c≠0){r:Rs Sr}:AX (go c r) x s c:=AX.mk_err (DK hc r) hc
theorem RB (hc:c=0)(hs:s=3000):AX (go c (Eo n C e env s)) x s1 7:=by
 subst hc;rw[Da,FO,if_pos (by omega)];exact AX.mk_err rfl (by decide)
theorem ZE (hc:c=0)(hs:s+1≤3000)(hk:e.kind=1):AX (go c (Eo n C e env s)) (cst n e.num) (s+1) c:=by
 subst hc;rw[Da,FO,if_neg zO,if_pos hk];exact AX.mk_ok rfl
theorem ZF (hc:c=0)(hs:s+1≤3000)(hk:e.kind=2):AX (go c (Eo n C e env s)) (env.getD e.num.toNat []) (s+1) c:=by
 subst hc;rw[Da,FO,if_neg zO,if_neg zO,if_pos hk];exact AX.mk_ok rfl
theorem ZG (hc:c=0)(hs:s+1≤3000)(hk:e.kind=8)(hl:e.kids.length=3)(h1:AX (go c (Eo n C (e.kids.getD 0 Ex.zero) env (s+1))) x s1 c1)(hx:x.getD 0 0=0)
  (h2:AX (go c1 (Eo n C (e.kids.getD 1 Ex.zero) env s1)) y s2 c2):AX (go c (Eo n C e env s)) y s2 c2:=by
 subst hc
 rw[Da,FO,if_neg zO,if_neg zO,if_neg zO,if_pos hk,E0 _ _ _ _ _ _ (by omega)]
 rw[Da]at h1
 by_cases h0:c1=0
 ·subst h0;rw[h1.bindO,if_pos hx,E0 _ _ _ _ _ _ (by omega)];exact h2
 ·rw[h1.bindE h0];rw[DK h0]at h2;exact h2
theorem ZH (hc:c=0)(hs:s+1≤3000)(hk:e.kind=8)(hl:e.kids.length=3)(h1:AX (go c (Eo n C (e.kids.getD 0 Ex.zero) env (s+1))) x s1 c1)(hx:¬x.getD 0 0=0)
  (h2:AX (go c1 (Eo n C (e.kids.getD 2 Ex.zero) env s1)) y s2 c2):AX (go c (Eo n C e env s)) y s2 c2:=by
 subst hc
 rw[Da,FO,if_neg zO,if_neg zO,if_neg zO,if_pos hk,E0 _ _ _ _ _ _ (by omega)]
 rw[Da]at h1
 by_cases h0:c1=0
 ·subst h0;rw[h1.bindO,if_neg hx,E0 _ _ _ _ _ _ (by omega)];exact h2
 ·rw[h1.bindE h0];rw[DK h0]at h2;exact h2
theorem ZI (hc:c=0)(hs:s+1≤3000)(hk:e.kind=9)(hl:e.kids.length=2)(h1:AX (go c (Eo n C (e.kids.getD 0 Ex.zero) env (s+1))) x s1 c1)
  (h2:AX (go c1 (Eo n C (e.kids.getD 1 Ex.zero) (env++[x]) s1)) y s2 c2):AX (go c (Eo n C e env s)) y s2 c2:=by
 subst hc
 rw[Da,FO,if_neg zO,if_neg zO,if_neg zO,if_neg zO,if_pos hk,E0 _ _ _ _ _ _ (by omega)]
 rw[Da]at h1
 by_cases h0:c1=0
 ·subst h0;rw[h1.bindO,E0 _ _ _ _ _ _ (by omega)];exact h2
 ·rw[h1.bindE h0];rw[DK h0]at h2;exact h2
theorem N8 (hs : s + 1 ≤ 3000) (h1 : e.kind ≠ 1) (h2 : e.kind ≠ 2) (h8 : e.kind ≠ 8) (h9 : e.kind ≠ 9) : Eo n C e env s = (Eb n C e.kids env (s + 1)).bind fun xs t =>
      if e.kind = 10 then C.one e.num.toNat e.pick.toNat xs t
      else if e.kind = 11 then (Ml (C.all e.num.toNat) e.count.toNat xs t).bind fun ys u=>.ok (ys.getD e.pick.toNat []) u
      else Mm e.kind xs t:=by
  rw [FO,if_neg zO,if_neg h1,if_neg h2,if_neg h8,if_neg h9]
theorem UB (hc:c=0)(hs:s+1≤3000)(h1:e.kind≠1)(h2:e.kind≠2)(h8:e.kind≠8)(h9:e.kind≠9)(hr:AX (go c (Eb n C e.kids env (s+1))) xs s1 c1)(hc1:c1≠0):AX (go c (Eo n C e env s)) x s2 c1:=by
 subst hc
 rw[Da]at hr ⊢
 rw[N8 hs h1 h2 h8 h9,hr.bindE hc1];exact AX.mk_err rfl hc1
theorem fE (hc:c=0)(hs:s+1≤3000)(h1:e.kind≠1)(h2:e.kind≠2)(h8:e.kind≠8)(h9:e.kind≠9)(h10:e.kind≠10)(h11:e.kind≠11)(hr:AX (go c (Eb n C e.kids env (s+1))) xs s1 c1)(hc1:c1=0)
  (h:AX (Mm e.kind xs s1) y s2 c2):AX (go c (Eo n C e env s)) y s2 c2:=by
 subst hc;subst hc1
 rw[Da]at hr ⊢
 rw[N8 hs h1 h2 h8 h9,hr.bindO,if_neg h10,if_neg h11];exact h
theorem fF {k:Int}(hk:k=3):AX (Mm k xs s) (EE (xs.getD 0 []) (xs.getD 1 [])) s 0:=by subst hk;exact AX.mk_ok rfl
theorem fG {k:Int}(hk:k=4):AX (Mm k xs s) (DJ (xs.getD 0 []) (xs.getD 1 [])) s 0:=by subst hk;exact AX.mk_ok rfl
theorem fH {k:Int}(hk:k=5):AX (Mm k xs s) (Ci (xs.getD 0 []) (xs.getD 1 [])) s 0:=by subst hk;exact AX.mk_ok rfl
theorem fI {k:Int}(hk:k=7):AX (Mm k xs s) (CX (xs.getD 0 []) 1000002) s 0:=by subst hk;exact AX.mk_ok rfl
theorem ZJ {k:Int}(hk:k=6)(hz:(xs.getD 1 []).getD 0 0=0):AX (Mm k xs s) x s1 6:=by
 subst hk
 have:Mm 6 xs s=.err 6:=by
  show(if (xs.getD 1 []).getD 0 0=0 then _ else _)=_
  rw[if_pos hz]
 exact AX.mk_err this (by decide)
theorem fJ {k:Int}(hk:k=6)(hz:¬(xs.getD 1 []).getD 0 0=0):AX (Mm k xs s) (C6 (xs.getD 0 []) (xs.getD 1 [])) s 0:=by
 subst hk
 have:Mm 6 xs s=.ok (C6 (xs.getD 0 []) (xs.getD 1 [])) s:=by
  show(if (xs.getD 1 []).getD 0 0=0 then _ else _)=_
  rw[if_neg hz]
 exact AX.mk_ok this
theorem IF {l:List Ex}{k:Nat}(hk:k<l.length)(h:AX (go c (Eb n C (l.take k) env s)) xs s1 c1)(h2:AX (go c1 (Eo n C (l.getD k Ex.zero) env s1)) x s2 c2) :
  AX (go c (Eb n C (l.take (k+1)) env s)) (xs++[x]) s2 c2:=by
 by_cases hc:c=0
 ·subst hc
  rw[Da]at h ⊢
  rw[VT hk]
  by_cases h0:c1=0
  ·subst h0
   rw[Da]at h2
   rw[h.bindO]
   by_cases h3:c2=0
   ·subst h3;rw[h2.bindO];exact AX.mk_ok rfl
   ·rw[h2.bindE h3];exact AX.mk_err rfl h3
  ·rw[h.bindE h0];rw[DK h0]at h2;exact AX.mk_err (by rw[h2.1]) (by rw[h2.1];exact h2.2)
 ·rw[DK hc]at h ⊢
  have hc1:c1≠0:=by rw[h.1];exact hc
  rw[DK hc1]at h2
  exact AX.mk_err (by rw[h2.1,h.1]) (by rw[h2.1];exact hc1)
end
theorem J3 (n:Nat)(C:Ca)(l:List Ex)(env:List Sr)(s:Nat)(c:Int):AX (go c (Eb n C (l.take 0) env s)) [] s c:=by
 rw[List.take_zero,Eb]
 by_cases h:c=0
 ·subst h;exact AX.mk_ok rfl
 ·exact AX.mk_err (DK h _) h
theorem IG {n:Nat}{a b:Sr}(ha:BN n a):BN n (EE a b):=⟨by unfold EE;rw[DR];exact ha.1,IA _ _⟩
theorem N9 {n:Nat}{a b:Sr}(ha:BN n a):BN n (DJ a b):=⟨by rw[Ho];exact ha.1,Hp _ _⟩
theorem II {n:Nat}{a b:Sr}(ha:BN n a):BN n (Ci a b):=⟨by unfold Ci;rw[DR];exact ha.1,FG _ _⟩
theorem Hu {n:Nat}{a b:Sr}(ha:BN n a):BN n (C6 a b):=⟨by rw[E7];exact ha.1,ED _ _⟩
theorem QH {n:Nat}{a:Sr}{y:Int}(ha:BN n a):BN n (CX a y):=⟨by unfold CX;rw[DR];exact ha.1,FH _ _⟩
end
section
def CS (p:List Fn)(n f:Nat)(a:List Sr):List Sr:=match ev p n f a with
 |.ok xs _=>xs
 |.err _=>[]
def Pw (p:List Fn)(n f:Nat)(a:List Sr):Nat:=match ev p n f a with
 |.ok _ s=>s
 |.err _=>0
def H2 (p:List Fn)(n f:Nat)(a:List Sr):Int:=match ev p n f a with
 |.ok _ _=>0
 |.err c=>c
section
variable {p:List Fn} {n f s:Nat} {a x:List Sr} {c:Int}
theorem OI (h:AX (go 0 (Eb n (Hc p n f) (p.getD f Fn.zero).outs a 0)) x s c)(hc:c=0):ev p n f a=.ok x s:=by subst hc;exact h.ok
theorem Lp (h:AX (go 0 (Eb n (Hc p n f) (p.getD f Fn.zero).outs a 0)) x s c)(hc:c≠0):ev p n f a=.err c:=h.err hc
theorem KD (h:ev p n f a=.ok x s):CS p n f a=x:=by unfold CS;rw[h]
theorem X0 (h:ev p n f a=.ok x s):Pw p n f a=s:=by unfold Pw;rw[h]
theorem LU (h:ev p n f a=.ok x s):H2 p n f a=0:=by unfold H2;rw[h]
theorem QI (h:ev p n f a=.err c):CS p n f a=[]:=by unfold CS;rw[h]
theorem X1 (h:ev p n f a=.err c):Pw p n f a=0:=by unfold Pw;rw[h]
theorem Hv (h:ev p n f a=.err c):H2 p n f a=c:=by unfold H2;rw[h]
end
structure ZK (p:List Fn)(n f:Nat)(a:List Sr):Prop where
 code:0≤H2 p n f a∧H2 p n f a≤9
 steps:Pw p n f a≤3000
 len:H2 p n f a=0→(CS p n f a).length=(p.getD f Fn.zero).outs.length
 ser:BC n (CS p n f a)
 non:H2 p n f a≠0→CS p n f a=[]
theorem ZK.mk' {p:List Fn}{n f s:Nat}{a x:List Sr}{c:Int}(h:AX (go 0 (Eb n (Hc p n f) (p.getD f Fn.zero).outs a 0)) x s c)(hc:0≤c∧c≤9)(hs:s≤3000)(hl:x.length=(p.getD f Fn.zero).outs.length)(hx:BC n x):ZK p n f a:=by
 by_cases h0:c=0
 ·have e:=OI h h0
  exact⟨by rw[LU e];omega,by rw[X0 e];exact hs,fun _=>by rw[KD e];exact hl,by rw[KD e];exact hx,fun hh=>absurd (LU e) hh⟩
 ·have e:=Lp h h0
  exact⟨by rw[Hv e];exact hc,by rw[X1 e];omega,fun hh=>absurd (by rw[← hh,Hv e]) h0,by rw[QI e];intro k hk;simp at hk,fun _=>QI e⟩
end
def cF (s:ByteArray)(i:Nat):Bool:=(decide (97≤L5 s i) && decide (L5 s i≤122)) || (decide (i≠0) && (decide (48≤L5 s i) && decide (L5 s i≤57)))
def Na (s:ByteArray):Bool:=(decide (1≤s.size) && decide (s.size≤12)) && (List.range s.size).all (cF s)
def OJ (p:List Fn)(e:Ex)(vars funcs:Int):Bool :=
 Gp vars 0 412 && (Gp funcs 0 ((p.length:Nat):Int) && (decide (e.size≤400) && (decide (e.deep≤60) && wf p funcs e vars)))
def UC (p:List Fn)(k:Nat):Bool:=!((p.take k).any fun g=>JV g.name (p.getD k Fn.zero).name)
def M3 (p:List Fn)(k:Nat):Bool :=
 (Na (p.getD k Fn.zero).name && UC p k) && ((Gp (p.getD k Fn.zero).params 0 12 && Gp (((p.getD k Fn.zero).outs.length:Nat):Int) 1 12) &&
  ((List.range (p.getD k Fn.zero).outs.length).all (fun j=>OJ p ((p.getD k Fn.zero).outs.getD j Ex.zero) (p.getD k Fn.zero).params ((k:Nat):Int)) && decide (Ex.sizes (p.getD k Fn.zero).outs≤400)))
def KE (p:List Fn):Bool:=decide (p.length≤16) && (List.range p.length).all (M3 p)
def Px (p:List Fn):Prop:=∀k,k<p.length→Ex.sizes (p.getD k Fn.zero).outs≤2000000∧(p.getD k Fn.zero).outs.length≤2000000∧(p.getD k Fn.zero).name.size≤2000000
theorem Ep {f:Nat→Bool}{k:Nat}(h:(List.range k).all f=true)(hk:f k=true):(List.range (k+1)).all f=true:=by
 rw[List.range_succ,List.all_append,h];simp[hk]
theorem Lq {f:Nat→Bool}{k n:Nat}(hk:k<n)(h:f k=false):(List.range n).all f=false:=by
 rw[List.all_eq_false]
 exact⟨k,List.mem_range.2 hk,by simp[h]⟩
theorem Tg {f:Nat→Bool}{k n:Nat}(h:(List.range n).all f=true)(hk:k<n):f k=true:=zm.1 h k (List.mem_range.2 hk)
theorem fK {p:List Fn}(h:KE p=true){k:Nat}(hk:k<p.length):M3 p k=true:=by
 unfold KE at h
 rw[z7]at h
 exact Tg h.2 hk
theorem Fu {p:List Fn}(h:KE p=true):J2 p:=by
 have h1:∀k,k<p.length→(0≤(p.getD k Fn.zero).params∧(p.getD k Fn.zero).params≤12)∧(1≤(p.getD k Fn.zero).outs.length∧(p.getD k Fn.zero).outs.length≤12) ∧
   ∀j,j<(p.getD k Fn.zero).outs.length→OJ p ((p.getD k Fn.zero).outs.getD j Ex.zero) (p.getD k Fn.zero).params ((k:Nat):Int)=true:=by
  intro k hk
  have:=fK h hk
  unfold M3 at this
  simp only[z7,Ct]at this
  exact⟨this.2.1.1,zO,fun j hj=>Tg this.2.2.1 hj⟩
 have h2:∀k,k<p.length→∀j,j<(p.getD k Fn.zero).outs.length→((p.getD k Fn.zero).outs.getD j Ex.zero).deep≤60∧wf p ((k:Nat):Int) ((p.getD k Fn.zero).outs.getD j Ex.zero) (p.getD k Fn.zero).params=true:=by
  intro k hk j hj
  have:=(h1 k hk).2.2 j hj
  unfold OJ at this
  simp only[z7,decide_eq_true_eq]at this
  exact⟨this.2.2.2.1,this.2.2.2.2⟩
 exact⟨fun k hk=>(h1 k hk).1,fun k hk=>(h1 k hk).2.1,fun k hk j hj=>(h2 k hk j hj).1,fun k hk j hj=>(h2 k hk j hj).2⟩
section
mutual
def jA:Ex→Bool
 |.mk k _ _ _ l=>(decide (k≠6) && decide (k≠8)) && Rh l
def Rh:List Ex→Bool
 |[]=>true
 |e::l=>jA e && Rh l
end
theorem RC (k n q c:Int)(l:List Ex):jA (.mk k n q c l)=((decide (k≠6) && decide (k≠8)) && Rh l):=by rw[jA]
theorem QJ (l:List Ex)(e:Ex):Rh (l++[e])=(Rh l && jA e):=by
 induction l with
 |nil=>rw[zl,Rh,Rh];simp[Rh]
 |cons a l ih=>rw[List.cons_append,Rh,Rh,ih,Bool.and_assoc]
def Oa:Nat→Int
 |0=>1
 |d+1=>1+4*Oa d
def IJ:Nat→Nat
 |0=>30
 |d+1=>50+4*IJ d
def fL:Nat→Int→Int
 |0,_=>0
 |n+1,k=>fL n k+k
def UD:Nat→Nat→Nat
 |0,_=>0
 |n+1,k=>UD n k+k
theorem J4:∀d,1≤Oa d
 |0=>by decide
 |d+1=>by have:=J4 d;show 1≤1+4*Oa d;omega
theorem cG {d:Nat}(h:1≤d):Oa d=1+4*Oa (d-1):=by
 obtain⟨d,rfl⟩:∃k,d=k+1:=⟨d-1,zO⟩
 rfl
theorem jM {d:Nat}(h:1≤d):IJ d=50+4*IJ (d-1):=by
 obtain⟨d,rfl⟩:∃k,d=k+1:=⟨d-1,zO⟩
 rfl
theorem RD:∀d,30≤IJ d
 |0=>by decide
 |d+1=>by show 30≤50+4*IJ d;omega
theorem QK {i:Nat}{k:Int}(hk:0≤k)(hi:i≤4):0≤fL i k∧fL i k≤4*k:=by
 rcases i with _|_|_|_|_|i
 all_goals first|(exfalso;omega)|(simp only[fL];omega)
theorem OK {i k:Nat}(hi:i≤4):UD i k≤4*k:=by
 rcases i with _|_|_|_|_|i
 all_goals first|(exfalso;omega)|(simp only[UD];omega)
structure Th (p:List Fn)(funcs vars:Int)(pl:Bool)(d:Nat)(l0 l1:Int)(ex:Ex):Prop where
 wf:wf p funcs ex vars=true
 sz:(ex.size:Int)+4*max l1 1≤1+4*max l0 1
 dp:ex.deep≤d+1
 pl:pl=true→jA ex=true
 lo:l0-Oa d≤l1∧l1≤l0-1
structure RE (p:List Fn)(vars:Int)(ex:Ex):Prop where
 wf:∀funcs,wf p funcs ex vars=true
 sz:ex.size=1
 dp:ex.deep=1
 pl:jA ex=true
structure jN (p:List Fn):Prop where
 len:p.length≤1000
 par:∀k,k<p.length→0≤(p.getD k Fn.zero).params∧(p.getD k Fn.zero).params≤4
 outs:∀k,k<p.length→1≤(p.getD k Fn.zero).outs.length∧(p.getD k Fn.zero).outs.length≤12
theorem RE.num {p:List Fn}{vars n:Int}(h:0≤n∧n<1000003):RE p vars (.mk 1 n 0 0 []) :=
 ⟨fun funcs=>by
  rw[Pf rfl];unfold HQ El
  simp[Ex.kind,Ex.pick,Ex.count,Ex.kids,Ex.num,Ck];omega,by rw[Ex.size,Ex.sizes],by rw[Ex.deep,Ex.deeps],by rw[RC];rfl⟩
theorem RE.var {p:List Fn}{vars n:Int}(h:0≤n∧n<vars):RE p vars (.mk 2 n 0 0 []) :=
 ⟨fun funcs=>by
  rw[Pf rfl];unfold HQ El
  simp[Ex.kind,Ex.pick,Ex.count,Ex.kids,Ex.num,Ct];omega,by rw[Ex.size,Ex.sizes],by rw[Ex.deep,Ex.deeps],by rw[RC];rfl⟩
theorem RE.ok {p:List Fn}{vars funcs l0:Int}{ex:Ex}{pl:Bool}(h:RE p vars ex)(d:Nat):Th p funcs vars pl d l0 (l0-1) ex:=by
 have:=J4 d
 exact⟨h.wf funcs,by rw[h.sz];omega,by rw[h.dp];omega,fun _=>h.pl,zO⟩
def kn (k:Int):Int:=if k=1∨k=2 then 0 else if k=3∨k=4∨k=5∨k=6∨k=9 then 2 else if k=7 then 1 else if k=8 then 3 else -1
structure Ti (p:List Fn)(funcs vars:Int)(pl:Bool)(k:Int)(d:Nat)(l0 l1:Int)(xs:List Ex)(i:Nat):Prop where
 len:xs.length=i
 wf:∀j,j<i→wf p funcs (xs.getD j Ex.zero) (if k=9∧j=1 then vars+1 else vars)=true
 sz:(Ex.sizes xs:Int)+4*max l1 1≤i+4*max l0 1
 dp:Ex.deeps xs≤d
 pl:pl=true→Rh xs=true
 lo:l0-fL i (Oa (d-1))≤l1∧l1≤l0
theorem Ti.nil (p:List Fn)(funcs vars:Int)(pl:Bool)(k:Int)(d:Nat)(l0:Int):Ti p funcs vars pl k d l0 l0 [] 0 :=
 ⟨rfl,fun j hj=>by omega,by rw[Ex.sizes];omega,by rw[Ex.deeps];omega,fun _=>by rw[Rh],by show l0-0≤l0∧l0≤l0;omega⟩
theorem Ti.snoc {p:List Fn}{funcs vars own:Int}{pl:Bool}{k:Int}{d:Nat}{l0 l1 l2:Int}{xs:List Ex}{i:Nat}{x:Ex}(h:Ti p funcs vars pl k d l0 l1 xs i)(hd:1≤d)
  (ho:own=if k=9∧i=1 then vars+1 else vars) (hx:Th p funcs own pl (d-1) l1 l2 x):Ti p funcs vars pl k d l0 l2 (xs++[x]) (i+1):=by
 have hlen:=h.len
 refine⟨by simp[hlen],fun j hj=>?_,?_,?_,fun hp=>?_,?_⟩
 ·by_cases e:j=i
  ·subst e
   rw[← hlen,GZ rfl,hlen,← ho];exact hx.wf
  ·rw[Hi (by omega)];exact h.wf j zO
 ·have h1:=h.sz;have h2:=hx.sz
  rw[HM];omega
 ·have h1:=h.dp;have h2:=hx.dp
  rw[JT];omega
 ·rw[QJ,h.pl hp,hx.pl hp];rfl
 ·have h1:=h.lo;have h2:=hx.lo
  have h3:fL (i+1) (Oa (d-1))=fL i (Oa (d-1))+Oa (d-1):=rfl
  omega
theorem Ti.node {p:List Fn}{funcs vars:Int}{pl:Bool}{k num pick cnt:Int}{d i:Nat}{l0 l1:Int}{xs:List Ex}(h:Ti p funcs vars pl k d (l0-1) l1 xs i)(hd:1≤d)(hi:i≤4)(hl:2≤l0)
  (hp:pl=true→k≠6∧k≠8) (hw:HQ p funcs vars (.mk k num pick cnt xs)=true):Th p funcs vars pl d l0 l1 (.mk k num pick cnt xs):=by
 have hn:=cG hd
 have ht:=QK (k:=Oa (d-1)) (by have:=J4 (d-1);omega) hi
 have h1:=h.lo;have h2:=h.sz
 refine⟨(Pg hw fun j hj=>?_).symm,?_,?_,fun hq=>?_,zO⟩
 ·exact h.wf j (by rw[← h.len];exact hj)
 ·rw[Ex.size];omega
 ·rw[Ex.deep];have:=h.dp;omega
 ·rw[RC,h.pl hq,A7 (hp hq).1,A7 (hp hq).2];rfl
theorem fM {p:List Fn}{funcs vars k:Int}{xs:List Ex}(hk:k=3∨k=4∨k=5∨k=6∨k=7∨k=8∨k=9)(hl:((xs.length:Nat):Int)=kn k):HQ p funcs vars (.mk k 0 0 0 xs)=true:=by
 have h2:k=3∨k=4∨k=5∨k=6∨k=9→xs.length=2:=fun h=>by
  have:kn k=2:=by unfold kn;rw[if_neg zO,if_pos (by omega)]
  omega
 have h1:k=7→xs.length=1:=fun h=>by
  have:kn k=1:=by unfold kn;rw[if_neg zO,if_neg zO,if_pos h]
  omega
 have h3:k=8→xs.length=3:=fun h=>by
  have:kn k=3:=by unfold kn;rw[if_neg zO,if_neg zO,if_neg zO,if_pos h]
  omega
 unfold HQ El
 rcases hk with rfl|rfl|rfl|rfl|rfl|rfl|rfl
 ·simp[Ex.kind,Ex.pick,Ex.count,Ex.kids,Ex.num,h2]
 ·simp[Ex.kind,Ex.pick,Ex.count,Ex.kids,Ex.num,h2]
 ·simp[Ex.kind,Ex.pick,Ex.count,Ex.kids,Ex.num,h2]
 ·simp[Ex.kind,Ex.pick,Ex.count,Ex.kids,Ex.num,h2]
 ·simp[Ex.kind,Ex.pick,Ex.count,Ex.kids,Ex.num,h1]
 ·simp[Ex.kind,Ex.pick,Ex.count,Ex.kids,Ex.num,h3]
 ·simp[Ex.kind,Ex.pick,Ex.count,Ex.kids,Ex.num,h2]
theorem fN {p:List Fn}{funcs vars k num pick cnt:Int}{xs:List Ex}(hk:(k=10∧cnt=0)∨(k=11∧((p.getD num.toNat Fn.zero).outs.length:Int)=(p.getD num.toNat Fn.zero).params∧0≤cnt∧cnt≤8))
  (hn:0≤num∧num<funcs) (hl:((xs.length:Nat):Int)=(p.getD num.toNat Fn.zero).params) (hq:0≤pick∧pick<((p.getD num.toNat Fn.zero).outs.length:Int)):HQ p funcs vars (.mk k num pick cnt xs)=true:=by
 have h1:Gp num 0 (funcs-1)=true:=Ct.2 zO
 have h2:Gp pick 0 (((p.getD num.toNat Fn.zero).outs.length:Int)-1)=true:=Ct.2 zO
 have h6:decide ((xs.length:Int)=(p.getD num.toNat Fn.zero).params)=true:=A7 hl
 unfold HQ
 rcases hk with⟨rfl,rfl⟩|⟨rfl,h3,h4⟩
 ·show(Gp num 0 (funcs-1) && (decide ((xs.length:Int)=(p.getD num.toNat Fn.zero).params) && (Gp pick 0 (((p.getD num.toNat Fn.zero).outs.length:Int)-1) && decide ((0:Int)=0))))=true
  rw[h1,h2,h6];rfl
 ·have h5:Gp cnt 0 8=true:=Ct.2 h4
  show(Gp num 0 (funcs-1) && (decide ((xs.length:Int)=(p.getD num.toNat Fn.zero).params) && (Gp pick 0 (((p.getD num.toNat Fn.zero).outs.length:Int)-1) && (decide (((p.getD num.toNat Fn.zero).outs.length:Int)=(p.getD num.toNat Fn.zero).params) && Gp cnt 0 8))))=true
  rw[h1,h2,h5,h6,A7 h3];rfl
theorem EG {a b c k:Int}{l:List Ex}(h1:-9223372036854775808≤a∧a≤9223372036854775807)(h2:-9223372036854775808≤b∧b≤9223372036854775807)(h3:-9223372036854775808≤c∧c≤9223372036854775807)(h4:-9223372036854775808≤k∧k≤9223372036854775807):Rp (.mk a b c k l):=⟨h1,h2,h3,h4⟩
theorem Dr {a b c:Nat}(h:c∈[a,b]):c=a∨c=b:=by simpa using h
theorem H3 {a b:Nat}:∀x∈[a],x∈[a,b]:=fun x hx=>by rw[Ab hx];exact z0 ..
theorem fO {a b:Nat}:∀x∈[b],x∈[a,b]:=fun x hx=>by rw[Ab hx];exact z3 _ (z0 ..)
theorem Az.new2 {F:List Nat}{g g':Nat}{a b c:World}(h:Az F a b)(k:Az [g,g'] b c)(hg:g∈F)(hg':a.heap.size≤g'):Az F a c :=
 ⟨k.os.trans h.os,k.tape.trans h.tape,k.output.trans h.output,Aa h.size k.size,fun i hi hm=>(k.block i (Nat.lt_of_lt_of_le hi h.size) fun hq=>by
  rcases Dr hq with rfl|rfl
  ·exact hm hg
  ·omega).trans (h.block i hi hm)⟩
theorem RN.of_frF2 {e e':TypeId}{d B U:Nat}{H:Array Obj}{v:Value}{S:List Nat}{xs:List Fn}(h:Fr (D7 3 (LZ e d) e') B U H v xs)(hS:∀b∈S,b<B∨U≤b):RP S d H v xs:=by
 obtain⟨F,h,_,hF⟩:=h
 exact⟨F,(h.rd (AJ e d)).imp fun h=>Vh e h,fun b hb hm=>by have:=hF b hb;have:=hS b hm;omega⟩
theorem L6.mk1 {e:TypeId}{d B U:Nat}{H:Array Obj}{v:Value}{x:Ex}(hd:1≤d)(hr:Rp x)(h:Fr (D7 5 (FD e (d-1)) e) B U H v x.kids):L6 (FD e d) B U H (Dd x v) x:=by
 obtain⟨d,rfl⟩:∃k,d=k+1:=⟨d-1,zO⟩
 obtain⟨G,h1,h2,h3⟩:=h
 exact⟨G,⟨v,rfl,hr,h1⟩,h2,h3⟩
theorem L6.mkF {e:TypeId}{d B U:Nat}{H:Array Obj}{v:Value}{x:Fn}(hr:BI x.params)(h:Fr (D7 5 (FD e d) e) B U H v x.outs):L6 (LZ e d) B U H (FU x v) x:=by
 obtain⟨G,h1,h2,h3⟩:=h
 exact⟨G,⟨v,rfl,hr,h1⟩,h2,h3⟩
theorem oC {k:Int}(h:k=1∨k=2):kn k=0:=by unfold kn;rw[if_pos h]
theorem oD {k:Int}(h:k=3∨k=4∨k=5∨k=6∨k=9):kn k=2:=by unfold kn;rw[if_neg zO,if_pos h]
theorem oE {k:Int}(h:k=7):kn k=1:=by unfold kn;rw[if_neg zO,if_neg zO,if_pos h]
theorem oF {k:Int}(h:k=8):kn k=3:=by unfold kn;rw[if_neg zO,if_neg zO,if_neg zO,if_pos h]
theorem oG {k:Int}(h1:¬k=1)(h2:¬k=2)(h3:¬k=3)(h4:¬k=4)(h5:¬k=5)(h6:¬k=6)(h7:¬k=7)(h8:¬k=8)(h9:¬k=9):kn k = -1:=by unfold kn;rw[if_neg zO,if_neg zO,if_neg zO,if_neg (by omega)]
theorem oH {k:Int}(h:k=3∨k=4∨k=5∨k=6∨k=7∨k=8∨k=9):1≤kn k∧kn k≤3:=by
 rcases h with rfl|rfl|rfl|rfl|rfl|rfl|rfl <;> decide
theorem X2 {d:Nat}(h:d≤8):Oa d≤100000:=by
 have:∀k:Fin 9,Oa k.val≤100000:=by decide
 exact this ⟨d,zO⟩
theorem RE.okc {p:List Fn}{vars funcs l0:Int}{ex:Ex}{pl:Bool}(h:RE p vars ex)(d:Nat):Th p funcs vars pl d (l0+1) l0 ex:=by
 have h:=h.ok (funcs:=funcs) (pl:=pl) (l0:=l0+1) d
 rwa [show l0+1-1=l0 from by omega]at h
theorem Th.up1 {p:List Fn}{vars funcs l0 l1:Int}{ex:Ex}{pl:Bool}{d:Nat}(h:Th p funcs vars pl d (l0-1+1) l1 ex):Th p funcs vars pl d l0 l1 ex:=by rwa [show l0-1+1=l0 from by omega]at h
theorem Ti.node1 {p:List Fn}{funcs vars:Int}{pl:Bool}{k num pick cnt:Int}{d i:Nat}{l0 l1:Int}{xs:List Ex}(h:Ti p funcs vars pl k d l0 l1 xs i)(hd:1≤d)(hi:i≤4)(hl:1≤l0)
  (hp:pl=true→k≠6∧k≠8) (hw:HQ p funcs vars (.mk k num pick cnt xs)=true):Th p funcs vars pl d (l0+1) l1 (.mk k num pick cnt xs) :=
 Ti.node (by rwa [show l0+1-1=l0 from by omega]) hd hi zO hp hw
namespace Jx
variable [J:JR] {P:Program} {ops:Array Oper} {w0:World} {Q:Act→World→Prop}
theorem j1 {o:Oper}{os:List Oper}{ks:List Nat}{a:Act}{w:World}(h:_root_.Go.Proofs.YtbajepcpgncekaaGreat.LW P ops w0 (fun a w=>LW P ops w0 Q os ks a w) [o] [0] a w):LW P ops w0 Q (o::os) (0::ks) a w:=by
 simp only[_root_.Go.Proofs.YtbajepcpgncekaaGreat.LW]at h
 simp only[LW]
 split
 ·rename_i hw
  rw[if_pos hw]at h
  unfold _root_.Go.Proofs.YtbajepcpgncekaaGreat.BY at h
  unfold BY
  rw[if_pos (by decide)]at h
  rw[if_pos (by decide)]
  obtain⟨v,h1,h2⟩:=h
  exact⟨v,fun w' _=>h1 w' trivial,h2⟩
 ·rename_i hw
  rw[if_neg hw]at h
  exact h
theorem ZL:∀ {os:List Oper}{ks:List Nat}{a:Act}{w:World}(_:ks.all (fun k=>k == 0 || k == 3 || k == 4)=true)(_:_root_.Go.Proofs.YtbajepcpgncekaaGreat.LW P ops w0 Q os ks a w),LW P ops w0 Q os ks a w
 |[],_,_,_,_,h=>h
 |_::_,[],_,_,_,h=>h.elim
 |o::os,k::ks,a,w,hk,h=>by
  simp only[List.all_cons,z7]at hk
  simp only[_root_.Go.Proofs.YtbajepcpgncekaaGreat.LW]at h
  simp only[LW]
  split
  ·rename_i hw
   rw[if_pos hw]at h
   unfold _root_.Go.Proofs.YtbajepcpgncekaaGreat.BY at h
   unfold BY
   split at h
   ·rename_i h2
    rw[if_pos h2]
    have:k=0:=by
     have:=hk.1
     simp only[Bool.or_eq_true,beq_iff_eq]at this
     omega
    subst this
    obtain⟨v,h1,h3⟩:=h
    exact⟨v,fun w' _=>h1 w' trivial,ZL hk.2 h3⟩
   ·rename_i h2
    rw[if_neg h2]
    split at h
    ·rename_i h3
     rw[if_pos h3]
     exact Oper.wp_mono (fun a w hh=>⟨J.ext hh.1,ZL hk.2 hh.2⟩) h
    ·rename_i h3
     rw[if_neg h3]
     exact Oper.wp_mono (fun a w hh=>ZL hk.2 hh) h
  ·rename_i hw
   rw[if_neg hw]at h
   exact ZL hk.2 h
end Jx
end
section
theorem X3 {α:Type}{l:List α}{k:Nat}{d:α}(h:k<l.length):l.getD k d∈l:=by
 rw[List.getD_eq_getElem?_getD,List.getElem?_eq_getElem h,Option.getD_some];exact List.getElem_mem h
theorem X4 {a:Int}(h:-9223372036854775808≤a∧a≤9223372036854775807):BI a:=h
def KF (n:Nat):ByteArray:=⟨#[UInt8.ofNat (48+n)]⟩
def Py:List ByteArray:=[⟨#[102]⟩,⟨#[103]⟩,⟨#[115,116,101,112]⟩,⟨#[104,50]⟩,⟨#[99]⟩]
theorem fP {n:Int}(h0:0≤n)(h1:n<10):(⟨#[UInt8.ofNat (IntKind.u8.wrap (((48:Nat):Int)+n)).toNat]⟩:ByteArray)=KF n.toNat:=by
 obtain⟨k,rfl⟩:∃k:Nat,n=k:=⟨n.toNat,zO⟩
 have:∀k:Fin 10,(⟨#[UInt8.ofNat (IntKind.u8.wrap (((48:Nat):Int)+((k.val:Nat):Int))).toNat]⟩:ByteArray)=KF k.val:=by decide +kernel
 exact this ⟨k,zO⟩
theorem X5 (n:Nat):(KF n).size=1:=rfl
theorem UE:∀s∈Py,s.size≤4:=by decide +kernel
theorem ZM:∀s∈Py,∀i:Fin 10,Na (s++KF i.val)=true:=by decide +kernel
theorem ZN:∀s∈Py,∀t∈Py,∀i j:Fin 10,i.val≠j.val→JV (s++KF i.val) (t++KF j.val)=false:=by decide +kernel
section str
variable {P:Program} {ops:Array Oper} {w0:World} {Q:Act→World→Prop} {os:List Oper} {ks:List Nat} {N:Nat} {ρ:Nat→Value} {w:World}
 {d:Nat} {ty:TypeId} {pos:String} {aft:Array Edge} {g:Option (Nat×Bool)} {t e:TypeId}
theorem ZO {st dt:TypeId}{x:Operand}{v:Value}{n:Int}{B U:Nat}(hs:P.underlying st=some (.slice e))(he:P.underlying e=some (.int .u8))(hd:P.underlying dt=some .string)(hx:Bw N ρ x=v)(hv:Fr (AY rV e) B U w.heap v [.int .u8 n])
  (hu:Up ops N ρ ⟨some d,.convert st dt x,ty,pos,aft,g⟩) (h:LW P ops w0 Q os ks (mk N (D3 ρ d (.string ⟨#[UInt8.ofNat n.toNat]⟩))) w) :
  LW P ops w0 Q (⟨some d,.convert st dt x,ty,pos,aft,g⟩::os) (2::ks) (mk N ρ) w:=by
 obtain⟨F,hv,_,_⟩:=hv
 rcases hv with⟨_,hc,_⟩|⟨us,b,cap,cur,F',hels,rfl,hg,q1,q2,q3,q4,rfl⟩
 ·cases hc
 ·obtain⟨rfl,rfl⟩:=G3 hels
  refine CP (by decide) rfl hu _ (fun w' hcl=>?_) h
  have hcl:AB w w':=hcl
  have hcb:w'.heap[b]? = w.heap[b]?:=hcl.heap (getElem?_lt hg)
  have hlc:=run_loadCells_list (P:=P) w' ⟨b,0,none⟩ [.int .u8 n] (fun j u hj=>by
   rw[JS,Cu]
   simp only[Ch,hcb,hg]
   have hj0:j=0:=by have:=(List.getElem?_eq_some_iff.1 hj).1;simpa using this
   subst hj0
   have e1:cur.toList[0]? = some (.int .u8 n):=by
    have:(cur.toList.take 1)[0]? = some (.int .u8 n):=by rw[show cur.toList.take 1=[.int .u8 n]from q4];rfl
    rwa [List.getElem?_take,if_pos (by decide)]at this
   have e2:u=.int .u8 n:=by simpa using hj.symm
   rw[e2]
   simpa using e1)
  have hb:=run_bytesToString (P:=P) w' ⟨b,0,none⟩ 1 cap [n] (by simpa using hlc)
  have hr:=run_convert_bytes_string (P:=P) w' st dt e (some ⟨b,0,none⟩) 1 cap hs he hd
  simp only[execOp,hx,zd,Sem.run_bind,hr,hb,Result.andThen_ok,Sem.run_pure]
  rfl
theorem ZP {b:Nat}{z u0 u1 u2 u3:Value}(ht:P.underlying t=some (.slice e))(hi:TI P e 1 z b)(h0:u0.cells=#[u0])(h1:u1.cells=#[u1])(h2:u2.cells=#[u2])(h3:u3.cells=#[u3])(hz:z.cells=#[z]) :
  (Instr.buildSlice t 4 #[(0,u0),(1,u1),(2,u2),(3,u3)]).run P w=.ok (.slice (some ⟨w.heap.size,0,none⟩) 4 4) (w.alloc (.cells #[u0,u1,u2,u3] e)):=by
 obtain⟨i,q1,q2,q3,q4⟩:=hi.get
 simp[Instr.buildSlice,run_underlying ht,sizeOf,typeInfo,zeroValue,q1,q2,q3,Instr.fill,newRow,h0,h1,h2,h3,hz,Ko,List.range_succ]
theorem fQ {α:Type}{E:Bk α}(hE:BT E){ys:List α}{b:Nat}{z u0 u1 u2 u3:Value}{x0 x1 x2 x3:Operand}(ht:P.underlying t=some (.slice e))(hi:TI P e 1 z b)(hz:z.cells=#[z])
  (hx0:Bw N ρ x0=u0) (hx1:Bw N ρ x1=u1) (hx2:Bw N ρ x2=u2) (hx3:Bw N ρ x3=u3) (hl:ys.length=4) (hels:els E w.heap [u0,u1,u2,u3] ys [])
  (hu:Up ops N ρ ⟨some d,.buildSlice t 4 #[(0,x0),(1,x1),(2,x2),(3,x3)],ty,pos,aft,g⟩)
  (h:∀v w1,AB w w1→w1.heap.size=w.heap.size+1→Fr (AY E e) w.heap.size w1.heap.size w1.heap v ys→LW P ops w0 Q os ks (mk N (D3 ρ d v)) w1) :
  LW P ops w0 Q (⟨some d,.buildSlice t 4 #[(0,x0),(1,x1),(2,x2),(3,x3)],ty,pos,aft,g⟩::os) (3::ks) (mk N ρ) w:=by
 have hc:=hels.cells1 hE
 have hr:=ZP (P:=P) (w:=w) ht hi (hc u0 (by simp)).1 (hc u1 (by simp)).1 (hc u2 (by simp)).1 (hc u3 (by simp)).1 hz
 have hrun:(execOp (Bw N ρ) ⟨some d,.buildSlice t 4 #[(0,x0),(1,x1),(2,x2),(3,x3)],ty,pos,aft,g⟩).run P w=.ok (.value (.slice (some ⟨w.heap.size,0,none⟩) 4 4)) (w.alloc (.cells #[u0,u1,u2,u3] e)):=by
  simp only[execOp,zc,zf,zh,Sem.run_bind,hx0,hx1,hx2,hx3,hr,Result.andThen_ok,Sem.run_pure]
 refine MH rfl hu _ _ hrun (BZ _ _)<|h _ _ (BZ _ _) (by simp) ?_
 have hn:=IY (e:=e) (w:=w) hE (us:=[u0,u1,u2,u3]) (xs:=ys) (F:=[]) (cur:=#[u0,u1,u2,u3]) hels (by simp[maxLen]) (by rw[hl];rfl) (by rw[hl];simp)
 rw[hl]at hn
 refine⟨_,hn,?_,fun c hc=>?_⟩
 ·rw[List.nodup_cons]
  exact⟨fun hm=>(by cases hm),zk⟩
 ·rcases ze.1 hc with rfl|hc
  ·exact⟨A9 _,by simp⟩
  ·cases hc
end str
theorem jO {H:Array Obj}{u0 u1 u2 u3:Value}(h0:u0.cells=#[u0]∧u0.oneCell'=true)(h1:u1.cells=#[u1]∧u1.oneCell'=true)(h2:u2.cells=#[u2]∧u2.oneCell'=true)(h3:u3.cells=#[u3]∧u3.oneCell'=true):els rV H [u0,u1,u2,u3] [u0,u1,u2,u3] [] :=
 La fun u hu=>by
  simp only[ze,z2,or_false]at hu
  rcases hu with rfl|rfl|rfl|rfl <;> assumption
theorem ZQ {p q:List Fn}{F v:Int}{e:Ex}(hF:F≤((p.length:Nat):Int)):HQ (p++q) F v e=HQ p F v e:=by
 by_cases h:Gp e.num 0 (F-1)=true
 ·have h1:=Ct.1 h
  have h2:(p++q).getD e.num.toNat Fn.zero=p.getD e.num.toNat Fn.zero:=Hi zO
  unfold HQ
  rw[h2]
 ·unfold HQ
  simp only[Bool.not_eq_true]at h
  simp[h]
mutual
theorem RH {p q:List Fn}{F:Int}(hF:F≤((p.length:Nat):Int)):∀(e:Ex)(v:Int),wf (p++q) F e v=wf p F e v
 |.mk k n c d l,v=>by rw[wf,wf,ZQ hF,Tj hF l]
theorem Tj {p q:List Fn}{F:Int}(hF:F≤((p.length:Nat):Int)):∀(l:List Ex)(b:Bool)(i:Nat)(v:Int),SU (p++q) F b i l v=SU p F b i l v
 |[],_,_,_=>by rw[SU,SU]
 |e::l,b,i,v=>by rw[SU,SU,RH hF e,Tj hF l]
end
structure Qf (p:List Fn)(pl:Bool):Prop where
 len:p.length≤12
 par:∀k,k<p.length→1≤(p.getD k Fn.zero).params∧(p.getD k Fn.zero).params≤3
 outs:∀k,k<p.length→1≤(p.getD k Fn.zero).outs.length∧(p.getD k Fn.zero).outs.length≤3
 wf:∀k,k<p.length→∀j,j<(p.getD k Fn.zero).outs.length→wf p ((k:Nat):Int) ((p.getD k Fn.zero).outs.getD j Ex.zero) (p.getD k Fn.zero).params=true
 dp:∀k,k<p.length→Ex.deeps (p.getD k Fn.zero).outs≤6
 sz:∀k,k<p.length→Ex.sizes (p.getD k Fn.zero).outs≤400
 pl:pl=true→∀k,k<p.length→Rh (p.getD k Fn.zero).outs=true
 nm:∀k,k<p.length→Na (p.getD k Fn.zero).name=true
 nw:∀k,k<p.length→UC p k=true
theorem Qf.nil (pl:Bool):Qf [] pl:=by
 constructor
 ·simp
 all_goals first|(intro _ k hk;simp at hk)|(intro k hk;simp at hk)
theorem Qf.gpr {p:List Fn}{pl:Bool}(h:Qf p pl):jN p :=
 ⟨by have:=h.len;omega,fun k hk=>by have:=h.par k hk;omega,fun k hk=>by have:=h.outs k hk;omega⟩
theorem Qf.snoc {p:List Fn}{pl:Bool}{f:Fn}(h:Qf p pl)(hl:p.length≤11)(hp:1≤f.params∧f.params≤3)(ho:1≤f.outs.length∧f.outs.length≤3)
  (hw:∀j,j<f.outs.length→Go.Proofs.YtbajepcpgncekaaGreat.wf p ((p.length:Nat):Int) (f.outs.getD j Ex.zero) f.params=true) (hd:Ex.deeps f.outs≤6) (hs:Ex.sizes f.outs≤400) (hpl:pl=true→Rh f.outs=true)
  (hn:Na f.name=true) (hnw:∀k,k<p.length→JV (p.getD k Fn.zero).name f.name=false):Qf (p++[f]) pl:=by
 have e:∀k,k<(p++[f]).length→(k<p.length∧(p++[f]).getD k Fn.zero=p.getD k Fn.zero)∨(k=p.length∧(p++[f]).getD k Fn.zero=f):=fun k hk=>by
  rw[z4,zd]at hk
  by_cases h:k<p.length
  ·exact .inl ⟨h,Hi h⟩
  ·exact .inr ⟨zO,GZ zO⟩
 refine⟨by rw[z4,zd];omega,?_,?_,?_,?_,?_,?_,?_,?_⟩
 ·intro k hk;rcases e k hk with⟨h1,h2⟩|⟨h1,h2⟩ <;> rw[h2]
  ·exact h.par k h1
  ·exact hp
 ·intro k hk;rcases e k hk with⟨h1,h2⟩|⟨h1,h2⟩ <;> rw[h2]
  ·exact h.outs k h1
  ·exact ho
 ·intro k hk;rcases e k hk with⟨h1,h2⟩|⟨h1,h2⟩ <;> rw[h2]
  ·intro j hj;rw[RH (by omega)];exact h.wf k h1 j hj
  ·intro j hj;subst h1;rw[RH (by omega)];exact hw j hj
 ·intro k hk;rcases e k hk with⟨h1,h2⟩|⟨h1,h2⟩ <;> rw[h2]
  ·exact h.dp k h1
  ·exact hd
 ·intro k hk;rcases e k hk with⟨h1,h2⟩|⟨h1,h2⟩ <;> rw[h2]
  ·exact h.sz k h1
  ·exact hs
 ·intro hq k hk;rcases e k hk with⟨h1,h2⟩|⟨h1,h2⟩ <;> rw[h2]
  ·exact h.pl hq k h1
  ·exact hpl hq
 ·intro k hk;rcases e k hk with⟨h1,h2⟩|⟨h1,h2⟩ <;> rw[h2]
  ·exact h.nm k h1
  ·exact hn
 ·intro k hk
  rcases e k hk with⟨h1,h2⟩|⟨h1,h2⟩
  ·have:=h.nw k h1
   unfold UC at this ⊢
   rwa [h2,List.take_append_of_le_length (by omega)]
  ·unfold UC
   rw[h2,h1,List.take_left]
   simp only[Bool.not_eq_true',List.any_eq_false]
   intro g hg
   obtain⟨i,hi,rfl⟩:=List.mem_iff_getElem.1 hg
   have:=hnw i hi
   rw[List.getD_eq_getElem?_getD,List.getElem?_eq_getElem hi,Option.getD_some]at this
   simp[this]
structure X6 (p:List Fn)(vars:Int)(pl:Bool)(xs:List Ex)(i:Nat):Prop where
 len:xs.length=i
 wf:∀j,j<i→wf p ((p.length:Nat):Int) (xs.getD j Ex.zero) vars=true
 dp:Ex.deeps xs≤6
 sz:Ex.sizes xs≤i*117
 pl:pl=true→Rh xs=true
theorem X6.nil (p:List Fn)(vars:Int)(pl:Bool):X6 p vars pl [] 0:=⟨rfl,fun j hj=>by omega,by rw[Ex.deeps];omega,by rw[Ex.sizes];omega,fun _=>by rw[Rh]⟩
theorem X6.snoc {p:List Fn}{funcs vars:Int}{pl:Bool}{xs:List Ex}{i d:Nat}{l0 l1:Int}{x:Ex}(h:X6 p vars pl xs i)(hf:funcs=((p.length:Nat):Int))(hd:d≤5)(hl:l0≤30)(hx:Th p funcs vars pl d l0 l1 x):X6 p vars pl (xs++[x]) (i+1):=by
 have hlen:=h.len
 subst hf
 refine⟨by simp[hlen],fun j hj=>?_,?_,?_,fun hp=>?_⟩
 ·by_cases e:j=i
  ·subst e
   rw[GZ hlen.symm];exact hx.wf
  ·rw[Hi (by omega)];exact h.wf j zO
 ·have h1:=h.dp;have h2:=hx.dp
  rw[JT];omega
 ·have h1:=h.sz;have h2:=hx.sz
  rw[HM];omega
 ·rw[QJ,h.pl hp,hx.pl hp];rfl
def Dn (p:List Fn):Prop:=∀k,k<p.length→∃s∈Py,(p.getD k Fn.zero).name=s++KF k
theorem Dn.nil:Dn []:=fun k hk=>by simp at hk
theorem Dn.snoc {p:List Fn}{f:Fn}{s:ByteArray}(h:Dn p)(hs:s∈Py)(hf:f.name=s++KF p.length):Dn (p++[f]):=fun k hk=>by
 rw[z4,zd]at hk
 by_cases e:k<p.length
 ·rw[Hi e];exact h k e
 ·rw[GZ zO,show k=p.length from by omega];exact⟨s,hs,hf⟩
theorem X6.fn {p:List Fn}{pl:Bool}{f:Fn}{s:ByteArray}{i:Nat}(h:Qf p pl)(hd:Dn p)(hl:p.length≤9)(hp:1≤f.params∧f.params≤3)(hi:1≤i∧i≤3)(ho:X6 p f.params pl f.outs i)
  (hs:s∈Py) (hf:f.name=s++KF p.length):Qf (p++[f]) pl∧Dn (p++[f]) :=
 ⟨h.snoc zO hp (by rw[ho.len];exact hi) (fun j hj=>ho.wf j (by rw[← ho.len];exact hj)) ho.dp (by have:=ho.sz;omega) ho.pl (by rw[hf];exact ZM s hs ⟨p.length,zO⟩) (fun k hk=>by
  obtain⟨t,ht,e⟩:=hd k hk
  rw[e,hf]
  exact ZN t ht s hs ⟨k,zO⟩ ⟨p.length,zO⟩ (by show k≠p.length;omega)),hd.snoc hs hf⟩
theorem X7 {x:ByteArray}(h:Value.string x∈[Value.string ⟨#[102]⟩,.string ⟨#[103]⟩,.string ⟨#[115,116,101,112]⟩,.string ⟨#[104,50]⟩]):x∈Py:=by
 simp only[ze,z2,or_false,Value.string.injEq]at h
 rcases h with h|h|h|h <;> subst h <;> simp[Py]
theorem oI:IJ 5=47770:=by decide
theorem oJ:Oa 5=1365:=by decide
theorem jP:IJ 4=11930:=by decide
theorem jQ:Oa 4=341:=by decide
theorem Pz (e:TypeId):∀ {d:Nat}{H:Array Obj}{cs:List Value}{x:Ex}{F:List Nat},FD e d H cs x F→FD e (d+1) H cs x F
 |0,_,_,_,_,h=>h.elim
 |d+1,_,_,_,_,⟨v,h1,h2,h3⟩=>⟨v,h1,h2,h3.imp fun h=>Pz e h⟩
theorem X8 (e:TypeId){d:Nat}{H:Array Obj}{cs:List Value}{x:Ex}{F:List Nat}(h:FD e d H cs x F):∀ {d':Nat},d≤d'→FD e d' H cs x F:=by
 intro d' hd
 induction hd with
 |refl=>exact h
 |step _ ih=>exact Pz e ih
theorem L6.le {e:TypeId}{d d' B U:Nat}{H:Array Obj}{cs:List Value}{x:Ex}(h:L6 (FD e d) B U H cs x)(hd:d≤d'):L6 (FD e d') B U H cs x:=by
 obtain⟨G,h1,h2,h3⟩:=h
 exact⟨G,X8 e h1 hd,h2,h3⟩
theorem Qf.npl {p:List Fn}{pl:Bool}(h:Qf p pl):Qf p false:=⟨h.len,h.par,h.outs,h.wf,h.dp,h.sz,fun h=>absurd h (by decide),h.nm,h.nw⟩
section res
variable {P:Program} {N:Nat} {ρ:Nat→Value} {w:World}
theorem X9:∀(l:List Nat),(((l.map ResultVar.tmp).mapM (m:=Sem) fun
  |.tmp t=>pure ((mk N ρ).tmps.getD t undef)
  |.cell a t=>do loadVar t (← asAddr ((mk N ρ).tmps.getD a undef)))).run P w=.ok (l.map fun t=>Bw N ρ (.tmp t)) w:=by
 intro l
 induction l with
 |nil=>rfl
 |cons t l ih =>
  simp only[zf,List.mapM_cons,Sem.run_bind,Sem.run_pure,Result.andThen_ok,Me]at ih ⊢
  rw[ih]
  rfl
theorem Lr {fn:Func}{R:Ending→World→Prop}{k s b t0:Nat}{ts:List Nat}{ty:TypeId}{cs:List Value}(vs:List Value)(hr:fn.results=(ResultVar.cell k ty::((t0::ts).map ResultVar.tmp)).toArray)(ha:EA P ty s=true)(hv:Bw N ρ (.tmp k)=.pointer (some ⟨b,0,none⟩))(hb:BX w.heap b cs)(hl:cs.length=s)
  (hvs:((t0::ts).map fun t=>Bw N ρ (.tmp t))=vs) (h:R (.returned (.tuple (.agg cs.toArray::vs).toArray)) w):bodyPost P fn R .ret (mk N ρ) w:=by
 subst hvs
 refine⟨rfl,_,?_,h⟩
 have hld:=Kr (P:=P) ha (LD.of_box hb) hl
 have hg:(mk N ρ).tmps.getD k undef=.pointer (some ⟨b,0,none⟩):=by rw[Me,hv]
 have hi:(asAddr (.pointer (some ⟨b,0,none⟩))).run P w=.ok ⟨b,0,none⟩ w:=rfl
 have key:=X9 (P:=P) (N:=N) (ρ:=ρ) (w:=w) (t0::ts)
 unfold results
 rw[hr]
 simp only[List.mapM_toArray,Sem.run_bind,Sem.run_map]
 have hfull:(((ResultVar.cell k ty::((t0::ts).map ResultVar.tmp)).mapM (m:=Sem) fun
  |.tmp t=>pure ((mk N ρ).tmps.getD t undef)
  |.cell a t=>do loadVar t (← asAddr ((mk N ρ).tmps.getD a undef)))).run P w=.ok (.agg cs.toArray::((t0::ts).map fun t=>Bw N ρ (.tmp t))) w:=by
  rw[List.mapM_cons]
  simp only[Sem.run_bind,Sem.run_pure,hg,hi,hld,Result.andThen_ok]
  rw[key]
  rfl
 refine (congrArg (fun r=>(Result.andThen (Result.andThen r fun a w'=>Result.ok a.toArray w') fun a w'=>Result.ok (if h:a.size=1 then a[0]else Value.tuple a) w')) hfull).trans ?_
 simp only[Result.andThen_ok]
 rfl
end res
end
section
set_option linter.unusedSectionVars false
namespace Jx
section
variable [J:JR] {P:Program} {ops:Array Oper} {md:Region.Mode} {kd bs:Nat→Nat} {w0:World} {Q:Act→World→Prop}
theorem Mo {Q':Act→World→Prop}(h:∀a w,Q a w→Q' a w):∀(l:List Nat)(a:Act)(w:World),LI P ops kd w0 Q l a w→LI P ops kd w0 Q' l a w
 |[],a,w,hh=>h a w hh
 |i::l,a,w,hh=>by
  simp only[LI]at hh ⊢
  cases hoi:ops[i]? with
  |none=>rw[hoi]at hh;exact hh.elim
  |some o =>
   rw[hoi]at hh
   simp only at hh ⊢
   split
   ·rename_i hw
    rw[if_pos hw]at hh
    exact hh.mono fun a w=>Mo h l a w
   ·rename_i hw
    rw[if_neg hw]at hh
    exact Mo h l _ _ hh
theorem Nb (s:List Nat):∀(l:List Nat)(a:Act)(w:World),LI P ops kd w0 (LI P ops kd w0 Q s) l a w→LI P ops kd w0 Q (l++s) a w
 |[],a,w,hh=>hh
 |i::l,a,w,hh=>by
  simp only[LI,List.cons_append]at hh ⊢
  cases hoi:ops[i]? with
  |none=>rw[hoi]at hh;exact hh.elim
  |some o =>
   rw[hoi]at hh
   simp only at hh ⊢
   split
   ·rename_i hw
    rw[if_pos hw]at hh
    exact hh.mono fun a w=>Nb s l a w
   ·rename_i hw
    rw[if_neg hw]at hh
    exact Nb s l _ _ hh
theorem DQ {Q':Act→World→Prop}(hQ:∀a w,Q a w→Q' a w):∀(l:List Nat)(os:List Oper)(ks:List Nat)(a:Act)(w:World),Mt ops kd l os ks→LW P ops w0 Q os ks a w→LI P ops kd w0 Q' l a w
 |[],[],_,a,w,_,h=>by simpa [LI]using hQ a w (by simpa [LW]using h)
 |x::l,o::os,k::ks,a,w,⟨h0,hk,hM⟩,h=>by
  have hr:∀a w,LW P ops w0 Q os ks a w→LI P ops kd w0 Q' l a w:=fun a w hh=>DQ hQ l os ks a w hM hh
  simp only[LI,h0,LW]at h ⊢
  split
  ·rename_i hw
   rw[if_pos hw]at h
   rw[hk]
   exact h.mono hr
  ·rename_i hw
   rw[if_neg hw]at h
   exact hr _ _ h
 |[],_::_,_,_,_,h,_=>h.elim
 |_::_,[],_,_,_,h,_=>h.elim
 |_::_,_::_,[],_,_,h,_=>h.elim
structure RJ (ops:Array Oper)(kd bs:Nat→Nat)(w0:World)(L0 S:List Nat)(n:Nat)(l:List Nat)(listed:Array Bool)(w:World):Prop where
 sub:l.Sublist L0
 len:l.length+S.length=n
 mem:∀i,i∈l++S↔listed.getD i true=false
 sz:listed.size=ops.size
 clo:JM bs listed
 inv:L8 kd w0 w (l++S)
 nd:(l++S).Nodup
variable {L0:List Nat}
theorem ZR {l:List Nat}(hp:l.Pairwise (fun x y=>4≤kd x→kd y≠1)):JL kd l:=by
 intro l1 i l2 hl hk j hj
 subst hl
 exact List.rel_of_pairwise_cons (List.pairwise_append.1 hp).2.1 hj hk
theorem Nc (hsel:∀(j:Nat)(o:Oper) cs b,ops[j]? = some o→o.op≠.select cs b)(hS:LP md ops bs)
  (hlex:∀j oj,ops[j]? = some oj→∀e∈oj.after,Region.binds md e=true→e.on<j) {s:List Nat} (hp:(L0++s).Pairwise (CZ md ops kd bs)) (h14:(L0++s).Pairwise (fun x y=>4≤kd x→kd y≠1))
  (n:Nat) (l:List Nat) (listed:Array Bool) (a:Act) (w:World) (hC:RJ ops kd bs w0 L0 s n l listed w) (h:LI P ops kd w0 (LI P ops kd w0 Q s) l a w):wpAny P md ops (NQ Q) n listed a w :=
 Em hsel hS hlex n (l++s) listed a w (by rw[z4];exact hC.len) (hp.sublist (List.Sublist.append_right hC.sub s)) hC.nd hC.sz hC.mem hC.clo
  (ZR (h14.sublist (List.Sublist.append_right hC.sub s))) hC.inv (Nb s l a w h)
theorem Ls (hsel:∀ (j:Nat) (o:Oper) cs b,ops[j]? = some o→o.op≠.select cs b) (hS:LP md ops bs)
  (hlex:∀ j oj,ops[j]? = some oj→∀ e∈oj.after,Region.binds md e = true→e.on < j)
  {h1 h2:Nat} {S1 S2:List Nat} {Q1 Q2:Act→World→Prop} (hperm:(h1 :: S1).Perm (h2 :: S2)) (hk1:kd h1 = 3) (hk2:kd h2 = 3)
  (hl:∀ x∈L0,kd x≤2) (hL:L0.Pairwise (CZ md ops kd bs)) (hf1:∀ x∈L0,CZ md ops kd bs x h1) (hf2:∀ x∈L0,CZ md ops kd bs x h2)
  (hz:∀ z∈S1,z = h2∨(bs z).testBit h1 = true∨(bs z).testBit h2 = true)
  (hord:(L0++h1 :: S1).Pairwise (fun x y=>∀ ox,ops[x]? = some ox→∀ e∈ox.after,Region.binds md e = true→e.on≠y))
  (rec1:∀ n l listed a w,RJ ops kd bs w0 L0 S1 n l listed w→LI P ops kd w0 Q1 l a w→wpAny P md ops (NQ Q) n listed a w)
  (rec2:∀ n l listed a w,RJ ops kd bs w0 L0 S2 n l listed w→LI P ops kd w0 Q2 l a w→wpAny P md ops (NQ Q) n listed a w) :
  ∀ (n:Nat) (l:List Nat) (listed:Array Bool) (a:Act) (w:World),RJ ops kd bs w0 L0 (h1 :: S1) n l listed w→LI P ops kd w0 (fun a w=>LI P ops kd w0 Q1 [h1] a w∧LI P ops kd w0 Q2 [h2] a w) l a w→wpAny P md ops (NQ Q) n listed a w
 | 0,l,listed,a,w,hC,h=>by have:=hC.len; simp at this
 | n + 1,l,listed,a,w,hC,h=>by
  have hm2:∀ i,i∈l++h1 :: S1↔i∈l++h2 :: S2:=fun i=>by
   simp only [zi]; rw [hperm.mem_iff]
  have hun_of:∀ i∈l++h1 :: S1,listed.getD i true = false:=fun i hi=>(hC.mem i).1 hi
  -- a place that makes memory is taken
  have heavy:∀ (x:Nat) (T:List Nat) (Qx:Act→World→Prop),kd x = 3→(h1 :: S1).Perm (x :: T)→(∀ y∈L0,CZ md ops kd bs y x)→LI P ops kd w0 Qx (l++[x]) a w →
    (∀ l' a' w' listed',RJ ops kd bs w0 L0 T n l' listed' w'→LI P ops kd w0 Qx l' a' w'→wpAny P md ops (NQ Q) n listed' a' w') →
    ∀ (ox:Oper),ops[x]? = some ox→(∀ e∈ox.after,Region.binds md e = true→listed.getD e.on false = true)→wpOp P ops (NQ Q) x (wpAny P md ops (NQ Q) n (listed.setIfInBounds x true)) a w:=by
   intro x T Qx hkx hpx hfx hLx hrec ox hox hall
   have hbits:=E4 hS hC.clo hox hall
   have hxm:x∈l++h1 :: S1:=z1 _ (hpx.mem_iff.2 (z0 ..))
   have hxu:=hun_of x hxm
   have hfree:=De (kd:=kd) (l1:=l) hox (fun y hy=>(hfx y<|hC.sub.subset hy).1) (fun y hy=>hun_of y<|z8 _ hy) hbits
   have hsz:=CJ hxu
   have hnd2:(l++x :: T).Nodup:=(List.Perm.append_left l hpx).nodup_iff.1 hC.nd
   have hxl:x∉l++T:=by
    have h1:=List.nodup_append.1 hnd2
    intro hmem
    rcases zi.1 hmem with hh | hh
    ·exact h1.2.2 x hh x (z0 ..) rfl
    ·exact (List.nodup_cons.1 h1.2.1).1 hh
   have hmT:∀ i,i∈l++x :: T↔listed.getD i true = false:=fun i=>by
    rw [← hC.mem i]; simp only [zi]; rw [hpx.mem_iff]
   have hcond:∀ w',(AB w w')→RJ ops kd bs w0 L0 T n l (listed.setIfInBounds x true) w':=fun w' hE =>
    ⟨hC.sub,by have:=hC.len; have:=hpx.length_eq; simp at *; omega,EU hmT hxl hsz,by simpa using hC.sz,Ef hC.clo hbits,
     fun ⟨j,hj,hkj⟩=>(hC.inv ⟨j,by
      rcases zi.1 hj with hh | hh
      ·exact z8 _ hh
      ·exact z1 _ (hpx.mem_iff.2 (z3 _ hh)),hkj⟩).trans hE,
     hnd2.sublist (List.Sublist.append_left (List.sublist_cons_self _ _) _)⟩
   obtain ⟨g1,g2⟩:=Jt (Q:=Qx) hsel hox zO l [] a w hfree (by simpa using hLx)
   unfold wpOp
   rw [hox]
   by_cases hw:Region.wanted ox (yielded ops a.tmps) = true
   ·simp only [hw,if_true]
    exact .inl<|Oper.wp_mono (fun a' w' hK=>hrec l a' w' _ (hcond w'<|hK.1 hkx) (by simpa using hK.2))<|HI<|g1 hw
   ·simp only [hw,Bool.false_eq_true,if_false]
    exact hrec l _ w _ (hcond w<|AB.refl w) (by simpa using g2 (by simpa using hw))
  refine ⟨fun h0=>?_,fun i hi=>?_⟩
  ·exfalso
   have hready:∀ (x:Nat) (t:List Nat),l++h1 :: S1 = x :: t→False:=fun x t ht=>by
    have hs:(x :: t).Pairwise (fun x y=>∀ ox,ops[x]? = some ox→∀ e∈ox.after,Region.binds md e = true→e.on≠y):=ht ▸ hord.sublist (List.Sublist.append_right hC.sub _)
    have:=HJ (md:=md) (i:=x) (l:=t) hC.sz (fun y=>ht ▸ hC.mem y) hlex (fun y hy ox hox=>(List.pairwise_cons.1 hs).1 y hy ox hox)
    rw [h0] at this
    cases this
   cases l with
   | nil=>exact hready _ _ rfl
   | cons x l=>exact hready x (l++h1 :: S1) rfl
  ·obtain ⟨hun,oi,hoi,hall⟩:=mem_ready.1 hi
   have hmem:=(hC.mem i).2 hun
   have hbits:=E4 hS hC.clo hoi hall
   by_cases hil:i∈l
   ·obtain ⟨l1,l2,rfl⟩:=List.append_of_mem hil
    have hpi:∀ x∈l1,CZ md ops kd bs x i:=fun x hx=>(List.pairwise_append.1 (hL.sublist hC.sub)).2.2 x hx i (z0 ..)
    have hfree:=De (kd:=kd) (l1:=l1) hoi (fun x hx=>(hpi x hx).1) (fun x hx=>hun_of x (by simp [hx])) hbits
    have hk:kd i≤2:=hl i (hC.sub.subset (by simp))
    have hsub0:(l1++l2).Sublist (l1++i :: l2):=List.Sublist.append_left (List.sublist_cons_self _ _) _
    have hnd1:(l1++i :: (l2++h1 :: S1)).Nodup:=by have:=hC.nd; rwa [List.append_assoc,List.cons_append] at this
    have hnot:i∉l1++(l2++h1 :: S1):=by
     have h1:=List.nodup_append.1 hnd1
     intro hmem
     rcases zi.1 hmem with hh | hh
     ·exact h1.2.2 i hh i (z0 ..) rfl
     ·exact (List.nodup_cons.1 h1.2.1).1 hh
    have hm1:∀ x,x∈l1++i :: (l2++h1 :: S1)↔listed.getD x true = false:=fun x=>by
     have:=hC.mem x; rwa [List.append_assoc,List.cons_append] at this
    have hcond:RJ ops kd bs w0 L0 (h1 :: S1) n (l1++l2) (listed.setIfInBounds i true) w :=
     ⟨hsub0.trans hC.sub,by have:=hC.len; simp at *; omega,fun x=>by rw [List.append_assoc]; exact EU hm1 hnot (CJ hun) x,by simpa using hC.sz,Ef hC.clo hbits,
      fun ⟨j,hj,hkj⟩=>hC.inv ⟨j,by
       rcases zi.1 hj with hh | hh
       ·exact z8 _<|hsub0.subset hh
       ·exact z1 _ hh,hkj⟩,
      hC.nd.sublist (List.Sublist.append_right hsub0 _)⟩
    obtain ⟨v,hv,hL'⟩:=Ia hsel hoi hk l1 l2 a w hfree (fun h1=>hC.inv ⟨i,by simp,h1⟩) h
    unfold wpOp
    rw [hoi]
    have rec_:=fun a' hh=>Ls hsel hS hlex hperm hk1 hk2 hl hL hf1 hf2 hz hord rec1 rec2 n (l1++l2) (listed.setIfInBounds i true) a' w hcond hh
    rcases hv with ⟨hw,hy⟩ | ⟨hw,rfl⟩
    ·simp only [hw,if_true]
     exact .inl<|Iv (hy w (Cl.self fun h1=>hC.inv ⟨i,by simp,h1⟩))<|rec_ _ hL'
    ·simp only [hw,Bool.false_eq_true,if_false]
     exact rec_ _ hL'
   ·have hiS:i∈h1 :: S1:=(zi.1 hmem).resolve_left hil
    have h12:i = h1∨i = h2:=by
     rcases ze.1 hiS with hh | hh
     ·exact .inl hh
     ·rcases hz i hh with hh | hh | hh
      ·exact .inr hh
      ·have q1:=hbits h1 hh
       have q2:=Df<|hun_of h1 (by simp)
       rw [q1] at q2; cases q2
      ·have q1:=hbits h2 hh
       have q2:=Df<|hun_of h2 ((hm2 h2).2 (by simp))
       rw [q1] at q2; cases q2
    rcases h12 with rfl | rfl
    ·exact heavy i S1 Q1 hk1 (List.Perm.refl _) hf1 (Nb [i] l a w<|Mo (fun _ _ hh=>hh.1) l a w h) (fun l' a' w' li hc hh=>rec1 n l' li a' w' hc hh) oi hoi hall
    ·exact heavy i S2 Q2 hk2 hperm hf2 (Nb [i] l a w<|Mo (fun _ _ hh=>hh.2) l a w h) (fun l' a' w' li hc hh=>rec2 n l' li a' w' hc hh) oi hoi hall
theorem PA (x:Nat)(l:List Nat)(a:Act)(w:World)(hh:LI P ops kd w0 Q (x::l) a w):LI P ops kd w0 (LI P ops kd w0 Q l) [x] a w:=by
 simp only[LI]at hh ⊢
 cases hoi:ops[x]? with
 |none=>rw[hoi]at hh;exact hh.elim
 |some o =>
  rw[hoi]at hh
  simp only at hh ⊢
  split
  ·rename_i hw
   rw[if_pos hw]at hh
   exact hh.mono fun a w h=>h
  ·rename_i hw
   rw[if_neg hw]at hh
   exact hh
end
def Tk (ops:Array Oper)(x y:Nat):Bool:=match ops[x]? with|some ox=>ox.after.all fun e=>!Region.binds .any e || e.on != y|none=>true
def jR (os:List Oper)(ks:List Nat)(L0:List Nat)(h1 g1:Nat)(r1:List Nat)(g2:Nat)(r2:List Nat)(h2:Nat)(r3:List Nat):Bool :=
  let ops:=os.toArray
  let b:=(Region.before ops).toList
  Region.noSelect ops &&
  (os.zipIdx.all fun(o,j) =>
    (o.after.all fun e=>!Region.binds .any e || decide (e.on<j)) &&
    (let m:=o.after.foldl (fun s e=>if Region.binds .any e then s ||| 2 ^ e.on ||| b.getD e.on 0 else s) 0
     (b.getD j 0 == m))) &&
  (decide (ks.getD h1 0=3) && (decide (ks.getD h2 0=3) && (decide (ks.getD g1 0=3) && decide (ks.getD g2 0=3)))) &&
  (L0.all fun x=>decide (ks.getD x 0≤2)) &&
  Qd (Hg ops ks b) L0 &&
  (L0.all fun x=>Hg ops ks b x h1 && (Hg ops ks b x h2 && (Hg ops ks b x g1 && Hg ops ks b x g2))) &&
  ((h1::g1::r1).isPerm (h2::r3) && (g1::r1).isPerm (g2::r2)) &&
  ((g1::r1).all fun z=>decide (z=h2) || ((b.getD z 0).testBit h1 || (b.getD z 0).testBit h2)) &&
  (r1.all fun z=>decide (z=g2) || ((b.getD z 0).testBit g1 || (b.getD z 0).testBit g2)) &&
  (Qd (Tk ops) (L0++h1::g1::r1)) &&
  (Qd (Hg ops ks b) (L0++r1) && (Qd (Hg ops ks b) (L0++r2) && Qd (Hg ops ks b) (L0++r3))) &&
  (Qd (fun x y=>!(decide (4≤ks.getD x 0)) || ks.getD y 0 != 1) (L0++r1) && (Qd (fun x y=>!(decide (4≤ks.getD x 0)) || ks.getD y 0 != 1) (L0++r2) && Qd (fun x y=>!(decide (4≤ks.getD x 0)) || ks.getD y 0 != 1) (L0++r3))) &&
  (decide ((L0++h1::g1::r1).length=os.length) && (decide (L0++h1::g1::r1).Nodup && ((L0++h1::g1::r1).all (fun x=>decide (x<os.length)) && (List.range os.length).all fun x=>(L0++h1::g1::r1).contains x)))
section
variable [J:JR] {P:Program}
theorem jS {id:Nat}{Q:Exit→Act→World→Prop}{a:Act}{w:World}(os:List Oper)(ks:List Nat)(L0:List Nat)(h1 g1:Nat)(r1:List Nat)(g2:Nat)(r2:List Nat)(h2:Nat)(r3:List Nat)
  (oL:List Oper) (kL:List Nat) (oh1 og1:Oper) (o1:List Oper) (k1:List Nat) (og2:Oper) (o2:List Oper) (k2:List Nat) (oh2:Oper) (o3:List Oper) (k3:List Nat) (hm:P.follows .mixedOrders=true) (hB:jR os ks L0 h1 g1 r1 g2 r2 h2 r3=true)
  (hML:Mt os.toArray (fun i=>ks.getD i 0) L0 oL kL) (hMh:Mt os.toArray (fun i=>ks.getD i 0) [h1] [oh1] [3]) (hM1:Mt os.toArray (fun i=>ks.getD i 0) (g1::r1) (og1::o1) (3::k1)) (hM2:Mt os.toArray (fun i=>ks.getD i 0) (g2::r2) (og2::o2) (3::k2)) (hM3:Mt os.toArray (fun i=>ks.getD i 0) (h2::r3) (oh2::o3) (3::k3))
  (h:LW P os.toArray w.drew (fun a' w'=>LW P os.toArray w.drew (fun a'' w''=>LW P os.toArray w.drew (fun a w=>Q .normal a w) (og1::o1) (3::k1) a'' w''∧LW P os.toArray w.drew (fun a w=>Q .normal a w) (og2::o2) (3::k2) a'' w'') [oh1] [3] a' w' ∧
   LW P os.toArray w.drew (fun a w=>Q .normal a w) (oh2::o3) (3::k3) a' w') oL kL a w.drew):(Code.region id os.toArray true).wp P Q a w:=by
 refine wp_region_any hm ?_
 simp only[jR,z7,decide_eq_true_eq]at hB
 obtain⟨⟨⟨⟨⟨⟨⟨⟨⟨⟨⟨⟨hsel,hpl⟩,hk1,hk2,hk3,hk4⟩,hl⟩,hpL⟩,hpx⟩,hpe1,hpe2⟩,hz1⟩,hz2⟩,hord⟩,hb1,hb2,hb3⟩,hn1,hn2,hn3⟩,hln,hnd,hlt,hct⟩:=hB
 have hz:∀ {j:Nat} {o:Oper},os.toArray[j]? = some o→(o,j)∈os.zipIdx:=by
  intro j o ho
  rw[List.mem_zipIdx_iff_getElem?]
  simpa using ho
 have hall:∀j oj,os.toArray[j]? = some oj→_:=fun j oj hj=>zm.1 hpl _ (hz hj)
 have hlex:∀j oj,os.toArray[j]? = some oj→∀e∈oj.after,Region.binds .any e=true→e.on<j:=by
  intro j oj hj e he hb
  have h1:=(z7 _ _ ▸ hall j oj hj:_∧_).1
  have h2:=(Array.all_eq_true_iff_forall_mem.1 h1) e he
  simpa [hb]using h2
 have hS:LP .any os.toArray (fun j=>(Region.before os.toArray).toList.getD j 0):=by
  intro j oj hj i hb
  have h3:=(z7 _ _ ▸ hall j oj hj:_∧_).2
  have h5:(Region.before os.toArray).toList.getD j 0=oj.after.foldl (fun s e=>if Region.binds .any e then s ||| 2 ^ e.on ||| (Region.before os.toArray).toList.getD e.on 0 else s) 0:=by simpa using h3
  dsimp only at hb
  rw[h5,← Array.foldl_toList]at hb
  rcases Gh _ _ _ _ hb with hb|⟨e,he,hbb,hh⟩
  ·simp at hb
  ·exact⟨e,Array.mem_toList_iff.1 he,hbb,hh⟩
 have hmem:∀x,x∈L0++h1::g1::r1↔x<os.length:=fun x=>by
  constructor
  ·intro hx;exact of_decide_eq_true (zm.1 hlt x hx)
  ·intro hx
   have:=zm.1 hct x (List.mem_range.2 hx)
   simpa using this
 have hse:=Region.noSelect_spec hsel
 have P2:∀ {l:List Nat},Qd (Hg os.toArray ks (Region.before os.toArray).toList) l=true→l.Pairwise (CZ .any os.toArray (fun i=>ks.getD i 0) (fun j=>(Region.before os.toArray).toList.getD j 0)):=fun h=>Gj (fun x y hh=>Eg hh) h
 have N2:∀ {l:List Nat},Qd (fun x y=>!(decide (4≤ks.getD x 0)) || ks.getD y 0 != 1) l=true→l.Pairwise (fun x y=>4≤ks.getD x 0→ks.getD y 0≠1):=fun h=>Gj (fun x y hxy h4=>by
  rcases Bool.or_eq_true_iff.1 hxy with hh|hh
  ·simp only[Bool.not_eq_true',decide_eq_false_iff_not]at hh;exact absurd h4 hh
  ·simpa using hh) h
 have hL2:∀x∈L0,ks.getD x 0≤2:=fun x hx=>of_decide_eq_true (zm.1 hl x hx)
 have hx4:∀x∈L0,_:=fun x hx=>zm.1 hpx x hx
 simp only[z7]at hx4
 have hordP:(L0++h1::g1::r1).Pairwise (fun x y=>∀ox,os.toArray[x]? = some ox→∀e∈ox.after,Region.binds .any e=true→e.on≠y):=Gj (fun x y hh ox hox e he hb=>by
  unfold Tk at hh
  rw[hox]at hh
  have:=(Array.all_eq_true_iff_forall_mem.1 hh) e he
  simpa [hb]using this) hord
 have hord2:(L0++g1::r1).Pairwise (fun x y=>∀ox,os.toArray[x]? = some ox→∀e∈ox.after,Region.binds .any e=true→e.on≠y):=hordP.sublist (List.Sublist.append_left (List.sublist_cons_self _ _) _)
 have zz1:∀z∈g1::r1,z=h2∨((Region.before os.toArray).toList.getD z 0).testBit h1=true∨((Region.before os.toArray).toList.getD z 0).testBit h2=true:=fun z hz=>by
  have:=zm.1 hz1 z hz
  simpa only[Bool.or_eq_true,decide_eq_true_eq]using this
 have zz2:∀z∈r1,z=g2∨((Region.before os.toArray).toList.getD z 0).testBit g1=true∨((Region.before os.toArray).toList.getD z 0).testBit g2=true:=fun z hz=>by
  have:=zm.1 hz2 z hz
  simpa only[Bool.or_eq_true,decide_eq_true_eq]using this
 have base1:=Nc (P:=P) (w0:=w.drew) (Q:=fun a w=>Q .normal a w) hse hS hlex (P2 hb1)<|N2 hn1
 have base2:=Nc (P:=P) (w0:=w.drew) (Q:=fun a w=>Q .normal a w) hse hS hlex (P2 hb2)<|N2 hn2
 have base3:=Nc (P:=P) (w0:=w.drew) (Q:=fun a w=>Q .normal a w) hse hS hlex (P2 hb3)<|N2 hn3
 have inner:=Ls (P:=P) (w0:=w.drew) (Q:=fun a w=>Q .normal a w) hse hS hlex (h1:=g1) (h2:=g2) (S1:=r1) (S2:=r2) (List.isPerm_iff.1 hpe2) hk3 hk4 hL2 (P2 hpL) (fun x hx=>Eg (hx4 x hx).2.2.1) (fun x hx=>Eg (hx4 x hx).2.2.2) zz2 hord2 base1 base2
 have outer:=Ls (P:=P) (w0:=w.drew) (Q:=fun a w=>Q .normal a w) hse hS hlex (h1:=h1) (h2:=h2) (S1:=g1::r1) (S2:=r3) (List.isPerm_iff.1 hpe1) hk1 hk2 hL2 (P2 hpL) (fun x hx=>Eg (hx4 x hx).1) (fun x hx=>Eg (hx4 x hx).2.1) zz1 hordP inner base3
 have key:=outer os.length L0 (Array.replicate os.length false) a w.drew ⟨List.Sublist.refl _,by rw[← hln,z4],fun x=>?_,by simp,?_,fun _=>AB.refl _,hnd⟩ ?_
 ·have:=HK _ _ _ _ key
  simpa using this
 ·rw[hmem]
  constructor
  ·intro hx;simp[hx]
  ·intro hh
   rcases Nat.lt_or_ge x os.length with h'|h'
   ·exact h'
   ·simp[Array.getElem?_eq_none (show(Array.replicate os.length false).size≤x by simpa using h')]at hh
 ·intro i hi
  rcases Nat.lt_or_ge i os.length with h'|h'
  ·simp[h']at hi
  ·simp[Array.getElem?_eq_none (show(Array.replicate os.length false).size≤i by simpa using h')]at hi
 ·refine DQ (fun a w hh=>⟨?_,?_⟩) _ _ _ _ _ hML h
  ·exact DQ (fun a w hh=>⟨PA _ _ _ _<|DQ (fun _ _ h=>h) _ _ _ _ _ hM1 hh.1,PA _ _ _ _<|DQ (fun _ _ h=>h) _ _ _ _ _ hM2 hh.2⟩) _ _ _ _ _ hMh hh.1
  ·exact PA _ _ _ _<|DQ (fun _ _ h=>h) _ _ _ _ _ hM3 hh.2
theorem qX {ops:Array Oper}{w0:World}{Q:Act→World→Prop}{o:Oper}{os:List Oper}{ks:List Nat}{a:Act}{w:World}(h:_root_.Go.Proofs.YtbajepcpgncekaaGreat.LW P ops w0 (fun a' w'=>AB w w'∧LW P ops w0 Q os ks a' w') [o] [4] a w):LW P ops w0 Q (o::os) (3::ks) a w:=by
 simp only[_root_.Go.Proofs.YtbajepcpgncekaaGreat.LW]at h
 simp only[LW]
 split
 ·rename_i hw
  rw[if_pos hw]at h
  unfold _root_.Go.Proofs.YtbajepcpgncekaaGreat.BY at h
  unfold BY
  rw[if_neg (by decide),if_neg (by decide)]at h
  rw[if_neg (by decide),if_pos rfl]
  exact h
 ·rename_i hw
  rw[if_neg hw]at h
  exact h.2
theorem oK {ops:Array Oper}{w0:World}{Q:Act→World→Prop}{o:Oper}{os:List Oper}{ks:List Nat}{a:Act}{w:World}(h:_root_.Go.Proofs.YtbajepcpgncekaaGreat.LW P ops w0 (fun a' w'=>LW P ops w0 Q os ks a' w') [o] [3] a w):LW P ops w0 Q (o::os) (3::ks) a w:=by
 simp only[_root_.Go.Proofs.YtbajepcpgncekaaGreat.LW]at h
 simp only[LW]
 split
 ·rename_i hw
  rw[if_pos hw]at h
  unfold _root_.Go.Proofs.YtbajepcpgncekaaGreat.BY at h
  unfold BY
  rw[if_neg (by decide),if_pos rfl]at h
  rw[if_neg (by decide),if_pos rfl]
  exact Oper.wp_mono (fun a w hh=>⟨J.ext hh.1,hh.2⟩) h
 ·rename_i hw
  rw[if_neg hw]at h
  exact h
end
end Jx
end
section
structure AM where
 op:Int
 a:Int
 b:Int
 num:Int
def AM.zero:AM:=⟨0,0,0,0⟩
structure RK where
 reg:Int
 z:Bool
def RK.zero:RK:=⟨0,false⟩
structure Tp where
 code:List AM
 grd:List RK
 vals:List Int
def nS (x:AM):List Value:=[.int .i64 x.op,.int .i64 x.a,.int .i64 x.b,.int .i64 x.num]
def oN (x:RK):List Value:=[.int .i64 x.reg,.bool x.z]
def ZS (x:AM):Prop:=BI x.op∧BI x.a∧BI x.b∧BI x.num
def RM:BW AM:=fun _ cs x F=>cs=nS x∧ZS x∧F=[]
def Tl:BW RK:=fun _ cs x F=>cs=oN x∧BI x.reg∧F=[]
theorem AT:Cw 4 RM where
 len:=fun h=>by rw[h.1];rfl
 one:=fun h u hu=>by
  rw[h.1]at hu
  simp only[nS,ze,z2,or_false]at hu
  rcases hu with rfl|rfl|rfl|rfl <;> exact⟨rfl,rfl⟩
 lt:=fun h b hb=>by rw[h.2.2]at hb;cases hb
 stable:=fun h _=>h
theorem B1:Cw 2 Tl where
 len:=fun h=>by rw[h.1];rfl
 one:=fun h u hu=>by
  rw[h.1]at hu
  simp only[oN,ze,z2,or_false]at hu
  rcases hu with rfl|rfl <;> exact⟨rfl,rfl⟩
 lt:=fun h b hb=>by rw[h.2.2]at hb;cases hb
 stable:=fun h _=>h
theorem Xa {B U:Nat}{H:Array Obj}{x:AM}(h:ZS x):L6 RM B U H (nS x) x:=⟨[],⟨rfl,h,rfl⟩,zk,fun b hb=>by cases hb⟩
theorem fR {B U:Nat}{H:Array Obj}{x:RK}(h:BI x.reg):L6 Tl B U H (oN x) x:=⟨[],⟨rfl,h,rfl⟩,zk,fun b hb=>by cases hb⟩
section ops
variable {P:Program} {ops:Array Oper} {w0:World} {Q:Act→World→Prop} {os:List Oper} {ks:List Nat} {N:Nat} {ρ:Nat→Value} {w:World}
 {d:Nat} {ty:TypeId} {pos:String} {aft:Array Edge} {g:Option (Nat×Bool)} {t e:TypeId} {z:Value} {b s:Nat}
theorem PB {α:Type}{E:BW α}(hE:Cw s E){x y:Operand}{v a:Value}{xs:List α}{y0:α}{B T B' U':Nat}{F:List Nat}(ht:P.underlying t=some (.slice e))(hi:TI P e s z b)(hz:z.cells.size=s)(hs:0<s)(hx:Bw N ρ x=v)(hy:Bw N ρ y=a)(hv:Ow (D7 s E e) B T w.heap v xs F)
  (ha:Fr (D7 s E e) B' U' w.heap a [y0]) (hT:T≤B') (hB:B≤B') (hBw:B≤w.heap.size) (hbytes:(xs.length+1)*b≤140737488355328) (hmx:xs.length+1≤maxLen) (hu:Up ops N ρ ⟨some d,.call ⟨.builtin .append,#[x,y],#[t,t]⟩,ty,pos,aft,g⟩)
  (h:∀v1 w1 F1,Az F w w1→Ow (D7 s E e) B w1.heap.size w1.heap v1 (xs++[y0]) F1→(∀c∈F1,c∈F∨(B'≤c∧c<U')∨w.heap.size≤c)→LW P ops w0 Q os ks (mk N (D3 ρ d v1)) w1) :
  LW P ops w0 Q (⟨some d,.call ⟨.builtin .append,#[x,y],#[t,t]⟩,ty,pos,aft,g⟩::os) (4::ks) (mk N ρ) w:=by
 obtain⟨v1,w1,F0,r1,⟨F1,r2,r3,r4⟩,r5,r6⟩:=MS (P:=P) (ty:=ty) hE ht hi hz hs (S:=fun b=>b∈F) (T:=fun b=>B'≤b∧b<U') ⟨F,hv.own,hv.nodup,fun _ h=>h⟩ ha (fun b h1 h2=>by have:=hv.high b h1;omega) hbytes hmx
 have hh:∀c∈F1,c∈F∨(B'≤c∧c<U')∨w.heap.size≤c:=fun c hc=>by
  rcases r4 c hc with h|h|h
  ·exact .inl h
  ·exact .inr<|.inl h
  ·exact .inr<|.inr<|Nat.le_of_eq h.symm
 exact Kn rfl hu v1 w1 (by simp only[execOp,resolve,invoke,builtin,zc,zf,zh,Sem.run_bind,Sem.run_pure,Result.andThen_ok,hx,hy,r1])
  (h v1 w1 F1 (r5.sub r6) ⟨r2,r3,fun c hc=>by
   rcases hh c hc with h|h|h
   ·exact hv.low c h
   ·omega
   ·omega,fun c hc=>(Ao hE).lt r2 c hc⟩ hh)
theorem Nd {x y:Operand}{v a:Value}{xs ys:List Int}{B T:Nat}{F:List Nat}(ht:P.underlying t=some (.slice e))(hi:TI P e 1 z b)(hz:z.cells=#[z])(hx:Bw N ρ x=v)(hy:Bw N ρ y=a)(hv:Ow (AY rI e) B T w.heap v xs F)
  (ha:Rd (B3 rI) w.heap a ys) (hB:B≤w.heap.size) (hbytes:(xs.length+ys.length)*b≤140737488355328) (hmx:xs.length+ys.length≤maxLen) (hu:Up ops N ρ ⟨some d,.call ⟨.builtin .append,#[x,y],#[t,t]⟩,ty,pos,aft,g⟩)
  (h:∀v1 w1 F1,Az F w w1→Ow (AY rI e) B w1.heap.size w1.heap v1 (xs++ys) F1→(∀c∈F1,c∈F∨w.heap.size≤c)→LW P ops w0 Q os ks (mk N (D3 ρ d v1)) w1) :
  LW P ops w0 Q (⟨some d,.call ⟨.builtin .append,#[x,y],#[t,t]⟩,ty,pos,aft,g⟩::os) (4::ks) (mk N ρ) w:=by
 obtain⟨G,g1⟩:=ha
 have hG:G.drop 1=[]:=by
  rcases g1 with⟨_,_,_,_,rfl⟩|⟨us,g,off,cap,cur,e',fr,G',hels,_,_,_,_,rfl⟩
  ·rfl
  ·exact JP hels
 obtain⟨v',w',F',r1,r2,r3,r4,r5⟩:=GN (P:=P) (ty:=ty) AS ht hi hz hv.own hv.nodup g1 rfl hbytes hmx (fun c hc=>by rw[hG]at hc;cases hc) (by rw[hG];exact zk)
 have hh:∀c∈F',c∈F∨w.heap.size≤c:=fun c hc=>by
  rcases r4 c hc with h|h|h
  ·exact .inl h
  ·rw[hG]at h;cases h
  ·exact .inr<|Nat.le_of_eq h.symm
 exact Kn rfl hu v' w' (by simp only[execOp,resolve,invoke,builtin,zc,zf,zh,Sem.run_bind,Sem.run_pure,Result.andThen_ok,hx,hy,r1])
  (h v' w' F' (r5.sub fun c hc=>zj hc) ⟨r2,r3,fun c hc=>by
   rcases hh c hc with h|h
   ·exact hv.low c h
   ·omega,fun c hc=>(Bj AS).lt r2 c hc⟩ hh)
theorem ZT {x y:Operand} {v a u:Value} {xs:List Int} {r:Int} {S:List Nat} {B' U':Nat} (ht:P.underlying t = some (.slice e)) (hi:TI P e 1 z b) (hz:z.cells = #[z]) (hx:Bw N ρ x = Kq v) (hy:Bw N ρ y = a)
  (hv:RN S (B3 rI) w.heap v xs) (ha:Fr (AY rV e) B' U' w.heap a [u]) (hr:RN S rI w.heap u r) (hS:∀ c∈S,c < w.heap.size) (hbytes:(xs.length + 1) * b≤140737488355328) (hmx:xs.length + 1≤maxLen)
  (hu:Up ops N ρ ⟨some d,.call ⟨.builtin .append,#[x,y],#[t,t]⟩,ty,pos,aft,g⟩)
  (h:∀ v1 w1,AB w w1→RN S (B3 rI) w1.heap v1 (xs++[r])→Cj v1→LW P ops w0 Q os ks (mk N (D3 ρ d v1)) w1) :
  LW P ops w0 Q (⟨some d,.call ⟨.builtin .append,#[x,y],#[t,t]⟩,ty,pos,aft,g⟩ :: os) (4 :: ks) (mk N ρ) w:=by
 obtain ⟨G,g1',g2',g3'⟩:=ha
 obtain ⟨K,k1,k2⟩:=hv
 obtain ⟨R,r1,r2⟩:=hr
 obtain ⟨i,h1,h2,h3,h4⟩:=hi.get
 subst h4
 have hone:=AS.one r1
 rcases g1' with ⟨_,hc,_⟩ | ⟨asq,ga,capa,cura,Fa,helsa,hav,hga,qa1,qa2,qa3,qa4,rfl⟩
 ·cases hc
 ·obtain ⟨hq,hFa⟩:=G3 helsa
  subst hq
  subst hav
  have hnews:∀ j q,[u][j]? = some q→w.cell? ((⟨ga,0,none⟩:Addr).add j) = some q:=by
   intro j q hj
   rw [JS,Cu]
   simp only [Ch,hga]
   rw [← qa4,List.getElem?_take] at hj
   split at hj
   ·simpa using hj
   ·cases hj
  have made:∀ (w1:World) (ous:List Value) (K0:List Nat) (rest:Nat),w1.heap = w.heap→w1.os = w.os→w1.tape = w.tape→w1.output = w.output→els rI w.heap ous xs K0→(∀ c∈K0,c∈K)→xs.length + 1 + rest≤maxLen →
    AB w (w1.alloc (.cells (ous.toArray++[u].toArray++Builtin.zeroCells z.cells rest) e))∧RN S (B3 rI) (w1.alloc (.cells (ous.toArray++[u].toArray++Builtin.zeroCells z.cells rest) e)).heap (.slice (some ⟨w.heap.size,0,none⟩) (xs.length + 1) (xs.length + 1 + rest)) (xs++[r]):=by
   intro w1 ous K0 rest hh ho htp hop hou hsub hmax
   have hE:AB w (w1.alloc (.cells (ous.toArray++[u].toArray++Builtin.zeroCells z.cells rest) e)):=by
    refine ⟨ho,htp,hop,?_,fun k hk=>?_⟩
    ·show w.heap.size≤(w1.heap.push _).size
     rw [hh]; simp
    ·have:=Below.heap_alloc w1 (.cells (ous.toArray++[u].toArray++Builtin.zeroCells z.cells rest) e) k (by rw [hh]; exact hk)
     rw [this,hh]
   refine ⟨hE,w.heap.size :: (K0++R),.inr ⟨ous++[u],w.heap.size,0,xs.length + 1 + rest,(ous.toArray++[u].toArray++Builtin.zeroCells z.cells rest),e,(0,0),K0++R,?_,by simp,?_,?_,by simp; omega,rfl⟩,?_⟩
   ·refine els.stable AS (hou.append (show els rI w.heap [u] [r] R from ⟨R,[],by simp,r1,rfl⟩)) fun c hc=>hE.heap ?_
    exact (hou.append (show els rI w.heap [u] [r] R from ⟨R,[],by simp,r1,rfl⟩)).lt AS c hc
   ·have:=heap_alloc_new w1 (.cells (ous.toArray++[u].toArray++Builtin.zeroCells z.cells rest) e)
    rw [hh] at this; exact this
   ·have hl:=hou.length
    simp only [Array.toList_append,List.drop_zero]
    rw [show (xs++[r]).length = (ous++[u]).length from by simp [hl]]
    exact List.take_left
   ·intro c hc hm
    rcases ze.1 hc with rfl | hc
    ·have:=hS _ hm; omega
    ·rcases zi.1 hc with hc | hc
     ·exact k2 c (hsub c hc) hm
     ·exact r2 c hc hm
  have hone1:[u].length = [u].length * i.size:=by rw [h3,Nat.mul_one]
  rcases k1 with ⟨a0,cap0,rfl,rfl,rfl⟩ | ⟨ous,gv,off,cap,cur,e',fr,K',hels,rfl,hg,hw,_,rfl⟩
  ·-- nothing so far
   cases a0 with
   | none =>
    have hrr:=run_append_nil (P:=P) w t ty e i z ht h1 h2 ⟨ga,0,none⟩ 1 capa [u] hone1 hnews (by decide) (by decide) (by simp at hbytes; omega)
    have hge:=grownCap_ge w 1 0 e
    have hgm:=grownCap_le_maxLen w 1 0 e (by simpa using hmx)
    obtain ⟨q1,q2⟩:=made w.drew [] [] (grownCap w 1 0 e - 1) rfl rfl rfl rfl rfl (fun c hc=>by cases hc) (by simp; omega)
    refine Kn rfl hu _ _ (by simp only [execOp,resolve,invoke,builtin,zc,zf,zh,Sem.run_bind,Sem.run_pure,Result.andThen_ok,hx,hy,Kq]; rw [show [u].length = 1 from rfl,hrr]; rfl)<|h _ _ ?_ ?_ ?_
    ·simpa using q1
    ·have ea:(([]:List Int).length + 1 + (grownCap w 1 0 e - 1)) = grownCap w 1 0 e:=by simp; omega
     rw [ea] at q2
     simpa using q2
    ·exact hge
   | some a1 =>
    have hrr:=run_append_grow (P:=P) w t ty e i z ht h1 h2 a1 0 0 [] (by rw [h3]; rfl) (by intro j q hj; cases hj) ⟨ga,0,none⟩ 1 capa [u] hone1 hnews zO (by decide)<|growslice_fits zO (by simpa using hbytes)
    have hge:=grownCap_ge w (0 + 1) 0 e
    have hgm:=grownCap_le_maxLen w (0 + 1) 0 e (by simpa using hmx)
    obtain ⟨q1,q2⟩:=made w.drew [] [] (grownCap w (0 + 1) 0 e - (0 + 1)) rfl rfl rfl rfl rfl (fun c hc=>by cases hc) (by show 0 + 1 + (grownCap w (0 + 1) 0 e - (0 + 1))≤maxLen; omega)
    refine Kn rfl hu _ _ (by simp only [execOp,resolve,invoke,builtin,zc,zf,zh,Sem.run_bind,Sem.run_pure,Result.andThen_ok,hx,hy,Kq]; rw [show [u].length = 1 from rfl,hrr]; rfl)<|h _ _ q1 ?_ ?_
    rotate_left
    ·exact hge
    have ea:(([]:List Int).length + 1 + (grownCap w (0 + 1) 0 e - (0 + 1))) = grownCap w (0 + 1) 0 e:=by show 0 + 1 + (grownCap w (0 + 1) 0 e - (0 + 1)) = _; omega
    rw [ea] at q2
    simpa using q2
  ·have holds:∀ j q,ous[j]? = some q→w.cell? ((⟨gv,off,none⟩:Addr).add j) = some q:=by
    intro j q hj
    rw [JS,Cu]
    simp only [Ch,hg]
    rw [← hw,List.getElem?_take] at hj
    split at hj
    ·rw [List.getElem?_drop] at hj; simpa using hj
    ·cases hj
   have hrr:=run_append_grow (P:=P) w t ty e i z ht h1 h2 ⟨gv,off,none⟩ xs.length xs.length ous (by rw [h3,hels.length]; omega) holds ⟨ga,0,none⟩ 1 capa [u] hone1 hnews zO (by simp only [maxLen] at hmx; omega)<|growslice_fits zO hbytes
   have hge:=grownCap_ge w (xs.length + 1) xs.length e
   have hgm:=grownCap_le_maxLen w (xs.length + 1) xs.length e hmx
   obtain ⟨q1,q2⟩:=made w.drew ous K' (grownCap w (xs.length + 1) xs.length e - (xs.length + 1)) rfl rfl rfl rfl hels (fun c hc=>z3 _ hc) zO
   refine Kn rfl hu _ _ (by simp only [execOp,resolve,invoke,builtin,zc,zf,zh,Sem.run_bind,Sem.run_pure,Result.andThen_ok,hx,hy,Kq]; rw [show [u].length = 1 from rfl,hrr]; rfl)<|h _ _ q1 ?_ ?_
   rotate_left
   ·exact hge
   have ea:(xs.length + 1 + (grownCap w (xs.length + 1) xs.length e - (xs.length + 1))) = grownCap w (xs.length + 1) xs.length e:=by omega
   rw [ea] at q2
   exact q2
end ops
def CT (t1 t2 t3:TypeId)(S:List Nat)(g:Nat)(H:Array Obj)(vc vg vv:Value)(T:Tp):Prop :=
 ∃Fc Fg Fv,Ow (D7 4 RM t1) 0 H.size H vc T.code Fc∧Ow (D7 2 Tl t2) 0 H.size H vg T.grd Fg∧Ow (AY rI t3) 0 H.size H vv T.vals Fv ∧
  ((∀b∈Fc,b∉Fg)∧(∀b∈Fc,b∉Fv)∧(∀b∈Fg,b∉Fv))∧(g∉Fc∧g∉Fg∧g∉Fv)∧(∀b∈Fc,b∈S)∧(∀b∈Fg,b∈S)∧(∀b∈Fv,b∈S)
section rcm
variable {t1 t2 t3:TypeId} {S S':List Nat} {g:Nat} {w w':World} {vc vg vv:Value} {T:Tp}
theorem Ow.chgS {α:Type}{E:Bk α}(hE:BT E){B:Nat}{v:Value}{x:α}{F G:List Nat}(h:Ow E B w.heap.size w.heap v x F)(c:Az G w w')(hG:∀b∈G,b∉F):Ow E B w'.heap.size w'.heap v x F:=(h.keep hE c hG).up c.size
theorem CT.ext (h:CT t1 t2 t3 S g w.heap vc vg vv T)(k:AB w w'):CT t1 t2 t3 S g w'.heap vc vg vv T:=by
 obtain⟨Fc,Fg,Fv,h1,h2,h3,h4⟩:=h
 exact⟨Fc,Fg,Fv,(h1.ext (Ao AT) k).up k.size,(h2.ext (Ao B1) k).up k.size,(h3.ext (Bj AS) k).up k.size,h4⟩
theorem CT.chg (h:CT t1 t2 t3 S g w.heap vc vg vv T)(k:Az [g] w w'):CT t1 t2 t3 S g w'.heap vc vg vv T:=by
 obtain⟨Fc,Fg,Fv,h1,h2,h3,h4,h5,h6⟩:=h
 exact⟨Fc,Fg,Fv,h1.chgS (Ao AT) k fun b hb hm=>by rw[Ab hb]at hm;exact h5.1 hm,h2.chgS (Ao B1) k fun b hb hm=>by rw[Ab hb]at hm;exact h5.2.1 hm,
  h3.chgS (Bj AS) k fun b hb hm=>by rw[Ab hb]at hm;exact h5.2.2 hm,h4,h5,h6⟩
theorem CT.chgO {F:List Nat}(h:CT t1 t2 t3 S g w.heap vc vg vv T)(k:Az F w w')(hF:∀b∈F,b∉S):CT t1 t2 t3 S g w'.heap vc vg vv T:=by
 obtain⟨Fc,Fg,Fv,h1,h2,h3,h4,h5,h6⟩:=h
 exact⟨Fc,Fg,Fv,h1.chgS (Ao AT) k fun b hb hm=>hF b hb (h6.1 b hm),h2.chgS (Ao B1) k fun b hb hm=>hF b hb (h6.2.1 b hm),
  h3.chgS (Bj AS) k fun b hb hm=>hF b hb (h6.2.2 b hm),h4,h5,h6⟩
theorem CT.rdv (h:CT t1 t2 t3 S g w.heap vc vg vv T):Rd (B3 rI) w.heap vv T.vals:=by
 obtain⟨Fc,Fg,Fv,h1,h2,h3,_⟩:=h
 exact h3.fr.rd1
theorem CT.slv (h:CT t1 t2 t3 S g w.heap vc vg vv T):Er vv T.vals.length:=by
 obtain⟨Fc,Fg,Fv,h1,h2,h3,_⟩:=h
 exact h3.fr.isSl
theorem CT.slc (h:CT t1 t2 t3 S g w.heap vc vg vv T):Er vc T.code.length:=by
 obtain⟨Fc,Fg,Fv,h1,h2,h3,_⟩:=h
 exact h1.own.isSl
theorem CT.slg (h:CT t1 t2 t3 S g w.heap vc vg vv T):Er vg T.grd.length:=by
 obtain⟨Fc,Fg,Fv,h1,h2,h3,_⟩:=h
 exact h2.own.isSl
end rcm
def UV (t1 t2 t3:TypeId)(S:List Nat)(g:Nat)(H:Array Obj)(vp:Value)(ip:Int)(T:Tp)(s:Nat)(c:Int):Prop :=
 ∃vc vg vv,BX H g [vp,.int .i64 ip,vc,vg,.slice none 0 0,vv,.int .i64 ((s:Nat):Int),.int .i64 c]∧CT t1 t2 t3 S g H vc vg vv T
theorem RN.stp {α:Type}{E:Bk α}(hE:BT E){S S':List Nat}{w w':World}{v:Value}{x:α}(h:RN S E w.heap v x)(c:Az S w w')(hs:∀b∈S',b∈S∨w.heap.size≤b):RN S' E w'.heap v x:=by
 obtain⟨F,h1,h2⟩:=h
 refine⟨F,hE.stable h1 fun b hb=>c.block b (hE.lt h1 b hb) (h2 b hb),fun b hb hm=>?_⟩
 rcases hs b hm with hh|hh
 ·exact h2 b hb hh
 ·have:=hE.lt h1 b hb;omega
theorem Az.stp {S S':List Nat}{a b c:World}(h:Az S a b)(k:Az S' b c)(hs:∀x∈S',x∈S∨a.heap.size≤x):Az S a c :=
 ⟨k.os.trans h.os,k.tape.trans h.tape,k.output.trans h.output,Aa h.size k.size,fun i hi hm=>(k.block i (Nat.lt_of_lt_of_le hi h.size) fun hh=>by
  rcases hs i hh with h9|h9
  ·exact hm h9
  ·omega).trans (h.block i hi hm)⟩
theorem RO {S S' S'':List Nat}{n m:Nat}(h:∀b∈S',b∈S∨n≤b)(k:∀b∈S'',b∈S'∨m≤b)(hn:n≤m):∀b∈S'',b∈S∨n≤b:=fun b hb=>by
 rcases k b hb with hh|hh
 ·exact h b hh
 ·exact .inr zO
end
section
def Tp.put (T:Tp)(c:AM)(v:Int):Tp:=⟨T.code++[c],T.grd,T.vals++[v]⟩
def Tp.guard (T:Tp)(r:Int)(z:Bool):Tp:=⟨T.code,T.grd++[⟨r,z⟩],T.vals⟩
def Tp.at (T:Tp)(r:Int):Int:=T.vals.getD r.toNat 0
abbrev RI:=Int×Tp
abbrev RL:=List Int×Tp
structure Cg where
 one:Nat→Nat→List Int→Nat→Tp→Rs RI
 all:Nat→List Int→Nat→Tp→Rs RL
def JZ (f:List Int→Nat→Tp→Rs RL):Nat→List Int→Nat→Tp→Rs RL
 |0,a,s,T=>.ok (a,T) s
 |k+1,a,s,T=>(JZ f k a s T).bind fun x t=>f x.1 t x.2
def In (k x y:Int):Int:=if k=3 then md (x+y)else if k=4 then md (x-y)else if k=5 then md (x*y)else if k=7 then md (0-x)else md (x*inv y)
def Lt (k:Int)(xs:List Int):AM:=⟨k,xs.getD 0 0,if k=7 then 0 else xs.getD 1 0,0⟩
def Xb (k:Int)(xs:List Int)(t:Nat)(T:Tp):Rs RI :=
 if k≠3∧k≠4∧k≠5∧k≠7∧T.at (Lt k xs).b=0 then .err 6
 else .ok (((T.vals.length:Nat):Int),T.put (Lt k xs) (In k (T.at (Lt k xs).a) (T.at (Lt k xs).b))) t
mutual
def Id (C:Cg):Ex→List Int→Nat→Tp→Rs RI
 |.mk k num pick cnt l,env,s,T =>
  if 3000≤s then .err 7
  else if k=1 then .ok (((T.vals.length:Nat):Int),T.put ⟨2,0,0,num⟩ num) (s+1)
  else if k=2 then .ok (env.getD num.toNat 0,T) (s+1)
  else if k=8 then(RQ C l 0 env (s+1) T).bind fun x t=>if x.2.at x.1=0 then RQ C l 1 env t (x.2.guard x.1 true)else RQ C l 2 env t (x.2.guard x.1 false)
  else if k=9 then(RQ C l 0 env (s+1) T).bind fun x t=>RQ C l 1 (env++[x.1]) t x.2
  else(J5 C l env (s+1) T).bind fun xs t =>
   if k=10 then C.one num.toNat pick.toNat xs.1 t xs.2
   else if k=11 then(JZ (C.all num.toNat) cnt.toNat xs.1 t xs.2).bind fun ys u=>.ok (ys.1.getD pick.toNat 0,ys.2) u
   else Xb k xs.1 t xs.2
def RQ (C:Cg):List Ex→Nat→List Int→Nat→Tp→Rs RI
 |[],_,_,_,_=>.err 0
 |e::_,0,env,s,T=>Id C e env s T
 |_::l,j+1,env,s,T=>RQ C l j env s T
def J5 (C:Cg):List Ex→List Int→Nat→Tp→Rs RL
 |[],_,s,T=>.ok ([],T) s
 |e::l,env,s,T=>(Id C e env s T).bind fun x t=>(J5 C l env t x.2).bind fun xs u=>.ok (x.1::xs.1,xs.2) u
end
theorem Gv (C:Cg)(env:List Int)(s:Nat)(T:Tp):∀(l:List Ex)(j:Nat),j<l.length→RQ C l j env s T=Id C (l.getD j Ex.zero) env s T
 |[],j,h=>by simp at h
 |e::l,0,_=>by rw[RQ];rfl
 |e::l,j+1,h=>by rw[RQ,Gv C env s T l j (by simpa using h)];simp
theorem QL (C:Cg)(env:List Int)(e:Ex):∀(l:List Ex)(s:Nat)(T:Tp),J5 C (l++[e]) env s T=(J5 C l env s T).bind fun xs t=>(Id C e env t xs.2).bind fun x u=>.ok (xs.1++[x.1],x.2) u
 |[],s,T=>by
  rw[zl,J5,J5]
  simp only[Rs.bind_ok]
  cases Id C e env s T <;> simp only[Rs.bind_ok,Rs.bind_err,J5] <;> rfl
 |a::l,s,T=>by
  rw[List.cons_append,J5,J5]
  cases Id C a env s T with
  |err c=>rfl
  |ok x t =>
   simp only[Rs.bind_ok]
   rw[QL C env e l t]
   simp only[Rs.bind_assoc]
   cases J5 C l env t x.2 with
   |err c=>rfl
   |ok xs u =>
    simp only[Rs.bind_ok]
    cases Id C e env u xs.2 <;> rfl
theorem Xc {C:Cg}{env:List Int}{s:Nat}{T:Tp}{l:List Ex}{k:Nat}(hk:k<l.length):J5 C (l.take (k+1)) env s T=(J5 C (l.take k) env s T).bind fun xs t=>(Id C (l.getD k Ex.zero) env t xs.2).bind fun x u=>.ok (xs.1++[x.1],x.2) u:=by
 rw[List.take_succ_eq_append_getElem hk,QL]
 simp[hk]
theorem HS (C:Cg)(e:Ex)(env:List Int)(s:Nat)(T:Tp):Id C e env s T =
  if 3000≤s then .err 7
  else if e.kind=1 then .ok (((T.vals.length:Nat):Int),T.put ⟨2,0,0,e.num⟩ e.num) (s+1)
  else if e.kind=2 then .ok (env.getD e.num.toNat 0,T) (s+1)
  else if e.kind=8 then(RQ C e.kids 0 env (s+1) T).bind fun x t=>if x.2.at x.1=0 then RQ C e.kids 1 env t (x.2.guard x.1 true)else RQ C e.kids 2 env t (x.2.guard x.1 false)
  else if e.kind=9 then(RQ C e.kids 0 env (s+1) T).bind fun x t=>RQ C e.kids 1 (env++[x.1]) t x.2
  else(J5 C e.kids env (s+1) T).bind fun xs t =>
   if e.kind=10 then C.one e.num.toNat e.pick.toNat xs.1 t xs.2
   else if e.kind=11 then(JZ (C.all e.num.toNat) e.count.toNat xs.1 t xs.2).bind fun ys u=>.ok (ys.1.getD e.pick.toNat 0,ys.2) u
   else Xb e.kind xs.1 t xs.2:=by cases e;rw[Id];rfl
def M4 (p:List Fn):Nat→Cg
 |0=>⟨fun _ _ _ _ _=>.err 0,fun _ _ _ _=>.err 0⟩
 |k+1=>⟨fun f j a s T=>if f=k then Id (M4 p k) ((p.getD k Fn.zero).outs.getD j Ex.zero) a s T else(M4 p k).one f j a s T,
   fun f a s T=>if f=k then J5 (M4 p k) (p.getD k Fn.zero).outs a s T else(M4 p k).all f a s T⟩
theorem Tm {p:List Fn}{f j:Nat}{a:List Int}{s:Nat}{T:Tp}:∀ {F:Nat},f<F→(M4 p F).one f j a s T=Id (M4 p f) ((p.getD f Fn.zero).outs.getD j Ex.zero) a s T
 |0,h=>by omega
 |F+1,h=>by
  show(if f=F then _ else _)=_
  split
  ·rename_i e;rw[e]
  ·exact Tm zO
theorem PC {p:List Fn}{f:Nat}{a:List Int}{s:Nat}{T:Tp}:∀ {F:Nat},f<F→(M4 p F).all f a s T=J5 (M4 p f) (p.getD f Fn.zero).outs a s T
 |0,h=>by omega
 |F+1,h=>by
  show(if f=F then _ else _)=_
  split
  ·rename_i e;rw[e]
  ·exact PC zO
section
variable {C:Cg} {e:Ex} {env:List Int} {s s1 s2:Nat} {c c1 c2:Int} {T T1 T2:Tp} {x y:Int} {xs ys:List Int}
theorem ZU {α:Type}{r:Rs α}{x:α}(hc:c≠0):AX (go c r) x s c:=AX.mk_err (DK hc r) hc
theorem UF {x:RI}(hc:c=0)(hs:s=3000):AX (go c (Id C e env s T)) x s1 7:=by
 subst hc;rw[Da,HS,if_pos (by omega)];exact AX.mk_err rfl (by decide)
theorem fS (hc:c=0)(hs:s+1≤3000)(hk:e.kind=1):AX (go c (Id C e env s T)) (((T.vals.length:Nat):Int),T.put ⟨2,0,0,e.num⟩ e.num) (s+1) c:=by
 subst hc;rw[Da,HS,if_neg zO,if_pos hk];exact AX.mk_ok rfl
theorem fT (hc:c=0)(hs:s+1≤3000)(hk:e.kind=2):AX (go c (Id C e env s T)) (env.getD e.num.toNat 0,T) (s+1) c:=by
 subst hc;rw[Da,HS,if_neg zO,if_neg zO,if_pos hk];exact AX.mk_ok rfl
theorem fU {z:RI}(hc:c=0)(hs:s+1≤3000)(hk:e.kind=8)(hl:e.kids.length=3)(h1:AX (go c (Id C (e.kids.getD 0 Ex.zero) env (s+1) T)) (x,T1) s1 c1)(hc1:c1≠0):AX (go c (Id C e env s T)) z s2 c1:=by
 subst hc
 rw[Da]at h1
 rw[Da,HS,if_neg zO,if_neg zO,if_neg zO,if_pos hk,Gv _ _ _ _ _ _ zO,h1.bindE hc1]
 exact AX.mk_err rfl hc1
theorem fV (hc:c=0)(hs:s+1≤3000)(hk:e.kind=8)(hl:e.kids.length=3)(h1:AX (go c (Id C (e.kids.getD 0 Ex.zero) env (s+1) T)) (x,T1) s1 c1)(hc1:c1=0)(hx:T1.at x=0)
  (h2:AX (go c1 (Id C (e.kids.getD 1 Ex.zero) env s1 (T1.guard x (decide (T1.at x=0))))) (y,T2) s2 c2):AX (go c (Id C e env s T)) (y,T2) s2 c2:=by
 subst hc;subst hc1
 rw[Da]at h1 h2
 rw[Da,HS,if_neg zO,if_neg zO,if_neg zO,if_pos hk,Gv _ _ _ _ _ _ zO,h1.bindO]
 dsimp only
 rw[A7 hx]at h2
 rw[if_pos hx,Gv _ _ _ _ _ _ (by omega)];exact h2
theorem fW (hc:c=0)(hs:s+1≤3000)(hk:e.kind=8)(hl:e.kids.length=3)(h1:AX (go c (Id C (e.kids.getD 0 Ex.zero) env (s+1) T)) (x,T1) s1 c1)(hc1:c1=0)(hx:¬T1.at x=0)
  (h2:AX (go c1 (Id C (e.kids.getD 2 Ex.zero) env s1 (T1.guard x (decide (T1.at x=0))))) (y,T2) s2 c2):AX (go c (Id C e env s T)) (y,T2) s2 c2:=by
 subst hc;subst hc1
 rw[Da]at h1 h2
 rw[Da,HS,if_neg zO,if_neg zO,if_neg zO,if_pos hk,Gv _ _ _ _ _ _ zO,h1.bindO]
 dsimp only
 rw[A8 hx]at h2
 rw[if_neg hx,Gv _ _ _ _ _ _ (by omega)];exact h2
theorem fX (hc:c=0)(hs:s+1≤3000)(hk:e.kind=9)(hl:e.kids.length=2)(h1:AX (go c (Id C (e.kids.getD 0 Ex.zero) env (s+1) T)) (x,T1) s1 c1)
  (h2:AX (go c1 (Id C (e.kids.getD 1 Ex.zero) (env++[x]) s1 T1)) (y,T2) s2 c2):AX (go c (Id C e env s T)) (y,T2) s2 c2:=by
 subst hc
 rw[Da,HS,if_neg zO,if_neg zO,if_neg zO,if_neg zO,if_pos hk,Gv _ _ _ _ _ _ (by omega)]
 rw[Da]at h1
 by_cases h0:c1=0
 ·subst h0;rw[h1.bindO,Gv _ _ _ _ _ _ (by omega)];exact h2
 ·rw[h1.bindE h0];rw[DK h0]at h2;exact h2
theorem KG (hs:s+1≤3000)(h1:e.kind≠1)(h2:e.kind≠2)(h8:e.kind≠8)(h9:e.kind≠9):Id C e env s T=(J5 C e.kids env (s+1) T).bind fun xs t =>
  if e.kind=10 then C.one e.num.toNat e.pick.toNat xs.1 t xs.2
   else if e.kind=11 then(JZ (C.all e.num.toNat) e.count.toNat xs.1 t xs.2).bind fun ys u=>.ok (ys.1.getD e.pick.toNat 0,ys.2) u
   else Xb e.kind xs.1 t xs.2:=by
 rw[HS,if_neg zO,if_neg h1,if_neg h2,if_neg h8,if_neg h9]
theorem Xd {z:RI}(hc:c=0)(hs:s+1≤3000)(h1:e.kind≠1)(h2:e.kind≠2)(h8:e.kind≠8)(h9:e.kind≠9)(hr:AX (go c (J5 C e.kids env (s+1) T)) (xs,T1) s1 c1)(hc1:c1≠0):AX (go c (Id C e env s T)) z s2 c1:=by
 subst hc
 rw[Da]at hr ⊢
 rw[KG hs h1 h2 h8 h9,hr.bindE hc1];exact AX.mk_err rfl hc1
theorem ZV {p:List Fn}{F:Nat}(hc:c=0)(hs:s+1≤3000)(hk:e.kind=10)(hF:e.num.toNat<F)(hr:AX (go c (J5 (M4 p F) e.kids env (s+1) T)) (xs,T1) s1 c1)(hc1:c1=0)
  (h2:AX (go c1 (Id (M4 p e.num.toNat) ((p.getD e.num.toNat Fn.zero).outs.getD e.pick.toNat Ex.zero) xs s1 T1)) (y,T2) s2 c2):AX (go c (Id (M4 p F) e env s T)) (y,T2) s2 c2:=by
 subst hc;subst hc1
 rw[Da]at hr h2 ⊢
 rw[KG hs zO zO zO zO,hr.bindO,if_pos hk,Tm hF];exact h2
theorem ZW {p:List Fn}{F:Nat}(hc:c=0)(hs:s+1≤3000)(hk:e.kind=11)(hF:e.num.toNat<F)(hr:AX (go c (J5 (M4 p F) e.kids env (s+1) T)) (xs,T1) s1 c1)(hc1:c1=0)
  (h2:AX (JZ (fun a t U=>J5 (M4 p e.num.toNat) (p.getD e.num.toNat Fn.zero).outs a t U) e.count.toNat xs s1 T1) (ys,T2) s2 c2):AX (go c (Id (M4 p F) e env s T)) (ys.getD e.pick.toNat 0,T2) s2 c2:=by
 subst hc;subst hc1
 rw[Da]at hr ⊢
 rw[KG hs zO zO zO zO,hr.bindO,if_neg zO,if_pos hk]
 have hl:(M4 p F).all e.num.toNat=fun a t U=>J5 (M4 p e.num.toNat) (p.getD e.num.toNat Fn.zero).outs a t U:=funext fun a=>funext fun t=>funext fun U=>PC hF
 rw[hl]
 by_cases h0:c2=0
 ·subst h0;rw[h2.bindO];exact AX.mk_ok rfl
 ·rw[h2.bindE h0];exact AX.mk_err rfl h0
theorem jT {z:RI}(hc:c=0)(hs:s+1≤3000)(h1:e.kind≠1)(h2:e.kind≠2)(h8:e.kind≠8)(h9:e.kind≠9)(h10:e.kind≠10)(h11:e.kind≠11)(hr:AX (go c (J5 C e.kids env (s+1) T)) (xs,T1) s1 c1)(hc1:c1=0)
  (h:AX (go c1 (Xb e.kind xs s1 T1)) z s2 c2):AX (go c (Id C e env s T)) z s2 c2:=by
 subst hc;subst hc1
 rw[Da]at hr h ⊢
 rw[KG hs h1 h2 h8 h9,hr.bindO,if_neg h10,if_neg h11];exact h
theorem Xe (C:Cg)(l:List Ex)(env:List Int)(s:Nat)(T:Tp)(c:Int):AX (go c (J5 C (l.take 0) env s T)) ([],T) s c:=by
 rw[List.take_zero,J5]
 by_cases h:c=0
 ·subst h;exact AX.mk_ok rfl
 ·exact AX.mk_err (DK h _) h
theorem ZX {l:List Ex}{k:Nat}(hk:k<l.length)(h:AX (go c (J5 C (l.take k) env s T)) (xs,T1) s1 c1)(h2:AX (go c1 (Id C (l.getD k Ex.zero) env s1 T1)) (x,T2) s2 c2) :
  AX (go c (J5 C (l.take (k+1)) env s T)) (xs++[x],T2) s2 c2:=by
 by_cases hc:c=0
 ·subst hc
  rw[Da]at h ⊢
  rw[Xc hk]
  by_cases h0:c1=0
  ·subst h0
   rw[Da]at h2
   rw[h.bindO]
   by_cases h9:c2=0
   ·subst h9;rw[h2.bindO];exact AX.mk_ok rfl
   ·rw[h2.bindE h9];exact AX.mk_err rfl h9
  ·rw[h.bindE h0]
   rw[DK h0]at h2
   have:=h2.1
   exact AX.mk_err (by rw[this]) (this ▸ h0)
 ·rw[DK hc]at h ⊢
  have h3:=h.1
  subst h3
  rw[DK hc]at h2
  exact AX.mk_err (by rw[h2.1]) (h2.1 ▸ hc)
theorem fY {f:List Int→Nat→Tp→Rs RL}{k:Nat}(h:AX (JZ f k xs s T) (ys,T1) s1 c1)(hc:c1=0){zs:RL}(h2:AX (go c1 (f ys s1 T1)) zs s2 c2):AX (JZ f (k+1) xs s T) zs s2 c2:=by
 subst hc
 show AX ((JZ f k xs s T).bind _) _ _ _
 rw[h.bindO];rw[Da]at h2;exact h2
theorem QM {f:List Int→Nat→Tp→Rs RL}{d:Int}:∀ {m k:Nat},JZ f k xs s T=.err d→k≤m→JZ f m xs s T=.err d
 |0,k,h,hk=>by
  have:k=0:=by omega
  subst this;exact h
 |m+1,k,h,hk=>by
  by_cases e:k=m+1
  ·subst e;exact h
  ·show(JZ f m xs s T).bind _=_
   rw[QM h (by omega)];rfl
theorem ZY {f:List Int→Nat→Tp→Rs RL}{k m:Nat}{zs:RL}(h:AX (JZ f k xs s T) zs s1 c1)(hk:k≤m)(hs:k=m∨c1≠0):AX (JZ f m xs s T) zs s1 c1:=by
 by_cases hc:c1=0
 ·rcases hs with rfl|hh
  ·exact h
  ·exact absurd hc hh
 ·exact AX.mk_err (QM (h.err hc) hk) hc
end
def LV (T:Tp)(s:Nat):Prop:=T.code.length=T.vals.length∧T.vals.length≤12+s∧T.grd.length≤s∧B9 T.vals=true
theorem LV.put {T:Tp}{s:Nat}(h:LV T s)(c:AM){v:Int}(hv:0≤v∧v<1000003):LV (T.put c v) (s+1):=by
 obtain⟨h1,h2,h3,h4⟩:=h
 unfold Tp.put
 refine⟨by simp[h1],by simp;omega,by simp;omega,?_⟩
 unfold B9 at h4 ⊢
 rw[List.all_append,h4]
 simp[Ck.2 hv]
theorem LV.guard {T:Tp}{s:Nat}(h:LV T s)(r:Int)(z:Bool)(hg:T.grd.length+1≤s):LV (T.guard r z) s:=by
 obtain⟨h1,h2,h3,h4⟩:=h
 exact⟨h1,h2,by show(T.grd++[_]).length≤s;simp;omega,h4⟩
theorem LV.up {T:Tp}{s s':Nat}(h:LV T s)(hs:s≤s'):LV T s':=⟨h.1,by have:=h.2.1;omega,by have:=h.2.2.1;omega,h.2.2.2⟩
theorem LV.dn {T:Tp}{s s':Nat}(h:LV T s)(hv:T.vals.length≤12+s')(hg:T.grd.length≤s'):LV T s':=⟨h.1,hv,hg,h.2.2.2⟩
theorem LV.ln {T:Tp}{s:Nat}(h:LV T s)(hs:s≤3000):T.code.length≤4000∧T.vals.length≤4000:=by have:=h.1;have:=h.2.1;omega
abbrev ER (k b:Int):Prop:=k≠3∧k≠4∧k≠5∧k≠7∧b=0
section
variable {k a b:Int}
theorem Xf (h:k=3):(if ER k b then 0 else In k a b)=md (a+b)∧(!decide (ER k b))=true:=by subst h;exact⟨rfl,rfl⟩
theorem Xg (h:k=4):(if ER k b then 0 else In k a b)=md (a-b)∧(!decide (ER k b))=true:=by subst h;exact⟨rfl,rfl⟩
theorem Xh (h:k=5):(if ER k b then 0 else In k a b)=md (a*b)∧(!decide (ER k b))=true:=by subst h;exact⟨rfl,rfl⟩
theorem Xi (h:k=7):(if ER k b then 0 else In k a b)=md (0-a)∧(!decide (ER k b))=true:=by subst h;exact⟨rfl,rfl⟩
theorem Tn (h:k≠3∧k≠4∧k≠5∧k≠7)(hb:b=0):(if ER k b then 0 else In k a b)=0∧(!decide (ER k b))=false:=by
 have hz:ER k b:=⟨h.1,h.2.1,h.2.2.1,h.2.2.2,hb⟩
 rw[if_pos hz,A7 hz];exact⟨rfl,rfl⟩
theorem Xj (h:k≠3∧k≠4∧k≠5∧k≠7)(hb:b≠0):(if ER k b then 0 else In k a b)=md (a*inv b)∧(!decide (ER k b))=true:=by
 have hz:¬ER k b:=fun h9=>hb h9.2.2.2.2
 rw[if_neg hz,A8 hz]
 refine⟨?_,rfl⟩
 unfold In
 rw[if_neg h.1,if_neg h.2.1,if_neg h.2.2.1,if_neg h.2.2.2]
theorem PD (k a b:Int):0≤In k a b∧In k a b<1000003:=by unfold In;split <;> (try split) <;> (try split) <;> (try split) <;> exact BU _
end
theorem K1 {k:Int}{xs:List Int}{T:Tp}{t:Nat}(h:¬ER k (T.at (Lt k xs).b)):Xb k xs t T=.ok (((T.vals.length:Nat):Int),T.put (Lt k xs) (In k (T.at (Lt k xs).a) (T.at (Lt k xs).b))) t:=if_neg h
theorem To {k:Int}{xs:List Int}{T:Tp}{t:Nat}(h:ER k (T.at (Lt k xs).b)):Xb k xs t T=.err 6:=if_pos h
theorem jU {α:Type}{r:Rs α}{x:α}{s:Nat}{c c1:Int}(h:AX (go c r) x s c1)(h1:c1=0):c=0:=by
 by_cases hc:c=0
 ·exact hc
 ·rw[DK hc]at h
  have:=h.1
  omega
theorem Tq (k a b:Int):0≤(if ER k b then 0 else In k a b)∧(if ER k b then 0 else In k a b)<1000003:=by
 have:=PD k a b
 split <;> omega
theorem jV {Q:Prop} [Decidable Q] (h:(!(!decide Q))=true):Q:=by simpa using h
theorem oO {Q:Prop} [Decidable Q] (h:(!(!decide Q))=false):¬Q:=by simpa using h
theorem HT {k:Int}{xs:List Int}(h:k≠7):Lt k xs=⟨k,xs.getD 0 0,xs.getD 1 0,0⟩:=by unfold Lt;rw[if_neg h]
theorem Xk {k:Int}{xs:List Int}(h:k=7):Lt k xs=⟨k,xs.getD 0 0,0,0⟩:=by unfold Lt;rw[if_pos h]
theorem ZZ {k c:Int}{xs:List Int}{T:Tp}{s s2:Nat}{z:RI}(hc:c=0)(h7:k≠7)(hz:ER k (T.vals.getD (xs.getD 1 0).toNat 0)):AX (go c (Xb k xs s T)) z s2 6:=by
 subst hc
 rw[Da,To (by rw[HT h7];exact hz)];exact AX.mk_err rfl (by decide)
theorem aA {k c:Int}{xs:List Int}{T:Tp}{s:Nat}(hc:c=0)(h7:k≠7)(hz:¬ER k (T.vals.getD (xs.getD 1 0).toNat 0)) :
  AX (go c (Xb k xs s T)) (((T.vals.length:Nat):Int),T.put ⟨k,xs.getD 0 0,xs.getD 1 0,0⟩ (if ER k (T.vals.getD (xs.getD 1 0).toNat 0)then 0 else In k (T.vals.getD (xs.getD 0 0).toNat 0) (T.vals.getD (xs.getD 1 0).toNat 0))) s c:=by
 subst hc
 rw[Da,K1 (by rw[HT h7];exact hz),HT h7,if_neg hz];exact AX.mk_ok rfl
theorem aB {k c:Int}{xs:List Int}{T:Tp}{s:Nat}{b:Int}(hc:c=0)(h7:k=7) :
  AX (go c (Xb k xs s T)) (((T.vals.length:Nat):Int),T.put ⟨k,xs.getD 0 0,0,0⟩ (if ER k b then 0 else In k (T.vals.getD (xs.getD 0 0).toNat 0) b)) s c:=by
 subst hc
 subst h7
 rw[Da,K1 (fun h=>h.2.2.2.1 rfl),Xk rfl,if_neg (fun h:ER 7 b=>h.2.2.2.1 rfl)];exact AX.mk_ok rfl
theorem cH {k b:Int}(h:k=7):¬ER k b:=fun h9=>h9.2.2.2.1 h
def Lu (T:Tp)(env:List Int):Prop:=∀k,k<env.length→0≤env.getD k 0∧env.getD k 0<((T.vals.length:Nat):Int)
theorem Lu.mono {T T':Tp}{env:List Int}(h:Lu T env)(hl:T.vals.length≤T'.vals.length):Lu T' env:=fun k hk=>by have:=h k hk;omega
theorem Lu.snoc {T:Tp}{env:List Int}{r:Int}(h:Lu T env)(hr:0≤r∧r<((T.vals.length:Nat):Int)):Lu T (env++[r]):=fun k hk=>by
 rw[z4,zd]at hk
 rw[Ql]
 split
 ·exact hr
 ·exact h k zO
theorem Lu.nil (T:Tp):Lu T []:=fun k hk=>absurd hk (Nat.not_lt_zero k)
theorem Ec {Q:Nat→Prop}:∀b∈([]:List Nat),Q b:=fun b hb=>(by cases hb)
theorem Az.drewL {F:List Nat}{a b:World}(h:Az F a b):Az F a.drew b:=⟨h.os,h.tape,h.output,h.size,h.block⟩
def UG {α:Type}(S:List Nat)(B:Nat)(E:Bk α)(H:Array Obj)(v:Value)(x:α):Prop:=∃F,E H v x F∧∀b∈F,b∉S∧B≤b
theorem UG.rn {α:Type}{S:List Nat}{B:Nat}{E:Bk α}{H:Array Obj}{v:Value}{x:α}(h:UG S B E H v x):RN S E H v x:=by
 obtain⟨F,h1,h2⟩:=h
 exact⟨F,h1,fun b hb=>(h2 b hb).1⟩
theorem UG.upd {α:Type}{S F:List Nat}{B:Nat}{E:Bk α}(hE:BT E){w w':World}{v:Value}{x:α}(h:UG S B E w.heap v x)(c:Az F w w')(hF:∀b∈F,b∈S∨b<B):UG S B E w'.heap v x:=by
 obtain⟨G,h1,h2⟩:=h
 refine⟨G,hE.stable h1 fun b hb=>c.block b (hE.lt h1 b hb) fun hm=>?_,h2⟩
 rcases hF b hm with hh|hh
 ·exact (h2 b hb).1 hh
 ·have:=(h2 b hb).2;omega
theorem UG.of_ow {e:TypeId}{B T:Nat}{H:Array Obj}{v:Value}{xs:List Int}{F S:List Nat}(h:Ow (AY rI e) B T H v xs F)(hS:∀b∈F,b∉S):UG S B (B3 rI) H v xs:=⟨F,h.own.rd id,fun b hb=>⟨hS b hb,h.low b hb⟩⟩
structure GH (S S':List Nat)(w w':World):Prop where
 sub:∀b∈S,b∈S'
 new:∀b∈S',b∈S∨w.heap.size≤b
 lt:∀b∈S',b<w'.heap.size
 chg:Az S w w'
section
variable {S S' S'':List Nat} {w w' w'':World} {g:Nat}
theorem GH.refl (h:∀b∈S,b<w.heap.size):GH S S w w:=⟨fun _ h=>h,fun _ h=>.inl h,h,Az.refl S w⟩
theorem GH.trans (h:GH S S' w w')(k:GH S' S'' w' w''):GH S S'' w w'' :=
 ⟨fun b hb=>k.sub b (h.sub b hb),RO h.new k.new h.chg.size,k.lt,h.chg.stp k.chg h.new⟩
theorem GH.ext (h:GH S S' w w')(k:AB w' w''):GH S S' w w'':=⟨h.sub,h.new,fun b hb=>Nat.lt_of_lt_of_le (h.lt b hb) k.size,h.chg.ext k⟩
theorem GH.drew (h:GH S S' w w'):GH S S' w w'.drew:=⟨h.sub,h.new,h.lt,h.chg.drew⟩
theorem GH.of_drew (h:GH S S' w.drew w'):GH S S' w w':=⟨h.sub,h.new,h.lt,h.chg.of_drew⟩
theorem GH.set (h:GH S S' w w')(hg:g∈S)(k:Az [g] w' w''):GH S S' w w'':=⟨h.sub,h.new,fun b hb=>Nat.lt_of_lt_of_le (h.lt b hb) k.size,h.chg.trans (k.sub (Bq hg))⟩
theorem GH.more {F:List Nat}(h:GH S S' w w')(k:Az F w' w'')(hF:∀b∈F,b∈S):GH S S' w w'':=⟨h.sub,h.new,fun b hb=>Nat.lt_of_lt_of_le (h.lt b hb) k.size,h.chg.trans (k.sub hF)⟩
theorem GH.fresh {F:List Nat}(h:GH S S' w w')(k:Az F w' w'')(hF:∀b∈F,w.heap.size≤b):GH S S' w w'':=⟨h.sub,h.new,fun b hb=>Nat.lt_of_lt_of_le (h.lt b hb) k.size,h.chg.fresh k hF⟩
end
structure cI (T T':Tp)(s0 s1:Nat)(c1:Int):Prop where
 bnd:LV T' s1
 num:s1≤3000∧(0≤c1∧c1≤9)∧T.vals.length≤T'.vals.length∧T'.vals.length+s0≤T.vals.length+s1∧T'.grd.length+s0≤T.grd.length+s1
@[simp] theorem HU (T:Tp)(c:AM)(v:Int):(T.put c v).vals.length=T.vals.length+1:=by simp[Tp.put]
@[simp] theorem RR (T:Tp)(c:AM)(v:Int):(T.put c v).code.length=T.code.length+1:=by simp[Tp.put]
@[simp] theorem Xl (T:Tp)(c:AM)(v:Int):(T.put c v).grd=T.grd:=rfl
@[simp] theorem QN (T:Tp)(r:Int)(z:Bool):(T.guard r z).vals=T.vals:=rfl
@[simp] theorem QO (T:Tp)(r:Int)(z:Bool):(T.guard r z).grd.length=T.grd.length+1:=by simp[Tp.guard]
theorem RN.of_ow {e:TypeId}{B T:Nat}{H:Array Obj}{v:Value}{xs:List Int}{F S:List Nat}(h:Ow (AY rI e) B T H v xs F)(hS:∀b∈F,b∉S):RN S (B3 rI) H v xs:=⟨F,h.own.rd id,hS⟩
theorem CT.len {t1 t2 t3:TypeId}{S:List Nat}{g:Nat}{H:Array Obj}{vc vg vv:Value}{T:Tp}(h:CT t1 t2 t3 S g H vc vg vv T):T.code.length≤maxLen∧T.grd.length≤maxLen∧T.vals.length≤maxLen:=by
 obtain⟨Fc,Fg,Fv,h1,h2,h3,_⟩:=h
 exact⟨h1.own.lenle,h2.own.lenle,h3.own.lenle⟩
end
section
def KH (a:List Int):Nat→Tp
 |0=>⟨[],[],[]⟩
 |k+1=>(KH a k).put ⟨1,0,0,((k:Nat):Int)⟩ (a.getD k 0)
def Ie (k:Nat):List Int:=(List.range k).map fun i=>((i:Nat):Int)
@[simp] theorem Hw (k:Nat):(Ie k).length=k:=by simp[Ie]
theorem RS (k:Nat):Ie (k+1)=Ie k++[((k:Nat):Int)]:=by simp[Ie,List.range_succ]
theorem QP {k j:Nat}(h:j<k):(Ie k).getD j 0=((j:Nat):Int):=by
 unfold Ie
 rw[B8 (d:=0) (by simpa using h)]
 simp[h]
@[simp] theorem Lv (a:List Int):∀k,(KH a k).vals.length=k
 |0=>rfl
 |k+1=>by show((KH a k).put _ _).vals.length=_;rw[HU,Lv a k]
@[simp] theorem PE (a:List Int):∀k,(KH a k).code.length=k
 |0=>rfl
 |k+1=>by show((KH a k).put _ _).code.length=_;rw[RR,PE a k]
theorem Xm (a:List Int):∀k,(KH a k).grd=[]
 |0=>rfl
 |k+1=>by show((KH a k).put _ _).grd=_;rw[Xl,Xm a k]
theorem QQ (a:List Int):∀k,k≤a.length→(KH a k).vals=a.take k
 |0,_=>rfl
 |k+1,h=>by
  show(KH a k).vals++[a.getD k 0]=_
  rw[QQ a k zO,Cp 0 (by omega)]
theorem jW {a:List Int}(hn:B9 a=true)(h:a.length≤12):LV (KH a a.length) 0:=by
 refine⟨by simp,by simp;omega,by rw[Xm];simp,?_⟩
 rw[QQ a _ (A9 _),List.take_length];exact hn
theorem jX (a:List Int)(k:Nat):Lu (KH a k) (Ie k):=fun j hj=>by
 rw[Hw]at hj
 rw[QP hj,Lv];omega
def KI (p:List Fn)(f:Nat)(a:List Int):Rs RL:=J5 (M4 p f) (p.getD f Fn.zero).outs (Ie a.length) 0 (KH a a.length)
section rcm
variable {t1 t2 t3:TypeId} {S:List Nat} {g:Nat} {w w':World} {vc vg vv:Value} {T:Tp}
theorem CT.nil:CT t1 t2 t3 S g w.heap (.slice none 0 0) (.slice none 0 0) (.slice none 0 0) ⟨[],[],[]⟩ :=
 ⟨[],[],[],⟨.inl ⟨rfl,rfl,rfl⟩,zk,Ec,Ec⟩,⟨.inl ⟨rfl,rfl,rfl⟩,zk,Ec,Ec⟩,⟨.inl ⟨rfl,rfl,rfl⟩,zk,Ec,Ec⟩,
  ⟨Ec,Ec,Ec⟩,⟨z2,z2,z2⟩,Ec,Ec,Ec⟩
theorem Az.toExt {F:List Nat}(h:Az F w w')(hF:∀b∈F,w.heap.size≤b):AB w w':=⟨h.os,h.tape,h.output,h.size,fun k hk=>h.block k hk fun hm=>by have:=hF k hm;omega⟩
end rcm
def RG {α:Type}(T:Nat)(E:Bk α)(H:Array Obj)(v:Value)(x:α):Prop:=∃F,E H v x F∧∀b∈F,T≤b
theorem UG.rg {α:Type}{S:List Nat}{B T:Nat}{E:Bk α}{H:Array Obj}{v:Value}{x:α}(h:UG S B E H v x)(hT:T≤B):RG T E H v x:=by
 obtain⟨F,h1,h2⟩:=h
 exact⟨F,h1,fun b hb=>Aa hT (h2 b hb).2⟩
theorem RG.rnG {α:Type}{T g:Nat}{E:Bk α}{w:World}{v:Value}{x:α}(hE:BT E)(h:RG T E w.heap v x)(hg:g<T∨w.heap.size≤g):RN [g] E w.heap v x:=by
 obtain⟨F,h1,h2⟩:=h
 refine⟨F,h1,fun b hb hm=>?_⟩
 rw[Ab hm]at hb
 have:=h2 g hb
 have:=hE.lt h1 g hb
 omega
theorem CT.readsG {t1 t2 t3:TypeId}{S:List Nat}{g n:Nat}{w:World}{vc vg vv:Value}{T:Tp}(h:CT t1 t2 t3 S g w.heap vc vg vv T)(hS:∀b∈S,n≤b):RG n (EQ 4 RM) w.heap vc T.code∧RG n (EQ 2 Tl) w.heap vg T.grd:=by
 obtain⟨Fc,Fg,Fv,h1,h2,h3,h4,h5,h6,h7,h8⟩:=h
 exact⟨⟨Fc,h1.own.rd AT,fun b hb=>hS b (h6 b hb)⟩,⟨Fg,h2.own.rd B1,fun b hb=>hS b (h7 b hb)⟩⟩
theorem AX.go0 {α:Type}{r:Rs α}{x:α}{s:Nat}{c:Int}(h:AX (go ((0:Nat):Int) r) x s c):AX r x s c:=h
theorem LD.part {H:Array Obj}{g k:Nat}{cs ds:List Value}(h:BX H g cs)(hl:k+ds.length≤cs.length)(hd:∀i,i<ds.length→ds.getD i undef=cs.getD (k+i) undef):LD H (.pointer (some ⟨g,k,none⟩)) ds:=by
 obtain⟨e,h⟩:=h
 refine⟨g,k,rfl,fun i hi=>?_⟩
 simp only[Ch,h]
 rw[hd i hi]
 simp[show k+i<cs.length by omega]
end
def Jz (p:List Fn)(f:Int):Int:=if KE p=true then(if 0≤f∧f≤((p.length:Nat):Int)-1 then 0 else 2)else 1
def Gg (p:List Fn)(f:Int)(pr:Int→Int→Bool):Int :=
 if Jz p f=0 then(if pr (p.getD f.toNat Fn.zero).params (((p.getD f.toNat Fn.zero).outs.length:Nat):Int)=true then 0 else 2)else Jz p f
theorem Xn {p:List Fn}{f:Int}(h:Jz p f=0):KE p=true∧0≤f∧f<((p.length:Nat):Int):=by
 unfold Jz at h
 split at h
 ·split at h
  ·rename_i h1 h2;exact⟨h1,h2.1,zO⟩
  ·omega
 ·omega
theorem jY {p:List Fn}{f:Int}{pr:Int→Int→Bool}(h:Gg p f pr=0):Jz p f=0∧pr (p.getD f.toNat Fn.zero).params (((p.getD f.toNat Fn.zero).outs.length:Nat):Int)=true:=by
 unfold Gg at h
 split at h
 ·rename_i h1
  split at h
  ·rename_i h2;exact⟨h1,h2⟩
  ·omega
 ·rename_i h1;exact absurd h h1
def E1 (a:List Sr):Nat:=(a.getD 0 []).length-1
theorem fZ {n k:Nat}{s:Sr}(h:BN n s)(hk:k<n):JX (s.getD k 0)=true:=by
 have hk':k<s.length:=by rw[h.1];exact hk
 have:=h.2
 unfold B9 at this
 have h2:=zm.1 this s[k]<|List.getElem_mem hk'
 rwa [show s.getD k 0=s[k]from by simp[hk']]
section
mutual
def Jk:Ex→Int→Int
 |.mk _ _ _ _ l,x=>Dw l (x-1)
def Dw:List Ex→Int→Int
 |[],x=>x
 |e::l,x=>if 0≤x then Dw l (Jk e x)else x
end
theorem aC (e:Ex)(x:Int):Jk e x=Dw e.kids (x-1):=by cases e;rw[Jk];rfl
theorem Nf {l:List Ex}{x:Int}(h:x<0):Dw l x=x:=by
 cases l with
 |nil=>rw[Dw]
 |cons e l=>rw[Dw,if_neg (by omega)]
mutual
theorem Ng:∀(e:Ex)(x:Int),0≤x→(Jk e x=x-(e.size:Int)∧(e.size:Int)≤x)∨(Jk e x = -1∧x<(e.size:Int))
 |.mk k n q c l,x,h=>by
  rw[Jk,Ex.size]
  by_cases h0:x=0
  ·subst h0
   right
   rw[Nf (by omega)]
   refine⟨zO,zO⟩
  ·rcases J6 l (x-1) (by omega)with h1|h1
   ·left;omega
   ·right;omega
theorem J6:∀(l:List Ex)(x:Int),0≤x→(Dw l x=x-(Ex.sizes l:Int)∧(Ex.sizes l:Int)≤x)∨(Dw l x = -1∧x<(Ex.sizes l:Int))
 |[],x,h=>by rw[Dw,Ex.sizes];left;omega
 |e::l,x,h=>by
  rw[Dw,if_pos h,Ex.sizes]
  rcases Ng e x h with h1|h1
  ·rw[h1.1]
   rcases J6 l (x-(e.size:Int)) (by omega)with h2|h2
   ·left;omega
   ·right;omega
  ·rw[h1.1,Nf (by omega)]
   right;omega
end
theorem OL (e:Ex):∀(l:List Ex)(x:Int),Dw (l++[e]) x=if 0≤Dw l x then Jk e (Dw l x)else Dw l x
 |[],x=>by
  rw[zl,Dw,Dw]
  split
  ·rw[Dw]
  ·rfl
 |a::l,x=>by
  rw[List.cons_append,Dw,Dw]
  by_cases h:0≤x
  ·rw[if_pos h,if_pos h,OL e l]
  ·rw[if_neg h,if_neg h,if_neg h]
theorem OM {l:List Ex}{k:Nat}(hk:k<l.length){x:Int}(h:0≤Dw (l.take k) x):Dw (l.take (k+1)) x=Jk (l.getD k Ex.zero) (Dw (l.take k) x):=by
 rw[List.take_succ_eq_append_getElem hk,OL,if_pos h]
 simp[hk]
theorem QR:∀(l r:List Ex)(x:Int),Dw l x<0→Dw (l++r) x=Dw l x
 |[],r,x,h=>by rw[Dw]at h ⊢;rw[zl,Nf h]
 |a::l,r,x,h=>by
  rw[Dw]at h ⊢
  rw[List.cons_append,Dw]
  split
  ·rename_i h0;rw[if_pos h0]at h;exact QR l r _ h
  ·rfl
theorem ON {l:List Ex}{k:Nat}{x:Int}(h:Dw (l.take k) x<0):Dw l x=Dw (l.take k) x:=by
 have:=QR (l.take k) (l.drop k) x h
 rwa [List.take_append_drop]at this
theorem QS {e:Ex}{x:Int}(h:0≤x):-1≤Jk e x∧Jk e x≤x:=by
 rcases Ng e x h with h1|h1 <;> omega
theorem Xo {e:Ex}{x:Int}(h:0≤x):0≤Jk e x↔(e.size:Int)≤x:=by
 rcases Ng e x h with h1|h1 <;> omega
def UH (k:Int):Int:=if k=1∨k=2 then 0 else if k=3∨k=4∨k=5∨k=6∨k=9 then 2 else if k=7 then 1 else if k=8 then 3 else -1
theorem PF {p q:Prop} [Decidable p] [Decidable q] (h:p↔q):decide p=decide q:=decide_eq_decide.2 h
section
variable {p:List Fn} {F vars:Int} {e:Ex}
theorem UI (h:HQ p F vars e=true)(h10:e.kind≠10)(h11:e.kind≠11):e.pick=0∧e.count=0∧UH e.kind=((e.kids.length:Nat):Int)∧(e.kind≠1→e.kind≠2→e.num=0):=by
 unfold HQ El at h
 unfold UH
 split at h
 ·rename_i h1
  simp only[z7,decide_eq_true_eq]at h
  rw[if_pos (by omega)]
  exact⟨h.1.1,h.1.2,zO,fun hh=>absurd h1 hh⟩
 ·split at h
  ·rename_i h1
   simp only[z7,decide_eq_true_eq]at h
   rw[if_pos (by omega)]
   exact⟨h.1.1,h.1.2,zO,fun _ hh=>absurd h1 hh⟩
  ·split at h
   ·simp only[z7,decide_eq_true_eq]at h
    rw[if_neg zO,if_pos (by omega)]
    exact⟨h.1.1,h.1.2,zO,fun _ _=>h.2.1⟩
   ·split at h
    ·simp only[z7,decide_eq_true_eq]at h
     rw[if_neg zO,if_neg zO,if_pos (by omega)]
     exact⟨h.1.1,h.1.2,zO,fun _ _=>h.2.1⟩
    ·split at h
     ·simp only[z7,decide_eq_true_eq]at h
      rw[if_neg zO,if_neg zO,if_neg zO,if_pos (by omega)]
      exact⟨h.1.1,h.1.2,zO,fun _ _=>h.2.1⟩
     ·split at h
      ·omega
      ·cases h
theorem gA (h10:e.kind≠10)(h11:e.kind≠11)(h:UH e.kind≠((e.kids.length:Nat):Int)∨e.pick≠0∨e.count≠0):false=HQ p F vars e:=by
 cases hw:HQ p F vars e with
 |false=>rfl
 |true =>
  have:=UI hw h10 h11
  omega
theorem oP (hk:UH e.kind=((e.kids.length:Nat):Int))(h1:e.kind=1)(hp:e.pick=0)(hc:e.count=0):JX e.num=HQ p F vars e:=by
 have hl:e.kids.length=0:=by unfold UH at hk;rw[if_pos (by omega)]at hk;omega
 unfold HQ El
 rw[if_pos h1,A7 hp,A7 hc,A7 hl];rfl
theorem oQ (hk:UH e.kind=((e.kids.length:Nat):Int))(h1:e.kind=2)(hp:e.pick=0)(hc:e.count=0):(decide (((0:Nat):Int)≤e.num) && decide (e.num≤vars-1))=HQ p F vars e:=by
 have hl:e.kids.length=0:=by unfold UH at hk;rw[if_pos (by omega)]at hk;omega
 unfold HQ El Gp
 rw[if_neg zO,if_pos h1,A7 hp,A7 hc,A7 hl];rfl
theorem oR (hk:UH e.kind=((e.kids.length:Nat):Int))(h1:e.kind≠1)(h2:e.kind≠2)(h10:e.kind≠10)(h11:e.kind≠11)(hp:e.pick=0)(hc:e.count=0):decide (e.num=0)=HQ p F vars e:=by
 unfold UH at hk
 unfold HQ El
 rw[if_neg h1,if_neg h2,A7 hp,A7 hc]
 rw[if_neg (by omega)]at hk
 split at hk
 ·rename_i h3
  rw[if_pos h3,A7 (show e.kids.length=2 by omega)];simp
 ·rename_i h3
  rw[if_neg h3]
  split at hk
  ·rename_i h4
   rw[if_pos h4,A7 (show e.kids.length=1 by omega)];simp
  ·rename_i h4
   rw[if_neg h4]
   split at hk
   ·rename_i h5
    rw[if_pos h5,A7 (show e.kids.length=3 by omega)];simp
   ·omega
end
end
section
def LX (n:Nat)(C:Ca)(e:Ex)(env:List Sr)(s:Nat):Rs Sr:=(Eb n C e.kids env s).bind fun xs t =>
 if e.kind=10 then C.one e.num.toNat e.pick.toNat xs t else(Ml (C.all e.num.toNat) e.count.toNat xs t).bind fun ys u=>.ok (ys.getD e.pick.toNat []) u
section
variable {n:Nat} {C:Ca} {e:Ex} {env:List Sr} {s s1 s2:Nat} {c c1 c2:Int} {x y:Sr} {xs ys:List Sr}
theorem OO (hc:c=0)(hs:s+1≤3000)(hk:e.kind=10∨e.kind=11)(h:AX (go c (LX n C e env (s+1))) y s2 c2):AX (go c (Eo n C e env s)) y s2 c2:=by
 subst hc
 rw[Da]at h ⊢
 rw[N8 hs zO zO zO (by omega)]
 unfold LX at h
 cases hv:Eb n C e.kids env (s+1)with
 |err d=>rw[hv]at h;exact h
 |ok zs t =>
  rw[hv]at h
  rw[Rs.bind_ok]at h ⊢
  by_cases h10:e.kind=10
  ·rw[if_pos h10]at h ⊢;exact h
  ·rw[if_neg h10]at h;rw[if_neg h10,if_pos (by omega)];exact h
theorem Xp {α:Type}{r:Rs α}{v:α}(h:AX (go c r) v s1 c1)(hc:c≠0):c1=c:=by
 rw[DK hc]at h;exact h.1
theorem gB (hl:e.kids.length=1)(h:AX (go c (Eo n C (e.kids.getD 0 Ex.zero) env s)) x s1 c1):AX (go c (Eb n C e.kids env s)) [x] s1 c1:=by
 have h1:=IF (l:=e.kids) (k:=0) zO (J3 n C e.kids env s c) h
 rwa [za (by omega)]at h1
theorem Lw (hl:e.kids.length=2)(h:AX (go c (Eo n C (e.kids.getD 0 Ex.zero) env s)) x s1 c1)(h2:AX (go c1 (Eo n C (e.kids.getD 1 Ex.zero) env s1)) y s2 c2):AX (go c (Eb n C e.kids env s)) [x,y] s2 c2:=by
 have h1:=IF (l:=e.kids) (k:=0) zO (J3 n C e.kids env s c) h
 have h3:=IF (l:=e.kids) (k:=1) zO h1 h2
 rwa [za (by omega)]at h3
theorem HV (hc:c=0)(hs:s+1≤3000)(hk:e.kind=3∨e.kind=4∨e.kind=5∨e.kind=6∨e.kind=7)(hr:AX (go c (Eb n C e.kids env (s+1))) xs s1 c1)
  (h:c1=0→AX (Mm e.kind xs s1) y s1 c2) (h0:c1≠0→c2=c1):AX (go c (Eo n C e env s)) y s1 c2:=by
 by_cases hc1:c1=0
 ·exact fE hc hs zO zO zO zO zO zO hr hc1<|h hc1
 ·rw[h0 hc1];exact UB hc hs zO zO zO zO hr hc1
theorem Xq {p:List Fn}{F:Nat}(hk:e.kind=10)(hF:e.num.toNat<F)(hr:AX (go c (Eb n (Hc p n F) e.kids env s)) xs s1 c1)
  (h2:AX (go c1 (Eo n (Hc p n e.num.toNat) ((p.getD e.num.toNat Fn.zero).outs.getD e.pick.toNat Ex.zero) xs s1)) y s2 c2):AX (go c (LX n (Hc p n F) e env s)) y s2 c2:=by
 by_cases hc:c=0
 ·subst hc
  rw[Da]at hr ⊢
  unfold LX
  by_cases hc1:c1=0
  ·subst hc1;rw[hr.bindO,if_pos hk,Te hF];rw[Da]at h2;exact h2
  ·rw[hr.bindE hc1];rw[DK hc1]at h2;exact h2
 ·have e1:=Xp hr hc
  subst e1
  rw[DK hc]at h2 ⊢;exact h2
theorem Xr {f:List Sr→Nat→Rs (List Sr)}{k:Nat}(h:AX (go c (Ml f k xs s)) ys s1 c1){zs:List Sr}(h2:AX (go c1 (f ys s1)) zs s2 c2):AX (go c (Ml f (k+1) xs s)) zs s2 c2:=by
 by_cases hc:c=0
 ·subst hc
  rw[Da]at h ⊢
  show AX ((Ml f k xs s).bind f) _ _ _
  by_cases hc1:c1=0
  ·subst hc1;rw[h.bindO];rw[Da]at h2;exact h2
  ·rw[h.bindE hc1];rw[DK hc1]at h2;exact h2
 ·have e1:=Xp h hc
  subst e1
  rw[DK hc]at h2 ⊢;exact h2
theorem Xs {f:List Sr→Nat→Rs (List Sr)}(hc:0=0):AX (go c (Ml f 0 xs s)) xs s c:=by
 by_cases h:c=0
 ·subst h;exact⟨rfl,rfl,rfl⟩
 ·exact AX.mk_err (DK h _) h
theorem Xt {p:List Fn}{F:Nat}(hk:e.kind≠10)(hF:e.num.toNat<F)(hr:AX (go c (Eb n (Hc p n F) e.kids env s)) xs s1 c1)
  (h2:AX (go c1 (Ml (fun a t=>Eb n (Hc p n e.num.toNat) (p.getD e.num.toNat Fn.zero).outs a t) e.count.toNat xs s1)) ys s2 c2):AX (go c (LX n (Hc p n F) e env s)) (ys.getD e.pick.toNat []) s2 c2:=by
 have hl:(Hc p n F).all e.num.toNat=fun a t=>Eb n (Hc p n e.num.toNat) (p.getD e.num.toNat Fn.zero).outs a t:=funext fun a=>funext fun t=>J1 hF
 by_cases hc:c=0
 ·subst hc
  rw[Da]at hr ⊢
  unfold LX
  by_cases hc1:c1=0
  ·subst hc1
   rw[hr.bindO,if_neg hk,hl]
   rw[Da]at h2
   by_cases h0:c2=0
   ·subst h0;rw[h2.bindO];exact AX.mk_ok rfl
   ·rw[h2.bindE h0];exact AX.mk_err rfl h0
  ·rw[hr.bindE hc1]
   rw[DK hc1]at h2
   exact AX.mk_err (by rw[h2.1]) (by rw[h2.1];exact hc1)
 ·have e1:=Xp hr hc
  subst e1
  rw[DK hc]at h2 ⊢
  exact AX.mk_err (by rw[h2.1]) (by rw[h2.1];exact hc)
end
end
section
theorem Xu {y:List Sr}(h:Ln y=true)(h0:0<y.length):BC (E1 y+1) y∧E1 y≤12:=by
 unfold Ln at h
 rw[zm]at h
 have h2:∀k,k<y.length→Zk (y.getD k [])=true∧(y.getD k []).length=(y.getD 0 []).length:=by
  intro k hk
  have h3:=h y[k]<|List.getElem_mem hk
  unfold O9 at h3
  rw[z7,decide_eq_true_eq]at h3
  rw[D9 hk];exact h3
 have h4:=Pu.1 (h2 0 h0).1
 refine⟨fun k hk=>⟨?_,(Pu.1 (h2 k hk).1).2⟩,?_⟩
 ·rw[(h2 k hk).2];unfold E1;omega
 ·unfold E1;omega
def Et (p:List Fn)(f:Nat)(s:Sr):Int:=H2 p 1 f (Cd s)
def Eq (p:List Fn)(f:Nat)(s:Sr):Sr:=(CS p 1 f (Cd s)).map fun s=>s.getD 0 0
theorem DL {a:Sr}(h:B9 a=true):BC 1 (Cd a):=by
 intro k hk
 unfold Cd at hk ⊢
 rw[zg]at hk
 rw[List.getD_eq_getElem?_getD,List.getElem?_map,List.getElem?_eq_getElem hk]
 refine⟨rfl,?_⟩
 unfold B9 at h ⊢
 have:=zm.1 h _ (List.getElem_mem hk)
 simpa using this
theorem RU {x:List Sr}{n:Nat}(h:BC (n+1) x):B9 (x.map fun s=>s.getD 0 0)=true:=by
 unfold B9
 rw[zm]
 intro y hy
 obtain⟨s,hs,rfl⟩:=List.mem_map.1 hy
 obtain⟨k,hk,rfl⟩:=List.mem_iff_getElem.1 hs
 have h2:=h k hk
 rw[D9 hk]at h2
 exact fZ h2 zO
section
variable {p:List Fn} {f:Nat} {a s:Sr} {k n:Nat}
structure gC (p:List Fn)(f:Nat)(s:Sr):Prop where
 code:0≤Et p f s∧Et p f s≤9
 len:Et p f s=0→(Eq p f s).length=(p.getD f Fn.zero).outs.length
 num:B9 (Eq p f s)=true
 non:Et p f s≠0→Eq p f s=[]
theorem gC.mk' (h:ZK p 1 f (Cd s)):gC p f s :=
 ⟨h.code,fun h0=>by unfold Eq;rw[zg];exact h.len h0,RU h.ser,fun h0=>by unfold Eq;rw[h.non h0];rfl⟩
end
end
section
def Rs.map {α β:Type}(f:α→β)(r:Rs α):Rs β:=match r with
 |.ok x s=>.ok (f x) s
 |.err c=>.err c
abbrev CC (m:Nat)(x:Sr):Sr:=x.take m
theorem DU {m k:Nat}(x:Sr)(h:k<m):(CC m x).getD k 0=x.getD k 0:=by
 simp only[CC,List.getD_eq_getElem?_getD,List.getElem?_take,if_pos h]
theorem Mp {m:Nat}(l:Nat)(f g:Nat→Int)(h:∀k,k<m→f k=g k):FN (min m l) f=CC m (FN l g):=by
 unfold FN CC
 rw[← List.map_take,List.take_range]
 exact List.map_congr_left fun k hk=>h k (by have:=List.mem_range.1 hk;omega)
section
variable {m:Nat} (a b:Sr)
theorem GQ:(CC m a).length=min m a.length:=List.length_take ..
theorem Xv:EE (CC m a) (CC m b)=CC m (EE a b):=by
 unfold EE;rw[GQ]
 exact Mp _ _ _ fun k hk=>by rw[DU a hk,DU b hk]
theorem Xw:DJ (CC m a) (CC m b)=CC m (DJ a b):=by
 unfold DJ;rw[GQ]
 exact Mp _ _ _ fun k hk=>by rw[DU a hk,DU b hk]
theorem Xx (y:Int):CX (CC m a) y=CC m (CX a y):=by
 unfold CX;rw[GQ]
 exact Mp _ _ _ fun k hk=>by rw[DU a hk]
theorem Tr {k:Nat}(hk:k<m):∀i,i≤k+1→O8 (CC m a) (CC m b) k i=O8 a b k i
 |0,_=>rfl
 |i+1,h=>by
  show md (O8 (CC m a) (CC m b) k i+(CC m a).getD i 0*(CC m b).getD (k-i) 0)=md (O8 a b k i+a.getD i 0*b.getD (k-i) 0)
  rw[Tr hk i zO,DU a zO,DU b (by omega)]
theorem Xy:Ci (CC m a) (CC m b)=CC m (Ci a b):=by
 unfold Ci;rw[GQ]
 exact Mp _ _ _ fun k hk=>Tr a b hk (k+1)<|A9 _
theorem Ts (o:Sr){k:Nat}(hk:k<m):∀i,i≤k→Pj (CC m a) (CC m b) o k i=Pj a b o k i
 |0,_=>DU a hk
 |i+1,h=>by
  show md (Pj (CC m a) (CC m b) o k i-o.getD i 0*(CC m b).getD (k-i) 0)=md (Pj a b o k i-o.getD i 0*b.getD (k-i) 0)
  rw[Ts o hk i zO,DU b (by omega)]
theorem Tt (hm:1≤m):∀k,k≤m→Jw (CC m a) (CC m b) k=Jw a b k
 |0,_=>rfl
 |k+1,h=>by
  rw[Jw,Jw,Tt hm k zO,Ts a b _ zO k (A9 _),DU b (by omega)]
theorem QT:∀ (k j:Nat),j≤k→(Jw a b k).take j = Jw a b j
  | 0, j, h => by have : j = 0 := by omega
                  subst this; rfl
  | k + 1,j,h=>by
    by_cases e:j = k + 1
    · subst e; rw [za (by rw [Ea]; exact A9 _)]
    · rw [Jw,List.take_append_of_le_length (by rw [Ea]; omega)]; exact QT k j zO
theorem Xz (hm:1≤m):C6 (CC m a) (CC m b)=CC m (C6 a b):=by
 unfold C6;rw[GQ,Tt a b hm _ (by omega)]
 show _=(Jw a b a.length).take m
 by_cases h:m≤a.length
 ·rw[QT a b _ _ h,Nat.min_eq_left h]
 ·rw[za (by rw[Ea];omega),Nat.min_eq_right (by omega)]
end
theorem aE {m n:Nat}(x:Int)(h:m≤n):cst m x=CC m (cst n x):=by
 unfold cst CC
 rw[List.take_set,List.take_replicate,Nat.min_eq_left h]
theorem Mq {m:Nat}(env:List Sr)(k:Nat):(env.map (CC m)).getD k []=CC m (env.getD k []):=by
 simp only[List.getD_eq_getElem?_getD,List.getElem?_map]
 cases env[k]? <;> simp[CC]
structure oS (m:Nat)(C C':Ca):Prop where
 one:∀f j xs t,C'.one f j (xs.map (CC m)) t=(C.one f j xs t).map (CC m)
 all:∀f xs t,C'.all f (xs.map (CC m)) t=(C.all f xs t).map (List.map (CC m))
theorem aF {m:Nat}(hm:1≤m)(k:Int)(xs:List Sr)(t:Nat):Mm k (xs.map (CC m)) t=(Mm k xs t).map (CC m):=by
 unfold Mm
 rw[Mq,Mq]
 split
 ·rw[Xv];rfl
 ·split
  ·rw[Xw];rfl
  ·split
   ·rw[Xy];rfl
   ·split
    ·rw[Xx];rfl
    ·rw[DU _ (by omega)]
     split
     ·rfl
     ·rw[Xz _ _ hm];rfl
section
variable {m n:Nat} {C C':Ca}
theorem Tu (hC:oS m C C')(f:Nat):∀(k:Nat)(xs:List Sr)(t:Nat),Ml (C'.all f) k (xs.map (CC m)) t=(Ml (C.all f) k xs t).map (List.map (CC m))
 |0,xs,t=>rfl
 |k+1,xs,t=>by
  rw[Ml,Ml,Tu hC f k xs t]
  cases Ml (C.all f) k xs t with
  |err c=>rfl
  |ok ys u=>exact hC.all f ys u
theorem Mr:∀(l:List Ex),(∀e∈l,∀env s,Eo m C' e (env.map (CC m)) s=(Eo n C e env s).map (CC m))→∀env s,Eb m C' l (env.map (CC m)) s=(Eb n C l env s).map (List.map (CC m))
 |[],_,env,s=>by rw[Eb,Eb];rfl
 |e::l,h,env,s=>by
  rw[Eb,Eb,h e (z0 ..)]
  cases Eo n C e env s with
  |err c=>rfl
  |ok x t =>
   show(Eb m C' l (env.map (CC m)) t).bind _=_
   rw[Mr l (fun e he=>h e (z3 _ he)) env t]
   simp only[Rs.bind_ok]
   cases Eb n C l env t <;> rfl
theorem J7:∀(l:List Ex)(j:Nat),(∀e∈l,∀env s,Eo m C' e (env.map (CC m)) s=(Eo n C e env s).map (CC m))→∀env s,Jy m C' l j (env.map (CC m)) s=(Jy n C l j env s).map (CC m)
 |[],j,_,env,s=>by rw[Jy,Jy];rfl
 |e::l,0,h,env,s=>by rw[Jy,Jy];exact h e (z0 ..) env s
 |e::l,j+1,h,env,s=>by rw[Jy,Jy];exact J7 l j (fun e he=>h e (z3 _ he)) env s
theorem Lx:∀ {l:List Ex}{e:Ex},e∈l→e.size≤Ex.sizes l
 |[],_,h=>by cases h
 |a::l,e,h=>by
  rw[Ex.sizes]
  rcases ze.1 h with rfl|h
  ·omega
  ·have:=Lx h;omega
theorem Ms (hm:1≤m)(hmn:m≤n)(hC:oS m C C'):∀(z:Nat)(e:Ex),e.size≤z→∀env s,Eo m C' e (env.map (CC m)) s=(Eo n C e env s).map (CC m)
 |0,e,h,_,_=>by have:=CV e;omega
 |z+1,e,h,env,s=>by
  have hk:∀x∈e.kids,∀env s,Eo m C' x (env.map (CC m)) s=(Eo n C x env s).map (CC m):=fun x hx=>Ms hm hmn hC z x (by have:=CV e;have:=Lx hx;omega)
  rw[FO,FO]
  split
  ·rfl
  ·split
   ·rw[aE _ hmn];rfl
   ·split
    ·rw[Mq];rfl
    ·split
     ·rw[J7 _ 0 hk]
      cases Jy n C e.kids 0 env (s+1)with
      |err c=>rfl
      |ok x t =>
       show(if (CC m x).getD 0 0=0 then _ else _)=((if x.getD 0 0=0 then _ else _:Rs Sr)).map (CC m)
       rw[DU _ (by omega)]
       split
       ·exact J7 _ 1 hk env t
       ·exact J7 _ 2 hk env t
     ·split
      ·rw[J7 _ 0 hk]
       cases Jy n C e.kids 0 env (s+1)with
       |err c=>rfl
       |ok x t =>
        show Jy m C' e.kids 1 (env.map (CC m)++[CC m x]) t=(Jy n C e.kids 1 (env++[x]) t).map (CC m)
        rw[← J7 _ 1 hk,List.map_append];rfl
      ·rw[Mr _ hk]
       cases Eb n C e.kids env (s+1)with
       |err c=>rfl
       |ok xs t =>
        show(if e.kind=10 then _ else _)=((if e.kind=10 then _ else _:Rs Sr)).map (CC m)
        split
        ·exact hC.one _ _ _ _
        ·split
         ·rw[Tu hC]
          cases Ml (C.all e.num.toNat) e.count.toNat xs t with
          |err c=>rfl
          |ok ys u=>show Rs.ok _ _=Rs.ok _ _;rw[Mq]
         ·exact aF hm _ _ _
theorem Tv (p:List Fn)(hm:1≤m)(hmn:m≤n):∀F,oS m (Hc p n F) (Hc p m F)
 |0=>⟨fun _ _ _ _=>rfl,fun _ _ _=>rfl⟩
 |F+1=>by
  have ih:=Tv p hm hmn F
  refine⟨fun f j xs t=>?_,fun f xs t=>?_⟩
  ·show(if f=F then _ else _)=((if f=F then _ else _:Rs Sr)).map (CC m)
   split
   ·exact Ms hm hmn ih _ _ (A9 _) _ _
   ·exact ih.one f j xs t
  ·show(if f=F then _ else _)=((if f=F then _ else _:Rs (List Sr))).map (List.map (CC m))
   split
   ·exact Mr _ (fun e _=>Ms hm hmn ih _ e<|A9 _) _ _
   ·exact ih.all f xs t
end
theorem XA (p:List Fn){m n:Nat}(hm:1≤m)(hmn:m≤n)(f:Nat)(a:List Sr):ev p m f (a.map (CC m))=(ev p n f a).map (List.map (CC m)) :=
 Mr _ (fun e _=>Ms hm hmn (Tv p hm hmn f) _ e (A9 _)) _ _
theorem Tw (p:List Fn){m n:Nat}(hm:1≤m)(hmn:m≤n)(f:Nat)(a:List Sr):CS p m f (a.map (CC m))=(CS p n f a).map (CC m):=by
 unfold CS;rw[XA p hm hmn]
 cases ev p n f a <;> rfl
theorem aG (p:List Fn){m n:Nat}(hm:1≤m)(hmn:m≤n)(f:Nat)(a:List Sr):H2 p m f (a.map (CC m))=H2 p n f a:=by
 unfold H2;rw[XA p hm hmn]
 cases ev p n f a <;> rfl
end
section
def gD (n:Nat)(r:Rs Sr):Prop:=match r with
 |.ok x s=>BN n x∧s≤3000
 |.err c=>c=6∨c=7
def nT (n m:Nat)(r:Rs (List Sr)):Prop:=match r with
 |.ok xs s=>xs.length=m∧BC n xs∧s≤3000
 |.err c=>c=6∨c=7
structure oU (p:List Fn)(n F:Nat)(C:Ca):Prop where
 one:∀f j xs t,f<F→j<(p.getD f Fn.zero).outs.length→BC n xs→((xs.length:Nat):Int)=(p.getD f Fn.zero).params→t≤3000→gD n (C.one f j xs t)
 all:∀f xs t,f<F→BC n xs→((xs.length:Nat):Int)=(p.getD f Fn.zero).params→t≤3000→nT n (p.getD f Fn.zero).outs.length (C.all f xs t)
theorem BC.nil (n:Nat):BC n []:=fun k hk=>by simp at hk
theorem BC.cons {n:Nat}{x:Sr}{xs:List Sr}(hx:BN n x)(h:BC n xs):BC n (x::xs):=by
 intro k hk
 cases k with
 |zero=>exact hx
 |succ k=>exact h k (by simpa using hk)
theorem XB {n:Nat}{C:Ca}{env:List Sr}:∀(l:List Ex),(∀e∈l,∀s,s≤3000→gD n (Eo n C e env s))→∀s,s≤3000→nT n l.length (Eb n C l env s)
 |[],_,s,hs=>by rw[Eb];exact⟨rfl,BC.nil n,hs⟩
 |e::l,h,s,hs=>by
  rw[Eb]
  have h1:=h e (z0 ..) s hs
  cases h2:Eo n C e env s with
  |err c=>rw[h2]at h1;exact h1
  |ok x t =>
   rw[h2]at h1
   have h3:=XB l (fun e he=>h e<|z3 _ he) t h1.2
   rw[Rs.bind_ok]
   cases h4:Eb n C l env t with
   |err c=>rw[h4]at h3;exact h3
   |ok xs u=>rw[h4]at h3;exact⟨by simp[h3.1],BC.cons h1.1 h3.2.1,h3.2.2⟩
theorem cJ {p:List Fn}{n F f:Nat}{C:Ca}(hC:oU p n F C)(hf:f<F)(ho:(((p.getD f Fn.zero).outs.length:Nat):Int)=(p.getD f Fn.zero).params):∀(k:Nat)(xs:List Sr)(t:Nat),BC n xs→xs.length=(p.getD f Fn.zero).outs.length→t≤3000→nT n (p.getD f Fn.zero).outs.length (Ml (C.all f) k xs t)
 |0,xs,t,h1,h2,h3=>⟨h2,h1,h3⟩
 |k+1,xs,t,h1,h2,h3=>by
  have h:=cJ hC hf ho k xs t h1 h2 h3
  rw[Ml]
  cases h4:Ml (C.all f) k xs t with
  |err c=>rw[h4]at h;exact h
  |ok ys u=>rw[h4]at h;rw[Rs.bind_ok];exact hC.all f ys u hf h.2.1 (by rw[h.1];exact ho) h.2.2
theorem jZ {n:Nat}{k:Int}{xs:List Sr}{t:Nat}(hx:BC n xs)(h0:0<xs.length)(ht:t≤3000):gD n (Mm k xs t):=by
 have h1:=(hx 0 h0).1
 unfold Mm
 split
 ·exact⟨⟨by rw[Hm];exact h1,IA _ _⟩,ht⟩
 ·split
  ·exact⟨⟨by rw[Ho];exact h1,Hp _ _⟩,ht⟩
  ·split
   ·exact⟨⟨by rw[FF];exact h1,FG _ _⟩,ht⟩
   ·split
    ·exact⟨⟨by rw[Hn];exact h1,FH _ _⟩,ht⟩
    ·split
     ·exact .inl rfl
     ·exact⟨⟨by rw[E7];exact h1,ED _ _⟩,ht⟩
theorem XC {p:List Fn}{n F:Nat}{C:Ca}(hC:oU p n F C):∀(z:Nat)(e:Ex),e.size≤z→∀(env:List Sr)(s:Nat),wf p ((F:Nat):Int) e ((env.length:Nat):Int)=true→BC n env→s≤3000→gD n (Eo n C e env s)
 |0,e,h,_,_,_,_,_=>by have:=CV e;omega
 |z+1,e,h,env,s,hw,he,hs=>by
  obtain⟨w1,w2,w3,w4,w5,w6,w7,w8⟩:=DB (Dj hw)
  have hz:∀j,j<e.kids.length→(e.kids.getD j Ex.zero).size≤z:=fun j hj=>by
   have h2:e.kids.getD j Ex.zero∈e.kids:=by rw[D9 hj];exact List.getElem_mem hj
   have:=CV e;have:=Lx h2;omega
  have hk:∀j,j<e.kids.length→¬(e.kind=9∧j=1)→∀t,t≤3000→gD n (Jy n C e.kids j env t):=fun j hj hn t ht=>by
   rw[E0 _ _ _ _ _ _ hj]
   exact XC hC z _ (hz j hj) env t (H1 hw hj hn) he ht
  rw[FO]
  split
  ·exact .inr rfl
  ·rename_i hs3
   split
   ·rename_i h1;exact⟨Ft (Ck.2 (w8 h1)),zO⟩
   ·split
    ·rename_i h1 h2;exact⟨he _ (by have:=w2 h2;omega),zO⟩
    ·split
     ·rename_i h1 h2 h8
      have h3:=w5 h8
      have hc:=hk 0 zO zO (s+1) zO
      cases h4:Jy n C e.kids 0 env (s+1)with
      |err c=>rw[h4]at hc;exact hc
      |ok x t =>
       rw[h4]at hc;rw[Rs.bind_ok]
       split
       ·exact hk 1 zO zO t hc.2
       ·exact hk 2 zO zO t hc.2
     ·split
      ·rename_i h1 h2 h8 h9
       have h3:=w3 zO
       have hc:=hk 0 zO zO (s+1) zO
       cases h4:Jy n C e.kids 0 env (s+1)with
       |err c=>rw[h4]at hc;exact hc
       |ok x t =>
        rw[h4]at hc;rw[Rs.bind_ok,E0 _ _ _ _ _ _ (show 1<e.kids.length by omega)]
        refine XC hC z _ (hz 1 zO) (env++[x]) t ?_ (he.snoc hc.1) hc.2
        have:=N7 hw zO h9
        rw[z4,zd];exact this
      ·rename_i h1 h2 h8 h9
       have hc:=XB (n:=n) (C:=C) (env:=env) e.kids (fun x hx t ht=>by
        obtain⟨j,hj,rfl⟩:=List.mem_iff_getElem.1 hx
        have:=hk j hj zO t ht
        rwa [E0 _ _ _ _ _ _ hj,D9 hj]at this) (s+1) zO
       cases h4:Eb n C e.kids env (s+1)with
       |err c=>rw[h4]at hc;exact hc
       |ok xs t =>
        rw[h4]at hc;rw[Rs.bind_ok]
        obtain⟨c1,c2,c3⟩:=hc
        split
        ·rename_i h10
         have h6:=w6<|.inl h10
         exact hC.one _ _ xs t zO zO c2 (by rw[c1];exact h6.2.2.1) c3
        ·split
         ·rename_i h11
          have h6:=w6 (.inr h11);have h7:=w7 h11
          have hl:=cJ hC (f:=e.num.toNat) zO h7.1 e.count.toNat xs t c2 zO c3
          cases h5:Ml (C.all e.num.toNat) e.count.toNat xs t with
          |err c=>rw[h5]at hl;exact hl
          |ok ys u=>rw[h5]at hl;exact⟨hl.2.1 _ (by rw[hl.1];omega),hl.2.2⟩
         ·refine jZ c2 ?_ c3
          rw[c1]
          by_cases h7:e.kind=7
          ·rw[w4 h7];decide
          ·rw[w3 (by omega)];decide
theorem XD {p:List Fn}(hv:J2 p)(n:Nat):∀F,F≤p.length→oU p n F (Hc p n F)
 |0,_=>⟨fun f j xs t h=>by omega,fun f xs t h=>by omega⟩
 |F+1,hF=>by
  have ih:=XD hv n F zO
  have hO:∀j xs t,j<(p.getD F Fn.zero).outs.length→BC n xs→((xs.length:Nat):Int)=(p.getD F Fn.zero).params→t≤3000→gD n (Eo n (Hc p n F) ((p.getD F Fn.zero).outs.getD j Ex.zero) xs t):=fun j xs t h2 h3 h4 h5 =>
   XC ih _ _ (A9 _) xs t (by rw[h4];exact hv.wf F zO j h2) h3 h5
  refine⟨fun f j xs t h1 h2 h3 h4 h5=>?_,fun f xs t h1 h3 h4 h5=>?_⟩
  ·show gD n (if f=F then _ else _)
   split
   ·rename_i e;subst e;exact hO j xs t h2 h3 h4 h5
   ·exact ih.one f j xs t zO h2 h3 h4 h5
  ·show nT n _ (if f=F then _ else _)
   split
   ·rename_i e;subst e
    refine XB _ (fun e he s hs=>?_) t h5
    obtain⟨j,hj,rfl⟩:=List.mem_iff_getElem.1 he
    have:=hO j xs s hj h3 h4 hs
    rwa [D9 hj]at this
   ·exact ih.all f xs t zO h3 h4 h5
theorem oW {p:List Fn}(hv:J2 p){n f:Nat}{a:List Sr}(hf:f<p.length)(ha:BC n a)(hl:((a.length:Nat):Int)=(p.getD f Fn.zero).params):ZK p n f a:=by
 have h:=(XD hv n (f+1) zO).all f a 0 zO ha hl zO
 rw[J1 (by omega)]at h
 have e:ev p n f a=Eb n (Hc p n f) (p.getD f Fn.zero).outs a 0:=rfl
 rw[← e]at h
 cases h2:ev p n f a with
 |err c =>
  rw[h2]at h;have h:c=6∨c=7:=h
  exact⟨by rw[Hv h2];omega,by rw[X1 h2];omega,fun hh=>by rw[Hv h2]at hh;omega,by rw[QI h2];exact BC.nil n,fun _=>QI h2⟩
 |ok xs s =>
  rw[h2]at h;have h:xs.length=_∧BC n xs∧s≤3000:=h
  exact⟨by rw[LU h2];omega,by rw[X0 h2];exact h.2.2,fun _=>by rw[KD h2];exact h.1,by rw[KD h2];exact h.2.1,fun hh=>absurd (LU h2) hh⟩
theorem aH {y z:List Sr}(hl:y.length=z.length)(h:∀j,j<y.length→y.getD j []=z.getD j []):y=z :=
 List.ext_getElem hl fun j h1 h2=>by have:=h j h1;rwa [D9 h1,D9 h2]at this
section
variable {p:List Fn} {f o:Nat} {a:List Int}
theorem RV (s:Sr)(k:Nat)(x:Int)(j:Nat):(s.set k x).getD j 0=if j=k∧k<s.length then x else s.getD j 0:=by
 simp only[List.getD_eq_getElem?_getD,List.getElem?_set]
 by_cases e:k=j
 ·subst e
  by_cases h:k<s.length
  ·simp[h]
  ·simp[h,List.getElem?_eq_none (Nat.le_of_not_lt h)]
 ·rw[if_neg e,if_neg (by omega)]
end
end
theorem Fr.rowCap {α:Type}{E:Bk α}{e e':TypeId}(hE:BT (AY E e)){B U:Nat}{w:World}{v:Value}{xs:List (List α)}(h:Fr (AY (AY E e) e') B U w.heap v xs){r:Nat}(hr:r<xs.length){u:Value}(hu:Fj w.heap (Ax v r 1)=some u):Cj u:=by
 obtain⟨G,h1,_⟩:=h.row_two hE [] hr hu
 exact h1.cap
theorem Fr.rowFr {α:Type}{E:Bk α}{e e':TypeId}(hE:BT (AY E e)){B U:Nat}{w:World}{v:Value}{xs:List (List α)}(h:Fr (AY (AY E e) e') B U w.heap v xs){r:Nat}(hr:r<xs.length){u:Value}(hu:Fj w.heap (Ax v r 1)=some u):Fr (AY E e) B U w.heap u (xs.getD r []):=by
 obtain⟨G,h1,h2,h3,_⟩:=h.row_two hE [] hr hu
 exact⟨G,h1,h2,h3⟩
theorem XE {α:Type}{E:Bk α}{H:Array Obj}:∀ {us:List Value}{xs:List α}{F:List Nat}(k:Nat),els E H us xs F→∃G,els E H (us.take k) (xs.take k) G∧∀b∈G,b∈F:=by
 intro us
 induction us with
 |nil=>intro xs F k h;cases xs with
  |nil=>exact⟨F,by simpa using h,fun b hb=>hb⟩
  |cons=>exact h.elim
 |cons u us ih =>
  intro xs F k h
  cases xs with
  |nil=>exact h.elim
  |cons x xs =>
   cases k with
   |zero=>exact⟨[],rfl,fun b hb=>by cases hb⟩
   |succ k =>
    obtain⟨A,C,rfl,p1,p2⟩:=h
    obtain⟨G,g1,g2⟩:=ih k p2
    exact⟨A++G,⟨A,G,rfl,p1,g1⟩,fun b hb=>by
     rcases zi.1 hb with hb|hb
     ·exact z8 _ hb
     ·exact z1 _ (g2 b hb)⟩
theorem Rd.pref {α:Type}{E:Bk α}{H:Array Obj}{v:Value}{xs:List α}{k:Nat}(h:Rd (B3 E) H v xs)(hk:k≤xs.length):Rd (B3 E) H (MP v k) (xs.take k):=by
 obtain⟨F,h⟩:=h
 rcases h with⟨a,cap,rfl,rfl,rfl⟩|⟨us,g,off,cap,cur,e,fr,F',hels,rfl,hg,h1,h2,rfl⟩
 ·have:k=0:=by simpa using hk
  subst this
  exact⟨[],.inl ⟨a,cap,rfl,by simp,rfl⟩⟩
 ·obtain⟨G,g1,_⟩:=XE k hels
  have hl:(xs.take k).length=k:=by rw[List.length_take];omega
  refine⟨g::G,.inr ⟨us.take k,g,off,cap,cur,e,fr,G,g1,by rw[hl];rfl,hg,?_,by rw[hl];omega,rfl⟩⟩
  rw[hl,← h1,List.take_take,Nat.min_eq_left hk]
section
theorem XF {s:ByteArray}(h:Na s=true):s.size≤12:=by
 unfold Na at h
 simp only[z7,decide_eq_true_eq]at h
 exact h.1.2
section
variable {p:List Fn} {f o:Int} {a b d:List Int}
theorem aI {n:Nat}{y:List Sr}(hn:n≤12)(h:BC (n+1) y):Ln y=true:=by
 unfold Ln
 rw[zm]
 intro s hs
 obtain⟨k,hk,rfl⟩:=List.mem_iff_getElem.1 hs
 have h1:=h k hk;have h0:=h 0 zO
 rw[← D9 hk]
 unfold O9
 rw[z7,decide_eq_true_eq]
 exact⟨Pu.2 ⟨by have:=h1.1;omega,h1.2⟩,by rw[h1.1,h0.1]⟩
end
end
section
def J8 {α:Type}(K:Nat)(R:(Nat→α)→α→Prop)(r:Nat→Rs α)(rz:Rs α):Prop:=match rz with
 |.ok z t=>∃x,(∀k,k<K→r k=.ok (x k) t)∧R x z
 |.err c=>∀k,k<K→r k=.err c
theorem J8.congr {α:Type}{K:Nat}{R:(Nat→α)→α→Prop}{r r':Nat→Rs α}{rz:Rs α}(h:J8 K R r rz)(e:∀k,k<K→r' k=r k):J8 K R r' rz:=by
 cases rz with
 |ok z t=>obtain⟨x,h1,h2⟩:=h;exact⟨x,fun k hk=>(e k hk).trans (h1 k hk),h2⟩
 |err c=>exact fun k hk=>(e k hk).trans (h k hk)
theorem J8.bind {α β:Type}{K:Nat}{R:(Nat→α)→α→Prop}{R':(Nat→β)→β→Prop}{r:Nat→Rs α}{rz:Rs α}{g:Nat→α→Nat→Rs β}{gz:α→Nat→Rs β}(h:J8 K R r rz)
  (hg:∀x z t,R x z→J8 K R' (fun k=>g k (x k) t) (gz z t)):J8 K R' (fun k=>(r k).bind (g k)) (rz.bind gz):=by
 cases rz with
 |ok z t =>
  obtain⟨x,h1,h2⟩:=h
  exact(hg x z t h2).congr fun k hk=>by rw[h1 k hk];rfl
 |err c=>exact fun k hk=>by show(r k).bind _=_;rw[h k hk];rfl
theorem J8.ret {α:Type}{K:Nat}{R:(Nat→α)→α→Prop}{x:Nat→α}{z:α}{t:Nat}(h:R x z):J8 K R (fun k=>.ok (x k) t) (.ok z t):=⟨x,fun _ _=>rfl,h⟩
theorem J8.fail {α:Type}{K:Nat}{R:(Nat→α)→α→Prop}{c:Int}:J8 K R (fun _=>.err c) (.err c):=fun _ _=>rfl
structure kA (K:Nat)(n:Nat→Nat)(nz:Nat)(R:(Nat→Sr)→Sr→Prop):Prop where
 zero:∀x z,R x z→∀k,k<K→((x k).getD 0 0=0↔z.getD 0 0=0)
 cst:∀c,JX c=true→R (fun k=>cst (n k) c) (Go.Proofs.YtbajepcpgncekaaGreat.cst nz c)
 add:∀x z y w,R x z→R y w→R (fun k=>EE (x k) (y k)) (EE z w)
 red:∀x z y w,R x z→R y w→R (fun k=>DJ (x k) (y k)) (DJ z w)
 pro:∀x z y w,R x z→R y w→R (fun k=>Ci (x k) (y k)) (Ci z w)
 scl:∀x z,R x z→R (fun k=>CX (x k) 1000002) (CX z 1000002)
 quo:∀x z y w,R x z→R y w→w.getD 0 0≠0→R (fun k=>C6 (x k) (y k)) (C6 z w)
def Mu (K:Nat)(R:(Nat→Sr)→Sr→Prop)(m:Nat)(xs:Nat→List Sr)(zs:List Sr):Prop:=zs.length=m∧(∀k,k<K→(xs k).length=m)∧∀i,i<m→∃x,(∀k,k<K→(xs k).getD i []=x k)∧R x (zs.getD i [])
section
variable {K:Nat} {n:Nat→Nat} {nz:Nat} {R:(Nat→Sr)→Sr→Prop} {p:List Fn}
theorem Mu.nil:Mu K R 0 (fun _=>[]) []:=⟨rfl,fun _ _=>rfl,fun i hi=>by omega⟩
theorem Mu.cons {m:Nat}{x:Nat→Sr}{z:Sr}{xs:Nat→List Sr}{zs:List Sr}(h1:R x z)(h:Mu K R m xs zs):Mu K R (m+1) (fun k=>x k::xs k) (z::zs):=by
 refine⟨by rw[z9,h.1],fun k hk=>by rw[z9,h.2.1 k hk],fun i hi=>?_⟩
 cases i with
 |zero=>exact⟨x,fun _ _=>rfl,h1⟩
 |succ i =>
  obtain⟨y,h3,h4⟩:=h.2.2 i zO
  exact⟨y,fun k hk=>by simpa using h3 k hk,by simpa using h4⟩
theorem Mu.snoc {m:Nat}{x:Nat→Sr}{z:Sr}{xs:Nat→List Sr}{zs:List Sr}(h:Mu K R m xs zs)(h1:R x z):Mu K R (m+1) (fun k=>xs k++[x k]) (zs++[z]):=by
 refine⟨by simp[h.1],fun k hk=>by simp[h.2.1 k hk],fun i hi=>?_⟩
 by_cases e:i=m
 ·exact⟨x,fun k hk=>GZ (by rw[h.2.1 k hk];exact e),by rw[GZ (by rw[h.1];exact e)];exact h1⟩
 ·obtain⟨y,h3,h4⟩:=h.2.2 i zO
  exact⟨y,fun k hk=>by rw[Hi (by rw[h.2.1 k hk];omega)];exact h3 k hk,by rw[Hi (by rw[h.1];omega)];exact h4⟩
structure oX (K:Nat)(R:(Nat→Sr)→Sr→Prop)(p:List Fn)(F:Nat)(C:Nat→Ca)(Cz:Ca):Prop where
 one:∀f j m xs zs t,f<F→j<(p.getD f Fn.zero).outs.length→Mu K R m xs zs→((m:Nat):Int)=(p.getD f Fn.zero).params→J8 K R (fun k=>(C k).one f j (xs k) t) (Cz.one f j zs t)
 all:∀f m xs zs t,f<F→Mu K R m xs zs→((m:Nat):Int)=(p.getD f Fn.zero).params→J8 K (Mu K R (p.getD f Fn.zero).outs.length) (fun k=>(C k).all f (xs k) t) (Cz.all f zs t)
theorem XG {C:Nat→Ca}{Cz:Ca}{env:Nat→List Sr}{ez:List Sr}:∀(l:List Ex),(∀e∈l,∀s,J8 K R (fun k=>Eo (n k) (C k) e (env k) s) (Eo nz Cz e ez s))→∀s,J8 K (Mu K R l.length) (fun k=>Eb (n k) (C k) l (env k) s) (Eb nz Cz l ez s)
 |[],_,s=>by
  simp only[Eb]
  exact J8.ret Mu.nil
 |e::l,h,s=>by
  simp only[Eb]
  exact (h e (z0 ..) s).bind fun x z t hx=>(XG l (fun e he=>h e<|z3 _ he) t).bind fun xs zs u hxs=>J8.ret<|hxs.cons hx
theorem cK {F f:Nat}{C:Nat→Ca}{Cz:Ca}(hC:oX K R p F C Cz)(hf:f<F)(ho:(((p.getD f Fn.zero).outs.length:Nat):Int)=(p.getD f Fn.zero).params):∀(c:Nat)(xs:Nat→List Sr)(zs:List Sr)(t:Nat),Mu K R (p.getD f Fn.zero).outs.length xs zs →
  J8 K (Mu K R (p.getD f Fn.zero).outs.length) (fun k=>Ml ((C k).all f) c (xs k) t) (Ml (Cz.all f) c zs t)
 |0,xs,zs,t,h=>J8.ret h
 |c+1,xs,zs,t,h=>(cK hC hf ho c xs zs t h).bind fun ys ws u hy=>hC.all f _ ys ws u hf hy ho
theorem Mu.at {m i:Nat}{xs:Nat→List Sr}{zs:List Sr}{t:Nat}(h:Mu K R m xs zs)(hi:i<m):J8 K R (fun k=>.ok ((xs k).getD i []) t) (.ok (zs.getD i []) t):=by
 obtain⟨x,h1,h2⟩:=h.2.2 i hi
 exact(J8.ret h2).congr fun k hk=>by rw[h1 k hk]
theorem Mu.two {m t t':Nat}{xs:Nat→List Sr}{zs:List Sr}{o:Sr→Sr→Sr}(h:Mu K R m xs zs)(hm:2≤m)(ho:∀x z y w,R x z→R y w→R (fun k=>o (x k) (y k)) (o z w)) :
  J8 K R (fun k=>.ok (o ((xs k).getD 0 []) ((xs k).getD 1 [])) t) (.ok (o (zs.getD 0 []) (zs.getD 1 [])) t):=by
 obtain⟨x,h1,h2⟩:=h.2.2 0 zO
 obtain⟨y,h3,h4⟩:=h.2.2 1 zO
 exact(J8.ret (ho x _ y _ h2 h4)).congr fun k hk=>by rw[h1 k hk,h3 k hk]
theorem kB (hR:kA K n nz R){kd:Int}{m t:Nat}{xs:Nat→List Sr}{zs:List Sr}(h:Mu K R m xs zs)(h1:kd=7→1≤m)(h2:kd≠7→2≤m):J8 K R (fun k=>Mm kd (xs k) t) (Mm kd zs t):=by
 unfold Mm
 by_cases k3:kd=3
 ·simp only[if_pos k3];exact h.two (t':=0) (h2 zO) hR.add
 simp only[if_neg k3]
 by_cases k4:kd=4
 ·simp only[if_pos k4];exact h.two (t':=0) (h2 zO) hR.red
 simp only[if_neg k4]
 by_cases k5:kd=5
 ·simp only[if_pos k5];exact h.two (t':=0) (h2 zO) hR.pro
 simp only[if_neg k5]
 by_cases k7:kd=7
 ·simp only[if_pos k7]
  obtain⟨x,q1,q2⟩:=h.2.2 0 (h1 k7)
  exact(J8.ret (hR.scl x _ q2)).congr fun k hk=>by rw[q1 k hk]
 simp only[if_neg k7]
 obtain⟨x,q1,q2⟩:=h.2.2 0 (by have:=h2 k7;omega)
 obtain⟨y,q3,q4⟩:=h.2.2 1 (by have:=h2 k7;omega)
 have hz:=hR.zero y _ q4
 by_cases h0:(zs.getD 1 []).getD 0 0=0
 ·simp only[if_pos h0]
  exact fun k hk=>by
   show(if List.getD ((xs k).getD 1 []) 0 0=0 then _ else _)=_
   rw[q3 k hk,if_pos ((hz k hk).2 h0)]
 ·simp only[if_neg h0]
  exact(J8.ret (hR.quo x _ y _ q2 q4 h0)).congr fun k hk=>by rw[q3 k hk,q1 k hk,if_neg fun h=>h0 ((hz k hk).1 h)]
theorem XH (hR:kA K n nz R){F:Nat}{C:Nat→Ca}{Cz:Ca}(hC:oX K R p F C Cz):∀(z:Nat)(e:Ex),e.size≤z→∀(m:Nat)(env:Nat→List Sr)(ez:List Sr)(s:Nat),wf p ((F:Nat):Int) e ((m:Nat):Int)=true→Mu K R m env ez→J8 K R (fun k=>Eo (n k) (C k) e (env k) s) (Eo nz Cz e ez s)
 |0,e,h,_,_,_,_,_,_=>by have:=CV e;omega
 |z+1,e,h,m,env,ez,s,hw,he=>by
  obtain⟨w1,w2,w3,w4,w5,w6,w7,w8⟩:=DB (Dj hw)
  have hz:∀j,j<e.kids.length→(e.kids.getD j Ex.zero).size≤z:=fun j hj=>by
   have:=CV e;have:=Qm hj;omega
  have hk:∀j,j<e.kids.length→¬(e.kind=9∧j=1)→∀t,J8 K R (fun k=>Jy (n k) (C k) e.kids j (env k) t) (Jy nz Cz e.kids j ez t):=fun j hj hn t=>by
   simp only[E0 _ _ _ _ _ _ hj]
   exact XH hR hC z _ (hz j hj) m env ez t (H1 hw hj hn) he
  simp only[FO]
  by_cases hs3:3000≤s
  ·simp only[if_pos hs3];exact J8.fail
  simp only[if_neg hs3]
  by_cases k1:e.kind=1
  ·simp only[if_pos k1];exact J8.ret (hR.cst _ (Ck.2 (w8 k1)))
  simp only[if_neg k1]
  by_cases k2:e.kind=2
  ·simp only[if_pos k2];exact he.at (by have:=w2 k2;omega)
  simp only[if_neg k2]
  by_cases k8:e.kind=8
  ·simp only[if_pos k8]
   have h3:=w5 k8
   refine (hk 0 zO zO (s+1)).bind fun x y t hx=>?_
   have hq:=hR.zero x y hx
   by_cases h0:y.getD 0 0=0
   ·simp only[if_pos h0]
    exact(hk 1 zO zO t).congr fun k hk=>by rw[if_pos ((hq k hk).2 h0)]
   ·simp only[if_neg h0]
    exact(hk 2 zO zO t).congr fun k hk=>by rw[if_neg fun h=>h0 ((hq k hk).1 h)]
  simp only[if_neg k8]
  by_cases k9:e.kind=9
  ·simp only[if_pos k9]
   have h3:=w3 zO
   refine (hk 0 zO zO (s+1)).bind fun x y t hx=>?_
   simp only[E0 _ _ _ _ _ _ (show 1<e.kids.length by omega)]
   refine XH hR hC z _ (hz 1 zO) (m+1) (fun k=>env k++[x k]) (ez++[y]) t ?_<|he.snoc hx
   have:=N7 hw zO k9
   rw[Int.natCast_add];exact this
  simp only[if_neg k9]
  have hc:=XG (n:=n) (C:=C) (nz:=nz) (Cz:=Cz) (env:=env) (ez:=ez) e.kids (fun x hx t=>by
   obtain⟨j,hj,rfl⟩:=List.mem_iff_getElem.1 hx
   have:=hk j hj zO t
   simp only[E0 _ _ _ _ _ _ hj,D9 hj]at this
   exact this) (s+1)
  refine hc.bind fun xs zs t hx=>?_
  by_cases k10:e.kind=10
  ·simp only[if_pos k10]
   have h6:=w6<|.inl k10
   exact hC.one _ _ _ xs zs t zO zO hx (by exact h6.2.2.1)
  simp only[if_neg k10]
  by_cases k11:e.kind=11
  ·simp only[if_pos k11]
   have h6:=w6 (.inr k11);have h7:=w7 k11
   have hl:e.kids.length=(p.getD e.num.toNat Fn.zero).outs.length:=by omega
   rw[hl]at hx
   exact (cK hC (f:=e.num.toNat) zO h7.1 e.count.toNat xs zs t hx).bind fun ys ws u hy=>hy.at zO
  simp only[if_neg k11]
  exact kB hR hx (fun h7=>by rw[w4 h7];decide) fun h7=>by rw[w3 (by omega)];decide
theorem cL (hR:kA K n nz R)(hv:J2 p):∀F,F≤p.length→oX K R p F (fun k=>Hc p (n k) F) (Hc p nz F)
 |0,_=>⟨fun f j m xs zs t h=>by omega,fun f m xs zs t h=>by omega⟩
 |F+1,hF=>by
  have ih:=cL hR hv F zO
  have hO:∀j m xs zs t,j<(p.getD F Fn.zero).outs.length→Mu K R m xs zs→((m:Nat):Int)=(p.getD F Fn.zero).params→J8 K R (fun k=>Eo (n k) (Hc p (n k) F) ((p.getD F Fn.zero).outs.getD j Ex.zero) (xs k) t) (Eo nz (Hc p nz F) ((p.getD F Fn.zero).outs.getD j Ex.zero) zs t):=fun j m xs zs t h2 h3 h4 =>
   XH hR ih _ _ (A9 _) m xs zs t (by rw[h4];exact hv.wf F zO j h2) h3
  refine⟨fun f j m xs zs t h1 h2 h3 h4=>?_,fun f m xs zs t h1 h3 h4=>?_⟩
  ·show J8 K R (fun k=>if f=F then _ else _) (if f=F then _ else _)
   by_cases e:f=F
   ·subst e;simp only[if_true];exact hO j m xs zs t h2 h3 h4
   ·simp only[if_neg e];exact ih.one f j m xs zs t zO h2 h3 h4
  ·show J8 K _ (fun k=>if f=F then _ else _) (if f=F then _ else _)
   by_cases e:f=F
   ·subst e;simp only[if_true]
    refine XG _ (fun e he s=>?_) t
    obtain⟨j,hj,rfl⟩:=List.mem_iff_getElem.1 he
    have:=hO j m xs zs s hj h3 h4
    rwa [D9 hj]at this
   ·simp only[if_neg e];exact ih.all f m xs zs t zO h3 h4
theorem oY (hR:kA K n nz R)(hv:J2 p){f m:Nat}{a:Nat→List Sr}{az:List Sr}(hf:f<p.length)(ha:Mu K R m a az)(hl:((m:Nat):Int)=(p.getD f Fn.zero).params) :
  J8 K (Mu K R (p.getD f Fn.zero).outs.length) (fun k=>ev p (n k) f (a k)) (ev p nz f az):=by
 have h:=(cL hR hv (f+1) zO).all f m a az 0 zO ha hl
 simp only[J1 (show f<f+1 by omega)]at h
 exact h
end
end
def Ri (f:Nat→Int):Nat→Int
 |0=>0
 |k+1=>Ri f k+f k
theorem Mv {f g:Nat→Int}:∀K,(∀k,k<K→md (f k)=md (g k))→md (Ri f K)=md (Ri g K)
 |0,_=>rfl
 |K+1,h=>by
  show md (Ri f K+f K)=md (Ri g K+g K)
  rw[← Ej,Mv K (fun k hk=>h k zO),h K zO,Ej]
theorem Tx (A B:Int)(f g:Nat→Int):∀K,Ri (fun k=>A*f k+B*g k) K=A*Ri f K+B*Ri g K
 |0=>by show(0:Int)=A*0+B*0;simp
 |K+1=>by
  show Ri _ K+(A*f K+B*g K)=A*(Ri f K+f K)+B*(Ri g K+g K)
  rw[Tx A B f g K,Int.mul_add,Int.mul_add];omega
structure Rl (K:Nat)(c:Nat→Int)(x:Nat→Sr)(z:Sr):Prop where
 sz:BN 2 z
 sx:∀k,k<K→BN 2 (x k)
 v:∀k,k<K→(x k).getD 0 0=z.getD 0 0
 d:z.getD 1 0=md (Ri (fun k=>c k*(x k).getD 1 0) K)
theorem Rl.op {K:Nat}{c:Nat→Int}{xa xb out:Nat→Sr}{za zb oz:Sr}{A B:Int}(ha:Rl K c xa za)(hb:Rl K c xb zb)(hz:BN 2 oz)(hx:∀k,k<K→BN 2 (out k))(hv:∀k,k<K→(out k).getD 0 0=oz.getD 0 0)
  (h1:oz.getD 1 0=md (A*za.getD 1 0+B*zb.getD 1 0)) (h2:∀k,k<K→(out k).getD 1 0=md (A*(xa k).getD 1 0+B*(xb k).getD 1 0)):Rl K c out oz:=by
 refine⟨hz,hx,hv,?_⟩
 rw[h1,ha.d,hb.d,← Ej,Fp,Fp,Ej,← Tx]
 refine Mv K fun k hk=>?_
 rw[h2 k hk,Fp]
 congr 1
 rw[Int.mul_add,Int.mul_left_comm,Int.mul_left_comm B]
theorem OP {a b:Sr}{k:Nat}(h:k<a.length):(EE a b).getD k 0=md (a.getD k 0+b.getD k 0):=Bx 0 h
theorem QU {a b:Sr}{k:Nat}(h:k<a.length):(DJ a b).getD k 0=md (a.getD k 0-b.getD k 0):=Bx 0 h
theorem OQ {a:Sr}{y:Int}{k:Nat}(h:k<a.length):(CX a y).getD k 0=md (a.getD k 0*y):=Bx 0 h
theorem Nh {a b:Sr}(h:0<a.length):(Ci a b).getD 0 0=md (0+a.getD 0 0*b.getD 0 0):=Bx 0 h
theorem cM {a b:Sr}(h:1<a.length):(Ci a b).getD 1 0=md (md (0+a.getD 0 0*b.getD 1 0)+a.getD 1 0*b.getD 0 0):=Bx 0 h
theorem QV {a b:Sr}(h:0<a.length):(C6 a b).getD 0 0=md (a.getD 0 0*inv (b.getD 0 0)):=Kx h
theorem cN {a b:Sr}(h:1<a.length):(C6 a b).getD 1 0=md (md (a.getD 1 0-(C6 a b).getD 0 0*b.getD 1 0)*inv (b.getD 0 0)):=Kx h
theorem aJ {n:Nat}{c:Int}(h:0<n):(cst n c).getD 0 0=c:=by
 obtain⟨n,rfl⟩:∃k,n=k+1:=⟨n-1,zO⟩
 unfold cst;rw[List.replicate_succ];rfl
theorem cO (c:Int):(cst 2 c).getD 1 0=0:=rfl
theorem Rl.all (K:Nat)(c:Nat→Int):kA K (fun _=>2) 2 (Rl K c) where
 zero:=fun x z h k hk=>by rw[h.v k hk]
 cst:=fun a ha=>⟨Ft ha,fun _ _=>Ft ha,fun _ _=>rfl,by
  have:∀K,Ri (fun k=>c k*(Go.Proofs.YtbajepcpgncekaaGreat.cst 2 a).getD 1 0) K=0:=fun K=>by
   induction K with
   |zero=>rfl
   |succ K ih=>show Ri _ K+c K*(Go.Proofs.YtbajepcpgncekaaGreat.cst 2 a).getD 1 0=0;rw[ih,cO];simp
  rw[this,cO];rfl⟩
 add:=fun x z y w hx hy=>Rl.op (A:=1) (B:=1) hx hy ⟨by rw[Hm];exact hx.sz.1,IA _ _⟩ (fun k hk=>⟨by rw[Hm];exact(hx.sx k hk).1,IA _ _⟩)
  (fun k hk=>by rw[OP (by rw[(hx.sx k hk).1];decide),OP (by rw[hx.sz.1];decide),hx.v k hk,hy.v k hk]) (by rw[OP (by rw[hx.sz.1];decide),Int.one_mul,Int.one_mul]) (fun k hk=>by rw[OP (by rw[(hx.sx k hk).1];decide),Int.one_mul,Int.one_mul])
 red:=fun x z y w hx hy=>Rl.op (A:=1) (B:=-1) hx hy ⟨by rw[Ho];exact hx.sz.1,Hp _ _⟩ (fun k hk=>⟨by rw[Ho];exact(hx.sx k hk).1,Hp _ _⟩)
  (fun k hk=>by rw[QU (by rw[(hx.sx k hk).1];decide),QU (by rw[hx.sz.1];decide),hx.v k hk,hy.v k hk]) (by rw[QU (by rw[hx.sz.1];decide)];congr 1;omega) (fun k hk=>by rw[QU (by rw[(hx.sx k hk).1];decide)];congr 1;omega)
 pro:=fun x z y w hx hy=>Rl.op (A:=w.getD 0 0) (B:=z.getD 0 0) hx hy ⟨by rw[FF];exact hx.sz.1,FG _ _⟩ (fun k hk=>⟨by rw[FF];exact(hx.sx k hk).1,FG _ _⟩)
  (fun k hk=>by rw[Nh (by rw[(hx.sx k hk).1];decide),Nh (by rw[hx.sz.1];decide),hx.v k hk,hy.v k hk])
  (by rw[cM (by rw[hx.sz.1];decide),Pc,Int.zero_add,Int.add_comm,Int.mul_comm (z.getD 1 0)])
  (fun k hk=>by rw[cM (by rw[(hx.sx k hk).1];decide),Pc,Int.zero_add,Int.add_comm,Int.mul_comm ((x k).getD 1 0),hx.v k hk,hy.v k hk])
 scl:=fun x z hx=>Rl.op (A:=1000002) (B:=0) hx hx ⟨by rw[Hn];exact hx.sz.1,FH _ _⟩ (fun k hk=>⟨by rw[Hn];exact(hx.sx k hk).1,FH _ _⟩)
  (fun k hk=>by rw[OQ (by rw[(hx.sx k hk).1];decide),OQ (by rw[hx.sz.1];decide),hx.v k hk]) (by rw[OQ (by rw[hx.sz.1];decide)];congr 1;omega) (fun k hk=>by rw[OQ (by rw[(hx.sx k hk).1];decide)];congr 1;omega)
 quo:=fun x z y w hx hy h0=>by
  have hq:∀k,k<K→(C6 (x k) (y k)).getD 0 0=(C6 z w).getD 0 0:=fun k hk=>by rw[QV (by rw[(hx.sx k hk).1];decide),QV (by rw[hx.sz.1];decide),hx.v k hk,hy.v k hk]
  have hf:∀a q b i:Int,md (md (a-q*b)*i)=md (i*a+(-(q*i))*b):=fun a q b i=>by
   rw[Fm];congr 1
   rw[Int.sub_mul,Int.neg_mul,Int.mul_comm a i,Int.mul_assoc,Int.mul_assoc,Int.mul_comm b i];omega
  exact Rl.op (A:=inv (w.getD 0 0)) (B:=-((C6 z w).getD 0 0*inv (w.getD 0 0))) hx hy ⟨by rw[E7];exact hx.sz.1,ED _ _⟩ (fun k hk=>⟨by rw[E7];exact(hx.sx k hk).1,ED _ _⟩) hq
   (by rw[cN (by rw[hx.sz.1];decide),hf]) (fun k hk=>by rw[cN (by rw[(hx.sx k hk).1];decide),hf,hq k hk,hy.v k hk])
theorem Ni {p:List Fn}(hv:J2 p){n f:Nat}{a:List Sr}(hf:f<p.length)(ha:BC n a)(hl:((a.length:Nat):Int)=(p.getD f Fn.zero).params) :
  (∃x s,ev p n f a=.ok x s∧x.length=(p.getD f Fn.zero).outs.length∧BC n x)∨ev p n f a=.err 6∨ev p n f a=.err 7:=by
 have h:=(XD hv n (f+1) zO).all f a 0 zO ha hl zO
 rw[J1 (by omega)]at h
 have e:ev p n f a=Eb n (Hc p n f) (p.getD f Fn.zero).outs a 0:=rfl
 rw[← e]at h
 cases h2:ev p n f a with
 |err c =>
  rw[h2]at h;have h:c=6∨c=7:=h
  rcases h with rfl|rfl
  ·exact .inr<|.inl rfl
  ·exact .inr<|.inr rfl
 |ok xs s =>
  rw[h2]at h;have h:xs.length=_∧BC n xs∧s≤3000:=h
  exact .inl ⟨xs,s,rfl,h.1,h.2.1⟩
def GK (a d:List Int)(n:Nat):List Sr:=FN a.length fun i=>(cst n (a.getD i 0)).set 1 (d.getD i 0)
@[simp] theorem D4 (a d:List Int)(n:Nat):(GK a d n).length=a.length:=by simp[GK]
theorem Nj {a d:List Int}{n k:Nat}(h:k<a.length):(GK a d n).getD k []=(cst n (a.getD k 0)).set 1 (d.getD k 0):=Bx [] h
theorem HW {a d:List Int}{n:Nat}(ha:B9 a=true)(hd:B9 d=true):BC n (GK a d n):=fun k hk=>by
 rw[D4]at hk
 rw[Nj hk]
 refine⟨by rw[z6,G7],?_⟩
 have h1:=Ft (n:=n)<|Ck.2<|Bg ha k
 unfold B9
 rw[zm]
 intro y hy
 rcases List.mem_or_eq_of_mem_set hy with hy|rfl
 ·have:=h1.2;unfold B9 at this;exact zm.1 this y hy
 ·exact Ck.2<|Bg hd k
def QW (p:List Fn)(f:Nat)(a d:List Int):List Sr:=CS p 2 f (GK a d 2)
def kC (p:List Fn)(f:Nat)(a d:List Int):Int:=H2 p 2 f (GK a d 2)
def Gw (n:Nat)(ps:List Int):Nat→List Int
 |0=>List.replicate n 0
 |j+1=>(Gw n ps j).set (ps.getD j 0).toNat (md ((Gw n ps j).getD (ps.getD j 0).toNat 0+1))
theorem IK (n:Nat)(ps:List Int):∀j,(Gw n ps j).length=n
 |0=>z5 ..
 |j+1=>by show(List.set _ _ _).length=n;rw[z6,IK n ps j]
theorem Hx (n:Nat)(ps:List Int):∀j,B9 (Gw n ps j)=true
 |0=>Gu n
 |j+1=>by
  have h:=Hx n ps j
  unfold B9 at h ⊢
  rw[zm]at h ⊢
  intro y hy
  rcases List.mem_or_eq_of_mem_set hy with hy|rfl
  ·exact h y hy
  ·exact Ck.2<|BU _
def oZ (p:List Fn)(f:Nat)(a:List Int)(i r:Nat):List Int:=FN i fun c=>((QW p f a (Gw a.length [((c:Nat):Int)] 1)).getD r []).getD 1 0
@[simp] theorem aK (p:List Fn)(f:Nat)(a:List Int)(i r:Nat):(oZ p f a i r).length=i:=by simp[oZ]
def PG (p:List Fn)(f:Nat)(a:List Int)(K i:Nat):List (List Int):=FN K (oZ p f a i)
@[simp] theorem PH (p:List Fn)(f:Nat)(a:List Int)(K i:Nat):(PG p f a K i).length=K:=by simp[PG]
theorem gE {p:List Fn}{f:Nat}{a:List Int}{K i r:Nat}(hr:r<K) :
  (CK r (PG p f a K (i+1)) (PG p f a K i)).set r ((CK r (PG p f a K (i+1)) (PG p f a K i)).getD r []++[((QW p f a (Gw a.length [((i:Nat):Int)] 1)).getD r []).getD 1 0])=CK (r+1) (PG p f a K (i+1)) (PG p f a K i):=by
 unfold PG
 rw[Ek [] (by simp) (A9 _) (by simpa using hr),Bx [] hr,G4 (by simp) hr]
 congr 1
 exact (MW i fun c=>((QW p f a<|Gw a.length [((c:Nat):Int)] 1).getD r []).getD 1 0).symm
theorem XI {p:List Fn}{f:Nat}{a:List Int}{K i r:Nat}(hr:r<K):((CK r (PG p f a K (i+1)) (PG p f a K i)).getD r []).length=i:=by
 unfold PG
 rw[Ek [] (by simp) (A9 _) (by simpa using hr),Bx [] hr,aK]
theorem gF (a d:List Int):(GK a d 2).map (CC 1)=Cd a:=by
 refine aH (by rw[zg,D4];unfold Cd;rw[zg]) fun k hk=>?_
 rw[zg,D4]at hk
 rw[B8 (d:=[]) (by rw[D4];exact hk),Nj hk]
 unfold Cd
 rw[B8 (d:=0) hk]
 rfl
theorem kD (p:List Fn)(f:Nat)(a d:List Int):kC p f a d=Et p f a:=by
 unfold kC Et
 rw[← aG p (A9 1) (show 1≤2 by decide),gF]
theorem pA (p:List Fn)(f:Nat)(a:List Int)(K:Nat):PG p f a K 0=List.replicate K []:=by
 refine aH (by simp) fun i hi=>?_
 rw[PH]at hi
 unfold PG
 rw[Bx [] hi,List.getD_eq_getElem?_getD,List.getElem?_replicate,if_pos hi];rfl
def eV (n k:Nat):List Int:=Gw n [((k:Nat):Int)] 1
theorem GR (n j:Nat):(List.replicate n (0:Int)).getD j 0=0:=by
 rw[List.getD_eq_getElem?_getD,List.getElem?_replicate];split <;> rfl
theorem XJ {n k j:Nat}(hk:k<n):(eV n k).getD j 0=if k=j then 1 else 0:=by
 show((List.replicate n (0:Int)).set (((k:Nat):Int)).toNat (md ((List.replicate n (0:Int)).getD (((k:Nat):Int)).toNat 0+1))).getD j 0=_
 rw[Int.toNat_natCast,RV,z5,GR,GR]
 by_cases e:k=j
 ·subst e;rw[if_pos ⟨rfl,hk⟩,if_pos rfl];rfl
 ·rw[if_neg zO,if_neg e]
theorem RW (n k:Nat):B9 (eV n k)=true:=Hx _ _ _
theorem XK {a d:List Int}{i:Nat}(h:i<a.length):((GK a d 2).getD i []).getD 0 0=a.getD i 0:=by rw[Nj h];rfl
theorem Ty {a d:List Int}{i:Nat}(h:i<a.length):((GK a d 2).getD i []).getD 1 0=d.getD i 0:=by rw[Nj h];rfl
theorem gG {p:List Fn}(hv:J2 p){n f:Nat}{a:List Sr}(hf:f<p.length)(ha:BC n a)(hl:((a.length:Nat):Int)=(p.getD f Fn.zero).params)(h0:H2 p n f a=0):∃x t,ev p n f a=.ok x t∧x.length=(p.getD f Fn.zero).outs.length∧BC n x:=by
 rcases Ni hv hf ha hl with⟨x,s,h1,h2,h3⟩|h1|h1
 ·exact⟨x,s,h1,h2,h3⟩
 ·rw[Hv h1]at h0;omega
 ·rw[Hv h1]at h0;omega
theorem XL {p:List Fn}{f:Nat}{a d:List Int}{K:Nat}{D:Nat→List Int}{c:Nat→Int}(hv:J2 p)(hf:f<p.length)(hl:((a.length:Nat):Int)=(p.getD f Fn.zero).params)(hna:B9 a=true)(hnd:B9 d=true)
  (hD:∀k,k<K→B9 (D k)=true) (hc:∀i,i<a.length→d.getD i 0=md (Ri (fun k=>c k*(D k).getD i 0) K)) (h0:Et p f a=0) {r:Nat} (hr:r<(p.getD f Fn.zero).outs.length) :
  ((QW p f a d).getD r []).getD 1 0=md (Ri (fun k=>c k*((QW p f a (D k)).getD r []).getD 1 0) K):=by
 have h:=oY (Rl.all K c) hv (m:=a.length) (a:=fun k=>GK a (D k) 2) (az:=GK a d 2) hf
  ⟨D4 _ _ _,fun k _=>D4 _ _ _,fun i hi=>⟨fun k=>(GK a (D k) 2).getD i [],fun _ _=>rfl,
   ⟨HW hna hnd i (by rw[D4];exact hi),fun k hk=>HW hna (hD k hk) i (by rw[D4];exact hi),fun k _=>by rw[XK hi,XK hi],by
    rw[Ty hi,hc i hi]
    refine Mv K fun k _=>?_
    rw[Ty hi]⟩⟩⟩ hl
 have hdc:H2 p 2 f (GK a d 2)=0:=(kD p f a d).trans h0
 obtain⟨z,t,he,_,_⟩:=gG hv hf (HW (n:=2) hna hnd) (by rw[D4];exact hl) hdc
 rw[he]at h
 obtain⟨x,h1,h2⟩:=h
 obtain⟨y,h3,h4⟩:=h2.2.2 r hr
 unfold QW
 rw[KD he,h4.d]
 refine Mv K fun k hk=>?_
 rw[← h3 k hk,KD (h1 k hk)]
structure ri (p:List Fn)(f:Nat)(a:List Int):Prop where
 v:J2 p
 lt:f<p.length
 l:((a.length:Nat):Int)=(p.getD f Fn.zero).params
 n:B9 a=true
 z:Et p f a=0
theorem gH {N:Nat}{a b:Sr}(ha:BN N a):EN N (C0 (EE a b)) (fun k=>C0 a k+C0 b k):=fun k hk=>by
 show md ((EE a b).getD k 0)=_
 rw[OP (by rw[ha.1];exact hk),FE];rfl
theorem pB {N:Nat}{a:Sr}{y:Int}(ha:BN N a):EN N (C0 (CX a y)) (fun k=>y*C0 a k):=fun k hk=>by
 show md ((CX a y).getD k 0)=_
 rw[OQ (by rw[ha.1];exact hk),FE,Int.mul_comm];rfl
theorem EN.add {N:Nat}{f f' g g':Nat→Int}(hf:EN N f f')(hg:EN N g g'):EN N (fun k=>f k+g k) (fun k=>f' k+g' k):=fun k hk=>by rw[← Ej,hf k hk,hg k hk,Ej]
section
section str
variable {P:Program} {ops:Array Oper} {w0:World} {Q:Act→World→Prop} {os:List Oper} {ks:List Nat} {N:Nat} {ρ:Nat→Value} {w:World}
 {d:Nat} {ty:TypeId} {pos:String} {aft:Array Edge} {g:Option (Nat×Bool)} {t e:TypeId}
theorem gI {x:Operand}{u:Value}(hx:Bw N ρ x=u)(hc:u.cells=#[u])(hu:Up ops N ρ ⟨some d,.box t x,ty,pos,aft,g⟩)
  (h:∀w1,AB w w1→w1.heap.size=w.heap.size+1→BX w1.heap w.heap.size [u]→LW P ops w0 Q os ks (mk N (D3 ρ d (.pointer (some ⟨w.heap.size,0,none⟩)))) w1) :
  LW P ops w0 Q (⟨some d,.box t x,ty,pos,aft,g⟩::os) (3::ks) (mk N ρ) w:=by
 have hrun:(execOp (Bw N ρ) ⟨some d,.box t x,ty,pos,aft,g⟩).run P w=.ok (.value (.pointer (some ⟨w.heap.size,0,none⟩))) (w.alloc (.cells #[u] t)):=by
  simp[execOp,Instr.box,newVar,newRow,hx,hc]
 refine MH rfl hu _ _ hrun (BZ _ _)<|h _ (BZ _ _) (by simp) ⟨t,?_⟩
 have:=heap_alloc_new w (.cells #[u] t)
 simpa using this
end str
end
def dl (i:Nat)(j:Nat):Int:=if i=j then 1 else 0
structure RY (m:Nat)(a:List Int)(X:List Sr):Prop where
 len:X.length=a.length
 ser:∀i,i<a.length→BN m (X.getD i [])
 at0:∀i,i<a.length→(X.getD i []).getD 0 0=a.getD i 0
section
theorem QX {α:Type}{P:List α→Prop}(h0:P [])(h1:∀l c,P l→P (l++[c]))(l:List α):P l:=by
 have h:∀l:List α,P l.reverse:=fun l=>by
  induction l with
  |nil=>exact h0
  |cons c l ih=>rw[List.reverse_cons];exact h1 _ _ ih
 have:=h l.reverse
 rwa [List.reverse_reverse]at this
def Gx (m:Nat)(A R:List Sr)(c:AM):Sr :=
 if c.op=1 then A.getD c.num.toNat []else if c.op=3 then EE (R.getD c.a.toNat []) (R.getD c.b.toNat [])else if c.op=4 then DJ (R.getD c.a.toNat []) (R.getD c.b.toNat [])
 else if c.op=5 then Ci (R.getD c.a.toNat []) (R.getD c.b.toNat [])else if c.op=7 then CX (R.getD c.a.toNat []) 1000002
 else if c.op=6 then C6 (R.getD c.a.toNat []) (R.getD c.b.toNat [])else cst m c.num
def Bh (m:Nat)(A:List Sr)(cs:List AM):List Sr:=cs.foldl (fun R c=>R++[Gx m A R c]) []
section
variable {m:Nat} {A:List Sr}
theorem Hy (cs:List AM)(c:AM):Bh m A (cs++[c])=Bh m A cs++[Gx m A (Bh m A cs) c]:=by unfold Bh;rw[List.foldl_append];rfl
@[simp] theorem BV (cs:List AM):(Bh m A cs).length=cs.length:=by
 induction cs using QX with
 |h0=>rfl
 |h1 l c ih=>rw[Hy,z4,ih,z4];rfl
theorem Nk (cs l:List AM){k:Nat}(hk:k<cs.length):(Bh m A (cs++l)).getD k []=(Bh m A cs).getD k []:=by
 induction l using QX with
 |h0=>rw[List.append_nil]
 |h1 l c ih=>rw[← List.append_assoc,Hy,Hi (by rw[BV,z4];omega),ih]
theorem OR (cs:List AM)(c:AM):(Bh m A (cs++[c])).getD cs.length []=Gx m A (Bh m A cs) c:=by rw[Hy,GZ (by rw[BV])]
end
def Hd (ni k:Nat)(c:AM):Prop :=
 (c.op=1∧c.a=0∧c.b=0∧0≤c.num∧c.num<((ni:Nat):Int))∨(c.op=2∧c.a=0∧c.b=0∧0≤c.num∧c.num<1000003) ∨
 ((c.op=3∨c.op=4∨c.op=5∨c.op=6)∧(0≤c.a∧c.a<((k:Nat):Int))∧(0≤c.b∧c.b<((k:Nat):Int))∧c.num=0)∨(c.op=7∧(0≤c.a∧c.a<((k:Nat):Int))∧c.b=0∧c.num=0)
theorem Hd.bin {ni k:Nat}{op a b:Int}(h:op=3∨op=4∨op=5∨op=6)(ha:0≤a∧a<((k:Nat):Int))(hb:0≤b∧b<((k:Nat):Int)):Hd ni k ⟨op,a,b,0⟩:=.inr (.inr (.inl ⟨h,ha,hb,rfl⟩))
theorem Hd.neg {ni k:Nat}{a:Int}(ha:0≤a∧a<((k:Nat):Int)):Hd ni k ⟨7,a,0,0⟩:=.inr (.inr (.inr ⟨rfl,ha,rfl,rfl⟩))
structure DV (m:Nat)(A:List Sr)(T:Tp):Prop where
 cl:T.code.length=T.vals.length
 ser:∀k,k<T.code.length→BN m ((Bh m A T.code).getD k [])∧((Bh m A T.code).getD k []).getD 0 0=T.vals.getD k 0
 form:∀k,k<T.code.length→Hd A.length k (T.code.getD k AM.zero)
 dv:∀k,k<T.code.length→(T.code.getD k AM.zero).op=6→T.at (T.code.getD k AM.zero).b≠0
 gd:∀k,k<T.grd.length→(0≤(T.grd.getD k RK.zero).reg∧(T.grd.getD k RK.zero).reg<((T.vals.length:Nat):Int))∧(T.grd.getD k RK.zero).z=decide (T.at (T.grd.getD k RK.zero).reg=0)
def TE (T T':Tp):Prop:=(∃l,T'.code=T.code++l)∧∃l,T'.vals=T.vals++l
theorem TE.refl (T:Tp):TE T T:=⟨⟨[],by simp⟩,[],by simp⟩
theorem TE.trans {T T' T'':Tp}(h:TE T T')(k:TE T' T''):TE T T'':=by
 obtain⟨⟨l,h1⟩,l2,h2⟩:=h
 obtain⟨⟨l3,h3⟩,l4,h4⟩:=k
 exact⟨⟨l++l3,by rw[h3,h1,List.append_assoc]⟩,l2++l4,by rw[h4,h2,List.append_assoc]⟩
theorem TE.put (T:Tp)(c:AM)(v:Int):TE T (T.put c v):=⟨⟨[c],rfl⟩,[v],rfl⟩
theorem TE.guard (T:Tp)(r:Int)(z:Bool):TE T (T.guard r z):=⟨⟨[],by simp[Tp.guard]⟩,[],by simp[Tp.guard]⟩
section
variable {m:Nat} {A:List Sr} {T T':Tp}
theorem TE.reg (h:TE T T'){k:Nat}(hk:k<T.code.length):(Bh m A T'.code).getD k []=(Bh m A T.code).getD k []:=by
 obtain⟨⟨l,h1⟩,_⟩:=h
 rw[h1,Nk _ _ hk]
theorem TE.at (h:TE T T'){r:Int}(hr:0≤r∧r<((T.vals.length:Nat):Int)):T'.at r=T.at r:=by
 obtain⟨_,l,h1⟩:=h
 unfold Tp.at
 rw[h1,Hi (by omega)]
theorem TE.len (h:TE T T'):T.code.length≤T'.code.length∧T.vals.length≤T'.vals.length:=by
 obtain⟨⟨l,h1⟩,l2,h2⟩:=h
 rw[h1,h2,z4,z4];omega
def Qg (m:Nat)(A:List Sr)(T:Tp)(r:Int)(z:Sr):Prop:=(0≤r∧r<((T.vals.length:Nat):Int))∧z=(Bh m A T.code).getD r.toNat []
def OS (m:Nat)(A:List Sr)(n:Nat)(T:Tp)(rs:List Int)(zs:List Sr):Prop:=rs.length=n∧zs.length=n∧∀i,i<n→Qg m A T (rs.getD i 0) (zs.getD i [])
theorem Qg.mono {r:Int}{z:Sr}(hc:T.code.length=T.vals.length)(h:Qg m A T r z)(k:TE T T'):Qg m A T' r z:=by
 have:=k.len
 exact⟨by have:=h.1;omega,by rw[k.reg (by have:=h.1;omega)];exact h.2⟩
theorem OS.mono {n:Nat}{rs:List Int}{zs:List Sr}(hc:T.code.length=T.vals.length)(h:OS m A n T rs zs)(k:TE T T'):OS m A n T' rs zs:=⟨h.1,h.2.1,fun i hi=>(h.2.2 i hi).mono hc k⟩
theorem OS.snoc {n:Nat}{rs:List Int}{zs:List Sr}{r:Int}{z:Sr}(h:OS m A n T rs zs)(h1:Qg m A T r z):OS m A (n+1) T (rs++[r]) (zs++[z]):=by
 refine⟨by simp[h.1],by simp[h.2.1],fun i hi=>?_⟩
 by_cases e:i=n
 ·rw[GZ (by rw[h.1];exact e),GZ (by rw[h.2.1];exact e)];exact h1
 ·rw[Hi (by rw[h.1];omega),Hi (by rw[h.2.1];omega)];exact h.2.2 i zO
theorem Qg.at (hI:DV m A T){r:Int}{z:Sr}(h:Qg m A T r z):BN m z∧z.getD 0 0=T.at r:=by
 have:=hI.ser r.toNat (by rw[hI.cl];have:=h.1;omega)
 rw[h.2];exact this
def J9 {α β:Type}(m:Nat)(A:List Sr)(T:Tp)(R:Tp→α→β→Prop)(r:Rs (α×Tp))(rz:Rs β):Prop:=match r with
 |.ok x t=>∃z,rz=.ok z t∧DV m A x.2∧TE T x.2∧R x.2 x.1 z
 |.err c=>rz=.err c
theorem J9.bind {α β α' β':Type}{R:Tp→α→β→Prop}{R':Tp→α'→β'→Prop}{r:Rs (α×Tp)}{rz:Rs β}{g:α×Tp→Nat→Rs (α'×Tp)}{gz:β→Nat→Rs β'}(h:J9 m A T R r rz)
  (hg:∀x T' z t,DV m A T'→TE T T'→R T' x z→J9 m A T' R' (g (x,T') t) (gz z t)):J9 m A T R' (r.bind g) (rz.bind gz):=by
 cases r with
 |err c=>have h9:rz=.err c:=h;subst h9;exact rfl
 |ok x t =>
  obtain⟨z,h1,h2,h3,h4⟩:=h
  subst h1
  have h5:=hg x.1 x.2 z t h2 h3 h4
  rw[Rs.bind_ok,Rs.bind_ok]
  cases hr:g x t with
  |err c=>rw[hr]at h5;exact h5
  |ok y u =>
   rw[hr]at h5
   obtain⟨v,q1,q2,q3,q4⟩:=h5
   exact⟨v,q1,q2,h3.trans q3,q4⟩
theorem J9.ret {α β:Type}{R:Tp→α→β→Prop}{x:α}{z:β}{t:Nat}(hI:DV m A T')(hE:TE T T')(h:R T' x z):J9 m A T R (.ok (x,T') t) (.ok z t):=⟨z,rfl,hI,hE,h⟩
theorem DV.put (h:DV m A T){c:AM}{v:Int}(hs:BN m (Gx m A (Bh m A T.code) c))(hv:(Gx m A (Bh m A T.code) c).getD 0 0=v)(hf:Hd A.length T.code.length c)(hd:c.op=6→T.at c.b≠0):DV m A (T.put c v):=by
 have hE:=TE.put T c v
 have hcl:=h.cl
 have key:∀k,k<(T.put c v).code.length→k<T.code.length∨k=T.code.length:=fun k hk=>by rw[RR]at hk;omega
 have cg:∀k,k<T.code.length→(T.put c v).code.getD k AM.zero=T.code.getD k AM.zero:=fun k hk=>Hi hk
 have cn:(T.put c v).code.getD T.code.length AM.zero=c:=GZ rfl
 refine⟨by rw[RR,HU,hcl],fun k hk=>?_,fun k hk=>?_,fun k hk h6=>?_,fun k hk=>?_⟩
 ·rcases key k hk with hk|rfl
  ·rw[hE.reg hk,show(T.put c v).vals.getD k 0=T.vals.getD k 0 from Hi (by omega)];exact h.ser k hk
  ·rw[show(Bh m A (T.put c v).code).getD T.code.length []=_ from OR _ _,show(T.put c v).vals.getD T.code.length 0=v from GZ hcl];exact⟨hs,hv⟩
 ·rcases key k hk with hk|rfl
  ·rw[cg k hk];exact h.form k hk
  ·rw[cn];exact hf
 ·rcases key k hk with hk|rfl
  ·rw[cg k hk]at h6 ⊢
   have:=h.form k hk
   unfold Hd at this
   rw[hE.at (by omega)];exact h.dv k hk h6
  ·rw[cn]at h6 ⊢
   unfold Hd at hf
   rw[hE.at (by omega)];exact hd h6
 ·have:=h.gd k hk
  rw[Xl]at hk ⊢
  refine⟨by rw[HU];omega,?_⟩
  rw[hE.at this.1];exact this.2
theorem DV.guard (h:DV m A T){r:Int}(hr:0≤r∧r<((T.vals.length:Nat):Int)):DV m A (T.guard r (decide (T.at r=0))):=by
 refine⟨h.cl,h.ser,h.form,h.dv,fun k hk=>?_⟩
 rw[QO]at hk
 by_cases e:k<T.grd.length
 ·rw[show(T.guard r (decide (T.at r=0))).grd.getD k RK.zero=T.grd.getD k RK.zero from Hi e];exact h.gd k e
 ·rw[show(T.guard r (decide (T.at r=0))).grd.getD k RK.zero=⟨r,decide (T.at r=0)⟩from GZ (by omega)];exact⟨hr,rfl⟩
theorem J9.put {R:Tp→Int→Sr→Prop}{c:AM}{v:Int}{z:Sr}{t:Nat}(h:DV m A T)(hz:Gx m A (Bh m A T.code) c=z)(hs:BN m z)(hv:z.getD 0 0=v)(hf:Hd A.length T.code.length c)(hd:c.op=6→T.at c.b≠0)
  (hR:∀T' r z,Qg m A T' r z→R T' r z):J9 m A T R (.ok (((T.vals.length:Nat):Int),T.put c v) t) (.ok z t):=by
 subst hz
 refine J9.ret (h.put hs hv hf hd) (TE.put T c v)<|hR _ _ _ ⟨by rw[HU];omega,?_⟩
 rw[Int.toNat_natCast,← h.cl];exact(OR _ _).symm
theorem kE (hm:1≤m)(h:DV m A T){k:Int}{n t:Nat}{rs:List Int}{zs:List Sr}(hr:OS m A n T rs zs)(hk:3≤k∧k≤7)(h1:k=7→1≤n)(h2:k≠7→2≤n):J9 m A T (Qg m A) (Xb k rs t T) (Mm k zs t):=by
 have hn1:1≤n:=by by_cases e:k=7;exact h1 e;have:=h2 e;omega
 have ha:=hr.2.2 0 zO
 have hA:=ha.at h
 have hal:=hA.1.1
 have hac:=ha.1
 have hcl:=h.cl
 have fin:∀T' r z,Qg m A T' r z→Qg m A T' r z:=fun _ _ _ h=>h
 by_cases k7:k=7
 ·subst k7
  rw[K1 (cH rfl),Xk rfl]
  refine J9.put h ?_ ⟨(Hn _ _).trans hal,FH _ _⟩ ?_ (Hd.neg zO) (fun h6=>absurd (show(7:Int)=6 from h6) (by decide)) fin
  ·rw[ha.2];rfl
  ·rw[OQ zO,hA.2]
   show md (T.at (rs.getD 0 0)*1000002)=md (0-T.at (rs.getD 0 0))
   unfold md;omega
 have hb:=hr.2.2 1<|h2 k7
 have hB:=hb.at h
 have hbl:=hB.1.1
 have hbc:=hb.1
 by_cases k3:k=3
 ·subst k3
  rw[K1 (fun h=>h.1 rfl),HT (by decide)]
  refine J9.put h ?_ ⟨(Hm _ _).trans hal,IA _ _⟩ ?_ (Hd.bin (.inl rfl) zO zO) (fun h6=>absurd (show(3:Int)=6 from h6) (by decide)) fin
  ·rw[ha.2,hb.2];rfl
  ·rw[OP zO,hA.2,hB.2];rfl
 by_cases k4:k=4
 ·subst k4
  rw[K1 (fun h=>h.2.1 rfl),HT (by decide)]
  refine J9.put h ?_ ⟨(Ho _ _).trans hal,Hp _ _⟩ ?_ (Hd.bin (.inr<|.inl rfl) zO zO) (fun h6=>absurd (show(4:Int)=6 from h6) (by decide)) fin
  ·rw[ha.2,hb.2];rfl
  ·rw[QU zO,hA.2,hB.2];rfl
 by_cases k5:k=5
 ·subst k5
  rw[K1 (fun h=>h.2.2.1 rfl),HT (by decide)]
  refine J9.put h ?_ ⟨(FF _ _).trans hal,FG _ _⟩ ?_ (Hd.bin (.inr<|.inr<|.inl rfl) zO zO) (fun h6=>absurd (show(5:Int)=6 from h6) (by decide)) fin
  ·rw[ha.2,hb.2];rfl
  ·rw[Nh zO,hA.2,hB.2,Int.zero_add];rfl
 have k6:k=6:=by omega
 subst k6
 by_cases hz:T.at (rs.getD 1 0)=0
 ·rw[To (by rw[HT (by decide)];exact⟨by decide,by decide,by decide,by decide,hz⟩)]
  show Mm 6 zs t=.err 6
  show(if (zs.getD 1 []).getD 0 0=0 then _ else _)=_
  rw[if_pos (by rw[hB.2];exact hz)]
 ·rw[K1 (by rw[HT (by decide)];exact fun h9=>hz h9.2.2.2.2),HT (by decide)]
  have e:Mm 6 zs t=.ok (C6 (zs.getD 0 []) (zs.getD 1 [])) t:=by
   show(if (zs.getD 1 []).getD 0 0=0 then _ else _)=_
   rw[if_neg (by rw[hB.2];exact hz)]
  rw[e]
  refine J9.put h ?_ ⟨(E7 _ _).trans hal,ED _ _⟩ ?_ (Hd.bin (.inr<|.inr<|.inr rfl) zO zO) (fun _=>hz) fin
  ·rw[ha.2,hb.2];rfl
  ·rw[QV zO,hA.2,hB.2];rfl
end
structure pC (m:Nat)(A:List Sr)(p:List Fn)(F:Nat)(G:Cg)(C:Ca):Prop where
 one:∀f j n T rs zs t,f<F→j<(p.getD f Fn.zero).outs.length→DV m A T→OS m A n T rs zs→((n:Nat):Int)=(p.getD f Fn.zero).params→J9 m A T (Qg m A) (G.one f j rs t T) (C.one f j zs t)
 all:∀f n T rs zs t,f<F→DV m A T→OS m A n T rs zs→((n:Nat):Int)=(p.getD f Fn.zero).params→J9 m A T (OS m A (p.getD f Fn.zero).outs.length) (G.all f rs t T) (C.all f zs t)
section
variable {m:Nat} {A:List Sr} {p:List Fn}
theorem XM {G:Cg}{C:Ca}{env:List Int}{ez:List Sr}{n:Nat}:∀(l:List Ex),(∀e∈l,∀s T,DV m A T→OS m A n T env ez→J9 m A T (Qg m A) (Id G e env s T) (Eo m C e ez s))→∀s T,DV m A T→OS m A n T env ez→J9 m A T (OS m A l.length) (J5 G l env s T) (Eb m C l ez s)
 |[],_,s,T,hI,he=>by
  rw[J5,Eb]
  exact J9.ret hI (TE.refl T) ⟨rfl,rfl,fun i hi=>absurd hi<|Nat.not_lt_zero i⟩
 |e::l,h,s,T,hI,he=>by
  rw[J5,Eb]
  refine (h e (by simp) s T hI he).bind fun x T1 z t h1 h2 h3=>?_
  refine (XM l (fun e' he'=>h e' (by simp[he'])) t T1 h1<|he.mono hI.cl h2).bind fun xs T2 zs u q1 q2 q3=>?_
  refine J9.ret q1 (TE.refl T2) ⟨by simp[q3.1],by simp[q3.2.1],fun i hi=>?_⟩
  cases i with
  |zero=>exact h3.mono h1.cl q2
  |succ i=>exact q3.2.2 i (by simpa using hi)
theorem XN {F f:Nat}{G:Cg}{C:Ca}(hC:pC m A p F G C)(hf:f<F)(ho:(((p.getD f Fn.zero).outs.length:Nat):Int)=(p.getD f Fn.zero).params):∀(c:Nat)(rs:List Int)(zs:List Sr)(t:Nat)(T:Tp),DV m A T→OS m A (p.getD f Fn.zero).outs.length T rs zs →
  J9 m A T (OS m A (p.getD f Fn.zero).outs.length) (JZ (G.all f) c rs t T) (Ml (C.all f) c zs t)
 |0,rs,zs,t,T,hI,h=>J9.ret hI (TE.refl T) h
 |c+1,rs,zs,t,T,hI,h=>(XN hC hf ho c rs zs t T hI h).bind fun x T1 z u h1 h2 h3=>hC.all f _ T1 x z u hf h1 h3 ho
theorem XO (hm:1≤m){F:Nat}{G:Cg}{C:Ca}(hC:pC m A p F G C):∀(z:Nat)(e:Ex),e.size≤z→∀(n:Nat)(env:List Int)(ez:List Sr)(s:Nat)(T:Tp),wf p ((F:Nat):Int) e ((n:Nat):Int)=true→DV m A T→OS m A n T env ez →
  J9 m A T (Qg m A) (Id G e env s T) (Eo m C e ez s)
 |0,e,h,_,_,_,_,_,_,_,_=>by have:=CV e;omega
 |z+1,e,h,n,env,ez,s,T,hw,hI,he=>by
  obtain⟨w1,w2,w3,w4,w5,w6,w7,w8⟩:=DB (Dj hw)
  have hz:∀j,j<e.kids.length→(e.kids.getD j Ex.zero).size≤z:=fun j hj=>by
   have:=CV e;have:=Qm hj;omega
  have hk:∀j,j<e.kids.length→¬(e.kind=9∧j=1)→∀t T',DV m A T'→OS m A n T' env ez→J9 m A T' (Qg m A) (RQ G e.kids j env t T') (Jy m C e.kids j ez t):=fun j hj hn t T' h1 h2=>by
   rw[Gv _ _ _ _ _ _ hj,E0 _ _ _ _ _ _ hj]
   exact XO hm hC z _ (hz j hj) n env ez t T' (H1 hw hj hn) h1 h2
  rw[HS,FO]
  by_cases hs3:3000≤s
  ·rw[if_pos hs3,if_pos hs3];exact rfl
  rw[if_neg hs3,if_neg hs3]
  by_cases k1:e.kind=1
  ·rw[if_pos k1,if_pos k1]
   have:=w8 k1
   exact J9.put hI rfl (Ft<|Ck.2 this) (aJ hm) (.inr<|.inl ⟨rfl,rfl,rfl,this⟩) (fun h6=>absurd (show(2:Int)=6 from h6) (by decide)) fun _ _ _ h=>h
  rw[if_neg k1,if_neg k1]
  by_cases k2:e.kind=2
  ·rw[if_pos k2,if_pos k2]
   exact J9.ret hI (TE.refl T)<|he.2.2 _ (by have:=w2 k2;omega)
  rw[if_neg k2,if_neg k2]
  by_cases k8:e.kind=8
  ·rw[if_pos k8,if_pos k8]
   have h3:=w5 k8
   refine (hk 0 zO zO (s+1) T hI he).bind fun x T1 y t h1 h2 hx=>?_
   have hq:=(hx.at h1).2
   have he1:=he.mono hI.cl h2
   dsimp only
   have fin:∀ {r:Rs RI} {rz:Rs Sr} {b:Bool},J9 m A (T1.guard x b) (Qg m A) r rz→J9 m A T1 (Qg m A) r rz:=fun {r rz b} hh=>by
    cases r with
    |err c=>exact hh
    |ok v u=>obtain⟨q,a1,a2,a3,a4⟩:=hh;exact⟨q,a1,a2,(TE.guard T1 x b).trans a3,a4⟩
   have hg:=h1.guard hx.1
   by_cases h0:T1.at x=0
   ·rw[if_pos h0,if_pos (by rw[hq];exact h0)]
    rw[A7 h0]at hg
    exact fin<|hk 1 zO zO t _ hg<|he1.mono h1.cl<|TE.guard T1 x true
   ·rw[if_neg h0,if_neg (by rw[hq];exact h0)]
    rw[A8 h0]at hg
    exact fin<|hk 2 zO zO t _ hg<|he1.mono h1.cl<|TE.guard T1 x false
  rw[if_neg k8,if_neg k8]
  by_cases k9:e.kind=9
  ·rw[if_pos k9,if_pos k9]
   have h3:=w3 zO
   refine (hk 0 zO zO (s+1) T hI he).bind fun x T1 y t h1 h2 hx=>?_
   dsimp only
   rw[Gv _ _ _ _ _ _ (show 1<e.kids.length by omega),E0 _ _ _ _ _ _ (show 1<e.kids.length by omega)]
   refine XO hm hC z _ (hz 1 zO) (n+1) (env++[x]) (ez++[y]) t T1 ?_ h1<|(he.mono hI.cl h2).snoc hx
   have:=N7 hw zO k9
   rw[Int.natCast_add];exact this
  rw[if_neg k9,if_neg k9]
  have hc:=XM (G:=G) (C:=C) (env:=env) (ez:=ez) (n:=n) e.kids (fun x hx t T' h1 h2=>by
   obtain⟨j,hj,rfl⟩:=List.mem_iff_getElem.1 hx
   have:=hk j hj zO t T' h1 h2
   rw[Gv _ _ _ _ _ _ hj,E0 _ _ _ _ _ _ hj,D9 hj]at this
   exact this) (s+1) T hI he
  refine hc.bind fun xs T1 zs t h1 h2 hx=>?_
  dsimp only
  by_cases k10:e.kind=10
  ·rw[if_pos k10,if_pos k10]
   have h6:=w6<|.inl k10
   exact hC.one _ _ _ T1 xs zs t zO zO h1 hx (by exact h6.2.2.1)
  rw[if_neg k10,if_neg k10]
  by_cases k11:e.kind=11
  ·rw[if_pos k11,if_pos k11]
   have h6:=w6 (.inr k11);have h7:=w7 k11
   have hl:e.kids.length=(p.getD e.num.toNat Fn.zero).outs.length:=by omega
   rw[hl]at hx
   refine (XN hC (f:=e.num.toNat) zO h7.1 e.count.toNat xs zs t T1 h1 hx).bind fun ys T2 ws u q1 q2 q3=>?_
   exact J9.ret q1 (TE.refl T2)<|q3.2.2 _ zO
  rw[if_neg k11,if_neg k11]
  exact kE hm h1 hx zO (fun h7=>by rw[w4 h7];decide) fun h7=>by rw[w3 (by omega)];decide
theorem cP (hm:1≤m)(hv:J2 p):∀F,F≤p.length→pC m A p F (M4 p F) (Hc p m F)
 |0,_=>⟨fun f j n T rs zs t h=>by omega,fun f n T rs zs t h=>by omega⟩
 |F+1,hF=>by
  have ih:=cP hm hv F zO
  have hO:∀j n T rs zs t,j<(p.getD F Fn.zero).outs.length→DV m A T→OS m A n T rs zs→((n:Nat):Int)=(p.getD F Fn.zero).params→J9 m A T (Qg m A) (Id (M4 p F) ((p.getD F Fn.zero).outs.getD j Ex.zero) rs t T) (Eo m (Hc p m F) ((p.getD F Fn.zero).outs.getD j Ex.zero) zs t):=fun j n T rs zs t h2 h1 h3 h4 =>
   XO hm ih _ _ (A9 _) n rs zs t T (by rw[h4];exact hv.wf F zO j h2) h1 h3
  refine⟨fun f j n T rs zs t h1 h2 h0 h3 h4=>?_,fun f n T rs zs t h1 h0 h3 h4=>?_⟩
  ·show J9 m A T _ (if f=F then _ else _) (if f=F then _ else _)
   by_cases e:f=F
   ·subst e;rw[if_pos rfl,if_pos rfl];exact hO j n T rs zs t h2 h0 h3 h4
   ·rw[if_neg e,if_neg e];exact ih.one f j n T rs zs t zO h2 h0 h3 h4
  ·show J9 m A T _ (if f=F then _ else _) (if f=F then _ else _)
   by_cases e:f=F
   ·subst e;rw[if_pos rfl,if_pos rfl]
    refine XM (n:=n) _ (fun e he s T' h5 h6=>?_) t T h0 h3
    obtain⟨j,hj,rfl⟩:=List.mem_iff_getElem.1 he
    have:=hO j n T' rs zs s hj h5 h6 h4
    rwa [D9 hj]at this
   ·rw[if_neg e,if_neg e];exact ih.all f n T rs zs t zO h0 h3 h4
theorem cQ {a:List Int}(hn:B9 a=true)(hA:RY m a A):∀k,k≤a.length→DV m A (KH a k)
 |0,_=>⟨rfl,fun k hk=>absurd hk (Nat.not_lt_zero k),fun k hk=>absurd hk (Nat.not_lt_zero k),fun k hk=>absurd hk (Nat.not_lt_zero k),fun k hk=>absurd hk (Nat.not_lt_zero k)⟩
 |k+1,h=>by
  have e:Gx m A (Bh m A (KH a k).code) ⟨1,0,0,((k:Nat):Int)⟩=A.getD k []:=by
   show A.getD (((k:Nat):Int)).toNat []=_
   rw[Int.toNat_natCast]
  refine (cQ hn hA k zO).put ?_ ?_ (.inl ⟨rfl,rfl,rfl,Int.natCast_nonneg k,by rw[hA.len];exact Int.ofNat_lt.2 h⟩) fun h6=>absurd (show(1:Int)=6 from h6) (by decide)
  ·rw[e];exact hA.ser k h
  ·rw[e];exact hA.at0 k h
theorem kF {a:List Int}(hA:RY m a A):OS m A a.length (KH a a.length) (Ie a.length) A:=by
 have hr:∀k,k≤a.length→∀j,j<k→(Bh m A (KH a k).code).getD j []=A.getD j []:=fun k=>by
  induction k with
  |zero=>exact fun _ j hj=>absurd hj (Nat.not_lt_zero j)
  |succ k ih =>
   intro hk j hj
   show(Bh m A ((KH a k).code++[_])).getD j []=_
   rw[Hy]
   by_cases e:j=k
   ·rw[GZ (by rw[BV,PE];exact e),e]
    show A.getD (((k:Nat):Int)).toNat []=_
    rw[Int.toNat_natCast]
   ·rw[Hi (by rw[BV,PE];omega)];exact ih zO j zO
 refine⟨Hw _,hA.len,fun i hi=>?_⟩
 rw[QP hi]
 exact⟨by rw[Lv];omega,by rw[Int.toNat_natCast,hr _ (A9 _) i hi]⟩
theorem Tz {a:List Int}{f:Nat}(hm:1≤m)(hv:J2 p)(hf:f<p.length)(hn:B9 a=true)(hA:RY m a A)(hl:((a.length:Nat):Int)=(p.getD f Fn.zero).params) :
  J9 m A (KH a a.length) (OS m A (p.getD f Fn.zero).outs.length) (KI p f a) (ev p m f A):=by
 have h:=(cP (A:=A) hm hv (f+1) zO).all f a.length (KH a a.length) (Ie a.length) A 0 zO (cQ hn hA _<|A9 _) (kF hA) hl
 rw[PC (show f<f+1 by omega),J1 (show f<f+1 by omega)]at h
 exact h
theorem KJ {a:List Int}{f:Nat}(hm:1≤m)(hv:J2 p)(hf:f<p.length)(hn:B9 a=true)(hA:RY m a A)(hl:((a.length:Nat):Int)=(p.getD f Fn.zero).params){xs:List Int}{T:Tp}{s:Nat}{c:Int}(h:AX (KI p f a) (xs,T) s c):H2 p m f A=c:=by
 have hT:=Tz hm hv hf hn hA hl
 cases hr:KI p f a with
 |err d =>
  rw[hr]at h hT
  have h9:ev p m f A=.err d:=hT
  rw[Hv h9];exact h.1.symm
 |ok x t =>
  rw[hr]at h hT
  obtain⟨z,h1,_⟩:=hT
  rw[LU h1];exact h.2.2.symm
theorem KK {a:List Int}{f:Nat}(hm:1≤m)(hv:J2 p)(hf:f<p.length)(hn:B9 a=true)(hA:RY m a A)(hl:((a.length:Nat):Int)=(p.getD f Fn.zero).params){xs:List Int}{T:Tp}{s:Nat}{c:Int}(h:AX (KI p f a) (xs,T) s c)(hc:c=0) :
  DV m A T∧CS p m f A=xs.map fun r=>(Bh m A T.code).getD r.toNat []:=by
 have hT:=Tz hm hv hf hn hA hl
 subst hc
 have hr:=h.ok
 rw[hr]at hT
 obtain⟨z,h1,h2,h3,h4⟩:=hT
 refine⟨h2,?_⟩
 rw[KD h1]
 refine aH (by rw[h4.2.1,zg,h4.1]) fun i hi=>?_
 rw[h4.2.1]at hi
 rw[B8 (d:=0) (by rw[h4.1];exact hi)]
 exact (h4.2.2 i hi).2
end
end
section
def Ob (m:Nat)(A:List Sr)(cs:List AM)(k:Nat):Prop:=∀j,j<k→(cs.getD j AM.zero).op=6→((Bh m A (cs.take j)).getD (cs.getD j AM.zero).b.toNat []).getD 0 0≠0
section
variable {m k:Nat} {A R:List Sr} {cs:List AM} {c:AM}
theorem DW (hk:k<cs.length):Bh m A (cs.take (k+1))=Bh m A (cs.take k)++[Gx m A (Bh m A (cs.take k)) (cs.getD k AM.zero)]:=by
 rw[Cp AM.zero hk,Hy]
theorem PI (h:c.op=1):Gx m A R c=A.getD c.num.toNat []:=if_pos h
theorem Nl (h:c.op=3):Gx m A R c=EE (R.getD c.a.toNat []) (R.getD c.b.toNat []):=by unfold Gx;rw[if_neg zO,if_pos h]
theorem Nn (h:c.op=4):Gx m A R c=DJ (R.getD c.a.toNat []) (R.getD c.b.toNat []):=by unfold Gx;rw[if_neg zO,if_neg zO,if_pos h]
theorem No (h:c.op=5):Gx m A R c=Ci (R.getD c.a.toNat []) (R.getD c.b.toNat []):=by unfold Gx;rw[if_neg zO,if_neg zO,if_neg zO,if_pos h]
theorem Np (h:c.op=7):Gx m A R c=CX (R.getD c.a.toNat []) 1000002:=by unfold Gx;rw[if_neg zO,if_neg zO,if_neg zO,if_neg zO,if_pos h]
theorem Nq (h:c.op=6):Gx m A R c=C6 (R.getD c.a.toNat []) (R.getD c.b.toNat []):=by unfold Gx;rw[if_neg zO,if_neg zO,if_neg zO,if_neg zO,if_neg zO,if_pos h]
theorem Nr (h:c.op≠1∧c.op≠3∧c.op≠4∧c.op≠5∧c.op≠7∧c.op≠6):Gx m A R c=cst m c.num:=by
 unfold Gx;rw[if_neg h.1,if_neg h.2.1,if_neg h.2.2.1,if_neg h.2.2.2.1,if_neg h.2.2.2.2.1,if_neg h.2.2.2.2.2]
theorem XP (hA:BC m A)(hR:BC m R)(hl:R.length=k)(h:Hd A.length k c):BN m (Gx m A R c):=by
 have hg:∀x:Int,0≤x→x<((k:Nat):Int)→BN m (R.getD x.toNat []):=fun x h0 h1=>hR _ zO
 rcases h with⟨h1,_,_,h2,h3⟩|⟨h1,_,_,h2,h3⟩|⟨h1,h2,h3,_⟩|⟨h1,h2,_⟩
 ·rw[PI h1];exact hA _ zO
 ·rw[Nr (by omega)];exact Ft (Ck.2 ⟨h2,h3⟩)
 ·have ha:=hg c.a h2.1 h2.2
  rcases h1 with h1|h1|h1|h1
  ·rw[Nl h1];exact IG ha
  ·rw[Nn h1];exact N9 ha
  ·rw[No h1];exact II ha
  ·rw[Nq h1];exact Hu ha
 ·rw[Np h1];exact QH (hg c.a h2.1 h2.2)
theorem aL (h:BC m (Bh m A (cs.take k)))(hA:BC m A)(hf:Hd A.length k (cs.getD k AM.zero))(hk:k<cs.length):BC m (Bh m A (cs.take (k+1))):=by
 rw[DW hk]
 exact BC.snoc h<|XP hA h (by rw[BV,List.length_take];omega) hf
theorem gJ:Ob m A cs 0:=fun j hj=>absurd hj (Nat.not_lt_zero j)
theorem aM (h:Ob m A cs k)(hk:(cs.getD k AM.zero).op≠6):Ob m A cs (k+1):=fun j hj h6=>by
 by_cases e:j=k
 ·subst e;exact absurd h6 hk
 ·exact h j zO h6
theorem aN (h:Ob m A cs k)(hk:((Bh m A (cs.take k)).getD (cs.getD k AM.zero).b.toNat []).getD 0 0≠0):Ob m A cs (k+1):=fun j hj h6=>by
 by_cases e:j=k
 ·subst e;exact hk
 ·exact h j zO h6
theorem XQ {n:Nat}(hk:k<n)(h6:(cs.getD k AM.zero).op=6)(hz:((Bh m A (cs.take k)).getD (cs.getD k AM.zero).b.toNat []).getD 0 0=0):¬Ob m A cs n:=fun h=>h k hk h6 hz
end
theorem DV.nz {m:Nat}{A:List Sr}{T:Tp}(h:DV m A T):Ob m A T.code T.code.length:=fun j hj h6=>by
 have hf:=h.form j hj
 have hd:=h.dv j hj h6
 unfold Hd at hf
 have hb:(T.code.getD j AM.zero).b.toNat<j:=by omega
 have hs:=(h.ser (T.code.getD j AM.zero).b.toNat zO).2
 have e:(Bh m A (T.code.take j)).getD (T.code.getD j AM.zero).b.toNat []=(Bh m A T.code).getD (T.code.getD j AM.zero).b.toNat []:=by
  have h9:=Nk (m:=m) (A:=A) (T.code.take j) (T.code.drop j) (k:=(T.code.getD j AM.zero).b.toNat) (by rw[List.length_take];omega)
  rw[List.take_append_drop]at h9
  exact h9.symm
 rw[e,hs]
 exact hd
section io
variable {ni k:Nat} {c:AM}
theorem Hd.i1 (h:Hd ni k c)(h1:c.op=1):(0≤c.num∧c.num<((ni:Nat):Int)):=by unfold Hd at h;omega
theorem Hd.i2 (h:Hd ni k c)(h1:3≤c.op∧c.op≤6):(0≤c.a∧c.a<((k:Nat):Int))∧(0≤c.b∧c.b<((k:Nat):Int)):=by unfold Hd at h;omega
theorem Hd.i7 (h:Hd ni k c)(h1:c.op=7):(0≤c.a∧c.a<((k:Nat):Int)):=by unfold Hd at h;omega
end io
theorem RZ {S:List Nat}{H:Array Obj}{cs:List Value}{x:AM}(h:RN S RM H cs x):cs=nS x∧ZS x:=by
 obtain⟨F,h,_⟩:=h
 exact⟨h.1,h.2.1⟩
def aO (m:Nat)(A:List Sr)(cs:List AM)(c:Int):Prop:=(c=0∧Ob m A cs cs.length)∨(c=6∧¬Ob m A cs cs.length)
end
section
def Ga (B:List Sr)(r:Int)(s:Sr):List Sr:=B.set r.toNat (EE (B.getD r.toNat []) s)
def OT (cs:List AM)(R:List Sr)(k:Nat)(B:List Sr):List Sr :=
 if (cs.getD k AM.zero).op=3 then Ga (Ga B (cs.getD k AM.zero).a (B.getD k [])) (cs.getD k AM.zero).b (B.getD k [])
 else if (cs.getD k AM.zero).op=4 then Ga (Ga B (cs.getD k AM.zero).a (B.getD k [])) (cs.getD k AM.zero).b (CX (B.getD k []) 1000002)
 else if (cs.getD k AM.zero).op=5 then Ga (Ga B (cs.getD k AM.zero).a (Ci (B.getD k []) (R.getD (cs.getD k AM.zero).b.toNat []))) (cs.getD k AM.zero).b (Ci (B.getD k []) (R.getD (cs.getD k AM.zero).a.toNat []))
 else if (cs.getD k AM.zero).op=6 then Ga (Ga B (cs.getD k AM.zero).a (C6 (B.getD k []) (R.getD (cs.getD k AM.zero).b.toNat []))) (cs.getD k AM.zero).b (CX (Ci (C6 (B.getD k []) (R.getD (cs.getD k AM.zero).b.toNat [])) (R.getD k [])) 1000002)
 else if (cs.getD k AM.zero).op=7 then Ga B (cs.getD k AM.zero).a (CX (B.getD k []) 1000002)else B
def UW (cs:List AM)(R:List Sr):Nat→List Sr→List Sr
 |0,B=>B
 |k+1,B=>UW cs R k (OT cs R k B)
def O4 (os:List Int)(ws:List Int):Nat→List Sr→List Sr
 |0,B=>B
 |k+1,B=>(O4 os ws k B).set (os.getD k 0).toNat (((O4 os ws k B).getD (os.getD k 0).toNat []).set 0 (md (((O4 os ws k B).getD (os.getD k 0).toNat []).getD 0 0+ws.getD k 0)))
def KL (R:List Sr):List Sr:=R.map fun s=>List.replicate s.length 0
def M5 (cs:List AM)(R:List Sr)(os ws:List Int):List Sr:=UW cs R cs.length (O4 os ws os.length (KL R))
section
variable {m:Nat} {cs:List AM} {R B:List Sr} {os ws:List Int}
theorem HX (h:BC m R):BC m (KL R):=fun k hk=>by
 have hk':k<R.length:=by unfold KL at hk;simpa using hk
 have e:(KL R).getD k []=List.replicate (R.getD k []).length 0:=by unfold KL;simp[List.getD_eq_getElem?_getD,List.getElem?_map,hk']
 rw[e]
 exact⟨by rw[z5];exact(h k hk').1,Gu _⟩
@[simp] theorem Dk:(KL R).length=R.length:=by simp[KL]
@[simp] theorem EH (k:Nat):(O4 os ws k B).length=B.length:=by
 induction k with
 |zero=>rfl
 |succ k ih=>show((O4 os ws k B).set _ _).length=_;rw[z6,ih]
theorem BC.set {k:Nat}{s:Sr}(h:BC m B)(hs:BN m s):BC m (B.set k s):=fun j hj=>by
 rw[z6]at hj
 by_cases e:j=k
 ·rw[e,BK _ _ _ _ _ zO,if_pos rfl];exact hs
 ·rw[show(B.set k s).getD j []=B.getD j []from by rw[List.getD_eq_getElem?_getD,List.getElem?_set_ne (fun h=>e h.symm),← List.getD_eq_getElem?_getD]];exact h j hj
theorem Ly {s:Sr}{y:Int}(h:B9 s=true)(hy:0≤y∧y<1000003):B9 (s.set 0 y)=true:=by
 cases s with
 |nil=>rfl
 |cons x s =>
  rw[List.set_cons_zero]
  unfold B9 at h ⊢
  rw[List.all_cons]at h ⊢
  have:=Bool.and_eq_true_iff.1 h
  rw[this.2,Bool.and_true]
  exact Ck.2 hy
theorem Ja (h:BC m B)(ho:∀k,k<os.length→(os.getD k 0).toNat<B.length):∀k,k≤os.length→BC m (O4 os ws k B)
 |0,_=>h
 |k+1,hk=>by
  have ih:=Ja h ho k zO
  have h9:=ih (os.getD k 0).toNat (by rw[EH];exact ho k zO)
  exact ih.set ⟨by rw[z6];exact h9.1,Ly h9.2<|BU _⟩
@[simp] theorem Cf {r:Int}{s:Sr}:(Ga B r s).length=B.length:=by unfold Ga;rw[z6]
theorem Dl {r:Int}{s:Sr}(h:BC m B)(hr:r.toNat<B.length):BC m (Ga B r s):=h.set (IG (h _ hr))
theorem Mw (k:Nat):(OT cs R k B).length=B.length:=by
 unfold OT
 split
 ·rw[Cf,Cf]
 ·split
  ·rw[Cf,Cf]
  ·split
   ·rw[Cf,Cf]
   ·split
    ·rw[Cf,Cf]
    ·split
     ·rw[Cf]
     ·rfl
theorem HY {ni k:Nat}(h:BC m B)(hk:k≤B.length)(hf:Hd ni k (cs.getD k AM.zero)):BC m (OT cs R k B):=by
 have h2:=fun h9=>hf.i2 h9
 have h7:=fun h9=>hf.i7 h9
 unfold OT
 split
 ·have:=h2 (by omega);exact Dl (Dl h zO) (by rw[Cf];omega)
 ·split
  ·have:=h2 (by omega);exact Dl (Dl h zO) (by rw[Cf];omega)
  ·split
   ·have:=h2 (by omega);exact Dl (Dl h zO) (by rw[Cf];omega)
   ·split
    ·have:=h2 (by omega);exact Dl (Dl h zO) (by rw[Cf];omega)
    ·split
     ·have:=h7 (by omega);exact Dl h zO
     ·exact h
theorem TA:∀(n:Nat)(B:List Sr),(UW cs R n B).length=B.length
 |0,_=>rfl
 |n+1,B=>by show(UW cs R n _).length=_;rw[TA n,Mw]
theorem TB {ni:Nat}(hf:∀k,k<cs.length→Hd ni k (cs.getD k AM.zero)):∀(n:Nat)(B:List Sr),n≤cs.length→n≤B.length→BC m B→BC m (UW cs R n B)
 |0,_,_,_,h=>h
 |n+1,B,hn,hb,h=>TB hf n _ zO (by rw[Mw];omega) (HY h zO (hf n zO))
theorem QY {k:Nat}(h:(cs.getD k AM.zero).op=3):OT cs R k B=Ga (Ga B (cs.getD k AM.zero).a (B.getD k [])) (cs.getD k AM.zero).b (B.getD k []):=if_pos h
theorem QZ {k:Nat}(h:(cs.getD k AM.zero).op=4):OT cs R k B=Ga (Ga B (cs.getD k AM.zero).a (B.getD k [])) (cs.getD k AM.zero).b (CX (B.getD k []) 1000002):=by unfold OT;rw[if_neg zO,if_pos h]
theorem R0 {k:Nat}(h:(cs.getD k AM.zero).op=5):OT cs R k B=Ga (Ga B (cs.getD k AM.zero).a (Ci (B.getD k []) (R.getD (cs.getD k AM.zero).b.toNat []))) (cs.getD k AM.zero).b (Ci (B.getD k []) (R.getD (cs.getD k AM.zero).a.toNat [])):=by unfold OT;rw[if_neg zO,if_neg zO,if_pos h]
theorem R1 {k:Nat}(h:(cs.getD k AM.zero).op=6):OT cs R k B=Ga (Ga B (cs.getD k AM.zero).a (C6 (B.getD k []) (R.getD (cs.getD k AM.zero).b.toNat []))) (cs.getD k AM.zero).b (CX (Ci (C6 (B.getD k []) (R.getD (cs.getD k AM.zero).b.toNat [])) (R.getD k [])) 1000002):=by
 unfold OT;rw[if_neg zO,if_neg zO,if_neg zO,if_pos h]
theorem R2 {k:Nat}(h:(cs.getD k AM.zero).op=7):OT cs R k B=Ga B (cs.getD k AM.zero).a (CX (B.getD k []) 1000002):=by unfold OT;rw[if_neg zO,if_neg zO,if_neg zO,if_neg zO,if_pos h]
theorem R3 {k:Nat}(h:(cs.getD k AM.zero).op<3∨7<(cs.getD k AM.zero).op):OT cs R k B=B:=by unfold OT;rw[if_neg zO,if_neg zO,if_neg zO,if_neg zO,if_neg (by omega)]
theorem Hz {n k:Nat}{D B':List Sr}(h:UW cs R n B=D)(hn:n=k+1)(hi:OT cs R k B=B'):UW cs R k B'=D:=by
 subst hn
 rw[← hi];exact h
end
theorem PJ {e:TypeId}{H:Array Obj}{v:Value}{us:List Value}{F:List Nat}(h:AY rV e H v us F)(hl:0<us.length):∃g cap,F=[g]∧v=.slice (some ⟨g,0,none⟩) us.length cap∧∀k,k<us.length→Fj H (Ax v k 1)=some (us.getD k undef):=by
 rcases h with⟨_,rfl,_⟩|⟨vs,g,cap,cur,F',hels,rfl,hg,r1,r2,r3,r4,rfl⟩
 ·simp at hl
 ·obtain⟨rfl,rfl⟩:=G3 hels
  refine⟨g,cap,rfl,rfl,fun k hk=>?_⟩
  have hu:vs[k]? = some (vs.getD k undef):=by simp[List.getD_eq_getElem?_getD,hk]
  rw[Ew]
  simp only[Fj,Ch,hg,Nat.zero_add]
  rw[← r4,List.getElem?_take,if_pos hk]at hu
  rw[r4]at hu
  simpa using hu
section
variable {e:TypeId} {B:Nat} {w w':World} {v:Value} {xs:List (List Int)} {us:List Value} {F:List Nat}
theorem Ic.getF {S:List Nat}{H:Array Obj}(h:Ic e S B H v xs us F){k:Nat}(hk:k<xs.length):∃u,Fj H (Ax v k 1)=some u∧RN (S++F) (B3 rI) H u (xs.getD k []):=by
 obtain⟨g,cap,_,_,h3⟩:=PJ h.own (by rw[h.len];omega)
 exact⟨_,h3 k (by rw[h.len];exact hk),h.els k hk⟩
theorem Ic.ofFr {S:List Nat}{e1:TypeId}{U:Nat}{H:Array Obj}(h:Fr (AY (AY rI e1) e) B U H v xs)(hS:∀b∈S,b<B):∃us F,Ic e S B H v xs us F∧∀b∈F,b<U:=by
 obtain⟨F,h1,h2,h3⟩:=h
 rcases h1 with⟨rfl,rfl,rfl⟩|⟨us,g,cap,cur,F',hels,rfl,hg,r1,r2,r3,r4,rfl⟩
 ·exact⟨[],[],⟨.inl ⟨rfl,rfl,rfl⟩,zk,(fun b hb=>absurd hb z2),rfl,(fun k hk=>absurd hk (Nat.not_lt_zero k))⟩,(fun b hb=>absurd hb z2)⟩
 ·have hl:=hels.length
  have hn:=List.nodup_cons.1 h2
  refine⟨us,[g],⟨.inr ⟨us,g,cap,cur,[],La (hels.cells1 o1),by rw[hl],hg,zO,r2,r3,by rw[hl];exact r4,rfl⟩,by simp,fun b hb=>?_,hl,fun k hk=>?_⟩,fun b hb=>?_⟩
  ·have:=h3 b (by rw[Ab hb];exact z0 ..);omega
  ·obtain⟨u,G,hu,q1,q2,q3,_⟩:=hels.at_ (k:=k) [] hk hn.2
   have e1:us.getD k undef=u:=by simp[List.getD_eq_getElem?_getD,hu]
   rw[e1]
   exact⟨G,q1.rd id,fun b hb hm=>by
    have hb':=q3 b hb
    rcases zi.1 hm with hm|hm
    ·have h8:=hS b hm
     have h9:=(h3 b<|z3 _ hb').1
     omega
    ·rw[Ab hm]at hb'
     exact hn.1 hb'⟩
  ·exact (h3 b (by rw[Ab hb];exact z0 ..)).2
end
section ops
variable {P:Program} {ops:Array Oper} {w0:World} {Q:Act→World→Prop} {os:List Oper} {ks:List Nat} {N:Nat} {ρ:Nat→Value} {w:World}
 {d:Nat} {ty:TypeId} {pos:String} {aft:Array Edge} {g:Option (Nat×Bool)} {t e:TypeId} {z:Value} {b:Nat}
theorem XR {S:List Nat}{st:TypeId}{x y:Operand}{v u:Value}{xs:List (List Int)}{r:List Int}{us:List Value}{F:List Nat}{B j:Nat}(hst:(P.info? st).map (·.size)=some 1)(hx:Bw N ρ x=Ax v j 1)(hy:Bw N ρ y=u)
  (hv:Ic e S B w.heap v xs us F) (hr:RN (S++F) (B3 rI) w.heap u r) (hj:j<xs.length) (hu:Up ops N ρ ⟨none,.store st x y,ty,pos,aft,g⟩)
  (h:∀w1,Az F w w1→w1.heap.size=w.heap.size→Ic e S B w1.heap v (xs.set j r) (us.set j u) F→LW P ops w0 Q os ks (mk N ρ) w1) :
  LW P ops w0 Q (⟨none,.store st x y,ty,pos,aft,g⟩::os) (4::ks) (mk N ρ) w:=by
 obtain⟨g0,cap,hF,hvv,_⟩:=PJ hv.own (by rw[hv.len];omega)
 have hone:=hr.one1 g1
 obtain⟨w1,F',q1,q2,q3,q4,q5,q6⟩:=Kp (P:=P) Bc hst hv.own hv.nd (by rw[hv.len];exact hj) (u:=u) (y:=u) (G:=[]) ⟨rfl,rfl,hone.1,hone.2⟩ zk (fun b hb=>by cases hb)
 obtain⟨g2,cap2,hF2,hvv2,_⟩:=PJ q2 (by rw[z6,hv.len];omega)
 have hg:g2=g0:=by
  rw[hvv]at hvv2
  injection hvv2 with h1 _ _
  injection h1 with h1
  injection h1 with h1 _ _
  exact h1.symm
 have hFF:F'=F:=by rw[hF2,hF,hg]
 subst hFF
 have hc:Az F' w w1:=q5.sub fun x hx=>zj hx
 refine MI rfl hu w1 (D1 hx hy q1)<|h w1 hc q6 ⟨q2,hv.nd,hv.low,by rw[z6,z6];exact hv.len,fun k hk=>?_⟩
 rw[z6]at hk
 have hku:k<us.length:=by rw[hv.len];exact hk
 rw[BK _ _ _ _ _ (by rw[hv.len];exact hj),BK _ _ _ _ _ hj]
 have hcS:Az (S++F') w w1:=hc.sub fun b hb=>z1 _ hb
 by_cases ek:k=j
 ·rw[if_pos ek,if_pos ek];exact hr.chg g1 hcS
 ·rw[if_neg ek,if_neg ek]
  exact (hv.els k hk).chg g1 hcS
theorem aP {st e':TypeId}{x y:Operand}{v u:Value}{n:Int}{xs:List (List Int)}{B T r j:Nat}{F:List Nat}(hst:(P.info? st).map (·.size)=some 1)(hx:Bw N ρ x=Ax u j 1)(hy:Bw N ρ y=.int .i64 n)(hn:-9223372036854775808≤n∧n≤9223372036854775807)
  (hv:Ow (AY (AY rI e) e') B T w.heap v xs F) (hr:r<xs.length) (hl:Fj w.heap (Ax v r 1)=some u) (hj:j<(xs.getD r []).length) (hu:Up ops N ρ ⟨none,.store st x y,ty,pos,aft,g⟩)
  (h:∀w1 G,Az G w w1→w1.heap.size=w.heap.size→(∀c∈G,c∈F)→Ow (AY (AY rI e) e') B T w1.heap v (xs.set r ((xs.getD r []).set j n)) F→LW P ops w0 Q os ks (mk N ρ) w1) :
  LW P ops w0 Q (⟨none,.store st x y,ty,pos,aft,g⟩::os) (4::ks) (mk N ρ) w:=by
 obtain⟨hown,hnd,hlow,hhigh⟩:=hv
 rcases hown with⟨_,rfl,_⟩|⟨us,g0,cap,cur,F',hels,rfl,hg,r1,r2,r3,r4,rfl⟩
 ·simp at hr
 ·have hc:=List.nodup_cons.1 hnd
  obtain⟨u',G,q0,q1,q2,q3,q4⟩:=hels.at_ (k:=r) [] hr hc.2
  have hlen:=hels.length
  have hu':u'=u:=by
   rw[Ew]at hl
   simp only[Fj,Ch,hg,Nat.zero_add]at hl
   rw[← r4,List.getElem?_take,if_pos hr]at q0
   have:some u'=some u:=by rw[← q0,← hl];simp
   exact Option.some.inj this
  subst hu'
  obtain⟨w1,p1,p2,p3,p4⟩:=Qi (P:=P) hst q1 q2 hj hn
  have hgG:g0∉G:=fun hm=>hc.1 (q3 g0 hm)
  refine MI rfl hu w1 (D1 hx hy p1)<|h w1 G p3 p4 (fun c hm=>z3 _<|q3 c hm) ⟨.inr ⟨us,g0,cap,cur,F',?_,by rw[z6],?_,by rw[z6];exact r1,r2,r3,by rw[z6];exact r4,rfl⟩,hnd,hlow,hhigh⟩
  ·exact q4 (fun hE hC=>o1.stable hE fun b hb=>p3.block b (o1.lt hE b hb) (hC b hb).2) p2
  ·have hlt:g0<w.heap.size:=(Array.getElem?_eq_some_iff.1 hg).1
   rw[p3.block g0 hlt hgG];exact hg
end ops
section
variable {e1 e:TypeId} {B T:Nat} {w:World} {v:Value} {xs:List (List Int)} {F:List Nat}
theorem Ow.rowO (h:Ow (AY (AY rI e1) e) B T w.heap v xs F){k:Nat}(hk:k<xs.length):∃u,Fj w.heap (Ax v k 1)=some u∧Rd (B3 rI) w.heap u (xs.getD k []):=by
 obtain⟨u,G,q0,q1,_⟩:=h.fr.row o1 [] hk
 exact⟨u,q0,G,q1.rd id⟩
theorem Ow.slO {H:Array Obj}(h:Ow (AY (AY rI e1) e) B T H v xs F):Er v xs.length:=(AY.rd id h.own:B3 (AY rI e1) H v xs F).isSl
theorem Ic.ofOw {S:List Nat}(h:Ow (AY (AY rI e1) e) B T w.heap v xs F)(hS:∀b∈S,b<B):∃us F',Ic e S B w.heap v xs us F'∧∀b∈F',b∈F:=by
 obtain⟨h1,h2,h3,h4⟩:=h
 rcases h1 with⟨rfl,rfl,rfl⟩|⟨us,g,cap,cur,F',hels,rfl,hg,r1,r2,r3,r4,rfl⟩
 ·exact⟨[],[],⟨.inl ⟨rfl,rfl,rfl⟩,zk,(fun b hb=>absurd hb z2),rfl,(fun k hk=>absurd hk (Nat.not_lt_zero k))⟩,(fun b hb=>absurd hb z2)⟩
 ·have hl:=hels.length
  have hn:=List.nodup_cons.1 h2
  refine⟨us,[g],⟨.inr ⟨us,g,cap,cur,[],La (hels.cells1 o1),by rw[hl],hg,zO,r2,r3,by rw[hl];exact r4,rfl⟩,by simp,fun b hb=>?_,hl,fun k hk=>?_⟩,fun b hb=>?_⟩
  ·exact h3 b (by rw[Ab hb];exact z0 ..)
  ·obtain⟨u,G,hu,q1,q2,q3,_⟩:=hels.at_ (k:=k) [] hk hn.2
   have e1:us.getD k undef=u:=by simp[List.getD_eq_getElem?_getD,hu]
   rw[e1]
   exact⟨G,q1.rd id,fun b hb hm=>by
    have hb':=q3 b hb
    rcases zi.1 hm with hm|hm
    ·have h8:=hS b hm
     have h9:=h3 b<|z3 _ hb'
     omega
    ·rw[Ab hm]at hb'
     exact hn.1 hb'⟩
  ·rw[Ab hb];exact z0 ..
end
theorem XS {R:List Sr}{k:Nat}(hk:k<R.length):KL (R.take k)++[List.replicate (R.getD k []).length 0]=KL (R.take (k+1)):=by
 unfold KL
 rw[Cp [] hk,List.map_append];rfl
end
section
def UJ (cs:List AM)(L:List Sr):Nat→List Sr→List Sr
 |0,B=>B
 |k+1,B=>if (cs.getD k AM.zero).op=1 then Ga (UJ cs L k B) (cs.getD k AM.zero).num (L.getD k [])else UJ cs L k B
def gK (ni m:Nat)(cs:List AM)(L:List Sr):List Sr:=UJ cs L cs.length (List.replicate ni (List.replicate m 0))
section
variable {m ni:Nat} {cs:List AM} {L B:List Sr}
theorem Ns {k:Nat}(h:(cs.getD k AM.zero).op=1):UJ cs L (k+1) B=Ga (UJ cs L k B) (cs.getD k AM.zero).num (L.getD k []):=if_pos h
theorem Nt {k:Nat}(h:(cs.getD k AM.zero).op≠1):UJ cs L (k+1) B=UJ cs L k B:=if_neg h
@[simp] theorem Jb (k:Nat):(UJ cs L k B).length=B.length:=by
 induction k with
 |zero=>rfl
 |succ k ih =>
  by_cases h:(cs.getD k AM.zero).op=1
  ·rw[Ns h,Cf,ih]
  ·rw[Nt h,ih]
theorem KM (m ni:Nat):BC m (List.replicate ni (List.replicate m 0)):=fun k hk=>by
 rw[z5]at hk
 have e:(List.replicate ni (List.replicate m (0:Int))).getD k []=List.replicate m 0:=by simp[List.getD_eq_getElem?_getD,hk]
 rw[e]
 exact⟨z5,Gu _⟩
theorem Mx (hf:∀k,k<cs.length→Hd B.length k (cs.getD k AM.zero))(h:BC m B):∀k,k≤cs.length→BC m (UJ cs L k B)
 |0,_=>h
 |k+1,hk=>by
  have ih:=Mx hf h k zO
  by_cases h1:(cs.getD k AM.zero).op=1
  ·rw[Ns h1]
   have:=(hf k zO).i1 h1
   exact Dl ih (by rw[Jb];omega)
  ·rw[Nt h1];exact ih
theorem aQ (hf:∀k,k<cs.length→Hd ni k (cs.getD k AM.zero)):BC m (gK ni m cs L):=Mx (fun k hk=>by rw[z5];exact hf k hk) (KM m ni) _ (A9 _)
@[simp] theorem TC:(gK ni m cs L).length=ni:=by unfold gK;rw[Jb,z5]
end
end
end Go.Proofs.YtbajepcpgncekaaGreat
