/- FwY, Gc, Ma, Mb, Na, Mc, Md, Me, Mh, Mq, Nb, Nc, Nd, Ne, Gd, Ge, Gu, Gv, Gw, Gx, Nf, Ng, Nh, Ni, Nj, Nk, Nl, Ga, Gk, Gh, Gl, Gm, Gq, Gp, Gs, Gy, Gz, Ha, Hb, Hd, He, Hf, Hj, Hl, Hm, Hn, Hr, Hv, Hx, In, Io, T, T2, Sa, Sb, Sc, Sf: texts of this claim, joined; what the claim does not come to is left out. -/
import Derived.Test.YtemfgblmfahllaaGreatQC1
import Derived.Test.YtemfgblmfahllaaGreatProg
set_option linter.unusedVariables false
set_option linter.unusedSimpArgs false
namespace Go.Proofs.YtemfgblmfahllaaGreat
open Go Go.RowKit
section
section res
variable {P:Program} {N:Nat} {ρ:Nat→Value} {w:World} {t:TypeId}
theorem Hn {s b o:Nat}(ht:De P t s=true){cs:List Value}(h:LD w.heap (.pointer (some ⟨b,o,none⟩)) cs)(hl:cs.length=s):(loadVar t ⟨b,o,none⟩).run P w=.ok (.agg cs.toArray) w:=by
 obtain⟨b',o',he,h⟩:=h
 injection he with he
 injection he with he
 injection he with hb ho _;subst hb;subst ho;unfold De at ht;simp only[z7]at ht;obtain⟨h1,h2⟩:=ht;split at h1;rename_i fs hfs;split at h2;rename_i inf hin;have hs:inf.size=s:=by simpa using h2
 have hag:(isAgg t).run P w=.ok true w:=by
  unfold isAgg;simp only[Sem.run_bind,run_underlying hfs,Result.andThen_ok];rfl
 have hlc:=run_loadCells_list (P:=P) w ⟨b,o,none⟩ cs (fun j v hj=>by
  rw[G0,BQ];have hjl:j<cs.length:=(List.getElem?_eq_some_iff.1 hj).1;rw[h j hjl];simp[List.getD,hj])
 rw[hl,← hs]at hlc;simp[loadVar,hag,sizeOf,typeInfo,hin,hlc];cases h2;cases h1
theorem FW {fn:Func}{R:Ending→World→Prop}{k s b:Nat}{ty:TypeId}{cs:List Value}(hr:fn.results=#[.cell k ty])(ha:De P ty s=true)(hv:Bv N ρ (.tmp k)=.pointer (some ⟨b,0,none⟩))(hb:BX w.heap b cs)(hl:cs.length=s)
  (h:R (.returned (.agg cs.toArray)) w):bodyPost P fn R .ret (mk N ρ) w:=by
 refine⟨rfl,_,?_,h⟩;have hld:=Hn (P:=P) ha (LD.of_box hb) hl;have hg:(mk N ρ).tmps.getD k undef=.pointer (some ⟨b,0,none⟩):=by rw[IJ,hv]
 have hi:(asAddr (.pointer (some ⟨b,0,none⟩))).run P w=.ok ⟨b,0,none⟩ w:=rfl;unfold results;rw[hr];have hg':(mk N ρ).tmps[k]?.getD undef=.pointer (some ⟨b,0,none⟩):=by simpa using hg
 simp[Sem.run_bind,hg',hi,hld,Result.andThen]
end res
section fr
variable {α:Type} {E:BM α} {s:Nat} {e e':TypeId} {B U d:Nat} {H:Array Obj} {v:Value}
theorem Fr.isSlS {xs:List α}(h:Fr (DE s E e) B U H v xs):Go.Proofs.YtemfgblmfahllaaGreat.FB v xs.length:=by obtain⟨F,h,_⟩:=h;exact h.isSl
theorem RN.of_frF {S:List Nat}{xs:List Fn}(h:Fr (DE 3 (Y4 e d) e') B U H v xs)(hS:∀b∈S,b<B):RP S d H v xs:=by obtain⟨F,h1,_,h3⟩:=h;exact⟨F,(h1.rd (Bt e d)).imp fun h=>bH e h,fun b hb hm=>by have:=h3 b hb;have:=hS b hm;omega⟩
theorem RN.exPos {S:List Nat}{xs:List Ex}(h:RN S (Ch 5 (HM d)) H v xs)(h0:0<xs.length):0<d:=by
 obtain⟨F,h,_⟩:=h;obtain⟨cs,G,q,_⟩:=Ch.get (Au d) Ex.zero h h0;cases d with
 |zero=>exact q.elim
 |succ d=>omega
theorem UX (hd:0<d)(H:Array Obj):Sy e d H (DV Ex.zero (.slice none 0 0)) Ex.zero []:=by
 cases d with
 |zero=>omega
 |succ d=>exact⟨_,rfl,by constructor <;> (unfold Bl;decide),.inl ⟨rfl,rfl,rfl⟩⟩
theorem UY (H:Array Obj):Y4 e d H (E0 Fn.zero (.slice none 0 0)) Fn.zero []:=⟨_,rfl,by unfold Bl;decide,.inl ⟨rfl,rfl,rfl⟩⟩
theorem cA {d':Nat}{x:Ex}(hd:d=d'+1)(hr:kI x)(h:Fr (DE 5 (Sy e d') e) B U H v x.kids):∃G,Sy e d H (DV x v) x G∧G.Nodup∧∀b∈G,B≤b∧b<U:=by subst hd;obtain⟨G,h1,h2,h3⟩:=h;exact⟨G,⟨v,rfl,hr,h1⟩,h2,h3⟩
theorem cB {x:Fn}(hr:Bl x.params)(h:Fr (DE 5 (Sy e d) e) B U H v x.outs):∃G,Y4 e d H (E0 x v) x G∧G.Nodup∧∀b∈G,B≤b∧b<U:=by obtain⟨G,h1,h2,h3⟩:=h;exact⟨G,⟨v,rfl,hr,h1⟩,h2,h3⟩
theorem Mu {xs:List α}{z:α}{k:Nat}(hk:k<xs.length)(d:α):(xs.take k++List.replicate (xs.length-k) z).set k (xs.getD k d)=xs.take (k+1)++List.replicate (xs.length-(k+1)) z:=by
 have h1:(xs.take k).length=k:=by rw[List.length_take];omega
 rw[List.set_append,if_neg zO,h1,Nat.sub_self,show xs.length-k=(xs.length-(k+1))+1 from by omega,List.replicate_succ,List.set_cons_zero,show xs.take (k+1)=xs.take k++[xs.getD k d]from by rw[List.take_succ_eq_append_getElem hk];simp[hk],List.append_assoc];rfl
end fr
section str
variable {P:Program} {ops:Array Oper} {w0:World} {Q:Act→World→Prop} {os:List Oper} {ks:List Nat} {N:Nat} {ρ:Nat→Value} {w:World}
 {d:Nat} {ty:TypeId} {pos:String} {aft:Array Edge} {g:Option (Nat×Bool)} {t e:TypeId}
theorem UZ {xt yt:TypeId}{x y:Operand}{a b:ByteArray}(hx:Bv N ρ x=.string a)(hy:Bv N ρ y=.string b)(hl:a.size+b.size≤9223372036854775807)(hu:Up ops N ρ ⟨some d,.binOp .add xt x y yt,ty,pos,aft,g⟩)
  (h:LW P ops w0 Q os ks (mk N (CI ρ d (.string (a++b)))) w):LW P ops w0 Q (⟨some d,.binOp .add xt x y yt,ty,pos,aft,g⟩::os) (0::ks) (mk N ρ) w :=
 CR (by decide) rfl hu _ (fun w' _=>by
  have he:(eqGuard .add xt x y (.string a) (.string b)).run P w'=.ok () w':=rfl
  have hr:(binOp .add xt (.string a) (.string b)).run P w'=.ok (.string (a++b)) w':=by
   have h2:=run_string_add_sum (P:=P) w' a b hl;simpa [binOp]using h2
  simp only[execOp,hx,hy,Sem.run_bind,he,Result.andThen_ok,hr,Sem.run_pure]) h
theorem cC {st dt:TypeId}{x:Operand}{v:Value}{n:Int}{B U:Nat}(hs:P.underlying st=some (.slice e))(he:P.underlying e=some (.int .u8))(hd:P.underlying dt=some .string)(hx:Bv N ρ x=v)(hv:Fr (Bq rV e) B U w.heap v [.int .u8 n])
  (hu:Up ops N ρ ⟨some d,.convert st dt x,ty,pos,aft,g⟩) (h:∀s:ByteArray,s.size=1→LW P ops w0 Q os ks (mk N (CI ρ d (.string s))) w) :
  LW P ops w0 Q (⟨some d,.convert st dt x,ty,pos,aft,g⟩::os) (2::ks) (mk N ρ) w:=by
 obtain⟨F,hv,_,_⟩:=hv;rcases hv with⟨_,hc,_⟩|⟨us,b,cap,cur,F',hels,rfl,hg,q1,q2,q3,q4,rfl⟩;cases hc;obtain⟨rfl,rfl⟩:=Gq hels;refine CR (by decide) rfl hu _ (fun w' hcl=>?_)<|h ⟨#[UInt8.ofNat n.toNat]⟩ rfl;have hcl:AA w w':=hcl;have hcb:w'.heap[b]? = w.heap[b]?:=hcl.heap (getElem?_lt hg);have hlc:=run_loadCells_list (P:=P) w' ⟨b,0,none⟩ [.int .u8 n] (fun j u hj=>by
  rw[G0,BQ];simp only[C1,hcb,hg];have hj0:j=0:=by have:=(List.getElem?_eq_some_iff.1 hj).1;simpa using this
  subst hj0;have e1:cur.toList[0]? = some (.int .u8 n):=by
   have:(cur.toList.take 1)[0]? = some (.int .u8 n):=by rw[show cur.toList.take 1=[.int .u8 n]from q4];rfl
   rwa [List.getElem?_take,if_pos (by decide)]at this
  have e2:u=.int .u8 n:=by simpa using hj.symm
  rw[e2];simpa using e1)
 have hb:=run_bytesToString (P:=P) w' ⟨b,0,none⟩ 1 cap [n] (by simpa using hlc);have hr:=run_convert_bytes_string (P:=P) w' st dt e (some ⟨b,0,none⟩) 1 cap hs he hd;simp only[execOp,hx,zd,Sem.run_bind,hr,hb,Result.andThen_ok,Sem.run_pure];rfl
end str
end
section
theorem Qp:∀(cs:List Value)(k:Nat)(A:Array Value),k+cs.length≤A.size→((cs.zipIdx k).foldl (fun A p=>A.setIfInBounds (0+p.2) p.1) A).toList=A.toList.take k++cs++A.toList.drop (k+cs.length)
 |[],k,A,_=>by simp
 |c::cs,k,A,h=>by
  rw[z9]at h
  rw[List.zipIdx_cons,List.foldl_cons,Qp cs (k+1) _ (by simp;omega)]
  simp only[Array.toList_setIfInBounds,Nat.zero_add]
  have h1:(A.toList.set k c).take (k+1)=A.toList.take k++[c]:=by
   rw[List.take_succ_eq_append_getElem (by simp;omega),List.take_set,List.set_eq_of_length_le (by simp;omega)];simp
  have h2:(A.toList.set k c).drop (k+1+cs.length)=A.toList.drop (k+(c::cs).length):=by
   rw[List.drop_set_of_lt zO,z9,show k+1+cs.length=k+(cs.length+1)from by omega]
  rw[h1,h2,List.append_assoc (A.toList.take k)];simp
theorem V0 {cs:List Value}{A:Array Value}(h:A.size=cs.length):cs.zipIdx.foldl (fun A p=>A.setIfInBounds p.2 p.1) A=cs.toArray:=by apply Array.ext';have:=Qp cs 0 A zO;simp only[List.take_zero,zl,Nat.zero_add]at this;rw[List.drop_of_length_le (by rw[Array.length_toList];omega),List.append_nil]at this;simpa using this
section run
variable {P:Program} {w:World} {α:Type} {E:BM α} {s:Nat} {t ty e:TypeId} {b:Nat} {z:Value}
theorem Ye {cs:List Value}(ht:P.underlying t=some (.slice e))(hi:TI P e s z b)(hs:0<s)(hs2:s≤1000)(hz:z.cells.size=s)(hc:cs.length=s) :
  (Instr.buildSlice t 1 #[(0,.agg cs.toArray)]).run P w=.ok (.slice (some ⟨w.heap.size,0,none⟩) 1 1) (w.alloc (.cells cs.toArray e)):=by
 obtain⟨i,h1,h2,h3,h4⟩:=hi.get;have h0:¬(s=0):=by omega
 have hA:((Array.range s).map (fun x=>z.cells[x % s]!)).size=cs.length:=by simp[hc]
 have hf:=V0 hA;have hbig:¬(s > 2 ^ 24):=by omega
 simp only[Instr.buildSlice,Sem.run_bind,run_underlying ht,Result.andThen_ok,sizeOf,typeInfo,zeroValue,h1,h2,h3,Nat.one_mul,Instr.fill,hz,Sem.run_pure];have hag:(Value.agg cs.toArray).cells=cs.toArray:=rfl;simp[h0,hbig,hag,hc,newRow,hz,h1,h2,h3,Instr.fill,run_underlying ht,typeInfo];rw[hf]
def kX (E:BM α)(B U:Nat)(H:Array Obj)(cs:List Value)(x:α):Prop:=∃G,E H cs x G∧G.Nodup∧∀b∈G,B≤b∧b<U
theorem SF (hE:Cc s E){css:List (List Value)}{xs:List α}{F:List Nat}{cur:Array Value}{cap:Nat}(h:Ck E w.heap css xs F)(hl:xs.length≤cap)(hm:cap≤maxLen)(hsz:cur.size=cap*s)(hc:cur.toList.take (xs.length*s)=css.flatten) :
  DE s E e (w.alloc (.cells cur e)).heap (.slice (some ⟨w.heap.size,0,none⟩) xs.length cap) xs (w.heap.size::F):=by
 refine .inr ⟨css,w.heap.size,cap,cur,F,h.stable hE fun b hb=>?_,rfl,?_,hl,hm,hsz,hc,rfl⟩;exact Below.heap_alloc _ _ _<|h.lt hE b hb;show(w.heap.push _)[w.heap.size]? = _;simp
def kP {α β:Type}(E:Array Obj→β→α→List Nat→Prop)(S:Nat→Prop)(H:Array Obj)(v:β)(x:α):Prop:=∃F,E H v x F∧F.Nodup∧∀b∈F,S b
theorem V1 (hE:Cc s E)(ht:P.underlying t=some (.slice e))(hi:TI P e s z b)(hz:z.cells.size=s)(hs:0<s){v:Value}{xs:List α}{S T:Nat→Prop}(hv:kP (DE s E e) S w.heap v xs)
  {a:Value} {y:α} (ha:kP (DE s E e) T w.heap a [y]) (hST:∀b,S b→T b→False) (hbytes:(xs.length+1)*b≤140737488355328) (hmx:xs.length+1≤maxLen) :
  ∃v' w' F,(Builtin.append_ #[t,t] ty #[v,a]).run P w=.ok v' w'∧kP (DE s E e) (fun b=>S b∨T b∨b=w.heap.size) w'.heap v' (xs++[y])∧AB F w w'∧∀c∈F,S c:=by
 obtain⟨F,hv1,hn,hF⟩:=hv;obtain⟨G,ha1,hnG,hG⟩:=ha;obtain⟨i,h1,h2,h3,h4⟩:=hi.get;subst h4;have hsmall:xs.length+1≤9223372036854775807:=by simp only[maxLen]at hmx;omega
 rcases ha1 with⟨_,h0,_⟩|⟨cas,ga,capa,cura,G',hels,rfl,hga,a1,a2,a3,a4,rfl⟩;cases h0;have hnG':=List.nodup_cons.1 hnG;have hfl:cas.flatten.length=s:=by have:=hels.flen hE;simpa using this
 simp only[zd,Nat.one_mul]at a4 a1;have hnews:∀j u,cas.flatten[j]? = some u→w.cell? ((⟨ga,0,none⟩:Addr).add j)=some u:=by
  intro j u hj;have e1:(⟨ga,0,none⟩:Addr).add j=⟨ga,j,none⟩:=by
   unfold Addr.add;split;rename_i hh;subst hh;rfl;simp
  rw[e1,BQ];simp only[C1,hga];rw[← a4,List.getElem?_take]at hj;split at hj;simpa using hj;cases hj
 have h1c:∀u∈cas.flatten,u.oneCell'=true:=fun u hu=>(hels.one hE u hu).2;have hl1:cas.flatten.length=1*i.size:=by rw[h3,hfl,Nat.one_mul]
 have made:∀(w1:World) (ous:List (List Value)) (F0:List Nat) (rest:Nat),w1.heap=w.heap→w1.os=w.os→w1.tape=w.tape→w1.output=w.output→Ck E w.heap ous xs F0→(∀c∈F0,c∈F)→F0.Nodup →
   (xs.length+1+rest)≤maxLen →
   kP (DE s E e) (fun b=>S b∨T b∨b=w.heap.size) (w1.alloc (.cells (ous.flatten.toArray++cas.flatten.toArray++Builtin.zeroCells z.cells rest) e)).heap (.slice (some ⟨w.heap.size,0,none⟩) (xs.length+1) (xs.length+1+rest)) (xs++[y]) ∧
    AB ([]:List Nat) w (w1.alloc (.cells (ous.flatten.toArray++cas.flatten.toArray++Builtin.zeroCells z.cells rest) e)):=by
  intro w1 ous F0 rest hh ho htp hop hou hsub hnd hmax;have happ:=hou.append hels;have hofl:=hou.flen hE;have hzc:(Builtin.zeroCells z.cells rest).size=rest*s:=by simp[Builtin.zeroCells,hz]
  have hsz:(ous.flatten.toArray++cas.flatten.toArray++Builtin.zeroCells z.cells rest).size=(xs.length+1+rest)*s:=by
   rw[Nat.add_mul,Nat.add_mul,Nat.one_mul];simp only[Array.size_append,List.size_toArray,hzc,hfl,hofl]
  have hlen:(xs++[y]).length=xs.length+1:=by simp
  have hnew:=SF (e:=e) (w:=w1) hE (css:=ous++cas) (xs:=xs++[y]) (F:=F0++G') (cur:=ous.flatten.toArray++cas.flatten.toArray++Builtin.zeroCells z.cells rest) (cap:=xs.length+1+rest)
   (by rw[hh];exact happ) (by rw[hlen];omega) hmax hsz (by
    rw[hlen,Array.toList_append,Array.toList_append,List.flatten_append];have e1:(xs.length+1)*s=(ous.flatten++cas.flatten).length:=by rw[z4,hofl,hfl,Nat.add_mul,Nat.one_mul]
    rw[e1];exact List.take_left)
  rw[hh,hlen]at hnew;have hnn:(w.heap.size::(F0++G')).Nodup:=by
   rw[List.nodup_cons];refine⟨fun hm=>?_,?_⟩;have:=happ.lt hE _ hm;omega;rw[List.nodup_append];refine⟨hnd,hnG'.2,?_⟩;rintro x hx y hy rfl;exact hST _ (hF x<|hsub x hx)<|hG x<|z3 _ hy
  refine⟨⟨_,hnew,hnn,fun c hc=>?_⟩,ho,htp,hop,?_,fun k hk _=>?_⟩;rcases ze.1 hc with rfl|hc;exact .inr<|.inr rfl;rcases zi.1 hc with hc|hc;exact .inl<|hF c<|hsub c hc;exact .inr<|.inl<|hG c<|z3 _ hc;show w.heap.size≤(w1.heap.push _).size;rw[hh];simp;have:=Below.heap_alloc w1 (.cells (ous.flatten.toArray++cas.flatten.toArray++Builtin.zeroCells z.cells rest) e) k (by rw[hh];exact hk);rw[this,hh]
 rcases hv1 with⟨rfl,rfl,rfl⟩|⟨ous,gv,capv,curv,F0,hels0,rfl,hgv,r1,r2,r3,r4,rfl⟩;have hr:=run_append_nil (P:=P) w t ty e i z ht h1 h2 ⟨ga,0,none⟩ 1 capa cas.flatten hl1 hnews (by decide) (by decide) (by simp at hbytes ⊢;omega);have hge:=grownCap_ge w 1 0 e;have hgm:=grownCap_le_maxLen w 1 0 e (by simpa using hmx);obtain⟨q1,q2⟩:=made w.drew [] [] (grownCap w 1 0 e-1) rfl rfl rfl rfl rfl (fun c hc=>by cases hc) zk (by simp;omega);refine⟨_,_,[],hr,?_,?_,fun c hc=>by cases hc⟩;have ea:(([]:List α).length+1+(grownCap w 1 0 e-1))=grownCap w 1 0 e:=by simp;omega
 rw[ea]at q1;simpa using q1;simpa using q2;have hn':=List.nodup_cons.1 hn;have hofl:=hels0.flen hE;by_cases hroom:xs.length+1≤capv;have hbnd:xs.length*s+s≤curv.size:=by rw[r3,← Nat.succ_mul];exact Nat.mul_le_mul_right s hroom
 have hr:=run_append_room (P:=P) w t ty e i ht h1 gv xs.length capv curv hgv ⟨ga,0,none⟩ 1 capa cas.flatten hl1 hnews h1c hroom (by rw[h3,hfl];exact hbnd);rw[h3]at hr;have hgF:gv∉F0:=hn'.1;have hgG:gv∉G':=fun hm=>hST _ (hF gv (z0 ..)) (hG gv (z3 _ hm));refine⟨_,_,[gv],hr,⟨gv::(F0++G'),.inr ⟨ous++cas,gv,capv,_,F0++G',?_,by rw[z4,zd],setRow_heap w gv curv _ e _ hgv,by rw[z4,zd];exact hroom,r2,?_,?_,rfl⟩,?_,fun c hc=>?_⟩,⟨rfl,rfl,rfl,by simp,fun k _ hk=>setRow_other w gv k _ fun hh=>hk (by simp[hh])⟩,fun c hc=>by rw[A9 hc];exact hF gv (z0 ..)⟩;refine (hels0.append hels).stable hE fun c hc=>setRow_other w gv c _ fun hcg=>?_;subst hcg;rcases zi.1 hc with hc|hc;exact hgF hc;exact hgG hc;rw[← r3];simp only[List.size_toArray,z4,List.length_take,List.length_drop,Array.length_toList];omega;rw[z4,zd];simp only[List.flatten_append];rw[r4];have e1:(xs.length+1)*s=(ous.flatten++cas.flatten).length:=by rw[z4,hofl,hfl,Nat.add_mul,Nat.one_mul]
 rw[e1];exact List.take_left;rw[List.nodup_cons,List.nodup_append];refine⟨fun hm=>?_,hn'.2,hnG'.2,?_⟩;rcases zi.1 hm with hm|hm;exact hgF hm;exact hgG hm;rintro x hx y hy rfl;exact hST _ (hF x<|z3 _ hx)<|hG x<|z3 _ hy;rcases ze.1 hc with rfl|hc;exact .inl<|hF c (z0 ..);rcases zi.1 hc with hc|hc;exact .inl<|hF c<|z3 _ hc;exact .inr<|.inl<|hG c<|z3 _ hc;have holds:∀j u,ous.flatten[j]? = some u→w.cell? ((⟨gv,0,none⟩:Addr).add j)=some u:=by
  intro j u hj;have e1:(⟨gv,0,none⟩:Addr).add j=⟨gv,j,none⟩:=by
   unfold Addr.add;split;rename_i hh;subst hh;rfl;simp
  rw[e1,BQ];simp only[C1,hgv];rw[← r4,List.getElem?_take]at hj;split at hj;simpa using hj;cases hj
 have hr:=run_append_grow (P:=P) w t ty e i z ht h1 h2 ⟨gv,0,none⟩ xs.length capv ous.flatten (by rw[h3,hofl]) holds ⟨ga,0,none⟩ 1 capa cas.flatten hl1 hnews zO zO<|growslice_fits zO hbytes;have hge:=grownCap_ge w (xs.length+1) capv e;have hgm:=grownCap_le_maxLen w (xs.length+1) capv e hmx;obtain⟨q1,q2⟩:=made w.drew ous F0 (grownCap w (xs.length+1) capv e-(xs.length+1)) rfl rfl rfl rfl hels0 (fun c hc=>z3 _ hc) hn'.2 zO;refine⟨_,_,[],hr,?_,q2,fun c hc=>by cases hc⟩;have ea:(xs.length+1+(grownCap w (xs.length+1) capv e-(xs.length+1)))=grownCap w (xs.length+1) capv e:=by omega
 rw[ea]at q1;exact q1
end run
section ops
variable {P:Program} {ops:Array Oper} {w0:World} {Q:Act→World→Prop} {os:List Oper} {ks:List Nat} {N:Nat} {ρ:Nat→Value} {w:World}
 {d:Nat} {ty:TypeId} {pos:String} {aft:Array Edge} {g:Option (Nat×Bool)} {t e:TypeId} {z:Value} {b s:Nat} {α:Type} {E:BM α}
theorem Mv (hE:Cc s E){x:Operand}{cs:List Value}{y:α}{B U:Nat}(ht:P.underlying t=some (.slice e))(hi:TI P e s z b)(hz:z.cells.size=s)(hs:0<s∧s≤1000)(hx:Bv N ρ x=.agg cs.toArray)(hy:kX E B U w.heap cs y)(hB:B≤w.heap.size)
  (hu:Up ops N ρ ⟨some d,.buildSlice t 1 #[(0,x)],ty,pos,aft,g⟩)
  (h:∀v w1,AA w w1→w1.heap.size=w.heap.size+1→Fr (DE s E e) B w1.heap.size w1.heap v [y]→LW P ops w0 Q os ks (mk N (CI ρ d v)) w1) :
  LW P ops w0 Q (⟨some d,.buildSlice t 1 #[(0,x)],ty,pos,aft,g⟩::os) (3::ks) (mk N ρ) w:=by
 obtain⟨F,h1,h2,h3⟩:=hy;have hl:=hE.len h1;have hr:=Ye (P:=P) (w:=w) ht hi hs.1 hs.2 hz hl;have hrun:(execOp (Bv N ρ) ⟨some d,.buildSlice t 1 #[(0,x)],ty,pos,aft,g⟩).run P w=.ok (.value (.slice (some ⟨w.heap.size,0,none⟩) 1 1)) (w.alloc (.cells cs.toArray e)):=by
  simp only[execOp,zc,zf,zh,Sem.run_bind,hx,hr,Result.andThen_ok,Sem.run_pure]
 refine J1 rfl hu _ _ hrun (BG _ _)<|h _ _ (BG _ _) (by simp) ?_;have hn:=SF (e:=e) (w:=w) hE (css:=[cs]) (xs:=[y]) (F:=F++[]) (cur:=cs.toArray) (cap:=1) ⟨F,[],rfl,h1,rfl⟩ (by simp) (by simp[maxLen]) (by simp[hl]) (by simp[← hl]);refine⟨_,hn,?_,fun c hc=>?_⟩;rw[List.append_nil,List.nodup_cons];exact⟨fun hm=>by have:=hE.lt h1 _ hm;omega,h2⟩;have hlt:=(AE hE).lt hn c hc;refine⟨?_,hlt⟩;rcases ze.1 hc with rfl|hc;exact hB;exact (h3 c (by simpa using hc)).1
end ops
end
theorem kY {p:Prop}(h:p):RowKit.Hid p:=h
def md (x:Int):Int:=x % 1000003
theorem Co (x:Int):0≤md x:=Int.emod_nonneg x (by decide)
theorem G3 (x:Int):md x<1000003:=Int.emod_lt_of_pos x (by decide)
theorem EN (x:Int):-9223372036854775808≤md x∧md x≤9223372036854775807:=by have:=Co x;have:=G3 x;omega
theorem SG {x:Int}(h:0≤x)(h':x<1000003):md x=x:=Int.emod_eq_of_lt h h'
theorem Qq (x:Int):md (md x)=md x:=SG (Co x) (G3 x)
theorem RE (a b:Int):md (md a+md b)=md (a+b):=by unfold md;rw[← Int.add_emod]
theorem Jt (a b:Int):md (md a*md b)=md (a*b):=by unfold md;rw[← Int.mul_emod]
theorem V2 (a b:Int):md (md a-md b)=md (a-b):=by unfold md;rw[← Int.sub_emod]
theorem SH (a b:Int):md (a+md b)=md (a+b):=by rw[← RE,Qq,RE]
theorem P6 (a b:Int):md (a-md b)=md (a-b):=by rw[← V2,Qq,V2]
theorem Yf (a:Int):md (a+1000003)=md a:=by unfold md;omega
theorem RH (a:Int):md (-(md a))=md (-a):=by have:=P6 0 a;simpa using this
theorem M4 {a b:Int}(ha:0≤a)(ha':a<1000003)(hb:0≤b)(hb':b<1000003):0≤a*b∧a*b≤1000004000004:=by refine⟨Int.mul_nonneg ha hb,?_⟩;have h1:a*b≤1000002*b:=Int.mul_le_mul_of_nonneg_right zO hb;have h2:1000002*b≤1000002*1000002:=Int.mul_le_mul_of_nonneg_left zO (by decide);omega
theorem tm (x:Int):x.tmod 1000003=if 0≤x then md x else -(md (-x)):=by unfold md;split;rename_i h;exact Int.tmod_eq_emod_of_nonneg h;rename_i h;have:=Int.tmod_eq_emod_of_nonneg (a:=-x) (b:=1000003) zO;rw[Int.neg_tmod]at this;omega
theorem Gs {x:Int}(h:-9223372036854775808≤x)(h':x≤9223372036854775807):wr x=x:=Cy h h'
theorem cD (n:Int):(wr (n.tmod 1000003+((1000003:Nat):Int))).tmod 1000003=md n:=by have h1:=Co n;have h2:=G3 n;have h3:=Co (-n);have h4:=G3 (-n);rw[tm n];split;rw[Gs zO zO,tm,if_pos (by omega)];have:=Yf (md n);rw[Qq]at this;simpa using this;rw[Gs zO zO,tm,if_pos (by omega)];have e1:md (-(md (-n))+((1000003:Nat):Int))=md (-(md (-n))):=Yf _;rw[e1,RH];simp
theorem SI (a b:Int):(wr (md a+md b)).tmod 1000003=md (a+b):=by have h1:=Co a;have h2:=G3 a;have h3:=Co b;have h4:=G3 b;rw[Gs zO zO,tm,if_pos zO,RE]
theorem Qr (a b:Int):(wr (md a*md b)).tmod 1000003=md (a*b):=by have:=M4 (Co a) (G3 a) (Co b) (G3 b);rw[Gs zO zO,tm,if_pos zO,Jt]
theorem V3 (a b:Int):md (a+wr (((1000003:Nat):Int)-md b))=md (a-b):=by have h3:=Co b;have h4:=G3 b;rw[Gs zO zO,show a+(((1000003:Nat):Int)-md b)=(a-md b)+1000003 from by omega,Yf,P6]
theorem RJ (a:Int)(k:Nat):md ((md a) ^ k)=md (a ^ k):=by
 induction k with
 |zero=>rw[Int.pow_zero,Int.pow_zero]
 |succ k ih=>rw[Int.pow_succ,Int.pow_succ,← Jt,ih,Qq,Jt]
def pw (a n:Int):Int:=if n<0 then 0 else md (a ^ n.toNat)
theorem cG (a n:Int):-9223372036854775808≤pw a n∧pw a n≤9223372036854775807:=by unfold pw;split;omega;exact EN _
theorem cH (a n:Int):0≤pw a n∧pw a n<1000003:=by unfold pw;split;omega;exact⟨Co _,G3 _⟩
def inv (a:Int):Int:=pw a ((1000001:Nat):Int)
theorem P7 (a:Int):-9223372036854775808≤inv a∧inv a≤9223372036854775807:=cG _ _
theorem Yg (a:Int):0≤inv a∧inv a<1000003:=cH _ _
theorem Qs (a:Int)(k:Nat):md (((1:Nat):Int)*(md a) ^ k)=md (a ^ k):=by rw[show((1:Nat):Int)*(md a) ^ k=(md a) ^ k from Int.one_mul _,RJ]
theorem cI {x b m R:Int}(h:md (x*b ^ m.toNat)=R)(h0:0<m)(h1:m % 2=1):md (md (x*b)*(md (b*b)) ^ (m / 2).toNat)=R:=by
 rw[← h,← Jt,Qq,RJ,Jt];congr 1;have e:m.toNat=2*(m / 2).toNat+1:=by omega
 rw[e,Int.pow_succ,Int.pow_mul,show b ^ 2=b*b from by rw[Int.pow_succ,Int.pow_succ,Int.pow_zero,Int.one_mul]];rw[Int.mul_comm ((b*b) ^ (m / 2).toNat) b,Int.mul_assoc]
theorem Yh {x b m R:Int}(h:md (x*b ^ m.toNat)=R)(h0:0<m)(h1:¬m % 2=1):md (x*(md (b*b)) ^ (m / 2).toNat)=R:=by
 rw[← h,← Jt,RJ,Jt];congr 1;have e:m.toNat=2*(m / 2).toNat:=by omega
 rw[e,Int.pow_mul,show b ^ 2=b*b from by rw[Int.pow_succ,Int.pow_succ,Int.pow_zero,Int.one_mul]]
theorem V4 {x b m a n:Int}(h:md (x*b ^ m.toNat)=md (a ^ n.toNat))(h0:0≤m)(h1:¬((0:Nat):Int)<m)(hn:¬n<((0:Nat):Int))(hx:0≤x∧x<1000003):x=pw a n:=by
 have e:m=0:=by omega
 subst e;unfold pw;rw[if_neg zO,← h];simp only[Int.toNat_zero,Int.pow_zero,Int.mul_one];rw[SG hx.1 hx.2]
theorem V5 {a n:Int}(h:n<((0:Nat):Int)):((0:Nat):Int)=pw a n:=by unfold pw;rw[if_pos (by omega)];rfl
theorem nF {m:Int}(h:0≤m):m.tmod ((2:Nat):Int)=m % 2:=Int.tmod_eq_emod_of_nonneg h
theorem kQ {m:Int}(h:0≤m)(h':m≤9223372036854775807):IntKind.i64.wrap (m.tdiv ((2:Nat):Int))=m / 2:=by rw[Int.tdiv_eq_ediv_of_nonneg h];exact Gs (x:=m / 2) zO zO
theorem Qt {x b:Int}(hx:0≤x∧x<1000003)(hb:0≤b∧b<1000003):(wr (x*b)).tmod ((1000003:Nat):Int)=md (x*b):=by have:=M4 hx.1 hx.2 hb.1 hb.2;rw[Gs zO (by omega)];have:=tm (x*b);rw[if_pos (by omega)]at this;exact this
theorem CK (x:Int):0≤md x∧md x<1000003:=⟨Co x,G3 x⟩
def J2 (n:Int):Bool:=decide (0≤n) && decide (n≤1000002)
theorem Di {n:Int}:J2 n=true↔0≤n∧n<1000003:=by unfold J2;simp only[z7,decide_eq_true_eq];omega
def Bi (l:List Int):Bool:=l.all J2
theorem V6 (f:Int→Bool)(l:List Int):(l.take 0).all f=true:=rfl
theorem Qu {α:Type}{f:α→Bool}{l:List α}{k:Nat}(d:α)(h:(l.take k).all f=true)(hk:k<l.length)(hf:f (l.getD k d)=true):(l.take (k+1)).all f=true:=by
 rw[List.take_succ_eq_append_getElem hk,List.all_append,h];have e:l.getD k d=l[k]:=by simp[hk]
 rw[e]at hf;simp[hf]
theorem Qv {α:Type}{f:α→Bool}{l:List α}{k:Nat}(d:α)(hk:k<l.length)(hf:f (l.getD k d)=false):l.all f=false:=by
 have e:l.getD k d=l[k]:=by simp[hk]
 rw[e]at hf;rw[List.all_eq_false];exact⟨l[k],List.getElem_mem hk,by simp[hf]⟩
theorem Qw {α:Type}{f:α→Bool}{l:List α}{k:Nat}(h:(l.take k).all f=true)(hk:l.length≤k):l.all f=true:=by rwa [za hk]at h
theorem Cd {l:List Int}(h:Bi l=true)(k:Nat):0≤l.getD k 0∧l.getD k 0<1000003:=by
 by_cases hk:k<l.length;have e:l.getD k 0=l[k]:=by simp[hk]
 rw[e];exact Di.1<|zm.1 h _<|List.getElem_mem hk;have e:l.getD k 0=0:=by simp[Nat.not_lt.1 hk]
 rw[e];omega
theorem Cw {α:Type}{l:List α}{k:Nat}(d:α)(h:k<l.length):l.take (k+1)=l.take k++[l.getD k d]:=by rw[List.take_succ_eq_append_getElem h];simp[h]
def M5 {α:Type}(n:Nat)(f:Nat→α):List α:=(List.range n).map f
@[simp] theorem EX {α:Type}(n:Nat)(f:Nat→α):(M5 n f).length=n:=by simp[M5]
theorem DO {α:Type}{n:Nat}{f:Nat→α}{k:Nat}(d:α)(h:k<n):(M5 n f).getD k d=f k:=by simp[M5,h]
theorem Qy {α:Type}(n:Nat)(f:Nat→α):M5 (n+1) f=M5 n f++[f n]:=by simp[M5,List.range_succ]
theorem Yi {α:Type}{n:Nat}{f g:Nat→α}(h:∀k,k<n→f k=g k):M5 n f=M5 n g:=by unfold M5;exact List.map_congr_left fun k hk=>h k<|List.mem_range.1 hk
def Ho {α:Type}(k:Nat)(t z:List α):List α:=t.take k++z.drop k
theorem G4 {α:Type}(t z:List α):Ho 0 t z=z:=by simp[Ho]
theorem IP {α:Type}{k:Nat}{t z:List α}(h:t.length=z.length)(hk:z.length≤k):Ho k t z=t:=by simp[Ho,za (show t.length≤k by omega),List.drop_of_length_le hk]
@[simp] theorem Hp {α:Type}(k:Nat)(t z:List α)(h:t.length=z.length):(Ho k t z).length=z.length:=by simp[Ho];omega
theorem P8 {α:Type}{k:Nat}{t z:List α}(d:α)(h:t.length=z.length)(hk:k<z.length):(Ho k t z).set k (t.getD k d)=Ho (k+1) t z:=by
 unfold Ho;have hl:(t.take k).length=k:=by simp;omega
 rw[Cw d zO,List.set_append_right _ _ zO,hl,Nat.sub_self,List.append_assoc];congr 1;rw[List.drop_eq_getElem_cons hk];rfl
theorem cJ {α:Type}{k j:Nat}{t z:List α}(d:α)(h:t.length=z.length)(hkj:k≤j)(hj:j<z.length):(Ho k t z).getD j d=z.getD j d:=by
 unfold Ho;have hl:(t.take k).length=k:=by simp;omega
 rw[List.getD_eq_getElem?_getD,List.getElem?_append_right zO,hl,List.getElem?_drop,List.getD_eq_getElem?_getD];congr 2;omega
theorem cK {α:Type}{k j:Nat}{t z:List α}(d:α)(hkj:j<k)(hj:j<t.length):(Ho k t z).getD j d=t.getD j d:=by unfold Ho;rw[List.getD_eq_getElem?_getD,List.getElem?_append_left (by simp;omega),List.getElem?_take,if_pos hkj,List.getD_eq_getElem?_getD]
theorem Kf {α:Type}{n k:Nat}{f:Nat→α}{z:List α}(hz:z.length=n)(hk:k<n):Ho (k+1) (M5 n f) z=(Ho k (M5 n f) z).set k (f k):=by rw[← P8 (f k) (by simp[hz]) zO,DO _ hk]
theorem SJ (l:List Int):(!l.any fun x=>!J2 x)=Bi l:=by unfold Bi;rw[← List.all_eq_not_any_not]
theorem G5 {α:Type}(l:List α)(i j:Nat)(x d:α)(hi:i<l.length):(l.set i x).getD j d=if j=i then x else l.getD j d:=by rw[List.getD_eq_getElem?_getD,List.getElem?_set];by_cases h:i=j;subst h;simp[hi];simp[h,Ne.symm h]
def nP (a b:List Int)(y:Int):List Int:=M5 a.length fun k=>md (a.getD k 0-md (y*b.getD k 0))
theorem M6 {n:Nat}{f:Nat→Int}(h:∀k,k<n→0≤f k∧f k<1000003):Bi (M5 n f)=true:=by
 unfold Bi M5;rw[zm]
 intro x hx;obtain⟨k,hk,rfl⟩:=List.mem_map.1 hx;exact Di.2<|h k<|List.mem_range.1 hk
def nQ (c:Nat)(rc:List Int)(iv:Int):Nat→List (List Int)→List (List Int):=it fun j M=>M.set (c+1+j) (nP (M.getD (c+1+j) []) rc (md ((M.getD (c+1+j) []).getD c 0*iv)))
theorem NS {α:Type}(l:List α){r:Nat}(d:α)(h:r<l.length):l.set r (l.getD r d)=l:=by
 have:l.getD r d=l[r]:=by simp[h]
 rw[this,List.set_getElem_self]
theorem V7 {α:Type}{a b:List α}{d:α}{k:Nat}(h:∀j,j<k→a.getD j d=b.getD j d)(hk:a.getD k d=b.getD k d):∀j,j<k+1→a.getD j d=b.getD j d:=by intro j hj;by_cases e:j=k;subst e;exact hk;exact h j zO
theorem Mw {α:Type}{a b:List α}{d:α}{k:Nat}(h:∀j,j<k→a.getD j d=b.getD j d)(hl:a.length=b.length)(hk:a.length≤k):a=b:=by
 apply List.ext_getElem hl
 intro i h1 h2;have:=h i zO;simpa [h1,h2]using this
theorem V8 {α:Type}{a b:List α}{d:α}{k:Nat}(h:a.getD k d≠b.getD k d):a≠b:=fun e=>h (by rw[e])
theorem Yj {α:Type}{a b:List α}(h:a.length≠b.length):a≠b:=fun e=>h (by rw[e])
def GB (x a b:Int):Bool:=decide (a≤x) && decide (x≤b)
def FC (e:Ex):Bool:=decide (e.pick=0) && decide (e.count=0)
def KR (p:List Fn)(funcs vars:Int)(e:Ex):Bool :=
 if e.kind=1 then FC e && (decide (e.kids.length=0) && J2 e.num)
 else if e.kind=2 then FC e && (decide (e.kids.length=0) && GB e.num 0 (vars-1))
 else if e.kind=3∨e.kind=4∨e.kind=5∨e.kind=6∨e.kind=9 then FC e && (decide (e.num=0) && decide (e.kids.length=2))
 else if e.kind=7 then FC e && (decide (e.num=0) && decide (e.kids.length=1))
 else if e.kind=8 then FC e && (decide (e.num=0) && decide (e.kids.length=3))
 else if e.kind=10∨e.kind=11 then
  GB e.num 0 (funcs-1) && (decide ((e.kids.length:Int)=(p.getD e.num.toNat Fn.zero).params) && (GB e.pick 0 (((p.getD e.num.toNat Fn.zero).outs.length:Int)-1) &&
   (if e.kind=10 then decide (e.count=0)else decide (((p.getD e.num.toNat Fn.zero).outs.length:Int)=(p.getD e.num.toNat Fn.zero).params) && GB e.count 0 8)))
 else false
mutual
def wf (p:List Fn)(funcs:Int):Ex→Int→Bool
 |.mk k n q c l,vars=>KR p funcs vars (.mk k n q c l) && Zp p funcs (decide (k=9)) 0 l vars
def Zp (p:List Fn)(funcs:Int)(b:Bool):Nat→List Ex→Int→Bool
 |_,[],_=>true
 |i,e::l,vars=>wf p funcs e (if b=true∧i=1 then vars+1 else vars) && Zp p funcs b (i+1) l vars
end
theorem Ou (p:List Fn)(funcs:Int)(e:Ex)(vars:Int):wf p funcs e vars=(KR p funcs vars e && Zp p funcs (decide (e.kind=9)) 0 e.kids vars):=by cases e;rw[wf];rfl
theorem M7 (p:List Fn)(funcs:Int)(b:Bool)(vars:Int):∀(l:List Ex)(i:Nat),Zp p funcs b i l vars=true↔∀j,j<l.length→wf p funcs (l.getD j Ex.zero) (if b=true∧i+j=1 then vars+1 else vars)=true
 |[],i=>by rw[Zp];simp
 |e::l,i=>by
  rw[Zp,z7,M7 p funcs b vars l (i+1)]
  constructor
  rintro⟨h1,h2⟩ j hj
  cases j with
  |zero=>simpa using h1
  |succ j =>
   have:=h2 j (by simpa using hj)
   rw[show i+1+j=i+(j+1)from by omega]at this
   simpa using this
  intro h
  refine⟨by simpa using h 0 (by simp),fun j hj=>?_⟩
  have:=h (j+1) (by simpa using hj)
  rw[show i+(j+1)=i+1+j from by omega]at this
  simpa using this
theorem Yk {p:List Fn}{funcs vars:Int}{e:Ex}(h:e.kids.length=0):wf p funcs e vars=KR p funcs vars e:=by rw[Ou];have:e.kids=[]:=List.eq_nil_of_length_eq_zero h;rw[this,Zp,Bool.and_true]
theorem V9 {p:List Fn}{funcs vars:Int}{e:Ex}(h:KR p funcs vars e=false):false=wf p funcs e vars:=by rw[Ou,h];rfl
theorem Va {p:List Fn}{funcs vars own:Int}{e:Ex}{k:Nat}(hk:k<e.kids.length)(ho:own=if e.kind=9∧k=1 then vars+1 else vars)(h:wf p funcs (e.kids.getD k Ex.zero) own=false):false=wf p funcs e vars:=by
 rw[Ou];cases hw:Zp p funcs (decide (e.kind=9)) 0 e.kids vars with
 |false=>rw[Bool.and_false]
 |true =>
  have:=(M7 p funcs _ vars e.kids 0).1 hw k hk;rw[Nat.zero_add]at this;simp only[decide_eq_true_eq]at this;rw[← ho,h]at this;cases this
theorem SK {p:List Fn}{funcs vars:Int}{e:Ex}(hn:KR p funcs vars e=true)(h:∀j,j<e.kids.length→wf p funcs (e.kids.getD j Ex.zero) (if e.kind=9∧j=1 then vars+1 else vars)=true):true=wf p funcs e vars:=by rw[Ou,hn,Bool.true_and];refine ((M7 p funcs _ vars e.kids 0).2 fun j hj=>?_).symm;rw[Nat.zero_add];simp only[decide_eq_true_eq];exact h j hj
theorem D4 {l:List Ex}{k:Nat}(hk:k<l.length):(l.getD k Ex.zero).deep≤Ex.deeps l:=by
 have h1:=Hm hk;have h2:∀(l:List Ex) (k:Nat),Ex.deeps (l.take k)≤Ex.deeps l:=by
  intro l
  induction l with
  |nil=>intro k;simp
  |cons e l ih =>
   intro k;cases k with
   |zero=>rw[List.take_zero,Ex.deeps];omega
   |succ k=>rw[List.take_succ_cons,Ex.deeps,Ex.deeps];have:=ih k;omega
 have h3:=h2 l (k+1);omega
theorem I6 {α β:Type}{f:α→β}{l:List α}{k:Nat}(d:α)(h:k<l.length):(l.take (k+1)).map f=(l.take k).map f++[f (l.getD k d)]:=by rw[Cw d h,List.map_append];rfl
theorem cL {s x y:Int}(hs:0≤s∧s<1000003)(hx:0≤x∧x<1000003)(hy:0≤y∧y<1000003):(wr (s+wr (x*y))).tmod ((1000003:Nat):Int)=md (s+x*y):=by have h:=M4 hx.1 hx.2 hy.1 hy.2;rw[Gs (x:=x*y) zO zO,Gs zO (by omega)];exact Int.tmod_eq_emod_of_nonneg zO
def cM (a:List Int)(y:Int):List Int:=a.map fun x=>md (x*y)
@[simp] theorem Yl (a:List Int)(y:Int):(cM a y).length=a.length:=by simp[cM]
def up (n:Nat)(k:Int):List Int:=M5 n fun i=>k+(i:Int)
@[simp] theorem I7 (n:Nat)(k:Int):(up n k).length=n:=by simp[up]
theorem Vb {n i:Nat}{k:Int}(h:i<n):(up n k).getD i 0=k+(i:Int):=DO 0 h
section
theorem Ym {α:Type}{l l':List α}{k:Nat}{d:α}(h:k<l.length):(l++l').getD k d=l.getD k d:=by rw[List.getD_eq_getElem?_getD,List.getElem?_append_left h,List.getD_eq_getElem?_getD]
theorem Vc {α:Type}{l l':List α}{k:Nat}{d:α}(h:l.length≤k):(l++l').getD k d=l'.getD (k-l.length) d:=by rw[List.getD_eq_getElem?_getD,List.getElem?_append_right h,List.getD_eq_getElem?_getD]
structure Ar (α:Type) where
 q:α→α→α
 t:α→α→α→α
 z:α→Bool
 d:α
section hom
variable {α β:Type} {R:Ar α} {S:Ar β} {V:α→Prop} {h:α→β} {n m c p:Nat} {M:List (List α)}
theorem E1 {row:List α}{k:Nat}{d:α}{d':β}(hk:k<row.length):(row.map h).getD k d'=h (row.getD k d):=by simp[hk]
end hom
def Nm (x:Int):Prop:=0≤x∧x<1000003
end
def U5 (a b:List Int)(k:Nat):Nat→Int
 |0=>0
 |i+1=>md (U5 a b k i+a.getD i 0*b.getD (k-i) 0)
theorem SL (a b:List Int)(k:Nat):∀i,0≤U5 a b k i∧U5 a b k i<1000003
 |0=>by unfold U5;omega
 |i+1=>CK _
def CL (a b:List Int):List Int:=M5 a.length fun k=>U5 a b k (k+1)
@[simp] theorem G6 (a b:List Int):(CL a b).length=a.length:=by simp[CL]
theorem I8 (a b:List Int):Bi (CL a b)=true:=M6 fun _ _=>SL _ _ _ _
def Vd (a b o:List Int)(k:Nat):Nat→Int
 |0=>a.getD k 0
 |i+1=>md (Vd a b o k i-o.getD i 0*b.getD (k-i) 0)
def Mx (a b:List Int):Nat→List Int
 |0=>[]
 |k+1=>Mx a b k++[md (Vd a b (Mx a b k) k k*inv (b.getD 0 0))]
def CD (a b:List Int):List Int:=Mx a b a.length
@[simp] theorem FP (a b:List Int):∀k,(Mx a b k).length=k
 |0=>rfl
 |k+1=>by simp[Mx,FP a b k]
@[simp] theorem E2 (a b:List Int):(CD a b).length=a.length:=FP _ _ _
theorem SM (a b:List Int):∀k,Bi (Mx a b k)=true
 |0=>rfl
 |k+1=>by
  unfold Mx Bi
  rw[List.all_append]
  have h:=SM a b k
  unfold Bi at h
  simp only[h,List.all_cons,List.all_nil,Bool.and_true,Bool.true_and]
  exact Di.2<|CK _
theorem H2 (a b:List Int):Bi (CD a b)=true:=SM _ _ _
theorem SN (a b:List Int){i:Nat}:∀k m,i<k→k≤m→(Mx a b m).getD i 0=(Mx a b k).getD i 0
 |k,m,h,hm=>by
  induction m with
  |zero=>omega
  |succ m ih =>
   by_cases e:k=m+1
   subst e;rfl
   show(Mx a b m++_).getD i 0=_
   rw[Ym (by rw[FP];omega)]
   exact ih zO
theorem Ov {a b o o':List Int}{k:Nat}:∀i,(∀j,j<i→o.getD j 0=o'.getD j 0)→Vd a b o k i=Vd a b o' k i
 |0,_=>rfl
 |i+1,h=>by unfold Vd;rw[Ov i fun j hj=>h j zO,h i (by omega)]
theorem SP {a b:List Int}{k:Nat}(hk:k<a.length):(CD a b).getD k 0=md (Vd a b (CD a b) k k*inv (b.getD 0 0)):=by unfold CD;rw[SN a b (k+1) a.length zO (by omega)];show(Mx a b k++[_]).getD k 0=_;rw[Vc (by simp),FP,Nat.sub_self];show md _=_;rw[Ov (o:=Mx a b k) (o':=Mx a b a.length) k fun j hj=>(SN a b k a.length hj zO).symm]
theorem Yn {a b:List Int}{k:Nat}(hk:k<a.length){z:List Int}(hz:z.length=a.length) :
  (Ho k (CD a b) z).set k (md (Vd a b (CD a b) k k*inv (b.getD 0 0)))=Ho (k+1) (CD a b) z:=by
 rw[← SP hk,P8 0 (by simp[hz]) (by omega)]
def CW (a b:List Int):List Int:=M5 a.length fun k=>md (a.getD k 0+b.getD k 0)
def DF (a:List Int)(n:Int):List Int:=M5 a.length fun k=>md (a.getD k 0*n)
def Hq (a b:List Int):List Int:=M5 a.length fun k=>md (a.getD k 0-b.getD k 0)
@[simp] theorem H3 (a b:List Int):(CW a b).length=a.length:=by simp[CW]
@[simp] theorem I9 (a:List Int)(n:Int):(DF a n).length=a.length:=by simp[DF]
@[simp] theorem Ia (a b:List Int):(Hq a b).length=a.length:=by simp[Hq]
theorem My (a b:List Int):Bi (CW a b)=true:=M6 fun _ _=>CK _
theorem H4 (a:List Int)(n:Int):Bi (DF a n)=true:=M6 fun _ _=>CK _
theorem Mz (a b:List Int):Bi (Hq a b)=true:=M6 fun _ _=>CK _
theorem RK {a b:List Int}(h:a.length≤b.length):CW a (DF b 1000002)=Hq a b:=by unfold CW Hq;refine Yi fun k hk=>?_;unfold DF;rw[DO _ zO,SH];unfold md;omega
theorem Yo {x y:Int}(hx:0≤x∧x<1000003)(hy:0≤y∧y<1000003):(wr (x+y)).tmod ((1000003:Nat):Int)=md (x+y):=by rw[Gs zO (by omega)];exact Int.tmod_eq_emod_of_nonneg zO
theorem Ve {n k:Nat}{T:List Int}(hT:T.length=n)(hk:k<n):(Ho k T (List.replicate n 0)).set k 0=Ho k T (List.replicate n 0):=by
 have h1:(Ho k T (List.replicate n 0)).length=n:=by rw[Hp _ _ _ (by simp[hT])];simp
 have h2:(Ho k T (List.replicate n 0)).getD k 0=0:=by rw[cJ 0 (by simp[hT]) (A7 _) (by simpa using hk)];simp[hk]
 have h3:=NS (Ho k T<|List.replicate n 0) (r:=k) 0 zO;rw[h2]at h3;exact h3
theorem Vf {a b q:List Int}{k i:Nat}(hq:Bi q=true)(hb:Bi b=true):md (Vd a b q k i-wr (q.getD i 0*b.getD (k-i) 0))=Vd a b q k (i+1):=by have h1:=Cd hq i;have h2:=Cd hb (k-i);have h:=M4 h1.1 h1.2 h2.1 h2.2;rw[Gs zO (by omega)];rfl
def Dn (N:Nat)(s:List Int):Prop:=s.length=N∧Bi s=true
def Cu (b:List Int):List (List Int):=b.map fun x=>[x]
theorem Fp (b:List Int):(Cu b).length=b.length:=by simp[Cu]
theorem Vg (b:List Int){k:Nat}(hk:k<b.length):(Cu b).getD k []=[b.getD k 0]:=by unfold Cu;rw[E1 (d:=0) hk]
theorem HO {α:Type}{l:List α}{j:Nat}{d:α}(h:j<l.length):l.getD j d=l[j]:=by simp[h]
abbrev Sr:=List Int
def IQ (n:Nat)(x:Int):Sr:=(List.replicate n 0).set 0 x
inductive Rs (α:Type) where
 |ok (x:α) (s:Nat)
 |err (c:Int)
structure Ca where
 one:Nat→Nat→List Sr→Nat→Rs Sr
 all:Nat→List Sr→Nat→Rs (List Sr)
def Rs.bind {α β:Type}(r:Rs α)(f:α→Nat→Rs β):Rs β:=match r with
 |.ok x s=>f x s
 |.err c=>.err c
theorem Rs.bind_ok {α β:Type}(x:α)(s:Nat)(f:α→Nat→Rs β):(Rs.ok x s).bind f=f x s:=rfl
theorem Rs.bind_err {α β:Type}(c:Int)(f:α→Nat→Rs β):(Rs.err c:Rs α).bind f=.err c:=rfl
theorem Rs.bind_assoc {α β γ:Type}(r:Rs α)(f:α→Nat→Rs β)(h:β→Nat→Rs γ):(r.bind f).bind h=r.bind fun x s=>(f x s).bind h:=by cases r <;> rfl
def Lx (f:List Sr→Nat→Rs (List Sr)):Nat→List Sr→Nat→Rs (List Sr)
 |0,a,s=>.ok a s
 |k+1,a,s=>(Lx f k a s).bind f
def PY (k:Int)(xs:List Sr)(t:Nat):Rs Sr :=
 if k=3 then .ok (CW (xs.getD 0 []) (xs.getD 1 [])) t
 else if k=4 then .ok (Hq (xs.getD 0 []) (xs.getD 1 [])) t
 else if k=5 then .ok (CL (xs.getD 0 []) (xs.getD 1 [])) t
 else if k=7 then .ok (DF (xs.getD 0 []) 1000002) t
 else if (xs.getD 1 []).getD 0 0=0 then .err 6 else .ok (CD (xs.getD 0 []) (xs.getD 1 [])) t
mutual
def Dj (n:Nat)(C:Ca):Ex→List Sr→Nat→Rs Sr
 |.mk k num pick cnt l,env,s =>
  if 3000≤s then .err 7
  else if k=1 then .ok (IQ n num) (s+1)
  else if k=2 then .ok (env.getD num.toNat []) (s+1)
  else if k=8 then(PZ n C l 0 env (s+1)).bind fun x t=>if x.getD 0 0=0 then PZ n C l 1 env t else PZ n C l 2 env t
  else if k=9 then(PZ n C l 0 env (s+1)).bind fun x t=>PZ n C l 1 (env++[x]) t
  else(Eo n C l env (s+1)).bind fun xs t =>
   if k=10 then C.one num.toNat pick.toNat xs t
   else if k=11 then(Lx (C.all num.toNat) cnt.toNat xs t).bind fun ys u=>.ok (ys.getD pick.toNat []) u
   else PY k xs t
def PZ (n:Nat)(C:Ca):List Ex→Nat→List Sr→Nat→Rs Sr
 |[],_,_,_=>.err 0
 |e::_,0,env,s=>Dj n C e env s
 |_::l,j+1,env,s=>PZ n C l j env s
def Eo (n:Nat)(C:Ca):List Ex→List Sr→Nat→Rs (List Sr)
 |[],_,s=>.ok [] s
 |e::l,env,s=>(Dj n C e env s).bind fun x t=>(Eo n C l env t).bind fun xs u=>.ok (x::xs) u
end
theorem EO (n:Nat)(C:Ca)(env:List Sr)(s:Nat):∀(l:List Ex)(j:Nat),j<l.length→PZ n C l j env s=Dj n C (l.getD j Ex.zero) env s
 |[],j,h=>by simp at h
 |e::l,0,_=>by rw[PZ];rfl
 |e::l,j+1,h=>by rw[PZ,EO n C env s l j (by simpa using h)];simp
theorem Qz (n:Nat)(C:Ca)(env:List Sr)(e:Ex):∀(l:List Ex)(s:Nat),Eo n C (l++[e]) env s=(Eo n C l env s).bind fun xs t=>(Dj n C e env t).bind fun x u=>.ok (xs++[x]) u
 |[],s=>by
  rw[zl,Eo,Eo]
  simp only[Rs.bind_ok]
  cases Dj n C e env s <;> simp only[Rs.bind_ok,Rs.bind_err,Eo] <;> rfl
 |a::l,s=>by
  rw[List.cons_append,Eo,Eo]
  cases Dj n C a env s with
  |err c=>rfl
  |ok x t =>
   simp only[Rs.bind_ok]
   rw[Qz n C env e l t]
   simp only[Rs.bind_assoc]
   cases Eo n C l env t with
   |err c=>rfl
   |ok xs u =>
    simp only[Rs.bind_ok]
    cases Dj n C e env u <;> rfl
theorem Vh {n:Nat}{C:Ca}{env:List Sr}{s:Nat}{l:List Ex}{k:Nat}(hk:k<l.length):Eo n C (l.take (k+1)) env s=(Eo n C (l.take k) env s).bind fun xs t=>(Dj n C (l.getD k Ex.zero) env t).bind fun x u=>.ok (xs++[x]) u:=by rw[List.take_succ_eq_append_getElem hk,Qz];simp[hk]
theorem Hr (n:Nat)(C:Ca)(e:Ex)(env:List Sr)(s:Nat):Dj n C e env s =
  if 3000≤s then .err 7
  else if e.kind=1 then .ok (IQ n e.num) (s+1)
  else if e.kind=2 then .ok (env.getD e.num.toNat []) (s+1)
  else if e.kind=8 then(PZ n C e.kids 0 env (s+1)).bind fun x t=>if x.getD 0 0=0 then PZ n C e.kids 1 env t else PZ n C e.kids 2 env t
  else if e.kind=9 then(PZ n C e.kids 0 env (s+1)).bind fun x t=>PZ n C e.kids 1 (env++[x]) t
  else(Eo n C e.kids env (s+1)).bind fun xs t =>
   if e.kind=10 then C.one e.num.toNat e.pick.toNat xs t
   else if e.kind=11 then(Lx (C.all e.num.toNat) e.count.toNat xs t).bind fun ys u=>.ok (ys.getD e.pick.toNat []) u
   else PY e.kind xs t:=by cases e;rw[Dj];rfl
def FM (p:List Fn)(n:Nat):Nat→Ca
 |0=>⟨fun _ _ _ _=>.err 0,fun _ _ _=>.err 0⟩
 |k+1=>⟨fun f j a s=>if f=k then Dj n (FM p n k) ((p.getD k Fn.zero).outs.getD j Ex.zero) a s else(FM p n k).one f j a s,
   fun f a s=>if f=k then Eo n (FM p n k) (p.getD k Fn.zero).outs a s else(FM p n k).all f a s⟩
theorem P9 {p:List Fn}{n f j:Nat}{a:List Sr}{s:Nat}:∀ {F:Nat},f<F→(FM p n F).one f j a s=Dj n (FM p n f) ((p.getD f Fn.zero).outs.getD j Ex.zero) a s
 |0,h=>by omega
 |F+1,h=>by
  show(if f=F then _ else _)=_
  split
  rename_i e;rw[e]
  exact P9 zO
theorem IR {p:List Fn}{n f:Nat}{a:List Sr}{s:Nat}:∀ {F:Nat},f<F→(FM p n F).all f a s=Eo n (FM p n f) (p.getD f Fn.zero).outs a s
 |0,h=>by omega
 |F+1,h=>by
  show(if f=F then _ else _)=_
  split
  rename_i e;rw[e]
  exact IR zO
def ev (p:List Fn)(n f:Nat)(a:List Sr):Rs (List Sr):=Eo n (FM p n f) (p.getD f Fn.zero).outs a 0
def go {α:Type}(c:Int)(r:Rs α):Rs α:=if c=0 then r else .err c
theorem CX {α:Type}(r:Rs α):go 0 r=r:=rfl
theorem DJ {α:Type}{c:Int}(h:c≠0)(r:Rs α):go c r=.err c:=if_neg h
def Cp (n:Nat)(env:List Sr):Prop:=∀k,k<env.length→Dn n (env.getD k [])
def AQ {α:Type}(r:Rs α)(x:α)(s:Nat)(c:Int):Prop:=match r with
 |.ok y t=>x=y∧s=t∧c=0
 |.err d=>c=d∧d≠0
theorem AQ.ok {α:Type}{r:Rs α}{x:α}{s:Nat}(h:AQ r x s 0):r=.ok x s:=by
 cases r with
 |ok y t=>obtain⟨rfl,rfl,_⟩:=h;rfl
 |err d=>exact absurd h.1.symm h.2
theorem AQ.err {α:Type}{r:Rs α}{x:α}{s:Nat}{c:Int}(h:AQ r x s c)(hc:c≠0):r=.err c:=by
 cases r with
 |ok y t=>exact absurd h.2.2 hc
 |err d=>rw[h.1]
theorem AQ.mk_ok {α:Type}{r:Rs α}{x:α}{s:Nat}(h:r=.ok x s):AQ r x s 0:=by subst h;exact⟨rfl,rfl,rfl⟩
theorem AQ.mk_err {α:Type}{r:Rs α}{x:α}{s:Nat}{c:Int}(h:r=.err c)(hc:c≠0):AQ r x s c:=by subst h;exact⟨rfl,hc⟩
theorem AQ.bindE {α β:Type}{r:Rs α}{x:α}{s:Nat}{c:Int}(h:AQ r x s c)(hc:c≠0){f:α→Nat→Rs β}:r.bind f=.err c:=by rw[h.err hc];rfl
theorem AQ.bindO {α β:Type}{r:Rs α}{x:α}{s:Nat}(h:AQ r x s 0){f:α→Nat→Rs β}:r.bind f=f x s:=by rw[h.ok];rfl
theorem EY (n:Nat)(x:Int):(IQ n x).length=n:=by simp[IQ]
theorem MA (n:Nat):Bi (List.replicate n 0)=true:=by
 unfold Bi;rw[zm]
 intro y hy;rw[List.eq_of_mem_replicate hy];decide
theorem FQ {n:Nat}{x:Int}(h:J2 x=true):Dn n (IQ n x):=by
 refine⟨EY n x,?_⟩;unfold IQ Bi;rw[zm]
 intro y hy;rcases List.mem_or_eq_of_mem_set hy with hy|rfl;rw[List.eq_of_mem_replicate hy];decide;exact h
theorem Cp.snoc {n:Nat}{env:List Sr}{x:Sr}(h:Cp n env)(hx:Dn n x):Cp n (env++[x]):=by
 intro k hk;rw[z4,zd]at hk;by_cases e:k<env.length;rw[Mp e];exact h k e;have:k=env.length:=by omega
 rw[NL this];exact hx
section
structure GC (p:List Fn):Prop where
 par:∀k,k<p.length→0≤(p.getD k Fn.zero).params∧(p.getD k Fn.zero).params≤12
 outs:∀k,k<p.length→1≤(p.getD k Fn.zero).outs.length∧(p.getD k Fn.zero).outs.length≤12
 deep:∀k,k<p.length→∀j,j<(p.getD k Fn.zero).outs.length→((p.getD k Fn.zero).outs.getD j Ex.zero).deep≤60
 wf:∀k,k<p.length→∀j,j<(p.getD k Fn.zero).outs.length→wf p ((k:Nat):Int) ((p.getD k Fn.zero).outs.getD j Ex.zero) (p.getD k Fn.zero).params=true
theorem Cx {x a b:Int}:GB x a b=true↔a≤x∧x≤b:=by unfold GB;simp
theorem Dk {p:List Fn}{F vars:Int}{e:Ex}(h:KR p F vars e=true) :
  (e.kind=1∨e.kind=2∨e.kind=3∨e.kind=4∨e.kind=5∨e.kind=6∨e.kind=7∨e.kind=8∨e.kind=9∨e.kind=10∨e.kind=11) ∧
  (e.kind=2→0≤e.num∧e.num≤vars-1)∧(e.kind=3∨e.kind=4∨e.kind=5∨e.kind=6∨e.kind=9→e.kids.length=2)∧(e.kind=7→e.kids.length=1)∧(e.kind=8→e.kids.length=3) ∧
  (e.kind=10∨e.kind=11→0≤e.num∧e.num≤F-1∧(e.kids.length:Int)=(p.getD e.num.toNat Fn.zero).params∧0≤e.pick∧e.pick≤((p.getD e.num.toNat Fn.zero).outs.length:Int)-1) ∧
  (e.kind=11→((p.getD e.num.toNat Fn.zero).outs.length:Int)=(p.getD e.num.toNat Fn.zero).params∧0≤e.count∧e.count≤8)∧(e.kind=1→0≤e.num∧e.num<1000003):=by
 unfold KR at h;split at h;simp only[z7,decide_eq_true_eq,Di]at h;omega;split at h;simp only[z7,decide_eq_true_eq,Cx]at h;omega;split at h;simp only[z7,decide_eq_true_eq]at h;omega;split at h;simp only[z7,decide_eq_true_eq]at h;omega;split at h;simp only[z7,decide_eq_true_eq]at h;omega;split at h;simp only[z7,decide_eq_true_eq,Cx]at h;obtain⟨h1,h2,h3,h4⟩:=h;split at h4;simp only[decide_eq_true_eq]at h4;omega;simp only[z7,decide_eq_true_eq,Cx]at h4;omega;cases h
theorem D6 {p:List Fn}{F vars:Int}{e:Ex}(h:wf p F e vars=true):KR p F vars e=true:=by rw[Ou,z7]at h;exact h.1
theorem Zq {p:List Fn}{F vars:Int}{e:Ex}(h:wf p F e vars=true){j:Nat}(hj:j<e.kids.length):wf p F (e.kids.getD j Ex.zero) (if e.kind=9∧j=1 then vars+1 else vars)=true:=by rw[Ou,z7]at h;have:=(M7 p F _ vars e.kids 0).1 h.2 j hj;rw[Nat.zero_add]at this;simpa only[decide_eq_true_eq]using this
theorem C9 {p:List Fn}{F vars:Int}{e:Ex}(h:wf p F e vars=true){j:Nat}(hj:j<e.kids.length)(hn:¬(e.kind=9∧j=1)):wf p F (e.kids.getD j Ex.zero) vars=true:=by have:=Zq h hj;rwa [if_neg hn]at this
theorem Ib {p:List Fn}{F vars:Int}{e:Ex}(h:wf p F e vars=true)(hj:1<e.kids.length)(hk:e.kind=9):wf p F (e.kids.getD 1 Ex.zero) (vars+1)=true:=by have:=Zq h hj;rwa [if_pos ⟨hk,rfl⟩]at this
section
variable {p:List Fn} {F:Nat} {vars:Int} {e:Ex}
theorem MB (h:wf p ((F:Nat):Int) e vars=true)(hk:e.kind=1):0≤e.num∧e.num<1000003:=(Dk (D6 h)).2.2.2.2.2.2.2 hk
theorem MC (h:wf p ((F:Nat):Int) e vars=true)(hk:e.kind=2):0≤e.num∧e.num≤vars-1:=(Dk (D6 h)).2.1 hk
theorem QA (h:wf p ((F:Nat):Int) e vars=true)(hk:e.kind=8):e.kids.length=3:=(Dk (D6 h)).2.2.2.2.1 hk
theorem MD (h:wf p ((F:Nat):Int) e vars=true)(hk:e.kind=9):e.kids.length=2:=(Dk (D6 h)).2.2.1 zO
theorem Pa (h:wf p ((F:Nat):Int) e vars=true)(hk:e.kind=7):e.kids.length=1:=(Dk (D6 h)).2.2.2.1 hk
theorem Ju (h:wf p ((F:Nat):Int) e vars=true)(hk:e.kind=3∨e.kind=4∨e.kind=5∨e.kind=6):e.kids.length=2:=(Dk (D6 h)).2.2.1 zO
theorem FR (h:wf p ((F:Nat):Int) e vars=true)(hk:e.kind=10∨e.kind=11):(0≤e.num∧e.num≤((F:Nat):Int)-1)∧(e.kids.length:Int)=(p.getD e.num.toNat Fn.zero).params∧(0≤e.pick∧e.pick≤((p.getD e.num.toNat Fn.zero).outs.length:Int)-1):=by have:=(Dk (D6 h)).2.2.2.2.2.1 hk;exact⟨⟨this.1,this.2.1⟩,this.2.2.1,this.2.2.2⟩
theorem Kg (h:wf p ((F:Nat):Int) e vars=true)(hk:e.kind=11):((p.getD e.num.toNat Fn.zero).outs.length:Int)=(p.getD e.num.toNat Fn.zero).params∧(0≤e.count∧e.count≤8):=(Dk (D6 h)).2.2.2.2.2.2.1 hk
theorem cO (h:wf p ((F:Nat):Int) e vars=true)(hk:(e.kind≠1∧e.kind≠2∧e.kind≠8∧e.kind≠9)∧(e.kind≠10∧e.kind≠11∧e.kind≠3∧e.kind≠4∧e.kind≠5∧e.kind≠7)):e.kind=6:=by have:=(Dk (D6 h)).1;omega
theorem cQ (h:wf p ((F:Nat):Int) e vars=true)(hk:(e.kind≠1∧e.kind≠2∧e.kind≠7∧e.kind≠8)∧(e.kind≠9∧e.kind≠10∧e.kind≠11)):e.kind=3∨e.kind=4∨e.kind=5∨e.kind=6:=by have:=(Dk (D6 h)).1;omega
theorem Pb (h:wf p ((F:Nat):Int) e vars=true)(hv:GC p)(hF:F≤p.length):e.kids.length≤12:=by have hq:=Dk<|D6 h;by_cases h10:e.kind=10∨e.kind=11;have h1:=FR h h10;have:=hv.par e.num.toNat zO;omega;have h1:=hq.1;have h2:=hq.2.2.1;have h3:=hq.2.2.2.1;have h4:=hq.2.2.2.2.1;by_cases hl:e.kind=1∨e.kind=2;have h5:=D6 h;unfold KR at h5;rcases hl with hl|hl;rw[if_pos hl]at h5;simp only[z7,decide_eq_true_eq]at h5;omega;rw[if_neg zO,if_pos hl]at h5;simp only[z7,decide_eq_true_eq]at h5;omega;omega
end
section
variable {n:Nat} {C:Ca} {e:Ex} {env:List Sr} {s s1 s2:Nat} {c c1 c2:Int} {x y:Sr} {xs ys:List Sr}
theorem E3 (hc:c≠0){r:Rs Sr}:AQ (go c r) x s c:=AQ.mk_err (DJ hc r) hc
theorem D3 (hc:c=0)(hs:s=3000):AQ (go c (Dj n C e env s)) x s1 7:=by subst hc;rw[CX,Hr,if_pos (by omega)];exact AQ.mk_err rfl (by decide)
theorem EZ (hc:c=0)(hs:s+1≤3000)(hk:e.kind=1):AQ (go c (Dj n C e env s)) (IQ n e.num) (s+1) c:=by subst hc;rw[CX,Hr,if_neg zO,if_pos hk];exact AQ.mk_ok rfl
theorem Fb (hc:c=0)(hs:s+1≤3000)(hk:e.kind=2):AQ (go c (Dj n C e env s)) (env.getD e.num.toNat []) (s+1) c:=by subst hc;rw[CX,Hr,if_neg zO,if_neg zO,if_pos hk];exact AQ.mk_ok rfl
theorem Fd (hc:c=0)(hs:s+1≤3000)(hk:e.kind=8)(hl:e.kids.length=3)(h1:AQ (go c (Dj n C (e.kids.getD 0 Ex.zero) env (s+1))) x s1 c1)(hx:x.getD 0 0=0)
  (h2:AQ (go c1 (Dj n C (e.kids.getD 1 Ex.zero) env s1)) y s2 c2):AQ (go c (Dj n C e env s)) y s2 c2:=by
 subst hc;rw[CX,Hr,if_neg zO,if_neg zO,if_neg zO,if_pos hk,EO _ _ _ _ _ _ (by omega)];rw[CX]at h1;by_cases h0:c1=0;subst h0;rw[h1.bindO,if_pos hx,EO _ _ _ _ _ _ (by omega)];exact h2;rw[h1.bindE h0];rw[DJ h0]at h2;exact h2
theorem Fe (hc:c=0)(hs:s+1≤3000)(hk:e.kind=8)(hl:e.kids.length=3)(h1:AQ (go c (Dj n C (e.kids.getD 0 Ex.zero) env (s+1))) x s1 c1)(hx:¬x.getD 0 0=0)
  (h2:AQ (go c1 (Dj n C (e.kids.getD 2 Ex.zero) env s1)) y s2 c2):AQ (go c (Dj n C e env s)) y s2 c2:=by
 subst hc;rw[CX,Hr,if_neg zO,if_neg zO,if_neg zO,if_pos hk,EO _ _ _ _ _ _ (by omega)];rw[CX]at h1;by_cases h0:c1=0;subst h0;rw[h1.bindO,if_neg hx,EO _ _ _ _ _ _ (by omega)];exact h2;rw[h1.bindE h0];rw[DJ h0]at h2;exact h2
theorem Ff (hc:c=0)(hs:s+1≤3000)(hk:e.kind=9)(hl:e.kids.length=2)(h1:AQ (go c (Dj n C (e.kids.getD 0 Ex.zero) env (s+1))) x s1 c1)
  (h2:AQ (go c1 (Dj n C (e.kids.getD 1 Ex.zero) (env++[x]) s1)) y s2 c2):AQ (go c (Dj n C e env s)) y s2 c2:=by
 subst hc;rw[CX,Hr,if_neg zO,if_neg zO,if_neg zO,if_neg zO,if_pos hk,EO _ _ _ _ _ _ (by omega)];rw[CX]at h1;by_cases h0:c1=0;subst h0;rw[h1.bindO,EO _ _ _ _ _ _ (by omega)];exact h2;rw[h1.bindE h0];rw[DJ h0]at h2;exact h2
theorem Ic (hs : s + 1 ≤ 3000) (h1 : e.kind ≠ 1) (h2 : e.kind ≠ 2) (h8 : e.kind ≠ 8) (h9 : e.kind ≠ 9) : Dj n C e env s = (Eo n C e.kids env (s + 1)).bind fun xs t =>
      if e.kind = 10 then C.one e.num.toNat e.pick.toNat xs t
      else if e.kind = 11 then (Lx (C.all e.num.toNat) e.count.toNat xs t).bind fun ys u=>.ok (ys.getD e.pick.toNat []) u
      else PY e.kind xs t:=by
  rw [Hr,if_neg zO,if_neg h1,if_neg h2,if_neg h8,if_neg h9]
theorem Dt (hc:c=0)(hs:s+1≤3000)(h1:e.kind≠1)(h2:e.kind≠2)(h8:e.kind≠8)(h9:e.kind≠9)(hr:AQ (go c (Eo n C e.kids env (s+1))) xs s1 c1)(hc1:c1≠0):AQ (go c (Dj n C e env s)) x s2 c1:=by subst hc;rw[CX]at hr ⊢;rw[Ic hs h1 h2 h8 h9,hr.bindE hc1];exact AQ.mk_err rfl hc1
theorem Ep {p:List Fn}{F:Nat}(hc:c=0)(hs:s+1≤3000)(hk:e.kind=10)(hF:e.num.toNat<F)(hr:AQ (go c (Eo n (FM p n F) e.kids env (s+1))) xs s1 c1)(hc1:c1=0)
  (h2:AQ (go c1 (Dj n (FM p n e.num.toNat) ((p.getD e.num.toNat Fn.zero).outs.getD e.pick.toNat Ex.zero) xs s1)) y s2 c2):AQ (go c (Dj n (FM p n F) e env s)) y s2 c2:=by
 subst hc;subst hc1;rw[CX]at hr h2 ⊢;rw[Ic hs zO zO zO zO,hr.bindO,if_pos hk,P9 hF];exact h2
theorem Er {p:List Fn}{F:Nat}(hc:c=0)(hs:s+1≤3000)(hk:e.kind=11)(hF:e.num.toNat<F)(hr:AQ (go c (Eo n (FM p n F) e.kids env (s+1))) xs s1 c1)(hc1:c1=0)
  (h2:AQ (Lx (fun a t=>Eo n (FM p n e.num.toNat) (p.getD e.num.toNat Fn.zero).outs a t) e.count.toNat xs s1) ys s2 c2):AQ (go c (Dj n (FM p n F) e env s)) (ys.getD e.pick.toNat []) s2 c2:=by
 subst hc;subst hc1;rw[CX]at hr ⊢;rw[Ic hs zO zO zO zO,hr.bindO,if_neg zO,if_pos hk];have hl:(FM p n F).all e.num.toNat=fun a t=>Eo n (FM p n e.num.toNat) (p.getD e.num.toNat Fn.zero).outs a t:=funext fun a=>funext fun t=>IR hF;rw[hl];by_cases h0:c2=0;subst h0;rw[h2.bindO];exact AQ.mk_ok rfl;rw[h2.bindE h0];exact AQ.mk_err rfl h0
theorem Bp (hc:c=0)(hs:s+1≤3000)(h1:e.kind≠1)(h2:e.kind≠2)(h8:e.kind≠8)(h9:e.kind≠9)(h10:e.kind≠10)(h11:e.kind≠11)(hr:AQ (go c (Eo n C e.kids env (s+1))) xs s1 c1)(hc1:c1=0)
  (h:AQ (PY e.kind xs s1) y s2 c2):AQ (go c (Dj n C e env s)) y s2 c2:=by
 subst hc;subst hc1;rw[CX]at hr ⊢;rw[Ic hs h1 h2 h8 h9,hr.bindO,if_neg h10,if_neg h11];exact h
theorem GD {k:Int}(hk:k=3):AQ (PY k xs s) (CW (xs.getD 0 []) (xs.getD 1 [])) s 0:=by subst hk;exact AQ.mk_ok rfl
theorem GE {k:Int}(hk:k=4):AQ (PY k xs s) (Hq (xs.getD 0 []) (xs.getD 1 [])) s 0:=by subst hk;exact AQ.mk_ok rfl
theorem GF {k:Int}(hk:k=5):AQ (PY k xs s) (CL (xs.getD 0 []) (xs.getD 1 [])) s 0:=by subst hk;exact AQ.mk_ok rfl
theorem GG {k:Int}(hk:k=7):AQ (PY k xs s) (DF (xs.getD 0 []) 1000002) s 0:=by subst hk;exact AQ.mk_ok rfl
theorem Fh {k:Int}(hk:k=6)(hz:(xs.getD 1 []).getD 0 0=0):AQ (PY k xs s) x s1 6:=by
 subst hk;have:PY 6 xs s=.err 6:=by
  show(if (xs.getD 1 []).getD 0 0=0 then _ else _)=_;rw[if_pos hz]
 exact AQ.mk_err this (by decide)
theorem GH {k:Int}(hk:k=6)(hz:¬(xs.getD 1 []).getD 0 0=0):AQ (PY k xs s) (CD (xs.getD 0 []) (xs.getD 1 [])) s 0:=by
 subst hk;have:PY 6 xs s=.ok (CD (xs.getD 0 []) (xs.getD 1 [])) s:=by
  show(if (xs.getD 1 []).getD 0 0=0 then _ else _)=_;rw[if_neg hz]
 exact AQ.mk_ok this
theorem H5 {l:List Ex}{k:Nat}(hk:k<l.length)(h:AQ (go c (Eo n C (l.take k) env s)) xs s1 c1)(h2:AQ (go c1 (Dj n C (l.getD k Ex.zero) env s1)) x s2 c2) :
  AQ (go c (Eo n C (l.take (k+1)) env s)) (xs++[x]) s2 c2:=by
 by_cases hc:c=0;subst hc;rw[CX]at h ⊢;rw[Vh hk];by_cases h0:c1=0;subst h0;rw[CX]at h2;rw[h.bindO];by_cases h3:c2=0;subst h3;rw[h2.bindO];exact AQ.mk_ok rfl;rw[h2.bindE h3];exact AQ.mk_err rfl h3;rw[h.bindE h0];rw[DJ h0]at h2;exact AQ.mk_err (by rw[h2.1]) (by rw[h2.1];exact h2.2);rw[DJ hc]at h ⊢;have hc1:c1≠0:=by rw[h.1];exact hc
 rw[DJ hc1]at h2;exact AQ.mk_err (by rw[h2.1,h.1]) (by rw[h2.1];exact hc1)
theorem Yp {f:List Sr→Nat→Rs (List Sr)}{k:Nat}(h:AQ (Lx f k xs s) ys s1 c1)(hc:c1=0){zs:List Sr}(h2:AQ (go c1 (f ys s1)) zs s2 c2):AQ (Lx f (k+1) xs s) zs s2 c2:=by subst hc;show AQ ((Lx f k xs s).bind f) _ _ _;rw[h.bindO];rw[CX]at h2;exact h2
theorem SQ {f:List Sr→Nat→Rs (List Sr)} {d:Int}:∀ {m k:Nat},Lx f k xs s = .err d→k≤m→Lx f m xs s = .err d
  | 0, k, h, hk => by have : k = 0 := by omega
                      subst this; exact h
  | m + 1,k,h,hk=>by
    by_cases e:k = m + 1
    subst e; exact h
    show (Lx f m xs s).bind f = _
    rw [SQ h (by omega)]; rfl
theorem Es {f:List Sr→Nat→Rs (List Sr)}{k m:Nat}(h:AQ (Lx f k xs s) ys s1 c1)(hk:k≤m)(hs:k=m∨c1≠0):AQ (Lx f m xs s) ys s1 c1:=by by_cases hc:c1=0;rcases hs with rfl|hh;exact h;exact absurd hc hh;exact AQ.mk_err (SQ (h.err hc) hk) hc
end
theorem H6 (n:Nat)(C:Ca)(l:List Ex)(env:List Sr)(s:Nat)(c:Int):AQ (go c (Eo n C (l.take 0) env s)) [] s c:=by rw[List.take_zero,Eo];by_cases h:c=0;subst h;exact AQ.mk_ok rfl;exact AQ.mk_err (DJ h _) h
theorem H7 {n:Nat}{a b:Sr}(ha:Dn n a):Dn n (CW a b):=⟨by unfold CW;rw[EX];exact ha.1,My _ _⟩
theorem ME {n:Nat}{a b:Sr}(ha:Dn n a):Dn n (Hq a b):=⟨by rw[Ia];exact ha.1,Mz _ _⟩
theorem Id {n:Nat}{a b:Sr}(ha:Dn n a):Dn n (CL a b):=⟨by unfold CL;rw[EX];exact ha.1,I8 _ _⟩
theorem Ie {n:Nat}{a b:Sr}(ha:Dn n a):Dn n (CD a b):=⟨by rw[E2];exact ha.1,H2 _ _⟩
theorem MF {n:Nat}{a:Sr}{y:Int}(ha:Dn n a):Dn n (DF a y):=⟨by unfold DF;rw[EX];exact ha.1,H4 _ _⟩
end
section
def Vi (p:List Fn)(n f:Nat)(a:List Sr):List Sr:=match ev p n f a with
 |.ok xs _=>xs
 |.err _=>[]
def Ox (p:List Fn)(n f:Nat)(a:List Sr):Nat:=match ev p n f a with
 |.ok _ s=>s
 |.err _=>0
def Pc (p:List Fn)(n f:Nat)(a:List Sr):Int:=match ev p n f a with
 |.ok _ _=>0
 |.err c=>c
section
variable {p:List Fn} {n f s:Nat} {a x:List Sr} {c:Int}
theorem MG (h:AQ (go 0 (Eo n (FM p n f) (p.getD f Fn.zero).outs a 0)) x s c)(hc:c=0):ev p n f a=.ok x s:=by subst hc;exact h.ok
theorem Jv (h:AQ (go 0 (Eo n (FM p n f) (p.getD f Fn.zero).outs a 0)) x s c)(hc:c≠0):ev p n f a=.err c:=h.err hc
theorem MH (h:ev p n f a=.ok x s):Vi p n f a=x:=by unfold Vi;rw[h]
theorem SR (h:ev p n f a=.ok x s):Ox p n f a=s:=by unfold Ox;rw[h]
theorem MI (h:ev p n f a=.ok x s):Pc p n f a=0:=by unfold Pc;rw[h]
theorem QB (h:ev p n f a=.err c):Vi p n f a=[]:=by unfold Vi;rw[h]
theorem SS (h:ev p n f a=.err c):Ox p n f a=0:=by unfold Ox;rw[h]
theorem Kh (h:ev p n f a=.err c):Pc p n f a=c:=by unfold Pc;rw[h]
end
structure Zr (p:List Fn)(n f:Nat)(a:List Sr):Prop where
 code:0≤Pc p n f a∧Pc p n f a≤9
 steps:Ox p n f a≤3000
 len:Pc p n f a=0→(Vi p n f a).length=(p.getD f Fn.zero).outs.length
 ser:Cp n (Vi p n f a)
 non:Pc p n f a≠0→Vi p n f a=[]
theorem Zr.mk' {p:List Fn}{n f s:Nat}{a x:List Sr}{c:Int}(h:AQ (go 0 (Eo n (FM p n f) (p.getD f Fn.zero).outs a 0)) x s c)(hc:0≤c∧c≤9)(hs:s≤3000)(hl:x.length=(p.getD f Fn.zero).outs.length)(hx:Cp n x):Zr p n f a:=by by_cases h0:c=0;have e:=MG h h0;exact⟨by rw[MI e];omega,by rw[SR e];exact hs,fun _=>by rw[MH e];exact hl,by rw[MH e];exact hx,fun hh=>absurd (MI e) hh⟩;have e:=Jv h h0;exact⟨by rw[Kh e];exact hc,by rw[SS e];omega,fun hh=>absurd (by rw[← hh,Kh e]) h0,by rw[QB e];intro k hk;simp at hk,fun _=>QB e⟩
end
def Zs (s:ByteArray)(i:Nat):Bool:=(decide (97≤KH s i) && decide (KH s i≤122)) || (decide (i≠0) && (decide (48≤KH s i) && decide (KH s i≤57)))
def Q0 (s:ByteArray):Bool:=(decide (1≤s.size) && decide (s.size≤12)) && (List.range s.size).all (Zs s)
def Oy (p:List Fn)(e:Ex)(vars funcs:Int):Bool :=
 GB vars 0 412 && (GB funcs 0 ((p.length:Nat):Int) && (decide (e.size≤400) && (decide (e.deep≤60) && wf p funcs e vars)))
def cR (p:List Fn)(k:Nat):Bool:=!((p.take k).any fun g=>GZ g.name (p.getD k Fn.zero).name)
def LC (p:List Fn)(k:Nat):Bool :=
 (Q0 (p.getD k Fn.zero).name && cR p k) && ((GB (p.getD k Fn.zero).params 0 12 && GB (((p.getD k Fn.zero).outs.length:Nat):Int) 1 12) &&
  ((List.range (p.getD k Fn.zero).outs.length).all (fun j=>Oy p ((p.getD k Fn.zero).outs.getD j Ex.zero) (p.getD k Fn.zero).params ((k:Nat):Int)) && decide (Ex.sizes (p.getD k Fn.zero).outs≤400)))
def Fq (p:List Fn):Bool:=decide (p.length≤16) && (List.range p.length).all (LC p)
def U6 (p:List Fn):Prop:=∀k,k<p.length→Ex.sizes (p.getD k Fn.zero).outs≤2000000∧(p.getD k Fn.zero).outs.length≤2000000∧(p.getD k Fn.zero).name.size≤2000000
theorem Eh {f:Nat→Bool}{k:Nat}(h:(List.range k).all f=true)(hk:f k=true):(List.range (k+1)).all f=true:=by rw[List.range_succ,List.all_append,h];simp[hk]
theorem KS {f:Nat→Bool}{k n:Nat}(hk:k<n)(h:f k=false):(List.range n).all f=false:=by rw[List.all_eq_false];exact⟨k,List.mem_range.2 hk,by simp[h]⟩
theorem ST {f:Nat→Bool}{k n:Nat}(h:(List.range n).all f=true)(hk:k<n):f k=true:=zm.1 h k (List.mem_range.2 hk)
theorem cT {p:List Fn}(h:Fq p=true){k:Nat}(hk:k<p.length):LC p k=true:=by unfold Fq at h;rw[z7]at h;exact ST h.2 hk
theorem IS {p:List Fn}(h:Fq p=true):GC p:=by
 have h1:∀k,k<p.length→(0≤(p.getD k Fn.zero).params∧(p.getD k Fn.zero).params≤12)∧(1≤(p.getD k Fn.zero).outs.length∧(p.getD k Fn.zero).outs.length≤12) ∧
   ∀j,j<(p.getD k Fn.zero).outs.length→Oy p ((p.getD k Fn.zero).outs.getD j Ex.zero) (p.getD k Fn.zero).params ((k:Nat):Int)=true:=by
  intro k hk;have:=cT h hk;unfold LC at this;simp only[z7,Cx]at this;exact⟨this.2.1.1,zO,fun j hj=>ST this.2.2.1 hj⟩
 have h2:∀k,k<p.length→∀j,j<(p.getD k Fn.zero).outs.length→((p.getD k Fn.zero).outs.getD j Ex.zero).deep≤60∧wf p ((k:Nat):Int) ((p.getD k Fn.zero).outs.getD j Ex.zero) (p.getD k Fn.zero).params=true:=by
  intro k hk j hj;have:=(h1 k hk).2.2 j hj;unfold Oy at this;simp only[z7,decide_eq_true_eq]at this;exact⟨this.2.2.2.1,this.2.2.2.2⟩
 exact⟨fun k hk=>(h1 k hk).1,fun k hk=>(h1 k hk).2.1,fun k hk j hj=>(h2 k hk j hj).1,fun k hk j hj=>(h2 k hk j hj).2⟩
section
namespace Jx
variable [J:JR] {P:Program} {ops:Array Oper} {w0:World} {Q:Act→World→Prop}
theorem j1 {o:Oper}{os:List Oper}{ks:List Nat}{a:Act}{w:World}(h:_root_.Go.Proofs.YtemfgblmfahllaaGreat.LW P ops w0 (fun a w=>LW P ops w0 Q os ks a w) [o] [0] a w):LW P ops w0 Q (o::os) (0::ks) a w:=by simp only[_root_.Go.Proofs.YtemfgblmfahllaaGreat.LW]at h;simp only[LW];split;rename_i hw;rw[if_pos hw]at h;unfold _root_.Go.Proofs.YtemfgblmfahllaaGreat.BU at h;unfold BU;rw[if_pos (by decide)]at h;rw[if_pos (by decide)];obtain⟨v,h1,h2⟩:=h;exact⟨v,fun w' _=>h1 w' trivial,h2⟩;rename_i hw;rw[if_neg hw]at h;exact h
theorem Yq:∀ {os:List Oper}{ks:List Nat}{a:Act}{w:World}(_:ks.all (fun k=>k == 0 || k == 3 || k == 4)=true)(_:_root_.Go.Proofs.YtemfgblmfahllaaGreat.LW P ops w0 Q os ks a w),LW P ops w0 Q os ks a w
 |[],_,_,_,_,h=>h
 |_::_,[],_,_,_,h=>h.elim
 |o::os,k::ks,a,w,hk,h=>by
  simp only[List.all_cons,z7]at hk
  simp only[_root_.Go.Proofs.YtemfgblmfahllaaGreat.LW]at h
  simp only[LW]
  split
  rename_i hw
  rw[if_pos hw]at h
  unfold _root_.Go.Proofs.YtemfgblmfahllaaGreat.BU at h
  unfold BU
  split at h
  rename_i h2
  rw[if_pos h2]
  have:k=0:=by
   have:=hk.1;simp only[Bool.or_eq_true,beq_iff_eq]at this;omega
  subst this;obtain⟨v,h1,h3⟩:=h;exact⟨v,fun w' _=>h1 w' trivial,Yq hk.2 h3⟩;rename_i h2;rw[if_neg h2];split at h;rename_i h3;rw[if_pos h3];exact Oper.wp_mono (fun a w hh=>⟨J.ext hh.1,Yq hk.2 hh.2⟩) h;rename_i h3;rw[if_neg h3];exact Oper.wp_mono (fun a w hh=>Yq hk.2 hh) h;rename_i hw;rw[if_neg hw]at h;exact Yq hk.2 h
end Jx
end
section
section res
variable {P:Program} {N:Nat} {ρ:Nat→Value} {w:World}
theorem Vj:∀(l:List Nat),(((l.map ResultVar.tmp).mapM (m:=Sem) fun
  |.tmp t=>pure ((mk N ρ).tmps.getD t undef)
  |.cell a t=>do loadVar t (← asAddr ((mk N ρ).tmps.getD a undef)))).run P w=.ok (l.map fun t=>Bv N ρ (.tmp t)) w:=by
 intro l
 induction l with
 |nil=>rfl
 |cons t l ih =>
  simp only[zf,List.mapM_cons,Sem.run_bind,Sem.run_pure,Result.andThen_ok,IJ]at ih ⊢;rw[ih];rfl
theorem IT {fn:Func}{R:Ending→World→Prop}{k s b t0:Nat}{ts:List Nat}{ty:TypeId}{cs:List Value}(vs:List Value)(hr:fn.results=(ResultVar.cell k ty::((t0::ts).map ResultVar.tmp)).toArray)(ha:De P ty s=true)(hv:Bv N ρ (.tmp k)=.pointer (some ⟨b,0,none⟩))(hb:BX w.heap b cs)(hl:cs.length=s)
  (hvs:((t0::ts).map fun t=>Bv N ρ (.tmp t))=vs) (h:R (.returned (.tuple (.agg cs.toArray::vs).toArray)) w):bodyPost P fn R .ret (mk N ρ) w:=by
 subst hvs;refine⟨rfl,_,?_,h⟩;have hld:=Hn (P:=P) ha (LD.of_box hb) hl;have hg:(mk N ρ).tmps.getD k undef=.pointer (some ⟨b,0,none⟩):=by rw[IJ,hv]
 have hi:(asAddr (.pointer (some ⟨b,0,none⟩))).run P w=.ok ⟨b,0,none⟩ w:=rfl;have key:=Vj (P:=P) (N:=N) (ρ:=ρ) (w:=w) (t0::ts);unfold results;rw[hr];simp only[List.mapM_toArray,Sem.run_bind,Sem.run_map];have hfull:(((ResultVar.cell k ty::((t0::ts).map ResultVar.tmp)).mapM (m:=Sem) fun
  |.tmp t=>pure ((mk N ρ).tmps.getD t undef)
  |.cell a t=>do loadVar t (← asAddr ((mk N ρ).tmps.getD a undef)))).run P w=.ok (.agg cs.toArray::((t0::ts).map fun t=>Bv N ρ (.tmp t))) w:=by
  rw[List.mapM_cons];simp only[Sem.run_bind,Sem.run_pure,hg,hi,hld,Result.andThen_ok];rw[key];rfl
 refine (congrArg (fun r=>(Result.andThen (Result.andThen r fun a w'=>Result.ok a.toArray w') fun a w'=>Result.ok (if h:a.size=1 then a[0]else Value.tuple a) w')) hfull).trans ?_;simp only[Result.andThen_ok];rfl
end res
end
section
set_option linter.unusedSectionVars false
namespace Jx
section
variable [J:JR] {P:Program} {ops:Array Oper} {md:Region.Mode} {kd bs:Nat→Nat} {w0:World} {Q:Act→World→Prop}
theorem M8 {Q':Act→World→Prop}(h:∀a w,Q a w→Q' a w):∀(l:List Nat)(a:Act)(w:World),LI P ops kd w0 Q l a w→LI P ops kd w0 Q' l a w
 |[],a,w,hh=>h a w hh
 |i::l,a,w,hh=>by
  simp only[LI]at hh ⊢
  cases hoi:ops[i]? with
  |none=>rw[hoi]at hh;exact hh.elim
  |some o =>
   rw[hoi]at hh
   simp only at hh ⊢
   split
   rename_i hw
   rw[if_pos hw]at hh
   exact hh.mono fun a w=>M8 h l a w
   rename_i hw
   rw[if_neg hw]at hh
   exact M8 h l _ _ hh
theorem MJ (s:List Nat):∀(l:List Nat)(a:Act)(w:World),LI P ops kd w0 (LI P ops kd w0 Q s) l a w→LI P ops kd w0 Q (l++s) a w
 |[],a,w,hh=>hh
 |i::l,a,w,hh=>by
  simp only[LI,List.cons_append]at hh ⊢
  cases hoi:ops[i]? with
  |none=>rw[hoi]at hh;exact hh.elim
  |some o =>
   rw[hoi]at hh
   simp only at hh ⊢
   split
   rename_i hw
   rw[if_pos hw]at hh
   exact hh.mono fun a w=>MJ s l a w
   rename_i hw
   rw[if_neg hw]at hh
   exact MJ s l _ _ hh
theorem Ef {Q':Act→World→Prop}(hQ:∀a w,Q a w→Q' a w):∀(l:List Nat)(os:List Oper)(ks:List Nat)(a:Act)(w:World),Mt ops kd l os ks→LW P ops w0 Q os ks a w→LI P ops kd w0 Q' l a w
 |[],[],_,a,w,_,h=>by simpa [LI]using hQ a w (by simpa [LW]using h)
 |x::l,o::os,k::ks,a,w,⟨h0,hk,hM⟩,h=>by
  have hr:∀a w,LW P ops w0 Q os ks a w→LI P ops kd w0 Q' l a w:=fun a w hh=>Ef hQ l os ks a w hM hh
  simp only[LI,h0,LW]at h ⊢
  split
  rename_i hw
  rw[if_pos hw]at h
  rw[hk]
  exact h.mono hr
  rename_i hw
  rw[if_neg hw]at h
  exact hr _ _ h
 |[],_::_,_,_,_,h,_=>h.elim
 |_::_,[],_,_,_,h,_=>h.elim
 |_::_,_::_,[],_,_,h,_=>h.elim
structure RM (ops:Array Oper)(kd bs:Nat→Nat)(w0:World)(L0 S:List Nat)(n:Nat)(l:List Nat)(listed:Array Bool)(w:World):Prop where
 sub:l.Sublist L0
 len:l.length+S.length=n
 mem:∀i,i∈l++S↔listed.getD i true=false
 sz:listed.size=ops.size
 clo:KI bs listed
 inv:Q6 kd w0 w (l++S)
 nd:(l++S).Nodup
variable {L0:List Nat}
theorem Yr {l:List Nat}(hp:l.Pairwise (fun x y=>4≤kd x→kd y≠1)):Q7 kd l:=by intro l1 i l2 hl hk j hj;subst hl;exact List.rel_of_pairwise_cons (List.pairwise_append.1 hp).2.1 hj hk
theorem MK (hsel:∀(j:Nat)(o:Oper) cs b,ops[j]? = some o→o.op≠.select cs b)(hS:Oa md ops bs)
  (hlex:∀j oj,ops[j]? = some oj→∀e∈oj.after,Region.binds md e=true→e.on<j) {s:List Nat} (hp:(L0++s).Pairwise (EJ md ops kd bs)) (h14:(L0++s).Pairwise (fun x y=>4≤kd x→kd y≠1))
  (n:Nat) (l:List Nat) (listed:Array Bool) (a:Act) (w:World) (hC:RM ops kd bs w0 L0 s n l listed w) (h:LI P ops kd w0 (LI P ops kd w0 Q s) l a w):wpAny P md ops (NQ Q) n listed a w :=
 FV hsel hS hlex n (l++s) listed a w (by rw[z4];exact hC.len) (hp.sublist (List.Sublist.append_right hC.sub s)) hC.nd hC.sz hC.mem hC.clo
  (Yr (h14.sublist (List.Sublist.append_right hC.sub s))) hC.inv (MJ s l a w h)
theorem KT (hsel:∀ (j:Nat) (o:Oper) cs b,ops[j]? = some o→o.op≠.select cs b) (hS:Oa md ops bs)
  (hlex:∀ j oj,ops[j]? = some oj→∀ e∈oj.after,Region.binds md e = true→e.on < j)
  {h1 h2:Nat} {S1 S2:List Nat} {Q1 Q2:Act→World→Prop} (hperm:(h1 :: S1).Perm (h2 :: S2)) (hk1:kd h1 = 3) (hk2:kd h2 = 3)
  (hl:∀ x∈L0,kd x≤2) (hL:L0.Pairwise (EJ md ops kd bs)) (hf1:∀ x∈L0,EJ md ops kd bs x h1) (hf2:∀ x∈L0,EJ md ops kd bs x h2)
  (hz:∀ z∈S1,z = h2∨(bs z).testBit h1 = true∨(bs z).testBit h2 = true)
  (hord:(L0++h1 :: S1).Pairwise (fun x y=>∀ ox,ops[x]? = some ox→∀ e∈ox.after,Region.binds md e = true→e.on≠y))
  (rec1:∀ n l listed a w,RM ops kd bs w0 L0 S1 n l listed w→LI P ops kd w0 Q1 l a w→wpAny P md ops (NQ Q) n listed a w)
  (rec2:∀ n l listed a w,RM ops kd bs w0 L0 S2 n l listed w→LI P ops kd w0 Q2 l a w→wpAny P md ops (NQ Q) n listed a w) :
  ∀ (n:Nat) (l:List Nat) (listed:Array Bool) (a:Act) (w:World),RM ops kd bs w0 L0 (h1 :: S1) n l listed w→LI P ops kd w0 (fun a w=>LI P ops kd w0 Q1 [h1] a w∧LI P ops kd w0 Q2 [h2] a w) l a w→wpAny P md ops (NQ Q) n listed a w
 | 0,l,listed,a,w,hC,h=>by have:=hC.len; simp at this
 | n + 1,l,listed,a,w,hC,h=>by
  have hm2:∀ i,i∈l++h1 :: S1↔i∈l++h2 :: S2:=fun i=>by
   simp only [zi]; rw [hperm.mem_iff]
  have hun_of:∀ i∈l++h1 :: S1,listed.getD i true = false:=fun i hi=>(hC.mem i).1 hi
  -- a place that makes memory is taken
  have heavy:∀ (x:Nat) (T:List Nat) (Qx:Act→World→Prop),kd x = 3→(h1 :: S1).Perm (x :: T)→(∀ y∈L0,EJ md ops kd bs y x)→LI P ops kd w0 Qx (l++[x]) a w →
    (∀ l' a' w' listed',RM ops kd bs w0 L0 T n l' listed' w'→LI P ops kd w0 Qx l' a' w'→wpAny P md ops (NQ Q) n listed' a' w') →
    ∀ (ox:Oper),ops[x]? = some ox→(∀ e∈ox.after,Region.binds md e = true→listed.getD e.on false = true)→wpOp P ops (NQ Q) x (wpAny P md ops (NQ Q) n (listed.setIfInBounds x true)) a w:=by
   intro x T Qx hkx hpx hfx hLx hrec ox hox hall;have hbits:=EW hS hC.clo hox hall;have hxm:x∈l++h1 :: S1:=z1 _ (hpx.mem_iff.2 (z0 ..));have hxu:=hun_of x hxm;have hfree:=Gn (kd:=kd) (l1:=l) hox (fun y hy=>(hfx y<|hC.sub.subset hy).1) (fun y hy=>hun_of y<|z8 _ hy) hbits;have hsz:=D9 hxu;have hnd2:(l++x :: T).Nodup:=(List.Perm.append_left l hpx).nodup_iff.1 hC.nd;have hxl:x∉l++T:=by
    have h1:=List.nodup_append.1 hnd2
    intro hmem;rcases zi.1 hmem with hh | hh;exact h1.2.2 x hh x (z0 ..) rfl;exact (List.nodup_cons.1 h1.2.1).1 hh
   have hmT:∀ i,i∈l++x :: T↔listed.getD i true = false:=fun i=>by
    rw [← hC.mem i]; simp only [zi]; rw [hpx.mem_iff]
   have hcond:∀ w',(AA w w')→RM ops kd bs w0 L0 T n l (listed.setIfInBounds x true) w':=fun w' hE =>
    ⟨hC.sub,by have:=hC.len; have:=hpx.length_eq; simp at *; omega,II hmT hxl hsz,by simpa using hC.sz,Hi hC.clo hbits,
     fun ⟨j,hj,hkj⟩=>(hC.inv ⟨j,by
      rcases zi.1 hj with hh | hh;exact z8 _ hh;exact z1 _ (hpx.mem_iff.2 (z3 _ hh)),hkj⟩).trans hE,
     hnd2.sublist (List.Sublist.append_left (List.sublist_cons_self _ _) _)⟩
   obtain ⟨g1,g2⟩:=Lu (Q:=Qx) hsel hox zO l [] a w hfree (by simpa using hLx);unfold wpOp;rw [hox];by_cases hw:Region.wanted ox (yielded ops a.tmps) = true;simp only [hw,if_true];exact .inl<|Oper.wp_mono (fun a' w' hK=>hrec l a' w' _ (hcond w'<|hK.1 hkx) (by simpa using hK.2))<|K5<|g1 hw;simp only [hw,Bool.false_eq_true,if_false];exact hrec l _ w _ (hcond w<|AA.refl w) (by simpa using g2 (by simpa using hw))
  refine ⟨fun h0=>?_,fun i hi=>?_⟩;exfalso;have hready:∀ (x:Nat) (t:List Nat),l++h1 :: S1 = x :: t→False:=fun x t ht=>by
   have hs:(x :: t).Pairwise (fun x y=>∀ ox,ops[x]? = some ox→∀ e∈ox.after,Region.binds md e = true→e.on≠y):=ht ▸ hord.sublist (List.Sublist.append_right hC.sub _);have:=Jl (md:=md) (i:=x) (l:=t) hC.sz (fun y=>ht ▸ hC.mem y) hlex (fun y hy ox hox=>(List.pairwise_cons.1 hs).1 y hy ox hox);rw [h0] at this;cases this
  cases l with
  | nil=>exact hready _ _ rfl
  | cons x l=>exact hready x (l++h1 :: S1) rfl
  obtain ⟨hun,oi,hoi,hall⟩:=mem_ready.1 hi;have hmem:=(hC.mem i).2 hun;have hbits:=EW hS hC.clo hoi hall;by_cases hil:i∈l;obtain ⟨l1,l2,rfl⟩:=List.append_of_mem hil;have hpi:∀ x∈l1,EJ md ops kd bs x i:=fun x hx=>(List.pairwise_append.1 (hL.sublist hC.sub)).2.2 x hx i (z0 ..);have hfree:=Gn (kd:=kd) (l1:=l1) hoi (fun x hx=>(hpi x hx).1) (fun x hx=>hun_of x (by simp [hx])) hbits;have hk:kd i≤2:=hl i (hC.sub.subset (by simp));have hsub0:(l1++l2).Sublist (l1++i :: l2):=List.Sublist.append_left (List.sublist_cons_self _ _) _;have hnd1:(l1++i :: (l2++h1 :: S1)).Nodup:=by have:=hC.nd; rwa [List.append_assoc,List.cons_append] at this
  have hnot:i∉l1++(l2++h1 :: S1):=by
   have h1:=List.nodup_append.1 hnd1
   intro hmem;rcases zi.1 hmem with hh | hh;exact h1.2.2 i hh i (z0 ..) rfl;exact (List.nodup_cons.1 h1.2.1).1 hh
  have hm1:∀ x,x∈l1++i :: (l2++h1 :: S1)↔listed.getD x true = false:=fun x=>by
   have:=hC.mem x; rwa [List.append_assoc,List.cons_append] at this
  have hcond:RM ops kd bs w0 L0 (h1 :: S1) n (l1++l2) (listed.setIfInBounds i true) w :=
   ⟨hsub0.trans hC.sub,by have:=hC.len; simp at *; omega,fun x=>by rw [List.append_assoc]; exact II hm1 hnot (D9 hun) x,by simpa using hC.sz,Hi hC.clo hbits,
    fun ⟨j,hj,hkj⟩=>hC.inv ⟨j,by
     rcases zi.1 hj with hh | hh;exact z8 _<|hsub0.subset hh;exact z1 _ hh,hkj⟩,
    hC.nd.sublist (List.Sublist.append_right hsub0 _)⟩
  obtain ⟨v,hv,hL'⟩:=Jc hsel hoi hk l1 l2 a w hfree (fun h1=>hC.inv ⟨i,by simp,h1⟩) h;unfold wpOp;rw [hoi];have rec_:=fun a' hh=>KT hsel hS hlex hperm hk1 hk2 hl hL hf1 hf2 hz hord rec1 rec2 n (l1++l2) (listed.setIfInBounds i true) a' w hcond hh;rcases hv with ⟨hw,hy⟩ | ⟨hw,rfl⟩;simp only [hw,if_true];exact .inl<|K6 (hy w (Cl.self fun h1=>hC.inv ⟨i,by simp,h1⟩))<|rec_ _ hL';simp only [hw,Bool.false_eq_true,if_false];exact rec_ _ hL';have hiS:i∈h1 :: S1:=(zi.1 hmem).resolve_left hil;have h12:i = h1∨i = h2:=by
   rcases ze.1 hiS with hh | hh;exact .inl hh;rcases hz i hh with hh | hh | hh;exact .inr hh;have q1:=hbits h1 hh;have q2:=Eb<|hun_of h1 (by simp);rw [q1] at q2; cases q2;have q1:=hbits h2 hh;have q2:=Eb<|hun_of h2 ((hm2 h2).2 (by simp));rw [q1] at q2; cases q2
  rcases h12 with rfl | rfl;exact heavy i S1 Q1 hk1 (List.Perm.refl _) hf1 (MJ [i] l a w<|M8 (fun _ _ hh=>hh.1) l a w h) (fun l' a' w' li hc hh=>rec1 n l' li a' w' hc hh) oi hoi hall;exact heavy i S2 Q2 hk2 hperm hf2 (MJ [i] l a w<|M8 (fun _ _ hh=>hh.2) l a w h) (fun l' a' w' li hc hh=>rec2 n l' li a' w' hc hh) oi hoi hall
theorem Pd (x:Nat)(l:List Nat)(a:Act)(w:World)(hh:LI P ops kd w0 Q (x::l) a w):LI P ops kd w0 (LI P ops kd w0 Q l) [x] a w:=by
 simp only[LI]at hh ⊢;cases hoi:ops[x]? with
 |none=>rw[hoi]at hh;exact hh.elim
 |some o =>
  rw[hoi]at hh;simp only at hh ⊢;split;rename_i hw;rw[if_pos hw]at hh;exact hh.mono fun a w h=>h;rename_i hw;rw[if_neg hw]at hh;exact hh
end
def SU (ops:Array Oper)(x y:Nat):Bool:=match ops[x]? with|some ox=>ox.after.all fun e=>!Region.binds .any e || e.on != y|none=>true
def fj (os:List Oper)(ks:List Nat)(L0:List Nat)(h1 g1:Nat)(r1:List Nat)(g2:Nat)(r2:List Nat)(h2:Nat)(r3:List Nat):Bool :=
  let ops:=os.toArray
  let b:=(Region.before ops).toList
  Region.noSelect ops &&
  (os.zipIdx.all fun(o,j) =>
    (o.after.all fun e=>!Region.binds .any e || decide (e.on<j)) &&
    (let m:=o.after.foldl (fun s e=>if Region.binds .any e then s ||| 2 ^ e.on ||| b.getD e.on 0 else s) 0
     (b.getD j 0 == m))) &&
  (decide (ks.getD h1 0=3) && (decide (ks.getD h2 0=3) && (decide (ks.getD g1 0=3) && decide (ks.getD g2 0=3)))) &&
  (L0.all fun x=>decide (ks.getD x 0≤2)) &&
  TW (I2 ops ks b) L0 &&
  (L0.all fun x=>I2 ops ks b x h1 && (I2 ops ks b x h2 && (I2 ops ks b x g1 && I2 ops ks b x g2))) &&
  ((h1::g1::r1).isPerm (h2::r3) && (g1::r1).isPerm (g2::r2)) &&
  ((g1::r1).all fun z=>decide (z=h2) || ((b.getD z 0).testBit h1 || (b.getD z 0).testBit h2)) &&
  (r1.all fun z=>decide (z=g2) || ((b.getD z 0).testBit g1 || (b.getD z 0).testBit g2)) &&
  (TW (SU ops) (L0++h1::g1::r1)) &&
  (TW (I2 ops ks b) (L0++r1) && (TW (I2 ops ks b) (L0++r2) && TW (I2 ops ks b) (L0++r3))) &&
  (TW (fun x y=>!(decide (4≤ks.getD x 0)) || ks.getD y 0 != 1) (L0++r1) && (TW (fun x y=>!(decide (4≤ks.getD x 0)) || ks.getD y 0 != 1) (L0++r2) && TW (fun x y=>!(decide (4≤ks.getD x 0)) || ks.getD y 0 != 1) (L0++r3))) &&
  (decide ((L0++h1::g1::r1).length=os.length) && (decide (L0++h1::g1::r1).Nodup && ((L0++h1::g1::r1).all (fun x=>decide (x<os.length)) && (List.range os.length).all fun x=>(L0++h1::g1::r1).contains x)))
section
variable [J:JR] {P:Program}
theorem fk {id:Nat}{Q:Exit→Act→World→Prop}{a:Act}{w:World}(os:List Oper)(ks:List Nat)(L0:List Nat)(h1 g1:Nat)(r1:List Nat)(g2:Nat)(r2:List Nat)(h2:Nat)(r3:List Nat)
  (oL:List Oper) (kL:List Nat) (oh1 og1:Oper) (o1:List Oper) (k1:List Nat) (og2:Oper) (o2:List Oper) (k2:List Nat) (oh2:Oper) (o3:List Oper) (k3:List Nat) (hm:P.follows .mixedOrders=true) (hB:fj os ks L0 h1 g1 r1 g2 r2 h2 r3=true)
  (hML:Mt os.toArray (fun i=>ks.getD i 0) L0 oL kL) (hMh:Mt os.toArray (fun i=>ks.getD i 0) [h1] [oh1] [3]) (hM1:Mt os.toArray (fun i=>ks.getD i 0) (g1::r1) (og1::o1) (3::k1)) (hM2:Mt os.toArray (fun i=>ks.getD i 0) (g2::r2) (og2::o2) (3::k2)) (hM3:Mt os.toArray (fun i=>ks.getD i 0) (h2::r3) (oh2::o3) (3::k3))
  (h:LW P os.toArray w.drew (fun a' w'=>LW P os.toArray w.drew (fun a'' w''=>LW P os.toArray w.drew (fun a w=>Q .normal a w) (og1::o1) (3::k1) a'' w''∧LW P os.toArray w.drew (fun a w=>Q .normal a w) (og2::o2) (3::k2) a'' w'') [oh1] [3] a' w' ∧
   LW P os.toArray w.drew (fun a w=>Q .normal a w) (oh2::o3) (3::k3) a' w') oL kL a w.drew):(Code.region id os.toArray true).wp P Q a w:=by
 refine wp_region_any hm ?_;simp only[fj,z7,decide_eq_true_eq]at hB;obtain⟨⟨⟨⟨⟨⟨⟨⟨⟨⟨⟨⟨hsel,hpl⟩,hk1,hk2,hk3,hk4⟩,hl⟩,hpL⟩,hpx⟩,hpe1,hpe2⟩,hz1⟩,hz2⟩,hord⟩,hb1,hb2,hb3⟩,hn1,hn2,hn3⟩,hln,hnd,hlt,hct⟩:=hB;have hz:∀ {j:Nat} {o:Oper},os.toArray[j]? = some o→(o,j)∈os.zipIdx:=by
  intro j o ho;rw[List.mem_zipIdx_iff_getElem?];simpa using ho
 have hall:∀j oj,os.toArray[j]? = some oj→_:=fun j oj hj=>zm.1 hpl _ (hz hj);have hlex:∀j oj,os.toArray[j]? = some oj→∀e∈oj.after,Region.binds .any e=true→e.on<j:=by
  intro j oj hj e he hb;have h1:=(z7 _ _ ▸ hall j oj hj:_∧_).1;have h2:=(Array.all_eq_true_iff_forall_mem.1 h1) e he;simpa [hb]using h2
 have hS:Oa .any os.toArray (fun j=>(Region.before os.toArray).toList.getD j 0):=by
  intro j oj hj i hb;have h3:=(z7 _ _ ▸ hall j oj hj:_∧_).2;have h5:(Region.before os.toArray).toList.getD j 0=oj.after.foldl (fun s e=>if Region.binds .any e then s ||| 2 ^ e.on ||| (Region.before os.toArray).toList.getD e.on 0 else s) 0:=by simpa using h3
  dsimp only at hb;rw[h5,← Array.foldl_toList]at hb;rcases Hj _ _ _ _ hb with hb|⟨e,he,hbb,hh⟩;simp at hb;exact⟨e,Array.mem_toList_iff.1 he,hbb,hh⟩
 have hmem:∀x,x∈L0++h1::g1::r1↔x<os.length:=fun x=>by
  constructor
  intro hx;exact of_decide_eq_true (zm.1 hlt x hx)
  intro hx;have:=zm.1 hct x (List.mem_range.2 hx);simpa using this
 have hse:=Region.noSelect_spec hsel;have P2:∀ {l:List Nat},TW (I2 os.toArray ks (Region.before os.toArray).toList) l=true→l.Pairwise (EJ .any os.toArray (fun i=>ks.getD i 0) (fun j=>(Region.before os.toArray).toList.getD j 0)):=fun h=>K8 (fun x y hh=>FY hh) h;have N2:∀ {l:List Nat},TW (fun x y=>!(decide (4≤ks.getD x 0)) || ks.getD y 0 != 1) l=true→l.Pairwise (fun x y=>4≤ks.getD x 0→ks.getD y 0≠1):=fun h=>K8 (fun x y hxy h4=>by
  rcases Bool.or_eq_true_iff.1 hxy with hh|hh;simp only[Bool.not_eq_true',decide_eq_false_iff_not]at hh;exact absurd h4 hh;simpa using hh) h
 have hL2:∀x∈L0,ks.getD x 0≤2:=fun x hx=>of_decide_eq_true (zm.1 hl x hx);have hx4:∀x∈L0,_:=fun x hx=>zm.1 hpx x hx;simp only[z7]at hx4;have hordP:(L0++h1::g1::r1).Pairwise (fun x y=>∀ox,os.toArray[x]? = some ox→∀e∈ox.after,Region.binds .any e=true→e.on≠y):=K8 (fun x y hh ox hox e he hb=>by
  unfold SU at hh;rw[hox]at hh;have:=(Array.all_eq_true_iff_forall_mem.1 hh) e he;simpa [hb]using this) hord
 have hord2:(L0++g1::r1).Pairwise (fun x y=>∀ox,os.toArray[x]? = some ox→∀e∈ox.after,Region.binds .any e=true→e.on≠y):=hordP.sublist (List.Sublist.append_left (List.sublist_cons_self _ _) _);have zz1:∀z∈g1::r1,z=h2∨((Region.before os.toArray).toList.getD z 0).testBit h1=true∨((Region.before os.toArray).toList.getD z 0).testBit h2=true:=fun z hz=>by
  have:=zm.1 hz1 z hz;simpa only[Bool.or_eq_true,decide_eq_true_eq]using this
 have zz2:∀z∈r1,z=g2∨((Region.before os.toArray).toList.getD z 0).testBit g1=true∨((Region.before os.toArray).toList.getD z 0).testBit g2=true:=fun z hz=>by
  have:=zm.1 hz2 z hz;simpa only[Bool.or_eq_true,decide_eq_true_eq]using this
 have base1:=MK (P:=P) (w0:=w.drew) (Q:=fun a w=>Q .normal a w) hse hS hlex (P2 hb1)<|N2 hn1;have base2:=MK (P:=P) (w0:=w.drew) (Q:=fun a w=>Q .normal a w) hse hS hlex (P2 hb2)<|N2 hn2;have base3:=MK (P:=P) (w0:=w.drew) (Q:=fun a w=>Q .normal a w) hse hS hlex (P2 hb3)<|N2 hn3;have inner:=KT (P:=P) (w0:=w.drew) (Q:=fun a w=>Q .normal a w) hse hS hlex (h1:=g1) (h2:=g2) (S1:=r1) (S2:=r2) (List.isPerm_iff.1 hpe2) hk3 hk4 hL2 (P2 hpL) (fun x hx=>FY (hx4 x hx).2.2.1) (fun x hx=>FY (hx4 x hx).2.2.2) zz2 hord2 base1 base2;have outer:=KT (P:=P) (w0:=w.drew) (Q:=fun a w=>Q .normal a w) hse hS hlex (h1:=h1) (h2:=h2) (S1:=g1::r1) (S2:=r3) (List.isPerm_iff.1 hpe1) hk1 hk2 hL2 (P2 hpL) (fun x hx=>FY (hx4 x hx).1) (fun x hx=>FY (hx4 x hx).2.1) zz1 hordP inner base3;have key:=outer os.length L0 (Array.replicate os.length false) a w.drew ⟨List.Sublist.refl _,by rw[← hln,z4],fun x=>?_,by simp,?_,fun _=>AA.refl _,hnd⟩ ?_;have:=Jm _ _ _ _ key;simpa using this;rw[hmem];constructor
 intro hx;simp[hx]
 intro hh;rcases Nat.lt_or_ge x os.length with h'|h';exact h';simp[Array.getElem?_eq_none (show(Array.replicate os.length false).size≤x by simpa using h')]at hh
 intro i hi;rcases Nat.lt_or_ge i os.length with h'|h';simp[h']at hi;simp[Array.getElem?_eq_none (show(Array.replicate os.length false).size≤i by simpa using h')]at hi;refine Ef (fun a w hh=>⟨?_,?_⟩) _ _ _ _ _ hML h;exact Ef (fun a w hh=>⟨Pd _ _ _ _<|Ef (fun _ _ h=>h) _ _ _ _ _ hM1 hh.1,Pd _ _ _ _<|Ef (fun _ _ h=>h) _ _ _ _ _ hM2 hh.2⟩) _ _ _ _ _ hMh hh.1;exact Pd _ _ _ _<|Ef (fun _ _ h=>h) _ _ _ _ _ hM3 hh.2
theorem nG {ops:Array Oper}{w0:World}{Q:Act→World→Prop}{o:Oper}{os:List Oper}{ks:List Nat}{a:Act}{w:World}(h:_root_.Go.Proofs.YtemfgblmfahllaaGreat.LW P ops w0 (fun a' w'=>AA w w'∧LW P ops w0 Q os ks a' w') [o] [4] a w):LW P ops w0 Q (o::os) (3::ks) a w:=by simp only[_root_.Go.Proofs.YtemfgblmfahllaaGreat.LW]at h;simp only[LW];split;rename_i hw;rw[if_pos hw]at h;unfold _root_.Go.Proofs.YtemfgblmfahllaaGreat.BU at h;unfold BU;rw[if_neg (by decide),if_neg (by decide)]at h;rw[if_neg (by decide),if_pos rfl];exact h;rename_i hw;rw[if_neg hw]at h;exact h.2
theorem kZ {ops:Array Oper}{w0:World}{Q:Act→World→Prop}{o:Oper}{os:List Oper}{ks:List Nat}{a:Act}{w:World}(h:_root_.Go.Proofs.YtemfgblmfahllaaGreat.LW P ops w0 (fun a' w'=>LW P ops w0 Q os ks a' w') [o] [3] a w):LW P ops w0 Q (o::os) (3::ks) a w:=by simp only[_root_.Go.Proofs.YtemfgblmfahllaaGreat.LW]at h;simp only[LW];split;rename_i hw;rw[if_pos hw]at h;unfold _root_.Go.Proofs.YtemfgblmfahllaaGreat.BU at h;unfold BU;rw[if_neg (by decide),if_pos rfl]at h;rw[if_neg (by decide),if_pos rfl];exact Oper.wp_mono (fun a w hh=>⟨J.ext hh.1,hh.2⟩) h;rename_i hw;rw[if_neg hw]at h;exact h
end
end Jx
end
section
structure AF where
 op:Int
 a:Int
 b:Int
 num:Int
def AF.zero:AF:=⟨0,0,0,0⟩
structure H8 where
 reg:Int
 z:Bool
def H8.zero:H8:=⟨0,false⟩
structure Tp where
 code:List AF
 grd:List H8
 vals:List Int
def fl (x:AF):List Value:=[.int .i64 x.op,.int .i64 x.a,.int .i64 x.b,.int .i64 x.num]
def fm (x:H8):List Value:=[.int .i64 x.reg,.bool x.z]
def RO (x:AF):Prop:=Bl x.op∧Bl x.a∧Bl x.b∧Bl x.num
def KU:BM AF:=fun _ cs x F=>cs=fl x∧RO x∧F=[]
def KV:BM H8:=fun _ cs x F=>cs=fm x∧Bl x.reg∧F=[]
theorem B8:Cc 4 KU where
 len:=fun h=>by rw[h.1];rfl
 one:=fun h u hu=>by
  rw[h.1]at hu
  simp only[fl,ze,z2,or_false]at hu
  rcases hu with rfl|rfl|rfl|rfl <;> exact⟨rfl,rfl⟩
 lt:=fun h b hb=>by rw[h.2.2]at hb;cases hb
 stable:=fun h _=>h
theorem Bd:Cc 2 KV where
 len:=fun h=>by rw[h.1];rfl
 one:=fun h u hu=>by
  rw[h.1]at hu
  simp only[fm,ze,z2,or_false]at hu
  rcases hu with rfl|rfl <;> exact⟨rfl,rfl⟩
 lt:=fun h b hb=>by rw[h.2.2]at hb;cases hb
 stable:=fun h _=>h
theorem RQ {B U:Nat}{H:Array Obj}{x:AF}(h:RO x):kX KU B U H (fl x) x:=⟨[],⟨rfl,h,rfl⟩,zk,fun b hb=>by cases hb⟩
theorem Vk {B U:Nat}{H:Array Obj}{x:H8}(h:Bl x.reg):kX KV B U H (fm x) x:=⟨[],⟨rfl,h,rfl⟩,zk,fun b hb=>by cases hb⟩
section ops
variable {P:Program} {ops:Array Oper} {w0:World} {Q:Act→World→Prop} {os:List Oper} {ks:List Nat} {N:Nat} {ρ:Nat→Value} {w:World}
 {d:Nat} {ty:TypeId} {pos:String} {aft:Array Edge} {g:Option (Nat×Bool)} {t e:TypeId} {z:Value} {b s:Nat}
theorem KW {α:Type}{E:BM α}(hE:Cc s E){x y:Operand}{v a:Value}{xs:List α}{y0:α}{B T B' U':Nat}{F:List Nat}(ht:P.underlying t=some (.slice e))(hi:TI P e s z b)(hz:z.cells.size=s)(hs:0<s)(hx:Bv N ρ x=v)(hy:Bv N ρ y=a)(hv:Ow (DE s E e) B T w.heap v xs F)
  (ha:Fr (DE s E e) B' U' w.heap a [y0]) (hT:T≤B') (hB:B≤B') (hBw:B≤w.heap.size) (hbytes:(xs.length+1)*b≤140737488355328) (hmx:xs.length+1≤maxLen) (hu:Up ops N ρ ⟨some d,.call ⟨.builtin .append,#[x,y],#[t,t]⟩,ty,pos,aft,g⟩)
  (h:∀v1 w1 F1,AB F w w1→Ow (DE s E e) B w1.heap.size w1.heap v1 (xs++[y0]) F1→(∀c∈F1,c∈F∨(B'≤c∧c<U')∨w.heap.size≤c)→LW P ops w0 Q os ks (mk N (CI ρ d v1)) w1) :
  LW P ops w0 Q (⟨some d,.call ⟨.builtin .append,#[x,y],#[t,t]⟩,ty,pos,aft,g⟩::os) (4::ks) (mk N ρ) w:=by
 obtain⟨v1,w1,F0,r1,⟨F1,r2,r3,r4⟩,r5,r6⟩:=V1 (P:=P) (ty:=ty) hE ht hi hz hs (S:=fun b=>b∈F) (T:=fun b=>B'≤b∧b<U') ⟨F,hv.own,hv.nodup,fun _ h=>h⟩ ha (fun b h1 h2=>by have:=hv.high b h1;omega) hbytes hmx;have hh:∀c∈F1,c∈F∨(B'≤c∧c<U')∨w.heap.size≤c:=fun c hc=>by
  rcases r4 c hc with h|h|h;exact .inl h;exact .inr<|.inl h;exact .inr<|.inr<|Nat.le_of_eq h.symm
 exact K9 rfl hu v1 w1 (by simp only[execOp,resolve,invoke,builtin,zc,zf,zh,Sem.run_bind,Sem.run_pure,Result.andThen_ok,hx,hy,r1])
  (h v1 w1 F1 (r5.sub r6) ⟨r2,r3,fun c hc=>by
   rcases hh c hc with h|h|h;exact hv.low c h;omega;omega,fun c hc=>(AE hE).lt r2 c hc⟩ hh)
theorem FD {x y:Operand}{v a:Value}{xs ys:List Int}{B T:Nat}{F:List Nat}(ht:P.underlying t=some (.slice e))(hi:TI P e 1 z b)(hz:z.cells=#[z])(hx:Bv N ρ x=v)(hy:Bv N ρ y=a)(hv:Ow (Bq rI e) B T w.heap v xs F)
  (ha:Rd (B9 rI) w.heap a ys) (hB:B≤w.heap.size) (hbytes:(xs.length+ys.length)*b≤140737488355328) (hmx:xs.length+ys.length≤maxLen) (hu:Up ops N ρ ⟨some d,.call ⟨.builtin .append,#[x,y],#[t,t]⟩,ty,pos,aft,g⟩)
  (h:∀v1 w1 F1,AB F w w1→Ow (Bq rI e) B w1.heap.size w1.heap v1 (xs++ys) F1→(∀c∈F1,c∈F∨w.heap.size≤c)→LW P ops w0 Q os ks (mk N (CI ρ d v1)) w1) :
  LW P ops w0 Q (⟨some d,.call ⟨.builtin .append,#[x,y],#[t,t]⟩,ty,pos,aft,g⟩::os) (4::ks) (mk N ρ) w:=by
 obtain⟨G,g1⟩:=ha;have hG:G.drop 1=[]:=by
  rcases g1 with⟨_,_,_,_,rfl⟩|⟨us,g,off,cap,cur,e',fr,G',hels,_,_,_,_,rfl⟩;rfl;exact Jp hels
 obtain⟨v',w',F',r1,r2,r3,r4,r5⟩:=Kb (P:=P) (ty:=ty) AI ht hi hz hv.own hv.nodup g1 rfl hbytes hmx (fun c hc=>by rw[hG]at hc;cases hc) (by rw[hG];exact zk);have hh:∀c∈F',c∈F∨w.heap.size≤c:=fun c hc=>by
  rcases r4 c hc with h|h|h;exact .inl h;rw[hG]at h;cases h;exact .inr<|Nat.le_of_eq h.symm
 exact K9 rfl hu v' w' (by simp only[execOp,resolve,invoke,builtin,zc,zf,zh,Sem.run_bind,Sem.run_pure,Result.andThen_ok,hx,hy,r1])
  (h v' w' F' (r5.sub fun c hc=>zj hc) ⟨r2,r3,fun c hc=>by
   rcases hh c hc with h|h;exact hv.low c h;omega,fun c hc=>(AV AI).lt r2 c hc⟩ hh)
theorem Ys {x y:Operand} {v a u:Value} {xs:List Int} {r:Int} {S:List Nat} {B' U':Nat} (ht:P.underlying t = some (.slice e)) (hi:TI P e 1 z b) (hz:z.cells = #[z]) (hx:Bv N ρ x = Eg v) (hy:Bv N ρ y = a)
  (hv:RN S (B9 rI) w.heap v xs) (ha:Fr (Bq rV e) B' U' w.heap a [u]) (hr:RN S rI w.heap u r) (hS:∀ c∈S,c < w.heap.size) (hbytes:(xs.length + 1) * b≤140737488355328) (hmx:xs.length + 1≤maxLen)
  (hu:Up ops N ρ ⟨some d,.call ⟨.builtin .append,#[x,y],#[t,t]⟩,ty,pos,aft,g⟩)
  (h:∀ v1 w1,AA w w1→RN S (B9 rI) w1.heap v1 (xs++[r])→C8 v1→LW P ops w0 Q os ks (mk N (CI ρ d v1)) w1) :
  LW P ops w0 Q (⟨some d,.call ⟨.builtin .append,#[x,y],#[t,t]⟩,ty,pos,aft,g⟩ :: os) (4 :: ks) (mk N ρ) w:=by
 obtain ⟨G,g1',g2',g3'⟩:=ha;obtain ⟨K,k1,k2⟩:=hv;obtain ⟨R,r1,r2⟩:=hr;obtain ⟨i,h1,h2,h3,h4⟩:=hi.get;subst h4;have hone:=AI.one r1;rcases g1' with ⟨_,hc,_⟩ | ⟨asq,ga,capa,cura,Fa,helsa,hav,hga,qa1,qa2,qa3,qa4,rfl⟩;cases hc
 ·obtain ⟨hq,hFa⟩:=Gq helsa;subst hq;subst hav;have hnews:∀ j q,[u][j]? = some q→w.cell? ((⟨ga,0,none⟩:Addr).add j) = some q:=by
   intro j q hj;rw [G0,BQ];simp only [C1,hga];rw [← qa4,List.getElem?_take] at hj;split at hj;simpa using hj;cases hj
  have made:∀ (w1:World) (ous:List Value) (K0:List Nat) (rest:Nat),w1.heap = w.heap→w1.os = w.os→w1.tape = w.tape→w1.output = w.output→els rI w.heap ous xs K0→(∀ c∈K0,c∈K)→xs.length + 1 + rest≤maxLen →
    AA w (w1.alloc (.cells (ous.toArray++[u].toArray++Builtin.zeroCells z.cells rest) e))∧RN S (B9 rI) (w1.alloc (.cells (ous.toArray++[u].toArray++Builtin.zeroCells z.cells rest) e)).heap (.slice (some ⟨w.heap.size,0,none⟩) (xs.length + 1) (xs.length + 1 + rest)) (xs++[r]):=by
   intro w1 ous K0 rest hh ho htp hop hou hsub hmax;have hE:AA w (w1.alloc (.cells (ous.toArray++[u].toArray++Builtin.zeroCells z.cells rest) e)):=by
    refine ⟨ho,htp,hop,?_,fun k hk=>?_⟩;show w.heap.size≤(w1.heap.push _).size;rw [hh]; simp;have:=Below.heap_alloc w1 (.cells (ous.toArray++[u].toArray++Builtin.zeroCells z.cells rest) e) k (by rw [hh]; exact hk);rw [this,hh]
   refine ⟨hE,w.heap.size :: (K0++R),.inr ⟨ous++[u],w.heap.size,0,xs.length + 1 + rest,(ous.toArray++[u].toArray++Builtin.zeroCells z.cells rest),e,(0,0),K0++R,?_,by simp,?_,?_,by simp; omega,rfl⟩,?_⟩;refine els.stable AI (hou.append (show els rI w.heap [u] [r] R from ⟨R,[],by simp,r1,rfl⟩)) fun c hc=>hE.heap ?_;exact (hou.append (show els rI w.heap [u] [r] R from ⟨R,[],by simp,r1,rfl⟩)).lt AI c hc;have:=heap_alloc_new w1 (.cells (ous.toArray++[u].toArray++Builtin.zeroCells z.cells rest) e);rw [hh] at this; exact this;have hl:=hou.length;simp only [Array.toList_append,List.drop_zero];rw [show (xs++[r]).length = (ous++[u]).length from by simp [hl]];exact List.take_left
   intro c hc hm;rcases ze.1 hc with rfl | hc;have:=hS _ hm; omega;rcases zi.1 hc with hc | hc;exact k2 c (hsub c hc) hm;exact r2 c hc hm
  have hone1:[u].length = [u].length * i.size:=by rw [h3,Nat.mul_one]
  rcases k1 with ⟨a0,cap0,rfl,rfl,rfl⟩ | ⟨ous,gv,off,cap,cur,e',fr,K',hels,rfl,hg,hw,_,rfl⟩
  ·-- nothing so far
   cases a0 with
   | none =>
    have hrr:=run_append_nil (P:=P) w t ty e i z ht h1 h2 ⟨ga,0,none⟩ 1 capa [u] hone1 hnews (by decide) (by decide) (by simp at hbytes; omega);have hge:=grownCap_ge w 1 0 e;have hgm:=grownCap_le_maxLen w 1 0 e (by simpa using hmx);obtain ⟨q1,q2⟩:=made w.drew [] [] (grownCap w 1 0 e - 1) rfl rfl rfl rfl rfl (fun c hc=>by cases hc) (by simp; omega);refine K9 rfl hu _ _ (by simp only [execOp,resolve,invoke,builtin,zc,zf,zh,Sem.run_bind,Sem.run_pure,Result.andThen_ok,hx,hy,Eg]; rw [show [u].length = 1 from rfl,hrr]; rfl)<|h _ _ ?_ ?_ ?_;simpa using q1;have ea:(([]:List Int).length + 1 + (grownCap w 1 0 e - 1)) = grownCap w 1 0 e:=by simp; omega
    rw [ea] at q2;simpa using q2;exact hge
   | some a1 =>
    have hrr:=run_append_grow (P:=P) w t ty e i z ht h1 h2 a1 0 0 [] (by rw [h3]; rfl) (by intro j q hj; cases hj) ⟨ga,0,none⟩ 1 capa [u] hone1 hnews zO (by decide)<|growslice_fits zO (by simpa using hbytes);have hge:=grownCap_ge w (0 + 1) 0 e;have hgm:=grownCap_le_maxLen w (0 + 1) 0 e (by simpa using hmx);obtain ⟨q1,q2⟩:=made w.drew [] [] (grownCap w (0 + 1) 0 e - (0 + 1)) rfl rfl rfl rfl rfl (fun c hc=>by cases hc) (by show 0 + 1 + (grownCap w (0 + 1) 0 e - (0 + 1))≤maxLen; omega);refine K9 rfl hu _ _ (by simp only [execOp,resolve,invoke,builtin,zc,zf,zh,Sem.run_bind,Sem.run_pure,Result.andThen_ok,hx,hy,Eg]; rw [show [u].length = 1 from rfl,hrr]; rfl)<|h _ _ q1 ?_ ?_;rotate_left;exact hge;have ea:(([]:List Int).length + 1 + (grownCap w (0 + 1) 0 e - (0 + 1))) = grownCap w (0 + 1) 0 e:=by show 0 + 1 + (grownCap w (0 + 1) 0 e - (0 + 1)) = _; omega
    rw [ea] at q2;simpa using q2
  ·have holds:∀ j q,ous[j]? = some q→w.cell? ((⟨gv,off,none⟩:Addr).add j) = some q:=by
    intro j q hj;rw [G0,BQ];simp only [C1,hg];rw [← hw,List.getElem?_take] at hj;split at hj;rw [List.getElem?_drop] at hj; simpa using hj;cases hj
   have hrr:=run_append_grow (P:=P) w t ty e i z ht h1 h2 ⟨gv,off,none⟩ xs.length xs.length ous (by rw [h3,hels.length]; omega) holds ⟨ga,0,none⟩ 1 capa [u] hone1 hnews zO (by simp only [maxLen] at hmx; omega)<|growslice_fits zO hbytes;have hge:=grownCap_ge w (xs.length + 1) xs.length e;have hgm:=grownCap_le_maxLen w (xs.length + 1) xs.length e hmx;obtain ⟨q1,q2⟩:=made w.drew ous K' (grownCap w (xs.length + 1) xs.length e - (xs.length + 1)) rfl rfl rfl rfl hels (fun c hc=>z3 _ hc) zO;refine K9 rfl hu _ _ (by simp only [execOp,resolve,invoke,builtin,zc,zf,zh,Sem.run_bind,Sem.run_pure,Result.andThen_ok,hx,hy,Eg]; rw [show [u].length = 1 from rfl,hrr]; rfl)<|h _ _ q1 ?_ ?_;rotate_left;exact hge;have ea:(xs.length + 1 + (grownCap w (xs.length + 1) xs.length e - (xs.length + 1))) = grownCap w (xs.length + 1) xs.length e:=by omega
   rw [ea] at q2;exact q2
end ops
def BZ (t1 t2 t3:TypeId)(S:List Nat)(g:Nat)(H:Array Obj)(vc vg vv:Value)(T:Tp):Prop :=
 ∃Fc Fg Fv,Ow (DE 4 KU t1) 0 H.size H vc T.code Fc∧Ow (DE 2 KV t2) 0 H.size H vg T.grd Fg∧Ow (Bq rI t3) 0 H.size H vv T.vals Fv ∧
  ((∀b∈Fc,b∉Fg)∧(∀b∈Fc,b∉Fv)∧(∀b∈Fg,b∉Fv))∧(g∉Fc∧g∉Fg∧g∉Fv)∧(∀b∈Fc,b∈S)∧(∀b∈Fg,b∈S)∧(∀b∈Fv,b∈S)
section rcm
variable {t1 t2 t3:TypeId} {S S':List Nat} {g:Nat} {w w':World} {vc vg vv:Value} {T:Tp}
theorem Ow.chgS {α:Type}{E:Bz α}(hE:Cr E){B:Nat}{v:Value}{x:α}{F G:List Nat}(h:Ow E B w.heap.size w.heap v x F)(c:AB G w w')(hG:∀b∈G,b∉F):Ow E B w'.heap.size w'.heap v x F:=(h.keep hE c hG).up c.size
theorem BZ.ext (h:BZ t1 t2 t3 S g w.heap vc vg vv T)(k:AA w w'):BZ t1 t2 t3 S g w'.heap vc vg vv T:=by obtain⟨Fc,Fg,Fv,h1,h2,h3,h4⟩:=h;exact⟨Fc,Fg,Fv,(h1.ext (AE B8) k).up k.size,(h2.ext (AE Bd) k).up k.size,(h3.ext (AV AI) k).up k.size,h4⟩
theorem BZ.chg (h:BZ t1 t2 t3 S g w.heap vc vg vv T)(k:AB [g] w w'):BZ t1 t2 t3 S g w'.heap vc vg vv T:=by
 obtain⟨Fc,Fg,Fv,h1,h2,h3,h4,h5,h6⟩:=h;exact⟨Fc,Fg,Fv,h1.chgS (AE B8) k fun b hb hm=>by rw[A9 hb]at hm;exact h5.1 hm,h2.chgS (AE Bd) k fun b hb hm=>by rw[A9 hb]at hm;exact h5.2.1 hm,
  h3.chgS (AV AI) k fun b hb hm=>by rw[A9 hb]at hm;exact h5.2.2 hm,h4,h5,h6⟩
theorem BZ.chgO {F:List Nat}(h:BZ t1 t2 t3 S g w.heap vc vg vv T)(k:AB F w w')(hF:∀b∈F,b∉S):BZ t1 t2 t3 S g w'.heap vc vg vv T:=by
 obtain⟨Fc,Fg,Fv,h1,h2,h3,h4,h5,h6⟩:=h;exact⟨Fc,Fg,Fv,h1.chgS (AE B8) k fun b hb hm=>hF b hb (h6.1 b hm),h2.chgS (AE Bd) k fun b hb hm=>hF b hb (h6.2.1 b hm),
  h3.chgS (AV AI) k fun b hb hm=>hF b hb (h6.2.2 b hm),h4,h5,h6⟩
theorem BZ.rdv (h:BZ t1 t2 t3 S g w.heap vc vg vv T):Rd (B9 rI) w.heap vv T.vals:=by obtain⟨Fc,Fg,Fv,h1,h2,h3,_⟩:=h;exact h3.fr.rd1
theorem BZ.slv (h:BZ t1 t2 t3 S g w.heap vc vg vv T):FB vv T.vals.length:=by obtain⟨Fc,Fg,Fv,h1,h2,h3,_⟩:=h;exact h3.fr.isSl
theorem BZ.slc (h:BZ t1 t2 t3 S g w.heap vc vg vv T):FB vc T.code.length:=by obtain⟨Fc,Fg,Fv,h1,h2,h3,_⟩:=h;exact h1.own.isSl
theorem BZ.slg (h:BZ t1 t2 t3 S g w.heap vc vg vv T):FB vg T.grd.length:=by obtain⟨Fc,Fg,Fv,h1,h2,h3,_⟩:=h;exact h2.own.isSl
end rcm
def Ul (t1 t2 t3:TypeId)(S:List Nat)(g:Nat)(H:Array Obj)(vp:Value)(ip:Int)(T:Tp)(s:Nat)(c:Int):Prop :=
 ∃vc vg vv,BX H g [vp,.int .i64 ip,vc,vg,.slice none 0 0,vv,.int .i64 ((s:Nat):Int),.int .i64 c]∧BZ t1 t2 t3 S g H vc vg vv T
theorem RN.stp {α:Type}{E:Bz α}(hE:Cr E){S S':List Nat}{w w':World}{v:Value}{x:α}(h:RN S E w.heap v x)(c:AB S w w')(hs:∀b∈S',b∈S∨w.heap.size≤b):RN S' E w'.heap v x:=by obtain⟨F,h1,h2⟩:=h;refine⟨F,hE.stable h1 fun b hb=>c.block b (hE.lt h1 b hb) (h2 b hb),fun b hb hm=>?_⟩;rcases hs b hm with hh|hh;exact h2 b hb hh;have:=hE.lt h1 b hb;omega
theorem AB.stp {S S':List Nat}{a b c:World}(h:AB S a b)(k:AB S' b c)(hs:∀x∈S',x∈S∨a.heap.size≤x):AB S a c :=
 ⟨k.os.trans h.os,k.tape.trans h.tape,k.output.trans h.output,A8 h.size k.size,fun i hi hm=>(k.block i (Nat.lt_of_lt_of_le hi h.size) fun hh=>by
  rcases hs i hh with h9|h9
  exact hm h9
  omega).trans (h.block i hi hm)⟩
theorem RR {S S' S'':List Nat}{n m:Nat}(h:∀b∈S',b∈S∨n≤b)(k:∀b∈S'',b∈S'∨m≤b)(hn:n≤m):∀b∈S'',b∈S∨n≤b:=fun b hb=>by
 rcases k b hb with hh|hh
 exact h b hh
 exact .inr zO
end
section
def Tp.put (T:Tp)(c:AF)(v:Int):Tp:=⟨T.code++[c],T.grd,T.vals++[v]⟩
def Tp.guard (T:Tp)(r:Int)(z:Bool):Tp:=⟨T.code,T.grd++[⟨r,z⟩],T.vals⟩
def Tp.at (T:Tp)(r:Int):Int:=T.vals.getD r.toNat 0
abbrev RI:=Int×Tp
abbrev RL:=List Int×Tp
structure Cg where
 one:Nat→Nat→List Int→Nat→Tp→Rs RI
 all:Nat→List Int→Nat→Tp→Rs RL
def Ed (f:List Int→Nat→Tp→Rs RL):Nat→List Int→Nat→Tp→Rs RL
 |0,a,s,T=>.ok (a,T) s
 |k+1,a,s,T=>(Ed f k a s T).bind fun x t=>f x.1 t x.2
def Gj (k x y:Int):Int:=if k=3 then md (x+y)else if k=4 then md (x-y)else if k=5 then md (x*y)else if k=7 then md (0-x)else md (x*inv y)
def HU (k:Int)(xs:List Int):AF:=⟨k,xs.getD 0 0,if k=7 then 0 else xs.getD 1 0,0⟩
def RS (k:Int)(xs:List Int)(t:Nat)(T:Tp):Rs RI :=
 if k≠3∧k≠4∧k≠5∧k≠7∧T.at (HU k xs).b=0 then .err 6
 else .ok (((T.vals.length:Nat):Int),T.put (HU k xs) (Gj k (T.at (HU k xs).a) (T.at (HU k xs).b))) t
mutual
def Ei (C:Cg):Ex→List Int→Nat→Tp→Rs RI
 |.mk k num pick cnt l,env,s,T =>
  if 3000≤s then .err 7
  else if k=1 then .ok (((T.vals.length:Nat):Int),T.put ⟨2,0,0,num⟩ num) (s+1)
  else if k=2 then .ok (env.getD num.toNat 0,T) (s+1)
  else if k=8 then(Oz C l 0 env (s+1) T).bind fun x t=>if x.2.at x.1=0 then Oz C l 1 env t (x.2.guard x.1 true)else Oz C l 2 env t (x.2.guard x.1 false)
  else if k=9 then(Oz C l 0 env (s+1) T).bind fun x t=>Oz C l 1 (env++[x.1]) t x.2
  else(Et C l env (s+1) T).bind fun xs t =>
   if k=10 then C.one num.toNat pick.toNat xs.1 t xs.2
   else if k=11 then(Ed (C.all num.toNat) cnt.toNat xs.1 t xs.2).bind fun ys u=>.ok (ys.1.getD pick.toNat 0,ys.2) u
   else RS k xs.1 t xs.2
def Oz (C:Cg):List Ex→Nat→List Int→Nat→Tp→Rs RI
 |[],_,_,_,_=>.err 0
 |e::_,0,env,s,T=>Ei C e env s T
 |_::l,j+1,env,s,T=>Oz C l j env s T
def Et (C:Cg):List Ex→List Int→Nat→Tp→Rs RL
 |[],_,s,T=>.ok ([],T) s
 |e::l,env,s,T=>(Ei C e env s T).bind fun x t=>(Et C l env t x.2).bind fun xs u=>.ok (x.1::xs.1,xs.2) u
end
theorem DW (C:Cg)(env:List Int)(s:Nat)(T:Tp):∀(l:List Ex)(j:Nat),j<l.length→Oz C l j env s T=Ei C (l.getD j Ex.zero) env s T
 |[],j,h=>by simp at h
 |e::l,0,_=>by rw[Oz];rfl
 |e::l,j+1,h=>by rw[Oz,DW C env s T l j (by simpa using h)];simp
theorem ML (C:Cg)(env:List Int)(e:Ex):∀(l:List Ex)(s:Nat)(T:Tp),Et C (l++[e]) env s T=(Et C l env s T).bind fun xs t=>(Ei C e env t xs.2).bind fun x u=>.ok (xs.1++[x.1],x.2) u
 |[],s,T=>by
  rw[zl,Et,Et]
  simp only[Rs.bind_ok]
  cases Ei C e env s T <;> simp only[Rs.bind_ok,Rs.bind_err,Et] <;> rfl
 |a::l,s,T=>by
  rw[List.cons_append,Et,Et]
  cases Ei C a env s T with
  |err c=>rfl
  |ok x t =>
   simp only[Rs.bind_ok]
   rw[ML C env e l t]
   simp only[Rs.bind_assoc]
   cases Et C l env t x.2 with
   |err c=>rfl
   |ok xs u =>
    simp only[Rs.bind_ok]
    cases Ei C e env u xs.2 <;> rfl
theorem QC {C:Cg}{env:List Int}{s:Nat}{T:Tp}{l:List Ex}{k:Nat}(hk:k<l.length):Et C (l.take (k+1)) env s T=(Et C (l.take k) env s T).bind fun xs t=>(Ei C (l.getD k Ex.zero) env t xs.2).bind fun x u=>.ok (xs.1++[x.1],x.2) u:=by rw[List.take_succ_eq_append_getElem hk,ML];simp[hk]
theorem Ee (C:Cg)(e:Ex)(env:List Int)(s:Nat)(T:Tp):Ei C e env s T =
  if 3000≤s then .err 7
  else if e.kind=1 then .ok (((T.vals.length:Nat):Int),T.put ⟨2,0,0,e.num⟩ e.num) (s+1)
  else if e.kind=2 then .ok (env.getD e.num.toNat 0,T) (s+1)
  else if e.kind=8 then(Oz C e.kids 0 env (s+1) T).bind fun x t=>if x.2.at x.1=0 then Oz C e.kids 1 env t (x.2.guard x.1 true)else Oz C e.kids 2 env t (x.2.guard x.1 false)
  else if e.kind=9 then(Oz C e.kids 0 env (s+1) T).bind fun x t=>Oz C e.kids 1 (env++[x.1]) t x.2
  else(Et C e.kids env (s+1) T).bind fun xs t =>
   if e.kind=10 then C.one e.num.toNat e.pick.toNat xs.1 t xs.2
   else if e.kind=11 then(Ed (C.all e.num.toNat) e.count.toNat xs.1 t xs.2).bind fun ys u=>.ok (ys.1.getD e.pick.toNat 0,ys.2) u
   else RS e.kind xs.1 t xs.2:=by cases e;rw[Ei];rfl
def H9 (p:List Fn):Nat→Cg
 |0=>⟨fun _ _ _ _ _=>.err 0,fun _ _ _ _=>.err 0⟩
 |k+1=>⟨fun f j a s T=>if f=k then Ei (H9 p k) ((p.getD k Fn.zero).outs.getD j Ex.zero) a s T else(H9 p k).one f j a s T,
   fun f a s T=>if f=k then Et (H9 p k) (p.getD k Fn.zero).outs a s T else(H9 p k).all f a s T⟩
theorem M9 {p:List Fn}{f j:Nat}{a:List Int}{s:Nat}{T:Tp}:∀ {F:Nat},f<F→(H9 p F).one f j a s T=Ei (H9 p f) ((p.getD f Fn.zero).outs.getD j Ex.zero) a s T
 |0,h=>by omega
 |F+1,h=>by
  show(if f=F then _ else _)=_
  split
  rename_i e;rw[e]
  exact M9 zO
theorem Ki {p:List Fn}{f:Nat}{a:List Int}{s:Nat}{T:Tp}:∀ {F:Nat},f<F→(H9 p F).all f a s T=Et (H9 p f) (p.getD f Fn.zero).outs a s T
 |0,h=>by omega
 |F+1,h=>by
  show(if f=F then _ else _)=_
  split
  rename_i e;rw[e]
  exact Ki zO
section
variable {C:Cg} {e:Ex} {env:List Int} {s s1 s2:Nat} {c c1 c2:Int} {T T1 T2:Tp} {x y:Int} {xs ys:List Int}
theorem Yt {α:Type}{r:Rs α}{x:α}(hc:c≠0):AQ (go c r) x s c:=AQ.mk_err (DJ hc r) hc
theorem U7 {x:RI}(hc:c=0)(hs:s=3000):AQ (go c (Ei C e env s T)) x s1 7:=by subst hc;rw[CX,Ee,if_pos (by omega)];exact AQ.mk_err rfl (by decide)
theorem cU (hc:c=0)(hs:s+1≤3000)(hk:e.kind=1):AQ (go c (Ei C e env s T)) (((T.vals.length:Nat):Int),T.put ⟨2,0,0,e.num⟩ e.num) (s+1) c:=by subst hc;rw[CX,Ee,if_neg zO,if_pos hk];exact AQ.mk_ok rfl
theorem cV (hc:c=0)(hs:s+1≤3000)(hk:e.kind=2):AQ (go c (Ei C e env s T)) (env.getD e.num.toNat 0,T) (s+1) c:=by subst hc;rw[CX,Ee,if_neg zO,if_neg zO,if_pos hk];exact AQ.mk_ok rfl
theorem cW {z:RI}(hc:c=0)(hs:s+1≤3000)(hk:e.kind=8)(hl:e.kids.length=3)(h1:AQ (go c (Ei C (e.kids.getD 0 Ex.zero) env (s+1) T)) (x,T1) s1 c1)(hc1:c1≠0):AQ (go c (Ei C e env s T)) z s2 c1:=by subst hc;rw[CX]at h1;rw[CX,Ee,if_neg zO,if_neg zO,if_neg zO,if_pos hk,DW _ _ _ _ _ _ zO,h1.bindE hc1];exact AQ.mk_err rfl hc1
theorem cX (hc:c=0)(hs:s+1≤3000)(hk:e.kind=8)(hl:e.kids.length=3)(h1:AQ (go c (Ei C (e.kids.getD 0 Ex.zero) env (s+1) T)) (x,T1) s1 c1)(hc1:c1=0)(hx:T1.at x=0)
  (h2:AQ (go c1 (Ei C (e.kids.getD 1 Ex.zero) env s1 (T1.guard x (decide (T1.at x=0))))) (y,T2) s2 c2):AQ (go c (Ei C e env s T)) (y,T2) s2 c2:=by
 subst hc;subst hc1;rw[CX]at h1 h2;rw[CX,Ee,if_neg zO,if_neg zO,if_neg zO,if_pos hk,DW _ _ _ _ _ _ zO,h1.bindO];dsimp only;rw[A5 hx]at h2;rw[if_pos hx,DW _ _ _ _ _ _ (by omega)];exact h2
theorem cY (hc:c=0)(hs:s+1≤3000)(hk:e.kind=8)(hl:e.kids.length=3)(h1:AQ (go c (Ei C (e.kids.getD 0 Ex.zero) env (s+1) T)) (x,T1) s1 c1)(hc1:c1=0)(hx:¬T1.at x=0)
  (h2:AQ (go c1 (Ei C (e.kids.getD 2 Ex.zero) env s1 (T1.guard x (decide (T1.at x=0))))) (y,T2) s2 c2):AQ (go c (Ei C e env s T)) (y,T2) s2 c2:=by
 subst hc;subst hc1;rw[CX]at h1 h2;rw[CX,Ee,if_neg zO,if_neg zO,if_neg zO,if_pos hk,DW _ _ _ _ _ _ zO,h1.bindO];dsimp only;rw[A6 hx]at h2;rw[if_neg hx,DW _ _ _ _ _ _ (by omega)];exact h2
theorem cZ (hc:c=0)(hs:s+1≤3000)(hk:e.kind=9)(hl:e.kids.length=2)(h1:AQ (go c (Ei C (e.kids.getD 0 Ex.zero) env (s+1) T)) (x,T1) s1 c1)
  (h2:AQ (go c1 (Ei C (e.kids.getD 1 Ex.zero) (env++[x]) s1 T1)) (y,T2) s2 c2):AQ (go c (Ei C e env s T)) (y,T2) s2 c2:=by
 subst hc;rw[CX,Ee,if_neg zO,if_neg zO,if_neg zO,if_neg zO,if_pos hk,DW _ _ _ _ _ _ (by omega)];rw[CX]at h1;by_cases h0:c1=0;subst h0;rw[h1.bindO,DW _ _ _ _ _ _ (by omega)];exact h2;rw[h1.bindE h0];rw[DJ h0]at h2;exact h2
theorem Kj (hs:s+1≤3000)(h1:e.kind≠1)(h2:e.kind≠2)(h8:e.kind≠8)(h9:e.kind≠9):Ei C e env s T=(Et C e.kids env (s+1) T).bind fun xs t =>
  if e.kind=10 then C.one e.num.toNat e.pick.toNat xs.1 t xs.2
   else if e.kind=11 then(Ed (C.all e.num.toNat) e.count.toNat xs.1 t xs.2).bind fun ys u=>.ok (ys.1.getD e.pick.toNat 0,ys.2) u
   else RS e.kind xs.1 t xs.2:=by
 rw[Ee,if_neg zO,if_neg h1,if_neg h2,if_neg h8,if_neg h9]
theorem Vl {z:RI}(hc:c=0)(hs:s+1≤3000)(h1:e.kind≠1)(h2:e.kind≠2)(h8:e.kind≠8)(h9:e.kind≠9)(hr:AQ (go c (Et C e.kids env (s+1) T)) (xs,T1) s1 c1)(hc1:c1≠0):AQ (go c (Ei C e env s T)) z s2 c1:=by subst hc;rw[CX]at hr ⊢;rw[Kj hs h1 h2 h8 h9,hr.bindE hc1];exact AQ.mk_err rfl hc1
theorem Yu {p:List Fn}{F:Nat}(hc:c=0)(hs:s+1≤3000)(hk:e.kind=10)(hF:e.num.toNat<F)(hr:AQ (go c (Et (H9 p F) e.kids env (s+1) T)) (xs,T1) s1 c1)(hc1:c1=0)
  (h2:AQ (go c1 (Ei (H9 p e.num.toNat) ((p.getD e.num.toNat Fn.zero).outs.getD e.pick.toNat Ex.zero) xs s1 T1)) (y,T2) s2 c2):AQ (go c (Ei (H9 p F) e env s T)) (y,T2) s2 c2:=by
 subst hc;subst hc1;rw[CX]at hr h2 ⊢;rw[Kj hs zO zO zO zO,hr.bindO,if_pos hk,M9 hF];exact h2
theorem Yw {p:List Fn}{F:Nat}(hc:c=0)(hs:s+1≤3000)(hk:e.kind=11)(hF:e.num.toNat<F)(hr:AQ (go c (Et (H9 p F) e.kids env (s+1) T)) (xs,T1) s1 c1)(hc1:c1=0)
  (h2:AQ (Ed (fun a t U=>Et (H9 p e.num.toNat) (p.getD e.num.toNat Fn.zero).outs a t U) e.count.toNat xs s1 T1) (ys,T2) s2 c2):AQ (go c (Ei (H9 p F) e env s T)) (ys.getD e.pick.toNat 0,T2) s2 c2:=by
 subst hc;subst hc1;rw[CX]at hr ⊢;rw[Kj hs zO zO zO zO,hr.bindO,if_neg zO,if_pos hk];have hl:(H9 p F).all e.num.toNat=fun a t U=>Et (H9 p e.num.toNat) (p.getD e.num.toNat Fn.zero).outs a t U:=funext fun a=>funext fun t=>funext fun U=>Ki hF;rw[hl];by_cases h0:c2=0;subst h0;rw[h2.bindO];exact AQ.mk_ok rfl;rw[h2.bindE h0];exact AQ.mk_err rfl h0
theorem fo {z:RI}(hc:c=0)(hs:s+1≤3000)(h1:e.kind≠1)(h2:e.kind≠2)(h8:e.kind≠8)(h9:e.kind≠9)(h10:e.kind≠10)(h11:e.kind≠11)(hr:AQ (go c (Et C e.kids env (s+1) T)) (xs,T1) s1 c1)(hc1:c1=0)
  (h:AQ (go c1 (RS e.kind xs s1 T1)) z s2 c2):AQ (go c (Ei C e env s T)) z s2 c2:=by
 subst hc;subst hc1;rw[CX]at hr h ⊢;rw[Kj hs h1 h2 h8 h9,hr.bindO,if_neg h10,if_neg h11];exact h
theorem MM (C:Cg)(l:List Ex)(env:List Int)(s:Nat)(T:Tp)(c:Int):AQ (go c (Et C (l.take 0) env s T)) ([],T) s c:=by rw[List.take_zero,Et];by_cases h:c=0;subst h;exact AQ.mk_ok rfl;exact AQ.mk_err (DJ h _) h
theorem Yx {l:List Ex}{k:Nat}(hk:k<l.length)(h:AQ (go c (Et C (l.take k) env s T)) (xs,T1) s1 c1)(h2:AQ (go c1 (Ei C (l.getD k Ex.zero) env s1 T1)) (x,T2) s2 c2) :
  AQ (go c (Et C (l.take (k+1)) env s T)) (xs++[x],T2) s2 c2:=by
 by_cases hc:c=0;subst hc;rw[CX]at h ⊢;rw[QC hk];by_cases h0:c1=0;subst h0;rw[CX]at h2;rw[h.bindO];by_cases h9:c2=0;subst h9;rw[h2.bindO];exact AQ.mk_ok rfl;rw[h2.bindE h9];exact AQ.mk_err rfl h9;rw[h.bindE h0];rw[DJ h0]at h2;have:=h2.1;exact AQ.mk_err (by rw[this]) (this ▸ h0);rw[DJ hc]at h ⊢;have h3:=h.1;subst h3;rw[DJ hc]at h2;exact AQ.mk_err (by rw[h2.1]) (h2.1 ▸ hc)
theorem dA {f:List Int→Nat→Tp→Rs RL}{k:Nat}(h:AQ (Ed f k xs s T) (ys,T1) s1 c1)(hc:c1=0){zs:RL}(h2:AQ (go c1 (f ys s1 T1)) zs s2 c2):AQ (Ed f (k+1) xs s T) zs s2 c2:=by subst hc;show AQ ((Ed f k xs s T).bind _) _ _ _;rw[h.bindO];rw[CX]at h2;exact h2
theorem QD {f:List Int→Nat→Tp→Rs RL}{d:Int}:∀ {m k:Nat},Ed f k xs s T=.err d→k≤m→Ed f m xs s T=.err d
 |0,k,h,hk=>by
  have:k=0:=by omega
  subst this;exact h
 |m+1,k,h,hk=>by
  by_cases e:k=m+1
  subst e;exact h
  show(Ed f m xs s T).bind _=_
  rw[QD h (by omega)];rfl
theorem Yy {f:List Int→Nat→Tp→Rs RL}{k m:Nat}{zs:RL}(h:AQ (Ed f k xs s T) zs s1 c1)(hk:k≤m)(hs:k=m∨c1≠0):AQ (Ed f m xs s T) zs s1 c1:=by by_cases hc:c1=0;rcases hs with rfl|hh;exact h;exact absurd hc hh;exact AQ.mk_err (QD (h.err hc) hk) hc
end
def Gt (T:Tp)(s:Nat):Prop:=T.code.length=T.vals.length∧T.vals.length≤12+s∧T.grd.length≤s∧Bi T.vals=true
theorem Gt.put {T:Tp}{s:Nat}(h:Gt T s)(c:AF){v:Int}(hv:0≤v∧v<1000003):Gt (T.put c v) (s+1):=by obtain⟨h1,h2,h3,h4⟩:=h;unfold Tp.put;refine⟨by simp[h1],by simp;omega,by simp;omega,?_⟩;unfold Bi at h4 ⊢;rw[List.all_append,h4];simp[Di.2 hv]
theorem Gt.guard {T:Tp}{s:Nat}(h:Gt T s)(r:Int)(z:Bool)(hg:T.grd.length+1≤s):Gt (T.guard r z) s:=by obtain⟨h1,h2,h3,h4⟩:=h;exact⟨h1,h2,by show(T.grd++[_]).length≤s;simp;omega,h4⟩
theorem Gt.up {T:Tp}{s s':Nat}(h:Gt T s)(hs:s≤s'):Gt T s':=⟨h.1,by have:=h.2.1;omega,by have:=h.2.2.1;omega,h.2.2.2⟩
theorem Gt.dn {T:Tp}{s s':Nat}(h:Gt T s)(hv:T.vals.length≤12+s')(hg:T.grd.length≤s'):Gt T s':=⟨h.1,hv,hg,h.2.2.2⟩
theorem Gt.ln {T:Tp}{s:Nat}(h:Gt T s)(hs:s≤3000):T.code.length≤4000∧T.vals.length≤4000:=by have:=h.1;have:=h.2.1;omega
abbrev Eu (k b:Int):Prop:=k≠3∧k≠4∧k≠5∧k≠7∧b=0
section
variable {k a b:Int}
theorem Vm (h:k=3):(if Eu k b then 0 else Gj k a b)=md (a+b)∧(!decide (Eu k b))=true:=by subst h;exact⟨rfl,rfl⟩
theorem Vn (h:k=4):(if Eu k b then 0 else Gj k a b)=md (a-b)∧(!decide (Eu k b))=true:=by subst h;exact⟨rfl,rfl⟩
theorem Vo (h:k=5):(if Eu k b then 0 else Gj k a b)=md (a*b)∧(!decide (Eu k b))=true:=by subst h;exact⟨rfl,rfl⟩
theorem Vp (h:k=7):(if Eu k b then 0 else Gj k a b)=md (0-a)∧(!decide (Eu k b))=true:=by subst h;exact⟨rfl,rfl⟩
theorem SW (h:k≠3∧k≠4∧k≠5∧k≠7)(hb:b=0):(if Eu k b then 0 else Gj k a b)=0∧(!decide (Eu k b))=false:=by have hz:Eu k b:=⟨h.1,h.2.1,h.2.2.1,h.2.2.2,hb⟩;rw[if_pos hz,A5 hz];exact⟨rfl,rfl⟩
theorem Vq (h:k≠3∧k≠4∧k≠5∧k≠7)(hb:b≠0):(if Eu k b then 0 else Gj k a b)=md (a*inv b)∧(!decide (Eu k b))=true:=by have hz:¬Eu k b:=fun h9=>hb h9.2.2.2.2;rw[if_neg hz,A6 hz];refine⟨?_,rfl⟩;unfold Gj;rw[if_neg h.1,if_neg h.2.1,if_neg h.2.2.1,if_neg h.2.2.2]
theorem Kk (k a b:Int):0≤Gj k a b∧Gj k a b<1000003:=by unfold Gj;split <;> (try split) <;> (try split) <;> (try split) <;> exact CK _
end
theorem If {k:Int}{xs:List Int}{T:Tp}{t:Nat}(h:¬Eu k (T.at (HU k xs).b)):RS k xs t T=.ok (((T.vals.length:Nat):Int),T.put (HU k xs) (Gj k (T.at (HU k xs).a) (T.at (HU k xs).b))) t:=if_neg h
theorem Pe {k:Int}{xs:List Int}{T:Tp}{t:Nat}(h:Eu k (T.at (HU k xs).b)):RS k xs t T=.err 6:=if_pos h
theorem fp {α:Type}{r:Rs α}{x:α}{s:Nat}{c c1:Int}(h:AQ (go c r) x s c1)(h1:c1=0):c=0:=by by_cases hc:c=0;exact hc;rw[DJ hc]at h;have:=h.1;omega
theorem SX (k a b:Int):0≤(if Eu k b then 0 else Gj k a b)∧(if Eu k b then 0 else Gj k a b)<1000003:=by have:=Kk k a b;split <;> omega
theorem fq {Q:Prop} [Decidable Q] (h:(!(!decide Q))=true):Q:=by simpa using h
theorem lA {Q:Prop} [Decidable Q] (h:(!(!decide Q))=false):¬Q:=by simpa using h
theorem GI {k:Int}{xs:List Int}(h:k≠7):HU k xs=⟨k,xs.getD 0 0,xs.getD 1 0,0⟩:=by unfold HU;rw[if_neg h]
theorem RU {k:Int}{xs:List Int}(h:k=7):HU k xs=⟨k,xs.getD 0 0,0,0⟩:=by unfold HU;rw[if_pos h]
theorem Yz {k c:Int}{xs:List Int}{T:Tp}{s s2:Nat}{z:RI}(hc:c=0)(h7:k≠7)(hz:Eu k (T.vals.getD (xs.getD 1 0).toNat 0)):AQ (go c (RS k xs s T)) z s2 6:=by subst hc;rw[CX,Pe (by rw[GI h7];exact hz)];exact AQ.mk_err rfl (by decide)
theorem YB {k c:Int}{xs:List Int}{T:Tp}{s:Nat}(hc:c=0)(h7:k≠7)(hz:¬Eu k (T.vals.getD (xs.getD 1 0).toNat 0)) :
  AQ (go c (RS k xs s T)) (((T.vals.length:Nat):Int),T.put ⟨k,xs.getD 0 0,xs.getD 1 0,0⟩ (if Eu k (T.vals.getD (xs.getD 1 0).toNat 0)then 0 else Gj k (T.vals.getD (xs.getD 0 0).toNat 0) (T.vals.getD (xs.getD 1 0).toNat 0))) s c:=by
 subst hc;rw[CX,If (by rw[GI h7];exact hz),GI h7,if_neg hz];exact AQ.mk_ok rfl
theorem YC {k c:Int}{xs:List Int}{T:Tp}{s:Nat}{b:Int}(hc:c=0)(h7:k=7) :
  AQ (go c (RS k xs s T)) (((T.vals.length:Nat):Int),T.put ⟨k,xs.getD 0 0,0,0⟩ (if Eu k b then 0 else Gj k (T.vals.getD (xs.getD 0 0).toNat 0) b)) s c:=by
 subst hc;subst h7;rw[CX,If (fun h=>h.2.2.2.1 rfl),RU rfl,if_neg (fun h:Eu 7 b=>h.2.2.2.1 rfl)];exact AQ.mk_ok rfl
theorem Zt {k b:Int}(h:k=7):¬Eu k b:=fun h9=>h9.2.2.2.1 h
def G7 (T:Tp)(env:List Int):Prop:=∀k,k<env.length→0≤env.getD k 0∧env.getD k 0<((T.vals.length:Nat):Int)
theorem G7.mono {T T':Tp}{env:List Int}(h:G7 T env)(hl:T.vals.length≤T'.vals.length):G7 T' env:=fun k hk=>by have:=h k hk;omega
theorem G7.snoc {T:Tp}{env:List Int}{r:Int}(h:G7 T env)(hr:0≤r∧r<((T.vals.length:Nat):Int)):G7 T (env++[r]):=fun k hk=>by
 rw[z4,zd]at hk
 rw[eS]
 split
 exact hr
 exact h k zO
theorem G7.nil (T:Tp):G7 T []:=fun k hk=>absurd hk (Nat.not_lt_zero k)
theorem DA {Q:Nat→Prop}:∀b∈([]:List Nat),Q b:=fun b hb=>(by cases hb)
theorem AB.drewL {F:List Nat}{a b:World}(h:AB F a b):AB F a.drew b:=⟨h.os,h.tape,h.output,h.size,h.block⟩
def Rt {α:Type}(S:List Nat)(B:Nat)(E:Bz α)(H:Array Obj)(v:Value)(x:α):Prop:=∃F,E H v x F∧∀b∈F,b∉S∧B≤b
theorem Rt.rn {α:Type}{S:List Nat}{B:Nat}{E:Bz α}{H:Array Obj}{v:Value}{x:α}(h:Rt S B E H v x):RN S E H v x:=by obtain⟨F,h1,h2⟩:=h;exact⟨F,h1,fun b hb=>(h2 b hb).1⟩
theorem Rt.upd {α:Type}{S F:List Nat}{B:Nat}{E:Bz α}(hE:Cr E){w w':World}{v:Value}{x:α}(h:Rt S B E w.heap v x)(c:AB F w w')(hF:∀b∈F,b∈S∨b<B):Rt S B E w'.heap v x:=by obtain⟨G,h1,h2⟩:=h;refine⟨G,hE.stable h1 fun b hb=>c.block b (hE.lt h1 b hb) fun hm=>?_,h2⟩;rcases hF b hm with hh|hh;exact (h2 b hb).1 hh;have:=(h2 b hb).2;omega
theorem Rt.of_ow {e:TypeId}{B T:Nat}{H:Array Obj}{v:Value}{xs:List Int}{F S:List Nat}(h:Ow (Bq rI e) B T H v xs F)(hS:∀b∈F,b∉S):Rt S B (B9 rI) H v xs:=⟨F,h.own.rd id,fun b hb=>⟨hS b hb,h.low b hb⟩⟩
structure DX (S S':List Nat)(w w':World):Prop where
 sub:∀b∈S,b∈S'
 new:∀b∈S',b∈S∨w.heap.size≤b
 lt:∀b∈S',b<w'.heap.size
 chg:AB S w w'
section
variable {S S' S'':List Nat} {w w' w'':World} {g:Nat}
theorem DX.refl (h:∀b∈S,b<w.heap.size):DX S S w w:=⟨fun _ h=>h,fun _ h=>.inl h,h,AB.refl S w⟩
theorem DX.trans (h:DX S S' w w')(k:DX S' S'' w' w''):DX S S'' w w'' :=
 ⟨fun b hb=>k.sub b (h.sub b hb),RR h.new k.new h.chg.size,k.lt,h.chg.stp k.chg h.new⟩
theorem DX.ext (h:DX S S' w w')(k:AA w' w''):DX S S' w w'':=⟨h.sub,h.new,fun b hb=>Nat.lt_of_lt_of_le (h.lt b hb) k.size,h.chg.ext k⟩
theorem DX.drew (h:DX S S' w w'):DX S S' w w'.drew:=⟨h.sub,h.new,h.lt,h.chg.drew⟩
theorem DX.of_drew (h:DX S S' w.drew w'):DX S S' w w':=⟨h.sub,h.new,h.lt,h.chg.of_drew⟩
theorem DX.set (h:DX S S' w w')(hg:g∈S)(k:AB [g] w' w''):DX S S' w w'':=⟨h.sub,h.new,fun b hb=>Nat.lt_of_lt_of_le (h.lt b hb) k.size,h.chg.trans (k.sub (Ba hg))⟩
theorem DX.more {F:List Nat}(h:DX S S' w w')(k:AB F w' w'')(hF:∀b∈F,b∈S):DX S S' w w'':=⟨h.sub,h.new,fun b hb=>Nat.lt_of_lt_of_le (h.lt b hb) k.size,h.chg.trans (k.sub hF)⟩
theorem DX.fresh {F:List Nat}(h:DX S S' w w')(k:AB F w' w'')(hF:∀b∈F,w.heap.size≤b):DX S S' w w'':=⟨h.sub,h.new,fun b hb=>Nat.lt_of_lt_of_le (h.lt b hb) k.size,h.chg.fresh k hF⟩
end
structure Zu (T T':Tp)(s0 s1:Nat)(c1:Int):Prop where
 bnd:Gt T' s1
 num:s1≤3000∧(0≤c1∧c1≤9)∧T.vals.length≤T'.vals.length∧T'.vals.length+s0≤T.vals.length+s1∧T'.grd.length+s0≤T.grd.length+s1
@[simp] theorem Ev (T:Tp)(c:AF)(v:Int):(T.put c v).vals.length=T.vals.length+1:=by simp[Tp.put]
@[simp] theorem RV (T:Tp)(c:AF)(v:Int):(T.put c v).code.length=T.code.length+1:=by simp[Tp.put]
@[simp] theorem Vr (T:Tp)(c:AF)(v:Int):(T.put c v).grd=T.grd:=rfl
@[simp] theorem Ha (T:Tp)(r:Int)(z:Bool):(T.guard r z).vals=T.vals:=rfl
@[simp] theorem MN (T:Tp)(r:Int)(z:Bool):(T.guard r z).grd.length=T.grd.length+1:=by simp[Tp.guard]
theorem RN.of_ow {e:TypeId}{B T:Nat}{H:Array Obj}{v:Value}{xs:List Int}{F S:List Nat}(h:Ow (Bq rI e) B T H v xs F)(hS:∀b∈F,b∉S):RN S (B9 rI) H v xs:=⟨F,h.own.rd id,hS⟩
theorem BZ.len {t1 t2 t3:TypeId}{S:List Nat}{g:Nat}{H:Array Obj}{vc vg vv:Value}{T:Tp}(h:BZ t1 t2 t3 S g H vc vg vv T):T.code.length≤maxLen∧T.grd.length≤maxLen∧T.vals.length≤maxLen:=by obtain⟨Fc,Fg,Fv,h1,h2,h3,_⟩:=h;exact⟨h1.own.lenle,h2.own.lenle,h3.own.lenle⟩
end
section
def Hb (a:List Int):Nat→Tp
 |0=>⟨[],[],[]⟩
 |k+1=>(Hb a k).put ⟨1,0,0,((k:Nat):Int)⟩ (a.getD k 0)
def FN (k:Nat):List Int:=(List.range k).map fun i=>((i:Nat):Int)
@[simp] theorem DP (k:Nat):(FN k).length=k:=by simp[FN]
theorem MO (k:Nat):FN (k+1)=FN k++[((k:Nat):Int)]:=by simp[FN,List.range_succ]
theorem QE {k j:Nat}(h:j<k):(FN k).getD j 0=((j:Nat):Int):=by unfold FN;rw[E1 (d:=0) (by simpa using h)];simp[h]
@[simp] theorem GJ (a:List Int):∀k,(Hb a k).vals.length=k
 |0=>rfl
 |k+1=>by show((Hb a k).put _ _).vals.length=_;rw[Ev,GJ a k]
@[simp] theorem KX (a:List Int):∀k,(Hb a k).code.length=k
 |0=>rfl
 |k+1=>by show((Hb a k).put _ _).code.length=_;rw[RV,KX a k]
theorem Vs (a:List Int):∀k,(Hb a k).grd=[]
 |0=>rfl
 |k+1=>by show((Hb a k).put _ _).grd=_;rw[Vr,Vs a k]
theorem QF (a:List Int):∀k,k≤a.length→(Hb a k).vals=a.take k
 |0,_=>rfl
 |k+1,h=>by
  show(Hb a k).vals++[a.getD k 0]=_
  rw[QF a k zO,Cw 0 (by omega)]
theorem Vt {a:List Int}(hn:Bi a=true)(h:a.length≤12):Gt (Hb a a.length) 0:=by refine⟨by simp,by simp;omega,by rw[Vs];simp,?_⟩;rw[QF a _ (A7 _),List.take_length];exact hn
theorem Vu (a:List Int)(k:Nat):G7 (Hb a k) (FN k):=fun j hj=>by
 rw[DP]at hj
 rw[QE hj,GJ];omega
def LE (p:List Fn)(f:Nat)(a:List Int):Rs RL:=Et (H9 p f) (p.getD f Fn.zero).outs (FN a.length) 0 (Hb a a.length)
section rcm
variable {t1 t2 t3:TypeId} {S:List Nat} {g:Nat} {w w':World} {vc vg vv:Value} {T:Tp}
theorem BZ.nil:BZ t1 t2 t3 S g w.heap (.slice none 0 0) (.slice none 0 0) (.slice none 0 0) ⟨[],[],[]⟩ :=
 ⟨[],[],[],⟨.inl ⟨rfl,rfl,rfl⟩,zk,DA,DA⟩,⟨.inl ⟨rfl,rfl,rfl⟩,zk,DA,DA⟩,⟨.inl ⟨rfl,rfl,rfl⟩,zk,DA,DA⟩,
  ⟨DA,DA,DA⟩,⟨z2,z2,z2⟩,DA,DA,DA⟩
theorem AB.toExt {F:List Nat}(h:AB F w w')(hF:∀b∈F,w.heap.size≤b):AA w w':=⟨h.os,h.tape,h.output,h.size,fun k hk=>h.block k hk fun hm=>by have:=hF k hm;omega⟩
end rcm
def RG {α:Type}(T:Nat)(E:Bz α)(H:Array Obj)(v:Value)(x:α):Prop:=∃F,E H v x F∧∀b∈F,T≤b
theorem Rt.rg {α:Type}{S:List Nat}{B T:Nat}{E:Bz α}{H:Array Obj}{v:Value}{x:α}(h:Rt S B E H v x)(hT:T≤B):RG T E H v x:=by obtain⟨F,h1,h2⟩:=h;exact⟨F,h1,fun b hb=>A8 hT (h2 b hb).2⟩
theorem RG.rnG {α:Type}{T g:Nat}{E:Bz α}{w:World}{v:Value}{x:α}(hE:Cr E)(h:RG T E w.heap v x)(hg:g<T∨w.heap.size≤g):RN [g] E w.heap v x:=by obtain⟨F,h1,h2⟩:=h;refine⟨F,h1,fun b hb hm=>?_⟩;rw[A9 hm]at hb;have:=h2 g hb;have:=hE.lt h1 g hb;omega
theorem BZ.readsG {t1 t2 t3:TypeId}{S:List Nat}{g n:Nat}{w:World}{vc vg vv:Value}{T:Tp}(h:BZ t1 t2 t3 S g w.heap vc vg vv T)(hS:∀b∈S,n≤b):RG n (Ch 4 KU) w.heap vc T.code∧RG n (Ch 2 KV) w.heap vg T.grd:=by obtain⟨Fc,Fg,Fv,h1,h2,h3,h4,h5,h6,h7,h8⟩:=h;exact⟨⟨Fc,h1.own.rd B8,fun b hb=>hS b (h6 b hb)⟩,⟨Fg,h2.own.rd Bd,fun b hb=>hS b (h7 b hb)⟩⟩
theorem AQ.go0 {α:Type}{r:Rs α}{x:α}{s:Nat}{c:Int}(h:AQ (go ((0:Nat):Int) r) x s c):AQ r x s c:=h
theorem LD.part {H:Array Obj}{g k:Nat}{cs ds:List Value}(h:BX H g cs)(hl:k+ds.length≤cs.length)(hd:∀i,i<ds.length→ds.getD i undef=cs.getD (k+i) undef):LD H (.pointer (some ⟨g,k,none⟩)) ds:=by obtain⟨e,h⟩:=h;refine⟨g,k,rfl,fun i hi=>?_⟩;simp only[C1,h];rw[hd i hi];simp[show k+i<cs.length by omega]
end
def QG (p:List Fn)(f:Int):Int:=if Fq p=true then(if 0≤f∧f≤((p.length:Nat):Int)-1 then 0 else 2)else 1
theorem Zv {p:List Fn}{f:Int}(h:QG p f=0):Fq p=true∧0≤f∧f<((p.length:Nat):Int):=by unfold QG at h;split at h;split at h;rename_i h1 h2;exact⟨h1,h2.1,zO⟩;omega;omega
theorem dB {n k:Nat}{s:Sr}(h:Dn n s)(hk:k<n):J2 (s.getD k 0)=true:=by
 have hk':k<s.length:=by rw[h.1];exact hk
 have:=h.2;unfold Bi at this;have h2:=zm.1 this s[k]<|List.getElem_mem hk';rwa [show s.getD k 0=s[k]from by simp[hk']]
section
mutual
def J3:Ex→Int→Int
 |.mk _ _ _ _ l,x=>Dw l (x-1)
def Dw:List Ex→Int→Int
 |[],x=>x
 |e::l,x=>if 0≤x then Dw l (J3 e x)else x
end
theorem YD (e:Ex)(x:Int):J3 e x=Dw e.kids (x-1):=by cases e;rw[J3];rfl
theorem MP {l:List Ex}{x:Int}(h:x<0):Dw l x=x:=by
 cases l with
 |nil=>rw[Dw]
 |cons e l=>rw[Dw,if_neg (by omega)]
mutual
theorem MQ:∀(e:Ex)(x:Int),0≤x→(J3 e x=x-(e.size:Int)∧(e.size:Int)≤x)∨(J3 e x = -1∧x<(e.size:Int))
 |.mk k n q c l,x,h=>by
  rw[J3,Ex.size]
  by_cases h0:x=0
  subst h0
  right
  rw[MP (by omega)]
  refine⟨zO,zO⟩
  rcases IU l (x-1) (by omega)with h1|h1
  left;omega
  right;omega
theorem IU:∀(l:List Ex)(x:Int),0≤x→(Dw l x=x-(Ex.sizes l:Int)∧(Ex.sizes l:Int)≤x)∨(Dw l x = -1∧x<(Ex.sizes l:Int))
 |[],x,h=>by rw[Dw,Ex.sizes];left;omega
 |e::l,x,h=>by
  rw[Dw,if_pos h,Ex.sizes]
  rcases MQ e x h with h1|h1
  rw[h1.1]
  rcases IU l (x-(e.size:Int)) (by omega)with h2|h2
  left;omega
  right;omega
  rw[h1.1,MP (by omega)]
  right;omega
end
theorem OA (e:Ex):∀(l:List Ex)(x:Int),Dw (l++[e]) x=if 0≤Dw l x then J3 e (Dw l x)else Dw l x
 |[],x=>by
  rw[zl,Dw,Dw]
  split
  rw[Dw]
  rfl
 |a::l,x=>by
  rw[List.cons_append,Dw,Dw]
  by_cases h:0≤x
  rw[if_pos h,if_pos h,OA e l]
  rw[if_neg h,if_neg h,if_neg h]
theorem OB {l:List Ex}{k:Nat}(hk:k<l.length){x:Int}(h:0≤Dw (l.take k) x):Dw (l.take (k+1)) x=J3 (l.getD k Ex.zero) (Dw (l.take k) x):=by rw[List.take_succ_eq_append_getElem hk,OA,if_pos h];simp[hk]
theorem QH:∀(l r:List Ex)(x:Int),Dw l x<0→Dw (l++r) x=Dw l x
 |[],r,x,h=>by rw[Dw]at h ⊢;rw[zl,MP h]
 |a::l,r,x,h=>by
  rw[Dw]at h ⊢
  rw[List.cons_append,Dw]
  split
  rename_i h0;rw[if_pos h0]at h;exact QH l r _ h
  rfl
theorem OC {l:List Ex}{k:Nat}{x:Int}(h:Dw (l.take k) x<0):Dw l x=Dw (l.take k) x:=by have:=QH (l.take k) (l.drop k) x h;rwa [List.take_append_drop]at this
theorem QI {e:Ex}{x:Int}(h:0≤x):-1≤J3 e x∧J3 e x≤x:=by rcases MQ e x h with h1|h1 <;> omega
theorem Vv {e:Ex}{x:Int}(h:0≤x):0≤J3 e x↔(e.size:Int)≤x:=by rcases MQ e x h with h1|h1 <;> omega
def U8 (k:Int):Int:=if k=1∨k=2 then 0 else if k=3∨k=4∨k=5∨k=6∨k=9 then 2 else if k=7 then 1 else if k=8 then 3 else -1
theorem Pf {p q:Prop} [Decidable p] [Decidable q] (h:p↔q):decide p=decide q:=decide_eq_decide.2 h
section
variable {p:List Fn} {F vars:Int} {e:Ex}
theorem U9 (h:KR p F vars e=true)(h10:e.kind≠10)(h11:e.kind≠11):e.pick=0∧e.count=0∧U8 e.kind=((e.kids.length:Nat):Int)∧(e.kind≠1→e.kind≠2→e.num=0):=by unfold KR FC at h;unfold U8;split at h;rename_i h1;simp only[z7,decide_eq_true_eq]at h;rw[if_pos (by omega)];exact⟨h.1.1,h.1.2,zO,fun hh=>absurd h1 hh⟩;split at h;rename_i h1;simp only[z7,decide_eq_true_eq]at h;rw[if_pos (by omega)];exact⟨h.1.1,h.1.2,zO,fun _ hh=>absurd h1 hh⟩;split at h;simp only[z7,decide_eq_true_eq]at h;rw[if_neg zO,if_pos (by omega)];exact⟨h.1.1,h.1.2,zO,fun _ _=>h.2.1⟩;split at h;simp only[z7,decide_eq_true_eq]at h;rw[if_neg zO,if_neg zO,if_pos (by omega)];exact⟨h.1.1,h.1.2,zO,fun _ _=>h.2.1⟩;split at h;simp only[z7,decide_eq_true_eq]at h;rw[if_neg zO,if_neg zO,if_neg zO,if_pos (by omega)];exact⟨h.1.1,h.1.2,zO,fun _ _=>h.2.1⟩;split at h;omega;cases h
theorem dC (h10:e.kind≠10)(h11:e.kind≠11)(h:U8 e.kind≠((e.kids.length:Nat):Int)∨e.pick≠0∨e.count≠0):false=KR p F vars e:=by
 cases hw:KR p F vars e with
 |false=>rfl
 |true =>
  have:=U9 hw h10 h11;omega
theorem lB (hk:U8 e.kind=((e.kids.length:Nat):Int))(h1:e.kind=1)(hp:e.pick=0)(hc:e.count=0):J2 e.num=KR p F vars e:=by
 have hl:e.kids.length=0:=by unfold U8 at hk;rw[if_pos (by omega)]at hk;omega
 unfold KR FC;rw[if_pos h1,A5 hp,A5 hc,A5 hl];rfl
theorem lC (hk:U8 e.kind=((e.kids.length:Nat):Int))(h1:e.kind=2)(hp:e.pick=0)(hc:e.count=0):(decide (((0:Nat):Int)≤e.num) && decide (e.num≤vars-1))=KR p F vars e:=by
 have hl:e.kids.length=0:=by unfold U8 at hk;rw[if_pos (by omega)]at hk;omega
 unfold KR FC GB;rw[if_neg zO,if_pos h1,A5 hp,A5 hc,A5 hl];rfl
theorem lD (hk:U8 e.kind=((e.kids.length:Nat):Int))(h1:e.kind≠1)(h2:e.kind≠2)(h10:e.kind≠10)(h11:e.kind≠11)(hp:e.pick=0)(hc:e.count=0):decide (e.num=0)=KR p F vars e:=by unfold U8 at hk;unfold KR FC;rw[if_neg h1,if_neg h2,A5 hp,A5 hc];rw[if_neg (by omega)]at hk;split at hk;rename_i h3;rw[if_pos h3,A5 (show e.kids.length=2 by omega)];simp;rename_i h3;rw[if_neg h3];split at hk;rename_i h4;rw[if_pos h4,A5 (show e.kids.length=1 by omega)];simp;rename_i h4;rw[if_neg h4];split at hk;rename_i h5;rw[if_pos h5,A5 (show e.kids.length=3 by omega)];simp;omega
end
end
section
def Ly (n:Nat)(C:Ca)(e:Ex)(env:List Sr)(s:Nat):Rs Sr:=(Eo n C e.kids env s).bind fun xs t =>
 if e.kind=10 then C.one e.num.toNat e.pick.toNat xs t else(Lx (C.all e.num.toNat) e.count.toNat xs t).bind fun ys u=>.ok (ys.getD e.pick.toNat []) u
section
variable {n:Nat} {C:Ca} {e:Ex} {env:List Sr} {s s1 s2:Nat} {c c1 c2:Int} {x y:Sr} {xs ys:List Sr}
theorem OD (hc:c=0)(hs:s+1≤3000)(hk:e.kind=10∨e.kind=11)(h:AQ (go c (Ly n C e env (s+1))) y s2 c2):AQ (go c (Dj n C e env s)) y s2 c2:=by
 subst hc;rw[CX]at h ⊢;rw[Ic hs zO zO zO (by omega)];unfold Ly at h;cases hv:Eo n C e.kids env (s+1)with
 |err d=>rw[hv]at h;exact h
 |ok zs t =>
  rw[hv]at h;rw[Rs.bind_ok]at h ⊢;by_cases h10:e.kind=10;rw[if_pos h10]at h ⊢;exact h;rw[if_neg h10]at h;rw[if_neg h10,if_pos (by omega)];exact h
theorem Vw {α:Type}{r:Rs α}{v:α}(h:AQ (go c r) v s1 c1)(hc:c≠0):c1=c:=by rw[DJ hc]at h;exact h.1
theorem dD (hl:e.kids.length=1)(h:AQ (go c (Dj n C (e.kids.getD 0 Ex.zero) env s)) x s1 c1):AQ (go c (Eo n C e.kids env s)) [x] s1 c1:=by have h1:=H5 (l:=e.kids) (k:=0) zO (H6 n C e.kids env s c) h;rwa [za (by omega)]at h1
theorem KY (hl:e.kids.length=2)(h:AQ (go c (Dj n C (e.kids.getD 0 Ex.zero) env s)) x s1 c1)(h2:AQ (go c1 (Dj n C (e.kids.getD 1 Ex.zero) env s1)) y s2 c2):AQ (go c (Eo n C e.kids env s)) [x,y] s2 c2:=by have h1:=H5 (l:=e.kids) (k:=0) zO (H6 n C e.kids env s c) h;have h3:=H5 (l:=e.kids) (k:=1) zO h1 h2;rwa [za (by omega)]at h3
theorem Hs (hc:c=0)(hs:s+1≤3000)(hk:e.kind=3∨e.kind=4∨e.kind=5∨e.kind=6∨e.kind=7)(hr:AQ (go c (Eo n C e.kids env (s+1))) xs s1 c1)
  (h:c1=0→AQ (PY e.kind xs s1) y s1 c2) (h0:c1≠0→c2=c1):AQ (go c (Dj n C e env s)) y s1 c2:=by
 by_cases hc1:c1=0;exact Bp hc hs zO zO zO zO zO zO hr hc1<|h hc1;rw[h0 hc1];exact Dt hc hs zO zO zO zO hr hc1
theorem Vx {p:List Fn}{F:Nat}(hk:e.kind=10)(hF:e.num.toNat<F)(hr:AQ (go c (Eo n (FM p n F) e.kids env s)) xs s1 c1)
  (h2:AQ (go c1 (Dj n (FM p n e.num.toNat) ((p.getD e.num.toNat Fn.zero).outs.getD e.pick.toNat Ex.zero) xs s1)) y s2 c2):AQ (go c (Ly n (FM p n F) e env s)) y s2 c2:=by
 by_cases hc:c=0;subst hc;rw[CX]at hr ⊢;unfold Ly;by_cases hc1:c1=0;subst hc1;rw[hr.bindO,if_pos hk,P9 hF];rw[CX]at h2;exact h2;rw[hr.bindE hc1];rw[DJ hc1]at h2;exact h2;have e1:=Vw hr hc;subst e1;rw[DJ hc]at h2 ⊢;exact h2
theorem Vy {f:List Sr→Nat→Rs (List Sr)}{k:Nat}(h:AQ (go c (Lx f k xs s)) ys s1 c1){zs:List Sr}(h2:AQ (go c1 (f ys s1)) zs s2 c2):AQ (go c (Lx f (k+1) xs s)) zs s2 c2:=by by_cases hc:c=0;subst hc;rw[CX]at h ⊢;show AQ ((Lx f k xs s).bind f) _ _ _;by_cases hc1:c1=0;subst hc1;rw[h.bindO];rw[CX]at h2;exact h2;rw[h.bindE hc1];rw[DJ hc1]at h2;exact h2;have e1:=Vw h hc;subst e1;rw[DJ hc]at h2 ⊢;exact h2
theorem Vz {f:List Sr→Nat→Rs (List Sr)}(hc:0=0):AQ (go c (Lx f 0 xs s)) xs s c:=by by_cases h:c=0;subst h;exact⟨rfl,rfl,rfl⟩;exact AQ.mk_err (DJ h _) h
theorem VA {p:List Fn}{F:Nat}(hk:e.kind≠10)(hF:e.num.toNat<F)(hr:AQ (go c (Eo n (FM p n F) e.kids env s)) xs s1 c1)
  (h2:AQ (go c1 (Lx (fun a t=>Eo n (FM p n e.num.toNat) (p.getD e.num.toNat Fn.zero).outs a t) e.count.toNat xs s1)) ys s2 c2):AQ (go c (Ly n (FM p n F) e env s)) (ys.getD e.pick.toNat []) s2 c2:=by
 have hl:(FM p n F).all e.num.toNat=fun a t=>Eo n (FM p n e.num.toNat) (p.getD e.num.toNat Fn.zero).outs a t:=funext fun a=>funext fun t=>IR hF;by_cases hc:c=0;subst hc;rw[CX]at hr ⊢;unfold Ly;by_cases hc1:c1=0;subst hc1;rw[hr.bindO,if_neg hk,hl];rw[CX]at h2;by_cases h0:c2=0;subst h0;rw[h2.bindO];exact AQ.mk_ok rfl;rw[h2.bindE h0];exact AQ.mk_err rfl h0;rw[hr.bindE hc1];rw[DJ hc1]at h2;exact AQ.mk_err (by rw[h2.1]) (by rw[h2.1];exact hc1);have e1:=Vw hr hc;subst e1;rw[DJ hc]at h2 ⊢;exact AQ.mk_err (by rw[h2.1]) (by rw[h2.1];exact hc)
end
end
section
def Pg (p:List Fn)(f:Int):Bool:=GB f 0 (((p.length:Nat):Int)-1) && (decide (1≤(p.getD f.toNat Fn.zero).params) && decide ((((p.getD f.toNat Fn.zero).outs.length:Nat):Int)=(p.getD f.toNat Fn.zero).params))
def SY (p:List Fn)(f:Int):Bool:=Fq p && Pg p f
def Hc (p:List Fn)(f:Int)(l:List Sr):Int :=
 if Fq p=true then(if Pg p f=true then(if l.all (fun s=>decide (((s.length:Nat):Int)=(p.getD f.toNat Fn.zero).params) && Bi s)=true then 0 else 2)else 2)else 1
theorem SZ (p:List Fn)(f:Int)(l:List Sr):0≤Hc p f l∧Hc p f l≤2:=by unfold Hc;split <;> (try split) <;> (try split) <;> omega
theorem Ma {p:List Fn}{f:Int}:Pg p f=true↔(0≤f∧f≤((p.length:Nat):Int)-1)∧1≤(p.getD f.toNat Fn.zero).params∧(((p.getD f.toNat Fn.zero).outs.length:Nat):Int)=(p.getD f.toNat Fn.zero).params:=by unfold Pg;rw[z7,z7,Cx,decide_eq_true_eq,decide_eq_true_eq]
def El (p:List Fn)(f:Nat)(s:Sr):Int:=Pc p 1 f (Cu s)
def XY (p:List Fn)(f:Nat)(s:Sr):Sr:=(Vi p 1 f (Cu s)).map fun s=>s.getD 0 0
def E4 (p:List Fn)(f:Nat)(a:Sr):Nat→Sr
 |0=>a
 |k+1=>XY p f (E4 p f a k)
def Em (p:List Fn)(f:Nat)(a:Sr):Nat→Int
 |0=>0
 |k+1=>if Em p f a k=0 then El p f (E4 p f a k)else Em p f a k
theorem Do {a:Sr}(h:Bi a=true):Cp 1 (Cu a):=by intro k hk;unfold Cu at hk ⊢;rw[zg]at hk;rw[List.getD_eq_getElem?_getD,List.getElem?_map,List.getElem?_eq_getElem hk];refine⟨rfl,?_⟩;unfold Bi at h ⊢;have:=zm.1 h _ (List.getElem_mem hk);simpa using this
theorem MR {x:List Sr}{n:Nat}(h:Cp (n+1) x):Bi (x.map fun s=>s.getD 0 0)=true:=by
 unfold Bi;rw[zm]
 intro y hy;obtain⟨s,hs,rfl⟩:=List.mem_map.1 hy;obtain⟨k,hk,rfl⟩:=List.mem_iff_getElem.1 hs;have h2:=h k hk;rw[HO hk]at h2;exact dB h2 zO
section
variable {p:List Fn} {f:Nat} {a s:Sr} {k n:Nat}
theorem QJ (h:Em p f a k=0):Em p f a (k+1)=El p f (E4 p f a k):=if_pos h
theorem QK (h:Em p f a k≠0):∀ {n:Nat},k≤n→Em p f a n = Em p f a k
  | 0, hk => by have : k = 0 := by omega
                subst this; rfl
  | n + 1,hk=>by
    by_cases e:k = n + 1
    subst e; rfl
    have ih:=QK h (n:=n) zO
    show (if Em p f a n = 0 then _ else _) = _
    rw [if_neg (by rw [ih]; exact h)]; exact ih
structure Ua (p:List Fn)(f:Nat)(s:Sr):Prop where
 code:0≤El p f s∧El p f s≤9
 len:El p f s=0→(XY p f s).length=(p.getD f Fn.zero).outs.length
 num:Bi (XY p f s)=true
 non:El p f s≠0→XY p f s=[]
theorem Ua.mk' (h:Zr p 1 f (Cu s)):Ua p f s :=
 ⟨h.code,fun h0=>by unfold XY;rw[zg];exact h.len h0,MR h.ser,fun h0=>by unfold XY;rw[h.non h0];rfl⟩
end
end
def IV (t:Nat)(x:Int):Int:=if ((t:Nat):Int)≤x then x-((t:Nat):Int)else -1
theorem Mb (t:Nat){x:Int}(h:0≤x):-1≤IV t x∧IV t x≤x:=by unfold IV;split <;> omega
theorem Kl {t:Nat}{x:Int}(h:0≤IV t x):IV t x=x-((t:Nat):Int)∧((t:Nat):Int)≤x:=by unfold IV at h ⊢;split at h;rename_i h1;rw[if_pos h1];exact⟨rfl,h1⟩;omega
theorem Km {t:Nat}{x:Int}(h0:0≤x)(h:IV t x<0):x<((t:Nat):Int):=by unfold IV at h;split at h <;> omega
theorem QL {t:Nat}{x y:Int}(h:((t:Nat):Int)≤x)(hy:y=x-((t:Nat):Int)):y=IV t x:=by unfold IV;rw[if_pos h,hy]
theorem Je {t:Nat}{x:Int}(h:x<((t:Nat):Int)):-1=IV t x:=by unfold IV;rw[if_neg (by omega)]
theorem G8:∀(l:List Ex)(k:Nat),Ex.sizes (l.take k)+(l.length-k)≤Ex.sizes l
 |[],k=>by simp[Ex.sizes]
 |e::l,0=>by
  have h:=G8 l 0
  have:=Cv e
  rw[List.take_zero]at h ⊢
  rw[Ex.sizes]at h ⊢
  rw[z9,Ex.sizes];omega
 |e::l,k+1=>by
  have h:=G8 l k
  rw[List.take_succ_cons,Ex.sizes,Ex.sizes,z9];omega
def Fn.sz (f:Fn):Nat:=f.name.size+Ex.sizes f.outs
def Fn.szs:List Fn→Nat
 |[]=>0
 |f::l=>f.sz+Fn.szs l
theorem Ph:Fn.szs []=0:=rfl
theorem VB (l:List Fn)(f:Fn):Fn.szs (l++[f])=Fn.szs l+f.sz:=by
 induction l with
 |nil=>simp[Fn.szs]
 |cons g l ih=>rw[List.cons_append,Fn.szs,Fn.szs,ih];omega
theorem MS {l:List Fn}{k:Nat}(hk:k<l.length):Fn.szs (l.take (k+1))=Fn.szs (l.take k)+(l.getD k Fn.zero).sz:=by rw[List.take_succ_eq_append_getElem hk,VB];simp[hk]
theorem Ig:∀(l:List Fn)(k:Nat),Fn.szs (l.take k)≤Fn.szs l
 |l,0=>by rw[List.take_zero,Ph];omega
 |[],k+1=>by simp[Fn.szs]
 |f::l,k+1=>by rw[List.take_succ_cons,Fn.szs,Fn.szs];have:=Ig l k;omega
theorem VC {l:List Fn}{k:Nat}(hk:k<l.length):(l.getD k Fn.zero).sz≤Fn.szs l:=by have h1:=MS hk;have h2:=Ig l (k+1);omega
def MT (p:List Fn):Nat:=p.length+Fn.szs p
theorem dE {p:List Fn}(h:MT p≤1048576):U6 p:=by intro k hk;have h1:=VC hk;have h2:(p.getD k Fn.zero).sz=(p.getD k Fn.zero).name.size+Ex.sizes (p.getD k Fn.zero).outs:=rfl;have h3:MT p=p.length+Fn.szs p:=rfl;have h4:=G8 (p.getD k Fn.zero).outs 0;exact⟨zO,zO,zO⟩
section
section
variable {m n:Nat} {C C':Ca}
theorem OE:∀ {l:List Ex}{e:Ex},e∈l→e.size≤Ex.sizes l
 |[],_,h=>by cases h
 |a::l,e,h=>by
  rw[Ex.sizes]
  rcases ze.1 h with rfl|h
  omega
  have:=OE h;omega
end
end
def dF (n:Nat)(r:Rs Sr):Prop:=match r with
 |.ok x s=>Dn n x∧s≤3000
 |.err c=>c=6∨c=7
def kR (n m:Nat)(r:Rs (List Sr)):Prop:=match r with
 |.ok xs s=>xs.length=m∧Cp n xs∧s≤3000
 |.err c=>c=6∨c=7
structure lE (p:List Fn)(n F:Nat)(C:Ca):Prop where
 one:∀f j xs t,f<F→j<(p.getD f Fn.zero).outs.length→Cp n xs→((xs.length:Nat):Int)=(p.getD f Fn.zero).params→t≤3000→dF n (C.one f j xs t)
 all:∀f xs t,f<F→Cp n xs→((xs.length:Nat):Int)=(p.getD f Fn.zero).params→t≤3000→kR n (p.getD f Fn.zero).outs.length (C.all f xs t)
theorem Cp.nil (n:Nat):Cp n []:=fun k hk=>by simp at hk
theorem Cp.cons {n:Nat}{x:Sr}{xs:List Sr}(hx:Dn n x)(h:Cp n xs):Cp n (x::xs):=by
 intro k hk;cases k with
 |zero=>exact hx
 |succ k=>exact h k (by simpa using hk)
theorem VD {n:Nat}{C:Ca}{env:List Sr}:∀(l:List Ex),(∀e∈l,∀s,s≤3000→dF n (Dj n C e env s))→∀s,s≤3000→kR n l.length (Eo n C l env s)
 |[],_,s,hs=>by rw[Eo];exact⟨rfl,Cp.nil n,hs⟩
 |e::l,h,s,hs=>by
  rw[Eo]
  have h1:=h e (z0 ..) s hs
  cases h2:Dj n C e env s with
  |err c=>rw[h2]at h1;exact h1
  |ok x t =>
   rw[h2]at h1
   have h3:=VD l (fun e he=>h e<|z3 _ he) t h1.2
   rw[Rs.bind_ok]
   cases h4:Eo n C l env t with
   |err c=>rw[h4]at h3;exact h3
   |ok xs u=>rw[h4]at h3;exact⟨by simp[h3.1],Cp.cons h1.1 h3.2.1,h3.2.2⟩
theorem Zw {p:List Fn}{n F f:Nat}{C:Ca}(hC:lE p n F C)(hf:f<F)(ho:(((p.getD f Fn.zero).outs.length:Nat):Int)=(p.getD f Fn.zero).params):∀(k:Nat)(xs:List Sr)(t:Nat),Cp n xs→xs.length=(p.getD f Fn.zero).outs.length→t≤3000→kR n (p.getD f Fn.zero).outs.length (Lx (C.all f) k xs t)
 |0,xs,t,h1,h2,h3=>⟨h2,h1,h3⟩
 |k+1,xs,t,h1,h2,h3=>by
  have h:=Zw hC hf ho k xs t h1 h2 h3
  rw[Lx]
  cases h4:Lx (C.all f) k xs t with
  |err c=>rw[h4]at h;exact h
  |ok ys u=>rw[h4]at h;rw[Rs.bind_ok];exact hC.all f ys u hf h.2.1 (by rw[h.1];exact ho) h.2.2
theorem ft {n:Nat}{k:Int}{xs:List Sr}{t:Nat}(hx:Cp n xs)(h0:0<xs.length)(ht:t≤3000):dF n (PY k xs t):=by have h1:=(hx 0 h0).1;unfold PY;split;exact⟨⟨by rw[H3];exact h1,My _ _⟩,ht⟩;split;exact⟨⟨by rw[Ia];exact h1,Mz _ _⟩,ht⟩;split;exact⟨⟨by rw[G6];exact h1,I8 _ _⟩,ht⟩;split;exact⟨⟨by rw[I9];exact h1,H4 _ _⟩,ht⟩;split;exact .inl rfl;exact⟨⟨by rw[E2];exact h1,H2 _ _⟩,ht⟩
theorem VE {p:List Fn}{n F:Nat}{C:Ca}(hC:lE p n F C):∀(z:Nat)(e:Ex),e.size≤z→∀(env:List Sr)(s:Nat),wf p ((F:Nat):Int) e ((env.length:Nat):Int)=true→Cp n env→s≤3000→dF n (Dj n C e env s)
 |0,e,h,_,_,_,_,_=>by have:=Cv e;omega
 |z+1,e,h,env,s,hw,he,hs=>by
  obtain⟨w1,w2,w3,w4,w5,w6,w7,w8⟩:=Dk (D6 hw)
  have hz:∀j,j<e.kids.length→(e.kids.getD j Ex.zero).size≤z:=fun j hj=>by
   have h2:e.kids.getD j Ex.zero∈e.kids:=by rw[HO hj];exact List.getElem_mem hj
   have:=Cv e;have:=OE h2;omega
  have hk:∀j,j<e.kids.length→¬(e.kind=9∧j=1)→∀t,t≤3000→dF n (PZ n C e.kids j env t):=fun j hj hn t ht=>by
   rw[EO _ _ _ _ _ _ hj]
   exact VE hC z _ (hz j hj) env t (C9 hw hj hn) he ht
  rw[Hr]
  split
  exact .inr rfl
  rename_i hs3
  split
  rename_i h1;exact⟨FQ (Di.2 (w8 h1)),zO⟩
  split
  rename_i h1 h2;exact⟨he _ (by have:=w2 h2;omega),zO⟩
  split
  rename_i h1 h2 h8
  have h3:=w5 h8
  have hc:=hk 0 zO zO (s+1) zO
  cases h4:PZ n C e.kids 0 env (s+1)with
  |err c=>rw[h4]at hc;exact hc
  |ok x t =>
   rw[h4]at hc;rw[Rs.bind_ok]
   split
   exact hk 1 zO zO t hc.2
   exact hk 2 zO zO t hc.2
  split
  rename_i h1 h2 h8 h9
  have h3:=w3 zO
  have hc:=hk 0 zO zO (s+1) zO
  cases h4:PZ n C e.kids 0 env (s+1)with
  |err c=>rw[h4]at hc;exact hc
  |ok x t =>
   rw[h4]at hc;rw[Rs.bind_ok,EO _ _ _ _ _ _ (show 1<e.kids.length by omega)]
   refine VE hC z _ (hz 1 zO) (env++[x]) t ?_ (he.snoc hc.1) hc.2
   have:=Ib hw zO h9
   rw[z4,zd];exact this
  rename_i h1 h2 h8 h9
  have hc:=VD (n:=n) (C:=C) (env:=env) e.kids (fun x hx t ht=>by
   obtain⟨j,hj,rfl⟩:=List.mem_iff_getElem.1 hx
   have:=hk j hj zO t ht
   rwa [EO _ _ _ _ _ _ hj,HO hj]at this) (s+1) zO
  cases h4:Eo n C e.kids env (s+1)with
  |err c=>rw[h4]at hc;exact hc
  |ok xs t =>
   rw[h4]at hc;rw[Rs.bind_ok]
   obtain⟨c1,c2,c3⟩:=hc
   split
   rename_i h10
   have h6:=w6<|.inl h10
   exact hC.one _ _ xs t zO zO c2 (by rw[c1];exact h6.2.2.1) c3
   split
   rename_i h11
   have h6:=w6 (.inr h11);have h7:=w7 h11
   have hl:=Zw hC (f:=e.num.toNat) zO h7.1 e.count.toNat xs t c2 zO c3
   cases h5:Lx (C.all e.num.toNat) e.count.toNat xs t with
   |err c=>rw[h5]at hl;exact hl
   |ok ys u=>rw[h5]at hl;exact⟨hl.2.1 _ (by rw[hl.1];omega),hl.2.2⟩
   refine ft c2 ?_ c3
   rw[c1]
   by_cases h7:e.kind=7
   rw[w4 h7];decide
   rw[w3 (by omega)];decide
theorem VF {p:List Fn}(hv:GC p)(n:Nat):∀F,F≤p.length→lE p n F (FM p n F)
 |0,_=>⟨fun f j xs t h=>by omega,fun f xs t h=>by omega⟩
 |F+1,hF=>by
  have ih:=VF hv n F zO
  have hO:∀j xs t,j<(p.getD F Fn.zero).outs.length→Cp n xs→((xs.length:Nat):Int)=(p.getD F Fn.zero).params→t≤3000→dF n (Dj n (FM p n F) ((p.getD F Fn.zero).outs.getD j Ex.zero) xs t):=fun j xs t h2 h3 h4 h5 =>
   VE ih _ _ (A7 _) xs t (by rw[h4];exact hv.wf F zO j h2) h3 h5
  refine⟨fun f j xs t h1 h2 h3 h4 h5=>?_,fun f xs t h1 h3 h4 h5=>?_⟩
  show dF n (if f=F then _ else _)
  split
  rename_i e;subst e;exact hO j xs t h2 h3 h4 h5
  exact ih.one f j xs t zO h2 h3 h4 h5
  show kR n _ (if f=F then _ else _)
  split
  rename_i e;subst e
  refine VD _ (fun e he s hs=>?_) t h5
  obtain⟨j,hj,rfl⟩:=List.mem_iff_getElem.1 he
  have:=hO j xs s hj h3 h4 hs
  rwa [HO hj]at this
  exact ih.all f xs t zO h3 h4 h5
theorem lF {p:List Fn}(hv:GC p){n f:Nat}{a:List Sr}(hf:f<p.length)(ha:Cp n a)(hl:((a.length:Nat):Int)=(p.getD f Fn.zero).params):Zr p n f a:=by
 have h:=(VF hv n (f+1) zO).all f a 0 zO ha hl zO;rw[IR (by omega)]at h;have e:ev p n f a=Eo n (FM p n f) (p.getD f Fn.zero).outs a 0:=rfl;rw[← e]at h;cases h2:ev p n f a with
 |err c =>
  rw[h2]at h;have h:c=6∨c=7:=h;exact⟨by rw[Kh h2];omega,by rw[SS h2];omega,fun hh=>by rw[Kh h2]at hh;omega,by rw[QB h2];exact Cp.nil n,fun _=>QB h2⟩
 |ok xs s =>
  rw[h2]at h;have h:xs.length=_∧Cp n xs∧s≤3000:=h;exact⟨by rw[MI h2];omega,by rw[SR h2];exact h.2.2,fun _=>by rw[MH h2];exact h.1,by rw[MH h2];exact h.2.1,fun hh=>absurd (MI h2) hh⟩
def ag (k:Nat)(y z:List Sr):Prop:=y.length=z.length∧∀i j,j<k→(y.getD i []).getD j 0=(z.getD i []).getD j 0
theorem lG {a b:Sr}(hl:a.length=b.length)(h:∀j,j<a.length→a.getD j 0=b.getD j 0):a=b :=
 List.ext_getElem hl fun j h1 h2=>by have:=h j h1;rwa [HO h1,HO h2]at this
theorem lH {y z:List Sr}(hl:y.length=z.length)(h:∀j,j<y.length→y.getD j []=z.getD j []):y=z :=
 List.ext_getElem hl fun j h1 h2=>by have:=h j h1;rwa [HO h1,HO h2]at this
theorem VG {α:Type}{E:Bz α}{H:Array Obj}:∀ {us:List Value}{xs:List α}{F:List Nat}(k:Nat),els E H us xs F→∃G,els E H (us.take k) (xs.take k) G∧∀b∈G,b∈F:=by
 intro us
 induction us with
 |nil=>intro xs F k h;cases xs with
  |nil=>exact⟨F,by simpa using h,fun b hb=>hb⟩
  |cons=>exact h.elim
 |cons u us ih =>
  intro xs F k h;cases xs with
  |nil=>exact h.elim
  |cons x xs =>
   cases k with
   |zero=>exact⟨[],rfl,fun b hb=>by cases hb⟩
   |succ k =>
    obtain⟨A,C,rfl,p1,p2⟩:=h;obtain⟨G,g1,g2⟩:=ih k p2;exact⟨A++G,⟨A,G,rfl,p1,g1⟩,fun b hb=>by
     rcases zi.1 hb with hb|hb;exact z8 _ hb;exact z1 _ (g2 b hb)⟩
theorem Rd.pref {α:Type}{E:Bz α}{H:Array Obj}{v:Value}{xs:List α}{k:Nat}(h:Rd (B9 E) H v xs)(hk:k≤xs.length):Rd (B9 E) H (Oh v k) (xs.take k):=by
 obtain⟨F,h⟩:=h;rcases h with⟨a,cap,rfl,rfl,rfl⟩|⟨us,g,off,cap,cur,e,fr,F',hels,rfl,hg,h1,h2,rfl⟩;have:k=0:=by simpa using hk
 subst this;exact⟨[],.inl ⟨a,cap,rfl,by simp,rfl⟩⟩;obtain⟨G,g1,_⟩:=VG k hels;have hl:(xs.take k).length=k:=by rw[List.length_take];omega
 refine⟨g::G,.inr ⟨us.take k,g,off,cap,cur,e,fr,G,g1,by rw[hl];rfl,hg,?_,by rw[hl];omega,rfl⟩⟩;rw[hl,← h1,List.take_take,Nat.min_eq_left hk]
theorem fu {a b:Sr}{k:Nat}(h:k<a.length):(CW a b).getD k 0=md (a.getD k 0+b.getD k 0):=DO 0 h
theorem fv {a b:Sr}{k:Nat}(h:k<a.length):(Hq a b).getD k 0=md (a.getD k 0-b.getD k 0):=DO 0 h
theorem fw {a:Sr}{y:Int}{k:Nat}(h:k<a.length):(DF a y).getD k 0=md (a.getD k 0*y):=DO 0 h
theorem QM {a b:Sr}(h:0<a.length):(CL a b).getD 0 0=md (0+a.getD 0 0*b.getD 0 0):=DO 0 h
theorem VH {a b:Sr}(h:0<a.length):(CD a b).getD 0 0=md (a.getD 0 0*inv (b.getD 0 0)):=SP h
theorem YE {n:Nat}{c:Int}(h:0<n):(IQ n c).getD 0 0=c:=by obtain⟨n,rfl⟩:∃k,n=k+1:=⟨n-1,zO⟩;unfold IQ;rw[List.replicate_succ];rfl
theorem VI {p:List Fn}(hv:GC p){n f:Nat}{a:List Sr}(hf:f<p.length)(ha:Cp n a)(hl:((a.length:Nat):Int)=(p.getD f Fn.zero).params) :
  (∃x s,ev p n f a=.ok x s∧x.length=(p.getD f Fn.zero).outs.length∧Cp n x)∨ev p n f a=.err 6∨ev p n f a=.err 7:=by
 have h:=(VF hv n (f+1) zO).all f a 0 zO ha hl zO;rw[IR (by omega)]at h;have e:ev p n f a=Eo n (FM p n f) (p.getD f Fn.zero).outs a 0:=rfl;rw[← e]at h;cases h2:ev p n f a with
 |err c =>
  rw[h2]at h;have h:c=6∨c=7:=h;rcases h with rfl|rfl;exact .inr<|.inl rfl;exact .inr<|.inr rfl
 |ok xs s =>
  rw[h2]at h;have h:xs.length=_∧Cp n xs∧s≤3000:=h;exact .inl ⟨xs,s,rfl,h.1,h.2.1⟩
def NT (a d:List Int)(n:Nat):List Sr:=M5 a.length fun i=>(IQ n (a.getD i 0)).set 1 (d.getD i 0)
@[simp] theorem Kn (a d:List Int)(n:Nat):(NT a d n).length=a.length:=by simp[NT]
theorem RW {a d:List Int}{n k:Nat}(h:k<a.length):(NT a d n).getD k []=(IQ n (a.getD k 0)).set 1 (d.getD k 0):=DO [] h
theorem Mc {a d:List Int}{n:Nat}(ha:Bi a=true)(hd:Bi d=true):Cp n (NT a d n):=fun k hk=>by
 rw[Kn]at hk
 rw[RW hk]
 refine⟨by rw[z6,EY],?_⟩
 have h1:=FQ (n:=n)<|Di.2<|Cd ha k
 unfold Bi
 rw[zm]
 intro y hy
 rcases List.mem_or_eq_of_mem_set hy with hy|rfl
 have:=h1.2;unfold Bi at this;exact zm.1 this y hy
 exact Di.2<|Cd hd k
theorem VJ (n j:Nat):(List.replicate n (0:Int)).getD j 0=0:=by rw[List.getD_eq_getElem?_getD,List.getElem?_replicate];split <;> rfl
theorem fy {a d:List Int}{i:Nat}(h:i<a.length):((NT a d 2).getD i []).getD 0 0=a.getD i 0:=by rw[RW h];rfl
section
section str
variable {P:Program} {ops:Array Oper} {w0:World} {Q:Act→World→Prop} {os:List Oper} {ks:List Nat} {N:Nat} {ρ:Nat→Value} {w:World}
 {d:Nat} {ty:TypeId} {pos:String} {aft:Array Edge} {g:Option (Nat×Bool)} {t e:TypeId}
theorem Zx {α:Type}{E:Bz α}(hE:Cr E){ys:List α}{b:Nat}{z u0 u1:Value}{x0 x1:Operand}(ht:P.underlying t=some (.slice e))(hi:TI P e 1 z b)(hz:z.cells=#[z])
  (hx0:Bv N ρ x0=u0) (hx1:Bv N ρ x1=u1) (hl:ys.length=2) (hels:els E w.heap [u0,u1] ys [])
  (hu:Up ops N ρ ⟨some d,.buildSlice t 2 #[(0,x0),(1,x1)],ty,pos,aft,g⟩)
  (h:∀v w1,AA w w1→w1.heap.size=w.heap.size+1→Fr (Bq E e) w.heap.size w1.heap.size w1.heap v ys→LW P ops w0 Q os ks (mk N (CI ρ d v)) w1) :
  LW P ops w0 Q (⟨some d,.buildSlice t 2 #[(0,x0),(1,x1)],ty,pos,aft,g⟩::os) (3::ks) (mk N ρ) w:=by
 have hc:=hels.cells1 hE;have hr:=Y3 (P:=P) (w:=w) ht hi (hc u0 (by simp)).1 (hc u1 (by simp)).1 hz;have hrun:(execOp (Bv N ρ) ⟨some d,.buildSlice t 2 #[(0,x0),(1,x1)],ty,pos,aft,g⟩).run P w=.ok (.value (.slice (some ⟨w.heap.size,0,none⟩) 2 2)) (w.alloc (.cells #[u0,u1] e)):=by
  simp only[execOp,zc,zf,zh,Sem.run_bind,hx0,hx1,hr,Result.andThen_ok,Sem.run_pure]
 refine J1 rfl hu _ _ hrun (BG _ _)<|h _ _ (BG _ _) (by simp) ?_;have hn:=Hk (e:=e) (w:=w) hE (us:=[u0,u1]) (xs:=ys) (F:=[]) (cur:=#[u0,u1]) hels (by simp[maxLen]) (by rw[hl];rfl) (by rw[hl];simp);rw[hl]at hn;refine⟨_,hn,?_,fun c hc=>?_⟩;rw[List.nodup_cons];exact⟨fun hm=>(by cases hm),zk⟩;rcases ze.1 hc with rfl|hc;exact⟨A7 _,by simp⟩;cases hc
theorem dG {x:Operand}{u:Value}(hx:Bv N ρ x=u)(hc:u.cells=#[u])(hu:Up ops N ρ ⟨some d,.box t x,ty,pos,aft,g⟩)
  (h:∀w1,AA w w1→w1.heap.size=w.heap.size+1→BX w1.heap w.heap.size [u]→LW P ops w0 Q os ks (mk N (CI ρ d (.pointer (some ⟨w.heap.size,0,none⟩)))) w1) :
  LW P ops w0 Q (⟨some d,.box t x,ty,pos,aft,g⟩::os) (3::ks) (mk N ρ) w:=by
 have hrun:(execOp (Bv N ρ) ⟨some d,.box t x,ty,pos,aft,g⟩).run P w=.ok (.value (.pointer (some ⟨w.heap.size,0,none⟩))) (w.alloc (.cells #[u] t)):=by
  simp[execOp,Instr.box,newVar,newRow,hx,hc]
 refine J1 rfl hu _ _ hrun (BG _ _)<|h _ (BG _ _) (by simp) ⟨t,?_⟩;have:=heap_alloc_new w (.cells #[u] t);simpa using this
end str
theorem fz {H:Array Obj}{a b:Int}(h0:-9223372036854775808≤a∧a≤9223372036854775807)(h1:-9223372036854775808≤b∧b≤9223372036854775807):els rI H [.int .i64 a,.int .i64 b] [a,b] [] :=
 ⟨[],[],rfl,⟨rfl,rfl,h0⟩,[],[],rfl,⟨rfl,rfl,h1⟩,rfl⟩
end
def dl (i:Nat)(j:Nat):Int:=if i=j then 1 else 0
structure RY (m:Nat)(a:List Int)(X:List Sr):Prop where
 len:X.length=a.length
 ser:∀i,i<a.length→Dn m (X.getD i [])
 at0:∀i,i<a.length→(X.getD i []).getD 0 0=a.getD i 0
section
theorem QN {α:Type}{P:List α→Prop}(h0:P [])(h1:∀l c,P l→P (l++[c]))(l:List α):P l:=by
 have h:∀l:List α,P l.reverse:=fun l=>by
  induction l with
  |nil=>exact h0
  |cons c l ih=>rw[List.reverse_cons];exact h1 _ _ ih
 have:=h l.reverse;rwa [List.reverse_reverse]at this
def Gk (m:Nat)(A R:List Sr)(c:AF):Sr :=
 if c.op=1 then A.getD c.num.toNat []else if c.op=3 then CW (R.getD c.a.toNat []) (R.getD c.b.toNat [])else if c.op=4 then Hq (R.getD c.a.toNat []) (R.getD c.b.toNat [])
 else if c.op=5 then CL (R.getD c.a.toNat []) (R.getD c.b.toNat [])else if c.op=7 then DF (R.getD c.a.toNat []) 1000002
 else if c.op=6 then CD (R.getD c.a.toNat []) (R.getD c.b.toNat [])else IQ m c.num
def C6 (m:Nat)(A:List Sr)(cs:List AF):List Sr:=cs.foldl (fun R c=>R++[Gk m A R c]) []
section
variable {m:Nat} {A:List Sr}
theorem Hd (cs:List AF)(c:AF):C6 m A (cs++[c])=C6 m A cs++[Gk m A (C6 m A cs) c]:=by unfold C6;rw[List.foldl_append];rfl
@[simp] theorem C7 (cs:List AF):(C6 m A cs).length=cs.length:=by
 induction cs using QN with
 |h0=>rfl
 |h1 l c ih=>rw[Hd,z4,ih,z4];rfl
theorem QO (cs l:List AF){k:Nat}(hk:k<cs.length):(C6 m A (cs++l)).getD k []=(C6 m A cs).getD k []:=by
 induction l using QN with
 |h0=>rw[List.append_nil]
 |h1 l c ih=>rw[← List.append_assoc,Hd,Mp (by rw[C7,z4];omega),ih]
theorem OF (cs:List AF)(c:AF):(C6 m A (cs++[c])).getD cs.length []=Gk m A (C6 m A cs) c:=by rw[Hd,NL (by rw[C7])]
end
def E8 (ni k:Nat)(c:AF):Prop :=
 (c.op=1∧c.a=0∧c.b=0∧0≤c.num∧c.num<((ni:Nat):Int))∨(c.op=2∧c.a=0∧c.b=0∧0≤c.num∧c.num<1000003) ∨
 ((c.op=3∨c.op=4∨c.op=5∨c.op=6)∧(0≤c.a∧c.a<((k:Nat):Int))∧(0≤c.b∧c.b<((k:Nat):Int))∧c.num=0)∨(c.op=7∧(0≤c.a∧c.a<((k:Nat):Int))∧c.b=0∧c.num=0)
theorem E8.bin {ni k:Nat}{op a b:Int}(h:op=3∨op=4∨op=5∨op=6)(ha:0≤a∧a<((k:Nat):Int))(hb:0≤b∧b<((k:Nat):Int)):E8 ni k ⟨op,a,b,0⟩:=.inr (.inr (.inl ⟨h,ha,hb,rfl⟩))
theorem E8.neg {ni k:Nat}{a:Int}(ha:0≤a∧a<((k:Nat):Int)):E8 ni k ⟨7,a,0,0⟩:=.inr (.inr (.inr ⟨rfl,ha,rfl,rfl⟩))
structure HV (m:Nat)(A:List Sr)(T:Tp):Prop where
 cl:T.code.length=T.vals.length
 ser:∀k,k<T.code.length→Dn m ((C6 m A T.code).getD k [])∧((C6 m A T.code).getD k []).getD 0 0=T.vals.getD k 0
 form:∀k,k<T.code.length→E8 A.length k (T.code.getD k AF.zero)
 dv:∀k,k<T.code.length→(T.code.getD k AF.zero).op=6→T.at (T.code.getD k AF.zero).b≠0
 gd:∀k,k<T.grd.length→(0≤(T.grd.getD k H8.zero).reg∧(T.grd.getD k H8.zero).reg<((T.vals.length:Nat):Int))∧(T.grd.getD k H8.zero).z=decide (T.at (T.grd.getD k H8.zero).reg=0)
def TE (T T':Tp):Prop:=(∃l,T'.code=T.code++l)∧∃l,T'.vals=T.vals++l
theorem TE.refl (T:Tp):TE T T:=⟨⟨[],by simp⟩,[],by simp⟩
theorem TE.trans {T T' T'':Tp}(h:TE T T')(k:TE T' T''):TE T T'':=by obtain⟨⟨l,h1⟩,l2,h2⟩:=h;obtain⟨⟨l3,h3⟩,l4,h4⟩:=k;exact⟨⟨l++l3,by rw[h3,h1,List.append_assoc]⟩,l2++l4,by rw[h4,h2,List.append_assoc]⟩
theorem TE.put (T:Tp)(c:AF)(v:Int):TE T (T.put c v):=⟨⟨[c],rfl⟩,[v],rfl⟩
theorem TE.guard (T:Tp)(r:Int)(z:Bool):TE T (T.guard r z):=⟨⟨[],by simp[Tp.guard]⟩,[],by simp[Tp.guard]⟩
section
variable {m:Nat} {A:List Sr} {T T':Tp}
theorem TE.reg (h:TE T T'){k:Nat}(hk:k<T.code.length):(C6 m A T'.code).getD k []=(C6 m A T.code).getD k []:=by obtain⟨⟨l,h1⟩,_⟩:=h;rw[h1,QO _ _ hk]
theorem TE.at (h:TE T T'){r:Int}(hr:0≤r∧r<((T.vals.length:Nat):Int)):T'.at r=T.at r:=by obtain⟨_,l,h1⟩:=h;unfold Tp.at;rw[h1,Mp (by omega)]
theorem TE.len (h:TE T T'):T.code.length≤T'.code.length∧T.vals.length≤T'.vals.length:=by obtain⟨⟨l,h1⟩,l2,h2⟩:=h;rw[h1,h2,z4,z4];omega
def Q3 (m:Nat)(A:List Sr)(T:Tp)(r:Int)(z:Sr):Prop:=(0≤r∧r<((T.vals.length:Nat):Int))∧z=(C6 m A T.code).getD r.toNat []
def OG (m:Nat)(A:List Sr)(n:Nat)(T:Tp)(rs:List Int)(zs:List Sr):Prop:=rs.length=n∧zs.length=n∧∀i,i<n→Q3 m A T (rs.getD i 0) (zs.getD i [])
theorem Q3.mono {r:Int}{z:Sr}(hc:T.code.length=T.vals.length)(h:Q3 m A T r z)(k:TE T T'):Q3 m A T' r z:=by have:=k.len;exact⟨by have:=h.1;omega,by rw[k.reg (by have:=h.1;omega)];exact h.2⟩
theorem OG.mono {n:Nat}{rs:List Int}{zs:List Sr}(hc:T.code.length=T.vals.length)(h:OG m A n T rs zs)(k:TE T T'):OG m A n T' rs zs:=⟨h.1,h.2.1,fun i hi=>(h.2.2 i hi).mono hc k⟩
theorem OG.snoc {n:Nat}{rs:List Int}{zs:List Sr}{r:Int}{z:Sr}(h:OG m A n T rs zs)(h1:Q3 m A T r z):OG m A (n+1) T (rs++[r]) (zs++[z]):=by refine⟨by simp[h.1],by simp[h.2.1],fun i hi=>?_⟩;by_cases e:i=n;rw[NL (by rw[h.1];exact e),NL (by rw[h.2.1];exact e)];exact h1;rw[Mp (by rw[h.1];omega),Mp (by rw[h.2.1];omega)];exact h.2.2 i zO
theorem Q3.at (hI:HV m A T){r:Int}{z:Sr}(h:Q3 m A T r z):Dn m z∧z.getD 0 0=T.at r:=by have:=hI.ser r.toNat (by rw[hI.cl];have:=h.1;omega);rw[h.2];exact this
def IW {α β:Type}(m:Nat)(A:List Sr)(T:Tp)(R:Tp→α→β→Prop)(r:Rs (α×Tp))(rz:Rs β):Prop:=match r with
 |.ok x t=>∃z,rz=.ok z t∧HV m A x.2∧TE T x.2∧R x.2 x.1 z
 |.err c=>rz=.err c
theorem IW.bind {α β α' β':Type}{R:Tp→α→β→Prop}{R':Tp→α'→β'→Prop}{r:Rs (α×Tp)}{rz:Rs β}{g:α×Tp→Nat→Rs (α'×Tp)}{gz:β→Nat→Rs β'}(h:IW m A T R r rz)
  (hg:∀x T' z t,HV m A T'→TE T T'→R T' x z→IW m A T' R' (g (x,T') t) (gz z t)):IW m A T R' (r.bind g) (rz.bind gz):=by
 cases r with
 |err c=>have h9:rz=.err c:=h;subst h9;exact rfl
 |ok x t =>
  obtain⟨z,h1,h2,h3,h4⟩:=h;subst h1;have h5:=hg x.1 x.2 z t h2 h3 h4;rw[Rs.bind_ok,Rs.bind_ok];cases hr:g x t with
  |err c=>rw[hr]at h5;exact h5
  |ok y u =>
   rw[hr]at h5;obtain⟨v,q1,q2,q3,q4⟩:=h5;exact⟨v,q1,q2,h3.trans q3,q4⟩
theorem IW.ret {α β:Type}{R:Tp→α→β→Prop}{x:α}{z:β}{t:Nat}(hI:HV m A T')(hE:TE T T')(h:R T' x z):IW m A T R (.ok (x,T') t) (.ok z t):=⟨z,rfl,hI,hE,h⟩
theorem HV.put (h:HV m A T){c:AF}{v:Int}(hs:Dn m (Gk m A (C6 m A T.code) c))(hv:(Gk m A (C6 m A T.code) c).getD 0 0=v)(hf:E8 A.length T.code.length c)(hd:c.op=6→T.at c.b≠0):HV m A (T.put c v):=by
 have hE:=TE.put T c v;have hcl:=h.cl;have key:∀k,k<(T.put c v).code.length→k<T.code.length∨k=T.code.length:=fun k hk=>by rw[RV]at hk;omega
 have cg:∀k,k<T.code.length→(T.put c v).code.getD k AF.zero=T.code.getD k AF.zero:=fun k hk=>Mp hk;have cn:(T.put c v).code.getD T.code.length AF.zero=c:=NL rfl;refine⟨by rw[RV,Ev,hcl],fun k hk=>?_,fun k hk=>?_,fun k hk h6=>?_,fun k hk=>?_⟩;rcases key k hk with hk|rfl;rw[hE.reg hk,show(T.put c v).vals.getD k 0=T.vals.getD k 0 from Mp (by omega)];exact h.ser k hk;rw[show(C6 m A (T.put c v).code).getD T.code.length []=_ from OF _ _,show(T.put c v).vals.getD T.code.length 0=v from NL hcl];exact⟨hs,hv⟩;rcases key k hk with hk|rfl;rw[cg k hk];exact h.form k hk;rw[cn];exact hf;rcases key k hk with hk|rfl;rw[cg k hk]at h6 ⊢;have:=h.form k hk;unfold E8 at this;rw[hE.at (by omega)];exact h.dv k hk h6;rw[cn]at h6 ⊢;unfold E8 at hf;rw[hE.at (by omega)];exact hd h6;have:=h.gd k hk;rw[Vr]at hk ⊢;refine⟨by rw[Ev];omega,?_⟩;rw[hE.at this.1];exact this.2
theorem HV.guard (h:HV m A T){r:Int}(hr:0≤r∧r<((T.vals.length:Nat):Int)):HV m A (T.guard r (decide (T.at r=0))):=by refine⟨h.cl,h.ser,h.form,h.dv,fun k hk=>?_⟩;rw[MN]at hk;by_cases e:k<T.grd.length;rw[show(T.guard r (decide (T.at r=0))).grd.getD k H8.zero=T.grd.getD k H8.zero from Mp e];exact h.gd k e;rw[show(T.guard r (decide (T.at r=0))).grd.getD k H8.zero=⟨r,decide (T.at r=0)⟩from NL (by omega)];exact⟨hr,rfl⟩
theorem IW.put {R:Tp→Int→Sr→Prop}{c:AF}{v:Int}{z:Sr}{t:Nat}(h:HV m A T)(hz:Gk m A (C6 m A T.code) c=z)(hs:Dn m z)(hv:z.getD 0 0=v)(hf:E8 A.length T.code.length c)(hd:c.op=6→T.at c.b≠0)
  (hR:∀T' r z,Q3 m A T' r z→R T' r z):IW m A T R (.ok (((T.vals.length:Nat):Int),T.put c v) t) (.ok z t):=by
 subst hz;refine IW.ret (h.put hs hv hf hd) (TE.put T c v)<|hR _ _ _ ⟨by rw[Ev];omega,?_⟩;rw[Int.toNat_natCast,← h.cl];exact(OF _ _).symm
theorem fA (hm:1≤m)(h:HV m A T){k:Int}{n t:Nat}{rs:List Int}{zs:List Sr}(hr:OG m A n T rs zs)(hk:3≤k∧k≤7)(h1:k=7→1≤n)(h2:k≠7→2≤n):IW m A T (Q3 m A) (RS k rs t T) (PY k zs t):=by
 have hn1:1≤n:=by by_cases e:k=7;exact h1 e;have:=h2 e;omega
 have ha:=hr.2.2 0 zO;have hA:=ha.at h;have hal:=hA.1.1;have hac:=ha.1;have hcl:=h.cl;have fin:∀T' r z,Q3 m A T' r z→Q3 m A T' r z:=fun _ _ _ h=>h;by_cases k7:k=7;subst k7;rw[If (Zt rfl),RU rfl];refine IW.put h ?_ ⟨(I9 _ _).trans hal,H4 _ _⟩ ?_ (E8.neg zO) (fun h6=>absurd (show(7:Int)=6 from h6) (by decide)) fin;rw[ha.2];rfl;rw[fw zO,hA.2];show md (T.at (rs.getD 0 0)*1000002)=md (0-T.at (rs.getD 0 0));unfold md;omega;have hb:=hr.2.2 1<|h2 k7;have hB:=hb.at h;have hbl:=hB.1.1;have hbc:=hb.1;by_cases k3:k=3;subst k3;rw[If (fun h=>h.1 rfl),GI (by decide)];refine IW.put h ?_ ⟨(H3 _ _).trans hal,My _ _⟩ ?_ (E8.bin (.inl rfl) zO zO) (fun h6=>absurd (show(3:Int)=6 from h6) (by decide)) fin;rw[ha.2,hb.2];rfl;rw[fu zO,hA.2,hB.2];rfl;by_cases k4:k=4;subst k4;rw[If (fun h=>h.2.1 rfl),GI (by decide)];refine IW.put h ?_ ⟨(Ia _ _).trans hal,Mz _ _⟩ ?_ (E8.bin (.inr<|.inl rfl) zO zO) (fun h6=>absurd (show(4:Int)=6 from h6) (by decide)) fin;rw[ha.2,hb.2];rfl;rw[fv zO,hA.2,hB.2];rfl;by_cases k5:k=5;subst k5;rw[If (fun h=>h.2.2.1 rfl),GI (by decide)];refine IW.put h ?_ ⟨(G6 _ _).trans hal,I8 _ _⟩ ?_ (E8.bin (.inr<|.inr<|.inl rfl) zO zO) (fun h6=>absurd (show(5:Int)=6 from h6) (by decide)) fin;rw[ha.2,hb.2];rfl;rw[QM zO,hA.2,hB.2,Int.zero_add];rfl;have k6:k=6:=by omega
 subst k6;by_cases hz:T.at (rs.getD 1 0)=0;rw[Pe (by rw[GI (by decide)];exact⟨by decide,by decide,by decide,by decide,hz⟩)];show PY 6 zs t=.err 6;show(if (zs.getD 1 []).getD 0 0=0 then _ else _)=_;rw[if_pos (by rw[hB.2];exact hz)];rw[If (by rw[GI (by decide)];exact fun h9=>hz h9.2.2.2.2),GI (by decide)];have e:PY 6 zs t=.ok (CD (zs.getD 0 []) (zs.getD 1 [])) t:=by
  show(if (zs.getD 1 []).getD 0 0=0 then _ else _)=_;rw[if_neg (by rw[hB.2];exact hz)]
 rw[e];refine IW.put h ?_ ⟨(E2 _ _).trans hal,H2 _ _⟩ ?_ (E8.bin (.inr<|.inr<|.inr rfl) zO zO) (fun _=>hz) fin;rw[ha.2,hb.2];rfl;rw[VH zO,hA.2,hB.2];rfl
end
structure lI (m:Nat)(A:List Sr)(p:List Fn)(F:Nat)(G:Cg)(C:Ca):Prop where
 one:∀f j n T rs zs t,f<F→j<(p.getD f Fn.zero).outs.length→HV m A T→OG m A n T rs zs→((n:Nat):Int)=(p.getD f Fn.zero).params→IW m A T (Q3 m A) (G.one f j rs t T) (C.one f j zs t)
 all:∀f n T rs zs t,f<F→HV m A T→OG m A n T rs zs→((n:Nat):Int)=(p.getD f Fn.zero).params→IW m A T (OG m A (p.getD f Fn.zero).outs.length) (G.all f rs t T) (C.all f zs t)
section
variable {m:Nat} {A:List Sr} {p:List Fn}
theorem VK {G:Cg}{C:Ca}{env:List Int}{ez:List Sr}{n:Nat}:∀(l:List Ex),(∀e∈l,∀s T,HV m A T→OG m A n T env ez→IW m A T (Q3 m A) (Ei G e env s T) (Dj m C e ez s))→∀s T,HV m A T→OG m A n T env ez→IW m A T (OG m A l.length) (Et G l env s T) (Eo m C l ez s)
 |[],_,s,T,hI,he=>by
  rw[Et,Eo]
  exact IW.ret hI (TE.refl T) ⟨rfl,rfl,fun i hi=>absurd hi<|Nat.not_lt_zero i⟩
 |e::l,h,s,T,hI,he=>by
  rw[Et,Eo]
  refine (h e (by simp) s T hI he).bind fun x T1 z t h1 h2 h3=>?_
  refine (VK l (fun e' he'=>h e' (by simp[he'])) t T1 h1<|he.mono hI.cl h2).bind fun xs T2 zs u q1 q2 q3=>?_
  refine IW.ret q1 (TE.refl T2) ⟨by simp[q3.1],by simp[q3.2.1],fun i hi=>?_⟩
  cases i with
  |zero=>exact h3.mono h1.cl q2
  |succ i=>exact q3.2.2 i (by simpa using hi)
theorem VL {F f:Nat}{G:Cg}{C:Ca}(hC:lI m A p F G C)(hf:f<F)(ho:(((p.getD f Fn.zero).outs.length:Nat):Int)=(p.getD f Fn.zero).params):∀(c:Nat)(rs:List Int)(zs:List Sr)(t:Nat)(T:Tp),HV m A T→OG m A (p.getD f Fn.zero).outs.length T rs zs →
  IW m A T (OG m A (p.getD f Fn.zero).outs.length) (Ed (G.all f) c rs t T) (Lx (C.all f) c zs t)
 |0,rs,zs,t,T,hI,h=>IW.ret hI (TE.refl T) h
 |c+1,rs,zs,t,T,hI,h=>(VL hC hf ho c rs zs t T hI h).bind fun x T1 z u h1 h2 h3=>hC.all f _ T1 x z u hf h1 h3 ho
theorem VM (hm:1≤m){F:Nat}{G:Cg}{C:Ca}(hC:lI m A p F G C):∀(z:Nat)(e:Ex),e.size≤z→∀(n:Nat)(env:List Int)(ez:List Sr)(s:Nat)(T:Tp),wf p ((F:Nat):Int) e ((n:Nat):Int)=true→HV m A T→OG m A n T env ez →
  IW m A T (Q3 m A) (Ei G e env s T) (Dj m C e ez s)
 |0,e,h,_,_,_,_,_,_,_,_=>by have:=Cv e;omega
 |z+1,e,h,n,env,ez,s,T,hw,hI,he=>by
  obtain⟨w1,w2,w3,w4,w5,w6,w7,w8⟩:=Dk (D6 hw)
  have hz:∀j,j<e.kids.length→(e.kids.getD j Ex.zero).size≤z:=fun j hj=>by
   have:=Cv e;have:=Mo hj;omega
  have hk:∀j,j<e.kids.length→¬(e.kind=9∧j=1)→∀t T',HV m A T'→OG m A n T' env ez→IW m A T' (Q3 m A) (Oz G e.kids j env t T') (PZ m C e.kids j ez t):=fun j hj hn t T' h1 h2=>by
   rw[DW _ _ _ _ _ _ hj,EO _ _ _ _ _ _ hj]
   exact VM hm hC z _ (hz j hj) n env ez t T' (C9 hw hj hn) h1 h2
  rw[Ee,Hr]
  by_cases hs3:3000≤s
  rw[if_pos hs3,if_pos hs3];exact rfl
  rw[if_neg hs3,if_neg hs3]
  by_cases k1:e.kind=1
  rw[if_pos k1,if_pos k1]
  have:=w8 k1
  exact IW.put hI rfl (FQ<|Di.2 this) (YE hm) (.inr<|.inl ⟨rfl,rfl,rfl,this⟩) (fun h6=>absurd (show(2:Int)=6 from h6) (by decide)) fun _ _ _ h=>h
  rw[if_neg k1,if_neg k1]
  by_cases k2:e.kind=2
  rw[if_pos k2,if_pos k2]
  exact IW.ret hI (TE.refl T)<|he.2.2 _ (by have:=w2 k2;omega)
  rw[if_neg k2,if_neg k2]
  by_cases k8:e.kind=8
  rw[if_pos k8,if_pos k8]
  have h3:=w5 k8
  refine (hk 0 zO zO (s+1) T hI he).bind fun x T1 y t h1 h2 hx=>?_
  have hq:=(hx.at h1).2
  have he1:=he.mono hI.cl h2
  dsimp only
  have fin:∀ {r:Rs RI} {rz:Rs Sr} {b:Bool},IW m A (T1.guard x b) (Q3 m A) r rz→IW m A T1 (Q3 m A) r rz:=fun {r rz b} hh=>by
   cases r with
   |err c=>exact hh
   |ok v u=>obtain⟨q,a1,a2,a3,a4⟩:=hh;exact⟨q,a1,a2,(TE.guard T1 x b).trans a3,a4⟩
  have hg:=h1.guard hx.1
  by_cases h0:T1.at x=0
  rw[if_pos h0,if_pos (by rw[hq];exact h0)]
  rw[A5 h0]at hg
  exact fin<|hk 1 zO zO t _ hg<|he1.mono h1.cl<|TE.guard T1 x true
  rw[if_neg h0,if_neg (by rw[hq];exact h0)]
  rw[A6 h0]at hg
  exact fin<|hk 2 zO zO t _ hg<|he1.mono h1.cl<|TE.guard T1 x false
  rw[if_neg k8,if_neg k8]
  by_cases k9:e.kind=9
  rw[if_pos k9,if_pos k9]
  have h3:=w3 zO
  refine (hk 0 zO zO (s+1) T hI he).bind fun x T1 y t h1 h2 hx=>?_
  dsimp only
  rw[DW _ _ _ _ _ _ (show 1<e.kids.length by omega),EO _ _ _ _ _ _ (show 1<e.kids.length by omega)]
  refine VM hm hC z _ (hz 1 zO) (n+1) (env++[x]) (ez++[y]) t T1 ?_ h1<|(he.mono hI.cl h2).snoc hx
  have:=Ib hw zO k9
  rw[Int.natCast_add];exact this
  rw[if_neg k9,if_neg k9]
  have hc:=VK (G:=G) (C:=C) (env:=env) (ez:=ez) (n:=n) e.kids (fun x hx t T' h1 h2=>by
   obtain⟨j,hj,rfl⟩:=List.mem_iff_getElem.1 hx
   have:=hk j hj zO t T' h1 h2
   rw[DW _ _ _ _ _ _ hj,EO _ _ _ _ _ _ hj,HO hj]at this
   exact this) (s+1) T hI he
  refine hc.bind fun xs T1 zs t h1 h2 hx=>?_
  dsimp only
  by_cases k10:e.kind=10
  rw[if_pos k10,if_pos k10]
  have h6:=w6<|.inl k10
  exact hC.one _ _ _ T1 xs zs t zO zO h1 hx (by exact h6.2.2.1)
  rw[if_neg k10,if_neg k10]
  by_cases k11:e.kind=11
  rw[if_pos k11,if_pos k11]
  have h6:=w6 (.inr k11);have h7:=w7 k11
  have hl:e.kids.length=(p.getD e.num.toNat Fn.zero).outs.length:=by omega
  rw[hl]at hx
  refine (VL hC (f:=e.num.toNat) zO h7.1 e.count.toNat xs zs t T1 h1 hx).bind fun ys T2 ws u q1 q2 q3=>?_
  exact IW.ret q1 (TE.refl T2)<|q3.2.2 _ zO
  rw[if_neg k11,if_neg k11]
  exact fA hm h1 hx zO (fun h7=>by rw[w4 h7];decide) fun h7=>by rw[w3 (by omega)];decide
theorem Zy (hm:1≤m)(hv:GC p):∀F,F≤p.length→lI m A p F (H9 p F) (FM p m F)
 |0,_=>⟨fun f j n T rs zs t h=>by omega,fun f n T rs zs t h=>by omega⟩
 |F+1,hF=>by
  have ih:=Zy hm hv F zO
  have hO:∀j n T rs zs t,j<(p.getD F Fn.zero).outs.length→HV m A T→OG m A n T rs zs→((n:Nat):Int)=(p.getD F Fn.zero).params→IW m A T (Q3 m A) (Ei (H9 p F) ((p.getD F Fn.zero).outs.getD j Ex.zero) rs t T) (Dj m (FM p m F) ((p.getD F Fn.zero).outs.getD j Ex.zero) zs t):=fun j n T rs zs t h2 h1 h3 h4 =>
   VM hm ih _ _ (A7 _) n rs zs t T (by rw[h4];exact hv.wf F zO j h2) h1 h3
  refine⟨fun f j n T rs zs t h1 h2 h0 h3 h4=>?_,fun f n T rs zs t h1 h0 h3 h4=>?_⟩
  show IW m A T _ (if f=F then _ else _) (if f=F then _ else _)
  by_cases e:f=F
  subst e;rw[if_pos rfl,if_pos rfl];exact hO j n T rs zs t h2 h0 h3 h4
  rw[if_neg e,if_neg e];exact ih.one f j n T rs zs t zO h2 h0 h3 h4
  show IW m A T _ (if f=F then _ else _) (if f=F then _ else _)
  by_cases e:f=F
  subst e;rw[if_pos rfl,if_pos rfl]
  refine VK (n:=n) _ (fun e he s T' h5 h6=>?_) t T h0 h3
  obtain⟨j,hj,rfl⟩:=List.mem_iff_getElem.1 he
  have:=hO j n T' rs zs s hj h5 h6 h4
  rwa [HO hj]at this
  rw[if_neg e,if_neg e];exact ih.all f n T rs zs t zO h0 h3 h4
theorem Zz {a:List Int}(hn:Bi a=true)(hA:RY m a A):∀k,k≤a.length→HV m A (Hb a k)
 |0,_=>⟨rfl,fun k hk=>absurd hk (Nat.not_lt_zero k),fun k hk=>absurd hk (Nat.not_lt_zero k),fun k hk=>absurd hk (Nat.not_lt_zero k),fun k hk=>absurd hk (Nat.not_lt_zero k)⟩
 |k+1,h=>by
  have e:Gk m A (C6 m A (Hb a k).code) ⟨1,0,0,((k:Nat):Int)⟩=A.getD k []:=by
   show A.getD (((k:Nat):Int)).toNat []=_;rw[Int.toNat_natCast]
  refine (Zz hn hA k zO).put ?_ ?_ (.inl ⟨rfl,rfl,rfl,Int.natCast_nonneg k,by rw[hA.len];exact Int.ofNat_lt.2 h⟩) fun h6=>absurd (show(1:Int)=6 from h6) (by decide);rw[e];exact hA.ser k h;rw[e];exact hA.at0 k h
theorem fB {a:List Int}(hA:RY m a A):OG m A a.length (Hb a a.length) (FN a.length) A:=by
 have hr:∀k,k≤a.length→∀j,j<k→(C6 m A (Hb a k).code).getD j []=A.getD j []:=fun k=>by
  induction k with
  |zero=>exact fun _ j hj=>absurd hj (Nat.not_lt_zero j)
  |succ k ih =>
   intro hk j hj;show(C6 m A ((Hb a k).code++[_])).getD j []=_;rw[Hd];by_cases e:j=k;rw[NL (by rw[C7,KX];exact e),e];show A.getD (((k:Nat):Int)).toNat []=_;rw[Int.toNat_natCast];rw[Mp (by rw[C7,KX];omega)];exact ih zO j zO
 refine⟨DP _,hA.len,fun i hi=>?_⟩;rw[QE hi];exact⟨by rw[GJ];omega,by rw[Int.toNat_natCast,hr _ (A7 _) i hi]⟩
theorem T3 {a:List Int}{f:Nat}(hm:1≤m)(hv:GC p)(hf:f<p.length)(hn:Bi a=true)(hA:RY m a A)(hl:((a.length:Nat):Int)=(p.getD f Fn.zero).params) :
  IW m A (Hb a a.length) (OG m A (p.getD f Fn.zero).outs.length) (LE p f a) (ev p m f A):=by
 have h:=(Zy (A:=A) hm hv (f+1) zO).all f a.length (Hb a a.length) (FN a.length) A 0 zO (Zz hn hA _<|A7 _) (fB hA) hl;rw[Ki (show f<f+1 by omega),IR (show f<f+1 by omega)]at h;exact h
theorem QP {a:List Int}{f:Nat}(hm:1≤m)(hv:GC p)(hf:f<p.length)(hn:Bi a=true)(hA:RY m a A)(hl:((a.length:Nat):Int)=(p.getD f Fn.zero).params){xs:List Int}{T:Tp}{s:Nat}{c:Int}(h:AQ (LE p f a) (xs,T) s c):Pc p m f A=c:=by
 have hT:=T3 hm hv hf hn hA hl;cases hr:LE p f a with
 |err d =>
  rw[hr]at h hT;have h9:ev p m f A=.err d:=hT;rw[Kh h9];exact h.1.symm
 |ok x t =>
  rw[hr]at h hT;obtain⟨z,h1,_⟩:=hT;rw[MI h1];exact h.2.2.symm
theorem VN {a:List Int}{f:Nat}(hm:1≤m)(hv:GC p)(hf:f<p.length)(hn:Bi a=true)(hA:RY m a A)(hl:((a.length:Nat):Int)=(p.getD f Fn.zero).params){xs:List Int}{T:Tp}{s:Nat}{c:Int}(h:AQ (LE p f a) (xs,T) s c)(hc:c=0) :
  HV m A T∧Vi p m f A=xs.map fun r=>(C6 m A T.code).getD r.toNat []:=by
 have hT:=T3 hm hv hf hn hA hl;subst hc;have hr:=h.ok;rw[hr]at hT;obtain⟨z,h1,h2,h3,h4⟩:=hT;refine⟨h2,?_⟩;rw[MH h1];refine lH (by rw[h4.2.1,zg,h4.1]) fun i hi=>?_;rw[h4.2.1]at hi;rw[E1 (d:=0) (by rw[h4.1];exact hi)];exact (h4.2.2 i hi).2
end
end
section
def LF (m:Nat)(A:List Sr)(cs:List AF)(k:Nat):Prop:=∀j,j<k→(cs.getD j AF.zero).op=6→((C6 m A (cs.take j)).getD (cs.getD j AF.zero).b.toNat []).getD 0 0≠0
section
variable {m k:Nat} {A R:List Sr} {cs:List AF} {c:AF}
theorem Cq (hk:k<cs.length):C6 m A (cs.take (k+1))=C6 m A (cs.take k)++[Gk m A (C6 m A (cs.take k)) (cs.getD k AF.zero)]:=by rw[Cw AF.zero hk,Hd]
theorem Pi (h:c.op=1):Gk m A R c=A.getD c.num.toNat []:=if_pos h
theorem MU (h:c.op=3):Gk m A R c=CW (R.getD c.a.toNat []) (R.getD c.b.toNat []):=by unfold Gk;rw[if_neg zO,if_pos h]
theorem MV (h:c.op=4):Gk m A R c=Hq (R.getD c.a.toNat []) (R.getD c.b.toNat []):=by unfold Gk;rw[if_neg zO,if_neg zO,if_pos h]
theorem MW (h:c.op=5):Gk m A R c=CL (R.getD c.a.toNat []) (R.getD c.b.toNat []):=by unfold Gk;rw[if_neg zO,if_neg zO,if_neg zO,if_pos h]
theorem MX (h:c.op=7):Gk m A R c=DF (R.getD c.a.toNat []) 1000002:=by unfold Gk;rw[if_neg zO,if_neg zO,if_neg zO,if_neg zO,if_pos h]
theorem MY (h:c.op=6):Gk m A R c=CD (R.getD c.a.toNat []) (R.getD c.b.toNat []):=by unfold Gk;rw[if_neg zO,if_neg zO,if_neg zO,if_neg zO,if_neg zO,if_pos h]
theorem MZ (h:c.op≠1∧c.op≠3∧c.op≠4∧c.op≠5∧c.op≠7∧c.op≠6):Gk m A R c=IQ m c.num:=by unfold Gk;rw[if_neg h.1,if_neg h.2.1,if_neg h.2.2.1,if_neg h.2.2.2.1,if_neg h.2.2.2.2.1,if_neg h.2.2.2.2.2]
theorem VO (hA:Cp m A)(hR:Cp m R)(hl:R.length=k)(h:E8 A.length k c):Dn m (Gk m A R c):=by have hg:∀x:Int,0≤x→x<((k:Nat):Int)→Dn m (R.getD x.toNat []):=fun x h0 h1=>hR _ zO;rcases h with⟨h1,_,_,h2,h3⟩|⟨h1,_,_,h2,h3⟩|⟨h1,h2,h3,_⟩|⟨h1,h2,_⟩;rw[Pi h1];exact hA _ zO;rw[MZ (by omega)];exact FQ (Di.2 ⟨h2,h3⟩);have ha:=hg c.a h2.1 h2.2;rcases h1 with h1|h1|h1|h1;rw[MU h1];exact H7 ha;rw[MV h1];exact ME ha;rw[MW h1];exact Id ha;rw[MY h1];exact Ie ha;rw[MX h1];exact MF (hg c.a h2.1 h2.2)
theorem T4 (h:Cp m (C6 m A (cs.take k)))(hA:Cp m A)(hf:E8 A.length k (cs.getD k AF.zero))(hk:k<cs.length):Cp m (C6 m A (cs.take (k+1))):=by rw[Cq hk];exact Cp.snoc h<|VO hA h (by rw[C7,List.length_take];omega) hf
theorem dH:LF m A cs 0:=fun j hj=>absurd hj (Nat.not_lt_zero j)
theorem YF (h:LF m A cs k)(hk:(cs.getD k AF.zero).op≠6):LF m A cs (k+1):=fun j hj h6=>by
 by_cases e:j=k
 subst e;exact absurd h6 hk
 exact h j zO h6
theorem YG (h:LF m A cs k)(hk:((C6 m A (cs.take k)).getD (cs.getD k AF.zero).b.toNat []).getD 0 0≠0):LF m A cs (k+1):=fun j hj h6=>by
 by_cases e:j=k
 subst e;exact hk
 exact h j zO h6
theorem VP {n:Nat}(hk:k<n)(h6:(cs.getD k AF.zero).op=6)(hz:((C6 m A (cs.take k)).getD (cs.getD k AF.zero).b.toNat []).getD 0 0=0):¬LF m A cs n:=fun h=>h k hk h6 hz
end
theorem HV.nz {m:Nat}{A:List Sr}{T:Tp}(h:HV m A T):LF m A T.code T.code.length:=fun j hj h6=>by
 have hf:=h.form j hj
 have hd:=h.dv j hj h6
 unfold E8 at hf
 have hb:(T.code.getD j AF.zero).b.toNat<j:=by omega
 have hs:=(h.ser (T.code.getD j AF.zero).b.toNat zO).2
 have e:(C6 m A (T.code.take j)).getD (T.code.getD j AF.zero).b.toNat []=(C6 m A T.code).getD (T.code.getD j AF.zero).b.toNat []:=by
  have h9:=QO (m:=m) (A:=A) (T.code.take j) (T.code.drop j) (k:=(T.code.getD j AF.zero).b.toNat) (by rw[List.length_take];omega);rw[List.take_append_drop]at h9;exact h9.symm
 rw[e,hs];exact hd
section io
variable {ni k:Nat} {c:AF}
theorem E8.i1 (h:E8 ni k c)(h1:c.op=1):(0≤c.num∧c.num<((ni:Nat):Int)):=by unfold E8 at h;omega
theorem E8.i2 (h:E8 ni k c)(h1:3≤c.op∧c.op≤6):(0≤c.a∧c.a<((k:Nat):Int))∧(0≤c.b∧c.b<((k:Nat):Int)):=by unfold E8 at h;omega
theorem E8.i7 (h:E8 ni k c)(h1:c.op=7):(0≤c.a∧c.a<((k:Nat):Int)):=by unfold E8 at h;omega
theorem E8.i0 (h:E8 ni k c):1≤c.op∧c.op≤7:=by unfold E8 at h;omega
end io
theorem Ih {S:List Nat}{H:Array Obj}{cs:List Value}{x:AF}(h:RN S KU H cs x):cs=fl x∧RO x:=by obtain⟨F,h,_⟩:=h;exact⟨h.1,h.2.1⟩
theorem VQ {S:List Nat}{H:Array Obj}{cs:List Value}{x:H8}(h:RN S KV H cs x):cs=fm x∧Bl x.reg:=by obtain⟨F,h,_⟩:=h;exact⟨h.1,h.2.1⟩
def fC (m:Nat)(A:List Sr)(cs:List AF)(c:Int):Prop:=(c=0∧LF m A cs cs.length)∨(c=6∧¬LF m A cs cs.length)
end
section
def Fz (B:List Sr)(r:Int)(s:Sr):List Sr:=B.set r.toNat (CW (B.getD r.toNat []) s)
def NU (cs:List AF)(R:List Sr)(k:Nat)(B:List Sr):List Sr :=
 if (cs.getD k AF.zero).op=3 then Fz (Fz B (cs.getD k AF.zero).a (B.getD k [])) (cs.getD k AF.zero).b (B.getD k [])
 else if (cs.getD k AF.zero).op=4 then Fz (Fz B (cs.getD k AF.zero).a (B.getD k [])) (cs.getD k AF.zero).b (DF (B.getD k []) 1000002)
 else if (cs.getD k AF.zero).op=5 then Fz (Fz B (cs.getD k AF.zero).a (CL (B.getD k []) (R.getD (cs.getD k AF.zero).b.toNat []))) (cs.getD k AF.zero).b (CL (B.getD k []) (R.getD (cs.getD k AF.zero).a.toNat []))
 else if (cs.getD k AF.zero).op=6 then Fz (Fz B (cs.getD k AF.zero).a (CD (B.getD k []) (R.getD (cs.getD k AF.zero).b.toNat []))) (cs.getD k AF.zero).b (DF (CL (CD (B.getD k []) (R.getD (cs.getD k AF.zero).b.toNat [])) (R.getD k [])) 1000002)
 else if (cs.getD k AF.zero).op=7 then Fz B (cs.getD k AF.zero).a (DF (B.getD k []) 1000002)else B
def Um (cs:List AF)(R:List Sr):Nat→List Sr→List Sr
 |0,B=>B
 |k+1,B=>Um cs R k (NU cs R k B)
def NV (os:List Int)(ws:List Int):Nat→List Sr→List Sr
 |0,B=>B
 |k+1,B=>(NV os ws k B).set (os.getD k 0).toNat (((NV os ws k B).getD (os.getD k 0).toNat []).set 0 (md (((NV os ws k B).getD (os.getD k 0).toNat []).getD 0 0+ws.getD k 0)))
def Lz (R:List Sr):List Sr:=R.map fun s=>List.replicate s.length 0
def J4 (cs:List AF)(R:List Sr)(os ws:List Int):List Sr:=Um cs R cs.length (NV os ws os.length (Lz R))
section
variable {m:Nat} {cs:List AF} {R B:List Sr} {os ws:List Int}
theorem IX (h:Cp m R):Cp m (Lz R):=fun k hk=>by
 have hk':k<R.length:=by unfold Lz at hk;simpa using hk
 have e:(Lz R).getD k []=List.replicate (R.getD k []).length 0:=by unfold Lz;simp[List.getD_eq_getElem?_getD,List.getElem?_map,hk']
 rw[e]
 exact⟨by rw[z5];exact(h k hk').1,MA _⟩
@[simp] theorem DQ:(Lz R).length=R.length:=by simp[Lz]
@[simp] theorem E9 (k:Nat):(NV os ws k B).length=B.length:=by
 induction k with
 |zero=>rfl
 |succ k ih=>show((NV os ws k B).set _ _).length=_;rw[z6,ih]
theorem Cp.set {k:Nat}{s:Sr}(h:Cp m B)(hs:Dn m s):Cp m (B.set k s):=fun j hj=>by
 rw[z6]at hj
 by_cases e:j=k
 rw[e,G5 _ _ _ _ _ zO,if_pos rfl];exact hs
 rw[show(B.set k s).getD j []=B.getD j []from by rw[List.getD_eq_getElem?_getD,List.getElem?_set_ne (fun h=>e h.symm),← List.getD_eq_getElem?_getD]];exact h j hj
theorem KZ {s:Sr}{y:Int}(h:Bi s=true)(hy:0≤y∧y<1000003):Bi (s.set 0 y)=true:=by
 cases s with
 |nil=>rfl
 |cons x s =>
  rw[List.set_cons_zero];unfold Bi at h ⊢;rw[List.all_cons]at h ⊢;have:=Bool.and_eq_true_iff.1 h;rw[this.2,Bool.and_true];exact Di.2 hy
theorem Ht (h:Cp m B)(ho:∀k,k<os.length→(os.getD k 0).toNat<B.length):∀k,k≤os.length→Cp m (NV os ws k B)
 |0,_=>h
 |k+1,hk=>by
  have ih:=Ht h ho k zO
  have h9:=ih (os.getD k 0).toNat (by rw[E9];exact ho k zO)
  exact ih.set ⟨by rw[z6];exact h9.1,KZ h9.2<|CK _⟩
@[simp] theorem Ce {r:Int}{s:Sr}:(Fz B r s).length=B.length:=by unfold Fz;rw[z6]
theorem CP {r:Int}{s:Sr}(h:Cp m B)(hr:r.toNat<B.length):Cp m (Fz B r s):=h.set (H7 (h _ hr))
theorem Pj (k:Nat):(NU cs R k B).length=B.length:=by unfold NU;split;rw[Ce,Ce];split;rw[Ce,Ce];split;rw[Ce,Ce];split;rw[Ce,Ce];split;rw[Ce];rfl
theorem Ew {ni k:Nat}(h:Cp m B)(hk:k≤B.length)(hf:E8 ni k (cs.getD k AF.zero)):Cp m (NU cs R k B):=by have h2:=fun h9=>hf.i2 h9;have h7:=fun h9=>hf.i7 h9;unfold NU;split;have:=h2 (by omega);exact CP (CP h zO) (by rw[Ce];omega);split;have:=h2 (by omega);exact CP (CP h zO) (by rw[Ce];omega);split;have:=h2 (by omega);exact CP (CP h zO) (by rw[Ce];omega);split;have:=h2 (by omega);exact CP (CP h zO) (by rw[Ce];omega);split;have:=h7 (by omega);exact CP h zO;exact h
theorem T5:∀(n:Nat)(B:List Sr),(Um cs R n B).length=B.length
 |0,_=>rfl
 |n+1,B=>by show(Um cs R n _).length=_;rw[T5 n,Pj]
theorem T6 {ni:Nat}(hf:∀k,k<cs.length→E8 ni k (cs.getD k AF.zero)):∀(n:Nat)(B:List Sr),n≤cs.length→n≤B.length→Cp m B→Cp m (Um cs R n B)
 |0,_,_,_,h=>h
 |n+1,B,hn,hb,h=>T6 hf n _ zO (by rw[Pj];omega) (Ew h zO (hf n zO))
theorem OH {k:Nat}(h:(cs.getD k AF.zero).op=3):NU cs R k B=Fz (Fz B (cs.getD k AF.zero).a (B.getD k [])) (cs.getD k AF.zero).b (B.getD k []):=if_pos h
theorem QQ {k:Nat}(h:(cs.getD k AF.zero).op=4):NU cs R k B=Fz (Fz B (cs.getD k AF.zero).a (B.getD k [])) (cs.getD k AF.zero).b (DF (B.getD k []) 1000002):=by unfold NU;rw[if_neg zO,if_pos h]
theorem OI {k:Nat}(h:(cs.getD k AF.zero).op=5):NU cs R k B=Fz (Fz B (cs.getD k AF.zero).a (CL (B.getD k []) (R.getD (cs.getD k AF.zero).b.toNat []))) (cs.getD k AF.zero).b (CL (B.getD k []) (R.getD (cs.getD k AF.zero).a.toNat [])):=by unfold NU;rw[if_neg zO,if_neg zO,if_pos h]
theorem QR {k:Nat}(h:(cs.getD k AF.zero).op=6):NU cs R k B=Fz (Fz B (cs.getD k AF.zero).a (CD (B.getD k []) (R.getD (cs.getD k AF.zero).b.toNat []))) (cs.getD k AF.zero).b (DF (CL (CD (B.getD k []) (R.getD (cs.getD k AF.zero).b.toNat [])) (R.getD k [])) 1000002):=by unfold NU;rw[if_neg zO,if_neg zO,if_neg zO,if_pos h]
theorem QT {k:Nat}(h:(cs.getD k AF.zero).op=7):NU cs R k B=Fz B (cs.getD k AF.zero).a (DF (B.getD k []) 1000002):=by unfold NU;rw[if_neg zO,if_neg zO,if_neg zO,if_neg zO,if_pos h]
theorem T7 {k:Nat}(h:(cs.getD k AF.zero).op<3∨7<(cs.getD k AF.zero).op):NU cs R k B=B:=by unfold NU;rw[if_neg zO,if_neg zO,if_neg zO,if_neg zO,if_neg (by omega)]
theorem Dp {n k:Nat}{D B':List Sr}(h:Um cs R n B=D)(hn:n=k+1)(hi:NU cs R k B=B'):Um cs R k B'=D:=by subst hn;rw[← hi];exact h
end
theorem Pk {e:TypeId}{H:Array Obj}{v:Value}{us:List Value}{F:List Nat}(h:Bq rV e H v us F)(hl:0<us.length):∃g cap,F=[g]∧v=.slice (some ⟨g,0,none⟩) us.length cap∧∀k,k<us.length→I3 H (Ay v k 1)=some (us.getD k undef):=by
 rcases h with⟨_,rfl,_⟩|⟨vs,g,cap,cur,F',hels,rfl,hg,r1,r2,r3,r4,rfl⟩;simp at hl;obtain⟨rfl,rfl⟩:=Gq hels;refine⟨g,cap,rfl,rfl,fun k hk=>?_⟩;have hu:vs[k]? = some (vs.getD k undef):=by simp[List.getD_eq_getElem?_getD,hk]
 rw[Gp];simp only[I3,C1,hg,Nat.zero_add];rw[← r4,List.getElem?_take,if_pos hk]at hu;rw[r4]at hu;simpa using hu
section
variable {e:TypeId} {B:Nat} {w w':World} {v:Value} {xs:List (List Int)} {us:List Value} {F:List Nat}
theorem Fy.getF {S:List Nat}{H:Array Obj}(h:Fy e S B H v xs us F){k:Nat}(hk:k<xs.length):∃u,I3 H (Ay v k 1)=some u∧RN (S++F) (B9 rI) H u (xs.getD k []):=by obtain⟨g,cap,_,_,h3⟩:=Pk h.own (by rw[h.len];omega);exact⟨_,h3 k (by rw[h.len];exact hk),h.els k hk⟩
theorem Fy.ofFr {S:List Nat}{e1:TypeId}{U:Nat}{H:Array Obj}(h:Fr (Bq (Bq rI e1) e) B U H v xs)(hS:∀b∈S,b<B):∃us F,Fy e S B H v xs us F∧∀b∈F,b<U:=by
 obtain⟨F,h1,h2,h3⟩:=h;rcases h1 with⟨rfl,rfl,rfl⟩|⟨us,g,cap,cur,F',hels,rfl,hg,r1,r2,r3,r4,rfl⟩;exact⟨[],[],⟨.inl ⟨rfl,rfl,rfl⟩,zk,(fun b hb=>absurd hb z2),rfl,(fun k hk=>absurd hk (Nat.not_lt_zero k))⟩,(fun b hb=>absurd hb z2)⟩;have hl:=hels.length;have hn:=List.nodup_cons.1 h2;refine⟨us,[g],⟨.inr ⟨us,g,cap,cur,[],OV (hels.cells1 o1),by rw[hl],hg,zO,r2,r3,by rw[hl];exact r4,rfl⟩,by simp,fun b hb=>?_,hl,fun k hk=>?_⟩,fun b hb=>?_⟩;have:=h3 b (by rw[A9 hb];exact z0 ..);omega;obtain⟨u,G,hu,q1,q2,q3,_⟩:=hels.at_ (k:=k) [] hk hn.2;have e1:us.getD k undef=u:=by simp[List.getD_eq_getElem?_getD,hu]
 rw[e1];exact⟨G,q1.rd id,fun b hb hm=>by
  have hb':=q3 b hb;rcases zi.1 hm with hm|hm;have h8:=hS b hm;have h9:=(h3 b<|z3 _ hb').1;omega;rw[A9 hm]at hb';exact hn.1 hb'⟩
 exact (h3 b (by rw[A9 hb];exact z0 ..)).2
end
section ops
variable {P:Program} {ops:Array Oper} {w0:World} {Q:Act→World→Prop} {os:List Oper} {ks:List Nat} {N:Nat} {ρ:Nat→Value} {w:World}
 {d:Nat} {ty:TypeId} {pos:String} {aft:Array Edge} {g:Option (Nat×Bool)} {t e:TypeId} {z:Value} {b:Nat}
theorem Ey {S:List Nat}{st:TypeId}{x y:Operand}{v u:Value}{xs:List (List Int)}{r:List Int}{us:List Value}{F:List Nat}{B j:Nat}(hst:(P.info? st).map (·.size)=some 1)(hx:Bv N ρ x=Ay v j 1)(hy:Bv N ρ y=u)
  (hv:Fy e S B w.heap v xs us F) (hr:RN (S++F) (B9 rI) w.heap u r) (hj:j<xs.length) (hu:Up ops N ρ ⟨none,.store st x y,ty,pos,aft,g⟩)
  (h:∀w1,AB F w w1→w1.heap.size=w.heap.size→Fy e S B w1.heap v (xs.set j r) (us.set j u) F→LW P ops w0 Q os ks (mk N ρ) w1) :
  LW P ops w0 Q (⟨none,.store st x y,ty,pos,aft,g⟩::os) (4::ks) (mk N ρ) w:=by
 obtain⟨g0,cap,hF,hvv,_⟩:=Pk hv.own (by rw[hv.len];omega);have hone:=hr.one1 g1;obtain⟨w1,F',q1,q2,q3,q4,q5,q6⟩:=Sx (P:=P) BH hst hv.own hv.nd (by rw[hv.len];exact hj) (u:=u) (y:=u) (G:=[]) ⟨rfl,rfl,hone.1,hone.2⟩ zk (fun b hb=>by cases hb);obtain⟨g2,cap2,hF2,hvv2,_⟩:=Pk q2 (by rw[z6,hv.len];omega);have hg:g2=g0:=by
  rw[hvv]at hvv2
  injection hvv2 with h1 _ _
  injection h1 with h1
  injection h1 with h1 _ _;exact h1.symm
 have hFF:F'=F:=by rw[hF2,hF,hg]
 subst hFF;have hc:AB F' w w1:=q5.sub fun x hx=>zj hx;refine OQ rfl hu w1 (Ec hx hy q1)<|h w1 hc q6 ⟨q2,hv.nd,hv.low,by rw[z6,z6];exact hv.len,fun k hk=>?_⟩;rw[z6]at hk;have hku:k<us.length:=by rw[hv.len];exact hk
 rw[G5 _ _ _ _ _ (by rw[hv.len];exact hj),G5 _ _ _ _ _ hj];have hcS:AB (S++F') w w1:=hc.sub fun b hb=>z1 _ hb;by_cases ek:k=j;rw[if_pos ek,if_pos ek];exact hr.chg g1 hcS;rw[if_neg ek,if_neg ek];exact (hv.els k hk).chg g1 hcS
theorem YH {st e':TypeId}{x y:Operand}{v u:Value}{n:Int}{xs:List (List Int)}{B T r j:Nat}{F:List Nat}(hst:(P.info? st).map (·.size)=some 1)(hx:Bv N ρ x=Ay u j 1)(hy:Bv N ρ y=.int .i64 n)(hn:-9223372036854775808≤n∧n≤9223372036854775807)
  (hv:Ow (Bq (Bq rI e) e') B T w.heap v xs F) (hr:r<xs.length) (hl:I3 w.heap (Ay v r 1)=some u) (hj:j<(xs.getD r []).length) (hu:Up ops N ρ ⟨none,.store st x y,ty,pos,aft,g⟩)
  (h:∀w1 G,AB G w w1→w1.heap.size=w.heap.size→(∀c∈G,c∈F)→Ow (Bq (Bq rI e) e') B T w1.heap v (xs.set r ((xs.getD r []).set j n)) F→LW P ops w0 Q os ks (mk N ρ) w1) :
  LW P ops w0 Q (⟨none,.store st x y,ty,pos,aft,g⟩::os) (4::ks) (mk N ρ) w:=by
 obtain⟨hown,hnd,hlow,hhigh⟩:=hv;rcases hown with⟨_,rfl,_⟩|⟨us,g0,cap,cur,F',hels,rfl,hg,r1,r2,r3,r4,rfl⟩;simp at hr;have hc:=List.nodup_cons.1 hnd;obtain⟨u',G,q0,q1,q2,q3,q4⟩:=hels.at_ (k:=r) [] hr hc.2;have hlen:=hels.length;have hu':u'=u:=by
  rw[Gp]at hl;simp only[I3,C1,hg,Nat.zero_add]at hl;rw[← r4,List.getElem?_take,if_pos hr]at q0;have:some u'=some u:=by rw[← q0,← hl];simp
  exact Option.some.inj this
 subst hu';obtain⟨w1,p1,p2,p3,p4⟩:=Qc (P:=P) hst q1 q2 hj hn;have hgG:g0∉G:=fun hm=>hc.1 (q3 g0 hm);refine OQ rfl hu w1 (Ec hx hy p1)<|h w1 G p3 p4 (fun c hm=>z3 _<|q3 c hm) ⟨.inr ⟨us,g0,cap,cur,F',?_,by rw[z6],?_,by rw[z6];exact r1,r2,r3,by rw[z6];exact r4,rfl⟩,hnd,hlow,hhigh⟩;exact q4 (fun hE hC=>o1.stable hE fun b hb=>p3.block b (o1.lt hE b hb) (hC b hb).2) p2;have hlt:g0<w.heap.size:=(Array.getElem?_eq_some_iff.1 hg).1;rw[p3.block g0 hlt hgG];exact hg
end ops
section
variable {e1 e:TypeId} {B T:Nat} {w:World} {v:Value} {xs:List (List Int)} {F:List Nat}
theorem Ow.rowO (h:Ow (Bq (Bq rI e1) e) B T w.heap v xs F){k:Nat}(hk:k<xs.length):∃u,I3 w.heap (Ay v k 1)=some u∧Rd (B9 rI) w.heap u (xs.getD k []):=by obtain⟨u,G,q0,q1,_⟩:=h.fr.row o1 [] hk;exact⟨u,q0,G,q1.rd id⟩
theorem Ow.slO {H:Array Obj}(h:Ow (Bq (Bq rI e1) e) B T H v xs F):FB v xs.length:=(Bq.rd id h.own:B9 (Bq rI e1) H v xs F).isSl
theorem Fy.ofOw {S:List Nat}(h:Ow (Bq (Bq rI e1) e) B T w.heap v xs F)(hS:∀b∈S,b<B):∃us F',Fy e S B w.heap v xs us F'∧∀b∈F',b∈F:=by
 obtain⟨h1,h2,h3,h4⟩:=h;rcases h1 with⟨rfl,rfl,rfl⟩|⟨us,g,cap,cur,F',hels,rfl,hg,r1,r2,r3,r4,rfl⟩;exact⟨[],[],⟨.inl ⟨rfl,rfl,rfl⟩,zk,(fun b hb=>absurd hb z2),rfl,(fun k hk=>absurd hk (Nat.not_lt_zero k))⟩,(fun b hb=>absurd hb z2)⟩;have hl:=hels.length;have hn:=List.nodup_cons.1 h2;refine⟨us,[g],⟨.inr ⟨us,g,cap,cur,[],OV (hels.cells1 o1),by rw[hl],hg,zO,r2,r3,by rw[hl];exact r4,rfl⟩,by simp,fun b hb=>?_,hl,fun k hk=>?_⟩,fun b hb=>?_⟩;exact h3 b (by rw[A9 hb];exact z0 ..);obtain⟨u,G,hu,q1,q2,q3,_⟩:=hels.at_ (k:=k) [] hk hn.2;have e1:us.getD k undef=u:=by simp[List.getD_eq_getElem?_getD,hu]
 rw[e1];exact⟨G,q1.rd id,fun b hb hm=>by
  have hb':=q3 b hb;rcases zi.1 hm with hm|hm;have h8:=hS b hm;have h9:=h3 b<|z3 _ hb';omega;rw[A9 hm]at hb';exact hn.1 hb'⟩
 rw[A9 hb];exact z0 ..
end
theorem VR {R:List Sr}{k:Nat}(hk:k<R.length):Lz (R.take k)++[List.replicate (R.getD k []).length 0]=Lz (R.take (k+1)):=by unfold Lz;rw[Cw [] hk,List.map_append];rfl
end
section
def Ub (cs:List AF)(L:List Sr):Nat→List Sr→List Sr
 |0,B=>B
 |k+1,B=>if (cs.getD k AF.zero).op=1 then Fz (Ub cs L k B) (cs.getD k AF.zero).num (L.getD k [])else Ub cs L k B
def YI (ni m:Nat)(cs:List AF)(L:List Sr):List Sr:=Ub cs L cs.length (List.replicate ni (List.replicate m 0))
section
variable {m ni:Nat} {cs:List AF} {L B:List Sr}
theorem N0 {k:Nat}(h:(cs.getD k AF.zero).op=1):Ub cs L (k+1) B=Fz (Ub cs L k B) (cs.getD k AF.zero).num (L.getD k []):=if_pos h
theorem N1 {k:Nat}(h:(cs.getD k AF.zero).op≠1):Ub cs L (k+1) B=Ub cs L k B:=if_neg h
@[simp] theorem IY (k:Nat):(Ub cs L k B).length=B.length:=by
 induction k with
 |zero=>rfl
 |succ k ih =>
  by_cases h:(cs.getD k AF.zero).op=1;rw[N0 h,Ce,ih];rw[N1 h,ih]
theorem Ko (m ni:Nat):Cp m (List.replicate ni (List.replicate m 0)):=fun k hk=>by
 rw[z5]at hk
 have e:(List.replicate ni (List.replicate m (0:Int))).getD k []=List.replicate m 0:=by simp[List.getD_eq_getElem?_getD,hk]
 rw[e]
 exact⟨z5,MA _⟩
theorem Md (hf:∀k,k<cs.length→E8 B.length k (cs.getD k AF.zero))(h:Cp m B):∀k,k≤cs.length→Cp m (Ub cs L k B)
 |0,_=>h
 |k+1,hk=>by
  have ih:=Md hf h k zO
  by_cases h1:(cs.getD k AF.zero).op=1
  rw[N0 h1]
  have:=(hf k zO).i1 h1
  exact CP ih (by rw[IY];omega)
  rw[N1 h1];exact ih
theorem Tc (hf:∀k,k<cs.length→E8 ni k (cs.getD k AF.zero)):Cp m (YI ni m cs L):=Md (fun k hk=>by rw[z5];exact hf k hk) (Ko m ni) _ (A7 _)
@[simp] theorem Td:(YI ni m cs L).length=ni:=by unfold YI;rw[IY,z5]
end
end
section
def Ft (A:List Sr):List Int:=A.map fun s=>s.getD 0 0
section
variable {m:Nat} {A:List Sr} {T:Tp} {xs:List Int}
@[simp] theorem Fu:(Ft A).length=A.length:=by simp[Ft]
theorem Uc (h:Cp m A):RY m (Ft A) A:=⟨Fu.symm,fun i hi=>h i (by rw[Fu]at hi;exact hi),fun i hi=>by
 rw[Fu]at hi
 unfold Ft
 rw[E1 (d:=[]) hi]⟩
theorem HV.regs (h:HV m A T):Cp m (C6 m A T.code):=fun k hk=>(h.ser k (by rw[C7]at hk;exact hk)).1
theorem HV.outs (h:HV m A T)(hE:G7 T xs):∀k,k<xs.length→0≤xs.getD k 0∧xs.getD k 0<((T.code.length:Nat):Int):=fun k hk=>by have:=hE k hk;have:=h.cl;omega
theorem HV.adj (h:HV m A T)(hE:G7 T xs){ws:List Int}:Cp m (J4 T.code (Go.Proofs.YtemfgblmfahllaaGreat.C6 m A T.code) xs ws):=by have ho:=h.outs hE;refine T6 (ni:=A.length) h.form _ _ (A7 _) (by rw[E9,DQ,C7];exact A7 _)<|Ht (IX h.regs) (fun q hq=>?_) _<|A7 _;have:=ho q hq;rw[DQ,C7];omega
theorem QU {cs:List AF}{R:List Sr}{os ws:List Int}:(J4 cs R os ws).length=R.length:=by unfold J4;rw[T5,E9,DQ]
end
end
def nR (n:Nat):Sr:=(List.replicate n 0).set 1 1
def nS (y:List Sr):List Sr:=nR (y.getD 0 []).length::y
@[simp] theorem kS {y:List Sr}:(nS y).length=y.length+1:=rfl
section
section
variable {m:Nat} {a b c:Sr}
theorem Te (ha:Dn m a){k:Nat}(hk:k<m):(CW a b).getD k 0=md (a.getD k 0+b.getD k 0):=by unfold CW;exact DO _ (by rw[ha.1];exact hk)
theorem Tf (ha:Dn m a){y:Int}{k:Nat}(hk:k<m):(DF a y).getD k 0=md (a.getD k 0*y):=by unfold DF;exact DO _ (by rw[ha.1];exact hk)
end
end
section
structure HH (m m':Nat)(B B':List Sr):Prop where
 s:Cp m B
 s':Cp m' B'
 l:B.length=B'.length
 h:∀k,(B.getD k []).getD 0 0=(B'.getD k []).getD 0 0
section
variable {m m' ni k i:Nat} {B B' R R':List Sr} {s s':Sr} {cs:List AF} {r:Int} {os ws:List Int}
theorem Tg (l:List Sr)(i:Nat)(x:Sr)(j:Nat):(l.set i x).getD j []=if j=i∧i<l.length then x else l.getD j []:=by by_cases h:i<l.length;rw[G5 _ _ _ _ _ h];by_cases e:j=i;rw[if_pos e,if_pos ⟨e,h⟩];rw[if_neg e,if_neg fun h=>e h.1];rw[List.set_eq_of_length_le zO,if_neg fun h9=>h h9.2]
theorem HH.set (h:HH m m' B B')(hs:Dn m s)(hs':Dn m' s')(e:s.getD 0 0=s'.getD 0 0):HH m m' (B.set i s) (B'.set i s'):=by refine⟨h.s.set hs,h.s'.set hs',by rw[z6,z6,h.l],fun k=>?_⟩;rw[Tg,Tg,h.l];split;exact e;exact h.h k
theorem HH.adP (hm:1≤m)(hm':1≤m')(h:HH m m' B B')(hr:r.toNat<B.length)(e:s.getD 0 0=s'.getD 0 0):HH m m' (Fz B r s) (Go.Proofs.YtemfgblmfahllaaGreat.Fz B' r s'):=by have h1:=h.s r.toNat hr;have h2:=h.s' r.toNat (by rw[← h.l];exact hr);refine h.set (H7 h1) (H7 h2) ?_;rw[Te h1 zO,Te h2 zO,h.h,e]
theorem HH.adI (hm:1≤m)(hm':1≤m')(h:HH m m' B B')(hR:HH m m' R R')(hk:k<B.length)(hf:E8 ni k (cs.getD k AF.zero)):HH m m' (NU cs R k B) (Go.Proofs.YtemfgblmfahllaaGreat.NU cs R' k B'):=by
 have b2:=fun h=>hf.i2 h;have b7:=fun h=>hf.i7 h;have h1:=h.s k hk;have h2:=h.s' k (by rw[← h.l];exact hk);have hp:∀q,(CL (B.getD k []) (R.getD q [])).getD 0 0=(CL (B'.getD k []) (R'.getD q [])).getD 0 0:=fun q=>by
  rw[QM (by rw[h1.1];omega),QM (by rw[h2.1];omega),h.h,hR.h]
 have hq:∀q,(CD (B.getD k []) (R.getD q [])).getD 0 0=(CD (B'.getD k []) (R'.getD q [])).getD 0 0:=fun q=>by
  rw[VH (by rw[h1.1];omega),VH (by rw[h2.1];omega),h.h,hR.h]
 have hn:∀ {s s':Sr},Dn m s→Dn m' s'→s.getD 0 0=s'.getD 0 0→(DF s 1000002).getD 0 0=(DF s' 1000002).getD 0 0:=fun hs hs' e=>by
  rw[Tf hs zO,Tf hs' zO,e]
 by_cases h3:(cs.getD k AF.zero).op=3;rw[OH h3,OH h3];have:=b2 zO;exact (h.adP hm hm' zO<|h.h k).adP hm hm' (by rw[Ce];omega)<|h.h k;by_cases h4:(cs.getD k AF.zero).op=4;rw[QQ h4,QQ h4];have:=b2 zO;exact (h.adP hm hm' zO<|h.h k).adP hm hm' (by rw[Ce];omega)<|hn h1 h2<|h.h k;by_cases h5:(cs.getD k AF.zero).op=5;rw[OI h5,OI h5];have:=b2 zO;exact (h.adP hm hm' zO<|hp _).adP hm hm' (by rw[Ce];omega)<|hp _;by_cases h6:(cs.getD k AF.zero).op=6;rw[QR h6,QR h6];have:=b2 zO;refine (h.adP hm hm' zO<|hq _).adP hm hm' (by rw[Ce];omega)<|hn (Id<|Ie h1) (Id<|Ie h2) ?_;rw[QM (by rw[E2,h1.1];omega),QM (by rw[E2,h2.1];omega),hq,hR.h];by_cases h7:(cs.getD k AF.zero).op=7;rw[QT h7,QT h7];have:=b7 h7;exact h.adP hm hm' zO<|hn h1 h2<|h.h k;have:(cs.getD k AF.zero).op<3∨7<(cs.getD k AF.zero).op:=by omega
 rw[T7 this,T7 this];exact h
theorem HH.adA (hm:1≤m)(hm':1≤m')(hR:HH m m' R R')(hf:∀k,k<cs.length→E8 ni k (cs.getD k AF.zero)):∀(n:Nat)(B B':List Sr),n≤cs.length→n≤B.length→HH m m' B B'→HH m m' (Um cs R n B) (Go.Proofs.YtemfgblmfahllaaGreat.Um cs R' n B')
 |0,_,_,_,_,h=>h
 |n+1,B,B',hn,hb,h=>HH.adA hm hm' hR hf n _ _ zO (by rw[Pj];omega) (h.adI hm hm' hR zO (hf n zO))
theorem HH.wgt (hm:1≤m)(hm':1≤m')(h:HH m m' B B')(ho:∀k,k<os.length→(os.getD k 0).toNat<B.length):∀k,k≤os.length→HH m m' (NV os ws k B) (Go.Proofs.YtemfgblmfahllaaGreat.NV os ws k B')
 |0,_=>h
 |k+1,hk=>by
  have ih:=HH.wgt hm hm' h ho k zO
  have h1:=ih.s (os.getD k 0).toNat (by rw[E9];exact ho k zO)
  have h2:=ih.s' (os.getD k 0).toNat (by rw[E9,← h.l];exact ho k zO)
  refine ih.set ⟨by rw[z6];exact h1.1,KZ h1.2<|CK _⟩ ⟨by rw[z6];exact h2.1,KZ h2.2<|CK _⟩ ?_
  rw[G5 _ _ _ _ _ (by rw[h1.1];omega),G5 _ _ _ _ _ (by rw[h2.1];omega),if_pos rfl,if_pos rfl,ih.h]
theorem ZA (k:Nat):((Lz R).getD k []).getD 0 0=0:=by by_cases h:k<R.length;rw[show(Lz R).getD k []=List.replicate (R.getD k []).length 0 from by unfold Lz;rw[E1 (d:=[]) h]];exact VJ _ 0;rw[show(Lz R).getD k []=[]from by rw[List.getD_eq_getElem?_getD,List.getElem?_eq_none (by rw[DQ];omega)];rfl];rfl
theorem HH.zrs (h:HH m m' R R'):HH m m' (Lz R) (Go.Proofs.YtemfgblmfahllaaGreat.Lz R'):=⟨IX h.s,IX h.s',by rw[DQ,DQ,h.l],fun k=>by rw[ZA,ZA]⟩
theorem HH.byN {L L':List Sr}(hm:1≤m)(hm':1≤m')(hL:HH m m' L L')(h:HH m m' B B')(hf:∀k,k<cs.length→E8 B.length k (cs.getD k AF.zero)):∀k,k≤cs.length→HH m m' (Ub cs L k B) (Go.Proofs.YtemfgblmfahllaaGreat.Ub cs L' k B')
 |0,_=>h
 |k+1,hk=>by
  have ih:=HH.byN hm hm' hL h hf k zO
  by_cases h1:(cs.getD k AF.zero).op=1
  rw[N0 h1,N0 h1]
  have:=(hf k zO).i1 h1
  exact ih.adP hm hm' (by rw[IY];omega)<|hL.h k
  rw[N1 h1,N1 h1];exact ih
theorem HH.rep (m m' ni:Nat):HH m m' (List.replicate ni (List.replicate m 0)) (List.replicate ni (List.replicate m' 0)):=by refine⟨Ko _ _,Ko _ _,by simp,fun k=>?_⟩;by_cases h:k<ni;rw[show(List.replicate ni (List.replicate m (0:Int))).getD k []=List.replicate m 0 from by simp[List.getD_eq_getElem?_getD,h],show(List.replicate ni (List.replicate m' (0:Int))).getD k []=List.replicate m' 0 from by simp[List.getD_eq_getElem?_getD,h],VJ,VJ];rw[show(List.replicate ni (List.replicate m (0:Int))).getD k []=[]from by simp[List.getD_eq_getElem?_getD,h],show(List.replicate ni (List.replicate m' (0:Int))).getD k []=[]from by simp[List.getD_eq_getElem?_getD,h]]
end
section
variable {p:List Fn} {f m r N i j s:Nat} {a:List Int} {A A':List Sr} {xs:List Int} {T:Tp}
structure Ru (p:List Fn)(f:Nat)(a:List Int)(xs:List Int)(T:Tp):Prop where
 v:GC p
 lt:f<p.length
 l:((a.length:Nat):Int)=(p.getD f Fn.zero).params
 n:Bi a=true
 r:∃s,AQ (LE p f a) (xs,T) s 0
theorem Kp (hA:Cp m A)(h:Ft A=a):RY m a A:=by rw[← h];exact Uc hA
theorem Ru.tp (h:Ru p f a xs T)(hm:1≤m)(hA:Cp m A)(hf:Ft A=a):HV m A T∧(Vi p m f A=xs.map fun r=>(C6 m A T.code).getD r.toNat [])∧Pc p m f A=0:=by obtain⟨s,hs⟩:=h.r;have h1:=VN hm h.v h.lt h.n (Kp hA hf) h.l hs rfl;exact⟨h1.1,h1.2,QP hm h.v h.lt h.n (Kp hA hf) h.l hs⟩
theorem Ga (a:List Int):Ft (Cu a)=a:=by unfold Ft Cu;rw[List.map_map];exact List.map_id'' (fun _=>rfl) a
theorem Ru.en (h:Ru p f a xs T):xs.length=(p.getD f Fn.zero).outs.length∧G7 T xs:=by obtain⟨s,hs⟩:=h.r;have hT:=T3 (A7 1) h.v h.lt h.n (Kp (Do h.n)<|Ga a) h.l;rw[hs.ok]at hT;obtain⟨z,h1,h2,h3,h4⟩:=hT;exact⟨h4.1,fun k hk=>(h4.2.2 k (by rw[h4.1]at hk;exact hk)).1⟩
theorem Pl (a d:List Int):Ft (NT a d 2)=a:=by refine List.ext_getElem (by simp) fun k h1 h2=>?_;rw[← HO (d:=(0:Int)) h1,← HO (d:=(0:Int)) h2];unfold Ft;rw[E1 (d:=[]) (by rw[Kn];exact h2),fy h2]
end
end
def RZ (p:List Fn)(f:Nat)(a:List Int):RL:=match LE p f a with
 |.ok x _=>x
 |.err _=>([],⟨[],[],[]⟩)
theorem YJ {p:List Fn}{f:Nat}{a:List Int}{x:RL}{s:Nat}(h:AQ (LE p f a) x s 0):RZ p f a=x:=by unfold RZ;rw[h.ok]
section
section
variable {p:List Fn} {f k o i m q:Nat} {a d:List Int} {y Y:List Sr} {xs:List Int} {T:Tp} {nx:Nat→List Sr→List Int}
theorem VS (hv:GC p)(hf:f<p.length)(hl:((a.length:Nat):Int)=(p.getD f Fn.zero).params)(hn:Bi a=true)(h0:El p f a=0):∃xs T,Ru p f a xs T:=by
 cases hr:LE p f a with
 |ok x s=>exact⟨x.1,x.2,hv,hf,hl,hn,s,by rw[hr];exact AQ.mk_ok rfl⟩
 |err c =>
  have hT:=T3 (A7 1) hv hf hn (Kp (Do hn)<|Ga a) hl;rw[hr]at hT;have h9:ev p 1 f (Cu a)=.err c:=hT;have h8:El p f a=c:=Kh h9;rcases VI hv hf (Do hn) (by unfold Cu;rw[zg];exact hl)with⟨z,t,h1,_⟩|h1|h1;rw[h1]at h9;cases h9;rw[h1]at h9;cases h9;omega;rw[h1]at h9;cases h9;omega
end
end
section
def VT (m:Nat)(T:Tp)(xs ws:List Int)(A:List Sr):List Sr:=YI A.length m T.code (J4 T.code (C6 m A T.code) xs ws)
section
variable {p:List Fn} {f m m' i:Nat} {a d:List Int} {A A':List Sr} {xs ws:List Int} {T:Tp}
@[simp] theorem IZ:(VT m T xs ws A).length=A.length:=Td
theorem VU (hm:1≤m)(hm':1≤m')(h:HV m A T)(h':HV m' A' T)(hl:A.length=A'.length)(hE:G7 T xs)(ws:List Int):HH m m' (VT m T xs ws A) (VT m' T xs ws A'):=by
 have hR:HH m m' (C6 m A T.code) (C6 m' A' T.code):=⟨h.regs,h'.regs,by rw[C7,C7],fun k=>by
  by_cases hk:k<T.code.length;rw[(h.ser k hk).2,(h'.ser k hk).2];rw[show(C6 m A T.code).getD k []=[]from by rw[List.getD_eq_getElem?_getD,List.getElem?_eq_none (by rw[C7];omega)];rfl,show(C6 m' A' T.code).getD k []=[]from by rw[List.getD_eq_getElem?_getD,List.getElem?_eq_none (by rw[C7];omega)];rfl]⟩
 have hx:=h.outs hE;unfold VT YI;rw[← hl];refine HH.byN hm hm' ?_ (HH.rep m m' _) (fun k hk=>by rw[z5];exact h.form k hk) _<|A7 _;unfold J4;refine HH.adA hm hm' hR h.form _ _ _ (A7 _) (by rw[E9,DQ,C7];exact A7 _)<|hR.zrs.wgt hm hm' (fun q hq=>?_) _<|A7 _;rw[DQ,C7];have:=hx q hq;omega
theorem Ru.bk_ser (h:Ru p f a xs T)(hm:1≤m)(hA:Cp m A)(hf:Ft A=a)(ws:List Int):Cp m (VT m T xs ws A):=by unfold VT;exact Tc (h.tp hm hA hf).1.form
end
end
section
def Ud (p:List Fn)(f:Nat)(s ws:List Int):List Int:=Ft (VT 1 (RZ p f s).2 (RZ p f s).1 ws (Cu s))
structure Rv (p:List Fn)(f:Nat)(a:List Int)(n:Nat):Prop where
 v:GC p
 lt:f<p.length
 sq:(((p.getD f Fn.zero).outs.length:Nat):Int)=(p.getD f Fn.zero).params
 l:((a.length:Nat):Int)=(p.getD f Fn.zero).params
 na:Bi a=true
 k:Em p f a n=0
section
variable {p:List Fn} {f n k m:Nat} {a s ws us d xs:List Int} {T:Tp} {A:List Sr}
theorem Pm (h:Em p f a n=0)(hk:k≤n):Em p f a k=0:=by by_cases h0:Em p f a k=0;exact h0;rw[QK h0 hk]at h;exact h
theorem Rv.low (h:Rv p f a n)(hk:k≤n):Rv p f a k:=⟨h.v,h.lt,h.sq,h.l,h.na,Pm h.k hk⟩
theorem fD (hv:GC p)(hf:f<p.length)(hl:((s.length:Nat):Int)=(p.getD f Fn.zero).params)(hn:Bi s=true):Ua p f s:=Ua.mk' (lF hv hf (Do hn) (by unfold Cu;rw[zg];exact hl))
theorem Rv.st:∀ {n:Nat},Rv p f a n→(E4 p f a n).length=a.length∧Bi (E4 p f a n)=true
 |0,h=>⟨rfl,h.na⟩
 |n+1,h=>by
  have h0:=h.low<|Nat.le_succ n
  have ih:=h0.st
  have hN:=fD h.v h.lt (s:=E4 p f a n) (by rw[ih.1];exact h.l) ih.2
  have hz:El p f (E4 p f a n)=0:=by rw[← QJ h0.k];exact h.k
  have:=hN.len hz
  have:=h.sq;have:=h.l
  exact⟨by show(XY p f (E4 p f a n)).length=_;omega,hN.num⟩
theorem Rv.nx (h:Rv p f a n)(hk:k<n):El p f (E4 p f a k)=0:=by rw[← QJ (Pm h.k (Nat.le_of_lt hk))];exact Pm h.k hk
theorem Rv.rc (h:Rv p f a n)(hk:k<n):∃xs T,Ru p f (E4 p f a k) xs T:=by have h1:=(h.low<|Nat.le_of_lt hk).st;exact VS h.v h.lt (by rw[h1.1];exact h.l) h1.2<|h.nx hk
theorem Ru.bkR (h:Ru p f s xs T)(hm:1≤m)(hA:Cp m A)(hf:Ft A=s):Ft (VT m T xs ws A)=Go.Proofs.YtemfgblmfahllaaGreat.Ud p f s ws:=by
 obtain⟨q,hq⟩:=h.r;have hl:A.length=s.length:=by rw[← hf,Fu]
 have hh:=VU hm (A7 1) (h.tp hm hA hf).1 (h.tp (A7 1) (Do h.n)<|Ga s).1 (by rw[Fp,hl]) h.en.2 ws;unfold Go.Proofs.YtemfgblmfahllaaGreat.Ud;rw[YJ hq];refine lG (by rw[Fu,Fu,IZ,IZ,Fp,hl]) fun j hj=>?_;rw[Fu,IZ]at hj;unfold Ft;rw[E1 (d:=[]) (by rw[IZ];exact hj),E1 (d:=[]) (by rw[IZ,Fp];omega)];exact hh.h j
theorem Me:(Ud p f s ws).length=s.length:=by unfold Ud;rw[Fu,IZ,Fp]
theorem Ru.bkR_num (h:Ru p f s xs T):Bi (Go.Proofs.YtemfgblmfahllaaGreat.Ud p f s ws)=true:=by rw[← h.bkR (A7 1) (Do h.n) (Ga s)];exact MR (n:=0)<|h.bk_ser (A7 1) (Do h.n) (Ga s) ws
end
end
section
structure fE (ni:Nat)(T:Tp)(o:List Int):Prop where
 nb:ni≤12
 cl:T.code.length≤3200
 gl:T.grd.length≤3200
 form:∀k,k<T.code.length→E8 ni k (T.code.getD k AF.zero)
 gd:∀k,k<T.grd.length→0≤(T.grd.getD k H8.zero).reg∧(T.grd.getD k H8.zero).reg<((T.code.length:Nat):Int)
 ol:1≤o.length∧o.length≤12
 out:∀k,k<o.length→0≤o.getD k 0∧o.getD k 0<((T.code.length:Nat):Int)
theorem fE.pos {ni:Nat}{T:Tp}{o:List Int}(h:fE ni T o):0<T.code.length:=by have:=h.out 0 (by have:=h.ol;omega);omega
theorem fE.any {ni:Nat}{T:Tp}{o:List Int}(h:fE ni T o):(o.any fun x=>!(decide (0≤x) && decide (x≤((T.code.length:Nat):Int)-1)))=false:=by
 rw[List.any_eq_false]
 intro x hx;obtain⟨j,hj,rfl⟩:=List.mem_iff_getElem.1 hx;have h9:=h.out j hj;rw[List.getD_eq_getElem?_getD,List.getElem?_eq_getElem hj,Option.getD_some]at h9;rw[A5 h9.1,A5 (show o[j]≤((T.code.length:Nat):Int)-1 by omega)];decide
structure QV (a:List Int)(T:Tp)(o:List Int):Prop where
 k:fE a.length T o
 n:Bi a=true
 e:G7 T o
 i:∀d,Bi d=true→HV 2 (NT a d 2) T
section
variable {p:List Fn} {f:Nat} {a d xs ws:List Int} {T:Tp} {s:Nat}
theorem Ru.tpr (h:Ru p f a xs T)(hB:Gt T s)(hs:s≤3000):QV a T xs:=by have hi:∀d,Bi d=true→HV 2 (NT a d 2) T:=fun d hd=>(h.tp (m:=2) (by decide) (Mc h.n hd) (Pl _ _)).1;have h0:=hi _<|MA a.length;obtain⟨b1,b2,b3,b4⟩:=hB;have hp:=h.v.par f h.lt;have ho:=h.v.outs f h.lt;have hl:=h.l;have he:=h.en;refine⟨⟨zO,zO,zO,fun k hk=>?_,fun k hk=>?_,by rw[he.1];exact ho,h0.outs he.2⟩,h.n,he.2,hi⟩;have:=h0.form k hk;rwa [Kn]at this;have:=(h0.gd k hk).1;omega
theorem YK {k:Nat}(hk:k<a.length):(NT a d 2).getD k []=[a.getD k 0,d.getD k 0]:=by rw[RW hk];rfl
theorem QV.reg (h:QV a T xs)(hd:Bi d=true):Cp 2 (C6 2 (NT a d 2) T.code):=(h.i d hd).regs
theorem QV.adj (h:QV a T xs)(hd:Bi d=true):Cp 2 (J4 T.code (C6 2 (NT a d 2) T.code) xs ws):=(h.i d hd).adj h.e
theorem QV.nz (h:QV a T xs)(hd:Bi d=true):LF 2 (NT a d 2) T.code T.code.length:=(h.i d hd).nz
end
section ops
variable {P:Program} {ops:Array Oper} {w0:World} {Q:Act→World→Prop} {os:List Oper} {ks:List Nat} {N:Nat} {ρ:Nat→Value} {w:World}
 {d:Nat} {ty:TypeId} {pos:String} {aft:Array Edge} {g:Option (Nat×Bool)} {t e:TypeId} {z:Value} {b:Nat}
theorem Th {y0 y1:Operand}{u0 u1:Value}{x0 x1:List Int}(ht:P.underlying t=some (.slice e))(hi:TI P e 1 z b)(hz:z.cells=#[z])
  (h0:Bv N ρ y0=u0) (h1:Bv N ρ y1=u1) (r0:RN [] (B9 rI) w.heap u0 x0) (r1:RN [] (B9 rI) w.heap u1 x1)
  (hu:Up ops N ρ ⟨some d,.buildSlice t 2 #[(0,y0),(1,y1)],ty,pos,aft,g⟩)
  (h:∀v w1,AA w w1→w1.heap.size=w.heap.size+1→RN [] (B9 (B9 rI)) w1.heap v [x0,x1]→C8 v→LW P ops w0 Q os ks (mk N (CI ρ d v)) w1) :
  LW P ops w0 Q (⟨some d,.buildSlice t 2 #[(0,y0),(1,y1)],ty,pos,aft,g⟩::os) (3::ks) (mk N ρ) w:=by
 have c0:=r0.one1 g1;have c1:=r1.one1 g1;refine Zx (ys:=[u0,u1]) BH ht hi hz h0 h1 rfl (OV fun u hu=>?_) hu fun v w1 hE hs hF=>?_;simp only[ze,z2,or_false]at hu;rcases hu with rfl|rfl;exact c0;exact c1;have hcap:=hF.cap;obtain⟨F,f1,f2,f3⟩:=hF;have hB:Fy e [] w.heap.size w1.heap v [x0,x1] [u0,u1] F:=by
  refine⟨f1,f2,fun b hb=>(f3 b hb).1,rfl,fun k hk=>?_⟩;have key:∀ {v0:Value} {x:List Int},RN [] (B9 rI) w.heap v0 x→RN ([]++F) (B9 rI) w1.heap v0 x:=by
   rintro v0 x ⟨K,k1,k2⟩;have hlt:=g1.lt k1;exact⟨K,g1.stable k1 fun c hc=>hE.heap (hlt c hc),fun c hc hm=>by have:=hlt c hc;have:=f3 c (by simpa using hm);omega⟩
  match k with
  |0=>exact key r0
  |1=>exact key r1
  |k+2=>simp at hk;omega
 exact h v w1 hE hs (hB.done fun b hb=>absurd hb z2) hcap
end ops
end
section
def DG (p:List Fn)(f:Int)(a ws:List Int)(n:Int):Int:=if Hc p f [a,ws]=0 then(if GB n 0 40=true then 0 else 2)else Hc p f [a,ws]
section
variable {p:List Fn} {f n:Int} {a ws:List Int}
theorem VV:0≤DG p f a ws n∧DG p f a ws n≤2:=by have:=SZ p f [a,ws];unfold DG;split <;> (try split) <;> omega
theorem N3 (h:Hc p f [a,ws]≠0):DG p f a ws n=Hc p f [a,ws]:=if_neg h
theorem S0 (h:Hc p f [a,ws]=0)(h2:GB n 0 40=false):DG p f a ws n=2:=by unfold DG;rw[if_pos h,h2];rfl
theorem S3 (h:Hc p f [a,ws]=0)(h2:GB n 0 40=true):DG p f a ws n=0:=by unfold DG;rw[if_pos h,h2];rfl
theorem Ti (h:Hc p f [a,ws]=0):Fq p=true∧(0≤f∧f<((p.length:Nat):Int))∧(1≤(p.getD f.toNat Fn.zero).params∧(((p.getD f.toNat Fn.zero).outs.length:Nat):Int)=(p.getD f.toNat Fn.zero).params) ∧
  (((a.length:Nat):Int)=(p.getD f.toNat Fn.zero).params∧Bi a=true)∧(((ws.length:Nat):Int)=(p.getD f.toNat Fn.zero).params∧Bi ws=true):=by
 unfold Hc at h;split at h;rename_i h3;split at h;rename_i h4;split at h;rename_i h5;rw[Ma]at h4;simp only[List.all_cons,List.all_nil,Bool.and_true,z7,decide_eq_true_eq]at h5;exact⟨h3,⟨h4.1.1,zO⟩,⟨h4.2.1,h4.2.2⟩,⟨h5.1.1,h5.1.2⟩,⟨h5.2.1,h5.2.2⟩⟩;omega;omega;omega
theorem Pn (h:DG p f a ws n=0):Hc p f [a,ws]=0∧(0≤n∧n≤40):=by
 by_cases h1:Hc p f [a,ws]=0;cases h2:GB n 0 40 with
 |true=>exact⟨h1,Cx.1 h2⟩
 |false=>rw[S0 h1 h2]at h;omega
 rw[N3 h1]at h;exact absurd h h1
end
def N4 (v:Value)(k:Nat):Value:=match v with
 |.slice a n c=>.slice (if c=k then a else a.map (·.add k)) (n-k) (c-k)
 |v=>v
section ops
variable {P:Program} {ops:Array Oper} {w0:World} {Q:Act→World→Prop} {os:List Oper} {ks:List Nat} {N:Nat} {ρ:Nat→Value} {w:World}
 {d:Nat} {ty:TypeId} {pos:String} {aft:Array Edge} {g:Option (Nat×Bool)} {t e:TypeId} {z:Value} {b:Nat}
theorem dI {x y:Operand}{v z:Value}{n b k:Nat}(ht:P.underlying t=some (.slice e))(hi:TI P e 1 z b)(hx:Bv N ρ x=v)(hs:FB v n)(hc:C8 v)(hy:Bv N ρ y=.int .i64 (k:Int))(hk:k≤n)(hu:Up ops N ρ ⟨some d,.slice t x (some y) none none,ty,pos,aft,g⟩)
  (h:LW P ops w0 Q os ks (mk N (CI ρ d (N4 v k))) w):LW P ops w0 Q (⟨some d,.slice t x (some y) none none,ty,pos,aft,g⟩::os) (0::ks) (mk N ρ) w:=by
 obtain⟨a,cap,rfl,_⟩:=hs;obtain⟨inf,h1,_,h3,_⟩:=hi.get;refine CR (by decide) rfl hu _ (fun w' _=>?_) h;have hl:n≤cap:=hc;have e1:((0:Int)≤(k:Int)):=by omega
 by_cases hc1:cap=k;subst hc1;have:n=cap:=by omega
 subst this;simp[execOp,hx,hy,Instr.sliceAt,Instr.slice,Instr.sliceBounds,Instr.sliceBound,asIntOf,run_underlying ht,sizeOf,typeInfo,h1,h3,N4];have e2:cap-k≠0:=by omega
 have e3:¬cap≤k:=by omega
 simp[execOp,hx,hy,Instr.sliceAt,Instr.slice,Instr.sliceBounds,Instr.sliceBound,asIntOf,run_underlying ht,sizeOf,typeInfo,h1,h3,N4,hk,hl,hc1,e2,e3];try (intro h9;omega)
end ops
end
section
def kT (p:List Fn)(f:Nat)(a ws:List Int):List Int:=if El p f a=0 then Ud p f a ws else []
theorem Tj {p:List Fn}{f:Nat}{a ws:List Int}(h:El p f a=0):kT p f a ws=Ud p f a ws:=if_pos h
theorem ZB {p:List Fn}{f:Nat}{a ws:List Int}(h:El p f a≠0):kT p f a ws=[]:=if_neg h
def HZ (p:List Fn)(f:Nat)(a:List Int):List Av→Cn→List Int→Int×List Int
 |[],_,L=>(0,L)
 |x::l,c,L =>
  if x.kind=1 then(if Em p f a (c.at_+x.arg).toNat=0 then HZ p f a l (CQ c x) L else(Em p f a (c.at_+x.arg).toNat,[]))
  else if x.kind=4 then(if Em p f a (c.at_.toNat+1)=0 then HZ p f a l (CQ c x) (Ud p f (E4 p f a c.at_.toNat) L)else(Em p f a (c.at_.toNat+1),[]))
  else HZ p f a l (CQ c x) L
def Q4 (p:List Fn)(f:Nat)(a:List Int)(sl:List Int):List (List Int):=sl.map fun s=>if 0≤s then E4 p f a s.toNat else []
structure dJ (p:List Fn)(f:Nat)(a:List Int)(c:Cn):Prop where
 at_:Em p f a c.at_.toNat=0
 sl:∀s∈c.slots,0≤s→Em p f a s.toNat=0
section
variable {p:List Fn} {f:Nat} {a L:List Int} {l:List Av} {c:Cn} {x:Av} {i j k m:Nat} {n:Int}
theorem Mf (sl:List Int):(Q4 p f a sl).length=sl.length:=by unfold Q4;rw[zg]
theorem Tl {sl:List Int}{q:Nat}{s:Int}(hs:0≤s):Q4 p f a (sl.set q s)=(Q4 p f a sl).set q (E4 p f a s.toNat):=by unfold Q4;rw[List.map_set,if_pos hs]
theorem Tm {sl:List Int}{q:Nat}(hq:q<sl.length)(h:0≤sl.getD q 0):(Q4 p f a sl).getD q []=E4 p f a (sl.getD q 0).toNat:=by
 have e:sl.getD q 0=sl[q]:=by simp[List.getD_eq_getElem?_getD,hq]
 rw[e]at h ⊢;unfold Q4;simp[List.getD_eq_getElem?_getD,hq,h]
theorem Mg (k:Nat):Q4 p f a (List.replicate k (-1))=List.replicate k []:=by unfold Q4;rw[List.map_replicate];rfl
theorem Po (n:Int)(k:Nat):dJ p f a (EF n k):=⟨rfl,fun s hs h=>by
 have:=(List.mem_replicate.1 hs).2
 omega⟩
theorem VW (h:Em p f a m≠0):∀d:Nat,Em p f a (m+d)=Em p f a m
 |0=>rfl
 |d+1=>by
  have ih:=VW h d
  rw[← Nat.add_assoc]
  show(if Em p f a (m+d)=0 then _ else _)=_
  rw[if_neg (by rw[ih];exact h),ih]
theorem VX (h:Em p f a m≠0)(hk:m≤k):Em p f a k=Em p f a m:=by have:=VW h (k-m);rwa [show m+(k-m)=k from by omega]at this
theorem GK (h:Em p f a m=0):Em p f a (m+1)=El p f (E4 p f a m):=by show(if Em p f a m=0 then _ else _)=_;rw[if_pos h]
theorem dJ.act (h:dJ p f a c)(hx:GV x)(hp:CT c x=true)(hk:U3 n c)(h1:x.kind=1→Em p f a (c.at_+x.arg).toNat=0):dJ p f a (CQ c x):=by
 obtain⟨q1,q2⟩:=h;have b1:=hk.at0;have b2:=hk.l0;by_cases k1:x.kind=1;rw[← Om k1];exact⟨h1 k1,q2⟩;by_cases k2:x.kind=2;rw[← On k2];refine⟨q1,fun s hs h0=>?_⟩;rcases List.mem_or_eq_of_mem_set hs with hs|rfl;exact q2 s hs h0;exact q1;by_cases k3:x.kind=3;rw[← Oo k3];have hl:=Ot hp<|.inr k3;rw[UT k3,z7]at hp;have h0:=of_decide_eq_true hp.2;unfold GV at hx;have e:c.slots.getD x.arg.toNat 0=c.slots[x.arg.toNat]'(by omega):=by simp[List.getD_eq_getElem?_getD,(by omega:x.arg.toNat<c.slots.length)]
 exact⟨q2 _ (by rw[e];exact List.getElem_mem _) h0,q2⟩;have k4:x.kind=4:=by unfold GV at hx;omega
 rw[← Oq k4];exact⟨q1,q2⟩
theorem Kq (hi:i<l.length):HZ p f a (l.drop i) c L=(let x:=l.getD i Av.zero
  if x.kind=1 then(if Em p f a (c.at_+x.arg).toNat=0 then HZ p f a (l.drop (i+1)) (CQ c x) L else(Em p f a (c.at_+x.arg).toNat,[]))
  else if x.kind=4 then(if Em p f a (c.at_.toNat+1)=0 then HZ p f a (l.drop (i+1)) (CQ c x) (Ud p f (E4 p f a c.at_.toNat) L)else(Em p f a (c.at_.toNat+1),[]))
  else HZ p f a (l.drop (i+1)) (CQ c x) L):=by
 rw[List.drop_eq_getElem_cons hi];have e:l[i]=l.getD i Av.zero:=by simp[List.getD_eq_getElem?_getD,hi]
 rw[e];rfl
theorem fF (hi:i<l.length)(h:(l.getD i Av.zero).kind=1)(hk:Em p f a (c.at_+(l.getD i Av.zero).arg).toNat=0):HZ p f a (l.drop i) c L=HZ p f a (l.drop (i+1)) (CQ c (l.getD i Av.zero)) L:=by rw[Kq hi];show(if _ then _ else _)=_;rw[if_pos h,if_pos hk]
theorem ZC (hi:i<l.length)(h:(l.getD i Av.zero).kind=1)(hk:Em p f a (c.at_+(l.getD i Av.zero).arg).toNat≠0):HZ p f a (l.drop i) c L=(Em p f a (c.at_+(l.getD i Av.zero).arg).toNat,[]):=by rw[Kq hi];show(if _ then _ else _)=_;rw[if_pos h,if_neg hk]
theorem dK (hi:i<l.length)(h:(l.getD i Av.zero).kind=4)(hk:Em p f a (c.at_.toNat+1)=0):HZ p f a (l.drop i) c L=HZ p f a (l.drop (i+1)) (CQ c (l.getD i Av.zero)) (Ud p f (E4 p f a c.at_.toNat) L):=by rw[Kq hi];show(if _ then _ else _)=_;rw[if_neg zO,if_pos h,if_pos hk]
theorem ZD (hi:i<l.length)(h:(l.getD i Av.zero).kind=4)(hk:Em p f a (c.at_.toNat+1)≠0):HZ p f a (l.drop i) c L=(Em p f a (c.at_.toNat+1),[]):=by rw[Kq hi];show(if _ then _ else _)=_;rw[if_neg zO,if_pos h,if_neg hk]
theorem fG (hi:i<l.length)(h:(l.getD i Av.zero).kind≠1)(h4:(l.getD i Av.zero).kind≠4):HZ p f a (l.drop i) c L=HZ p f a (l.drop (i+1)) (CQ c (l.getD i Av.zero)) L:=by rw[Kq hi];show(if _ then _ else _)=_;rw[if_neg h,if_neg h4]
theorem VY (hi:l.length≤i):HZ p f a (l.drop i) c L=(0,L):=by rw[List.drop_eq_nil_of_le hi];rfl
theorem S5 (q:Int):∀l:List Av,BN q l≤((l.length:Nat):Int)
 |[]=>Int.le_refl _
 |a::l=>by
  have:=S5 q l
  show(if a.kind=q then 1 else 0)+BN q l≤_
  simp only[z9]
  split <;> omega
end
def LG (S:List Nat)(e:TypeId):Bz (List Int):=fun H v xs F=>Bq rI e H v xs F∧∀b∈F,b∉S
theorem C2 {S:List Nat}{e:TypeId}:Cr (LG S e) where
 cells:=fun h=>(AV AI).cells h.1
 one:=fun h=>(AV AI).one h.1
 lt:=fun h=>(AV AI).lt h.1
 stable:=fun h hb=>⟨(AV AI).stable h.1 hb,h.2⟩
section frx
variable {S:List Nat} {e:TypeId} {B U:Nat} {v:Value} {xs:List Int}
theorem Sa {H:Array Obj}(h:Fr (LG S e) B U H v xs):Fr (Bq rI e) B U H v xs:=by obtain⟨F,h1,h2,h3⟩:=h;exact⟨F,h1.1,h2,h3⟩
theorem Pp {H:Array Obj}(h:Fr (Bq rI e) B U H v xs)(hS:∀b∈S,b<B∨U≤b):Fr (LG S e) B U H v xs:=by obtain⟨F,h1,h2,h3⟩:=h;exact⟨F,⟨h1,fun b hb hm=>by have:=hS b hm;have:=h3 b hb;omega⟩,h2,h3⟩
theorem YL {w w':World}(h:Fr (LG S e) B U w.heap v xs)(c:AB S w w'):Fr (LG S e) B U w'.heap v xs:=by obtain⟨F,h1,h2,h3⟩:=h;exact⟨F,C2.stable h1 fun b hb=>c.block b (C2.lt h1 b hb) (h1.2 b hb),h2,h3⟩
theorem Kr {H:Array Obj}(h:Fr (Bq rI e) B U H v xs)(hS:∀b∈S,b<B∨U≤b):RN S (B9 rI) H v xs:=by obtain⟨F,h1,_,h3⟩:=h;exact⟨F,h1.rd id,fun b hb hm=>by have:=h3 b hb;have:=hS b hm;omega⟩
theorem dL {H:Array Obj}(h:Fr (LG S e) B U H v xs):Rd (B9 rI) H v xs:=(Sa h).rd1
end frx
theorem RN.of_frA {S:List Nat}{e:TypeId}{B U:Nat}{H:Array Obj}{v:Value}{xs:List Av}(h:Fr (DE 2 KQ e) B U H v xs)(hS:∀b∈S,b<B∨U≤b):RN S (Ch 2 KQ) H v xs:=by obtain⟨F,h1,_,h3⟩:=h;exact⟨F,h1.rd B6,fun b hb hm=>by have:=h3 b hb;have:=hS b hm;omega⟩
theorem VZ (H:Array Obj):KQ H (eM Av.zero) Av.zero []:=⟨rfl,⟨⟨by decide,by decide⟩,⟨by decide,by decide⟩⟩,rfl⟩
def YM:BM Av:=fun _ cs _ F=>(∃k a,cs=[.int .i64 k,.int .i64 a])∧F=[]
theorem QW:Cc 2 YM where
 len:=by rintro H cs x F ⟨⟨k,a,rfl⟩,_⟩;rfl
 one:=by
  rintro H cs x F ⟨⟨k,a,rfl⟩,_⟩ u hu;simp only[ze,z2,or_false]at hu;rcases hu with rfl|rfl <;> exact⟨rfl,rfl⟩
 lt:=by rintro H cs x F ⟨_,rfl⟩ b hb;cases hb
 stable:=by rintro H H' cs x F h _;exact h
theorem fH {H:Array Obj}{cs:List Value}{x:Av}{F:List Nat}(h:KQ H cs x F):YM H cs x F:=by obtain⟨rfl,_,rfl⟩:=h;exact⟨⟨_,_,rfl⟩,rfl⟩
theorem X0 {n:Int}{H:Array Obj}{cs:List Value}{x:Av}{F:List Nat}(h:YM H cs x F):YM H (cs.set 0 (.int .i64 n)) x F:=by obtain⟨⟨k,a,rfl⟩,rfl⟩:=h;exact⟨⟨_,_,rfl⟩,rfl⟩
theorem X1 {n:Int}{H:Array Obj}{cs:List Value}{x:Av}{F:List Nat}(h:YM H cs x F):YM H (cs.set 1 (.int .i64 n)) x F:=by obtain⟨⟨k,a,rfl⟩,rfl⟩:=h;exact⟨⟨_,_,rfl⟩,rfl⟩
section res
variable {P:Program} {N:Nat} {ρ:Nat→Value} {w:World}
theorem BS {fn:Func}{R:Ending→World→Prop}{k s b t0 t1:Nat}{ty:TypeId}{cs:List Value}(v0 v1:Value)(hr:fn.results=#[ResultVar.tmp t0,ResultVar.cell k ty,ResultVar.tmp t1])(ha:De P ty s=true)(hv:Bv N ρ (.tmp k)=.pointer (some ⟨b,0,none⟩))(hb:BX w.heap b cs)(hl:cs.length=s)
  (h0:Bv N ρ (.tmp t0)=v0) (h1:Bv N ρ (.tmp t1)=v1) (h:R (.returned (.tuple #[v0,.agg cs.toArray,v1])) w):bodyPost P fn R .ret (mk N ρ) w:=by
 subst h0 h1;refine⟨rfl,_,?_,h⟩;have hld:=Hn (P:=P) ha (LD.of_box hb) hl;have hg:(mk N ρ).tmps.getD k undef=.pointer (some ⟨b,0,none⟩):=by rw[IJ,hv]
 have hi:(asAddr (.pointer (some ⟨b,0,none⟩))).run P w=.ok ⟨b,0,none⟩ w:=rfl;unfold results;rw[hr];simp only[List.mapM_toArray,Sem.run_bind,Sem.run_map];have hfull:(([ResultVar.tmp t0,ResultVar.cell k ty,ResultVar.tmp t1].mapM (m:=Sem) fun
  |.tmp t=>pure ((mk N ρ).tmps.getD t undef)
  |.cell a t=>do loadVar t (← asAddr ((mk N ρ).tmps.getD a undef)))).run P w=.ok [Bv N ρ (.tmp t0),.agg cs.toArray,Bv N ρ (.tmp t1)] w:=by
  simp only[List.mapM_cons,List.mapM_nil,Sem.run_bind,Sem.run_pure,Result.andThen_ok,IJ,hv];rw[hi];simp only[Result.andThen_ok];rw[hld];rfl
 refine (congrArg (fun r=>(Result.andThen (Result.andThen r fun a w'=>Result.ok a.toArray w') fun a w'=>Result.ok (if h:a.size=1 then a[0]else Value.tuple a) w')) hfull).trans ?_;simp only[Result.andThen_ok];rfl
end res
def Ks (p:List Fn)(f:Int)(a ws:List Int)(l:List Av)(k:Int):Int :=
 if Fq p=true∧EG l=true then(if DG p f a ws (BN 4 l)=0 then(if 0≤k∧k≤8 then 0 else 2)else DG p f a ws (BN 4 l))else 1
def dM (p:List Fn)(f:Int)(a ws:List Int)(l:List Av)(k:Int):Int :=
 if Ks p f a ws l k=0 then RD l (BN 4 l).toNat k.toNat else Ks p f a ws l k
def LH (p:List Fn)(f:Int)(a ws:List Int)(l:List Av)(k:Int):Int×List Int:=HZ p f.toNat a l (EF (((BN 4 l).toNat:Nat):Int) k.toNat) ws
def FE (p:List Fn)(f:Int)(a ws:List Int)(l:List Av)(k:Int):Int :=
 if dM p f a ws l k=0 then(LH p f a ws l k).1 else dM p f a ws l k
def L1 (p:List Fn)(f:Int)(a ws:List Int)(l:List Av)(k:Int):List Int:=if FE p f a ws l k=0 then(LH p f a ws l k).2 else []
def BP (p:List Fn)(f:Int)(a ws:List Int)(l:List Av)(k:Int):Us:=if FE p f a ws l k=0 then CJ l (List.replicate (BN 4 l).toNat 1) k.toNat else Us.zero
section
variable {p:List Fn} {f k:Int} {a ws:List Int} {l:List Av}
theorem QX (h:¬(Fq p=true∧EG l=true)):Ks p f a ws l k=1:=if_neg h
theorem X2 (h:Fq p=true∧EG l=true)(h1:DG p f a ws (BN 4 l)=0)(h2:0≤k∧k≤8):Ks p f a ws l k=0:=by unfold Ks;rw[if_pos h,if_pos h1,if_pos h2]
theorem N5 (h:Fq p=true∧EG l=true)(h1:DG p f a ws (BN 4 l)=0)(h2:¬(0≤k∧k≤8)):Ks p f a ws l k=2:=by unfold Ks;rw[if_pos h,if_pos h1,if_neg h2]
theorem OJ (h:Fq p=true∧EG l=true)(h1:DG p f a ws (BN 4 l)≠0):Ks p f a ws l k=DG p f a ws (BN 4 l):=by unfold Ks;rw[if_pos h,if_neg h1]
theorem fI {n k:Nat}(h:RD l n k=0):Fm l (EF ((n:Nat):Int) k) 0 = -1:=by by_cases h9:Fm l (EF ((n:Nat):Int) k) 0 = -1;exact h9;rw[Ql h9]at h;cases h
theorem Pq (h:Fq p=true∧EG l=true)(h1:Hc p f [a,ws]≠0):Ks p f a ws l k=Hc p f [a,ws]:=by have e:DG p f a ws (BN 4 l)=Hc p f [a,ws]:=N3 h1;rw[OJ h (by rw[e];exact h1),e]
theorem Pr (h:Fq p=true∧EG l=true)(h1:Hc p f [a,ws]=0)(h2:¬(0≤k∧k≤8)∨¬(0≤BN 4 l∧BN 4 l≤40)):Ks p f a ws l k=2:=by
 cases hb:GB (BN 4 l) 0 40 with
 |true =>
  have h3:=Cx.1 hb;exact N5 h (S3 h1 hb) (h2.elim id fun h9=>absurd h3 h9)
 |false =>
  have e:DG p f a ws (BN 4 l)=2:=S0 h1 hb;rw[OJ h (by rw[e];omega),e]
theorem HP (h:Ks p f a ws l k≠0):FE p f a ws l k=Ks p f a ws l k:=by have hB:dM p f a ws l k=Ks p f a ws l k:=if_neg h;unfold FE;rw[if_neg (by rw[hB];exact h),hB]
theorem Tn (h:Ks p f a ws l k=0)(h4:Fm l (EF (((BN 4 l).toNat:Nat):Int) k.toNat) 0≠-1):FE p f a ws l k=4:=by
 have hB:dM p f a ws l k=4:=by unfold dM;rw[if_pos h,Ql h4]
 unfold FE;rw[hB];rfl
theorem N6 (h:Ks p f a ws l k=0)(h4:Fm l (EF (((BN 4 l).toNat:Nat):Int) k.toNat) 0 = -1):FE p f a ws l k=(LH p f a ws l k).1:=by
 have hB:dM p f a ws l k=0:=by unfold dM;rw[if_pos h,SB h4]
 unfold FE;rw[if_pos hB]
theorem Gu (h:FE p f a ws l k≠0):L1 p f a ws l k=[]:=if_neg h
theorem Gv (h:FE p f a ws l k=0):L1 p f a ws l k=(LH p f a ws l k).2:=if_pos h
theorem ZE (h:FE p f a ws l k≠0):BP p f a ws l k=Us.zero:=if_neg h
theorem ZF (h:FE p f a ws l k=0):BP p f a ws l k=CJ l (List.replicate (BN 4 l).toNat 1) k.toNat:=if_pos h
theorem ZG {n k:Nat}(h:P4 l n k=true):Fm l (EF ((n:Nat):Int) k) 0≠-1:=by
 unfold P4 at h
 intro h9;rw[h9]at h;cases h
theorem ZH {n k:Nat}(h:P4 l n k=false):Fm l (EF ((n:Nat):Int) k) 0 = -1:=by unfold P4 at h;by_cases h9:Fm l (EF ((n:Nat):Int) k) 0 = -1;exact h9;rw[A6 h9]at h;cases h
theorem N7 (n:Nat):∀i,0≤(List.replicate n (1:Int)).getD i 0∧(List.replicate n (1:Int)).getD i 0≤1000:=fun i=>by
 simp only[List.getD_eq_getElem?_getD,List.getElem?_replicate]
 split <;> simp
end
end
theorem ZI {p:List Fn}{f:Nat}{a:List Int}(hv:GC p)(hf:f<p.length)(hsq:(((p.getD f Fn.zero).outs.length:Nat):Int)=(p.getD f Fn.zero).params)(hl:((a.length:Nat):Int)=(p.getD f Fn.zero).params)(hn:Bi a=true) :
  ∀(l:List Av) (c:Cn) (L:List Int),(∀x∈l,GV x)→dJ p f a c→U3 40 c→(∃e,Zn l c=some e)→L.length=a.length→(HZ p f a l c L).2.length≤a.length
 |[],c,L,_,_,_,_,h=>by show L.length≤_;omega
 |x::l,c,L,hx,hr,hk,he,h=>by
  obtain⟨e,he⟩:=he
  obtain⟨p1,p2⟩:=UI he
  have hxa:=hx x (z0 ..)
  have hk2:=hk.act hxa p1
  have go:=ZI hv hf hsq hl hn l<|CQ c x
  have ht:∀y∈l,GV y:=fun y hy=>hx y (z3 _ hy)
  show(if x.kind=1 then _ else _:Int×List Int).2.length≤_
  by_cases k1:x.kind=1
  rw[if_pos k1]
  by_cases h1:Em p f a (c.at_+x.arg).toNat=0
  rw[if_pos h1]
  exact go L ht (hr.act hxa p1 hk fun _=>h1) hk2 ⟨e,p2⟩ h
  rw[if_neg h1];exact Nat.zero_le _
  rw[if_neg k1]
  have hr2:=hr.act hxa p1 hk fun h9=>absurd h9 k1
  by_cases k4:x.kind=4
  rw[if_pos k4]
  by_cases h1:Em p f a (c.at_.toNat+1)=0
  rw[if_pos h1]
  have hC:Rv p f a c.at_.toNat:=⟨hv,hf,hsq,hl,hn,hr.at_⟩
  exact go _ ht hr2 hk2 ⟨e,p2⟩ (by rw[Me];exact hC.st.1)
  rw[if_neg h1];exact Nat.zero_le _
  rw[if_neg k4]
  exact go L ht hr2 hk2 ⟨e,p2⟩ h
theorem dN {p:List Fn}{f k:Int}{a ws:List Int}{l:List Av}:(L1 p f a ws l k).length≤12:=by
 by_cases h:FE p f a ws l k=0;have hA:Ks p f a ws l k=0:=by
  by_cases h1:Ks p f a ws l k=0;exact h1;rw[HP h1]at h;exact absurd h h1
 have hB:Fm l (EF (((BN 4 l).toNat:Nat):Int) k.toNat) 0 = -1:=by
  by_cases h1:Fm l (EF (((BN 4 l).toNat:Nat):Int) k.toNat) 0 = -1;exact h1;rw[Tn hA h1]at h;omega
 have hok:Fq p=true∧EG l=true:=by
  by_cases h1:Fq p=true∧EG l=true;exact h1;rw[QX h1]at hA;omega
 have hg0:DG p f a ws (BN 4 l)=0:=by
  by_cases h1:DG p f a ws (BN 4 l)=0;exact h1;rw[OJ hok h1]at hA;exact absurd hA h1
 have hq1:=Pn hg0;have hq0:=Ti hq1.1;have hv:=IS hq0.1;have hp:=hv.par f.toNat zO;have hwa:ws.length=a.length:=by have:=hq0.2.2.2.1.1;have:=hq0.2.2.2.2.1;omega
 have hla:=hq0.2.2.2.1.1;obtain⟨e,he,_⟩:=(UJ l _ 0 (Int.le_refl _)).1.1 hB;have hbk:=Qf (n:=(((BN 4 l).toNat:Nat):Int)) zO k.toNat;have h40:U3 40 (EF (((BN 4 l).toNat:Nat):Int) k.toNat):=⟨hbk.at0,by have:=hbk.atn;omega,hbk.l0,by have:=hbk.ln;omega,fun j hj=>by have:=hbk.sl j hj;omega⟩;rw[Gv h];have:=ZI hv (f:=f.toNat) zO hq0.2.2.1.2 hla hq0.2.2.2.1.2 l _ ws (UO hok.2) (Po _ _) h40 ⟨e,he⟩ hwa;unfold LH;omega;rw[Gu h];exact Nat.zero_le _
theorem mixed:Tryz.prog.follows .mixedOrders=true:=by kernel_rfl
abbrev BK (k:Nat):Prop:=((Tryz.prog.funcs[k]?).map fun fn=>(fn.name != "runtime.NumGoroutine") && fn.body.isSome) = some true
theorem BL {k:Nat} (h:((Tryz.prog.funcs[k]?).map fun fn=>(fn.name != "runtime.NumGoroutine") && fn.body.isSome) = some true):BK k:=h
theorem lJ:BK 11:=BL (by kernel_rfl)
theorem lK:BK 16:=BL (by kernel_rfl)
theorem lL:BK 23:=BL (by kernel_rfl)
theorem lM:BK 24:=BL (by kernel_rfl)
theorem lN:BK 25:=BL (by kernel_rfl)
theorem YN:BK 26:=BL (by kernel_rfl)
theorem QY:BK 27:=BL (by kernel_rfl)
theorem YO:BK 28:=BL (by kernel_rfl)
theorem fJ:BK 29:=BL (by kernel_rfl)
theorem X3:BK 30:=BL (by kernel_rfl)
theorem dO:BK 31:=BL (by kernel_rfl)
theorem lO:BK 32:=BL (by kernel_rfl)
theorem lP:BK 33:=BL (by kernel_rfl)
theorem lQ:BK 34:=BL (by kernel_rfl)
theorem dP:BK 35:=BL (by kernel_rfl)
theorem lR:BK 36:=BL (by kernel_rfl)
theorem fK:BK 37:=BL (by kernel_rfl)
theorem fL:BK 51:=BL (by kernel_rfl)
theorem fM:BK 52:=BL (by kernel_rfl)
theorem YP:BK 53:=BL (by kernel_rfl)
theorem YQ:BK 54:=BL (by kernel_rfl)
theorem dQ:BK 55:=BL (by kernel_rfl)
theorem lS:BK 66:=BL (by kernel_rfl)
theorem fN:BK 67:=BL (by kernel_rfl)
theorem lT:BK 68:=BL (by kernel_rfl)
theorem Ps:BK 69:=BL (by kernel_rfl)
theorem YS:BK 70:=BL (by kernel_rfl)
theorem lU:BK 71:=BL (by kernel_rfl)
theorem Ej:BK 72:=BL (by kernel_rfl)
theorem lV:BK 75:=BL (by kernel_rfl)
theorem fO:BK 76:=BL (by kernel_rfl)
theorem lW:BK 77:=BL (by kernel_rfl)
theorem lX:BK 78:=BL (by kernel_rfl)
theorem lY:BK 79:=BL (by kernel_rfl)
theorem DY:BK 80:=BL (by kernel_rfl)
theorem fP:BK 81:=BL (by kernel_rfl)
theorem fQ:BK 82:=BL (by kernel_rfl)
theorem fR:BK 83:=BL (by kernel_rfl)
theorem fS:BK 84:=BL (by kernel_rfl)
theorem lZ:BK 85:=BL (by kernel_rfl)
theorem mA:BK 86:=BL (by kernel_rfl)
theorem dR:BK 87:=BL (by kernel_rfl)
theorem mB:BK 88:=BL (by kernel_rfl)
theorem mC:BK 89:=BL (by kernel_rfl)
theorem mD:BK 90:=BL (by kernel_rfl)
theorem mE:BK 91:=BL (by kernel_rfl)
theorem mF:BK 92:=BL (by kernel_rfl)
theorem mG:BK 93:=BL (by kernel_rfl)
theorem Ue:BK 94:=BL (by kernel_rfl)
theorem mH:BK 95:=BL (by kernel_rfl)
theorem mI:BK 96:=BL (by kernel_rfl)
theorem mJ:BK 97:=BL (by kernel_rfl)
theorem mK:BK 98:=BL (by kernel_rfl)
theorem mL:BK 99:=BL (by kernel_rfl)
theorem QZ:BK 112:=BL (by kernel_rfl)
theorem ZJ:BK 113:=BL (by kernel_rfl)
theorem ZK:BK 114:=BL (by kernel_rfl)
theorem fT:BK 115:=BL (by kernel_rfl)
theorem X4:BK 116:=BL (by kernel_rfl)
theorem N8:BK 117:=BL (by kernel_rfl)
theorem ZM:BK 118:=BL (by kernel_rfl)
theorem fU:BK 122:=BL (by kernel_rfl)
theorem fV:BK 123:=BL (by kernel_rfl)
theorem fW:BK 124:=BL (by kernel_rfl)
theorem fX:BK 126:=BL (by kernel_rfl)
theorem fY:BK 127:=BL (by kernel_rfl)
theorem fZ:BK 128:=BL (by kernel_rfl)
theorem R0:BK 129:=BL (by kernel_rfl)
theorem N9:BK 130:=BL (by kernel_rfl)
theorem gA:BK 131:=BL (by kernel_rfl)
theorem gB:BK 132:=BL (by kernel_rfl)
theorem gC:BK 135:=BL (by kernel_rfl)
theorem gD:BK 136:=BL (by kernel_rfl)
theorem gE:BK 137:=BL (by kernel_rfl)
theorem gF:BK 138:=BL (by kernel_rfl)
theorem ZN:BK 139:=BL (by kernel_rfl)
theorem gG:BK 140:=BL (by kernel_rfl)
theorem R1:BK 141:=BL (by kernel_rfl)
theorem Ii:BK 142:=BL (by kernel_rfl)
theorem gH:BK 143:=BL (by kernel_rfl)
theorem gI:BK 144:=BL (by kernel_rfl)
theorem gJ:BK 145:=BL (by kernel_rfl)
theorem gK:BK 146:=BL (by kernel_rfl)
theorem gL:BK 147:=BL (by kernel_rfl)
theorem gM:BK 148:=BL (by kernel_rfl)
theorem gN:BK 149:=BL (by kernel_rfl)
theorem X5:BK 150:=BL (by kernel_rfl)
theorem gO:BK 151:=BL (by kernel_rfl)
theorem gP:BK 152:=BL (by kernel_rfl)
theorem gQ:BK 153:=BL (by kernel_rfl)
theorem gR:BK 154:=BL (by kernel_rfl)
theorem gS:BK 155:=BL (by kernel_rfl)
theorem gT:BK 156:=BL (by kernel_rfl)
theorem gU:BK 157:=BL (by kernel_rfl)
theorem gV:BK 158:=BL (by kernel_rfl)
theorem gW:BK 159:=BL (by kernel_rfl)
theorem ZO:BK 160:=BL (by kernel_rfl)
theorem gX:BK 165:=BL (by kernel_rfl)
theorem X6:BK 168:=BL (by kernel_rfl)
theorem Ij:BK 169:=BL (by kernel_rfl)
theorem gY:BK 170:=BL (by kernel_rfl)
theorem gZ:BK 171:=BL (by kernel_rfl)
theorem hD:BK 172:=BL (by kernel_rfl)
theorem X7:BK 173:=BL (by kernel_rfl)
theorem X8:BK 174:=BL (by kernel_rfl)
theorem ZP:BK 175:=BL (by kernel_rfl)
theorem ZQ:BK 176:=BL (by kernel_rfl)
theorem hJ:BK 178:=BL (by kernel_rfl)
theorem ZT:BK 179:=BL (by kernel_rfl)
theorem R2:BK 180:=BL (by kernel_rfl)
theorem OK:BK 181:=BL (by kernel_rfl)
theorem X9:BK 182:=BL (by kernel_rfl)
theorem Kt:BK 183:=BL (by kernel_rfl)
theorem ZU:BK 186:=BL (by kernel_rfl)
theorem hY:BK 187:=BL (by kernel_rfl)
theorem Xa:BK 188:=BL (by kernel_rfl)
theorem hZ:BK 189:=BL (by kernel_rfl)
theorem iA:BK 190:=BL (by kernel_rfl)
theorem iB:BK 191:=BL (by kernel_rfl)
theorem iC:BK 192:=BL (by kernel_rfl)
theorem ZV:BK 193:=BL (by kernel_rfl)
theorem iD:BK 194:=BL (by kernel_rfl)
theorem iE:BK 195:=BL (by kernel_rfl)
theorem ZW:BK 196:=BL (by kernel_rfl)
theorem To:BK 197:=BL (by kernel_rfl)
theorem iF:BK 198:=BL (by kernel_rfl)
theorem iG:BK 201:=BL (by kernel_rfl)
theorem iH:BK 202:=BL (by kernel_rfl)
theorem Xb:BK 203:=BL (by kernel_rfl)
theorem ZX:BK 204:=BL (by kernel_rfl)
theorem Tq:BK 205:=BL (by kernel_rfl)
theorem Na:BK 206:=BL (by kernel_rfl)
theorem Xc:BK 207:=BL (by kernel_rfl)
theorem iI:BK 208:=BL (by kernel_rfl)
theorem ZY:BK 209:=BL (by kernel_rfl)
theorem Jf:BK 210:=BL (by kernel_rfl)
theorem R3:BK 211:=BL (by kernel_rfl)
theorem R4:BK 212:=BL (by kernel_rfl)
theorem Xd:BK 213:=BL (by kernel_rfl)
theorem OL:BK 214:=BL (by kernel_rfl)
theorem iJ:BK 215:=BL (by kernel_rfl)
theorem iK:BK 227:=BL (by kernel_rfl)
theorem iL:BK 228:=BL (by kernel_rfl)
theorem ZZ:BK 229:=BL (by kernel_rfl)
theorem Tr:BK 230:=BL (by kernel_rfl)
theorem Ts:BK 231:=BL (by kernel_rfl)
theorem aA:BK 232:=BL (by kernel_rfl)
theorem iM:BK 233:=BL (by kernel_rfl)
theorem iN:BK 234:=BL (by kernel_rfl)
theorem iO:BK 235:=BL (by kernel_rfl)
theorem iP:BK 236:=BL (by kernel_rfl)
theorem iQ:BK 237:=BL (by kernel_rfl)
theorem Nb:BK 238:=BL (by kernel_rfl)
theorem iR:BK 239:=BL (by kernel_rfl)
theorem aB:BK 240:=BL (by kernel_rfl)
theorem aC:BK 241:=BL (by kernel_rfl)
theorem iS:BK 248:=BL (by kernel_rfl)
theorem iT:BK 249:=BL (by kernel_rfl)
theorem He:BK 250:=BL (by kernel_rfl)
theorem iU:BK 251:=BL (by kernel_rfl)
theorem R5:BK 252:=BL (by kernel_rfl)
theorem iV:BK 253:=BL (by kernel_rfl)
theorem iW:BK 254:=BL (by kernel_rfl)
theorem iX:BK 256:=BL (by kernel_rfl)
theorem aD:BK 257:=BL (by kernel_rfl)
theorem iY:BK 258:=BL (by kernel_rfl)
theorem iZ:BK 259:=BL (by kernel_rfl)
theorem jA:BK 260:=BL (by kernel_rfl)
theorem jB:BK 261:=BL (by kernel_rfl)
theorem Aw:CA Tryz.prog 2:=by unfold CA;kernel_rfl
theorem Xe:CA Tryz.prog 3:=by unfold CA;kernel_rfl
theorem NW:CA Tryz.prog 9:=by unfold CA;kernel_rfl
theorem Cm:CA Tryz.prog 24:=by unfold CA;kernel_rfl
theorem B5:CA Tryz.prog 27:=by unfold CA;kernel_rfl
theorem Bj:CA Tryz.prog 31:=by unfold CA;kernel_rfl
theorem DT:CA Tryz.prog 36:=by unfold CA;kernel_rfl
theorem Nc:CA Tryz.prog 37:=by unfold CA;kernel_rfl
theorem aE:CA Tryz.prog 56:=by unfold CA;kernel_rfl
theorem aF:CA Tryz.prog 92:=by unfold CA;kernel_rfl
theorem Jw:CA Tryz.prog 111:=by unfold CA;kernel_rfl
theorem Pt:CA Tryz.prog 188:=by unfold CA;kernel_rfl
theorem EI:(Tryz.prog.info? 2).map (·.size)=some 1:=by kernel_rfl
theorem nH:(Tryz.prog.info? 9).map (·.size)=some 1:=by kernel_rfl
theorem mM:(Tryz.prog.info? 24).map (·.size)=some 1:=by kernel_rfl
theorem Gl:(Tryz.prog.info? 27).map (·.size)=some 1:=by kernel_rfl
theorem jC:(Tryz.prog.info? 31).map (·.size)=some 1:=by kernel_rfl
theorem YT:(Tryz.prog.info? 36).map (·.size)=some 1:=by kernel_rfl
theorem jD:(Tryz.prog.info? 37).map (·.size)=some 1:=by kernel_rfl
theorem aG:(Tryz.prog.info? 111).map (·.size)=some 1:=by kernel_rfl
theorem Bw:TI Tryz.prog 2 1 (.int .i64 0) 8:=by unfold TI;kernel_rfl
theorem nT:TI Tryz.prog 4 1 (.bool false) 1:=by unfold TI;kernel_rfl
theorem nU:TI Tryz.prog 5 1 (.int .u8 0) 1:=by unfold TI;kernel_rfl
theorem B7:TI Tryz.prog 27 1 (.slice none 0 0) 24:=by unfold TI;kernel_rfl
theorem u2:Tryz.prog.underlying 2=some (.int .i64):=by kernel_rfl
theorem u3:Tryz.prog.underlying 3=some (.int .i64):=by kernel_rfl
theorem u4:Tryz.prog.underlying 4=some (.bool):=by kernel_rfl
theorem u5:Tryz.prog.underlying 5=some (.int .u8):=by kernel_rfl
theorem u9:Tryz.prog.underlying 9=some (.string):=by kernel_rfl
theorem nI:Tryz.prog.underlying 22=some (.slice 5):=by kernel_rfl
theorem FX:Tryz.prog.underlying 24=some (.slice 33):=by kernel_rfl
theorem Bf:Tryz.prog.underlying 27=some (.slice 2):=by kernel_rfl
theorem CY:Tryz.prog.underlying 31=some (.slice 153):=by kernel_rfl
theorem K3:Tryz.prog.underlying 36=some (.slice 52):=by kernel_rfl
theorem XZ:Tryz.prog.underlying 37=some (.slice 107):=by kernel_rfl
theorem dS:Tryz.prog.underlying 56=some (.slice 190):=by kernel_rfl
theorem eN:Tryz.prog.underlying 59=some (.slice 135):=by kernel_rfl
theorem I0:Tryz.prog.underlying 68=some (.slice 133):=by kernel_rfl
theorem AY:Tryz.prog.underlying 111=some (.slice 27):=by kernel_rfl
theorem Sb:Tryz.prog.underlying 188=some (.slice 272):=by kernel_rfl
theorem dT:Tryz.prog.underlying 208=some (.int .u64):=by kernel_rfl
theorem DU:De Tryz.prog 26 1=true:=by kernel_rfl
theorem dU:(Tryz.prog.info? 26).map (·.zero)=some (some (.agg #[.slice none 0 0])):=by kernel_rfl
theorem BR:DN Tryz.prog 26 0 0=true:=by kernel_rfl
theorem Ik:De Tryz.prog 33 3=true:=by kernel_rfl
theorem YU:(Tryz.prog.info? 33).map (·.zero)=some (some (.agg #[.string ByteArray.empty,.int .i64 0,.slice none 0 0])):=by kernel_rfl
theorem Cs:TI Tryz.prog 33 3 (.agg #[.string ByteArray.empty,.int .i64 0,.slice none 0 0]) 48:=by unfold TI;kernel_rfl
theorem GL:DN Tryz.prog 33 0 0=true:=by kernel_rfl
theorem CM:DN Tryz.prog 33 1 1=true:=by kernel_rfl
theorem C5:DN Tryz.prog 33 2 2=true:=by kernel_rfl
theorem Ez:De Tryz.prog 39 4=true:=by kernel_rfl
theorem YV:(Tryz.prog.info? 39).map (·.zero)=some (some (.agg #[.int .i64 0,.slice none 0 0,.slice none 0 0,.slice none 0 0])):=by kernel_rfl
theorem GM:DN Tryz.prog 39 0 0=true:=by kernel_rfl
theorem Ct:DN Tryz.prog 39 1 1=true:=by kernel_rfl
theorem Hu:DN Tryz.prog 39 2 2=true:=by kernel_rfl
theorem EP:DN Tryz.prog 39 3 3=true:=by kernel_rfl
theorem E5:De Tryz.prog 52 4=true:=by kernel_rfl
theorem Sc:(Tryz.prog.info? 52).map (·.zero)=some (some (.agg #[.int .i64 0,.int .i64 0,.int .i64 0,.int .i64 0])):=by kernel_rfl
theorem Fw:TI Tryz.prog 52 4 (.agg #[.int .i64 0,.int .i64 0,.int .i64 0,.int .i64 0]) 32:=by unfold TI;kernel_rfl
theorem Hv:DN Tryz.prog 52 0 0=true:=by kernel_rfl
theorem BE:DN Tryz.prog 52 1 1=true:=by kernel_rfl
theorem BF:DN Tryz.prog 52 2 2=true:=by kernel_rfl
theorem CU:DN Tryz.prog 52 3 3=true:=by kernel_rfl
theorem R6:De Tryz.prog 58 1=true:=by kernel_rfl
theorem Xf:DN Tryz.prog 58 0 0=true:=by kernel_rfl
theorem BA:De Tryz.prog 63 5=true:=by kernel_rfl
theorem Pu:(Tryz.prog.info? 63).map (·.zero)=some (some (.agg #[.int .i64 0,.int .i64 0,.int .i64 0,.int .i64 0,.int .i64 0])):=by kernel_rfl
theorem L2:DN Tryz.prog 63 0 0=true:=by kernel_rfl
theorem L3:DN Tryz.prog 63 1 1=true:=by kernel_rfl
theorem L4:DN Tryz.prog 63 2 2=true:=by kernel_rfl
theorem L5:DN Tryz.prog 63 3 3=true:=by kernel_rfl
theorem Pv:DN Tryz.prog 63 4 4=true:=by kernel_rfl
theorem Tt:DN Tryz.prog 100 0 0=true:=by kernel_rfl
theorem Gw:DN Tryz.prog 100 1 1=true:=by kernel_rfl
theorem Ea:DN Tryz.prog 100 2 5=true:=by kernel_rfl
theorem Pw:DN Tryz.prog 100 3 6=true:=by kernel_rfl
theorem FS:DN Tryz.prog 100 4 7=true:=by kernel_rfl
theorem Xg:De Tryz.prog 107 2=true:=by kernel_rfl
theorem jE:(Tryz.prog.info? 107).map (·.zero)=some (some (.agg #[.int .i64 0,.bool false])):=by kernel_rfl
theorem L6:TI Tryz.prog 107 2 (.agg #[.int .i64 0,.bool false]) 16:=by unfold TI;kernel_rfl
theorem Tu:DN Tryz.prog 107 0 0=true:=by kernel_rfl
theorem CE:De Tryz.prog 133 2=true:=by kernel_rfl
theorem OM:(Tryz.prog.info? 133).map (·.zero)=some (some (.agg #[.int .i64 0,.int .i64 0])):=by kernel_rfl
theorem Dl:TI Tryz.prog 133 2 (.agg #[.int .i64 0,.int .i64 0]) 16:=by unfold TI;kernel_rfl
theorem DB:DN Tryz.prog 133 0 0=true:=by kernel_rfl
theorem BC:DN Tryz.prog 133 1 1=true:=by kernel_rfl
theorem dV:De Tryz.prog 135 2=true:=by kernel_rfl
theorem dW:TI Tryz.prog 135 2 (.agg #[.int .i64 0,.int .i64 0]) 16:=by unfold TI;kernel_rfl
theorem YW:DN Tryz.prog 135 0 0=true:=by kernel_rfl
theorem YX:DN Tryz.prog 135 1 1=true:=by kernel_rfl
theorem BJ:De Tryz.prog 153 5=true:=by kernel_rfl
theorem LA:(Tryz.prog.info? 153).map (·.zero)=some (some (.agg #[.int .i64 0,.int .i64 0,.int .i64 0,.int .i64 0,.slice none 0 0])):=by kernel_rfl
theorem Bn:TI Tryz.prog 153 5 (.agg #[.int .i64 0,.int .i64 0,.int .i64 0,.int .i64 0,.slice none 0 0]) 56:=by unfold TI;kernel_rfl
theorem BT:DN Tryz.prog 153 0 0=true:=by kernel_rfl
theorem BI:DN Tryz.prog 153 1 1=true:=by kernel_rfl
theorem CF:DN Tryz.prog 153 2 2=true:=by kernel_rfl
theorem CZ:DN Tryz.prog 153 3 3=true:=by kernel_rfl
theorem Bh:DN Tryz.prog 153 4 4=true:=by kernel_rfl
theorem YY:DN Tryz.prog 167 0 0=true:=by kernel_rfl
theorem Px:DN Tryz.prog 167 1 1=true:=by kernel_rfl
theorem Mh:DN Tryz.prog 167 2 2=true:=by kernel_rfl
theorem Hw:DN Tryz.prog 167 3 3=true:=by kernel_rfl
theorem Xh:De Tryz.prog 190 3=true:=by kernel_rfl
theorem Xi:TI Tryz.prog 190 3 (.agg #[.string ByteArray.empty,.int .i64 0,.slice none 0 0]) 48:=by unfold TI;kernel_rfl
theorem Tv:DN Tryz.prog 190 0 0=true:=by kernel_rfl
theorem YZ:DN Tryz.prog 190 1 1=true:=by kernel_rfl
theorem Tw:DN Tryz.prog 190 2 2=true:=by kernel_rfl
theorem FT:DN Tryz.prog 198 0 0=true:=by kernel_rfl
theorem Mi:DN Tryz.prog 198 1 1=true:=by kernel_rfl
theorem Hx:DN Tryz.prog 198 2 2=true:=by kernel_rfl
theorem Ku:DN Tryz.prog 215 0 0=true:=by kernel_rfl
theorem Hy:DN Tryz.prog 215 1 1=true:=by kernel_rfl
theorem Hz:DN Tryz.prog 215 2 2=true:=by kernel_rfl
theorem Tx:DN Tryz.prog 215 3 3=true:=by kernel_rfl
theorem Fi:DN Tryz.prog 215 4 4=true:=by kernel_rfl
theorem Ty:DN Tryz.prog 215 5 9=true:=by kernel_rfl
theorem Sd:De Tryz.prog 244 2=true:=by kernel_rfl
theorem Z0:DN Tryz.prog 244 0 0=true:=by kernel_rfl
theorem Z1:DN Tryz.prog 244 1 1=true:=by kernel_rfl
theorem Tz:DN Tryz.prog 255 0 0=true:=by kernel_rfl
theorem Z2:DN Tryz.prog 255 1 1=true:=by kernel_rfl
theorem Mj:DN Tryz.prog 255 2 2=true:=by kernel_rfl
theorem HA:DN Tryz.prog 255 3 3=true:=by kernel_rfl
theorem Xj:De Tryz.prog 272 5=true:=by kernel_rfl
theorem Xk:TI Tryz.prog 272 5 (.agg #[.int .i64 0,.int .i64 0,.int .i64 0,.int .i64 0,.slice none 0 0]) 56:=by unfold TI;kernel_rfl
theorem Z3:DN Tryz.prog 272 0 0=true:=by kernel_rfl
theorem Z4:DN Tryz.prog 272 1 1=true:=by kernel_rfl
theorem Z5:DN Tryz.prog 272 2 2=true:=by kernel_rfl
theorem Z6:DN Tryz.prog 272 3 3=true:=by kernel_rfl
theorem TA:DN Tryz.prog 272 4 4=true:=by kernel_rfl
theorem Z7:DN Tryz.prog 276 0 0=true:=by kernel_rfl
theorem Gx:DN Tryz.prog 276 1 1=true:=by kernel_rfl
theorem J0:DN Tryz.prog 276 2 5=true:=by kernel_rfl
theorem Xl:CA Tryz.prog 119:=by unfold CA;kernel_rfl
section
set_option maxHeartbeats 4000000
set_option maxRecDepth 100000
attribute [local irreducible] LW
theorem AZ (w:World)(n:Int)(low:Int)(high:Int)(_hn:Bl n)(_hlow:Bl low)(_hhigh:Bl high)  :
  Calls Tryz.prog 72 #[zI n,zI low,zI high] w (fun e w'=>e=.returned (.bool (decide (low≤n) && decide (n≤high)))∧w'=w):=by
 refine Aq [zI n,zI low,zI high] 15 Tryz.func72 Y Y sM ?_;have a0:w=w:=rfl;refine nA Y<|mZ [0,0,0,0,0,0,0,0,0] Y<|Ad 2 Y ?_;by_cases a1:low≤n;exact CH true Y Y (A5 a1) Aa<|Ad 3 Y<|EH (decide (n≤high)) Y Y Y (nE 10)<|Ac 2 Y<|A1<|Ai [6] Y (.bool<|decide (n≤high)) Y ⟨AM (by simp[*]),a0⟩;exact CH false Y Y (A6 a1) Aa<|Ac 6 Y<|A1<|Ai [6] Y (.bool false) Y ⟨AM (by simp[*]),a0⟩
theorem B4 (w:World)(n:Int)(low:Int)(high:Int)(_hn:Bl n)(_hlow:Bl low)(_hhigh:Bl high)  :
  Calls Tryz.prog 80 #[zI n,zI low,zI high] w (fun e w'=>e=.returned (.bool (decide (low≤n) && decide (n≤high)))∧w'=w):=by
 refine Aq [zI n,zI low,zI high] 15 Tryz.func80 Y Y sM ?_;have a0:w=w:=rfl;refine nA Y<|mZ [0,0,0,0,0,0,0,0,0] Y<|Ad 2 Y ?_;by_cases a1:low≤n;exact CH true Y Y (A5 a1) Aa<|Ad 3 Y<|EH (decide (n≤high)) Y Y Y (nE 10)<|Ac 2 Y<|A1<|Ai [6] Y (.bool<|decide (n≤high)) Y ⟨AM (by simp[*]),a0⟩;exact CH false Y Y (A6 a1) Aa<|Ac 6 Y<|A1<|Ai [6] Y (.bool false) Y ⟨AM (by simp[*]),a0⟩
theorem Da (w:World)(n:Int)(_hn:Bl n)  :
  Calls Tryz.prog 214 #[zI n] w (fun e w'=>e=.returned (zI (md n))∧w'=w):=by
 refine Aq [zI n] 7 Tryz.func214 Y Y sM ?_;have a0:w=w:=rfl;exact nA Y<|mZ [0,0,0,0,0] Y<|Ad 1 Y<|Fk (n.tmod 1000003) Y Y (by decide) Y Aa<|AL (wr ((n.tmod 1000003)+(1000003:Nat))) Y Y Y Aa<|Fk ((wr ((n.tmod 1000003)+(1000003:Nat))).tmod 1000003) Y Y (by decide) Y Aa<|Ac 1 Y<|A1<|Ai [2] Y (zI<|(wr ((n.tmod 1000003)+(1000003:Nat))).tmod 1000003) Y ⟨AS<|cD n,a0⟩
theorem Il (w:World)(a:Int)(b:Int)(_ha:Bl a)(_hb:Bl b)  :
  Calls Tryz.prog 173 #[zI a,zI b] w (fun e w'=>e=.returned (zI (md (a+b)))∧w'=w):=by
 refine Aq [zI a,zI b] 11 Tryz.func173 Y Y sM ?_;have a0:w=w:=rfl;exact nA Y<|mZ [0,0,0,0,0,0,0] Y<|Ad 1 Y<|AD 214 [] [] [zI a] Y Y OL Aa (zI<|md a) (fun wq=>Da wq _ _ha)<|Ad 1 Y<|AD 214 [] [] [zI b] Y Y OL Aa (zI<|md b) (fun wq=>Da wq _ _hb)<|AL (wr ((md a)+(md b))) Y Y Y Aa<|Fk ((wr ((md a)+(md b))).tmod 1000003) Y Y (by decide) Y Aa<|Ac 1 Y<|A1<|Ai [4] Y (zI<|(wr ((md a)+(md b))).tmod 1000003) Y ⟨AS<|SI a b,a0⟩
theorem Kv (w:World)(a:Int)(b:Int)(_ha:Bl a)(_hb:Bl b)  :
  Calls Tryz.prog 175 #[zI a,zI b] w (fun e w'=>e=.returned (zI (md (a*b)))∧w'=w):=by
 refine Aq [zI a,zI b] 11 Tryz.func175 Y Y sM ?_;have a0:w=w:=rfl;exact nA Y<|mZ [0,0,0,0,0,0,0] Y<|Ad 1 Y<|AD 214 [] [] [zI a] Y Y OL Aa (zI<|md a) (fun wq=>Da wq _ _ha)<|Ad 1 Y<|AD 214 [] [] [zI b] Y Y OL Aa (zI<|md b) (fun wq=>Da wq _ _hb)<|Jd (wr ((md a)*(md b))) Y Y Y Aa<|Fk ((wr ((md a)*(md b))).tmod 1000003) Y Y (by decide) Y Aa<|Ac 1 Y<|A1<|Ai [4] Y (zI<|(wr ((md a)*(md b))).tmod 1000003) Y ⟨AS<|Qr a b,a0⟩
theorem HB (w:World)(a:Int)(b:Int)(_ha:Bl a)(_hb:Bl b)  :
  Calls Tryz.prog 174 #[zI a,zI b] w (fun e w'=>e=.returned (zI (md (a-b)))∧w'=w):=by
 refine Aq [zI a,zI b] 10 Tryz.func174 Y Y sM ?_;have a0:w=w:=rfl;exact nA Y<|mZ [0,0,0,0,0,0] Y<|Ad 2 Y<|AD 214 [] [] [zI b] Y Y OL Aa (zI<|md b) (fun wq=>Da wq _ _hb)<|Bu (wr ((1000003:Nat)-(md b))) Y Y Y Aa<|AD 173 [] [] [zI a,zI<|wr ((1000003:Nat)-(md b))] Y Y X7 Aa (zI<|md (a+(wr ((1000003:Nat)-(md b))))) (fun wq=>Il wq _ _ _ha<|OR _)<|Ac 1 Y<|A1<|Ai [4] Y (zI<|md (a+(wr ((1000003:Nat)-(md b))))) Y ⟨AS<|V3 a b,a0⟩
theorem dX (n:Int)(h:n.tmod 1000003<((0:Nat):Int)):wr (n.tmod 1000003+((1000003:Nat):Int))=md n:=by have h1:=Co n;have h2:=G3 n;have h3:=Co (-n);have h4:=G3 (-n);rw[tm n]at h ⊢;split at h;omega;rename_i h0;rw[if_neg h0,Gs zO (by omega)];have e1:md (-(md (-n))+((1000003:Nat):Int))=md (-(md (-n))):=Yf _;rw[RH,Int.neg_neg,SG zO (by omega)]at e1;exact e1
theorem dY (n:Int)(h:¬n.tmod 1000003<((0:Nat):Int)):n.tmod 1000003=md n:=by
  have h1:=Co n;have h2:=G3 n;have h3:=Co (-n);have h4:=G3 (-n);rw[tm n]at h ⊢;split;rfl;rename_i h0;rw[if_neg h0]at h;have e0:md (-n)=0:=by omega
  have e1:=RH (-n);rw[e0,Int.neg_neg]at e1;rw[e0,← e1];rfl
theorem Xm {p:Prop}(h:p:=by first|exact AS (dX n (by assumption))|exact AS (dY n (by assumption))):p:=h
theorem CN (w:World)(n:Int)(_hn:Bl n)  :
  Calls Tryz.prog 130 #[zI n] w (fun e w'=>e=.returned (zI (md n))∧w'=w):=by
 refine Aq [zI n] 11 Tryz.func130 Y Y sM ?_;have a0:w=w:=rfl;refine nA Y<|mZ [0,0,0] Y<|Ad 1 Y<|Fk (n.tmod 1000003) Y Y (by decide) Y Aa<|Ac 1 Y<|A0<|mZ [0,0] Y<|Ad 1 Y ?_;by_cases a1:n.tmod 1000003<((0:Nat):Int);exact Az true Y Y (A5 a1) Aa<|Ah<|Af Y<|Ab _ [0,0,0] Y<|Ad 1 Y<|AL (wr ((n.tmod 1000003)+(1000003:Nat))) Y Y Y Aa<|Ac 1 Y<|mZ [0,0] Y<|Ac 2 Y<|A1<|Ai [2] Y (zI<|wr ((n.tmod 1000003)+(1000003:Nat))) Y ⟨Xm,a0⟩;exact Az false Y Y (A6 a1) Aa<|Ah<|Ag Y<|A2<|mZ [0,0] Y<|Ac 2 Y<|A1<|Ai [2] Y (zI<|n.tmod 1000003) Y ⟨Xm,a0⟩
theorem Gy (w:World)(a:Int)(b:Int)(_ha:Bl a)(_hb:Bl b)  :
  Calls Tryz.prog 70 #[zI a,zI b] w (fun e w'=>e=.returned (zI (md (a+b)))∧w'=w):=by
 refine Aq [zI a,zI b] 11 Tryz.func70 Y Y sM ?_;have a0:w=w:=rfl;exact nA Y<|mZ [0,0,0,0,0,0,0] Y<|Ad 1 Y<|AD 130 [] [] [zI a] Y Y N9 Aa (zI<|md a) (fun wq=>CN wq _ _ha)<|Ad 1 Y<|AD 130 [] [] [zI b] Y Y N9 Aa (zI<|md b) (fun wq=>CN wq _ _hb)<|AL (wr ((md a)+(md b))) Y Y Y Aa<|Fk ((wr ((md a)+(md b))).tmod 1000003) Y Y (by decide) Y Aa<|Ac 1 Y<|A1<|Ai [4] Y (zI<|(wr ((md a)+(md b))).tmod 1000003) Y ⟨AS<|SI a b,a0⟩
theorem CG (w:World)(a:Int)(b:Int)(_ha:Bl a)(_hb:Bl b)  :
  Calls Tryz.prog 69 #[zI a,zI b] w (fun e w'=>e=.returned (zI (md (a*b)))∧w'=w):=by
 refine Aq [zI a,zI b] 11 Tryz.func69 Y Y sM ?_;have a0:w=w:=rfl;exact nA Y<|mZ [0,0,0,0,0,0,0] Y<|Ad 1 Y<|AD 130 [] [] [zI a] Y Y N9 Aa (zI<|md a) (fun wq=>CN wq _ _ha)<|Ad 1 Y<|AD 130 [] [] [zI b] Y Y N9 Aa (zI<|md b) (fun wq=>CN wq _ _hb)<|Jd (wr ((md a)*(md b))) Y Y Y Aa<|Fk ((wr ((md a)*(md b))).tmod 1000003) Y Y (by decide) Y Aa<|Ac 1 Y<|A1<|Ai [4] Y (zI<|(wr ((md a)*(md b))).tmod 1000003) Y ⟨AS<|Qr a b,a0⟩
theorem NX (w:World)(a:Int)(_ha:Bl a)(hneg:0≤a) :
  Calls Tryz.prog 256 #[zI a] w (fun e w'=>e=.returned (zI (md (-a)))∧w'=w):=by
 refine Aq [zI a] 6 Tryz.func256 Y Y sM ?_;have a0:w=w:=rfl;exact nA Y<|mZ [0,0,0,0] Y<|Ad 1 Y<|eQ (wr (-a)) Y Y Aa<|AD 130 [] [] [zI<|wr (-a)] Y Y N9 Aa (zI<|md<|wr (-a)) (fun wq=>CN wq _<|OR _)<|Ac 1 Y<|A1<|Ai [2] Y (zI<|md<|wr (-a)) Y ⟨AS (by rw[Gs oM oM]),a0⟩
theorem HQ (w:World)(a:Int)(b:Int)(_ha:Bl a)(_hb:Bl b)(hs:-9223372036854775808≤a-b∧a-b≤9223372036854775807) :
  Calls Tryz.prog 241 #[zI a,zI b] w (fun e w'=>e=.returned (zI (md (a-b)))∧w'=w):=by
 refine Aq [zI a,zI b] 9 Tryz.func241 Y Y sM ?_;have a0:w=w:=rfl;exact nA Y<|mZ [0,0,0,0,0] Y<|Ad 2 Y<|Bu (wr (a-b)) Y Y Y Aa<|AD 130 [] [] [zI<|wr (a-b)] Y Y N9 Aa (zI<|md<|wr (a-b)) (fun wq=>CN wq _<|OR _)<|Ac 1 Y<|A1<|Ai [4] Y (zI<|md<|wr (a-b)) Y ⟨AS (by rw[Gs hs.1 hs.2]),a0⟩
theorem Py {p:Prop}(h:p:=by exact⟨zO,by first|exact cI hI.2 oM (by assumption)|exact Yh hI.2 oM (by assumption)⟩):p:=h
theorem Pz (w:World)(a:Int)(n:Int)(_ha:Bl a)(_hn:Bl n)  :
  Calls Tryz.prog 254 #[zI a,zI n] w (fun e w'=>e=.returned (zI (pw a n))∧w'=w):=by
 refine Aq [zI a,zI n] 25 Tryz.func254 Y Y sM ?_;have a0:w=w:=rfl;refine nA Y<|A0<|mZ [0,0] Y<|Ad 1 Y ?_;by_cases a2:n<(0:Nat);exact Az true Y Y (A5 a2) Aa<|Ah<|Af Y<|nA Y<|A1<|Ao<|Ai [4] Y (zI (0:Nat)) Y ⟨AS<|V5 zV,a0⟩;refine Az false Y Y (A6 a2) Aa<|Ah<|Ag Y<|A2<|nA Y<|mZ [0,0,0] Y<|Ad 1 Y<|AD 130 [] [] [zI a] Y Y N9 Aa (zI<|md a) (fun wq=>CN wq _ _ha)<|Ac 1 Y<|A0<|A3 ?_;refine AR (S:=Int×Int×Int) (fun⟨m,x,b⟩=>([(1,zI m),(5,zI x),(6,zI b)])) (fun⟨m,x,b⟩ W=>W=w∧(0≤m∧md (x*b ^ m.toNat)=md (a ^ n.toNat))∧m≤9223372036854775807∧(0≤x∧x<1000003)∧(0≤b∧b<1000003)) (fun⟨m,x,b⟩=>m.toNat) (n,(1:Nat),md a) ⟨rfl,rfl,rfl,trivial⟩ ⟨a0,(by exact⟨zO,Qs a n.toNat⟩),oM,oM,(by exact CK _)⟩ ?_;clear a0;rintro⟨m,x,b⟩ ρ3 w3 ⟨a1,hI,hm,hx,hb⟩;refine A0<|mZ [0,0] Y<|Ad 1 Y ?_;by_cases a3:(0:Nat)<m;refine BW true Y Y (A5 a3) Aa<|Ah<|Af Y<|A2<|A3<|A0<|mZ [0,0,0] Y<|Ad 1 Y<|Fk (m % 2) Y Y (by decide) (nF hI.1) Aa ?_;by_cases a4:m % 2=((1:Nat):Int);refine Ap true Y Y (A5 a4) Aa<|Ah<|Af Y<|Ab _ [0,0,0,0] Y<|Ad 2 Y<|AD 69 [] [] [zI x,zI b] Y Y Ps Aa (zI<|md (x*b)) (fun wq=>CG wq _ _ oM oM)<|Ac 1 Y<|mZ [0,0,0,0] Y<|Ad 2 Y<|AD 69 [] [] [zI b,zI b] Y Y Ps Aa (zI<|md (b*b)) (fun wq=>CG wq _ _ oM oM)<|Ac 1 Y<|Ab _ [0,0,0] Y<|Ad 1 Y<|Qa (m / 2) Y Y (by decide) (kQ hI.1 hm) Aa<|Ac 1 Y ?_;exact⟨(m / 2,md (x*b),md (b*b)),_,rfl,zR,⟨a1,Py,oM,(by first|exact hx|exact CK _),(by exact CK _)⟩,zD⟩;exact Ap false Y Y (A6 a4) Aa<|Ah<|Ag Y<|A2<|mZ [0,0,0,0] Y<|Ad 2 Y<|AD 69 [] [] [zI b,zI b] Y Y Ps Aa (zI<|md (b*b)) (fun wq=>CG wq _ _ oM oM)<|Ac 1 Y<|Ab _ [0,0,0] Y<|Ad 1 Y<|Qa (m / 2) Y Y (by decide) (kQ hI.1 hm) Aa<|Ac 1 Y ⟨(m / 2,x,md (b*b)),_,rfl,zR,⟨a1,Py,oM,(by first|exact hx|exact CK _),(by exact CK _)⟩,zD⟩;exact BW false Y Y (A6 a3) Aa<|Ah<|Ag Y<|A4<|Ax<|Ax<|As<|mZ [0,0] Y<|Ac 2 Y<|A1<|Ai [4] Y (zI x) Y ⟨AS<|V4 hI.2 hI.1 zV zV hx,a1⟩
theorem PB (w:World)(a:Int)(n:Int)(_ha:Bl a)(_hn:Bl n)  :
  Calls Tryz.prog 215 #[zI a,zI n] w (fun e w'=>e=.returned (zI (pw a n))∧w'=w):=by
 refine Aq [zI a,zI n] 27 Tryz.func215 Y Y sM ?_;have a0:w=w:=rfl;refine nA Y<|A0<|mZ [0,0] Y<|Ad 1 Y ?_;by_cases a2:n<(0:Nat);exact Az true Y Y (A5 a2) Aa<|Ah<|Af Y<|nA Y<|A1<|Ao<|Ai [4] Y (zI (0:Nat)) Y ⟨AS<|V5 zV,a0⟩;refine Az false Y Y (A6 a2) Aa<|Ah<|Ag Y<|A2<|nA Y<|A0<|mZ [0,0,0] Y<|Ad 1 Y<|AD 214 [] [] [zI a] Y Y OL Aa (zI<|md a) (fun wq=>Da wq _ _ha)<|Ac 1 Y<|A3 ?_;refine AR (S:=Int×Int×Int) (fun⟨m,x,b⟩=>([(1,zI m),(5,zI x),(6,zI b)])) (fun⟨m,x,b⟩ W=>W=w∧(0≤m∧md (x*b ^ m.toNat)=md (a ^ n.toNat))∧m≤9223372036854775807∧(0≤x∧x<1000003)∧(0≤b∧b<1000003)) (fun⟨m,x,b⟩=>m.toNat) (n,(1:Nat),md a) ⟨rfl,rfl,rfl,trivial⟩ ⟨a0,(by exact⟨zO,Qs a n.toNat⟩),oM,oM,(by exact CK _)⟩ ?_;clear a0;rintro⟨m,x,b⟩ ρ3 w3 ⟨a1,hI,hm,hx,hb⟩;refine A0<|mZ [0,0] Y<|Ad 1 Y ?_;by_cases a3:(0:Nat)<m;refine BW true Y Y (A5 a3) Aa<|Ah<|Af Y<|A2<|A0<|A3<|A0<|mZ [0,0,0] Y<|Ad 1 Y<|Fk (m % 2) Y Y (by decide) (nF hI.1) Aa ?_;by_cases a4:m % 2=((1:Nat):Int);refine Ap true Y Y (A5 a4) Aa<|Ah<|Af Y<|Ab _ [0,0,0,0,0] Y<|Ad 2 Y<|Jd (wr (x*b)) Y Y Y Aa<|Fk (md (x*b)) Y Y (by decide) (Qt hx hb) Aa<|Ac 1 Y<|Ab _ [0,0,0,0,0] Y<|Ad 2 Y<|Jd (wr (b*b)) Y Y Y Aa<|Fk (md (b*b)) Y Y (by decide) (Qt hb hb) Aa<|Ac 1 Y<|Ab _ [0,0,0] Y<|Ad 1 Y<|Qa (m / 2) Y Y (by decide) (kQ hI.1 hm) Aa<|Ac 1 Y ?_;exact⟨(m / 2,md (x*b),md (b*b)),_,rfl,zR,⟨a1,Py,oM,(by first|exact hx|exact CK _),(by exact CK _)⟩,zD⟩;exact Ap false Y Y (A6 a4) Aa<|Ah<|Ag Y<|A2<|Ab _ [0,0,0,0,0] Y<|Ad 2 Y<|Jd (wr (b*b)) Y Y Y Aa<|Fk (md (b*b)) Y Y (by decide) (Qt hb hb) Aa<|Ac 1 Y<|Ab _ [0,0,0] Y<|Ad 1 Y<|Qa (m / 2) Y Y (by decide) (kQ hI.1 hm) Aa<|Ac 1 Y ⟨(m / 2,x,md (b*b)),_,rfl,zR,⟨a1,Py,oM,(by first|exact hx|exact CK _),(by exact CK _)⟩,zD⟩;exact BW false Y Y (A6 a3) Aa<|Ah<|Ag Y<|A4<|Ax<|Ax<|As<|mZ [0,0] Y<|Ac 2 Y<|A1<|Ai [4] Y (zI x) Y ⟨AS<|V4 hI.2 hI.1 zV zV hx,a1⟩
theorem Jg (w:World)(a:Int)(_ha:Bl a)  :
  Calls Tryz.prog 240 #[zI a] w (fun e w'=>e=.returned (zI (inv a))∧w'=w):=by
 refine Aq [zI a] 5 Tryz.func240 Y Y sM ?_;have a0:w=w:=rfl;exact nA Y<|mZ [0,0,0] Y<|Ad 1 Y<|AD 254 [] [] [zI a,zI ((1000001:Nat):Int)] Y Y iW Aa (zI<|pw a (1000001:Nat)) (fun wq=>Pz wq _ _ _ha oM)<|Ac 1 Y<|A1<|Ai [2] Y (zI<|pw a (1000001:Nat)) Y ⟨rfl,a0⟩
theorem Im (w:World)(a:Int)(_ha:Bl a)  :
  Calls Tryz.prog 176 #[zI a] w (fun e w'=>e=.returned (zI (inv a))∧w'=w):=by
 refine Aq [zI a] 5 Tryz.func176 Y Y sM ?_;have a0:w=w:=rfl;exact nA Y<|mZ [0,0,0] Y<|Ad 1 Y<|AD 215 [] [] [zI a,zI ((1000001:Nat):Int)] Y Y iJ Aa (zI<|pw a (1000001:Nat)) (fun wq=>PB wq _ _ _ha oM)<|Ac 1 Y<|A1<|Ai [2] Y (zI<|pw a (1000001:Nat)) Y ⟨rfl,a0⟩
theorem FF (w:World)(n:Int)(_hn:Bl n)  :
  Calls Tryz.prog 116 #[zI n] w (fun e w'=>e=.returned (.bool (J2 n))∧w'=w):=by
 refine Aq [zI n] 5 Tryz.func116 Y Y sM ?_;have a0:w=w:=rfl;exact nA Y<|mZ [0,0,0] Y<|Ad 1 Y<|AD 72 [] [] [zI n,zI (0:Nat),zI ((1000002:Nat):Int)] Y Y Ej Aa (.bool (decide ((0:Nat)≤n) && decide (n≤(1000002:Nat)))) (fun wq=>AZ wq _ _ _ _hn oM oM)<|Ac 1 Y<|A1<|Ai [2] Y (.bool (decide ((0:Nat)≤n) && decide (n≤(1000002:Nat)))) Y ⟨AM (by unfold J2;rfl),a0⟩
theorem EQ (w:World)(n:Int)(_hn:Bl n)  :
  Calls Tryz.prog 168 #[zI n] w (fun e w'=>e=.returned (.bool (J2 n))∧w'=w):=by
 refine Aq [zI n] 5 Tryz.func168 Y Y sM ?_;have a0:w=w:=rfl;exact nA Y<|mZ [0,0,0] Y<|Ad 1 Y<|AD 80 [] [] [zI n,zI (0:Nat),zI ((1000002:Nat):Int)] Y Y DY Aa (.bool (decide ((0:Nat)≤n) && decide (n≤(1000002:Nat)))) (fun wq=>B4 wq _ _ _ _hn oM oM)<|Ac 1 Y<|A1<|Ai [2] Y (.bool (decide ((0:Nat)≤n) && decide (n≤(1000002:Nat)))) Y ⟨AM (by unfold J2;rfl),a0⟩
theorem J5 (w:World)(n:Int)(_hn:Bl n)  :
  Calls Tryz.prog 115 #[zI n] w (fun e w'=>e=.returned (.bool (!J2 n))∧AA w w'):=by
 refine Aq [zI n] 6 Tryz.func115 Y Y sM ?_;have a0:AA w w:=AA.refl w;exact nA Y<|mZ [0,0,0,0] Y<|Ad 1 Y<|AD 116 [] [] [zI n] Y Y X4 Aa (.bool<|J2 n) (fun wq=>FF wq _ _hn)<|Bc (!(J2 n)) Y Y Aa<|Ac 1 Y<|A1<|Ai [2] Y (.bool (!(J2 n))) Y ⟨rfl,a0⟩
def Se {α:Type}(p:α→Bool)(l:List α):Int:=if l.any p then((l.findIdx p:Nat):Int)else -1
theorem Sf {α:Type}{p:α→Bool}{l:List α}{k:Nat}(d:α)(h:∀j,j<k→p (l.getD j d)=false)(hk:k<l.length)(hp:p (l.getD k d)=true):((k:Nat):Int)=Se p l:=by
  have e:∀j,(hj:j<l.length)→l.getD j d=l[j]:=fun j hj=>by simp[hj]
  have h1:l.any p=true:=List.any_eq_true.2 ⟨l[k],List.getElem_mem hk,by rw[← e k hk];exact hp⟩;have h2:l.findIdx p=k:=by
    rw[List.findIdx_eq hk];refine⟨by rw[← e k hk];exact hp,fun j hj=>?_⟩;have:=h j hj;rw[e j (by omega)]at this;exact this
  unfold Se;rw[if_pos h1,h2]
theorem Xn {α:Type}{p:α→Bool}{l:List α}{k:Nat}(d:α)(h:∀j,j<k→p (l.getD j d)=false)(hk:l.length≤k):(-1:Int)=Se p l:=by
  have h1:l.any p=false:=by
    rw[List.any_eq_false]
    intro x hx;obtain⟨j,hj,rfl⟩:=List.getElem_of_mem hx;have:=h j zO;have e:l.getD j d=l[j]:=by simp[hj]
    rw[e]at this;simp[this]
  unfold Se;rw[h1];rfl
theorem Xo {α:Type}(p:α→Bool)(l:List α):decide (((0:Nat):Int)≤Se p l)=l.any p:=by unfold Se;split;rename_i h;rw[h];exact A5 zO;rename_i h;rw[Bool.not_eq_true]at h;rw[h];exact A6 zO
theorem PC {α:Type}{p:α→Bool}{l:List α}{k:Nat}{d:α}(h:∀j,j<k→p (l.getD j d)=false)(hp:p (l.getD k d)=false):∀j,j<k+1→p (l.getD j d)=false:=by intro j hj;by_cases e:j=k;subst e;exact hp;exact h j zO
theorem Ek (w:World) (va:Value) (a:Sr) (q:Nat) (qf qc:List Value) (p:Int→Bool) (ha:Rd (B9 rI) w.heap va a) (hcf_q:((Tryz.prog.funcs[q]?).map fun fn=>(fn.name != "runtime.NumGoroutine") && fn.body.isSome) = some true) (hp:∀ (x:Int),Bl x→∀ w1,AA w w1→Calls Tryz.prog q (qf++[Value.int .i64 x]++qc).toArray w1 (fun e w2=>e = .returned (.bool (p x))∧AA w1 w2))  :
  Calls Tryz.prog 170 #[va,.func (.func q) qf.toArray qc.toArray] w (fun e w'=>e = .returned (zI (Se p a))∧AA w w'):=by
 refine Aq [va,.func (.func q) qf.toArray qc.toArray] 19 Tryz.func170 Y Y sM ?_;have a3:AA w w:=AA.refl w;have aa:=ha.lenle;refine nA Y<|A0<|mZ [0,0,0] Y<|Ad 1 Y<|AP (v:=va) Bf Y ha.isSl Aa<|Ac 1 Y<|A3 ?_;refine AR (S:=Nat) (fun k=>([(8,zI ((k :Nat):Int)),(0,va),(1,.func (.func q) qf.toArray qc.toArray),(7,zI ((a.length :Nat):Int))])) (fun k W=>AA w W∧k≤a.length∧(∀ j,j < k→p (a.getD j 0) = false)) (fun k=>a.length - k) 0 ⟨rfl,rfl,rfl,rfl,trivial⟩ ⟨a3,sD,(by intro j hj; omega)⟩ ?_;clear a3;rintro k ρ1 w1 ⟨a1,a4,hq⟩;have a7:w.heap.size≤w1.heap.size:=a1.size;refine mZ [0] Y ?_;by_cases a5:((k :Nat):Int) < ((a.length :Nat):Int);refine Az true Y Y (A5 a5) Aa<|Ah<|A0<|Af Y<|A2<|A0<|A3<|mZ [0,0] Y<|Ac 2 Y<|mZ [0,0,0,0,2,3] Y<|Ad 3 Y<|At (v:=va) k Bf Bw Y Y ha.isSl Y sD Aa ?_;refine Ae (p:=Ay va k 1) (.inr Y) (zI<|a.getD k 0) Aw Y (Bm a1 (ha.getI sD).1) Aa ?_;have a0:=hp (a.getD k 0) (ha.getI sD).2 _ a1;refine Am q qf qc _ Y Y hcf_q Aa a0 ?_;rintro e3 w3 ⟨rfl,a2⟩;refine ⟨_,rfl,a2,?_⟩;have a8:=a2.size;have a6:=a1.trans a2;cases a9:p (a.getD k 0);refine Ah<|Ag Y<|A2<|Ab _ [0,0] Y<|AL ((k + 1 :Nat):Int) Y Y (Bb oM sD) Aa<|Ac 1 Y ?_;exact ⟨k + 1,_,rfl,zR,⟨a6,sD,(by exact PC hq zV)⟩,by first | omega | (dsimp only; omega)⟩;exact Ah<|Af Y<|mZ [0,0] Y<|Ac 2 Y<|A1<|AH<|Ao<|Ao<|AH<|Ao<|Ai [4] Y (zI ((k :Nat):Int)) Y ⟨AS<|Sf 0 hq oM zV,a6⟩;exact Az false Y Y (A6 a5) Aa<|Ah<|A0<|Ag Y<|A4<|Ax<|Ax<|As<|nA Y<|A1<|Ai [4] Y (zI (-1)) Y ⟨AS<|Xn 0 hq oM,a1⟩
theorem CC (w:World) (va:Value) (a:Sr) (q:Nat) (qf qc:List Value) (p:Int→Bool) (ha:Rd (B9 rI) w.heap va a) (hcf_q:((Tryz.prog.funcs[q]?).map fun fn=>(fn.name != "runtime.NumGoroutine") && fn.body.isSome) = some true) (hp:∀ (x:Int),Bl x→∀ w1,AA w w1→Calls Tryz.prog q (qf++[Value.int .i64 x]++qc).toArray w1 (fun e w2=>e = .returned (.bool (p x))∧AA w1 w2))  :
  Calls Tryz.prog 114 #[va,.func (.func q) qf.toArray qc.toArray] w (fun e w'=>e = .returned (.bool (a.any p))∧AA w w'):=by
 refine Aq [va,.func (.func q) qf.toArray qc.toArray] 9 Tryz.func114 Y Y sM ?_;have a0:AA w w:=AA.refl w;have a4:=ha.lenle;refine nA Y<|mZ [0,0,3,0,0] Y<|Ad 2 Y<|Am 170 [] [] [va,.func (.func q) qf.toArray qc.toArray] Y Y gY Aa (Ek _ _ _ q qf qc p (ha.ext g1 a0) hcf_q fun x hx w1 hw=>hp x hx w1<|a0.trans hw) ?_;rintro e1 w1 ⟨rfl,a1⟩;refine ⟨_,rfl,a1,?_⟩;have a2:=a1.size;have a3:=a0.trans a1;exact CH (decide (((0 :Nat):Int)≤Se p a)) Y Y Y Aa<|Ac 1 Y<|A1<|Ai [4] Y (.bool<|decide (((0 :Nat):Int)≤Se p a)) Y ⟨AM<|Xo p a,a3⟩
theorem BB (w:World)(va:Value)(a:Sr)(ha:Rd (B9 rI) w.heap va a)(hla:a.length≤1000000000000) :
  Calls Tryz.prog 94 #[va] w (fun e w'=>∃v0:Value,e=.returned (v0)∧AA w w'∧Fr (Bq rI 2) w.heap.size w'.heap.size w'.heap v0 a):=by
 refine Aq [va] 8 Tryz.func94 Y Y sM ?_;have a1:AA w w:=AA.refl w;have ac:=ha.lenle;refine nA Y<|A0<|mZ [0,0] Y<|Ad 1 Y ?_;cases a2:Rx va;refine Uv (v:=va) false Bf Y Y ha.isSl a2 Aa<|Ah<|Ag Y<|A2<|mZ [3,0,4,0] Y (C3 (rI) AI Bf Bw Aa fun v2 w2 a3 ab a5=>?_);have a6:=a3.size;have a0:=a1.trans a3;refine Ad 1 Y (DI (v:=v2) (a:=va) Bf Bw Y Y Y a5 a0.size (ha.ext g1 a0) sD (by unfold maxLen;first|omega|assumption|(simp;done)|(simp;omega)) Aa fun v3 w3 F3 a4 a7 a8=>?_);have a9:AA w w3:=a4.below a0 (fun c hc=>A8 (A7 _) (a7 c hc).1) a0.size;have aa:=a4.size;exact Ac 1 Y<|A1<|Ai [2] Y v3 Y ⟨v3,rfl,a9,a8.up o1⟩;refine Uv (v:=va) true Bf Y Y ha.isSl a2 Aa<|Ah<|Af Y<|nA Y<|A1<|Ao ?_;have hnil:a=[]:=ha.nil_of zV;subst hnil;exact Ai [2] Y zN Y ⟨zN,rfl,a1,Qb _ _ _⟩
theorem DC (w:World)(va:Value)(a:Sr)(count:Int)(ha:Rd (B9 rI) w.heap va a)(_hcount:Bl count)  :
  Calls Tryz.prog 53 #[va,zI count] w (fun e w'=>e=.returned (.bool (decide ((a.length:Int)=count) && Bi a))∧AA w w'):=by
 refine Aq [va,zI count] 14 Tryz.func53 Y Y sM ?_;have a0:AA w w:=AA.refl w;have a5:=ha.lenle;refine nA Y<|mZ [0,0,0,0,0,0,3,0,0,0] Y<|Ad 1 Y<|AP (v:=va) Bf Y ha.isSl Aa<|Ad 1 Y ?_;by_cases a2:(a.length:Int)=count;refine Ap true Y Y (A5 a2) Aa<|Ad 2 Y<|Am 114 [] [] [va,.func (.func 115) #[] #[]] Y Y ZK (nE 9) (CC _ _ _ 115 [] [] (fun x=>!J2 x) (ha.ext g1 a0) fT fun x hx w1 hw=>J5 w1 x hx) ?_;rintro e2 w2 ⟨rfl,a1⟩;refine⟨_,rfl,a1,?_⟩;have a3:=a1.size;have a4:=a0.trans a1;exact Bc (!(a.any fun x=>!J2 x)) Y Y (nE 9)<|Ac 2 Y<|A1<|Ai [4] Y (.bool (!(a.any fun x=>!J2 x))) Y ⟨AM (by first|(rw[SJ];simp[*];done)|simp[*]),a4⟩;exact Ap false Y Y (A6 a2) Aa<|Ac 6 Y<|A1<|Ai [4] Y (.bool false) Y ⟨AM (by first|(rw[SJ];simp[*];done)|simp[*]),a0⟩
theorem D0 (w:World)(va:Value)(a:Sr)(ha:Rd (B9 rI) w.heap va a)  :
  Calls Tryz.prog 112 #[va] w (fun e w'=>e=.returned (.bool (Bi a))∧AA w w'):=by
 refine Aq [va] 16 Tryz.func112 Y Y sM ?_;have a1:AA w w:=AA.refl w;have a6:=ha.lenle;refine nA Y<|A0<|nA Y<|A3<|AR (S:=Nat) (fun k=>([(3,zI (k:Int)),(0,va)])) (fun k W=>AA w W∧k≤a.length∧((a.take k).all J2=true)) (fun k=>a.length-k) 0 ⟨rfl,rfl,trivial⟩ ⟨a1,sD,(by exact V6 _ _)⟩ ?_;clear a1;rintro k ρ1 w1 ⟨a0,a2,hq⟩;have a5:w.heap.size≤w1.heap.size:=a0.size;refine A0<|mZ [0,0,0,0] Y<|Ad 2 Y<|AP (v:=va) Bf Y ha.isSl Aa ?_;by_cases a3:(k:Int)<(a.length:Int);refine Az true Y Y (A5 a3) Aa<|Ah<|Af Y<|A2<|A0<|A3<|mZ [0,0,0,2,0,0] Y<|Ad 2 Y<|At (v:=va) k Bf Bw Y Y ha.isSl Y sD Aa ?_;refine Ae (p:=Ay va k 1) (.inr Y) (zI<|a.getD k 0) Aw Y (Bm a0 (ha.getI sD).1) Aa ?_;refine AD 168 [] [] [zI<|a.getD k 0] Y Y X6 Aa (.bool<|J2<|a.getD k 0) (fun wq=>EQ wq _ (ha.getI sD).2)<|Bc (!(J2<|a.getD k 0)) Y Y Aa<|Ah ?_;cases a4:(!(J2 (a.getD k 0)));refine Ag (by first|rfl|exact zW a4)<|A2<|Ab _ [0,0,0] Y<|Ad 1 Y<|AL ((k+1:Nat):Int) Y Y (Bb oM sD) Aa<|Ac 1 Y ?_;exact⟨k+1,_,rfl,⟨rfl,rfl,trivial⟩,⟨a0,sD,(by exact Qu 0 hq oM (by simpa using ‹(!J2 (a.getD k 0))=false›))⟩,zD⟩;exact Af (by first|rfl|exact zW a4)<|nA Y<|A1<|AH<|Ao<|Ao<|AH<|Ao<|Ai [2] Y (.bool false) Y ⟨AM (Qv (k:=k) 0 oM (by simpa using ‹(!J2 (a.getD k 0))=true›)).symm,a0⟩;exact Az false Y Y (A6 a3) Aa<|Ah<|Ag Y<|A4<|Ax<|Ax<|As<|nA Y<|A1<|Ai [2] Y (.bool true) Y ⟨AM (Qw hq oM).symm,a0⟩
theorem C4 (w:World)(va:Value)(a:Sr)(ha:Rd (B9 rI) w.heap va a)(hla:a.length≤1000000000000) :
  Calls Tryz.prog 142 #[va] w (fun e w'=>∃v0:Value,e=.returned (v0)∧AA w w'∧Fr (Bq rI 2) w.heap.size w'.heap.size w'.heap v0 a):=by
 refine Aq [va] 6 Tryz.func142 Y Y sM ?_;have a3:AA w w:=AA.refl w;have ab:=ha.lenle;refine nA Y<|mZ [3,0,4,0] Y (C3 (rI) AI Bf Bw Aa fun v1 w1 a1 aa a4=>?_);have a5:=a1.size;have a0:=a3.trans a1;refine Ad 1 Y (DI (v:=v1) (a:=va) Bf Bw Y Y Y a4 a0.size (ha.ext g1 a0) sD (by unfold maxLen;first|omega|assumption|(simp;done)|(simp;omega)) Aa fun v2 w2 F2 a2 a6 a7=>?_);have a8:AA w w2:=a2.below a0 (fun c hc=>A8 (A7 _) (a6 c hc).1) a0.size;have a9:=a2.size;exact Ac 1 Y<|A1<|Ai [2] Y v2 Y ⟨v2,rfl,a8,a7.up o1⟩
theorem Dq (w:World)(va:Value)(a:Sr)(vb:Value)(b:Sr)(ha:Rd (B9 rI) w.heap va a)(hb:Rd (B9 rI) w.heap vb b)  :
  Calls Tryz.prog 30 #[va,vb] w (fun e w'=>e=.returned (.bool (decide (a=b)))∧AA w w'):=by
 refine Aq [va,vb] 26 Tryz.func30 Y Y sM ?_;have a1:AA w w:=AA.refl w;have a7:=ha.lenle;have a8:=hb.lenle;refine nA Y<|A0<|mZ [0,0,0,0,0] Y<|Ad 1 Y<|AP (v:=va) Bf Y ha.isSl Aa<|Ad 1 Y<|AP (v:=vb) Bf Y hb.isSl Aa ?_;by_cases a2:(a.length:Int)≠(b.length:Int);exact AT true Y Y (A5 a2) Aa<|Ah<|Af Y<|nA Y<|A1<|Ao<|Ai [4] Y (.bool false) Y ⟨AM (A6<|Yj oM).symm,a1⟩;refine AT false Y Y (A6 a2) Aa<|Ah<|Ag Y<|A2<|A0<|nA Y<|A3<|AR (S:=Nat) (fun k=>([(5,zI (k:Int)),(0,va),(1,vb)])) (fun k W=>AA w W∧k≤a.length∧(∀j,j<k→a.getD j 0=b.getD j 0)) (fun k=>a.length-k) 0 ⟨rfl,rfl,rfl,trivial⟩ ⟨a1,sD,(by intro j hj;omega)⟩ ?_;clear a1;rintro k ρ2 w2 ⟨a0,a3,hq⟩;have a6:w.heap.size≤w2.heap.size:=a0.size;refine A0<|mZ [0,0,0,0] Y<|Ad 2 Y<|AP (v:=va) Bf Y ha.isSl Aa ?_;by_cases a4:(k:Int)<(a.length:Int);refine Az true Y Y (A5 a4) Aa<|Ah<|Af Y<|A2<|A0<|A3<|A0<|AO _ [0,0,0,1,0,0,0,1,0] mixed zK<|Ad 2 Y<|At (v:=va) k Bf Bw Y Y ha.isSl Y sD Aa ?_;refine Ae (p:=Ay va k 1) (.inl Y) (zI<|a.getD k 0) Aw Y (Bm a0.drew (ha.getI sD).1) Aa<|Ad 2 Y ?_;refine At (v:=vb) k Bf Bw Y Y hb.isSl Y sD Aa ?_;refine Ae (p:=Ay vb k 1) (.inl Y) (zI<|b.getD k 0) Aw Y (Bm a0.drew (hb.getI sD).1) Aa ?_;by_cases a5:a.getD k 0≠b.getD k 0;exact AT true Y Y (A5 a5) Aa<|Ah<|Af Y<|nA Y<|A1<|AH<|Ao<|Ao<|AH<|Ao<|Ai [4] Y (.bool false) Y ⟨AM (A6<|V8 (d:=0) (k:=k) oM).symm,a0.drew⟩;refine AT false Y Y (A6 a5) Aa<|Ah<|Ag Y<|A2<|Ab _ [0,0,0] Y<|Ad 1 Y<|AL ((k+1:Nat):Int) Y Y (Bb oM sD) Aa<|Ac 1 Y ?_;exact⟨k+1,_,rfl,zR,⟨a0.drew,sD,(by exact V7 hq oM)⟩,zD⟩;exact Az false Y Y (A6 a4) Aa<|Ah<|Ag Y<|A4<|Ax<|Ax<|As<|nA Y<|A1<|Ai [4] Y (.bool true) Y ⟨AM (A5<|Mw hq oM oM).symm,a0⟩
theorem Ci (w:World)(va:Value)(a:Sr)(ha:Rd (B9 rI) w.heap va a)(hla:a.length≤1000000000000) :
  Calls Tryz.prog 27 #[va] w (fun e w'=>∃v0:Value,e=.returned (v0)∧AA w w'∧Fr (Bq rI 2) w.heap.size w'.heap.size w'.heap v0 a):=by
 refine Aq [va] 22 Tryz.func27 Y Y sM ?_;have a4:AA w w:=AA.refl w;have ah:=ha.lenle;refine nA Y<|mZ [0,0,3,0] Y<|Ad 1 Y<|AP (v:=va) Bf Y ha.isSl Aa (EK (n:=a.length) Bf Bw Y Y Y sD Aa fun v1 w1 a2 aa a5=>?_);have a3:=a2.size;have a6:=a4.trans a2;refine Ac 1 Y<|A0<|nA Y<|A3<|AR (S:=Nat) (fun k=>([(4,zI (k:Int)),(0,va),(3,v1)])) (fun k W=>AA w W∧Fr (Bq rI 2) w.heap.size W.heap.size W.heap v1 (Ho k a<|List.replicate a.length 0)∧k≤a.length) (fun k=>a.length-k) 0 ⟨rfl,rfl,rfl,trivial⟩ ⟨a6,(by rw[G4];exact a5.up o1),sD⟩ ?_;clear a4 a5 aa a2 a3 a6;rintro k ρ2 w2 ⟨a1,a0,a7⟩;have ab:w.heap.size≤w2.heap.size:=a1.size;have hml:=Hp k a (List.replicate a.length 0) sM;rw[z5]at hml;refine A0<|mZ [0,0,0,0] Y<|Ad 2 Y<|AP (v:=va) Bf Y ha.isSl Aa ?_;by_cases a8:(k:Int)<(a.length:Int);refine Az true Y Y (A5 a8) Aa<|Ah<|Af Y<|A2<|A0<|A3<|Ab _ [0,0,0,0,0,2,0,4] Y<|Ad 4 Y<|At (v:=va) k Bf Bw Y Y ha.isSl Y sD Aa ?_;refine Ae (p:=Ay va k 1) (.inr Y) (zI<|a.getD k 0) Aw Y (Bm a1 (ha.getI sD).1) Aa ?_;refine At (v:=v1) k Bf Bw Y Y a0.isSl Y sD Aa ?_;refine Hl (v:=v1) (w:=w2) EI Y Y (ha.getI sD).2 a0 sD Aa fun w4 F4 a9 ag ac ad=>?_;have ae:AA w w4:=a9.below a1 (fun c hc=>A8 (A7 _) (ac c hc).1) a1.size;have af:=a9.size;refine Ah<|Ab _ [0,0,0] Y<|Ad 1 Y<|AL ((k+1:Nat):Int) Y Y (Bb oM sD) Aa<|Ac 1 Y ?_;exact⟨k+1,_,rfl,zR,⟨ae,(by rw[← P8 0 sM (by simp;omega)];exact ad.up o1),sD⟩,zD⟩;exact Az false Y Y (A6 a8) Aa<|Ah<|Ag Y<|A4<|Ax<|Ax<|As<|mZ [0,0] Y<|Ac 2 Y<|A1<|Ai [2] Y v1 Y ⟨v1,rfl,a1,(by have h:=a0.up o1;rwa [IP sM (by simp;omega)]at h)⟩
theorem EA (w:World)(va:Value)(a:Sr)(Fa:List Nat)(k:Int)(ha:Bq rI 2 w.heap va a Fa)(hna:Fa.Nodup)(_hk:Bl k)(hk:0≤k∧k+(a.length:Int)≤4611686018427387904) :
  Calls Tryz.prog 35 #[va,zI k] w (fun e w'=>e=.returned (zI (k+(a.length:Int)))∧AB Fa w w'∧Bq rI 2 w'.heap va (up a.length k) Fa):=by
 refine Aq [va,zI k] 19 Tryz.func35 Y Y sM ?_;have a2:AB Fa w w:=AB.refl Fa w;have aa:=ha.lenle;unfold maxLen at aa;refine nA Y<|A0<|nA Y<|A3 ?_;refine AR (S:=Nat×Int) (fun⟨j,l⟩=>([(1,zI l),(5,zI (j:Int)),(0,va)])) (fun⟨j,l⟩ W=>AB Fa w W∧Bq rI 2 W.heap va (Ho j (up a.length k) a) Fa∧j≤a.length∧l=k+(j:Int)) (fun⟨j,l⟩=>a.length-j) (0,k) ⟨rfl,rfl,rfl,trivial⟩ ⟨a2,(by first|(rw[G4];exact ha)|(have h:=ha;rw[hl]at h;unfold up;rw[Kf Y oM];exact h)),sD,oM⟩ ?_;clear a2;rintro⟨j,l⟩ ρ1 w1 ⟨a1,a0,a3,hl⟩;have a6:w.heap.size≤w1.heap.size:=a1.size;have hml:=Hp j (up a.length k) a<|I7 _ _;refine A0<|mZ [0,0,0,0] Y<|Ad 2 Y<|AP (v:=va) Bf Y (a0.rd id).isSl Aa ?_;by_cases a4:(j:Int)<(((Ho j (up a.length k) a).length:Nat):Int);refine Az true Y Y (A5 a4) Aa<|Ah<|Af Y<|A2<|A0<|A3<|mZ [0,0,0,0,4] Y<|Ad 3 Y<|At (v:=va) j Bf Bw Y Y (a0.rd id).isSl Y sD Aa ?_;refine OW (v:=va) (w:=w1) EI Y Y oM a0 hna sD Aa fun w3 a7 a9 a5=>?_;have a8:AB Fa w w3:=a1.trans a7;refine Ah<|Ab _ [0,0,0] Y<|Ad 1 Y<|AL (l+(1:Nat)) Y Y (Cy sD sD) Aa<|Ac 1 Y ?_;refine Ab _ [0,0,0] Y<|Ad 1 Y<|AL ((j+1:Nat):Int) Y Y (Bb oM sD) Aa<|Ac 1 Y ?_;exact⟨(j+1,l+(1:Nat)),_,rfl,zR,⟨a8,(by first|(rw[G4];exact a5)|(have h:=a5;rw[hl]at h;unfold up;rw[Kf Y oM];exact h)),sD,oM⟩,zD⟩;exact Az false Y Y (A6 a4) Aa<|Ah<|Ag Y<|A4<|Ax<|Ax<|As<|mZ [0,0] Y<|Ac 2 Y<|A1<|Ai [4] Y (zI l) Y ⟨AS (by rw[hl,show j=a.length from by omega]),a1,(by have h:=a0;rwa [IP (I7 _ _) oM]at h)⟩
theorem Gz (w:World)(va:Value)(a:Sr)(k:Int)(ha:Rd (B9 rI) w.heap va a)(_hk:Bl k)(hk:0≤k∧k+(a.length:Int)≤4611686018427387904)(heq:∀i,i<a.length→a.getD i 0=k+(i:Int)) :
  Calls Tryz.prog 37 #[va,zI k] w (fun e w'=>e=.returned (zI (k+(a.length:Int)))∧AA w w'):=by
 refine Aq [va,zI k] 21 Tryz.func37 Y Y sM ?_;have a1:AA w w:=AA.refl w;have a6:=ha.lenle;refine nA Y<|A0<|nA Y<|A3<|AR (S:=Nat×Int) (fun⟨j,l⟩=>([(1,zI l),(5,zI (j:Int)),(0,va)])) (fun⟨j,l⟩ W=>AA w W∧j≤a.length∧l=k+(j:Int)) (fun⟨j,l⟩=>a.length-j) (0,k) ⟨rfl,rfl,rfl,trivial⟩ ⟨a1,sD,oM⟩ ?_;clear a1;rintro⟨j,l⟩ ρ1 w1 ⟨a0,a2,hl⟩;have a5:w.heap.size≤w1.heap.size:=a0.size;refine A0<|mZ [0,0,0,0] Y<|Ad 2 Y<|AP (v:=va) Bf Y ha.isSl Aa ?_;by_cases a3:(j:Int)<(a.length:Int);refine Az true Y Y (A5 a3) Aa<|Ah<|Af Y<|A2<|A0<|A3<|A0<|mZ [0,0,0,2,0,0] Y<|Ad 2 Y<|At (v:=va) j Bf Bw Y Y ha.isSl Y sD Aa ?_;refine Ae (p:=Ay va j 1) (.inr Y) (zI<|a.getD j 0) Aw Y (Bm a0 (ha.getI sD).1) Aa<|Ad 1 Y ?_;by_cases a4:a.getD j 0≠l;exact absurd (by rw[heq j oM];omega) a4;refine AT false Y Y (A6 a4) Aa<|Ah<|Ag Y<|A2<|Ab _ [0,0,0] Y<|Ad 1 Y ?_;refine AL (l+(1:Nat)) Y Y (Cy sD sD) Aa<|Ac 1 Y<|Ab _ [0,0,0] Y<|Ad 1 Y ?_;refine AL ((j+1:Nat):Int) Y Y (Bb oM sD) Aa<|Ac 1 Y ?_;exact⟨(j+1,l+(1:Nat)),_,rfl,zR,⟨a0,sD,oM⟩,zD⟩;exact Az false Y Y (A6 a3) Aa<|Ah<|Ag Y<|A4<|Ax<|Ax<|As<|mZ [0,0] Y<|Ac 2 Y<|A1<|Ai [4] Y (zI l) Y ⟨AS (by rw[hl,show j=a.length from by omega]),a0⟩
theorem FG (w:World)(va:Value)(a:Sr)(y:Int)(ha:Rd (B9 rI) w.heap va a)(_hy:Bl y)(hla:a.length≤1000000000000) :
  Calls Tryz.prog 207 #[va,zI y] w (fun e w'=>∃v0:Value,e=.returned (v0)∧AA w w'∧Fr (Bq rI 2) w.heap.size w'.heap.size w'.heap v0 (cM a y)):=by
 refine Aq [va,zI y] 24 Tryz.func207 Y Y sM ?_;have a7:AA w w:=AA.refl w;have am:=ha.lenle;refine nA Y<|mZ [3,0] Y (C3 (rI) AI Bf Bw Aa fun v1 w1 a3 ad a8=>?_);have a4:=a3.size;have a9:=a7.trans a3;refine Ac 1 Y<|A0<|nA Y<|A3 ?_;refine AR (S:=Nat×Value) (fun⟨k,vo⟩=>([(5,vo),(6,zI (k:Int)),(0,va),(1,zI y)])) (fun⟨k,vo⟩ W=>AA w W∧Fr (Bq rI 2) w.heap.size W.heap.size W.heap vo ((a.take k).map fun x=>md (x*y))∧k≤a.length) (fun⟨k,vo⟩=>a.length-k) (0,v1) ⟨rfl,rfl,rfl,rfl,trivial⟩ ⟨a9,a8.up o1,sD⟩ ?_;clear a7 a8 ad a3 a4 a9;rintro⟨k,vo⟩ ρ2 w2 ⟨a2,a1,aa⟩;have ae:w.heap.size≤w2.heap.size:=a2.size;refine A0<|mZ [0,0,0,0] Y<|Ad 2 Y<|AP (v:=va) Bf Y ha.isSl Aa ?_;by_cases ab:(k:Int)<(a.length:Int);refine Az true Y Y (A5 ab) Aa<|Ah<|Af Y<|A2<|A0<|A3<|Ab _ [0,0,0,0,2,0,0,3,4,0] Y<|Ad 3 Y<|At (v:=va) k Bf Bw Y Y ha.isSl Y sD Aa ?_;refine Ae (p:=Ay va k 1) (.inr Y) (zI<|a.getD k 0) Aw Y (Bm a2 (ha.getI sD).1) Aa<|Ad 1 Y ?_;refine AD 69 [] [] [zI<|a.getD k 0,zI y] Y Y Ps Aa (zI<|md ((a.getD k 0)*y)) (fun wq=>CG wq _ _ (ha.getI sD).2 _hy) (BD (u:=zI<|md ((a.getD k 0)*y)) (B:=w2.heap.size) AI Bf Bw Y Y (K2 w2.heap.size w2.heap.size _ _<|EN _) (A7 _) Aa fun v5 w5 a5 al af=>?_);have ag:=a5.size;have a6:=a2.trans a5;have a0:=a1.ext (o1) a5;refine DI (v:=vo) (a:=v5) Bf Bw Y Y Y a0 a6.size af.rd1 sD (by unfold maxLen;first|omega|assumption|(simp;done)|(simp;omega)) Aa fun v6 w6 F6 ac ah ai=>?_;have aj:AA w w6:=ac.below a6 (fun c hc=>A8 (A7 _) (ah c hc).1) a6.size;have ak:=ac.size;refine Ac 1 Y<|Ab _ [0,0,0] Y<|Ad 1 Y<|AL ((k+1:Nat):Int) Y Y (Bb oM sD) Aa<|Ac 1 Y ?_;exact⟨(k+1,v6),_,rfl,zR,⟨aj,(by rw[I6 0 oM];exact ai.up o1),sD⟩,zD⟩;exact Az false Y Y (A6 ab) Aa<|Ah<|Ag Y<|A4<|Ax<|Ax<|As<|mZ [0,0] Y<|Ac 2 Y<|A1<|Ai [4] Y vo Y ⟨vo,rfl,a2,(by have h:=a1.up o1;rwa [za oM]at h)⟩
end
end Go.Proofs.YtemfgblmfahllaaGreat
