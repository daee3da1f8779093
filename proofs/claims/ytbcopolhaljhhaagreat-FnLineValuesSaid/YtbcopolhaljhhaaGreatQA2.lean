/- FwU, FwV, Ne, Nf, Ng, Nh, Ln, FwW, FwX, FwY, Gc, Gd, Ge, Gu, Gv, Ni, Nk, Nl, Gf, Gg, Gh, Gl, Gm, Gp, Gs, Hf, Lo, Lp, Lr, Id, Iv, Lq, Lt, Lu, Ic, If, Lv, Km, Lw, Ld, T, Sa, Sb, Sf, Sk, Sv, Sw: texts of this claim, joined; what the claim does not come to is left out. -/
import Derived.Test.YtbcopolhaljhhaaGreatQA1
import Derived.Test.YtbcopolhaljhhaaGreatProg
set_option linter.unusedVariables false
set_option linter.unusedSimpArgs false
namespace Go.Proofs.YtbcopolhaljhhaaGreat
open Go Go.RowKit
section
def RT {α:Type}(T:Nat)(E:Bx α)(H:Array Obj)(v:Value)(x:α):Prop:=∃F,E H v x F∧∀b∈F,b<T
section rt
variable {α:Type} {E:Bx α} {T:Nat} {w w':World} {v:Value} {x:α} {xs:List α} {F S:List Nat}
theorem RN.rt (hE:Cb E)(h:RN S E w.heap v x):RT w.heap.size E w.heap v x:=by obtain⟨F,h,_⟩:=h;exact⟨F,h,hE.lt h⟩
theorem RT.ext (hE:Cb E)(h:RT T E w.heap v x)(k:AK w w'):RT T E w'.heap v x:=by obtain⟨F,h,hb⟩:=h;exact⟨F,hE.stable h fun b hm=>k.heap (hE.lt h b hm),hb⟩
theorem RT.chg (hE:Cb E)(h:RT T E w.heap v x)(c:Ax F w w')(hF:∀b∈F,T≤b):RT T E w'.heap v x:=by obtain⟨G,h,hb⟩:=h;exact⟨G,hE.stable h fun b hm=>c.block b (hE.lt h b hm) fun hf=>by have:=hF b hf;have:=hb b hm;omega,hb⟩
theorem RT.rd {H:Array Obj}(h:RT T E H v x):Rd E H v x:=by obtain⟨F,h,_⟩:=h;exact⟨F,h⟩
theorem RT.rn {H:Array Obj}(h:RT T E H v x):RN [] E H v x:=by obtain⟨F,h,_⟩:=h;exact⟨F,h,fun b _ hm=>by cases hm⟩
theorem RT.slL {H:Array Obj}(h:RT T (Bg E) H v xs):Go.Proofs.YtbcopolhaljhhaaGreat.Ea v xs.length:=h.rn.slL
theorem RT.lenL {H:Array Obj}(h:RT T (Bg E) H v xs):xs.length≤maxLen:=h.rn.lenL
theorem RT.getL {H:Array Obj}(hE:Cb E)(d:α){k:Nat}(h:RT T (Bg E) H v xs)(hk:k<xs.length):∃u,JQ H (AD v k 1)=some u∧RT T E H u (xs.getD k d):=by obtain⟨F,h,hb⟩:=h;obtain⟨u,F1,h1,h2,h3⟩:=Bg.get2 d h hk;exact⟨u,h1 _ fun _ _=>rfl,F1,h2,fun b hm=>hb b (h3 b hm)⟩
theorem RT.getI {H:Array Obj}{xs:List Int}{k:Nat}(h:RT T (Bg rI) H v xs)(hk:k<xs.length):JQ H (AD v k 1)=some (.int .i64 (xs.getD k 0))∧-9223372036854775808≤xs.getD k 0∧xs.getD k 0≤9223372036854775807:=h.rd.getI hk
end rt
section ops
variable {P:Program} {ops:Array Oper} {w0:World} {Q:Act→World→Prop} {os:List Oper} {ks:List Nat} {N:Nat} {ρ:Nat→Value} {w:World}
 {d:Nat} {ty:TypeId} {pos:String} {aft:Array Edge} {g:Option (Nat×Bool)} {t e:TypeId}
theorem AI {x:Operand}{p:Value}(hp:∃g o,p=.pointer (some ⟨g,o,none⟩))(hx:Bs N ρ x=p)(hu:Up ops N ρ ⟨some d,.nilCheck x,ty,pos,aft,g⟩)
  (h:LW P ops w0 Q os ks (mk N (Cs ρ d p)) w):LW P ops w0 Q (⟨some d,.nilCheck x,ty,pos,aft,g⟩::os) (0::ks) (mk N ρ) w:=by
 obtain⟨b,o,rfl⟩:=hp;exact Cv (by decide) rfl hu _ (fun w' _=>by simp[execOp,hx]) h
theorem LM (a:Addr):a.add 0=a:=by obtain⟨b,o,s⟩:=a;unfold Addr.add;simp
theorem X4 {x y z:Operand}{v u:Value}{n s b:Nat}(ht:P.underlying t=some (.slice e))(hi:TI P e s u b)(hx:Bs N ρ x=v)(hs:Ea v n)(hy:Bs N ρ y=.int .i64 (n:Int))(hz:Bs N ρ z=.int .i64 (n:Int))(hc:E6 v)
  (hu:Up ops N ρ ⟨some d,.slice t x none (some y) (some z),ty,pos,aft,g⟩)
  (h:LW P ops w0 Q os ks (mk N (Cs ρ d (FX v))) w):LW P ops w0 Q (⟨some d,.slice t x none (some y) (some z),ty,pos,aft,g⟩::os) (0::ks) (mk N ρ) w:=by
 obtain⟨a,cap,rfl,_⟩:=hs;obtain⟨inf,h1,_,h3,_⟩:=hi.get;refine Cv (by decide) rfl hu _ (fun w' _=>?_) h;have hl':n≤cap:=hc;have hmap:∀a:Option Addr,a.map (·.add 0)=a:=fun a=>by cases a <;> simp[LM]
 simp[execOp,hx,hy,hz,Instr.sliceAt,Instr.slice,Instr.sliceBounds,Instr.sliceBound,asIntOf,run_underlying ht,sizeOf,typeInfo,h1,h3,FX,hl',hmap]
end ops
end
section
def I0 (a b:ByteArray):Bool:=a.toList == b.toList
section ops
variable {P:Program} {ops:Array Oper} {w0:World} {Q:Act→World→Prop} {os:List Oper} {ks:List Nat} {N:Nat} {ρ:Nat→Value} {w:World}
 {d:Nat} {ty:TypeId} {pos:String} {aft:Array Edge} {g:Option (Nat×Bool)} {t e:TypeId}
theorem Od {xt yt:TypeId}{x y:Operand}{a b:ByteArray}(c:Bool)(ht:P.underlying xt=some .string)(hx:Bs N ρ x=.string a)(hy:Bs N ρ y=.string b)(hc:I0 a b=c)(hu:Up ops N ρ ⟨some d,.binOp .eql xt x y yt,ty,pos,aft,g⟩)
  (h:LW P ops w0 Q os ks (mk N (Cs ρ d (.bool c))) w):LW P ops w0 Q (⟨some d,.binOp .eql xt x y yt,ty,pos,aft,g⟩::os) (0::ks) (mk N ρ) w :=
 Cv (by decide) rfl hu _ (fun w' _=>by
  have he:(eqGuard .eql xt x y (.string a) (.string b)).run P w'=.ok () w':=rfl
  have hr:(binOp .eql xt (.string a) (.string b)).run P w'=.ok (.bool (I0 a b)) w':=by simp[binOp,Op.stringOp,I0]
  simp only[execOp,hx,hy,Sem.run_bind,he,Result.andThen_ok,hr,hc,Sem.run_pure]) h
def IK:Value→Nat→Value
 |.slice a _ c,k=>.slice a k c
 |v,_=>v
theorem RN.pref {α:Type}{S:List Nat}{s:Nat}{E:BC α}{H:Array Obj}{v:Value}{xs:List α}(hE:C5 s E){k:Nat}(h:RN S (D0 s E) H v xs)(hk:k≤xs.length):RN S (D0 s E) H (IK v k) (xs.take k):=by obtain⟨F,h,hb⟩:=h;obtain⟨a,c,rfl,_⟩:=h.cap;obtain⟨G,g1,g2⟩:=h.take hE hk;exact⟨G,g1,fun b hm=>hb b (g2 b hm)⟩
theorem RN.capS {α:Type}{S:List Nat}{s:Nat}{E:BC α}{H:Array Obj}{v:Value}{xs:List α}(h:RN S (D0 s E) H v xs):E6 v:=by obtain⟨F,h,hb⟩:=h;obtain⟨a,c,rfl,hl⟩:=h.cap;exact hl
theorem Rt {x y:Operand}{v z:Value}{n s b k:Nat}(ht:P.underlying t=some (.slice e))(hi:TI P e s z b)(hx:Bs N ρ x=v)(hs:Ea v n)(hc:E6 v)(hy:Bs N ρ y=.int .i64 (k:Int))(hk:k≤n)(hu:Up ops N ρ ⟨some d,.slice t x none (some y) none,ty,pos,aft,g⟩)
  (h:LW P ops w0 Q os ks (mk N (Cs ρ d (IK v k))) w):LW P ops w0 Q (⟨some d,.slice t x none (some y) none,ty,pos,aft,g⟩::os) (0::ks) (mk N ρ) w:=by
 obtain⟨a,cap,rfl,_⟩:=hs;obtain⟨inf,h1,_,h3,_⟩:=hi.get;refine Cv (by decide) rfl hu _ (fun w' _=>?_) h;have hl:n≤cap:=hc;have hl':k≤cap:=by omega
 have hmap:∀a:Option Addr,a.map (·.add 0)=a:=fun a=>by cases a <;> simp[LM]
 simp[execOp,hx,hy,Instr.sliceAt,Instr.slice,Instr.sliceBounds,Instr.sliceBound,asIntOf,run_underlying ht,sizeOf,typeInfo,h1,h3,hl',hmap,IK]
end ops
end
def UW (s:ByteArray)(i:Nat):Bool:=(decide (97≤IV s i) && decide (IV s i≤122)) || (decide (i≠0) && (decide (48≤IV s i) && decide (IV s i≤57)))
def Kr (s:ByteArray):Bool:=(decide (1≤s.size) && decide (s.size≤12)) && (List.range s.size).all (UW s)
def Lg (p:List Fn)(e:Ex)(vars funcs:Int):Bool :=
 GS vars 0 412 && (GS funcs 0 ((p.length:Nat):Int) && (decide (e.size≤400) && (decide (e.deep≤60) && wf p funcs e vars)))
def Q7 (p:List Fn)(k:Nat):Bool:=!((p.take k).any fun g=>I0 g.name (p.getD k Fn.zero).name)
def Jq (p:List Fn)(k:Nat):Bool :=
 (Kr (p.getD k Fn.zero).name && Q7 p k) && ((GS (p.getD k Fn.zero).params 0 12 && GS (((p.getD k Fn.zero).outs.length:Nat):Int) 1 12) &&
  ((List.range (p.getD k Fn.zero).outs.length).all (fun j=>Lg p ((p.getD k Fn.zero).outs.getD j Ex.zero) (p.getD k Fn.zero).params ((k:Nat):Int)) && decide (Ex.sizes (p.getD k Fn.zero).outs≤400)))
def Jr (p:List Fn):Bool:=decide (p.length≤16) && (List.range p.length).all (Jq p)
def Pe (p:List Fn):Prop:=∀k,k<p.length→Ex.sizes (p.getD k Fn.zero).outs≤2000000∧(p.getD k Fn.zero).outs.length≤2000000∧(p.getD k Fn.zero).name.size≤2000000
theorem DO {f:Nat→Bool}{k:Nat}(h:(List.range k).all f=true)(hk:f k=true):(List.range (k+1)).all f=true:=by rw[List.range_succ,List.all_append,h];simp[hk]
theorem J8 {f:Nat→Bool}{k n:Nat}(hk:k<n)(h:f k=false):(List.range n).all f=false:=by rw[List.all_eq_false];exact⟨k,List.mem_range.2 hk,by simp[h]⟩
theorem Pf {f:Nat→Bool}{k n:Nat}(h:(List.range n).all f=true)(hk:k<n):f k=true:=zm.1 h k (List.mem_range.2 hk)
theorem X5 {p:List Fn}(h:Jr p=true){k:Nat}(hk:k<p.length):Jq p k=true:=by unfold Jr at h;rw[z7]at h;exact Pf h.2 hk
theorem EM {p:List Fn}(h:Jr p=true):IG p:=by
 have h1:∀k,k<p.length→(0≤(p.getD k Fn.zero).params∧(p.getD k Fn.zero).params≤12)∧(1≤(p.getD k Fn.zero).outs.length∧(p.getD k Fn.zero).outs.length≤12) ∧
   ∀j,j<(p.getD k Fn.zero).outs.length→Lg p ((p.getD k Fn.zero).outs.getD j Ex.zero) (p.getD k Fn.zero).params ((k:Nat):Int)=true:=by
  intro k hk;have:=X5 h hk;unfold Jq at this;simp only[z7,BQ]at this;exact⟨this.2.1.1,zO,fun j hj=>Pf this.2.2.1 hj⟩
 have h2:∀k,k<p.length→∀j,j<(p.getD k Fn.zero).outs.length→((p.getD k Fn.zero).outs.getD j Ex.zero).deep≤60∧wf p ((k:Nat):Int) ((p.getD k Fn.zero).outs.getD j Ex.zero) (p.getD k Fn.zero).params=true:=by
  intro k hk j hj;have:=(h1 k hk).2.2 j hj;unfold Lg at this;simp only[z7,decide_eq_true_eq]at this;exact⟨this.2.2.2.1,this.2.2.2.2⟩
 exact⟨fun k hk=>(h1 k hk).1,fun k hk=>(h1 k hk).2.1,fun k hk j hj=>(h2 k hk j hj).1,fun k hk j hj=>(h2 k hk j hj).2⟩
def DJ (p:List Fn)(f:Int):Int:=if Jr p=true then(if 0≤f∧f≤((p.length:Nat):Int)-1 then 0 else 2)else 1
theorem Js {p:List Fn}{f:Int}(h:DJ p f=0):Jr p=true∧0≤f∧f<((p.length:Nat):Int):=by unfold DJ at h;split at h;split at h;rename_i h1 h2;exact⟨h1,h2.1,zO⟩;omega;omega
theorem X6 {n k:Nat}{s:Sr}(h:Cx n s)(hk:k<n):Io (s.getD k 0)=true:=by
 have hk':k<s.length:=by rw[h.1];exact hk
 have:=h.2;unfold Bd at this;have h2:=zm.1 this s[k]<|List.getElem_mem hk';rwa [show s.getD k 0=s[k]from by simp[hk']]
section
mutual
def Hw:Ex→Int→Int
 |.mk _ _ _ _ l,x=>D2 l (x-1)
def D2:List Ex→Int→Int
 |[],x=>x
 |e::l,x=>if 0≤x then D2 l (Hw e x)else x
end
theorem TM (e:Ex)(x:Int):Hw e x=D2 e.kids (x-1):=by cases e;rw[Hw];rfl
theorem Ks {l:List Ex}{x:Int}(h:x<0):D2 l x=x:=by
 cases l with
 |nil=>rw[D2]
 |cons e l=>rw[D2,if_neg (by omega)]
mutual
theorem Kt:∀(e:Ex)(x:Int),0≤x→(Hw e x=x-(e.size:Int)∧(e.size:Int)≤x)∨(Hw e x = -1∧x<(e.size:Int))
 |.mk k n q c l,x,h=>by
  rw[Hw,Ex.size]
  by_cases h0:x=0
  subst h0
  right
  rw[Ks (by omega)]
  refine⟨zO,zO⟩
  rcases Hn l (x-1) (by omega)with h1|h1
  left;omega
  right;omega
theorem Hn:∀(l:List Ex)(x:Int),0≤x→(D2 l x=x-(Ex.sizes l:Int)∧(Ex.sizes l:Int)≤x)∨(D2 l x = -1∧x<(Ex.sizes l:Int))
 |[],x,h=>by rw[D2,Ex.sizes];left;omega
 |e::l,x,h=>by
  rw[D2,if_pos h,Ex.sizes]
  rcases Kt e x h with h1|h1
  rw[h1.1]
  rcases Hn l (x-(e.size:Int)) (by omega)with h2|h2
  left;omega
  right;omega
  rw[h1.1,Ks (by omega)]
  right;omega
end
theorem LN (e:Ex):∀(l:List Ex)(x:Int),D2 (l++[e]) x=if 0≤D2 l x then Hw e (D2 l x)else D2 l x
 |[],x=>by
  rw[zl,D2,D2]
  split
  rw[D2]
  rfl
 |a::l,x=>by
  rw[List.cons_append,D2,D2]
  by_cases h:0≤x
  rw[if_pos h,if_pos h,LN e l]
  rw[if_neg h,if_neg h,if_neg h]
theorem LO {l:List Ex}{k:Nat}(hk:k<l.length){x:Int}(h:0≤D2 (l.take k) x):D2 (l.take (k+1)) x=Hw (l.getD k Ex.zero) (D2 (l.take k) x):=by rw[List.take_succ_eq_append_getElem hk,LN,if_pos h];simp[hk]
theorem Nn:∀(l r:List Ex)(x:Int),D2 l x<0→D2 (l++r) x=D2 l x
 |[],r,x,h=>by rw[D2]at h ⊢;rw[zl,Ks h]
 |a::l,r,x,h=>by
  rw[D2]at h ⊢
  rw[List.cons_append,D2]
  split
  rename_i h0;rw[if_pos h0]at h;exact Nn l r _ h
  rfl
theorem LP {l:List Ex}{k:Nat}{x:Int}(h:D2 (l.take k) x<0):D2 l x=D2 (l.take k) x:=by have:=Nn (l.take k) (l.drop k) x h;rwa [List.take_append_drop]at this
theorem No {e:Ex}{x:Int}(h:0≤x):-1≤Hw e x∧Hw e x≤x:=by rcases Kt e x h with h1|h1 <;> omega
theorem Ru {e:Ex}{x:Int}(h:0≤x):0≤Hw e x↔(e.size:Int)≤x:=by rcases Kt e x h with h1|h1 <;> omega
def Q8 (k:Int):Int:=if k=1∨k=2 then 0 else if k=3∨k=4∨k=5∨k=6∨k=9 then 2 else if k=7 then 1 else if k=8 then 3 else -1
theorem Mt {p q:Prop} [Decidable p] [Decidable q] (h:p↔q):decide p=decide q:=decide_eq_decide.2 h
section
variable {p:List Fn} {F vars:Int} {e:Ex}
theorem Q9 (h:Gk p F vars e=true)(h10:e.kind≠10)(h11:e.kind≠11):e.pick=0∧e.count=0∧Q8 e.kind=((e.kids.length:Nat):Int)∧(e.kind≠1→e.kind≠2→e.num=0):=by unfold Gk DI at h;unfold Q8;split at h;rename_i h1;simp only[z7,decide_eq_true_eq]at h;rw[if_pos (by omega)];exact⟨h.1.1,h.1.2,zO,fun hh=>absurd h1 hh⟩;split at h;rename_i h1;simp only[z7,decide_eq_true_eq]at h;rw[if_pos (by omega)];exact⟨h.1.1,h.1.2,zO,fun _ hh=>absurd h1 hh⟩;split at h;simp only[z7,decide_eq_true_eq]at h;rw[if_neg zO,if_pos (by omega)];exact⟨h.1.1,h.1.2,zO,fun _ _=>h.2.1⟩;split at h;simp only[z7,decide_eq_true_eq]at h;rw[if_neg zO,if_neg zO,if_pos (by omega)];exact⟨h.1.1,h.1.2,zO,fun _ _=>h.2.1⟩;split at h;simp only[z7,decide_eq_true_eq]at h;rw[if_neg zO,if_neg zO,if_neg zO,if_pos (by omega)];exact⟨h.1.1,h.1.2,zO,fun _ _=>h.2.1⟩;split at h;omega;cases h
theorem X7 (h10:e.kind≠10)(h11:e.kind≠11)(h:Q8 e.kind≠((e.kids.length:Nat):Int)∨e.pick≠0∨e.count≠0):false=Gk p F vars e:=by
 cases hw:Gk p F vars e with
 |false=>rfl
 |true =>
  have:=Q9 hw h10 h11;omega
theorem ZJ (hk:Q8 e.kind=((e.kids.length:Nat):Int))(h1:e.kind=1)(hp:e.pick=0)(hc:e.count=0):Io e.num=Gk p F vars e:=by
 have hl:e.kids.length=0:=by unfold Q8 at hk;rw[if_pos (by omega)]at hk;omega
 unfold Gk DI;rw[if_pos h1,A5 hp,A5 hc,A5 hl];rfl
theorem ZK (hk:Q8 e.kind=((e.kids.length:Nat):Int))(h1:e.kind=2)(hp:e.pick=0)(hc:e.count=0):(decide (((0:Nat):Int)≤e.num) && decide (e.num≤vars-1))=Gk p F vars e:=by
 have hl:e.kids.length=0:=by unfold Q8 at hk;rw[if_pos (by omega)]at hk;omega
 unfold Gk DI GS;rw[if_neg zO,if_pos h1,A5 hp,A5 hc,A5 hl];rfl
theorem ZL (hk:Q8 e.kind=((e.kids.length:Nat):Int))(h1:e.kind≠1)(h2:e.kind≠2)(h10:e.kind≠10)(h11:e.kind≠11)(hp:e.pick=0)(hc:e.count=0):decide (e.num=0)=Gk p F vars e:=by unfold Q8 at hk;unfold Gk DI;rw[if_neg h1,if_neg h2,A5 hp,A5 hc];rw[if_neg (by omega)]at hk;split at hk;rename_i h3;rw[if_pos h3,A5 (show e.kids.length=2 by omega)];simp;rename_i h3;rw[if_neg h3];split at hk;rename_i h4;rw[if_pos h4,A5 (show e.kids.length=1 by omega)];simp;rename_i h4;rw[if_neg h4];split at hk;rename_i h5;rw[if_pos h5,A5 (show e.kids.length=3 by omega)];simp;omega
end
end
section
def Jt (n:Nat)(C:Ca)(e:Ex)(env:List Sr)(s:Nat):Rs Sr:=(DP n C e.kids env s).bind fun xs t =>
 if e.kind=10 then C.one e.num.toNat e.pick.toNat xs t else(IW (C.all e.num.toNat) e.count.toNat xs t).bind fun ys u=>.ok (ys.getD e.pick.toNat []) u
section
variable {n:Nat} {C:Ca} {e:Ex} {env:List Sr} {s s1 s2:Nat} {c c1 c2:Int} {x y:Sr} {xs ys:List Sr}
theorem LQ (hc:c=0)(hs:s+1≤3000)(hk:e.kind=10∨e.kind=11)(h:AH (go c (Jt n C e env (s+1))) y s2 c2):AH (go c (CF n C e env s)) y s2 c2:=by
 subst hc;rw[BS]at h ⊢;rw[H0 hs zO zO zO (by omega)];unfold Jt at h;cases hv:DP n C e.kids env (s+1)with
 |err d=>rw[hv]at h;exact h
 |ok zsq t =>
  rw[hv]at h;rw[Rs.bind_ok]at h ⊢;by_cases h10:e.kind=10;rw[if_pos h10]at h ⊢;exact h;rw[if_neg h10]at h;rw[if_neg h10,if_pos (by omega)];exact h
theorem Ju {α:Type}{r:Rs α}{v:α}(h:AH (go c r) v s1 c1)(hc:c≠0):c1=c:=by rw[BO hc]at h;exact h.1
theorem X8 (hl:e.kids.length=1)(h:AH (go c (CF n C (e.kids.getD 0 Ex.zero) env s)) x s1 c1):AH (go c (DP n C e.kids env s)) [x] s1 c1:=by have h1:=FZ (l:=e.kids) (k:=0) zO (G0 n C e.kids env s c) h;rwa [za (by omega)]at h1
theorem J9 (hl:e.kids.length=2)(h:AH (go c (CF n C (e.kids.getD 0 Ex.zero) env s)) x s1 c1)(h2:AH (go c1 (CF n C (e.kids.getD 1 Ex.zero) env s1)) y s2 c2):AH (go c (DP n C e.kids env s)) [x,y] s2 c2:=by have h1:=FZ (l:=e.kids) (k:=0) zO (G0 n C e.kids env s c) h;have h3:=FZ (l:=e.kids) (k:=1) zO h1 h2;rwa [za (by omega)]at h3
theorem Gr (hc:c=0)(hs:s+1≤3000)(hk:e.kind=3∨e.kind=4∨e.kind=5∨e.kind=6∨e.kind=7)(hr:AH (go c (DP n C e.kids env (s+1))) xs s1 c1)
  (h:c1=0→AH (MW e.kind xs s1) y s1 c2) (h0:c1≠0→c2=c1):AH (go c (CF n C e env s)) y s1 c2:=by
 by_cases hc1:c1=0;exact Bb hc hs zO zO zO zO zO zO hr hc1<|h hc1;rw[h0 hc1];exact D1 hc hs zO zO zO zO hr hc1
theorem Rv {p:List Fn}{F:Nat}(hk:e.kind=10)(hF:e.num.toNat<F)(hr:AH (go c (DP n (ES p n F) e.kids env s)) xs s1 c1)
  (h2:AH (go c1 (CF n (ES p n e.num.toNat) ((p.getD e.num.toNat Fn.zero).outs.getD e.pick.toNat Ex.zero) xs s1)) y s2 c2):AH (go c (Jt n (ES p n F) e env s)) y s2 c2:=by
 by_cases hc:c=0;subst hc;rw[BS]at hr ⊢;unfold Jt;by_cases hc1:c1=0;subst hc1;rw[hr.bindO,if_pos hk,Mg hF];rw[BS]at h2;exact h2;rw[hr.bindE hc1];rw[BO hc1]at h2;exact h2;have e1:=Ju hr hc;subst e1;rw[BO hc]at h2 ⊢;exact h2
theorem Rw {f:List Sr→Nat→Rs (List Sr)}{k:Nat}(h:AH (go c (IW f k xs s)) ys s1 c1){zsq:List Sr}(h2:AH (go c1 (f ys s1)) zsq s2 c2):AH (go c (IW f (k+1) xs s)) zsq s2 c2:=by by_cases hc:c=0;subst hc;rw[BS]at h ⊢;show AH ((IW f k xs s).bind f) _ _ _;by_cases hc1:c1=0;subst hc1;rw[h.bindO];rw[BS]at h2;exact h2;rw[h.bindE hc1];rw[BO hc1]at h2;exact h2;have e1:=Ju h hc;subst e1;rw[BO hc]at h2 ⊢;exact h2
theorem Rx {f:List Sr→Nat→Rs (List Sr)}(hc:0=0):AH (go c (IW f 0 xs s)) xs s c:=by by_cases h:c=0;subst h;exact⟨rfl,rfl,rfl⟩;exact AH.mk_err (BO h _) h
theorem Ry {p:List Fn}{F:Nat}(hk:e.kind≠10)(hF:e.num.toNat<F)(hr:AH (go c (DP n (ES p n F) e.kids env s)) xs s1 c1)
  (h2:AH (go c1 (IW (fun a t=>DP n (ES p n e.num.toNat) (p.getD e.num.toNat Fn.zero).outs a t) e.count.toNat xs s1)) ys s2 c2):AH (go c (Jt n (ES p n F) e env s)) (ys.getD e.pick.toNat []) s2 c2:=by
 have hl:(ES p n F).all e.num.toNat=fun a t=>DP n (ES p n e.num.toNat) (p.getD e.num.toNat Fn.zero).outs a t:=funext fun a=>funext fun t=>JW hF;by_cases hc:c=0;subst hc;rw[BS]at hr ⊢;unfold Jt;by_cases hc1:c1=0;subst hc1;rw[hr.bindO,if_neg hk,hl];rw[BS]at h2;by_cases h0:c2=0;subst h0;rw[h2.bindO];exact AH.mk_ok rfl;rw[h2.bindE h0];exact AH.mk_err rfl h0;rw[hr.bindE hc1];rw[BO hc1]at h2;exact AH.mk_err (by rw[h2.1]) (by rw[h2.1];exact hc1);have e1:=Ju hr hc;subst e1;rw[BO hc]at h2 ⊢;exact AH.mk_err (by rw[h2.1]) (by rw[h2.1];exact hc)
end
end
section
abbrev Pl:=List Tm
def JD (n:Nat)(c:Int):Pl:=if c=0 then []else [⟨List.replicate n 0,c⟩]
def Eu (q:Pl)(t:Nat):Rs Int:=if 0<Cm q then .err 4 else .ok (MX q) t
def EI (q:Pl)(t:Nat):Rs Pl:=if 120<q.length then .err 3 else .ok q t
def Qa (a b:Pl)(t:Nat):Rs Pl:=if a=[]∨b=[]then .ok [] t else if 12<Cm a+Cm b then .err 3 else EI (JC a b) t
structure LR where
 one:Nat→Nat→List Pl→Nat→Rs Pl
 all:Nat→List Pl→Nat→Rs (List Pl)
def JE (f:List Pl→Nat→Rs (List Pl)):Nat→List Pl→Nat→Rs (List Pl)
 |0,a,s=>.ok a s
 |k+1,a,s=>(JE f k a s).bind f
def LS (k:Int)(xs:List Pl)(t:Nat):Rs Pl :=
 if k=3 then EI (ID (xs.getD 0 []) (xs.getD 1 []) 1) t
 else if k=4 then EI (ID (xs.getD 0 []) (xs.getD 1 []) 1000002) t
 else if k=5 then Qa (xs.getD 0 []) (xs.getD 1 []) t
 else if k=7 then .ok (CE (xs.getD 0 []) 1000002) t
 else(Eu (xs.getD 1 []) t).bind fun c u=>if c=0 then .err 6 else .ok (CE (xs.getD 0 []) (ER c)) u
mutual
def Fj (n:Nat)(C:LR):Ex→List Pl→Nat→Rs Pl
 |.mk k num pick cnt l,env,s =>
  if 3000≤s then .err 7
  else if k=1 then .ok (JD n num) (s+1)
  else if k=2 then .ok (env.getD num.toNat []) (s+1)
  else if k=8 then(LT n C l 0 env (s+1)).bind fun x t=>(Eu x t).bind fun c u=>if c=0 then LT n C l 1 env u else LT n C l 2 env u
  else if k=9 then(LT n C l 0 env (s+1)).bind fun x t=>LT n C l 1 (env++[x]) t
  else(Fd n C l env (s+1)).bind fun xs t =>
   if k=10 then C.one num.toNat pick.toNat xs t
   else if k=11 then(JE (C.all num.toNat) cnt.toNat xs t).bind fun ys u=>.ok (ys.getD pick.toNat []) u
   else LS k xs t
def LT (n:Nat)(C:LR):List Ex→Nat→List Pl→Nat→Rs Pl
 |[],_,_,_=>.err 0
 |e::_,0,env,s=>Fj n C e env s
 |_::l,j+1,env,s=>LT n C l j env s
def Fd (n:Nat)(C:LR):List Ex→List Pl→Nat→Rs (List Pl)
 |[],_,s=>.ok [] s
 |e::l,env,s=>(Fj n C e env s).bind fun x t=>(Fd n C l env t).bind fun xs u=>.ok (x::xs) u
end
theorem Gs (n:Nat)(C:LR)(env:List Pl)(s:Nat):∀(l:List Ex)(j:Nat),j<l.length→LT n C l j env s=Fj n C (l.getD j Ex.zero) env s
 |[],j,h=>by simp at h
 |e::l,0,_=>by rw[LT];rfl
 |e::l,j+1,h=>by rw[LT,Gs n C env s l j (by simpa using h)];simp
theorem Np (n:Nat)(C:LR)(env:List Pl)(e:Ex):∀(l:List Ex)(s:Nat),Fd n C (l++[e]) env s=(Fd n C l env s).bind fun xs t=>(Fj n C e env t).bind fun x u=>.ok (xs++[x]) u
 |[],s=>by
  rw[zl,Fd,Fd]
  simp only[Rs.bind_ok]
  cases Fj n C e env s <;> simp only[Rs.bind_ok,Rs.bind_err,Fd] <;> rfl
 |a::l,s=>by
  rw[List.cons_append,Fd,Fd]
  cases Fj n C a env s with
  |err c=>rfl
  |ok x t =>
   simp only[Rs.bind_ok]
   rw[Np n C env e l t]
   simp only[Rs.bind_assoc]
   cases Fd n C l env t with
   |err c=>rfl
   |ok xs u =>
    simp only[Rs.bind_ok]
    cases Fj n C e env u <;> rfl
theorem Rz {n:Nat}{C:LR}{env:List Pl}{s:Nat}{l:List Ex}{k:Nat}(hk:k<l.length):Fd n C (l.take (k+1)) env s=(Fd n C (l.take k) env s).bind fun xs t=>(Fj n C (l.getD k Ex.zero) env t).bind fun x u=>.ok (xs++[x]) u:=by rw[List.take_succ_eq_append_getElem hk,Np];simp[hk]
theorem I1 (n:Nat)(C:LR)(e:Ex)(env:List Pl)(s:Nat):Fj n C e env s =
  if 3000≤s then .err 7
  else if e.kind=1 then .ok (JD n e.num) (s+1)
  else if e.kind=2 then .ok (env.getD e.num.toNat []) (s+1)
  else if e.kind=8 then(LT n C e.kids 0 env (s+1)).bind fun x t=>(Eu x t).bind fun c u=>if c=0 then LT n C e.kids 1 env u else LT n C e.kids 2 env u
  else if e.kind=9 then(LT n C e.kids 0 env (s+1)).bind fun x t=>LT n C e.kids 1 (env++[x]) t
  else(Fd n C e.kids env (s+1)).bind fun xs t =>
   if e.kind=10 then C.one e.num.toNat e.pick.toNat xs t
   else if e.kind=11 then(JE (C.all e.num.toNat) e.count.toNat xs t).bind fun ys u=>.ok (ys.getD e.pick.toNat []) u
   else LS e.kind xs t:=by cases e;rw[Fj];rfl
def H2 (p:List Fn)(n:Nat):Nat→LR
 |0=>⟨fun _ _ _ _=>.err 0,fun _ _ _=>.err 0⟩
 |k+1=>⟨fun f j a s=>if f=k then Fj n (H2 p n k) ((p.getD k Fn.zero).outs.getD j Ex.zero) a s else(H2 p n k).one f j a s,
   fun f a s=>if f=k then Fd n (H2 p n k) (p.getD k Fn.zero).outs a s else(H2 p n k).all f a s⟩
theorem Pg {p:List Fn}{n f j:Nat}{a:List Pl}{s:Nat}:∀ {F:Nat},f<F→(H2 p n F).one f j a s=Fj n (H2 p n f) ((p.getD f Fn.zero).outs.getD j Ex.zero) a s
 |0,h=>by omega
 |F+1,h=>by
  show(if f=F then _ else _)=_
  split
  rename_i e;rw[e]
  exact Pg zO
theorem Mu {p:List Fn}{n f:Nat}{a:List Pl}{s:Nat}:∀ {F:Nat},f<F→(H2 p n F).all f a s=Fd n (H2 p n f) (p.getD f Fn.zero).outs a s
 |0,h=>by omega
 |F+1,h=>by
  show(if f=F then _ else _)=_
  split
  rename_i e;rw[e]
  exact Mu zO
def pe (p:List Fn)(n f:Nat)(a:List Pl):Rs (List Pl):=Fd n (H2 p n f) (p.getD f Fn.zero).outs a 0
section
variable {n:Nat} {C:LR} {e:Ex} {env:List Pl} {s s1 s2:Nat} {c c1 c2:Int} {x y:Pl} {z:Int} {xs ys:List Pl}
theorem Qb (hc:c≠0){r:Rs Pl}:AH (go c r) x s c:=AH.mk_err (BO hc r) hc
theorem Nq (hc:c=0)(hs:s=3000):AH (go c (Fj n C e env s)) x s1 7:=by subst hc;rw[BS,I1,if_pos (by omega)];exact AH.mk_err rfl (by decide)
theorem RB (hc:c=0)(hs:s+1≤3000)(hk:e.kind=1):AH (go c (Fj n C e env s)) (JD n e.num) (s+1) c:=by subst hc;rw[BS,I1,if_neg zO,if_pos hk];exact AH.mk_ok rfl
theorem RC (hc:c=0)(hs:s+1≤3000)(hk:e.kind=2):AH (go c (Fj n C e env s)) (env.getD e.num.toNat []) (s+1) c:=by subst hc;rw[BS,I1,if_neg zO,if_neg zO,if_pos hk];exact AH.mk_ok rfl
theorem Mv {x:Pl}{t:Nat}(h:Cm x≤0):Eu x t=.ok (MX x) t:=by unfold Eu;rw[if_neg (by omega)]
theorem Mw {x:Pl}{t:Nat}(h:0<Cm x):Eu x t=.err 4:=by unfold Eu;rw[if_pos h]
theorem TN {k:Int}(hk:k=3):LS k xs s=EI (ID (xs.getD 0 []) (xs.getD 1 []) 1) s:=by subst hk;rfl
theorem TO {k:Int}(hk:k=4):LS k xs s=EI (ID (xs.getD 0 []) (xs.getD 1 []) 1000002) s:=by subst hk;rfl
theorem TP {k:Int}(hk:k=5):LS k xs s=Qa (xs.getD 0 []) (xs.getD 1 []) s:=by subst hk;rfl
theorem TQ {k:Int}(hk:k=7):AH (LS k xs s) (CE (xs.getD 0 []) 1000002) s 0:=by subst hk;exact AH.mk_ok rfl
theorem Mx {k:Int}(hk:k=6):LS k xs s=(Eu (xs.getD 1 []) s).bind fun c u=>if c=0 then .err 6 else .ok (CE (xs.getD 0 []) (ER c)) u:=by subst hk;rfl
theorem RD {k:Int}(hk:k=6)(hn:AH (Eu (xs.getD 1 []) s) z s c1)(h0:c1=0)(hz:z=0):AH (LS k xs s) x s1 6:=by subst h0;rw[Mx hk,hn.bindO,if_pos hz];exact AH.mk_err rfl (by decide)
theorem RE {k:Int}(hk:k=6)(hn:AH (Eu (xs.getD 1 []) s) z s c1)(h0:c1=0)(hz:¬z=0):AH (LS k xs s) (CE (xs.getD 0 []) (ER z)) s 0:=by subst h0;rw[Mx hk,hn.bindO,if_neg hz];exact AH.mk_ok rfl
theorem RG (hc:c=0)(hs:s+1≤3000)(hk:e.kind=9)(hl:e.kids.length=2)(h1:AH (go c (Fj n C (e.kids.getD 0 Ex.zero) env (s+1))) x s1 c1)
  (h2:AH (go c1 (Fj n C (e.kids.getD 1 Ex.zero) (env++[x]) s1)) y s2 c2):AH (go c (Fj n C e env s)) y s2 c2:=by
 subst hc;rw[BS,I1,if_neg zO,if_neg zO,if_neg zO,if_neg zO,if_pos hk,Gs _ _ _ _ _ _ (by omega)];rw[BS]at h1;by_cases h0:c1=0;subst h0;rw[h1.bindO,Gs _ _ _ _ _ _ (by omega)];exact h2;rw[h1.bindE h0];rw[BO h0]at h2;exact h2
theorem IL (hs : s + 1 ≤ 3000) (h1 : e.kind ≠ 1) (h2 : e.kind ≠ 2) (h8 : e.kind ≠ 8) (h9 : e.kind ≠ 9) : Fj n C e env s = (Fd n C e.kids env (s + 1)).bind fun xs t =>
      if e.kind = 10 then C.one e.num.toNat e.pick.toNat xs t
      else if e.kind = 11 then (JE (C.all e.num.toNat) e.count.toNat xs t).bind fun ys u=>.ok (ys.getD e.pick.toNat []) u
      else LS e.kind xs t:=by
  rw [I1,if_neg zO,if_neg h1,if_neg h2,if_neg h8,if_neg h9]
theorem Oe (hc:c=0)(hs:s+1≤3000)(h1:e.kind≠1)(h2:e.kind≠2)(h8:e.kind≠8)(h9:e.kind≠9)(hr:AH (go c (Fd n C e.kids env (s+1))) xs s1 c1)(hc1:c1≠0):AH (go c (Fj n C e env s)) x s2 c1:=by subst hc;rw[BS]at hr ⊢;rw[IL hs h1 h2 h8 h9,hr.bindE hc1];exact AH.mk_err rfl hc1
theorem TR (hc:c=0)(hs:s+1≤3000)(h1:e.kind≠1)(h2:e.kind≠2)(h8:e.kind≠8)(h9:e.kind≠9)(h10:e.kind≠10)(h11:e.kind≠11)(hr:AH (go c (Fd n C e.kids env (s+1))) xs s1 c1)(hc1:c1=0)
  (h:AH (LS e.kind xs s1) y s2 c2):AH (go c (Fj n C e env s)) y s2 c2:=by
 subst hc;subst hc1;rw[BS]at hr ⊢;rw[IL hs h1 h2 h8 h9,hr.bindO,if_neg h10,if_neg h11];exact h
theorem G4 {l:List Ex}{k:Nat}(hk:k<l.length)(h:AH (go c (Fd n C (l.take k) env s)) xs s1 c1)(h2:AH (go c1 (Fj n C (l.getD k Ex.zero) env s1)) x s2 c2) :
  AH (go c (Fd n C (l.take (k+1)) env s)) (xs++[x]) s2 c2:=by
 by_cases hc:c=0;subst hc;rw[BS]at h ⊢;rw[Rz hk];by_cases h0:c1=0;subst h0;rw[BS]at h2;rw[h.bindO];by_cases h3:c2=0;subst h3;rw[h2.bindO];exact AH.mk_ok rfl;rw[h2.bindE h3];exact AH.mk_err rfl h3;rw[h.bindE h0];rw[BO h0]at h2;exact AH.mk_err (by rw[h2.1]) (by rw[h2.1];exact h2.2);rw[BO hc]at h ⊢;have hc1:c1≠0:=by rw[h.1];exact hc
 rw[BO hc1]at h2;exact AH.mk_err (by rw[h2.1,h.1]) (by rw[h2.1];exact hc1)
end
theorem Gt (n:Nat)(C:LR)(l:List Ex)(env:List Pl)(s:Nat)(c:Int):AH (go c (Fd n C (l.take 0) env s)) [] s c:=by rw[List.take_zero,Fd];by_cases h:c=0;subst h;exact AH.mk_ok rfl;exact AH.mk_err (BO h _) h
def Jv (n:Nat)(C:LR)(e:Ex)(env:List Pl)(s:Nat):Rs Pl:=(Fd n C e.kids env s).bind fun xs t =>
 if e.kind=10 then C.one e.num.toNat e.pick.toNat xs t else(JE (C.all e.num.toNat) e.count.toNat xs t).bind fun ys u=>.ok (ys.getD e.pick.toNat []) u
section
variable {n:Nat} {C:LR} {e:Ex} {env:List Pl} {s s1 s2:Nat} {c c1 c2:Int} {x y:Pl} {xs ys:List Pl}
theorem Ku (hc:c=0)(hs:s+1≤3000)(hk:e.kind=10∨e.kind=11)(h:AH (go c (Jv n C e env (s+1))) y s2 c2):AH (go c (Fj n C e env s)) y s2 c2:=by
 subst hc;rw[BS]at h ⊢;rw[IL hs zO zO zO (by omega)];unfold Jv at h;cases hv:Fd n C e.kids env (s+1)with
 |err d=>rw[hv]at h;exact h
 |ok zsq t =>
  rw[hv]at h;rw[Rs.bind_ok]at h ⊢;by_cases h10:e.kind=10;rw[if_pos h10]at h ⊢;exact h;rw[if_neg h10]at h;rw[if_neg h10,if_pos (by omega)];exact h
theorem TS (hl:e.kids.length=1)(h:AH (go c (Fj n C (e.kids.getD 0 Ex.zero) env s)) x s1 c1):AH (go c (Fd n C e.kids env s)) [x] s1 c1:=by have h1:=G4 (l:=e.kids) (k:=0) zO (Gt n C e.kids env s c) h;rwa [za (by omega)]at h1
theorem Gu (hl:e.kids.length=2)(h:AH (go c (Fj n C (e.kids.getD 0 Ex.zero) env s)) x s1 c1)(h2:AH (go c1 (Fj n C (e.kids.getD 1 Ex.zero) env s1)) y s2 c2):AH (go c (Fd n C e.kids env s)) [x,y] s2 c2:=by have h1:=G4 (l:=e.kids) (k:=0) zO (Gt n C e.kids env s c) h;have h3:=G4 (l:=e.kids) (k:=1) zO h1 h2;rwa [za (by omega)]at h3
theorem Qc {p:List Fn}{F:Nat}(hk:e.kind=10)(hF:e.num.toNat<F)(hr:AH (go c (Fd n (H2 p n F) e.kids env s)) xs s1 c1)
  (h2:AH (go c1 (Fj n (H2 p n e.num.toNat) ((p.getD e.num.toNat Fn.zero).outs.getD e.pick.toNat Ex.zero) xs s1)) y s2 c2):AH (go c (Jv n (H2 p n F) e env s)) y s2 c2:=by
 by_cases hc:c=0;subst hc;rw[BS]at hr ⊢;unfold Jv;by_cases hc1:c1=0;subst hc1;rw[hr.bindO,if_pos hk,Pg hF];rw[BS]at h2;exact h2;rw[hr.bindE hc1];rw[BO hc1]at h2;exact h2;have e1:=Ju hr hc;subst e1;rw[BO hc]at h2 ⊢;exact h2
theorem Qd {f:List Pl→Nat→Rs (List Pl)}{k:Nat}(h:AH (go c (JE f k xs s)) ys s1 c1){zsq:List Pl}(h2:AH (go c1 (f ys s1)) zsq s2 c2):AH (go c (JE f (k+1) xs s)) zsq s2 c2:=by by_cases hc:c=0;subst hc;rw[BS]at h ⊢;show AH ((JE f k xs s).bind f) _ _ _;by_cases hc1:c1=0;subst hc1;rw[h.bindO];rw[BS]at h2;exact h2;rw[h.bindE hc1];rw[BO hc1]at h2;exact h2;have e1:=Ju h hc;subst e1;rw[BO hc]at h2 ⊢;exact h2
theorem Qe {f:List Pl→Nat→Rs (List Pl)}(hc:0=0):AH (go c (JE f 0 xs s)) xs s c:=by by_cases h:c=0;subst h;exact⟨rfl,rfl,rfl⟩;exact AH.mk_err (BO h _) h
theorem Qf {p:List Fn}{F:Nat}(hk:e.kind≠10)(hF:e.num.toNat<F)(hr:AH (go c (Fd n (H2 p n F) e.kids env s)) xs s1 c1)
  (h2:AH (go c1 (JE (fun a t=>Fd n (H2 p n e.num.toNat) (p.getD e.num.toNat Fn.zero).outs a t) e.count.toNat xs s1)) ys s2 c2):AH (go c (Jv n (H2 p n F) e env s)) (ys.getD e.pick.toNat []) s2 c2:=by
 have hl:(H2 p n F).all e.num.toNat=fun a t=>Fd n (H2 p n e.num.toNat) (p.getD e.num.toNat Fn.zero).outs a t:=funext fun a=>funext fun t=>Mu hF;by_cases hc:c=0;subst hc;rw[BS]at hr ⊢;unfold Jv;by_cases hc1:c1=0;subst hc1;rw[hr.bindO,if_neg hk,hl];rw[BS]at h2;by_cases h0:c2=0;subst h0;rw[h2.bindO];exact AH.mk_ok rfl;rw[h2.bindE h0];exact AH.mk_err rfl h0;rw[hr.bindE hc1];rw[BO hc1]at h2;exact AH.mk_err (by rw[h2.1]) (by rw[h2.1];exact hc1);have e1:=Ju hr hc;subst e1;rw[BO hc]at h2 ⊢;exact AH.mk_err (by rw[h2.1]) (by rw[h2.1];exact hc)
end
end
section
def EN {α:Type}(s:Nat)(E:BC α)(e:TypeId):Bx (List α):=fun H v xs F =>
 (v=.slice none 0 0∧xs=[]∧F=[]) ∨
 ∃css g cap cur F',CI E H css xs F'∧v=.slice (some ⟨g,0,none⟩) xs.length cap∧H[g]? = some (.cells cur e (0,0))∧xs.length≤cap∧cap≤maxLen∧cur.size=cap*s∧cur.toList.take (xs.length*s)=css.flatten∧F=g::F'
section EN
variable {α:Type} {E:BC α} {s:Nat} {e:TypeId} {H H':Array Obj} {v:Value} {xs:List α} {F:List Nat}
theorem AL (hE:C5 s E):Cb (EN s E e) where
 cells:=by
  rintro H v xs F (⟨rfl,_⟩|⟨us,g,cap,cur,F',_,rfl,_⟩) <;> rfl
 one:=by
  rintro H v xs F (⟨rfl,_⟩|⟨us,g,cap,cur,F',_,rfl,_⟩) <;> rfl
 lt:=by
  rintro H v xs F (⟨rfl,_,rfl⟩|⟨us,g,cap,cur,F',h,rfl,hg,_,_,_,_,rfl⟩) b hb;cases hb;rcases ze.1 hb with rfl|hb;exact getElem?_lt hg;exact h.lt hE b hb
 stable:=by
  rintro H H' v xs F (⟨rfl,h1,h2⟩|⟨us,g,cap,cur,F',h,rfl,hg,r1,r2,r3,r4,rfl⟩) hb;exact .inl ⟨rfl,h1,h2⟩;exact .inr ⟨us,g,cap,cur,F',h.stable hE fun b hh=>hb b<|z3 _ hh,rfl,by rw[hb g (z0 ..)];exact hg,r1,r2,r3,r4,rfl⟩
theorem CI.imp {E':BC α}(hi:∀ {H cs x F},E H cs x F→E' H cs x F):∀ {css:List (List Value)}{xs:List α}{F:List Nat},CI E H css xs F→CI E' H css xs F
 |[],[],_,h=>h
 |_::_,_::_,_,⟨F1,F2,rfl,h1,h2⟩=>⟨F1,F2,rfl,hi h1,CI.imp hi h2⟩
 |[],_::_,_,h=>h.elim
 |_::_,[],_,h=>h.elim
theorem EN.rd (hE:C5 s E)(h:EN s E e H v xs F):D0 s E H v xs F:=by rcases h with⟨rfl,rfl,rfl⟩|⟨us,g,cap,cur,F',h,rfl,hg,r1,r2,r3,r4,rfl⟩;exact .inl ⟨none,0,rfl,rfl,rfl⟩;refine .inr ⟨us,g,0,cap,cur,e,(0,0),F',h,rfl,hg,?_,⟨A8 r1 r2,r1⟩,rfl⟩;rw[List.drop_zero];exact r4
theorem EN.isSl (h:EN s E e H v xs F):Ea v xs.length:=by rcases h with⟨rfl,rfl,_⟩|⟨us,g,cap,cur,F',_,rfl,_⟩;exact⟨none,0,rfl,fun _=>rfl⟩;exact⟨_,_,rfl,fun h=>by cases h⟩
end EN
end
theorem D0.imp {α:Type}{E E':BC α}{s:Nat}{H:Array Obj}{v:Value}{xs:List α}{F:List Nat}(hi:∀ {H cs x F},E H cs x F→E' H cs x F)(h:D0 s E H v xs F):D0 s E' H v xs F:=by rcases h with h|⟨css,g,off,cap,cur,e,fr,F',h1,h2⟩;exact .inl h;exact .inr ⟨css,g,off,cap,cur,e,fr,F',h1.imp hi,h2⟩
def Ph (e:TypeId):Nat→BC Ex
 |0=>fun _ _ _ _=>False
 |d+1=>fun H cs x F=>∃v,cs=FQ x v∧Tl x∧EN 5 (Ph e d) e H v x.kids F
theorem B8 (e:TypeId):∀d,C5 5 (Ph e d)
 |0=>⟨fun h=>h.elim,fun h=>h.elim,fun h=>h.elim,fun h=>h.elim⟩
 |d+1=>by
  have ih:=B8 e d
  refine⟨?_,?_,?_,?_⟩
  rintro H cs e F ⟨v,rfl,_,_⟩;rfl
  rintro H cs e F ⟨v,rfl,_,h⟩ u hu
  unfold FQ at hu
  simp only[ze,z2,or_false]at hu
  rcases hu with rfl|rfl|rfl|rfl|rfl
  exact⟨rfl,rfl⟩
  exact⟨rfl,rfl⟩
  exact⟨rfl,rfl⟩
  exact⟨rfl,rfl⟩
  exact⟨(AL ih).cells h,(AL ih).one h⟩
  rintro H cs e F ⟨v,rfl,_,h⟩ b hb
  exact (AL ih).lt h b hb
  rintro H H' cs e F ⟨v,rfl,hr,h⟩ hb
  exact⟨v,rfl,hr,(AL ih).stable h hb⟩
theorem RH (e:TypeId):∀ {d:Nat}{H:Array Obj}{cs:List Value}{x:Ex}{F:List Nat},Ph e d H cs x F→J4 d H cs x F
 |0,_,_,_,_,h=>h.elim
 |d+1,_,_,_,_,⟨v,h1,h2,h3⟩=>⟨v,h1,h2,(h3.rd (B8 e d)).imp fun h=>RH e h⟩
def Qq (e:TypeId)(d:Nat):BC Fn:=fun H cs f F=>∃v,cs=FR f v∧BW f.params∧EN 5 (Ph e d) e H v f.outs F
theorem B4 (e:TypeId)(d:Nat):C5 3 (Qq e d):=by have ih:=AL (e:=e)<|B8 e d;refine⟨?_,?_,?_,?_⟩;rintro H cs e F ⟨v,rfl,_,_⟩;rfl;rintro H cs e F ⟨v,rfl,_,h⟩ u hu;unfold FR at hu;simp only[ze,z2,or_false]at hu;rcases hu with rfl|rfl|rfl;exact⟨rfl,rfl⟩;exact⟨rfl,rfl⟩;exact⟨ih.cells h,ih.one h⟩;rintro H cs e F ⟨v,rfl,_,h⟩ b hb;exact ih.lt h b hb;rintro H H' cs e F ⟨v,rfl,hr,h⟩ hb;exact⟨v,rfl,hr,ih.stable h hb⟩
theorem RI (e:TypeId){d:Nat}{H:Array Obj}{cs:List Value}{x:Fn}{F:List Nat}(h:Qq e d H cs x F):TB d H cs x F:=by obtain⟨v,h1,h2,h3⟩:=h;exact⟨v,h1,h2,(h3.rd (B8 e d)).imp fun h=>RH e h⟩
section
section res
variable {P:Program} {N:Nat} {ρ:Nat→Value} {w:World} {t:TypeId}
theorem IM {s b o:Nat}(ht:EG P t s=true){cs:List Value}(h:LD w.heap (.pointer (some ⟨b,o,none⟩)) cs)(hl:cs.length=s):(loadVar t ⟨b,o,none⟩).run P w=.ok (.agg cs.toArray) w:=by
 obtain⟨b',o',he,h⟩:=h
 injection he with he
 injection he with he
 injection he with hb ho _;subst hb;subst ho;unfold EG at ht;simp only[z7]at ht;obtain⟨h1,h2⟩:=ht;split at h1;rename_i fs hfs;split at h2;rename_i inf hin;have hs:inf.size=s:=by simpa using h2
 have hag:(isAgg t).run P w=.ok true w:=by
  unfold isAgg;simp only[Sem.run_bind,run_underlying hfs,Result.andThen_ok];rfl
 have hlc:=run_loadCells_list (P:=P) w ⟨b,o,none⟩ cs (fun j v hj=>by
  rw[Gi,BF];have hjl:j<cs.length:=(List.getElem?_eq_some_iff.1 hj).1;rw[h j hjl];simp[List.getD,hj])
 rw[hl,← hs]at hlc;simp[loadVar,hag,sizeOf,typeInfo,hin,hlc];cases h2;cases h1
theorem B0 {fn:Func}{R:Ending→World→Prop}{k s b:Nat}{ty:TypeId}{cs:List Value}(hr:fn.results=#[.cell k ty])(ha:EG P ty s=true)(hv:Bs N ρ (.tmp k)=.pointer (some ⟨b,0,none⟩))(hb:BX w.heap b cs)(hl:cs.length=s)
  (h:R (.returned (.agg cs.toArray)) w):bodyPost P fn R .ret (mk N ρ) w:=by
 refine⟨rfl,_,?_,h⟩;have hld:=IM (P:=P) ha (LD.of_box hb) hl;have hg:(mk N ρ).tmps.getD k undef=.pointer (some ⟨b,0,none⟩):=by rw[JP,hv]
 have hi:(asAddr (.pointer (some ⟨b,0,none⟩))).run P w=.ok ⟨b,0,none⟩ w:=rfl;unfold results;rw[hr];have hg':(mk N ρ).tmps[k]?.getD undef=.pointer (some ⟨b,0,none⟩):=by simpa using hg
 simp[Sem.run_bind,hg',hi,hld,Result.andThen]
end res
section fr
variable {α:Type} {E:BC α} {s:Nat} {e e':TypeId} {B U d:Nat} {H:Array Obj} {v:Value}
theorem Fr.isSlS {xs:List α}(h:Fr (EN s E e) B U H v xs):Go.Proofs.YtbcopolhaljhhaaGreat.Ea v xs.length:=by obtain⟨F,h,_⟩:=h;exact h.isSl
theorem RN.of_frF {S:List Nat}{xs:List Fn}(h:Fr (EN 3 (Qq e d) e') B U H v xs)(hS:∀b∈S,b<B):RP S d H v xs:=by obtain⟨F,h1,_,h3⟩:=h;exact⟨F,(h1.rd (B4 e d)).imp fun h=>RI e h,fun b hb hm=>by have:=h3 b hb;have:=hS b hm;omega⟩
end fr
section str
variable {P:Program} {ops:Array Oper} {w0:World} {Q:Act→World→Prop} {os:List Oper} {ks:List Nat} {N:Nat} {ρ:Nat→Value} {w:World}
 {d:Nat} {ty:TypeId} {pos:String} {aft:Array Edge} {g:Option (Nat×Bool)} {t e:TypeId}
theorem X9 {xt yt:TypeId}{x y:Operand}{a b:ByteArray}(hx:Bs N ρ x=.string a)(hy:Bs N ρ y=.string b)(hl:a.size+b.size≤9223372036854775807)(hu:Up ops N ρ ⟨some d,.binOp .add xt x y yt,ty,pos,aft,g⟩)
  (h:LW P ops w0 Q os ks (mk N (Cs ρ d (.string (a++b)))) w):LW P ops w0 Q (⟨some d,.binOp .add xt x y yt,ty,pos,aft,g⟩::os) (0::ks) (mk N ρ) w :=
 Cv (by decide) rfl hu _ (fun w' _=>by
  have he:(eqGuard .add xt x y (.string a) (.string b)).run P w'=.ok () w':=rfl
  have hr:(binOp .add xt (.string a) (.string b)).run P w'=.ok (.string (a++b)) w':=by
   have h2:=run_string_add_sum (P:=P) w' a b hl;simpa [binOp]using h2
  simp only[execOp,hx,hy,Sem.run_bind,he,Result.andThen_ok,hr,Sem.run_pure]) h
end str
end
section
theorem Nr:∀(cs:List Value)(k:Nat)(A:Array Value),k+cs.length≤A.size→((cs.zipIdx k).foldl (fun A p=>A.setIfInBounds (0+p.2) p.1) A).toList=A.toList.take k++cs++A.toList.drop (k+cs.length)
 |[],k,A,_=>by simp
 |c::cs,k,A,h=>by
  rw[z9]at h
  rw[List.zipIdx_cons,List.foldl_cons,Nr cs (k+1) _ (by simp;omega)]
  simp only[Array.toList_setIfInBounds,Nat.zero_add]
  have h1:(A.toList.set k c).take (k+1)=A.toList.take k++[c]:=by
   rw[List.take_succ_eq_append_getElem (by simp;omega),List.take_set,List.set_eq_of_length_le (by simp;omega)];simp
  have h2:(A.toList.set k c).drop (k+1+cs.length)=A.toList.drop (k+(c::cs).length):=by
   rw[List.drop_set_of_lt zO,z9,show k+1+cs.length=k+(cs.length+1)from by omega]
  rw[h1,h2,List.append_assoc (A.toList.take k)];simp
theorem RJ {cs:List Value}{A:Array Value}(h:A.size=cs.length):cs.zipIdx.foldl (fun A p=>A.setIfInBounds p.2 p.1) A=cs.toArray:=by apply Array.ext';have:=Nr cs 0 A zO;simp only[List.take_zero,zl,Nat.zero_add]at this;rw[List.drop_of_length_le (by rw[Array.length_toList];omega),List.append_nil]at this;simpa using this
section run
variable {P:Program} {w:World} {α:Type} {E:BC α} {s:Nat} {t ty e:TypeId} {b:Nat} {z:Value}
theorem TT {cs:List Value}(ht:P.underlying t=some (.slice e))(hi:TI P e s z b)(hs:0<s)(hs2:s≤1000)(hz:z.cells.size=s)(hc:cs.length=s) :
  (Instr.buildSlice t 1 #[(0,.agg cs.toArray)]).run P w=.ok (.slice (some ⟨w.heap.size,0,none⟩) 1 1) (w.alloc (.cells cs.toArray e)):=by
 obtain⟨i,h1,h2,h3,h4⟩:=hi.get;have h0:¬(s=0):=by omega
 have hA:((Array.range s).map (fun x=>z.cells[x % s]!)).size=cs.length:=by simp[hc]
 have hf:=RJ hA;have hbig:¬(s > 2 ^ 24):=by omega
 simp only[Instr.buildSlice,Sem.run_bind,run_underlying ht,Result.andThen_ok,sizeOf,typeInfo,zeroValue,h1,h2,h3,Nat.one_mul,Instr.fill,hz,Sem.run_pure];have hag:(Value.agg cs.toArray).cells=cs.toArray:=rfl;simp[h0,hbig,hag,hc,newRow,hz,h1,h2,h3,Instr.fill,run_underlying ht,typeInfo];rw[hf]
def Qr (E:BC α)(B U:Nat)(H:Array Obj)(cs:List Value)(x:α):Prop:=∃G,E H cs x G∧G.Nodup∧∀b∈G,B≤b∧b<U
theorem K1 (hE:C5 s E){css:List (List Value)}{xs:List α}{F:List Nat}{cur:Array Value}{cap:Nat}(h:CI E w.heap css xs F)(hl:xs.length≤cap)(hm:cap≤maxLen)(hsz:cur.size=cap*s)(hc:cur.toList.take (xs.length*s)=css.flatten) :
  EN s E e (w.alloc (.cells cur e)).heap (.slice (some ⟨w.heap.size,0,none⟩) xs.length cap) xs (w.heap.size::F):=by
 refine .inr ⟨css,w.heap.size,cap,cur,F,h.stable hE fun b hb=>?_,rfl,?_,hl,hm,hsz,hc,rfl⟩;exact Below.heap_alloc _ _ _<|h.lt hE b hb;show(w.heap.push _)[w.heap.size]? = _;simp
def Ja {α β:Type}(E:Array Obj→β→α→List Nat→Prop)(S:Nat→Prop)(H:Array Obj)(v:β)(x:α):Prop:=∃F,E H v x F∧F.Nodup∧∀b∈F,S b
theorem Ja.chg {α:Type}{E:Bx α}(hE:Cb E){S:Nat→Prop}{w w':World}{v:Value}{x:α}{F:List Nat}(h:Ja E S w.heap v x)(c:Ax F w w')(hF:∀b∈F,¬S b):Ja E S w'.heap v x:=by obtain⟨G,h1,h2,h3⟩:=h;exact⟨G,hE.stable h1 fun b hb=>c.block b (hE.lt h1 b hb) fun hm=>hF b hm (h3 b hb),h2,h3⟩
theorem RK (hE:C5 s E)(ht:P.underlying t=some (.slice e))(hi:TI P e s z b)(hz:z.cells.size=s)(hs:0<s){v:Value}{xs:List α}{S T:Nat→Prop}(hv:Ja (EN s E e) S w.heap v xs)
  {a:Value} {y:α} (ha:Ja (EN s E e) T w.heap a [y]) (hST:∀b,S b→T b→False) (hbytes:(xs.length+1)*b≤140737488355328) (hmx:xs.length+1≤maxLen) :
  ∃v' w' F,(Builtin.append_ #[t,t] ty #[v,a]).run P w=.ok v' w'∧Ja (EN s E e) (fun b=>S b∨T b∨b=w.heap.size) w'.heap v' (xs++[y])∧Ax F w w'∧∀c∈F,S c:=by
 obtain⟨F,hv1,hn,hF⟩:=hv;obtain⟨G,ha1,hnG,hG⟩:=ha;obtain⟨i,h1,h2,h3,h4⟩:=hi.get;subst h4;have hsmall:xs.length+1≤9223372036854775807:=by simp only[maxLen]at hmx;omega
 rcases ha1 with⟨_,h0,_⟩|⟨cas,ga,capa,cura,G',hels,rfl,hga,a1,a2,a3,a4,rfl⟩;cases h0;have hnG':=List.nodup_cons.1 hnG;have hfl:cas.flatten.length=s:=by have:=hels.flen hE;simpa using this
 simp only[zd,Nat.one_mul]at a4 a1;have hnews:∀j u,cas.flatten[j]? = some u→w.cell? ((⟨ga,0,none⟩:Addr).add j)=some u:=by
  intro j u hj;have e1:(⟨ga,0,none⟩:Addr).add j=⟨ga,j,none⟩:=by
   unfold Addr.add;split;rename_i hh;subst hh;rfl;simp
  rw[e1,BF];simp only[C8,hga];rw[← a4,List.getElem?_take]at hj;split at hj;simpa using hj;cases hj
 have h1c:∀u∈cas.flatten,u.oneCell'=true:=fun u hu=>(hels.one hE u hu).2;have hl1:cas.flatten.length=1*i.size:=by rw[h3,hfl,Nat.one_mul]
 have made:∀(w1:World) (ous:List (List Value)) (F0:List Nat) (rest:Nat),w1.heap=w.heap→w1.os=w.os→w1.tape=w.tape→w1.output=w.output→CI E w.heap ous xs F0→(∀c∈F0,c∈F)→F0.Nodup →
   (xs.length+1+rest)≤maxLen →
   Ja (EN s E e) (fun b=>S b∨T b∨b=w.heap.size) (w1.alloc (.cells (ous.flatten.toArray++cas.flatten.toArray++Builtin.zeroCells z.cells rest) e)).heap (.slice (some ⟨w.heap.size,0,none⟩) (xs.length+1) (xs.length+1+rest)) (xs++[y]) ∧
    Ax ([]:List Nat) w (w1.alloc (.cells (ous.flatten.toArray++cas.flatten.toArray++Builtin.zeroCells z.cells rest) e)):=by
  intro w1 ous F0 rest hh ho htp hop hou hsub hnd hmax;have happ:=hou.append hels;have hofl:=hou.flen hE;have hzc:(Builtin.zeroCells z.cells rest).size=rest*s:=by simp[Builtin.zeroCells,hz]
  have hsz:(ous.flatten.toArray++cas.flatten.toArray++Builtin.zeroCells z.cells rest).size=(xs.length+1+rest)*s:=by
   rw[Nat.add_mul,Nat.add_mul,Nat.one_mul];simp only[Array.size_append,List.size_toArray,hzc,hfl,hofl]
  have hlen:(xs++[y]).length=xs.length+1:=by simp
  have hnew:=K1 (e:=e) (w:=w1) hE (css:=ous++cas) (xs:=xs++[y]) (F:=F0++G') (cur:=ous.flatten.toArray++cas.flatten.toArray++Builtin.zeroCells z.cells rest) (cap:=xs.length+1+rest)
   (by rw[hh];exact happ) (by rw[hlen];omega) hmax hsz (by
    rw[hlen,Array.toList_append,Array.toList_append,List.flatten_append];have e1:(xs.length+1)*s=(ous.flatten++cas.flatten).length:=by rw[z4,hofl,hfl,Nat.add_mul,Nat.one_mul]
    rw[e1];exact List.take_left)
  rw[hh,hlen]at hnew;have hnn:(w.heap.size::(F0++G')).Nodup:=by
   rw[List.nodup_cons];refine⟨fun hm=>?_,?_⟩;have:=happ.lt hE _ hm;omega;rw[List.nodup_append];refine⟨hnd,hnG'.2,?_⟩;rintro x hx y hy rfl;exact hST _ (hF x<|hsub x hx)<|hG x<|z3 _ hy
  refine⟨⟨_,hnew,hnn,fun c hc=>?_⟩,ho,htp,hop,?_,fun k hk _=>?_⟩;rcases ze.1 hc with rfl|hc;exact .inr<|.inr rfl;rcases zi.1 hc with hc|hc;exact .inl<|hF c<|hsub c hc;exact .inr<|.inl<|hG c<|z3 _ hc;show w.heap.size≤(w1.heap.push _).size;rw[hh];simp;have:=Below.heap_alloc w1 (.cells (ous.flatten.toArray++cas.flatten.toArray++Builtin.zeroCells z.cells rest) e) k (by rw[hh];exact hk);rw[this,hh]
 rcases hv1 with⟨rfl,rfl,rfl⟩|⟨ous,gv,capv,curv,F0,hels0,rfl,hgv,r1,r2,r3,r4,rfl⟩;have hr:=run_append_nil (P:=P) w t ty e i z ht h1 h2 ⟨ga,0,none⟩ 1 capa cas.flatten hl1 hnews (by decide) (by decide) (by simp at hbytes ⊢;omega);have hge:=grownCap_ge w 1 0 e;have hgm:=grownCap_le_maxLen w 1 0 e (by simpa using hmx);obtain⟨q1,q2⟩:=made w.drew [] [] (grownCap w 1 0 e-1) rfl rfl rfl rfl rfl (fun c hc=>by cases hc) zk (by simp;omega);refine⟨_,_,[],hr,?_,?_,fun c hc=>by cases hc⟩;have ea:(([]:List α).length+1+(grownCap w 1 0 e-1))=grownCap w 1 0 e:=by simp;omega
 rw[ea]at q1;simpa using q1;simpa using q2;have hn':=List.nodup_cons.1 hn;have hofl:=hels0.flen hE;by_cases hroom:xs.length+1≤capv;have hbnd:xs.length*s+s≤curv.size:=by rw[r3,← Nat.succ_mul];exact Nat.mul_le_mul_right s hroom
 have hr:=run_append_room (P:=P) w t ty e i ht h1 gv xs.length capv curv hgv ⟨ga,0,none⟩ 1 capa cas.flatten hl1 hnews h1c hroom (by rw[h3,hfl];exact hbnd);rw[h3]at hr;have hgF:gv∉F0:=hn'.1;have hgG:gv∉G':=fun hm=>hST _ (hF gv (z0 ..)) (hG gv (z3 _ hm));refine⟨_,_,[gv],hr,⟨gv::(F0++G'),.inr ⟨ous++cas,gv,capv,_,F0++G',?_,by rw[z4,zd],setRow_heap w gv curv _ e _ hgv,by rw[z4,zd];exact hroom,r2,?_,?_,rfl⟩,?_,fun c hc=>?_⟩,⟨rfl,rfl,rfl,by simp,fun k _ hk=>setRow_other w gv k _ fun hh=>hk (by simp[hh])⟩,fun c hc=>by rw[A9 hc];exact hF gv (z0 ..)⟩;refine (hels0.append hels).stable hE fun c hc=>setRow_other w gv c _ fun hcg=>?_;subst hcg;rcases zi.1 hc with hc|hc;exact hgF hc;exact hgG hc;rw[← r3];simp only[List.size_toArray,z4,List.length_take,List.length_drop,Array.length_toList];omega;rw[z4,zd];simp only[List.flatten_append];rw[r4];have e1:(xs.length+1)*s=(ous.flatten++cas.flatten).length:=by rw[z4,hofl,hfl,Nat.add_mul,Nat.one_mul]
 rw[e1];exact List.take_left;rw[List.nodup_cons,List.nodup_append];refine⟨fun hm=>?_,hn'.2,hnG'.2,?_⟩;rcases zi.1 hm with hm|hm;exact hgF hm;exact hgG hm;rintro x hx y hy rfl;exact hST _ (hF x<|z3 _ hx)<|hG x<|z3 _ hy;rcases ze.1 hc with rfl|hc;exact .inl<|hF c (z0 ..);rcases zi.1 hc with hc|hc;exact .inl<|hF c<|z3 _ hc;exact .inr<|.inl<|hG c<|z3 _ hc;have holds:∀j u,ous.flatten[j]? = some u→w.cell? ((⟨gv,0,none⟩:Addr).add j)=some u:=by
  intro j u hj;have e1:(⟨gv,0,none⟩:Addr).add j=⟨gv,j,none⟩:=by
   unfold Addr.add;split;rename_i hh;subst hh;rfl;simp
  rw[e1,BF];simp only[C8,hgv];rw[← r4,List.getElem?_take]at hj;split at hj;simpa using hj;cases hj
 have hr:=run_append_grow (P:=P) w t ty e i z ht h1 h2 ⟨gv,0,none⟩ xs.length capv ous.flatten (by rw[h3,hofl]) holds ⟨ga,0,none⟩ 1 capa cas.flatten hl1 hnews zO zO<|growslice_fits zO hbytes;have hge:=grownCap_ge w (xs.length+1) capv e;have hgm:=grownCap_le_maxLen w (xs.length+1) capv e hmx;obtain⟨q1,q2⟩:=made w.drew ous F0 (grownCap w (xs.length+1) capv e-(xs.length+1)) rfl rfl rfl rfl hels0 (fun c hc=>z3 _ hc) hn'.2 zO;refine⟨_,_,[],hr,?_,q2,fun c hc=>by cases hc⟩;have ea:(xs.length+1+(grownCap w (xs.length+1) capv e-(xs.length+1)))=grownCap w (xs.length+1) capv e:=by omega
 rw[ea]at q1;exact q1
theorem RL (hE:C5 s E)(ht:P.underlying t=some (.slice e))(hi:TI P e s z b)(hz:z.cells.size=s)(hs:0<s){v:Value}{xs:List α}{B U:Nat}(hv:Fr (EN s E e) B U w.heap v xs)(hB:B≤w.heap.size)
  {a:Value} {y:α} {B' U':Nat} (ha:Fr (EN s E e) B' U' w.heap a [y]) (hU:U≤B') (hBB:B≤B') (hbytes:(xs.length+1)*b≤140737488355328) (hmx:xs.length+1≤maxLen) :
  ∃v' w' F,(Builtin.append_ #[t,t] ty #[v,a]).run P w=.ok v' w'∧Fr (EN s E e) B w'.heap.size w'.heap v' (xs++[y])∧Ax F w w'∧∀c∈F,B≤c∧c<U:=by
 obtain⟨v',w',F,r1,⟨G,h1,h2,h3⟩,r3,r4⟩:=RK (P:=P) (ty:=ty) hE ht hi hz hs (S:=fun b=>B≤b∧b<U) (T:=fun b=>B'≤b∧b<U') hv ha (fun b h1 h2=>by omega) hbytes hmx;exact⟨v',w',F,r1,⟨G,h1,h2,fun b hb=>⟨by have:=h3 b hb;omega,(AL hE).lt h1 b hb⟩⟩,r3,r4⟩
end run
section ops
variable {P:Program} {ops:Array Oper} {w0:World} {Q:Act→World→Prop} {os:List Oper} {ks:List Nat} {N:Nat} {ρ:Nat→Value} {w:World}
 {d:Nat} {ty:TypeId} {pos:String} {aft:Array Edge} {g:Option (Nat×Bool)} {t e:TypeId} {z:Value} {b s:Nat} {α:Type} {E:BC α}
theorem BJ (hE:C5 s E){x:Operand}{cs:List Value}{y:α}{B U:Nat}(ht:P.underlying t=some (.slice e))(hi:TI P e s z b)(hz:z.cells.size=s)(hs:0<s∧s≤1000)(hx:Bs N ρ x=.agg cs.toArray)(hy:Qr E B U w.heap cs y)(hB:B≤w.heap.size)
  (hu:Up ops N ρ ⟨some d,.buildSlice t 1 #[(0,x)],ty,pos,aft,g⟩)
  (h:∀v w1,AK w w1→w1.heap.size=w.heap.size+1→Fr (EN s E e) B w1.heap.size w1.heap v [y]→LW P ops w0 Q os ks (mk N (Cs ρ d v)) w1) :
  LW P ops w0 Q (⟨some d,.buildSlice t 1 #[(0,x)],ty,pos,aft,g⟩::os) (3::ks) (mk N ρ) w:=by
 obtain⟨F,h1,h2,h3⟩:=hy;have hl:=hE.len h1;have hr:=TT (P:=P) (w:=w) ht hi hs.1 hs.2 hz hl;have hrun:(execOp (Bs N ρ) ⟨some d,.buildSlice t 1 #[(0,x)],ty,pos,aft,g⟩).run P w=.ok (.value (.slice (some ⟨w.heap.size,0,none⟩) 1 1)) (w.alloc (.cells cs.toArray e)):=by
  simp only[execOp,zc,zf,zh,Sem.run_bind,hx,hr,Result.andThen_ok,Sem.run_pure]
 refine J2 rfl hu _ _ hrun (BM _ _)<|h _ _ (BM _ _) (by simp) ?_;have hn:=K1 (e:=e) (w:=w) hE (css:=[cs]) (xs:=[y]) (F:=F++[]) (cur:=cs.toArray) (cap:=1) ⟨F,[],rfl,h1,rfl⟩ (by simp) (by simp[maxLen]) (by simp[hl]) (by simp[← hl]);refine⟨_,hn,?_,fun c hc=>?_⟩;rw[List.append_nil,List.nodup_cons];exact⟨fun hm=>by have:=hE.lt h1 _ hm;omega,h2⟩;have hlt:=(AL hE).lt hn c hc;refine⟨?_,hlt⟩;rcases ze.1 hc with rfl|hc;exact hB;exact (h3 c (by simpa using hc)).1
theorem Jb (hE:C5 s E){x y:Operand}{v a:Value}{xs:List α}{y0:α}{B U B' U':Nat}(ht:P.underlying t=some (.slice e))(hi:TI P e s z b)(hz:z.cells.size=s)(hs:0<s)(hx:Bs N ρ x=v)(hy:Bs N ρ y=a)(hv:Fr (EN s E e) B U w.heap v xs)(hB:B≤w.heap.size)
  (ha:Fr (EN s E e) B' U' w.heap a [y0]) (hU:U≤B') (hBB:B≤B') (hbytes:(xs.length+1)*b≤140737488355328) (hmx:xs.length+1≤maxLen) (hu:Up ops N ρ ⟨some d,.call ⟨.builtin .append,#[x,y],#[t,t]⟩,ty,pos,aft,g⟩)
  (h:∀v1 w1 F,Ax F w w1→(∀c∈F,B≤c∧c<U)→Fr (EN s E e) B w1.heap.size w1.heap v1 (xs++[y0])→LW P ops w0 Q os ks (mk N (Cs ρ d v1)) w1) :
  LW P ops w0 Q (⟨some d,.call ⟨.builtin .append,#[x,y],#[t,t]⟩,ty,pos,aft,g⟩::os) (4::ks) (mk N ρ) w:=by
 obtain⟨v1,w1,F,r1,r2,r3,r4⟩:=RL (P:=P) (ty:=ty) hE ht hi hz hs hv hB ha hU hBB hbytes hmx;exact M3 rfl hu v1 w1 (by simp only[execOp,resolve,invoke,builtin,zc,zf,zh,Sem.run_bind,Sem.run_pure,Result.andThen_ok,hx,hy,r1])<|h v1 w1 F r3 r4 r2
end ops
theorem Gv {α:Type}{s:Nat}{E:BC α}{e:TypeId}(B U:Nat)(H:Array Obj):Fr (EN s E e) B U H (.slice none 0 0) ([]:List α):=⟨[],.inl ⟨rfl,rfl,rfl⟩,zk,fun c hc=>by cases hc⟩
end
section
mutual
def XQ:Ex→Bool
 |.mk k _ _ _ l=>(decide (k≠6) && decide (k≠8)) && NR l
def NR:List Ex→Bool
 |[]=>true
 |e::l=>XQ e && NR l
end
theorem Of (k n q c:Int)(l:List Ex):XQ (.mk k n q c l)=((decide (k≠6) && decide (k≠8)) && NR l):=by rw[XQ]
theorem Ns (l:List Ex)(e:Ex):NR (l++[e])=(NR l && XQ e):=by
 induction l with
 |nil=>rw[zl,NR,NR];simp[NR]
 |cons a l ih=>rw[List.cons_append,NR,NR,ih,Bool.and_assoc]
def LU:Nat→Int
 |0=>1
 |d+1=>1+4*LU d
def Ho:Nat→Nat
 |0=>30
 |d+1=>50+4*Ho d
def Xa:Nat→Int→Int
 |0,_=>0
 |n+1,k=>Xa n k+k
def Qg:Nat→Nat→Nat
 |0,_=>0
 |n+1,k=>Qg n k+k
theorem Hp:∀d,1≤LU d
 |0=>by decide
 |d+1=>by have:=Hp d;show 1≤1+4*LU d;omega
theorem UX {d:Nat}(h:1≤d):LU d=1+4*LU (d-1):=by obtain⟨d,rfl⟩:∃k,d=k+1:=⟨d-1,zO⟩;rfl
theorem Y3 {d:Nat}(h:1≤d):Ho d=50+4*Ho (d-1):=by obtain⟨d,rfl⟩:∃k,d=k+1:=⟨d-1,zO⟩;rfl
theorem Og:∀d,30≤Ho d
 |0=>by decide
 |d+1=>by show 30≤50+4*Ho d;omega
theorem Nt {i:Nat}{k:Int}(hk:0≤k)(hi:i≤4):0≤Xa i k∧Xa i k≤4*k:=by rcases i with _|_|_|_|_|i;all_goals first|(exfalso;omega)|(simp only[Xa];omega)
theorem LX {i k:Nat}(hi:i≤4):Qg i k≤4*k:=by rcases i with _|_|_|_|_|i;all_goals first|(exfalso;omega)|(simp only[Qg];omega)
structure Pi (p:List Fn)(funcs vars:Int)(pl:Bool)(d:Nat)(l0 l1:Int)(ex:Ex):Prop where
 wf:wf p funcs ex vars=true
 sz:(ex.size:Int)+4*max l1 1≤1+4*max l0 1
 dp:ex.deep≤d+1
 pl:pl=true→XQ ex=true
 lo:l0-LU d≤l1∧l1≤l0-1
structure Oh (p:List Fn)(vars:Int)(ex:Ex):Prop where
 wf:∀funcs,wf p funcs ex vars=true
 sz:ex.size=1
 dp:ex.deep=1
 pl:XQ ex=true
structure Y4 (p:List Fn):Prop where
 len:p.length≤1000
 par:∀k,k<p.length→0≤(p.getD k Fn.zero).params∧(p.getD k Fn.zero).params≤4
 outs:∀k,k<p.length→1≤(p.getD k Fn.zero).outs.length∧(p.getD k Fn.zero).outs.length≤12
theorem Oh.num {p:List Fn}{vars n:Int}(h:0≤n∧n<1000003):Oh p vars (.mk 1 n 0 0 []) :=
 ⟨fun funcs=>by
  rw[Md rfl];unfold Gk DI
  simp[Ex.kind,Ex.pick,Ex.count,Ex.kids,Ex.num,Dl];omega,by rw[Ex.size,Ex.sizes],by rw[Ex.deep,Ex.deeps],by rw[Of];rfl⟩
theorem Oh.var {p:List Fn}{vars n:Int}(h:0≤n∧n<vars):Oh p vars (.mk 2 n 0 0 []) :=
 ⟨fun funcs=>by
  rw[Md rfl];unfold Gk DI
  simp[Ex.kind,Ex.pick,Ex.count,Ex.kids,Ex.num,BQ];omega,by rw[Ex.size,Ex.sizes],by rw[Ex.deep,Ex.deeps],by rw[Of];rfl⟩
theorem Oh.ok {p:List Fn}{vars funcs l0:Int}{ex:Ex}{pl:Bool}(h:Oh p vars ex)(d:Nat):Pi p funcs vars pl d l0 (l0-1) ex:=by have:=Hp d;exact⟨h.wf funcs,by rw[h.sz];omega,by rw[h.dp];omega,fun _=>h.pl,zO⟩
def kn (k:Int):Int:=if k=1∨k=2 then 0 else if k=3∨k=4∨k=5∨k=6∨k=9 then 2 else if k=7 then 1 else if k=8 then 3 else -1
structure Pj (p:List Fn)(funcs vars:Int)(pl:Bool)(k:Int)(d:Nat)(l0 l1:Int)(xs:List Ex)(i:Nat):Prop where
 len:xs.length=i
 wf:∀j,j<i→wf p funcs (xs.getD j Ex.zero) (if k=9∧j=1 then vars+1 else vars)=true
 sz:(Ex.sizes xs:Int)+4*max l1 1≤i+4*max l0 1
 dp:Ex.deeps xs≤d
 pl:pl=true→NR xs=true
 lo:l0-Xa i (LU (d-1))≤l1∧l1≤l0
theorem Pj.nil (p:List Fn)(funcs vars:Int)(pl:Bool)(k:Int)(d:Nat)(l0:Int):Pj p funcs vars pl k d l0 l0 [] 0 :=
 ⟨rfl,fun j hj=>by omega,by rw[Ex.sizes];omega,by rw[Ex.deeps];omega,fun _=>by rw[NR],by show l0-0≤l0∧l0≤l0;omega⟩
theorem Pj.snoc {p:List Fn}{funcs vars own:Int}{pl:Bool}{k:Int}{d:Nat}{l0 l1 l2:Int}{xs:List Ex}{i:Nat}{x:Ex}(h:Pj p funcs vars pl k d l0 l1 xs i)(hd:1≤d)
  (ho:own=if k=9∧i=1 then vars+1 else vars) (hx:Pi p funcs own pl (d-1) l1 l2 x):Pj p funcs vars pl k d l0 l2 (xs++[x]) (i+1):=by
 have hlen:=h.len;refine⟨by simp[hlen],fun j hj=>?_,?_,?_,fun hp=>?_,?_⟩;by_cases e:j=i;subst e;rw[← hlen,Kl rfl,hlen,← ho];exact hx.wf;rw[JA (by omega)];exact h.wf j zO;have h1:=h.sz;have h2:=hx.sz;rw[HV];omega;have h1:=h.dp;have h2:=hx.dp;rw[HW];omega;rw[Ns,h.pl hp,hx.pl hp];rfl;have h1:=h.lo;have h2:=hx.lo;have h3:Xa (i+1) (LU (d-1))=Xa i (LU (d-1))+LU (d-1):=rfl;omega
theorem Pj.node {p:List Fn}{funcs vars:Int}{pl:Bool}{k num pick cnt:Int}{d i:Nat}{l0 l1:Int}{xs:List Ex}(h:Pj p funcs vars pl k d (l0-1) l1 xs i)(hd:1≤d)(hi:i≤4)(hl:2≤l0)
  (hp:pl=true→k≠6∧k≠8) (hw:Gk p funcs vars (.mk k num pick cnt xs)=true):Pi p funcs vars pl d l0 l1 (.mk k num pick cnt xs):=by
 have hn:=UX hd;have ht:=Nt (k:=LU (d-1)) (by have:=Hp (d-1);omega) hi;have h1:=h.lo;have h2:=h.sz;refine⟨(Me hw fun j hj=>?_).symm,?_,?_,fun hq=>?_,zO⟩;exact h.wf j (by rw[← h.len];exact hj);rw[Ex.size];omega;rw[Ex.deep];have:=h.dp;omega;rw[Of,h.pl hq,A5 (hp hq).1,A5 (hp hq).2];rfl
theorem Xb {p:List Fn}{funcs vars k:Int}{xs:List Ex}(hk:k=3∨k=4∨k=5∨k=6∨k=7∨k=8∨k=9)(hl:((xs.length:Nat):Int)=kn k):Gk p funcs vars (.mk k 0 0 0 xs)=true:=by
 have h2:k=3∨k=4∨k=5∨k=6∨k=9→xs.length=2:=fun h=>by
  have:kn k=2:=by unfold kn;rw[if_neg zO,if_pos (by omega)]
  omega
 have h1:k=7→xs.length=1:=fun h=>by
  have:kn k=1:=by unfold kn;rw[if_neg zO,if_neg zO,if_pos h]
  omega
 have h3:k=8→xs.length=3:=fun h=>by
  have:kn k=3:=by unfold kn;rw[if_neg zO,if_neg zO,if_neg zO,if_pos h]
  omega
 unfold Gk DI;rcases hk with rfl|rfl|rfl|rfl|rfl|rfl|rfl;simp[Ex.kind,Ex.pick,Ex.count,Ex.kids,Ex.num,h2];simp[Ex.kind,Ex.pick,Ex.count,Ex.kids,Ex.num,h2];simp[Ex.kind,Ex.pick,Ex.count,Ex.kids,Ex.num,h2];simp[Ex.kind,Ex.pick,Ex.count,Ex.kids,Ex.num,h2];simp[Ex.kind,Ex.pick,Ex.count,Ex.kids,Ex.num,h1];simp[Ex.kind,Ex.pick,Ex.count,Ex.kids,Ex.num,h3];simp[Ex.kind,Ex.pick,Ex.count,Ex.kids,Ex.num,h2]
theorem Xc {p:List Fn}{funcs vars k num pick cnt:Int}{xs:List Ex}(hk:(k=10∧cnt=0)∨(k=11∧((p.getD num.toNat Fn.zero).outs.length:Int)=(p.getD num.toNat Fn.zero).params∧0≤cnt∧cnt≤8))
  (hn:0≤num∧num<funcs) (hl:((xs.length:Nat):Int)=(p.getD num.toNat Fn.zero).params) (hq:0≤pick∧pick<((p.getD num.toNat Fn.zero).outs.length:Int)):Gk p funcs vars (.mk k num pick cnt xs)=true:=by
 have h1:GS num 0 (funcs-1)=true:=BQ.2 zO;have h2:GS pick 0 (((p.getD num.toNat Fn.zero).outs.length:Int)-1)=true:=BQ.2 zO;have h6:decide ((xs.length:Int)=(p.getD num.toNat Fn.zero).params)=true:=A5 hl;unfold Gk;rcases hk with⟨rfl,rfl⟩|⟨rfl,h3,h4⟩;show(GS num 0 (funcs-1) && (decide ((xs.length:Int)=(p.getD num.toNat Fn.zero).params) && (GS pick 0 (((p.getD num.toNat Fn.zero).outs.length:Int)-1) && decide ((0:Int)=0))))=true;rw[h1,h2,h6];rfl;have h5:GS cnt 0 8=true:=BQ.2 h4;show(GS num 0 (funcs-1) && (decide ((xs.length:Int)=(p.getD num.toNat Fn.zero).params) && (GS pick 0 (((p.getD num.toNat Fn.zero).outs.length:Int)-1) && (decide (((p.getD num.toNat Fn.zero).outs.length:Int)=(p.getD num.toNat Fn.zero).params) && GS cnt 0 8))))=true;rw[h1,h2,h5,h6,A5 h3];rfl
theorem Kv {a b c k:Int}{l:List Ex}(h1:-9223372036854775808≤a∧a≤9223372036854775807)(h2:-9223372036854775808≤b∧b≤9223372036854775807)(h3:-9223372036854775808≤c∧c≤9223372036854775807)(h4:-9223372036854775808≤k∧k≤9223372036854775807):Tl (.mk a b c k l):=⟨h1,h2,h3,h4⟩
theorem DA {a b c:Nat}(h:c∈[a,b]):c=a∨c=b:=by simpa using h
theorem FG {a b:Nat}:∀x∈[a],x∈[a,b]:=fun x hx=>by rw[A9 hx];exact z0 ..
theorem Xd {a b:Nat}:∀x∈[b],x∈[a,b]:=fun x hx=>by rw[A9 hx];exact z3 _ (z0 ..)
theorem Ax.new2 {F:List Nat}{g g':Nat}{a b c:World}(h:Ax F a b)(k:Ax [g,g'] b c)(hg:g∈F)(hg':a.heap.size≤g'):Ax F a c :=
 ⟨k.os.trans h.os,k.tape.trans h.tape,k.output.trans h.output,A8 h.size k.size,fun i hi hm=>(k.block i (Nat.lt_of_lt_of_le hi h.size) fun hq=>by
  rcases DA hq with rfl|rfl
  exact hm hg
  omega).trans (h.block i hi hm)⟩
theorem RN.of_frF2 {e e':TypeId}{d B U:Nat}{H:Array Obj}{v:Value}{S:List Nat}{xs:List Fn}(h:Fr (EN 3 (Qq e d) e') B U H v xs)(hS:∀b∈S,b<B∨U≤b):RP S d H v xs:=by obtain⟨F,h,_,hF⟩:=h;exact⟨F,(h.rd (B4 e d)).imp fun h=>RI e h,fun b hb hm=>by have:=hF b hb;have:=hS b hm;omega⟩
theorem Qr.mk1 {e:TypeId}{d B U:Nat}{H:Array Obj}{v:Value}{x:Ex}(hd:1≤d)(hr:Tl x)(h:Fr (EN 5 (Ph e (d-1)) e) B U H v x.kids):Qr (Ph e d) B U H (FQ x v) x:=by obtain⟨d,rfl⟩:∃k,d=k+1:=⟨d-1,zO⟩;obtain⟨G,h1,h2,h3⟩:=h;exact⟨G,⟨v,rfl,hr,h1⟩,h2,h3⟩
theorem Qr.mkF {e:TypeId}{d B U:Nat}{H:Array Obj}{v:Value}{x:Fn}(hr:BW x.params)(h:Fr (EN 5 (Ph e d) e) B U H v x.outs):Qr (Qq e d) B U H (FR x v) x:=by obtain⟨G,h1,h2,h3⟩:=h;exact⟨G,⟨v,rfl,hr,h1⟩,h2,h3⟩
theorem ZM {k:Int}(h:k=1∨k=2):kn k=0:=by unfold kn;rw[if_pos h]
theorem ZN {k:Int}(h:k=3∨k=4∨k=5∨k=6∨k=9):kn k=2:=by unfold kn;rw[if_neg zO,if_pos h]
theorem ZO {k:Int}(h:k=7):kn k=1:=by unfold kn;rw[if_neg zO,if_neg zO,if_pos h]
theorem ZP {k:Int}(h:k=8):kn k=3:=by unfold kn;rw[if_neg zO,if_neg zO,if_neg zO,if_pos h]
theorem ZQ {k:Int}(h1:¬k=1)(h2:¬k=2)(h3:¬k=3)(h4:¬k=4)(h5:¬k=5)(h6:¬k=6)(h7:¬k=7)(h8:¬k=8)(h9:¬k=9):kn k = -1:=by unfold kn;rw[if_neg zO,if_neg zO,if_neg zO,if_neg (by omega)]
theorem ZR {k:Int}(h:k=3∨k=4∨k=5∨k=6∨k=7∨k=8∨k=9):1≤kn k∧kn k≤3:=by rcases h with rfl|rfl|rfl|rfl|rfl|rfl|rfl <;> decide
theorem RM {d:Nat}(h:d≤8):LU d≤100000:=by
 have:∀k:Fin 9,LU k.val≤100000:=by decide
 exact this ⟨d,zO⟩
theorem Oh.okc {p:List Fn}{vars funcs l0:Int}{ex:Ex}{pl:Bool}(h:Oh p vars ex)(d:Nat):Pi p funcs vars pl d (l0+1) l0 ex:=by have h:=h.ok (funcs:=funcs) (pl:=pl) (l0:=l0+1) d;rwa [show l0+1-1=l0 from by omega]at h
theorem Pi.up1 {p:List Fn}{vars funcs l0 l1:Int}{ex:Ex}{pl:Bool}{d:Nat}(h:Pi p funcs vars pl d (l0-1+1) l1 ex):Pi p funcs vars pl d l0 l1 ex:=by rwa [show l0-1+1=l0 from by omega]at h
theorem Pj.node1 {p:List Fn}{funcs vars:Int}{pl:Bool}{k num pick cnt:Int}{d i:Nat}{l0 l1:Int}{xs:List Ex}(h:Pj p funcs vars pl k d l0 l1 xs i)(hd:1≤d)(hi:i≤4)(hl:1≤l0)
  (hp:pl=true→k≠6∧k≠8) (hw:Gk p funcs vars (.mk k num pick cnt xs)=true):Pi p funcs vars pl d (l0+1) l1 (.mk k num pick cnt xs) :=
 Pj.node (by rwa [show l0+1-1=l0 from by omega]) hd hi zO hp hw
namespace Jx
variable [J:JR] {P:Program} {ops:Array Oper} {w0:World} {Q:Act→World→Prop}
theorem j1 {o:Oper}{os:List Oper}{ks:List Nat}{a:Act}{w:World}(h:_root_.Go.Proofs.YtbcopolhaljhhaaGreat.LW P ops w0 (fun a w=>LW P ops w0 Q os ks a w) [o] [0] a w):LW P ops w0 Q (o::os) (0::ks) a w:=by simp only[_root_.Go.Proofs.YtbcopolhaljhhaaGreat.LW]at h;simp only[LW];split;rename_i hw;rw[if_pos hw]at h;unfold _root_.Go.Proofs.YtbcopolhaljhhaaGreat.Bk at h;unfold Bk;rw[if_pos (by decide)]at h;rw[if_pos (by decide)];obtain⟨v,h1,h2⟩:=h;exact⟨v,fun w' _=>h1 w' trivial,h2⟩;rename_i hw;rw[if_neg hw]at h;exact h
theorem TU:∀ {os:List Oper}{ks:List Nat}{a:Act}{w:World}(_:ks.all (fun k=>k == 0 || k == 3 || k == 4)=true)(_:_root_.Go.Proofs.YtbcopolhaljhhaaGreat.LW P ops w0 Q os ks a w),LW P ops w0 Q os ks a w
 |[],_,_,_,_,h=>h
 |_::_,[],_,_,_,h=>h.elim
 |o::os,k::ks,a,w,hk,h=>by
  simp only[List.all_cons,z7]at hk
  simp only[_root_.Go.Proofs.YtbcopolhaljhhaaGreat.LW]at h
  simp only[LW]
  split
  rename_i hw
  rw[if_pos hw]at h
  unfold _root_.Go.Proofs.YtbcopolhaljhhaaGreat.Bk at h
  unfold Bk
  split at h
  rename_i h2
  rw[if_pos h2]
  have:k=0:=by
   have:=hk.1;simp only[Bool.or_eq_true,beq_iff_eq]at this;omega
  subst this;obtain⟨v,h1,h3⟩:=h;exact⟨v,fun w' _=>h1 w' trivial,TU hk.2 h3⟩;rename_i h2;rw[if_neg h2];split at h;rename_i h3;rw[if_pos h3];exact Oper.wp_mono (fun a w hh=>⟨J.ext hh.1,TU hk.2 hh.2⟩) h;rename_i h3;rw[if_neg h3];exact Oper.wp_mono (fun a w hh=>TU hk.2 hh) h;rename_i hw;rw[if_neg hw]at h;exact TU hk.2 h
end Jx
end
section
theorem RO {α:Type}{l:List α}{k:Nat}{d:α}(h:k<l.length):l.getD k d∈l:=by rw[List.getD_eq_getElem?_getD,List.getElem?_eq_getElem h,Option.getD_some];exact List.getElem_mem h
theorem Ci {a:Int}(h:-9223372036854775808≤a∧a≤9223372036854775807):BW a:=h
def IN (n:Nat):ByteArray:=⟨#[UInt8.ofNat (48+n)]⟩
def My:List ByteArray:=[⟨#[102]⟩,⟨#[103]⟩,⟨#[115,116,101,112]⟩,⟨#[104,50]⟩,⟨#[99]⟩]
theorem Xe {n:Int}(h0:0≤n)(h1:n<10):(⟨#[UInt8.ofNat (IntKind.u8.wrap (((48:Nat):Int)+n)).toNat]⟩:ByteArray)=IN n.toNat:=by
 obtain⟨k,rfl⟩:∃k:Nat,n=k:=⟨n.toNat,zO⟩;have:∀k:Fin 10,(⟨#[UInt8.ofNat (IntKind.u8.wrap (((48:Nat):Int)+((k.val:Nat):Int))).toNat]⟩:ByteArray)=IN k.val:=by decide +kernel
 exact this ⟨k,zO⟩
theorem RQ (n:Nat):(IN n).size=1:=rfl
theorem Qh:∀s∈My,s.size≤4:=by decide +kernel
theorem TV:∀s∈My,∀i:Fin 10,Kr (s++IN i.val)=true:=by decide +kernel
theorem TW:∀s∈My,∀t∈My,∀i j:Fin 10,i.val≠j.val→I0 (s++IN i.val) (t++IN j.val)=false:=by decide +kernel
section str
variable {P:Program} {ops:Array Oper} {w0:World} {Q:Act→World→Prop} {os:List Oper} {ks:List Nat} {N:Nat} {ρ:Nat→Value} {w:World}
 {d:Nat} {ty:TypeId} {pos:String} {aft:Array Edge} {g:Option (Nat×Bool)} {t e:TypeId}
theorem TX {st dt:TypeId}{x:Operand}{v:Value}{n:Int}{B U:Nat}(hs:P.underlying st=some (.slice e))(he:P.underlying e=some (.int .u8))(hd:P.underlying dt=some .string)(hx:Bs N ρ x=v)(hv:Fr (Bz rV e) B U w.heap v [.int .u8 n])
  (hu:Up ops N ρ ⟨some d,.convert st dt x,ty,pos,aft,g⟩) (h:LW P ops w0 Q os ks (mk N (Cs ρ d (.string ⟨#[UInt8.ofNat n.toNat]⟩))) w) :
  LW P ops w0 Q (⟨some d,.convert st dt x,ty,pos,aft,g⟩::os) (2::ks) (mk N ρ) w:=by
 obtain⟨F,hv,_,_⟩:=hv;rcases hv with⟨_,hc,_⟩|⟨us,b,cap,cur,F',hels,rfl,hg,q1,q2,q3,q4,rfl⟩;cases hc;obtain⟨rfl,rfl⟩:=Hl hels;refine Cv (by decide) rfl hu _ (fun w' hcl=>?_) h;have hcl:AK w w':=hcl;have hcb:w'.heap[b]? = w.heap[b]?:=hcl.heap (getElem?_lt hg);have hlc:=run_loadCells_list (P:=P) w' ⟨b,0,none⟩ [.int .u8 n] (fun j u hj=>by
  rw[Gi,BF];simp only[C8,hcb,hg];have hj0:j=0:=by have:=(List.getElem?_eq_some_iff.1 hj).1;simpa using this
  subst hj0;have e1:cur.toList[0]? = some (.int .u8 n):=by
   have:(cur.toList.take 1)[0]? = some (.int .u8 n):=by rw[show cur.toList.take 1=[.int .u8 n]from q4];rfl
   rwa [List.getElem?_take,if_pos (by decide)]at this
  have e2:u=.int .u8 n:=by simpa using hj.symm
  rw[e2];simpa using e1)
 have hb:=run_bytesToString (P:=P) w' ⟨b,0,none⟩ 1 cap [n] (by simpa using hlc);have hr:=run_convert_bytes_string (P:=P) w' st dt e (some ⟨b,0,none⟩) 1 cap hs he hd;simp only[execOp,hx,zd,Sem.run_bind,hr,hb,Result.andThen_ok,Sem.run_pure];rfl
theorem TY {b:Nat}{z u0 u1 u2 u3:Value}(ht:P.underlying t=some (.slice e))(hi:TI P e 1 z b)(h0:u0.cells=#[u0])(h1:u1.cells=#[u1])(h2:u2.cells=#[u2])(h3:u3.cells=#[u3])(hz:z.cells=#[z]) :
  (Instr.buildSlice t 4 #[(0,u0),(1,u1),(2,u2),(3,u3)]).run P w=.ok (.slice (some ⟨w.heap.size,0,none⟩) 4 4) (w.alloc (.cells #[u0,u1,u2,u3] e)):=by
 obtain⟨i,q1,q2,q3,q4⟩:=hi.get;simp[Instr.buildSlice,run_underlying ht,sizeOf,typeInfo,zeroValue,q1,q2,q3,Instr.fill,newRow,h0,h1,h2,h3,hz,Ke,List.range_succ]
theorem Xf {α:Type}{E:Bx α}(hE:Cb E){ys:List α}{b:Nat}{z u0 u1 u2 u3:Value}{x0 x1 x2 x3:Operand}(ht:P.underlying t=some (.slice e))(hi:TI P e 1 z b)(hz:z.cells=#[z])
  (hx0:Bs N ρ x0=u0) (hx1:Bs N ρ x1=u1) (hx2:Bs N ρ x2=u2) (hx3:Bs N ρ x3=u3) (hl:ys.length=4) (hels:els E w.heap [u0,u1,u2,u3] ys [])
  (hu:Up ops N ρ ⟨some d,.buildSlice t 4 #[(0,x0),(1,x1),(2,x2),(3,x3)],ty,pos,aft,g⟩)
  (h:∀v w1,AK w w1→w1.heap.size=w.heap.size+1→Fr (Bz E e) w.heap.size w1.heap.size w1.heap v ys→LW P ops w0 Q os ks (mk N (Cs ρ d v)) w1) :
  LW P ops w0 Q (⟨some d,.buildSlice t 4 #[(0,x0),(1,x1),(2,x2),(3,x3)],ty,pos,aft,g⟩::os) (3::ks) (mk N ρ) w:=by
 have hc:=hels.cells1 hE;have hr:=TY (P:=P) (w:=w) ht hi (hc u0 (by simp)).1 (hc u1 (by simp)).1 (hc u2 (by simp)).1 (hc u3 (by simp)).1 hz;have hrun:(execOp (Bs N ρ) ⟨some d,.buildSlice t 4 #[(0,x0),(1,x1),(2,x2),(3,x3)],ty,pos,aft,g⟩).run P w=.ok (.value (.slice (some ⟨w.heap.size,0,none⟩) 4 4)) (w.alloc (.cells #[u0,u1,u2,u3] e)):=by
  simp only[execOp,zc,zf,zh,Sem.run_bind,hx0,hx1,hx2,hx3,hr,Result.andThen_ok,Sem.run_pure]
 refine J2 rfl hu _ _ hrun (BM _ _)<|h _ _ (BM _ _) (by simp) ?_;have hn:=Hj (e:=e) (w:=w) hE (us:=[u0,u1,u2,u3]) (xs:=ys) (F:=[]) (cur:=#[u0,u1,u2,u3]) hels (by simp[maxLen]) (by rw[hl];rfl) (by rw[hl];simp);rw[hl]at hn;refine⟨_,hn,?_,fun c hc=>?_⟩;rw[List.nodup_cons];exact⟨fun hm=>(by cases hm),zk⟩;rcases ze.1 hc with rfl|hc;exact⟨A7 _,by simp⟩;cases hc
end str
theorem Y5 {H:Array Obj}{u0 u1 u2 u3:Value}(h0:u0.cells=#[u0]∧u0.oneCell'=true)(h1:u1.cells=#[u1]∧u1.oneCell'=true)(h2:u2.cells=#[u2]∧u2.oneCell'=true)(h3:u3.cells=#[u3]∧u3.oneCell'=true):els rV H [u0,u1,u2,u3] [u0,u1,u2,u3] [] :=
 QE fun u hu=>by
  simp only[ze,z2,or_false]at hu
  rcases hu with rfl|rfl|rfl|rfl <;> assumption
theorem TZ {p q:List Fn}{F v:Int}{e:Ex}(hF:F≤((p.length:Nat):Int)):Gk (p++q) F v e=Gk p F v e:=by by_cases h:GS e.num 0 (F-1)=true;have h1:=BQ.1 h;have h2:(p++q).getD e.num.toNat Fn.zero=p.getD e.num.toNat Fn.zero:=JA zO;unfold Gk;rw[h2];unfold Gk;simp only[Bool.not_eq_true]at h;simp[h]
mutual
theorem Oi {p q:List Fn}{F:Int}(hF:F≤((p.length:Nat):Int)):∀(e:Ex)(v:Int),wf (p++q) F e v=wf p F e v
 |.mk k n c d l,v=>by rw[wf,wf,TZ hF,Pk hF l]
theorem Pk {p q:List Fn}{F:Int}(hF:F≤((p.length:Nat):Int)):∀(l:List Ex)(b:Bool)(i:Nat)(v:Int),P0 (p++q) F b i l v=P0 p F b i l v
 |[],_,_,_=>by rw[P0,P0]
 |e::l,b,i,v=>by rw[P0,P0,Oi hF e,Pk hF l]
end
structure Lh (p:List Fn)(pl:Bool):Prop where
 len:p.length≤12
 par:∀k,k<p.length→1≤(p.getD k Fn.zero).params∧(p.getD k Fn.zero).params≤3
 outs:∀k,k<p.length→1≤(p.getD k Fn.zero).outs.length∧(p.getD k Fn.zero).outs.length≤3
 wf:∀k,k<p.length→∀j,j<(p.getD k Fn.zero).outs.length→wf p ((k:Nat):Int) ((p.getD k Fn.zero).outs.getD j Ex.zero) (p.getD k Fn.zero).params=true
 dp:∀k,k<p.length→Ex.deeps (p.getD k Fn.zero).outs≤6
 sz:∀k,k<p.length→Ex.sizes (p.getD k Fn.zero).outs≤400
 pl:pl=true→∀k,k<p.length→NR (p.getD k Fn.zero).outs=true
 nm:∀k,k<p.length→Kr (p.getD k Fn.zero).name=true
 nw:∀k,k<p.length→Q7 p k=true
theorem Lh.nil (pl:Bool):Lh [] pl:=by constructor;simp;all_goals first|(intro _ k hk;simp at hk)|(intro k hk;simp at hk)
theorem Lh.gpr {p:List Fn}{pl:Bool}(h:Lh p pl):Y4 p :=
 ⟨by have:=h.len;omega,fun k hk=>by have:=h.par k hk;omega,fun k hk=>by have:=h.outs k hk;omega⟩
theorem Lh.snoc {p:List Fn}{pl:Bool}{f:Fn}(h:Lh p pl)(hl:p.length≤11)(hp:1≤f.params∧f.params≤3)(ho:1≤f.outs.length∧f.outs.length≤3)
  (hw:∀j,j<f.outs.length→Go.Proofs.YtbcopolhaljhhaaGreat.wf p ((p.length:Nat):Int) (f.outs.getD j Ex.zero) f.params=true) (hd:Ex.deeps f.outs≤6) (hs:Ex.sizes f.outs≤400) (hpl:pl=true→NR f.outs=true)
  (hn:Kr f.name=true) (hnw:∀k,k<p.length→I0 (p.getD k Fn.zero).name f.name=false):Lh (p++[f]) pl:=by
 have e:∀k,k<(p++[f]).length→(k<p.length∧(p++[f]).getD k Fn.zero=p.getD k Fn.zero)∨(k=p.length∧(p++[f]).getD k Fn.zero=f):=fun k hk=>by
  rw[z4,zd]at hk;by_cases h:k<p.length;exact .inl ⟨h,JA h⟩;exact .inr ⟨zO,Kl zO⟩
 refine⟨by rw[z4,zd];omega,?_,?_,?_,?_,?_,?_,?_,?_⟩
 intro k hk;rcases e k hk with⟨h1,h2⟩|⟨h1,h2⟩ <;> rw[h2];exact h.par k h1;exact hp
 intro k hk;rcases e k hk with⟨h1,h2⟩|⟨h1,h2⟩ <;> rw[h2];exact h.outs k h1;exact ho
 intro k hk;rcases e k hk with⟨h1,h2⟩|⟨h1,h2⟩ <;> rw[h2]
 intro j hj;rw[Oi (by omega)];exact h.wf k h1 j hj
 intro j hj;subst h1;rw[Oi (by omega)];exact hw j hj
 intro k hk;rcases e k hk with⟨h1,h2⟩|⟨h1,h2⟩ <;> rw[h2];exact h.dp k h1;exact hd
 intro k hk;rcases e k hk with⟨h1,h2⟩|⟨h1,h2⟩ <;> rw[h2];exact h.sz k h1;exact hs
 intro hq k hk;rcases e k hk with⟨h1,h2⟩|⟨h1,h2⟩ <;> rw[h2];exact h.pl hq k h1;exact hpl hq
 intro k hk;rcases e k hk with⟨h1,h2⟩|⟨h1,h2⟩ <;> rw[h2];exact h.nm k h1;exact hn
 intro k hk;rcases e k hk with⟨h1,h2⟩|⟨h1,h2⟩;have:=h.nw k h1;unfold Q7 at this ⊢;rwa [h2,List.take_append_of_le_length (by omega)];unfold Q7;rw[h2,h1,List.take_left];simp only[Bool.not_eq_true',List.any_eq_false]
 intro g hg;obtain⟨i,hi,rfl⟩:=List.mem_iff_getElem.1 hg;have:=hnw i hi;rw[List.getD_eq_getElem?_getD,List.getElem?_eq_getElem hi,Option.getD_some]at this;simp[this]
theorem Lh.ok {p:List Fn}{pl:Bool}(h:Lh p pl):Jr p=true:=by unfold Jr;rw[z7];refine⟨A5 (by have:=h.len;omega),zm.2 fun k hk=>?_⟩;rw[List.mem_range]at hk;have h1:=h.par k hk;have h2:=h.outs k hk;have h3:=h.sz k hk;have h4:=h.dp k hk;unfold Jq;rw[h.nm k hk,h.nw k hk,BQ.2 zO,BQ.2 zO,A5 h3];simp only[Bool.true_and,Bool.and_true];refine zm.2 fun j hj=>?_;rw[List.mem_range]at hj;have h5:=N9 hj;have h6:=CK hj;unfold Lg;rw[BQ.2 zO,BQ.2 zO,A5 zO,A5 zO,h.wf k hk j hj];rfl
structure RR (p:List Fn)(vars:Int)(pl:Bool)(xs:List Ex)(i:Nat):Prop where
 len:xs.length=i
 wf:∀j,j<i→wf p ((p.length:Nat):Int) (xs.getD j Ex.zero) vars=true
 dp:Ex.deeps xs≤6
 sz:Ex.sizes xs≤i*117
 pl:pl=true→NR xs=true
theorem RR.nil (p:List Fn)(vars:Int)(pl:Bool):RR p vars pl [] 0:=⟨rfl,fun j hj=>by omega,by rw[Ex.deeps];omega,by rw[Ex.sizes];omega,fun _=>by rw[NR]⟩
theorem RR.snoc {p:List Fn}{funcs vars:Int}{pl:Bool}{xs:List Ex}{i d:Nat}{l0 l1:Int}{x:Ex}(h:RR p vars pl xs i)(hf:funcs=((p.length:Nat):Int))(hd:d≤5)(hl:l0≤30)(hx:Pi p funcs vars pl d l0 l1 x):RR p vars pl (xs++[x]) (i+1):=by have hlen:=h.len;subst hf;refine⟨by simp[hlen],fun j hj=>?_,?_,?_,fun hp=>?_⟩;by_cases e:j=i;subst e;rw[Kl hlen.symm];exact hx.wf;rw[JA (by omega)];exact h.wf j zO;have h1:=h.dp;have h2:=hx.dp;rw[HW];omega;have h1:=h.sz;have h2:=hx.sz;rw[HV];omega;rw[Ns,h.pl hp,hx.pl hp];rfl
def Dn (p:List Fn):Prop:=∀k,k<p.length→∃s∈My,(p.getD k Fn.zero).name=s++IN k
theorem Dn.nil:Dn []:=fun k hk=>by simp at hk
theorem Dn.snoc {p:List Fn}{f:Fn}{s:ByteArray}(h:Dn p)(hs:s∈My)(hf:f.name=s++IN p.length):Dn (p++[f]):=fun k hk=>by
 rw[z4,zd]at hk
 by_cases e:k<p.length
 rw[JA e];exact h k e
 rw[Kl zO,show k=p.length from by omega];exact⟨s,hs,hf⟩
theorem RR.fn {p:List Fn}{pl:Bool}{f:Fn}{s:ByteArray}{i:Nat}(h:Lh p pl)(hd:Dn p)(hl:p.length≤9)(hp:1≤f.params∧f.params≤3)(hi:1≤i∧i≤3)(ho:RR p f.params pl f.outs i)
  (hs:s∈My) (hf:f.name=s++IN p.length):Lh (p++[f]) pl∧Dn (p++[f]) :=
 ⟨h.snoc zO hp (by rw[ho.len];exact hi) (fun j hj=>ho.wf j (by rw[← ho.len];exact hj)) ho.dp (by have:=ho.sz;omega) ho.pl (by rw[hf];exact TV s hs ⟨p.length,zO⟩) (fun k hk=>by
  obtain⟨t,ht,e⟩:=hd k hk
  rw[e,hf]
  exact TW t ht s hs ⟨k,zO⟩ ⟨p.length,zO⟩ (by show k≠p.length;omega)),hd.snoc hs hf⟩
theorem RS {x:ByteArray}(h:Value.string x∈[Value.string ⟨#[102]⟩,.string ⟨#[103]⟩,.string ⟨#[115,116,101,112]⟩,.string ⟨#[104,50]⟩]):x∈My:=by simp only[ze,z2,or_false,Value.string.injEq]at h;rcases h with h|h|h|h <;> subst h <;> simp[My]
theorem ZS:Ho 5=47770:=by decide
theorem ZT:LU 5=1365:=by decide
theorem Lh.npl {p:List Fn}{pl:Bool}(h:Lh p pl):Lh p false:=⟨h.len,h.par,h.outs,h.wf,h.dp,h.sz,fun h=>absurd h (by decide),h.nm,h.nw⟩
section res
variable {P:Program} {N:Nat} {ρ:Nat→Value} {w:World}
theorem RU:∀(l:List Nat),(((l.map ResultVar.tmp).mapM (m:=Sem) fun
  |.tmp t=>pure ((mk N ρ).tmps.getD t undef)
  |.cell a t=>do loadVar t (← asAddr ((mk N ρ).tmps.getD a undef)))).run P w=.ok (l.map fun t=>Bs N ρ (.tmp t)) w:=by
 intro l
 induction l with
 |nil=>rfl
 |cons t l ih =>
  simp only[zf,List.mapM_cons,Sem.run_bind,Sem.run_pure,Result.andThen_ok,JP]at ih ⊢;rw[ih];rfl
theorem Cu {fn:Func}{R:Ending→World→Prop}{k s b t0:Nat}{ts:List Nat}{ty:TypeId}{cs:List Value}(vs:List Value)(hr:fn.results=(ResultVar.cell k ty::((t0::ts).map ResultVar.tmp)).toArray)(ha:EG P ty s=true)(hv:Bs N ρ (.tmp k)=.pointer (some ⟨b,0,none⟩))(hb:BX w.heap b cs)(hl:cs.length=s)
  (hvs:((t0::ts).map fun t=>Bs N ρ (.tmp t))=vs) (h:R (.returned (.tuple (.agg cs.toArray::vs).toArray)) w):bodyPost P fn R .ret (mk N ρ) w:=by
 subst hvs;refine⟨rfl,_,?_,h⟩;have hld:=IM (P:=P) ha (LD.of_box hb) hl;have hg:(mk N ρ).tmps.getD k undef=.pointer (some ⟨b,0,none⟩):=by rw[JP,hv]
 have hi:(asAddr (.pointer (some ⟨b,0,none⟩))).run P w=.ok ⟨b,0,none⟩ w:=rfl;have key:=RU (P:=P) (N:=N) (ρ:=ρ) (w:=w) (t0::ts);unfold results;rw[hr];simp only[List.mapM_toArray,Sem.run_bind,Sem.run_map];have hfull:(((ResultVar.cell k ty::((t0::ts).map ResultVar.tmp)).mapM (m:=Sem) fun
  |.tmp t=>pure ((mk N ρ).tmps.getD t undef)
  |.cell a t=>do loadVar t (← asAddr ((mk N ρ).tmps.getD a undef)))).run P w=.ok (.agg cs.toArray::((t0::ts).map fun t=>Bs N ρ (.tmp t))) w:=by
  rw[List.mapM_cons];simp only[Sem.run_bind,Sem.run_pure,hg,hi,hld,Result.andThen_ok];rw[key];rfl
 refine (congrArg (fun r=>(Result.andThen (Result.andThen r fun a w'=>Result.ok a.toArray w') fun a w'=>Result.ok (if h:a.size=1 then a[0]else Value.tuple a) w')) hfull).trans ?_;simp only[Result.andThen_ok];rfl
end res
end
section
set_option linter.unusedSectionVars false
namespace Jx
section
variable [J:JR] {P:Program}
theorem bV {ops:Array Oper}{w0:World}{Q:Act→World→Prop}{o:Oper}{os:List Oper}{ks:List Nat}{a:Act}{w:World}(h:_root_.Go.Proofs.YtbcopolhaljhhaaGreat.LW P ops w0 (fun a' w'=>AK w w'∧LW P ops w0 Q os ks a' w') [o] [4] a w):LW P ops w0 Q (o::os) (3::ks) a w:=by simp only[_root_.Go.Proofs.YtbcopolhaljhhaaGreat.LW]at h;simp only[LW];split;rename_i hw;rw[if_pos hw]at h;unfold _root_.Go.Proofs.YtbcopolhaljhhaaGreat.Bk at h;unfold Bk;rw[if_neg (by decide),if_neg (by decide)]at h;rw[if_neg (by decide),if_pos rfl];exact h;rename_i hw;rw[if_neg hw]at h;exact h.2
theorem ZU {ops:Array Oper}{w0:World}{Q:Act→World→Prop}{o:Oper}{os:List Oper}{ks:List Nat}{a:Act}{w:World}(h:_root_.Go.Proofs.YtbcopolhaljhhaaGreat.LW P ops w0 (fun a' w'=>LW P ops w0 Q os ks a' w') [o] [3] a w):LW P ops w0 Q (o::os) (3::ks) a w:=by simp only[_root_.Go.Proofs.YtbcopolhaljhhaaGreat.LW]at h;simp only[LW];split;rename_i hw;rw[if_pos hw]at h;unfold _root_.Go.Proofs.YtbcopolhaljhhaaGreat.Bk at h;unfold Bk;rw[if_neg (by decide),if_pos rfl]at h;rw[if_neg (by decide),if_pos rfl];exact Oper.wp_mono (fun a w hh=>⟨J.ext hh.1,hh.2⟩) h;rename_i hw;rw[if_neg hw]at h;exact h
end
end Jx
end
structure bW where
 op:Int
 a:Int
 b:Int
 num:Int
structure bX where
 reg:Int
 z:Bool
def Hq (x:bW):List Value:=[.int .i64 x.op,.int .i64 x.a,.int .i64 x.b,.int .i64 x.num]
def cH (x:bX):List Value:=[.int .i64 x.reg,.bool x.z]
theorem RN.stp {α:Type}{E:Bx α}(hE:Cb E){S S':List Nat}{w w':World}{v:Value}{x:α}(h:RN S E w.heap v x)(c:Ax S w w')(hs:∀b∈S',b∈S∨w.heap.size≤b):RN S' E w'.heap v x:=by obtain⟨F,h1,h2⟩:=h;refine⟨F,hE.stable h1 fun b hb=>c.block b (hE.lt h1 b hb) (h2 b hb),fun b hb hm=>?_⟩;rcases hs b hm with hh|hh;exact h2 b hb hh;have:=hE.lt h1 b hb;omega
section
def Lc (p:List Fn)(f:Nat)(s:Sr):Int:=Eo p 1 f (Ch s)
def NS (p:List Fn)(f:Nat)(s:Sr):Sr:=(Hm p 1 f (Ch s)).map fun s=>s.getD 0 0
theorem Kw {a:Sr}(h:Bd a=true):HE 1 (Ch a):=by intro k hk;unfold Ch at hk ⊢;rw[zg]at hk;rw[List.getD_eq_getElem?_getD,List.getElem?_map,List.getElem?_eq_getElem hk];refine⟨rfl,?_⟩;unfold Bd at h ⊢;have:=zm.1 h _ (List.getElem_mem hk);simpa using this
theorem Oj {x:List Sr}{n:Nat}(h:HE (n+1) x):Bd (x.map fun s=>s.getD 0 0)=true:=by
 unfold Bd;rw[zm]
 intro y hy;obtain⟨s,hs,rfl⟩:=List.mem_map.1 hy;obtain⟨k,hk,rfl⟩:=List.mem_iff_getElem.1 hs;have h2:=h k hk;rw[Kk hk]at h2;exact X6 h2 zO
section
variable {p:List Fn} {f:Nat} {a s:Sr} {k n:Nat}
structure ZE (p:List Fn)(f:Nat)(s:Sr):Prop where
 code:0≤Lc p f s∧Lc p f s≤9
 len:Lc p f s=0→(NS p f s).length=(p.getD f Fn.zero).outs.length
 num:Bd (NS p f s)=true
 non:Lc p f s≠0→NS p f s=[]
theorem ZE.mk' (h:Qp p 1 f (Ch s)):ZE p f s :=
 ⟨h.code,fun h0=>by unfold NS;rw[zg];exact h.len h0,Oj h.ser,fun h0=>by unfold NS;rw[h.non h0];rfl⟩
end
end
section
def Rs.map {α β:Type}(f:α→β)(r:Rs α):Rs β:=match r with
 |.ok x s=>.ok (f x) s
 |.err c=>.err c
abbrev D3 (m:Nat)(x:Sr):Sr:=x.take m
theorem CG {m k:Nat}(x:Sr)(h:k<m):(D3 m x).getD k 0=x.getD k 0:=by simp only[D3,List.getD_eq_getElem?_getD,List.getElem?_take,if_pos h]
theorem K2 {m:Nat}(l:Nat)(f g:Nat→Int)(h:∀k,k<m→f k=g k):E8 (min m l) f=D3 m (E8 l g):=by unfold E8 D3;rw[← List.map_take,List.take_range];exact List.map_congr_left fun k hk=>h k (by have:=List.mem_range.1 hk;omega)
section
variable {m:Nat} (a b:Sr)
theorem EO:(D3 m a).length=min m a.length:=List.length_take ..
theorem RV:Df (D3 m a) (D3 m b)=D3 m (Df a b):=by unfold Df;rw[EO];exact K2 _ _ _ fun k hk=>by rw[CG a hk,CG b hk]
theorem RW:Fw (D3 m a) (D3 m b)=D3 m (Fw a b):=by unfold Fw;rw[EO];exact K2 _ _ _ fun k hk=>by rw[CG a hk,CG b hk]
theorem RY (y:Int):DG (D3 m a) y=D3 m (DG a y):=by unfold DG;rw[EO];exact K2 _ _ _ fun k hk=>by rw[CG a hk]
theorem Pm {k:Nat}(hk:k<m):∀i,i≤k+1→Lz (D3 m a) (D3 m b) k i=Lz a b k i
 |0,_=>rfl
 |i+1,h=>by
  show md (Lz (D3 m a) (D3 m b) k i+(D3 m a).getD i 0*(D3 m b).getD (k-i) 0)=md (Lz a b k i+a.getD i 0*b.getD (k-i) 0)
  rw[Pm hk i zO,CG a zO,CG b (by omega)]
theorem RZ:E5 (D3 m a) (D3 m b)=D3 m (E5 a b):=by unfold E5;rw[EO];exact K2 _ _ _ fun k hk=>Pm a b hk (k+1)<|A7 _
theorem Pn (o:Sr){k:Nat}(hk:k<m):∀i,i≤k→MV (D3 m a) (D3 m b) o k i=MV a b o k i
 |0,_=>CG a hk
 |i+1,h=>by
  show md (MV (D3 m a) (D3 m b) o k i-o.getD i 0*(D3 m b).getD (k-i) 0)=md (MV a b o k i-o.getD i 0*b.getD (k-i) 0)
  rw[Pn o hk i zO,CG b (by omega)]
theorem Po (hm:1≤m):∀k,k≤m→HT (D3 m a) (D3 m b) k=HT a b k
 |0,_=>rfl
 |k+1,h=>by
  rw[HT,HT,Po hm k zO,Pn a b _ zO k (A7 _),CG b (by omega)]
theorem Nu:∀ (k j:Nat),j≤k→(HT a b k).take j = HT a b j
  | 0, j, h => by have : j = 0 := by omega
                  subst this; rfl
  | k + 1,j,h=>by
    by_cases e:j = k + 1
    subst e; rw [za (by rw [DB]; exact A7 _)]
    rw [HT,List.take_append_of_le_length (by rw [DB]; omega)]; exact Nu k j zO
theorem S0 (hm:1≤m):De (D3 m a) (D3 m b)=D3 m (De a b):=by unfold De;rw[EO,Po a b hm _ (by omega)];show _=(HT a b a.length).take m;by_cases h:m≤a.length;rw[Nu a b _ _ h,Nat.min_eq_left h];rw[za (by rw[DB];omega),Nat.min_eq_right (by omega)]
end
theorem U0 {m n:Nat}(x:Int)(h:m≤n):GP m x=D3 m (GP n x):=by unfold GP D3;rw[List.take_set,List.take_replicate,Nat.min_eq_left h]
theorem K3 {m:Nat}(env:List Sr)(k:Nat):(env.map (D3 m)).getD k []=D3 m (env.getD k []):=by simp only[List.getD_eq_getElem?_getD,List.getElem?_map];cases env[k]? <;> simp[D3]
structure ZV (m:Nat)(C C':Ca):Prop where
 one:∀f j xs t,C'.one f j (xs.map (D3 m)) t=(C.one f j xs t).map (D3 m)
 all:∀f xs t,C'.all f (xs.map (D3 m)) t=(C.all f xs t).map (List.map (D3 m))
theorem U1 {m:Nat}(hm:1≤m)(k:Int)(xs:List Sr)(t:Nat):MW k (xs.map (D3 m)) t=(MW k xs t).map (D3 m):=by unfold MW;rw[K3,K3];split;rw[RV];rfl;split;rw[RW];rfl;split;rw[RZ];rfl;split;rw[RY];rfl;rw[CG _ (by omega)];split;rfl;rw[S0 _ _ hm];rfl
section
variable {m n:Nat} {C C':Ca}
theorem Pp (hC:ZV m C C')(f:Nat):∀(k:Nat)(xs:List Sr)(t:Nat),IW (C'.all f) k (xs.map (D3 m)) t=(IW (C.all f) k xs t).map (List.map (D3 m))
 |0,xs,t=>rfl
 |k+1,xs,t=>by
  rw[IW,IW,Pp hC f k xs t]
  cases IW (C.all f) k xs t with
  |err c=>rfl
  |ok ys u=>exact hC.all f ys u
theorem K4:∀(l:List Ex),(∀e∈l,∀env s,CF m C' e (env.map (D3 m)) s=(CF n C e env s).map (D3 m))→∀env s,DP m C' l (env.map (D3 m)) s=(DP n C l env s).map (List.map (D3 m))
 |[],_,env,s=>by rw[DP,DP];rfl
 |e::l,h,env,s=>by
  rw[DP,DP,h e (z0 ..)]
  cases CF n C e env s with
  |err c=>rfl
  |ok x t =>
   show(DP m C' l (env.map (D3 m)) t).bind _=_
   rw[K4 l (fun e he=>h e (z3 _ he)) env t]
   simp only[Rs.bind_ok]
   cases DP n C l env t <;> rfl
theorem Hr:∀(l:List Ex)(j:Nat),(∀e∈l,∀env s,CF m C' e (env.map (D3 m)) s=(CF n C e env s).map (D3 m))→∀env s,Iy m C' l j (env.map (D3 m)) s=(Iy n C l j env s).map (D3 m)
 |[],j,_,env,s=>by rw[Iy,Iy];rfl
 |e::l,0,h,env,s=>by rw[Iy,Iy];exact h e (z0 ..) env s
 |e::l,j+1,h,env,s=>by rw[Iy,Iy];exact Hr l j (fun e he=>h e (z3 _ he)) env s
theorem LY:∀ {l:List Ex}{e:Ex},e∈l→e.size≤Ex.sizes l
 |[],_,h=>by cases h
 |a::l,e,h=>by
  rw[Ex.sizes]
  rcases ze.1 h with rfl|h
  omega
  have:=LY h;omega
theorem K5 (hm:1≤m)(hmn:m≤n)(hC:ZV m C C'):∀(z:Nat)(e:Ex),e.size≤z→∀env s,CF m C' e (env.map (D3 m)) s=(CF n C e env s).map (D3 m)
 |0,e,h,_,_=>by have:=DN e;omega
 |z+1,e,h,env,s=>by
  have hk:∀x∈e.kids,∀env s,CF m C' x (env.map (D3 m)) s=(CF n C x env s).map (D3 m):=fun x hx=>K5 hm hmn hC z x (by have:=DN e;have:=LY hx;omega)
  rw[Fy,Fy]
  split
  rfl
  split
  rw[U0 _ hmn];rfl
  split
  rw[K3];rfl
  split
  rw[Hr _ 0 hk]
  cases Iy n C e.kids 0 env (s+1)with
  |err c=>rfl
  |ok x t =>
   show(if (D3 m x).getD 0 0=0 then _ else _)=((if x.getD 0 0=0 then _ else _:Rs Sr)).map (D3 m)
   rw[CG _ (by omega)]
   split
   exact Hr _ 1 hk env t
   exact Hr _ 2 hk env t
  split
  rw[Hr _ 0 hk]
  cases Iy n C e.kids 0 env (s+1)with
  |err c=>rfl
  |ok x t =>
   show Iy m C' e.kids 1 (env.map (D3 m)++[D3 m x]) t=(Iy n C e.kids 1 (env++[x]) t).map (D3 m)
   rw[← Hr _ 1 hk,List.map_append];rfl
  rw[K4 _ hk]
  cases DP n C e.kids env (s+1)with
  |err c=>rfl
  |ok xs t =>
   show(if e.kind=10 then _ else _)=((if e.kind=10 then _ else _:Rs Sr)).map (D3 m)
   split
   exact hC.one _ _ _ _
   split
   rw[Pp hC]
   cases IW (C.all e.num.toNat) e.count.toNat xs t with
   |err c=>rfl
   |ok ys u=>show Rs.ok _ _=Rs.ok _ _;rw[K3]
   exact U1 hm _ _ _
theorem Pq (p:List Fn)(hm:1≤m)(hmn:m≤n):∀F,ZV m (ES p n F) (ES p m F)
 |0=>⟨fun _ _ _ _=>rfl,fun _ _ _=>rfl⟩
 |F+1=>by
  have ih:=Pq p hm hmn F
  refine⟨fun f j xs t=>?_,fun f xs t=>?_⟩
  show(if f=F then _ else _)=((if f=F then _ else _:Rs Sr)).map (D3 m)
  split
  exact K5 hm hmn ih _ _ (A7 _) _ _
  exact ih.one f j xs t
  show(if f=F then _ else _)=((if f=F then _ else _:Rs (List Sr))).map (List.map (D3 m))
  split
  exact K4 _ (fun e _=>K5 hm hmn ih _ e<|A7 _) _ _
  exact ih.all f xs t
end
theorem S1 (p:List Fn){m n:Nat}(hm:1≤m)(hmn:m≤n)(f:Nat)(a:List Sr):ev p m f (a.map (D3 m))=(ev p n f a).map (List.map (D3 m)) :=
 K4 _ (fun e _=>K5 hm hmn (Pq p hm hmn f) _ e (A7 _)) _ _
theorem Pr (p:List Fn){m n:Nat}(hm:1≤m)(hmn:m≤n)(f:Nat)(a:List Sr):Hm p m f (a.map (D3 m))=(Hm p n f a).map (D3 m):=by unfold Hm;rw[S1 p hm hmn];cases ev p n f a <;> rfl
theorem Mz (p:List Fn){m n:Nat}(hm:1≤m)(hmn:m≤n)(f:Nat)(a:List Sr):Eo p m f (a.map (D3 m))=Eo p n f a:=by unfold Eo;rw[S1 p hm hmn];cases ev p n f a <;> rfl
end
section
theorem Qi {a b:Sr}(hl:a.length=b.length)(h:∀j,j<a.length→a.getD j 0=b.getD j 0):a=b :=
 List.ext_getElem hl fun j h1 h2=>by have:=h j h1;rwa [Kk h1,Kk h2]at this
theorem Y6 {y z:List Sr}(hl:y.length=z.length)(h:∀j,j<y.length→y.getD j []=z.getD j []):y=z :=
 List.ext_getElem hl fun j h1 h2=>by have:=h j h1;rwa [Kk h1,Kk h2]at this
section
variable {p:List Fn} {f o:Nat} {a:List Int}
theorem EB (s:Sr)(k:Nat)(x:Int)(j:Nat):(s.set k x).getD j 0=if j=k∧k<s.length then x else s.getD j 0:=by simp only[List.getD_eq_getElem?_getD,List.getElem?_set];by_cases e:k=j;subst e;by_cases h:k<s.length;simp[h];simp[h,List.getElem?_eq_none (Nat.le_of_not_lt h)];rw[if_neg e,if_neg (by omega)]
end
end
theorem S2 {s:ByteArray}(h:Kr s=true):s.size≤12:=by unfold Kr at h;simp only[z7,decide_eq_true_eq]at h;exact h.1.2
theorem Lh.szp {p:List Fn}{pl:Bool}(h:Lh p pl):Pe p:=fun k hk=>⟨by have:=h.sz k hk;omega,by have:=h.outs k hk;omega,by have:=S2 (h.nm k hk);omega⟩
section
def H3 (p:List Fn)(f:Int)(a:Sr):Int:=if DJ p f=0 then(if (decide (((a.length:Nat):Int)=(p.getD f.toNat Fn.zero).params) && Bd a)=true then 0 else 2)else DJ p f
def Nv (p:List Fn)(f:Int)(a:Sr):Int:=if H3 p f a=0 then Lc p f.toNat a else H3 p f a
def U2 (p:List Fn)(f:Int)(a:Sr):Sr:=if H3 p f a=0 then NS p f.toNat a else []
def Qs (p:List Fn)(f:Int)(a:Sr):Nat:=if H3 p f a=0 then HY p 1 f.toNat (Ch a)else 0
section
variable {p:List Fn} {f:Int} {a:Sr}
theorem S3 (h:H3 p f a=0):Jr p=true∧(0≤f∧f<((p.length:Nat):Int))∧((a.length:Nat):Int)=(p.getD f.toNat Fn.zero).params∧Bd a=true:=by unfold H3 at h;split at h;rename_i h1;split at h;rename_i h2;rw[z7,decide_eq_true_eq]at h2;obtain⟨q1,q2,q3⟩:=Js h1;exact⟨q1,⟨q2,q3⟩,h2.1,h2.2⟩;omega;rename_i h1;exact absurd h h1
theorem S4 (h:DJ p f≠0):DJ p f=H3 p f a:=by unfold H3;rw[if_neg h]
theorem S5 (h:DJ p f=0)(h2:(decide (((a.length:Nat):Int)=(p.getD f.toNat Fn.zero).params) && Bd a)=false):2=H3 p f a:=by unfold H3;rw[if_pos h,h2];rfl
theorem U3 (h:DJ p f=0)(h2:(decide (((a.length:Nat):Int)=(p.getD f.toNat Fn.zero).params) && Bd a)=true):0=H3 p f a:=by unfold H3;rw[if_pos h,h2];rfl
theorem UY (h:H3 p f a≠0):Nv p f a=H3 p f a:=if_neg h
theorem Ps (h:H3 p f a≠0):U2 p f a=[]:=if_neg h
theorem UZ (h:H3 p f a≠0):Qs p f a=0:=if_neg h
theorem Nw (h:H3 p f a=0):Nv p f a=Lc p f.toNat a:=if_pos h
theorem Jw (h:H3 p f a=0):U2 p f a=NS p f.toNat a:=if_pos h
theorem S6 (h:H3 p f a=0):Qs p f a=HY p 1 f.toNat (Ch a):=if_pos h
end
end
section
section ops
variable {P:Program} {ops:Array Oper} {w0:World} {Q:Act→World→Prop} {os:List Oper} {ks:List Nat} {N:Nat} {ρ:Nat→Value} {w:World}
 {d:Nat} {ty:TypeId} {pos:String} {aft:Array Edge} {g:Option (Nat×Bool)} {t e:TypeId} {z:Value} {b s:Nat} {α:Type} {E:BC α}
theorem Jc (hE:C5 s E)(ht:P.underlying t=some (.slice e))(hi:TI P e s z b)(hu:Up ops N ρ ⟨some d,.buildSlice t 0 #[],ty,pos,aft,g⟩)
  (h:∀v w1,AK w w1→w1.heap.size=w.heap.size+1→Fr (EN s E e) w.heap.size w1.heap.size w1.heap v ([]:List α)→LW P ops w0 Q os ks (mk N (Cs ρ d v)) w1) :
  LW P ops w0 Q (⟨some d,.buildSlice t 0 #[],ty,pos,aft,g⟩::os) (3::ks) (mk N ρ) w:=by
 have hr:=OM (P:=P) (w:=w) ht hi;have hrun:(execOp (Bs N ρ) ⟨some d,.buildSlice t 0 #[],ty,pos,aft,g⟩).run P w=.ok (.value (.slice (some ⟨w.heap.size,0,none⟩) 0 0)) (w.alloc (.cells #[] e)):=by
  simp only[execOp,zc,zh,Sem.run_bind,hr,Result.andThen_ok,Sem.run_pure]
 refine J2 rfl hu _ _ hrun (BM _ _)<|h _ _ (BM _ _) (by simp) ?_;have hn:=K1 (e:=e) (w:=w) hE (css:=[]) (xs:=([]:List α)) (F:=[]) (cur:=#[]) (cap:=0) rfl (by simp) (by simp[maxLen]) (by simp) (by simp);refine⟨_,hn,by simp,fun c hc=>?_⟩;have hlt:=(AL hE).lt hn c hc;refine⟨?_,hlt⟩;rcases ze.1 hc with rfl|hc;exact A7 _;cases hc
end ops
theorem Ja.ext {α:Type}{E:Bx α}(hE:Cb E){S:Nat→Prop}{w w':World}{v:Value}{x:α}(h:Ja E S w.heap v x)(c:AK w w'):Ja E S w'.heap v x:=by obtain⟨G,h1,h2,h3⟩:=h;exact⟨G,hE.stable h1 fun b hb=>c.heap (hE.lt h1 b hb),h2,h3⟩
structure Nx (p:List Fn)(f pk:Int)(a b:List Int):Prop where
 dr:Lh p false
 dn:Dn p
 len:1≤p.length∧p.length≤3
 fe:f=((p.length:Nat):Int)-1
 pk:0≤pk∧pk<(((p.getD f.toNat Fn.zero).outs.length:Nat):Int)
 la:((a.length:Nat):Int)=(p.getD f.toNat Fn.zero).params∧Bd a=true
 lb:((b.length:Nat):Int)=(p.getD f.toNat Fn.zero).params∧Bd b=true
theorem V0 {p:List Fn}{f:Int}{a:Sr}(h:Jr p=true)(hf:0≤f∧f<((p.length:Nat):Int))(hl:((a.length:Nat):Int)=(p.getD f.toNat Fn.zero).params)(hn:Bd a=true):H3 p f a=0:=by unfold H3 DJ;rw[if_pos h,if_pos (by omega)];rw[if_pos];rw[z7,decide_eq_true_eq];exact⟨hl,hn⟩
end
def Ds (a d:List Int)(n:Nat):List Sr:=E8 a.length fun i=>(GP n (a.getD i 0)).set 1 (d.getD i 0)
@[simp] theorem Fu (a d:List Int)(n:Nat):(Ds a d n).length=a.length:=by simp[Ds]
theorem I2 {a d:List Int}{n k:Nat}(h:k<a.length):(Ds a d n).getD k []=(GP n (a.getD k 0)).set 1 (d.getD k 0):=Bo [] h
theorem Pt {a d:List Int}{n:Nat}(ha:Bd a=true)(hd:Bd d=true):HE n (Ds a d n):=fun k hk=>by
 rw[Fu]at hk
 rw[I2 hk]
 refine⟨by rw[z6,D7],?_⟩
 have h1:=Gl (n:=n)<|Dl.2<|Br ha k
 unfold Bd
 rw[zm]
 intro y hy
 rcases List.mem_or_eq_of_mem_set hy with hy|rfl
 have:=h1.2;unfold Bd at this;exact zm.1 this y hy
 exact Dl.2<|Br hd k
def Li (p:List Fn)(f:Int)(a d:Sr):Int:=if DJ p f=0 then(if ((decide (((a.length:Nat):Int)=(p.getD f.toNat Fn.zero).params) && Bd a) && (decide (((d.length:Nat):Int)=(p.getD f.toNat Fn.zero).params) && Bd d))=true then 0 else 2)else DJ p f
theorem S7 {p:List Fn}{f:Int}{a d:Sr}(h:Li p f a d=0):Jr p=true∧(0≤f∧f<((p.length:Nat):Int))∧(((a.length:Nat):Int)=(p.getD f.toNat Fn.zero).params∧Bd a=true)∧((d.length:Nat):Int)=(p.getD f.toNat Fn.zero).params∧Bd d=true:=by unfold Li at h;split at h;rename_i h1;split at h;rename_i h2;simp only[z7,decide_eq_true_eq]at h2;obtain⟨q1,q2,q3⟩:=Js h1;exact⟨q1,⟨q2,q3⟩,h2.1,h2.2⟩;omega;rename_i h1;exact absurd h h1
def Ny (p:List Fn)(f:Nat)(a d:List Int):List Sr:=Hm p 2 f (Ds a d 2)
def Tn (p:List Fn)(f:Nat)(a d:List Int):Int:=Eo p 2 f (Ds a d 2)
theorem Y7 (n j:Nat):(List.replicate n (0:Int)).getD j 0=0:=by rw[List.getD_eq_getElem?_getD,List.getElem?_replicate];split <;> rfl
def dl (i:Nat)(j:Nat):Int:=if i=j then 1 else 0
def Kx (a:Sr)(k:Nat):Sr:=E8 a.length fun i=>if i<k then md (((i+1:Nat):Int)*a.getD (i+1) 0)else 0
def Jd (a:Sr):Sr:=Kx a (a.length-1)
@[simp] theorem IO (a:Sr)(k:Nat):(Kx a k).length=a.length:=by simp[Kx]
@[simp] theorem Nz (a:Sr):(Jd a).length=a.length:=IO a _
theorem Qj (a:Sr):Kx a 0=List.replicate a.length 0 :=
 Qi (by simp) fun i hi=>by rw[IO]at hi;unfold Kx;rw[Bo 0 hi,Y7,if_neg (Nat.not_lt_zero i)]
theorem S8 {a:Sr}{k:Nat}(hk:k<a.length):(Kx a k).set k (md (((k+1:Nat):Int)*a.getD (k+1) 0))=Kx a (k+1) :=
 Qi (by simp) fun i hi=>by
  rw[z6,IO]at hi
  rw[EB,IO]
  unfold Kx
  rw[Bo 0 hi,Bo 0 hi]
  by_cases e:i=k
  subst e;rw[if_pos ⟨rfl,hi⟩,if_pos (by omega)]
  rw[if_neg (by omega)]
  by_cases h:i<k
  rw[if_pos h,if_pos (by omega)]
  rw[if_neg h,if_neg (by omega)]
theorem S9 (a:Sr)(k:Nat):Bd (Kx a k)=true:=EJ fun i _=>by
 split
 exact BN _
 omega
theorem Sa (a:Sr):Bd (Jd a)=true:=S9 a _
section
theorem Cx.ext {m:Nat}{a b:Sr}(ha:Cx m a)(hb:Cx m b)(h:∀k,k<m→a.getD k 0=b.getD k 0):a=b:=by refine List.ext_getElem (by rw[ha.1,hb.1]) fun k h1 h2=>?_;have:=h k (by rw[← ha.1];exact h1);simpa [List.getD_eq_getElem?_getD,h1,h2]using this
section
variable {m:Nat} {a b c:Sr}
theorem Pu (ha:Cx m a){k:Nat}(hk:k<m):(E5 a b).getD k 0=md (cv (fun i=>a.getD i 0) (fun i=>b.getD i 0) k):=TA (by rw[ha.1];exact hk)
theorem U4 (ha:Cx m a){k:Nat}(hk:k<m):(Df a b).getD k 0=md (a.getD k 0+b.getD k 0):=by unfold Df;exact Bo _ (by rw[ha.1];exact hk)
theorem U5 (ha:Cx m a){k:Nat}(hk:k<m):(Fw a b).getD k 0=md (a.getD k 0-b.getD k 0):=by unfold Fw;exact Bo _ (by rw[ha.1];exact hk)
theorem Qk (ha:Cx m a)(hb:Cx m b):Df (Fw a b) b=a:=Cx.ext (IJ (G3 ha)) ha fun k hk=>by
 rw[U4 (G3 ha) hk,U5 ha hk,OO,show a.getD k 0-b.getD k 0+b.getD k 0=a.getD k 0 from by omega]
 have:=Br ha.2 k
 exact Is this.1 this.2
theorem Sb (ha:Cx m a)(hb:Cx m b)(h0:b.getD 0 0≠0):E5 (De a b) b=a:=Cx.ext (H1 (Fc ha)) ha fun k hk=>by
 have hbn:=Br hb.2 0
 have hq:=OU (a:=a) (b:=b) (k:=k) (by rw[ha.1];exact hk)
 have hr:=R5 a b (De a b) k k
 have e1:md ((De a b).getD k 0*b.getD 0 0)=md (a.getD k 0-sm k fun j=>(De a b).getD j 0*b.getD (k-j) 0):=by
  rw[← hr,hq,← DW,GI,DW,Int.mul_assoc,Int.mul_comm (ER _),← DW,OW zO hbn.2,Int.mul_one,GI]
 rw[Pu (Fc ha) hk,R3];show md ((sm k fun j=>(De a b).getD j 0*b.getD (k-j) 0)+(De a b).getD k 0*b.getD (k-k) 0)=_;rw[Nat.sub_self,← JT,e1,JT,show ∀x y:Int,x+(y-x)=y from fun x y=>by omega];have:=Br ha.2 k;exact Is this.1 this.2
end
end
section
theorem Ok (z:Fm):Fq ((z.val:Nat):Int)=z:=by apply Fin.ext;have:=z.isLt;unfold Fq;simp only[Fin.ofNat];omega
theorem Ev {f:Nat→Fm}{x:Fm}:∀m,(∀j,j<m→f j=0)→CD f x m=0
 |0,_=>rfl
 |m+1,h=>by
  show CD f x m+f m*JB x m=0
  rw[Ev m fun j hj=>h j zO,h m (by omega)];grind
theorem IP {f:Nat→Fm} {x:Fm} {m:Nat}:∀ n,m≤n→(∀ j,m≤j→j < n→f j = 0)→CD f x n = CD f x m
  | 0, h, _ => by have : m = 0 := by omega
                  subst this; rfl
  | n + 1,h,h0=>by
    by_cases e:m = n + 1
    subst e; rfl
    show CD f x n + f n * JB x n = _
    rw [IP n zO fun j h1 h2=>h0 j h1 zO,h0 n zO (by omega)]; grind
def Xg (f:Nat→Fm):Nat→Fm
 |0=>0
 |j+1=>f j
theorem Sc (f:Nat→Fm)(x:Fm)(m:Nat):CD (Xg f) x (m+1)=x*CD f x m:=by rw[Cf];show 0+x*CD (fun j=>f j) x m=_;grind
theorem U6 (a b:Fm){f:Nat→Fm}{d:Nat}(hd:d+1≤12)(hf:∀j,d<j→f j=0):∃g:Nat→Fm,(∀j,d+1<j→g j=0)∧∀t,CD g t 13=(a+t*b)*CD f t 13:=by
 refine⟨fun j=>f j*a+Xg f j*b,fun j hj=>?_,fun t=>?_⟩;cases j with
 |zero=>omega
 |succ j=>show f (j+1)*a+f j*b=0;rw[hf _ zO,hf _ (by omega)];grind
 rw[EL,Gp,Gp,Sc f t 12,← IP (m:=12) 13 zO fun j h1 h2=>hf j (by omega)];generalize CD f t 13=z;grind
theorem Pv (a b:Fm):∀(n:Nat)(f:Nat→Fm)(d:Nat),d+n≤12→(∀j,d<j→f j=0)→∃g:Nat→Fm,(∀j,d+n<j→g j=0)∧∀t,CD g t 13=JB (a+t*b) n*CD f t 13
 |0,f,d,hd,hf=>⟨f,hf,fun t=>by show _=1*CD f t 13;grind⟩
 |n+1,f,d,hd,hf=>by
  obtain⟨g,g1,g2⟩:=Pv a b n f d zO hf
  obtain⟨g',h1,h2⟩:=U6 a b (d:=d+n) zO g1
  exact⟨g',h1,fun t=>by rw[h2,g2];show _=(a+t*b)*JB (a+t*b) n*_;grind⟩
def Ld (a d:List Int)(t:Fm):List Fm:=List.zipWith (fun a d=>Fq a+t*Fq d) a d
theorem NA:∀(e a d:List Int),(∀x∈e,0≤x)→∀(f:Nat→Fm)(k:Nat),k+(BR e).toNat≤12→(∀j,k<j→f j=0)→∃g:Nat→Fm,(∀j,k+(BR e).toNat<j→g j=0)∧∀t,CD g t 13=DX e (Ld a d t)*CD f t 13
 |[],a,d,_,f,k,_,hf=>⟨f,hf,fun t=>by show _=1*CD f t 13;grind⟩
 |e::es,[],d,_,f,k,_,hf=>⟨f,fun j hj=>hf j zO,fun t=>by
   have:Ld [] d t=[]:=by simp[Ld]
   rw[this];show _=1*CD f t 13;grind⟩
 |e::es,a::asq,[],_,f,k,_,hf=>⟨f,fun j hj=>hf j zO,fun t=>by
   have:Ld (a::asq) [] t=[]:=by simp[Ld]
   rw[this];show _=1*CD f t 13;grind⟩
 |e::es,a::asq,d::ds,h,f,k,hk,hf=>by
  have h0:=h e (z0 ..)
  have hs:∀x∈es,0≤x:=fun x hx=>h x (z3 _ hx)
  have hn:=Gq hs
  have hse:(BR (e::es)).toNat=e.toNat+(BR es).toNat:=by show(e+BR es).toNat=_;omega
  rw[hse]at hk ⊢
  obtain⟨g,g1,g2⟩:=NA es asq ds hs f k zO hf
  obtain⟨g',h1,h2⟩:=Pv (Fq a) (Fq d) e.toNat g (k+(BR es).toNat) zO g1
  refine⟨g',fun j hj=>h1 j zO,fun t=>?_⟩
  rw[h2,g2]
  show JB (Fq a+t*Fq d) e.toNat*(DX es (Ld asq ds t)*_)=JB (Fq a+t*Fq d) e.toNat*DX es (Ld asq ds t)*_
  grind
def Y8 (c:Fm)(j:Nat):Fm:=if j=0 then c else 0
theorem Sd (c t:Fm)(m:Nat):CD (Y8 c) t (m+1)=c:=by rw[Cf,Ev (f:=fun j=>Y8 c (j+1)) m fun j hj=>rfl];show c+t*0=c;grind
theorem NB (a d:List Int)(k:Nat)(hk:k≤12):∀q:List Tm,(∀t∈q,∀x∈t.ex,0≤x)→(∀t∈q,BR t.ex≤((k:Nat):Int))→∃g:Nat→Fm,(∀j,k<j→g j=0)∧∀t,CD g t 13=Dy q (Ld a d t)
 |[],_,_=>⟨fun _=>0,fun _ _=>rfl,fun t=>by rw[Ev 13 fun _ _=>rfl];rfl⟩
 |u::q,h1,h2=>by
  obtain⟨g,g1,g2⟩:=NB a d k hk q (fun t ht=>h1 t (z3 _ ht)) (fun t ht=>h2 t (z3 _ ht))
  have h3:=h2 u (z0 ..)
  have h4:=Gq<|h1 u (z0 ..)
  obtain⟨g',g3,g4⟩:=NA u.ex a d (h1 u (z0 ..)) (Y8 (Fq u.co)) 0 zO fun j hj=>by unfold Y8;rw[if_neg (by omega)]
  refine⟨fun j=>g' j+g j,fun j hj=>?_,fun t=>?_⟩
  show g' j+g j=0
  rw[g3 j zO,g1 j hj];decide
  rw[EL,g4,g2,BU,Sd];grind
structure FH (m:Nat)(a d:List Int)(q:List Tm)(x:List Int):Prop where
 pw:GK m 12 q
 ser:Cx 13 x
 val:∀t:Fm,Fi x t=Dy q (Ld a d t)
def To (g:Nat→Fm):List Int:=E8 13 fun j=>(((g j).val:Nat):Int)
theorem Hs (g:Nat→Fm):Cx 13 (To g):=by
 refine⟨by unfold To;rw[Bl],?_⟩;unfold Bd To;rw[zm]
 intro y hy;obtain⟨i,hi,rfl⟩:=List.mem_iff_getElem.1 hy;rw[Bl]at hi;have e:=Bo (f:=fun j=>(((g j).val:Nat):Int)) 0 hi;rw[List.getD_eq_getElem?_getD,List.getElem?_eq_getElem (by rw[Bl];exact hi)]at e;rw[show(E8 13 fun j=>(((g j).val:Nat):Int))[i]=_ from e];have:=(g i).isLt;exact Dl.2 zO
theorem Ol (g:Nat→Fm)(t:Fm):Fi (To g) t=CD g t 13:=by rw[Dh,(Hs g).1];exact Dm _ fun j hj=>by rw[show(To g).getD j 0=_ from Bo 0 hj,Ok]
theorem Ky {x y:List Int}(hx:Cx 13 x)(hy:Cx 13 y)(h:∀t:Fm,Fi x t=Fi y t):x=y:=Nf (by rw[hx.1,hy.1]) (by rw[hx.1];omega) hx.2 hy.2 fun i _=>h _
theorem Y9 (x:List Int):Fi x 0=Fq (x.getD 0 0):=by
 cases x with
 |nil=>rfl
 |cons c r=>rw[Fb];show _=Fq c;grind
theorem FH.low {m:Nat}{a d:List Int}{q:List Tm}{x:List Int}(h:FH m a d q x){k:Nat}(hk:k≤12)(hd:Cm q≤((k:Nat):Int))(i:Nat)(hi:k<i):x.getD i 0=0:=by
 obtain⟨g,g1,g2⟩:=NB a d k hk q (fun t ht=>(h.pw.len t ht).2) fun t ht=>Int.le_trans (ET q t ht) hd;have e:=Ky h.ser (Hs g) fun t=>by rw[h.val,Ol,g2]
 rw[e];by_cases h13:i<13;rw[show(To g).getD i 0=_ from Bo 0 h13,g1 i hi];rfl;have:=(Hs g).1;rw[List.getD_eq_getElem?_getD,List.getElem?_eq_none (by omega)];rfl
theorem FH.nil0 {m:Nat}{a d:List Int}{x:List Int}(h:FH m a d [] x)(i:Nat):x.getD i 0=0:=by
 have e:=Ky h.ser (Hs fun _=>0) fun t=>by rw[h.val,Ol,Ev 13 fun _ _=>rfl];rfl
 rw[e];by_cases h13:i<13;rw[show(To fun _=>0).getD i 0=_ from Bo 0 h13];rfl;have:=(Hs fun _=>0).1;rw[List.getD_eq_getElem?_getD,List.getElem?_eq_none (by omega)];rfl
def U7 (f g:Nat→Fm):Nat→Fm
 |0=>f 0*g 0
 |k+1=>f 0*g (k+1)+U7 (fun i=>f (i+1)) g k
theorem Se:∀(k:Nat)(f g:Nat→Int),Fq (cv f g k)=U7 (fun i=>Fq (f i)) (fun i=>Fq (g i)) k
 |0,f,g=>by show Fq (f 0*g 0)=Fq (f 0)*Fq (g 0);rw[Ec]
 |k+1,f,g=>by
  show Fq (f 0*g (k+1)+cv (fun i=>f (i+1)) g k)=Fq (f 0)*Fq (g (k+1))+U7 _ _ k
  rw[Fz,Ec,Se k]
theorem NC:∀(k:Nat)(f g:Nat→Fm),(∀i,f i=0)→U7 f g k=0
 |0,f,g,h=>by show f 0*g 0=0;rw[h];grind
 |k+1,f,g,h=>by
  show f 0*g (k+1)+U7 (fun i=>f (i+1)) g k=0
  rw[h,NC k _ _ fun i=>h (i+1)];grind
theorem Sf (t:Fm)(g:Nat→Fm):∀(n d:Nat)(f:Nat→Fm),(∀i,d<i→f i=0)→(∀i,n≤i+d→g i=0)→CD (U7 f g) t n=CD f t n*CD g t n
 |0,d,f,_,_=>by show(0:Fm)=0*0;decide
 |n+1,d,f,hf,hg=>by
  have e:CD (fun j=>U7 f g (j+1)) t n=CD (fun j=>g (j+1)) t n*f 0+CD (U7 (fun i=>f (i+1)) g) t n:=by
   rw[← Gp,← EL];exact Dm n fun j hj=>by show f 0*g (j+1)+_=g (j+1)*f 0+_;grind
  rw[Cf,e,Cf f,Cf g];show f 0*g 0+t*(CD (fun j=>g (j+1)) t n*f 0+CD (U7 (fun i=>f (i+1)) g) t n)=(f 0+t*CD (fun j=>f (j+1)) t n)*(g 0+t*CD (fun j=>g (j+1)) t n);cases d with
  |zero =>
   have h0:∀i,(fun i=>f (i+1)) i=0:=fun i=>hf (i+1) zO;rw[Ev n fun j _=>NC j _ _ h0,Ev n fun j _=>h0 j];generalize CD (fun j=>g (j+1)) t n=z;grind
  |succ d =>
   have ih:=Sf t g n d (fun i=>f (i+1)) (fun i hi=>hf (i+1) zO) fun i hi=>hg i zO;have e2:g 0+t*CD (fun j=>g (j+1)) t n=CD g t n:=by
    rw[← Cf];exact IP (m:=n) (n+1) zO fun j h1 h2=>hg j zO
   rw[ih,← e2];generalize CD (fun j=>g (j+1)) t n=z;generalize CD (fun j=>f (j+1)) t n=y;grind
theorem Kz {x y:List Int}(hx:Cx 13 x)(hy:Cx 13 y)(k:Nat)(h1:∀i,k<i→x.getD i 0=0)(h2:∀i,13≤i+k→y.getD i 0=0)(t:Fm):Fi (E5 x y) t=Fi x t*Fi y t:=by rw[Dh,Dh x,Dh y,(H1 hx).1,hx.1,hy.1,← Sf t (fun j=>Fq (y.getD j 0)) 13 k (fun j=>Fq (x.getD j 0)) (fun i hi=>by rw[h1 i hi];rfl) (fun i hi=>by rw[h2 i hi];rfl)];exact Dm _ fun j hj=>by rw[Pu hx hj,EH,Se]
theorem K6 {x:List Int}(hx:Cx 13 x)(i:Nat)(hi:12<i):x.getD i 0=0:=by have:=hx.1;rw[List.getD_eq_getElem?_getD,List.getElem?_eq_none (by omega)];rfl
section
variable {m:Nat} {a d:List Int} {q r:List Tm} {x y:List Int}
theorem FH.add (h:FH m a d q x)(k:FH m a d r y):FH m a d (ID q r 1) (Df x y) :=
 ⟨h.pw.add k.pw 1,IJ h.ser,fun t=>by
  rw[O7 (by rw[h.ser.1,k.ser.1]),h.val,k.val,(P5 h.pw.len k.pw.len).1,Rc];grind⟩
theorem Xh (hx:Cx 13 x)(hy:Cx 13 y)(t:Fm):Fi (Fw x y) t=Fi x t-Fi y t:=by have h:=O7 (x:=t) (s:=Fw x y) (t:=y) (by rw[(G3 hx).1,hy.1]);rw[Qk hx hy]at h;rw[h];grind
theorem FH.red (h:FH m a d q x)(k:FH m a d r y):FH m a d (ID q r 1000002) (Fw x y) :=
 ⟨h.pw.add k.pw _,G3 h.ser,fun t=>by
  rw[Xh h.ser k.ser,h.val,k.val,(P5 h.pw.len k.pw.len).1,show Fq 1000002 = -1 from by decide];grind⟩
theorem FH.scl (h:FH m a d q x){c:Int}(hc:0≤c∧c<1000003):FH m a d (CE q c) (DG x c) :=
 ⟨h.pw.scl hc,Kp h.ser,fun t=>by rw[O8,h.val,Mm]⟩
theorem FH.mul (h:FH m a d q x)(k:FH m a d r y)(hd:q=[]∨r=[]∨Cm q+Cm r≤12):FH m a d (JC q r) (E5 x y):=by
 have hp:GK m 12 (JC q r):=by
  rcases hd with rfl|rfl|hd;exact GK.nil _ _;have:∀a:List Tm,a.foldl (fun out x=>GZ x ([]:List Tm) out) []=[]:=fun a=>by induction a with
   |nil=>rfl
   |cons b a ih=>exact ih
  unfold JC;rw[this];exact GK.nil _ _;unfold JC;refine Mq (d0:=Cm q) (d1:=Cm r) ⟨k.pw.len,ET r,k.pw.srt,k.pw.co⟩ hd q [] ⟨h.pw.len,ET q,h.pw.srt,h.pw.co⟩<|GK.nil _ _
 refine⟨hp,H1 h.ser,fun t=>?_⟩;have hv:=(TJ (xs:=Ld a d t) k.pw.len q [] h.pw.len fun t ht=>by cases ht).1;have hv':Dy (JC q r) (Ld a d t)=Fi x t*Fi y t:=by
  rw[h.val,k.val];unfold JC;rw[hv];show 0+_=_;grind
 rw[hv'];rcases hd with rfl|rfl|hd;exact Kz h.ser k.ser 0 (fun i _=>h.nil0 i) (fun i hi=>K6 k.ser i zO) t;exact Kz h.ser k.ser 12 (fun i hi=>K6 h.ser i hi) (fun i _=>k.nil0 i) t;have h1:=IF q;have h2:=IF r;have h3:Cm q≤12:=JY zO h.pw.deg;have h4:Cm r≤12:=JY zO k.pw.deg;by_cases hq:Cm q≤0;exact Kz h.ser k.ser 0 (fun i hi=>h.low (k:=0) zO zO i hi) (fun i hi=>K6 k.ser i zO) t;exact Kz h.ser k.ser (Cm q).toNat (fun i hi=>h.low zO zO i hi) (fun i hi=>k.low (k:=12-(Cm q).toNat) zO zO i zO) t
theorem FH.const (h:FH m a d q x)(h0:Cm q≤0):(0≤MX q∧MX q<1000003)∧x.getD 0 0=MX q∧∀t,Fi x t=Fq (MX q):=by
 have h1:=fun t=>LL h.pw h0<|Ld a d t
 have h2:=(h1 0).2;refine⟨h2,?_,fun t=>by rw[h.val,(h1 t).1]⟩;have h3:Fq (x.getD 0 0)=Fq (MX q):=by rw[← Y9,h.val,(h1 0).1]
 have hx:=h.ser;have h4:Io (x.getD 0 0)=true:=by
  have:=hx.2;unfold Bd at this;rw[zm]at this;refine this _ ?_;rw[List.getD_eq_getElem?_getD,List.getElem?_eq_getElem (by rw[hx.1];omega)];exact List.getElem_mem _
 exact Nd (Dl.1 h4) h2 h3
theorem FH.quo (h:FH m a d q x)(k:FH m a d r y)(h0:Cm r≤0)(hz:MX r≠0):FH m a d (CE q (ER (MX r))) (De x y):=by obtain⟨c1,c2,c3⟩:=k.const h0;have hi:0≤ER (MX r)∧ER (MX r)<1000003:=Iu _;refine⟨h.pw.scl hi,Fc h.ser,fun t=>?_⟩;have e:=Sb h.ser k.ser (by rw[c2];exact hz);have e2:=Kz (Fc (b:=y) h.ser) k.ser 12 (fun i hi=>K6 (Fc h.ser) i hi) (fun i hi=>k.low (k:=0) zO zO i zO) t;rw[e,c3,h.val]at e2;rw[Mm,e2];have:=O6 (a:=MX r) zO c1.2;grind
end
end
section
def CP {α β:Type}(R:α→β→Prop)(r:Rs α)(r':Rs β):Prop:=∀q t,r=.ok q t→∃x,r'=.ok x t∧R q x
theorem CP.bind {α β γ δ:Type}{R:α→β→Prop}{R':γ→δ→Prop}{r:Rs α}{r':Rs β}{f:α→Nat→Rs γ}{g:β→Nat→Rs δ}(h:CP R r r')(hf:∀q x t,R q x→CP R' (f q t) (g x t)):CP R' (r.bind f) (r'.bind g):=by
 cases r with
 |err c=>intro q t e;cases e
 |ok q t =>
  obtain⟨x,e,hx⟩:=h q t rfl;rw[e];exact hf q x t hx
theorem CP.ret {α β:Type}{R:α→β→Prop}{q:α}{x:β}{t:Nat}(h:R q x):CP R (.ok q t) (.ok x t):=fun q' t' e=>by injection e with e1 e2;subst e1;subst e2;exact⟨x,rfl,h⟩
theorem CP.err {α β:Type}{R:α→β→Prop}{c:Int}{r':Rs β}:CP R (.err c) r':=fun q t e=>by cases e
section
variable {m:Nat} {a d:List Int}
def KA (m:Nat)(a d:List Int)(qs:List Pl)(xs:List Sr):Prop:=qs.length=xs.length∧∀i,i<qs.length→FH m a d (qs.getD i []) (xs.getD i [])
theorem KA.nil:KA m a d [] []:=⟨rfl,fun i hi=>by simp at hi⟩
theorem KA.cons {q:Pl}{x:Sr}{qs:List Pl}{xs:List Sr}(h:FH m a d q x)(k:KA m a d qs xs):KA m a d (q::qs) (x::xs) :=
 ⟨by rw[z9,z9,k.1],fun i hi=>by
  cases i with
  |zero=>simpa using h
  |succ i=>have:=k.2 i (by simpa using hi);simpa using this⟩
theorem KA.snoc {q:Pl}{x:Sr}{qs:List Pl}{xs:List Sr}(k:KA m a d qs xs)(h:FH m a d q x):KA m a d (qs++[q]) (xs++[x]) :=
 ⟨by simp[k.1],fun i hi=>by
  by_cases e:i=qs.length
  rw[Kl e,Kl (by rw[← k.1];exact e)];exact h
  rw[z4,zd]at hi
  rw[JA zO,JA (by rw[← k.1];omega)];exact k.2 i zO⟩
theorem KB {q:Pl}{x:Sr}{t:Nat}(h:FH m a d q x):CP (FH m a d) (EI q t) (.ok x t):=by unfold EI;split;exact CP.err;exact CP.ret h
theorem U8 {n:Int}(hn:0≤n∧n<1000003):FH m a d (JD m n) (GP 13 n):=by
 refine⟨?_,Gl (Dl.2 hn),fun t=>?_⟩;unfold JD;split;exact GK.nil _ _;refine⟨fun t ht=>?_,fun t ht=>?_,⟨fun q hq=>(by cases hq),trivial⟩,fun t ht=>?_⟩;rw[List.mem_singleton]at ht;rw[ht];exact⟨z5 ..,fun e he=>by rw[List.eq_of_mem_replicate he];omega⟩;rw[List.mem_singleton]at ht;rw[ht];have:∀m,BR (List.replicate m 0)=0:=fun m=>by
  induction m with
  |zero=>rfl
  |succ m ih=>rw[List.replicate_succ];show 0+BR _=0;omega
 show BR (List.replicate m 0)≤12;rw[this];omega;rw[List.mem_singleton]at ht;rw[ht];exact⟨by show 1≤n;omega,hn.2⟩;have e:Fi (GP 13 n) t=Fq n:=by
  rw[Dh,D7,Cf,Ev 12 fun j hj=>?_];show Fq ((GP 13 n).getD 0 0)+t*0=Fq n;rw[show(GP 13 n).getD 0 0=n from rfl];grind;show Fq ((GP 13 n).getD (j+1) 0)=0;unfold GP;rw[EB,if_neg (by omega)];rw[List.getD_eq_getElem?_getD,List.getElem?_replicate];split <;> rfl
 rw[e];unfold JD;split;rename_i h;rw[h];rfl;rw[BU,JZ];show Fq n=Fq n*1+0;grind
theorem U9 {kd:Int}{qs:List Pl}{xs:List Sr}{t:Nat}(h:KA m a d qs xs)(h1:kd=7→1≤qs.length)(h2:kd≠7→2≤qs.length):CP (FH m a d) (LS kd qs t) (MW kd xs t):=by
 unfold LS MW;by_cases k3:kd=3;rw[if_pos k3,if_pos k3];exact KB ((h.2 0 (by have:=h2 (by omega);omega)).add (h.2 1 (by have:=h2 (by omega);omega)));rw[if_neg k3,if_neg k3];by_cases k4:kd=4;rw[if_pos k4,if_pos k4];exact KB ((h.2 0 (by have:=h2 (by omega);omega)).red (h.2 1 (by have:=h2 (by omega);omega)));rw[if_neg k4,if_neg k4];by_cases k5:kd=5;rw[if_pos k5,if_pos k5];have ha:=h.2 0 (by have:=h2 (by omega);omega);have hb:=h.2 1 (by have:=h2 (by omega);omega);unfold Qa;split;rename_i h0;have e:=ha.mul hb (h0.elim .inl fun h=>.inr<|.inl h);have:JC (qs.getD 0 []) (qs.getD 1 [])=[]:=by
  rcases h0 with h0|h0;rw[h0];rfl;rw[h0];have:∀a:List Tm,a.foldl (fun out x=>GZ x ([]:List Tm) out) []=[]:=fun a=>by induction a with
   |nil=>rfl
   |cons b a ih=>exact ih
  exact this _
 rw[this]at e;exact CP.ret e;split;exact CP.err;exact KB<|ha.mul hb<|.inr<|.inr zO;rw[if_neg k5,if_neg k5];by_cases k7:kd=7;rw[if_pos k7,if_pos k7];exact CP.ret ((h.2 0 (h1 k7)).scl (by decide));rw[if_neg k7,if_neg k7];have ha:=h.2 0 (by have:=h2 k7;omega);have hb:=h.2 1 (by have:=h2 k7;omega);by_cases hd:Cm (qs.getD 1 [])≤0;rw[Mv hd,Rs.bind_ok];obtain⟨c1,c2,c3⟩:=hb.const hd;by_cases h0:MX (qs.getD 1 [])=0;rw[if_pos h0];exact CP.err;rw[if_neg h0,if_neg (by rw[c2];exact h0)];exact CP.ret<|ha.quo hb hd h0;rw[Mw zO,Rs.bind_err];exact CP.err
theorem Xi {q:Pl}{x:Sr}{t:Nat}(h:FH m a d q x){A B:Nat→Rs Pl}{A' B':Nat→Rs Sr}(hA:CP (FH m a d) (A t) (A' t))(hB:CP (FH m a d) (B t) (B' t)):CP (FH m a d) ((Eu q t).bind fun c u=>if c=0 then A u else B u) (if x.getD 0 0=0 then A' t else B' t):=by by_cases hd:Cm q≤0;rw[Mv hd,Rs.bind_ok];obtain⟨c1,c2,c3⟩:=h.const hd;by_cases h0:MX q=0;rw[if_pos h0,if_pos (by rw[c2];exact h0)];exact hA;rw[if_neg h0,if_neg (by rw[c2];exact h0)];exact hB;rw[Mw zO,Rs.bind_err];exact CP.err
structure ZW (m:Nat)(a d:List Int)(p:List Fn)(F:Nat)(C:LR)(C':Ca):Prop where
 one:∀f j qs xs t,f<F→j<(p.getD f Fn.zero).outs.length→KA m a d qs xs→((qs.length:Nat):Int)=(p.getD f Fn.zero).params→CP (FH m a d) (C.one f j qs t) (C'.one f j xs t)
 all:∀f qs xs t,f<F→KA m a d qs xs→((qs.length:Nat):Int)=(p.getD f Fn.zero).params→CP (fun q x=>KA m a d q x∧q.length=(p.getD f Fn.zero).outs.length) (C.all f qs t) (C'.all f xs t)
variable {p:List Fn}
theorem MA {C:LR}{C':Ca}{env:List Pl}{ex:List Sr}:∀(l:List Ex),(∀e∈l,∀s,CP (FH m a d) (Fj m C e env s) (CF 13 C' e ex s))→∀s,CP (fun q x=>KA m a d q x∧q.length=l.length) (Fd m C l env s) (DP 13 C' l ex s)
 |[],_,s=>by
  rw[Fd,DP]
  exact CP.ret ⟨KA.nil,rfl⟩
 |e::l,h,s=>by
  rw[Fd,DP]
  exact (h e (z0 ..) s).bind fun q x t hx=>(MA l (fun e he=>h e<|z3 _ he) t).bind fun qs xs u hxs=>CP.ret ⟨hxs.1.cons hx,by rw[z9,z9,hxs.2]⟩
theorem ND {F f:Nat}{C:LR}{C':Ca}(hC:ZW m a d p F C C')(hf:f<F)(ho:(((p.getD f Fn.zero).outs.length:Nat):Int)=(p.getD f Fn.zero).params):∀(c:Nat)(qs:List Pl)(xs:List Sr)(t:Nat),KA m a d qs xs→qs.length=(p.getD f Fn.zero).outs.length →
  CP (fun q x=>KA m a d q x∧q.length=(p.getD f Fn.zero).outs.length) (JE (C.all f) c qs t) (IW (C'.all f) c xs t)
 |0,qs,xs,t,h,hl=>CP.ret ⟨h,hl⟩
 |c+1,qs,xs,t,h,hl=>(ND hC hf ho c qs xs t h hl).bind fun ys ws u hy=>hC.all f ys ws u hf hy.1 (by rw[hy.2];exact ho)
theorem MB {F:Nat}{C:LR}{C':Ca}(hC:ZW m a d p F C C'):∀(z:Nat)(e:Ex),e.size≤z→∀(env:List Pl)(ex:List Sr)(s:Nat),wf p ((F:Nat):Int) e ((env.length:Nat):Int)=true→KA m a d env ex→CP (FH m a d) (Fj m C e env s) (CF 13 C' e ex s)
 |0,e,h,_,_,_,_,_=>by have:=DN e;omega
 |z+1,e,h,env,ex,s,hw,he=>by
  obtain⟨w1,w2,w3,w4,w5,w6,w7,w8⟩:=DC (Dp hw)
  have hz:∀j,j<e.kids.length→(e.kids.getD j Ex.zero).size≤z:=fun j hj=>by
   have:=DN e;have:=N9 hj;omega
  have hk:∀j,j<e.kids.length→¬(e.kind=9∧j=1)→∀t,CP (FH m a d) (LT m C e.kids j env t) (Iy 13 C' e.kids j ex t):=fun j hj hn t=>by
   rw[Fx _ _ _ _ _ _ hj,Gs _ _ _ _ _ _ hj]
   exact MB hC z _ (hz j hj) env ex t (Du hw hj hn) he
  rw[Fy,I1]
  by_cases hs3:3000≤s
  rw[if_pos hs3];exact CP.err
  rw[if_neg hs3,if_neg hs3]
  by_cases k1:e.kind=1
  rw[if_pos k1,if_pos k1];exact CP.ret (U8 (w8 k1))
  rw[if_neg k1,if_neg k1]
  by_cases k2:e.kind=2
  rw[if_pos k2,if_pos k2];exact CP.ret (he.2 _ (by have:=w2 k2;omega))
  rw[if_neg k2,if_neg k2]
  by_cases k8:e.kind=8
  rw[if_pos k8,if_pos k8]
  have h3:=w5 k8
  exact (hk 0 zO zO (s+1)).bind fun q x t hx=>Xi (A:=fun u=>LT m C e.kids 1 env u) (B:=fun u=>LT m C e.kids 2 env u) (A':=fun u=>Iy 13 C' e.kids 1 ex u) (B':=fun u=>Iy 13 C' e.kids 2 ex u) hx (hk 1 zO zO t)<|hk 2 zO zO t
  rw[if_neg k8,if_neg k8]
  by_cases k9:e.kind=9
  rw[if_pos k9,if_pos k9]
  have h3:=w3 zO
  refine (hk 0 zO zO (s+1)).bind fun q x t hx=>?_
  rw[Fx _ _ _ _ _ _ (show 1<e.kids.length by omega),Gs _ _ _ _ _ _ (show 1<e.kids.length by omega)]
  refine MB hC z _ (hz 1 zO) (env++[q]) (ex++[x]) t ?_<|he.snoc hx
  have:=Mr hw zO k9
  rw[z4,zd,Int.natCast_add];exact this
  rw[if_neg k9,if_neg k9]
  have hc:=MA (C:=C) (C':=C') (env:=env) (ex:=ex) e.kids (fun x hx t=>by
   obtain⟨j,hj,rfl⟩:=List.mem_iff_getElem.1 hx
   have:=hk j hj zO t
   rw[Fx _ _ _ _ _ _ hj,Gs _ _ _ _ _ _ hj,Kk hj]at this
   exact this) (s+1)
  refine hc.bind fun qs xs t hx=>?_
  by_cases k10:e.kind=10
  rw[if_pos k10,if_pos k10]
  have h6:=w6<|.inl k10
  exact hC.one _ _ _ xs t zO zO hx.1 (by rw[hx.2];exact h6.2.2.1)
  rw[if_neg k10,if_neg k10]
  by_cases k11:e.kind=11
  rw[if_pos k11,if_pos k11]
  have h6:=w6 (.inr k11);have h7:=w7 k11
  exact (ND hC (f:=e.num.toNat) zO h7.1 e.count.toNat qs xs t hx.1 (by rw[hx.2];omega)).bind fun ys ws u hy=>CP.ret<|hy.1.2 _ (by rw[hy.2];omega)
  rw[if_neg k11,if_neg k11]
  exact U9 hx.1 (fun h7=>by rw[hx.2,w4 h7];decide) fun h7=>by rw[hx.2,w3 (by omega)];decide
theorem Pw (hv:IG p):∀F,F≤p.length→ZW m a d p F (H2 p m F) (ES p 13 F)
 |0,_=>⟨fun f j qs xs t h=>by omega,fun f qs xs t h=>by omega⟩
 |F+1,hF=>by
  have ih:=Pw hv F zO
  have hO:∀j qs xs t,j<(p.getD F Fn.zero).outs.length→KA m a d qs xs→((qs.length:Nat):Int)=(p.getD F Fn.zero).params→CP (FH m a d) (Fj m (H2 p m F) ((p.getD F Fn.zero).outs.getD j Ex.zero) qs t) (CF 13 (ES p 13 F) ((p.getD F Fn.zero).outs.getD j Ex.zero) xs t):=fun j qs xs t h2 h3 h4 =>
   MB ih _ _ (A7 _) qs xs t (by rw[h4];exact hv.wf F zO j h2) h3
  refine⟨fun f j qs xs t h1 h2 h3 h4=>?_,fun f qs xs t h1 h3 h4=>?_⟩
  show CP _ (if f=F then _ else _) (if f=F then _ else _)
  by_cases e:f=F
  subst e;rw[if_pos rfl,if_pos rfl];exact hO j qs xs t h2 h3 h4
  rw[if_neg e,if_neg e];exact ih.one f j qs xs t zO h2 h3 h4
  show CP _ (if f=F then _ else _) (if f=F then _ else _)
  by_cases e:f=F
  subst e;rw[if_pos rfl,if_pos rfl]
  refine MA _ (fun e he s=>?_) t
  obtain⟨j,hj,rfl⟩:=List.mem_iff_getElem.1 he
  have:=hO j qs xs s hj h3 h4
  rwa [Kk hj]at this
  rw[if_neg e,if_neg e];exact ih.all f qs xs t zO h3 h4
theorem Xj (hv:IG p){f:Nat}{qs:List Pl}{xs:List Sr}(hf:f<p.length)(h:KA m a d qs xs)(hl:((qs.length:Nat):Int)=(p.getD f Fn.zero).params):CP (fun q x=>KA m a d q x∧q.length=(p.getD f Fn.zero).outs.length) (pe p m f qs) (ev p 13 f xs):=by have h:=(Pw (m:=m) (a:=a) (d:=d) hv (f+1) zO).all f qs xs 0 zO h hl;rw[JW (show f<f+1 by omega),Mu (show f<f+1 by omega)]at h;exact h
end
def Fe (m:Nat):List Pl:=E8 m fun v=>[⟨(List.replicate m 0).set v 1,1⟩]
theorem Px:∀(m v:Nat)(xs:List Fm),xs.length=m→v<m→DX ((List.replicate m 0).set v 1) xs=xs.getD v 0
 |0,v,_,_,h=>by omega
 |m+1,v,[],h,_=>by simp at h
 |m+1,0,x::xs,h,_=>by
  rw[List.replicate_succ,List.set_cons_zero]
  show Rl x 1*DX (List.replicate m 0) xs=x
  rw[JZ]
  show x*1*1=x
  grind
 |m+1,v+1,x::xs,h,hv=>by
  rw[List.replicate_succ,List.set_cons_succ]
  show Rl x 0*DX ((List.replicate m 0).set v 1) xs=(x::xs).getD (v+1) 0
  rw[Px m v xs (by simpa using h) (by omega)]
  show(1:Fm)*xs.getD v 0=xs.getD v 0
  grind
theorem Py:∀(m v:Nat),v<m→BR ((List.replicate m 0).set v 1)=1
 |0,v,h=>by omega
 |m+1,0,_=>by
  rw[List.replicate_succ,List.set_cons_zero]
  have:∀m,BR (List.replicate m 0)=0:=fun m=>by
   induction m with
   |zero=>rfl
   |succ m ih=>rw[List.replicate_succ];show 0+BR _=0;omega
  show 1+BR (List.replicate m 0)=1
  rw[this];rfl
 |m+1,v+1,h=>by
  rw[List.replicate_succ,List.set_cons_succ]
  show 0+BR ((List.replicate m 0).set v 1)=1
  rw[Py m v (by omega)];rfl
theorem Sg {m v:Nat}(hv:v<m):GK m 12 ((Fe m).getD v []):=by
 rw[show(Fe m).getD v []=_ from Bo [] hv];refine⟨fun t ht=>?_,fun t ht=>?_,⟨fun q hq=>(by cases hq),trivial⟩,fun t ht=>?_⟩;rw[List.mem_singleton]at ht;rw[ht];exact⟨by simp,fun e he=>by
  rcases List.mem_or_eq_of_mem_set he with h|h;rw[List.eq_of_mem_replicate h];omega;rw[h];omega⟩
 rw[List.mem_singleton]at ht;rw[ht];show BR _≤12;rw[Py m v hv];omega;rw[List.mem_singleton]at ht;rw[ht];show(1:Int)≤1∧(1:Int)<1000003;decide
theorem Om {a d:List Int}{m v:Nat}{t:Fm}(ha:a.length=m)(hd:d.length=m)(hv:v<m):(Ld a d t).getD v 0=Fq (a.getD v 0)+t*Fq (d.getD v 0):=by unfold Ld;simp only[List.getD_eq_getElem?_getD];rw[List.getElem?_eq_getElem (by rw[List.length_zipWith];omega),List.getElem_zipWith,List.getElem?_eq_getElem zO,List.getElem?_eq_getElem (by omega)];rfl
theorem Sh {m:Nat}{a d:List Int}{xs:List Sr}(ha:a.length=m)(hd:d.length=m)(hl:xs.length=m)(hs:HE 13 xs)(h0:∀v,v<m→(xs.getD v []).getD 0 0=a.getD v 0∧(xs.getD v []).getD 1 0=d.getD v 0∧∀j,2≤j→(xs.getD v []).getD j 0=0):KA m a d (Fe m) xs:=by
 have hi:(Fe m).length=m:=by unfold Fe;rw[Bl]
 refine⟨by rw[hi,hl],fun v hv=>?_⟩;rw[hi]at hv;refine⟨Sg hv,hs v (by rw[hl];exact hv),fun t=>?_⟩;obtain⟨e0,e1,e2⟩:=h0 v hv;rw[show(Fe m).getD v []=_ from Bo [] hv,BU];show _=Fq 1*DX ((List.replicate m 0).set v 1) (Ld a d t)+0;rw[Px m v _ (by unfold Ld;rw[List.length_zipWith];omega) hv,Om ha hd hv,Dh,(hs v (by rw[hl];exact hv)).1,Cf,Cf,Ev 11 fun j hj=>by rw[e2 _ (by omega)];rfl];show Fq ((xs.getD v []).getD 0 0)+t*(Fq ((xs.getD v []).getD 1 0)+t*0)=_;rw[e0,e1,Rc];grind
def XR (t:Fm):Nat→(Nat→Fm)→Fm
 |0,_=>0
 |n+1,f=>CD (fun j=>f (j+1)) t n+t*XR t n fun j=>f (j+1)
theorem V1 (t:Fm):∀(n:Nat)(f:Nat→Fm),XR t (n+1) f=CD (fun j=>Fq (((j+1:Nat)):Int)*f (j+1)) t n
 |0,f=>by show(0:Fm)+t*0=0;grind
 |n+1,f=>by
  show CD (fun j=>f (j+1)) t (n+1)+t*XR t (n+1) (fun j=>f (j+1))=_
  rw[V1 t n,Cf,Cf (fun j=>Fq (((j+1:Nat)):Int)*f (j+1))]
  have e:CD (fun j=>Fq (((j+1+1:Nat)):Int)*f (j+1+1)) t n=CD (fun j=>f (j+1+1)) t n+CD (fun j=>Fq (((j+1:Nat)):Int)*f (j+1+1)) t n:=by
   rw[← EL];refine Dm n fun j hj=>?_;rw[show(((j+1+1:Nat)):Int)=((j+1:Nat):Int)+1 from rfl,Fz,Rc];grind
  rw[e];show f (0+1)+t*CD _ t n+t*_=Fq ((0+1:Nat):Int)*f (0+1)+t*(_+_);rw[show Fq ((0+1:Nat):Int)=1 from rfl];generalize CD (fun j=>f (j+1+1)) t n=A;generalize CD (fun j=>Fq (((j+1:Nat)):Int)*f (j+1+1)) t n=B;grind
theorem V2 (k:Fm):∀(n:Nat)(f:Nat→Fm),∃g:Nat→Fm,(∀j,n≤j→g j=0)∧g 0=CD f k n∧g 1=XR k n f∧∀t,CD g t n=CD f (k+t) n
 |0,f=>⟨fun _=>0,fun _ _=>rfl,rfl,rfl,fun t=>rfl⟩
 |n+1,f=>by
  obtain⟨g,g1,g2,g3,g4⟩:=V2 k n fun j=>f (j+1)
  refine⟨fun j=>Y8 (f 0) j+(g j*k+Xg g j),fun j hj=>?_,?_,?_,fun t=>?_⟩
  cases j with
  |zero=>omega
  |succ j =>
   show 0+(g (j+1)*k+g j)=0
   rw[g1 _ zO,g1 j (by omega)];grind
  show f 0+(g 0*k+0)=_
  rw[Cf,g2];grind
  show 0+(g 1*k+g 0)=_
  rw[g2,g3]
  show 0+(XR k n (fun j=>f (j+1))*k+CD (fun j=>f (j+1)) k n)=CD (fun j=>f (j+1)) k n+k*XR k n fun j=>f (j+1)
  grind
  rw[EL,EL,Sd,Gp,Sc,IP (m:=n) (n+1) zO fun j h1 h2=>g1 j h1,g4,Cf f]
  generalize CD (fun j=>f (j+1)) (k+t) n=A
  grind
theorem Si {x y:List Int}(hx:Cx 13 x)(hy:Cx 13 y)(k:Fm)(h:∀t,Fi y t=Fi x (k+t)):Fq (y.getD 0 0)=Fi x k∧Fq (y.getD 1 0)=CD (fun j=>Fq (((j+1:Nat)):Int)*Fq (x.getD (j+1) 0)) k 12:=by
 obtain⟨g,g1,g2,g3,g4⟩:=V2 k 13 fun j=>Fq (x.getD j 0);have e:y=To g:=Ky hy (Hs g) fun t=>by rw[h,Ol,g4,Dh,hx.1]
 have e0:Fq (y.getD 0 0)=g 0:=by rw[e,show(To g).getD 0 0=_ from Bo 0 (by decide),Ok]
 have e1:Fq (y.getD 1 0)=g 1:=by rw[e,show(To g).getD 1 0=_ from Bo 0 (by decide),Ok]
 refine⟨by rw[e0,g2,Dh,hx.1],?_⟩;rw[e1,g3,V1 k 12]
end
section
def Dc (a d:List Int)(k:Nat):List Int:=E8 a.length fun i=>md (a.getD i 0+((k:Nat):Int)*d.getD i 0)
@[simp] theorem Dq (a d:List Int)(k:Nat):(Dc a d k).length=a.length:=by simp[Dc]
theorem KC {a d:List Int}{k i:Nat}(h:i<a.length):(Dc a d k).getD i 0=md (a.getD i 0+((k:Nat):Int)*d.getD i 0):=Bo 0 h
theorem MC (a d:List Int)(k:Nat):Bd (Dc a d k)=true:=EJ fun i _=>BN _
theorem Sj {a d:List Int}(hn:Bd a=true):Dc a d 0=a :=
 Qi (by simp) fun i hi=>by
  rw[Dq]at hi
  have:=Br hn i
  rw[KC hi,show((0:Nat):Int)*d.getD i 0=0 from Int.zero_mul _,Int.add_zero,Is this.1 this.2]
theorem Sk {a d:List Int}(hl:d.length=a.length)(k:Nat):Df (Dc a d k) d=Dc a d (k+1) :=
 Qi (by rw[Iw];simp) fun i hi=>by
  rw[Iw,Dq]at hi
  rw[show(Df (Dc a d k) d).getD i 0=md ((Dc a d k).getD i 0+d.getD i 0)from Bo 0 (by rw[Dq];exact hi),KC hi,KC hi]
  unfold md
  have e:((k+1:Nat):Int)*d.getD i 0=((k:Nat):Int)*d.getD i 0+d.getD i 0:=by rw[show((k+1:Nat):Int)=((k:Nat):Int)+1 from rfl,Int.add_mul,Int.one_mul]
  rw[e]
  omega
theorem Pz (a d:List Int){n:Nat}(hn:1≤n):(Ds a d n).map (D3 1)=Ch a:=by
 refine Y6 (by rw[zg,Fu];unfold Ch;rw[zg]) fun k hk=>?_;rw[zg,Fu]at hk;rw[FW (d:=[]) (by rw[Fu];exact hk),I2 hk];unfold Ch;rw[FW (d:=0) hk];refine Qi (by rw[EO,z6,D7];simp;omega) fun j hj=>?_;rw[EO,z6,D7]at hj;have:j=0:=by omega
 subst this;rw[CG _ (by decide),EB,if_neg (by omega)];unfold GP;rw[EB,if_pos ⟨rfl,by simp;omega⟩];rfl
theorem Ua (a d:List Int){n:Nat}(hn:2≤n):(Ds a d n).map (D3 2)=Ds a d 2:=by
 refine Y6 (by simp) fun k hk=>?_;rw[zg,Fu]at hk;rw[FW (d:=[]) (by rw[Fu];exact hk),I2 hk,I2 hk];refine Qi (by rw[EO,z6,z6,D7,D7];omega) fun j hj=>?_;rw[EO,z6,D7]at hj;rw[CG _ zO,EB,EB,D7,D7];by_cases h1:j=1;rw[if_pos ⟨h1,zO⟩,if_pos ⟨h1,zO⟩];have:j=0:=by omega
 subst this;rw[if_neg zO,if_neg (by omega)];unfold GP;rw[EB,EB,if_pos ⟨rfl,by simp;omega⟩,if_pos ⟨rfl,by simp⟩]
theorem Xk {m:Nat}{a d:List Int}(ha:a.length=m)(hd:d.length=m)(na:Bd a=true)(nd:Bd d=true):KA m a d (Fe m) (Ds a d 13):=by refine Sh ha hd (by rw[Fu];exact ha) (Pt na nd) fun v hv=>?_;rw[I2 (by omega)];refine⟨?_,?_,fun j hj=>?_⟩;rw[EB,if_neg (by omega)];rfl;rw[EB,if_pos ⟨rfl,by rw[D7];omega⟩];rw[EB,if_neg (by omega)];unfold GP;rw[EB,if_neg (by omega)];rw[List.getD_eq_getElem?_getD,List.getElem?_replicate];split <;> rfl
theorem Ya {x:Int}{k:Nat}(hx:0≤x∧x<1000003)(hk:k≤12):0≤((k:Nat):Int)*x∧((k:Nat):Int)*x≤12000036:=by refine⟨Int.mul_nonneg zO hx.1,?_⟩;have:=Int.mul_le_mul (show((k:Nat):Int)≤12 by omega) (show x≤1000003 by omega) hx.1 (by decide);omega
structure NE (p:List Fn)(f pk:Nat)(a d:List Int)(qs:List Pl):Prop where
 v:IG p
 lt:f<p.length
 la:((a.length:Nat):Int)=(p.getD f Fn.zero).params
 na:Bd a=true
 ld:d.length=a.length
 nd:Bd d=true
 pe:∃s,pe p a.length f (Fe a.length)=.ok qs s
 pk:pk<(p.getD f Fn.zero).outs.length
section
variable {p:List Fn} {f pk:Nat} {a d:List Int} {qs:List Pl}
theorem NE.run (h:NE p f pk a d qs)(k:Nat):Eo p 13 f (Ds (Dc a d k) d 13)=0∧KA a.length (Dc a d k) d qs (Hm p 13 f (Ds (Dc a d k) d 13))∧qs.length=(p.getD f Fn.zero).outs.length:=by
 obtain⟨s,hs⟩:=h.pe;have hi:(Fe a.length).length=a.length:=by unfold Fe;rw[Bl]
 obtain⟨X,e,hX,hl⟩:=Xj (m:=a.length) (a:=Dc a d k) (d:=d) h.v h.lt (Xk (Dq a d k) h.ld (MC a d k) h.nd) (by rw[hi];exact h.la) qs s hs;rw[Nk e,Nl e];exact⟨rfl,hX,hl⟩
def JF (p:List Fn)(f pk:Nat)(a d:List Int):Sr:=(Hm p 13 f (Ds a d 13)).getD pk []
theorem NE.x0 (h:NE p f pk a d qs)(k:Nat):FH a.length (Dc a d k) d (qs.getD pk []) (JF p f pk (Dc a d k) d):=by obtain⟨_,h2,h3⟩:=h.run k;exact h2.2 pk (by rw[h3];exact h.pk)
theorem NE.at0 (h:NE p f pk a d qs):FH a.length a d (qs.getD pk []) (JF p f pk a d):=by have:=h.x0 0;rwa [Sj h.na]at this
theorem Ub (hl:d.length=a.length)(k:Nat)(t:Fm):Ld (Dc a d k) d t=Ld a d (Fq ((k:Nat):Int)+t):=by
 refine List.ext_getElem (by unfold Ld;simp[List.length_zipWith]) fun i h1 h2=>?_;have hi:i<a.length:=by unfold Ld at h1;rw[List.length_zipWith,Dq]at h1;omega
 have e1:=Om (t:=t) (Dq a d k) hl hi;have e2:=Om (t:=Fq ((k:Nat):Int)+t) (a:=a) rfl hl hi;rw[List.getD_eq_getElem?_getD,List.getElem?_eq_getElem h1]at e1;rw[List.getD_eq_getElem?_getD,List.getElem?_eq_getElem h2]at e2;have e3:(Ld (Dc a d k) d t)[i]=Fq ((Dc a d k).getD i 0)+t*Fq (d.getD i 0):=e1;have e4:(Ld a d (Fq ((k:Nat):Int)+t))[i]=Fq (a.getD i 0)+(Fq ((k:Nat):Int)+t)*Fq (d.getD i 0):=e2;rw[e3,e4,KC hi,EH,Fz,Ec];grind
theorem NE.sh (h:NE p f pk a d qs)(k:Nat):Fq ((JF p f pk (Dc a d k) d).getD 0 0)=Fi (JF p f pk a d) (Fq ((k:Nat):Int))∧Fq ((JF p f pk (Dc a d k) d).getD 1 0)=CD (fun j=>Fq (((j+1:Nat)):Int)*Fq ((JF p f pk a d).getD (j+1) 0)) (Fq ((k:Nat):Int)) 12 :=
 Si h.at0.ser (h.x0 k).ser _ fun t=>by rw[(h.x0 k).val,h.at0.val,Ub h.ld]
theorem NE.len (h:NE p f pk a d qs)(k:Nat):pk<(Hm p 13 f (Ds (Dc a d k) d 13)).length:=by obtain⟨_,h2,h3⟩:=h.run k;rw[← h2.1,h3];exact h.pk
theorem NE.nx (h:NE p f pk a d qs)(k:Nat):Lc p f (Dc a d k)=0∧(NS p f (Dc a d k)).getD pk 0=Et (JF p f pk a d) ((k:Nat):Int)∧pk<(NS p f (Dc a d k)).length:=by have h1:=h.run k;have hl:=h.len k;unfold Lc NS;rw[← Pz (Dc a d k) d (n:=13) (by decide),Mz p (m:=1) (n:=13) (by decide) (by decide),Pr p (m:=1) (n:=13) (by decide) (by decide)];refine⟨h1.1,?_,by simpa using hl⟩;rw[List.map_map,FW (d:=[]) hl];show(D3 1 (JF p f pk (Dc a d k) d)).getD 0 0=_;rw[CG _ (by decide)];have hx:=(h.x0 k).ser;exact Nd (Br hx.2 0) (Iz _ _) (by rw[(h.sh k).1,Mh])
theorem NE.slope (h:NE p f pk a d qs)(k:Nat):Tn p f (Dc a d k) d=0∧((Ny p f (Dc a d k) d).map fun s:Sr=>s.getD 1 0).getD pk 0=Et (Jd (JF p f pk a d)) ((k:Nat):Int)∧pk<((Ny p f (Dc a d k) d).map fun s:Sr=>s.getD 1 0).length:=by
 have h1:=h.run k;have hl:=h.len k;unfold Tn Ny;rw[← Ua (Dc a d k) d (n:=13) (by decide),Mz p (m:=2) (n:=13) (by decide) (by decide),Pr p (m:=2) (n:=13) (by decide) (by decide)];refine⟨h1.1,?_,by simpa using hl⟩;rw[List.map_map,FW (d:=[]) hl];show(D3 2 (JF p f pk (Dc a d k) d)).getD 1 0=_;rw[CG _ (by decide)];have hx:=(h.x0 k).ser;have h0:=h.at0.ser;refine Nd (Br hx.2 1) (Iz _ _) ?_;rw[(h.sh k).2,Mh,Dh,Nz,h0.1];show _=CD (fun j=>Fq ((Jd (JF p f pk a d)).getD j 0)) (Fq ((k:Nat):Int)) 13;have e:∀j,j<13→(Jd (JF p f pk a d)).getD j 0=if j<12 then md (((j+1:Nat):Int)*(JF p f pk a d).getD (j+1) 0)else 0:=fun j hj=>by
  unfold Jd Kx;rw[h0.1];exact Bo 0 hj
 rw[IP (m:=12) 13 (by decide) fun j h2 h3=>by rw[e j h3,if_neg (by omega)];rfl];exact Dm 12 fun j hj=>by rw[e j zO,if_pos hj,EH,Ec]
theorem NE.itp (h:NE p f pk a d qs):Q4 (E8 13 fun k=>Et (JF p f pk a d) ((k:Nat):Int))=JF p f pk a d:=by have h0:=h.at0.ser;refine Rk (by rw[h0.1];decide) h0.2 (by rw[Bl,h0.1]) fun i hi=>?_;rw[h0.1]at hi;exact Bo 0 hi
end
end
structure Av where
 kind:Int
 arg:Int
deriving DecidableEq
def bY (a:Av):Prop:=(a.kind=1∧1≤a.arg∧a.arg≤40)∨((a.kind=2∨a.kind=3)∧0≤a.arg∧a.arg≤7)∨(a.kind=4∧a.arg=0)
instance (a:Av):Decidable (bY a):=by unfold bY;infer_instance
def ZX {α:Type}(E:BC α):Prop:=∀H cs x F,E H cs x F→F=[]∧∀H',E H' cs x []
theorem On {α:Type}{E:BC α}(hf:ZX E){H:Array Obj}:∀ {css:List (List Value)}{xs:List α}{F:List Nat},CI E H css xs F→F=[]∧∀H',CI E H' css xs []
 |[],[],F,h=>⟨h,fun _=>rfl⟩
 |c::css,x::xs,F,⟨F1,F2,hF,h1,h2⟩=>by
  obtain⟨a1,a2⟩:=hf _ _ _ _ h1
  obtain⟨b1,b2⟩:=On hf h2
  exact⟨by rw[hF,a1,b1];rfl,fun H'=>⟨[],[],rfl,a2 H',b2 H'⟩⟩
 |[],_::_,_,h=>h.elim
 |_::_,[],_,h=>h.elim
section
section run
variable {P:Program} {t ty e:TypeId} {z:Value} {b s:Nat} {w:World} {α:Type} {E:BC α}
theorem Sl (hE:C5 s E) (hf:ZX E) (ht:P.underlying t = some (.slice e)) (hi:TI P e s z b) (hz:z.cells.size = s) (hs:0 < s) {v:Value} {xs:List α} {F:List Nat} (hv1:EN s E e w.heap v xs F)
  {a:Value} {ys:List α} {S:List Nat} (ha:RN S (D0 s E) w.heap a ys) (hbytes:(xs.length + ys.length) * b≤140737488355328) (hmx:xs.length + ys.length≤maxLen) :
  ∃ v' w' G F',(Builtin.append_ #[t,t] ty #[v,a]).run P w = .ok v' w'∧EN s E e w'.heap v' (xs++ys) F'∧Ax G w w'∧(∀ c∈G,c∈F)∧∀ c∈F',c∈F∨w.heap.size≤c:=by
 obtain ⟨G,ha1,_⟩:=ha;obtain ⟨i,h1,h2,h3,h4⟩:=hi.get;subst h4;have hsmall:xs.length + ys.length≤9223372036854775807:=by simp only [maxLen] at hmx; omega
 rcases ha1 with ⟨aa,capa,rfl,rfl,_⟩ | ⟨cas,ga,offa,capa,cura,ea,fra,G',hels,rfl,hga,a3,a2,rfl⟩;-- nothing is added
 refine ⟨v,w,[],F,?_,?_,⟨rfl,rfl,rfl,A7 _,fun _ _ _=>rfl⟩,(fun c hc=>(by cases hc)),fun c hc=>.inl hc⟩;have hf0:(Builtin.firstCells (i.size) 0 (.slice aa 0 capa)).run P w = .ok #[] w:=by
  cases aa <;> simp [Builtin.firstCells,loadCells,loadCellsFrom]
 rcases hv1 with ⟨rfl,rfl,rfl⟩ | ⟨ous,gv,capv,curv,F0,hels0,rfl,hgv,r1,r2,r3,r4,rfl⟩;simp [Builtin.append_,run_underlying ht,sizeOf,typeInfo,h1,Builtin.lenOf,hf0];simp [Builtin.append_,run_underlying ht,sizeOf,typeInfo,h1,Builtin.lenOf,hf0,r1,storeCells];rw [List.append_nil];exact hv1;obtain ⟨rfl,hel⟩:=On hf hels;have hfl:=hels.flen hE;have hnews:∀ j u,cas.flatten[j]? = some u→w.cell? ((⟨ga,offa,none⟩:Addr).add j) = some u:=by
  intro j u hj;have e1:(⟨ga,offa,none⟩:Addr).add j = ⟨ga,offa + j,none⟩:=by
   unfold Addr.add;split;rename_i hh; subst hh; rfl;simp
  rw [e1,BF];simp only [C8,hga];rw [← a3,List.getElem?_take] at hj;split at hj;rw [List.getElem?_drop] at hj; simpa using hj;cases hj
 have h1c:∀ u∈cas.flatten,u.oneCell' = true:=fun u hu=>(hels.one hE u hu).2;have hl1:cas.flatten.length = ys.length * i.size:=by rw [h3,hfl]
 have hsz1:∀ (w1:World) o,w1.heap = w.heap→(w1.alloc o).heap.size = w.heap.size + 1:=fun w1 o hh=>by
  show (w1.heap.push _).size = _;rw [hh]; simp
 have made:∀ (w1:World) (ous:List (List Value)) (rest:Nat),w1.heap = w.heap→w1.os = w.os→w1.tape = w.tape→w1.output = w.output→CI E w.heap ous xs [] →
   (xs.length + ys.length + rest)≤maxLen →
   EN s E e (w1.alloc (.cells (ous.flatten.toArray++cas.flatten.toArray++Builtin.zeroCells z.cells rest) e)).heap (.slice (some ⟨w.heap.size,0,none⟩) (xs.length + ys.length) (xs.length + ys.length + rest)) (xs++ys) [w.heap.size] ∧
    Ax ([]:List Nat) w (w1.alloc (.cells (ous.flatten.toArray++cas.flatten.toArray++Builtin.zeroCells z.cells rest) e)):=by
  intro w1 ous rest hh ho htp hop hou hmax;have happ:=hou.append hels;have hofl:=hou.flen hE;have hzc:(Builtin.zeroCells z.cells rest).size = rest * s:=by simp [Builtin.zeroCells,hz]
  have hsz:(ous.flatten.toArray++cas.flatten.toArray++Builtin.zeroCells z.cells rest).size = (xs.length + ys.length + rest) * s:=by
   rw [Nat.add_mul,Nat.add_mul];simp only [Array.size_append,List.size_toArray,hzc,hfl,hofl]
  have hlen:(xs++ys).length = xs.length + ys.length:=by simp
  have hnew:=K1 (e:=e) (w:=w1) hE (css:=ous++cas) (xs:=xs++ys) (F:=[]++[]) (cur:=ous.flatten.toArray++cas.flatten.toArray++Builtin.zeroCells z.cells rest) (cap:=xs.length + ys.length + rest)
   (by rw [hh]; exact happ) (by rw [hlen]; omega) hmax hsz (by
    rw [hlen,Array.toList_append,Array.toList_append,List.flatten_append];have e1:(xs.length + ys.length) * s = (ous.flatten++cas.flatten).length:=by rw [z4,hofl,hfl,Nat.add_mul]
    rw [e1]; exact List.take_left)
  rw [hh,hlen] at hnew;refine ⟨hnew,ho,htp,hop,?_,fun k hk _=>?_⟩;show w.heap.size≤(w1.heap.push _).size;rw [hh]; simp;have:=Below.heap_alloc w1 (.cells (ous.flatten.toArray++cas.flatten.toArray++Builtin.zeroCells z.cells rest) e) k (by rw [hh]; exact hk);rw [this,hh]
 rcases hv1 with ⟨rfl,rfl,rfl⟩ | ⟨ous,gv,capv,curv,F0,hels0,rfl,hgv,r1,r2,r3,r4,rfl⟩;by_cases hy:ys.length = 0;have hy0:ys = []:=List.eq_nil_of_length_eq_zero hy;subst hy0;refine ⟨.slice none 0 0,w,[],[],?_,.inl ⟨rfl,rfl,rfl⟩,⟨rfl,rfl,rfl,A7 _,fun _ _ _=>rfl⟩,(fun c hc=>(by cases hc)),fun c hc=>(by cases hc)⟩;simp [Builtin.append_,run_underlying ht,sizeOf,typeInfo,h1,Builtin.lenOf,Builtin.firstCells,loadCells,loadCellsFrom];have hr:=run_append_nil (P:=P) w t ty e i z ht h1 h2 ⟨ga,offa,none⟩ ys.length capa cas.flatten hl1 hnews zO (by simp at hsmall; omega) (by simp only [zb,Nat.zero_add] at hbytes; omega);have hge:=grownCap_ge w ys.length 0 e;have hgm:=grownCap_le_maxLen w ys.length 0 e (by simpa using hmx);obtain ⟨q1,q2⟩:=made w.drew [] (grownCap w ys.length 0 e - ys.length) rfl rfl rfl rfl rfl (by simp; omega);refine ⟨_,_,[],[w.heap.size],hr,?_,?_,(fun c hc=>(by cases hc)),fun c hc=>.inr (by rw [A9 hc]; exact A7 _)⟩;have ea:(([]:List α).length + ys.length + (grownCap w ys.length 0 e - ys.length)) = grownCap w ys.length 0 e:=by simp; omega
 rw [ea] at q1;simpa using q1;simpa using q2;obtain ⟨rfl,hel0⟩:=On hf hels0;have hofl:=hels0.flen hE;by_cases hroom:xs.length + ys.length≤capv;have hbnd:xs.length * s + ys.length * s≤curv.size:=by rw [r3,← Nat.add_mul]; exact Nat.mul_le_mul_right s hroom
 have hr:=run_append_room (P:=P) w t ty e i ht h1 gv xs.length capv curv hgv ⟨ga,offa,none⟩ ys.length capa cas.flatten hl1 hnews h1c hroom (by rw [h3,hfl]; exact hbnd);rw [h3] at hr;refine ⟨_,_,[gv],[gv],hr,.inr ⟨ous++cas,gv,capv,_,[],?_,by rw [z4],setRow_heap w gv curv _ e _ hgv,by rw [z4]; exact hroom,r2,?_,?_,rfl⟩,⟨rfl,rfl,rfl,by simp,fun k _ hk=>setRow_other w gv k _ fun hh=>hk (by simp [hh])⟩,fun c hc=>by rw [A9 hc]; exact z0 ..,fun c hc=>.inl hc⟩;exact (hel0 _).append<|hel _;rw [← r3];simp only [List.size_toArray,z4,List.length_take,List.length_drop,Array.length_toList];omega;rw [z4];simp only [List.flatten_append];rw [r4];have e1:(xs.length + ys.length) * s = (ous.flatten++cas.flatten).length:=by rw [z4,hofl,hfl,Nat.add_mul]
 rw [e1]; exact List.take_left;have holds:∀ j u,ous.flatten[j]? = some u→w.cell? ((⟨gv,0,none⟩:Addr).add j) = some u:=by
  intro j u hj;have e1:(⟨gv,0,none⟩:Addr).add j = ⟨gv,j,none⟩:=by
   unfold Addr.add;split;rename_i hh; subst hh; rfl;simp
  rw [e1,BF];simp only [C8,hgv];rw [← r4,List.getElem?_take] at hj;split at hj;simpa using hj;cases hj
 have hr:=run_append_grow (P:=P) w t ty e i z ht h1 h2 ⟨gv,0,none⟩ xs.length capv ous.flatten (by rw [h3,hofl]) holds ⟨ga,offa,none⟩ ys.length capa cas.flatten hl1 hnews zO zO<|growslice_fits zO hbytes;have hge:=grownCap_ge w (xs.length + ys.length) capv e;have hgm:=grownCap_le_maxLen w (xs.length + ys.length) capv e hmx;obtain ⟨q1,q2⟩:=made w.drew ous (grownCap w (xs.length + ys.length) capv e - (xs.length + ys.length)) rfl rfl rfl rfl hels0 zO;refine ⟨_,_,[],[w.heap.size],hr,?_,q2,(fun c hc=>(by cases hc)),fun c hc=>.inr (by rw [A9 hc]; exact A7 _)⟩;have ea:(xs.length + ys.length + (grownCap w (xs.length + ys.length) capv e - (xs.length + ys.length))) = grownCap w (xs.length + ys.length) capv e:=by omega
 rw [ea] at q1;exact q1
end run
def rC (s:Nat):BC (List Value):=fun _ cs x F=>cs=x∧cs.length=s∧(∀u∈cs,u.cells=#[u]∧u.oneCell'=true)∧F=[]
theorem Bh (s:Nat):C5 s (rC s) where
 len h:=h.2.1
 one h:=h.2.2.1
 lt h b hb:=by rw[h.2.2.2]at hb;cases hb
 stable h _:=h
theorem Yb (s:Nat):ZX (rC s):=by rintro H cs x F ⟨h1,h2,h3,rfl⟩;exact⟨rfl,fun H'=>⟨h1,h2,h3,rfl⟩⟩
theorem Oo {s:Nat}{H:Array Obj}:∀ {css xs:List (List Value)}{F:List Nat},CI (rC s) H css xs F→css=xs∧F=[]
 |[],[],_,h=>⟨rfl,h⟩
 |_::_,_::_,_,⟨F1,F2,hF,h1,h2⟩=>by
  obtain⟨e,f⟩:=Oo h2
  rw[h1.1,e,hF,h1.2.2.2,f];exact⟨rfl,rfl⟩
 |[],_::_,_,h=>h.elim
 |_::_,[],_,h=>h.elim
structure Ed {α:Type}(s:Nat)(E:BC α)(e:TypeId)(S:List Nat)(B:Nat)(H:Array Obj)(v:Value)(xs:List α)(F:List Nat):Prop where
 low:∀b∈F,B≤b
 dis:∀b∈F,b∉S
 own:∃css,EN s (rC s) e H v css F∧css.length=xs.length∧∀k x,xs[k]? = some x→RN (S++F) E H (css.getD k []) x
def Gw {α:Type}(s:Nat)(E:BC α)(e:TypeId)(S:List Nat)(B:Nat)(H:Array Obj)(v:Value)(xs:List α):Prop:=∃F,Ed s E e S B H v xs F
section bld
variable {α:Type} {s:Nat} {E:BC α} {e:TypeId} {S F:List Nat} {B:Nat} {w w':World} {v:Value} {xs:List α}
theorem Ed.nil {U:Nat}{H:Array Obj}{B':Nat}(h:Fr (EN s (rC s) e) B U H v [])(hB:B'≤B)(hS:∀b∈S,b<B):∃F,Ed s E e S B' H v ([]:List α) F:=by obtain⟨F,h1,h2,h3⟩:=h;exact⟨F,fun b hb=>by have:=(h3 b hb).1;omega,fun b hb hm=>by have:=(h3 b hb).1;have:=hS b hm;omega,[],h1,rfl,fun k x hx=>by simp at hx⟩
theorem Ed.nil0 (H:Array Obj):Ed s E e S B H (.slice none 0 0) ([]:List α) []:=⟨(fun b hb=>(by cases hb)),(fun b hb=>(by cases hb)),[],.inl ⟨rfl,rfl,rfl⟩,rfl,fun k x hx=>by simp at hx⟩
theorem Ed.isSl {H:Array Obj}(h:Ed s E e S B H v xs F):Go.Proofs.YtbcopolhaljhhaaGreat.Ea v xs.length:=by obtain⟨css,h1,h2,_⟩:=h.own;rw[← h2];exact h1.isSl
theorem Ed.lt {H:Array Obj}(h:Ed s E e S B H v xs F):∀b∈F,b<H.size:=by obtain⟨css,h1,_⟩:=h.own;exact (AL<|Bh s).lt h1
theorem Ed.ext (hE:C5 s E)(h:Ed s E e S B w.heap v xs F)(k:AK w w'):Ed s E e S B w'.heap v xs F:=by obtain⟨css,h1,h2,h3⟩:=h.own;exact⟨h.low,h.dis,css,(AL (Bh s)).stable h1 fun b hb=>k.heap (h.lt b hb),h2,fun i x hx=>(h3 i x hx).extN hE k⟩
theorem Ed.chg (hE:C5 s E)(h:Ed s E e S B w.heap v xs F){G:List Nat}(c:Ax G w w')(hS:∀b∈G,b∈S):Ed s E e S B w'.heap v xs F:=by obtain⟨css,h1,h2,h3⟩:=h.own;exact⟨h.low,h.dis,css,(AL (Bh s)).stable h1 fun b hb=>c.block b (h.lt b hb) fun hm=>h.dis b hb (hS b hm),h2,fun i x hx=>(h3 i x hx).chgN hE (c.sub fun b hb=>z8 _ (hS b hb))⟩
theorem KD {H:Array Obj}:∀ {css:List (List Value)}{xs:List α},css.length=xs.length→(∀k x,xs[k]? = some x→RN S E H (css.getD k []) x)→∃G,CI E H css xs G∧∀b∈G,b∉S
 |[],[],_,_=>⟨[],rfl,fun b hb=>by cases hb⟩
 |u::us,x::xs,hl,h=>by
  obtain⟨G1,q1,q2⟩:=h 0 x rfl
  obtain⟨G2,r1,r2⟩:=KD (css:=us) (xs:=xs) (by simpa using hl) fun k y hk=>by
   have:=h (k+1) y (by simpa using hk)
   simpa using this
  exact⟨G1++G2,⟨G1,G2,rfl,by simpa using q1,r1⟩,fun b hb=>(zi.1 hb).elim (q2 b) (r2 b)⟩
 |[],_::_,h,_=>by simp at h
 |_::_,[],h,_=>by simp at h
theorem Ed.done {H:Array Obj}(h:Ed s E e S B H v xs F):RN S (D0 s E) H v xs:=by obtain⟨css,h1,h2,h3⟩:=h.own;obtain⟨G,g1,g2⟩:=KD h2 h3;rcases h1 with⟨rfl,hc,rfl⟩|⟨ds,gb,cap,cur,F',hels,rfl,hg,r1,r2,r3,r4,hF⟩;have:xs=[]:=List.eq_nil_of_length_eq_zero (by rw[← h2,hc];rfl);subst this;exact⟨[],.inl ⟨none,0,rfl,rfl,rfl⟩,fun b hb=>by cases hb⟩;obtain⟨hd,hF0⟩:=Oo hels;subst hd;refine⟨gb::G,.inr ⟨ds,gb,0,cap,cur,e,(0,0),G,g1,by rw[h2],hg,by rw[List.drop_zero,← h2];exact r4,by rw[← h2];exact⟨A8 r1 r2,r1⟩,rfl⟩,fun b hb hm=>?_⟩;rcases ze.1 hb with rfl|hb;exact h.dis b (by rw[hF];exact z0 ..) hm;exact g2 b hb<|z8 _ hm
theorem Xl {U:Nat}{H:Array Obj}{a:Value}{cs:List Value}{r:α}{B':Nat}(ha:Fr (EN s (rC s) e) B' U H a [cs])(hr:RN S E H cs r)(hS:∀b∈S,b<B'):RN S (D0 s E) H a [r]:=by obtain⟨A,a1,a2,a3⟩:=ha;rcases a1 with⟨_,hc,_⟩|⟨ds,gb,cap,cur,F',hels,rfl,hg,r1,r2,r3,r4,rfl⟩;cases hc;obtain⟨hd,hF0⟩:=Oo hels;subst hd;obtain⟨K,k1,k2⟩:=hr;refine⟨gb::(K++[]),.inr ⟨[cs],gb,0,cap,cur,e,(0,0),K++[],⟨K,[],rfl,k1,rfl⟩,rfl,hg,by rw[List.drop_zero];exact r4,⟨A8 r1 r2,r1⟩,rfl⟩,fun b hb hm=>?_⟩;rcases ze.1 hb with rfl|hb;have:=(a3 b (z0 ..)).1;have:=hS b hm;omega;rw[List.append_nil]at hb;exact k2 b hb hm
end bld
section ops
variable {P:Program} {ops:Array Oper} {w0:World} {Q:Act→World→Prop} {os:List Oper} {ks:List Nat} {N:Nat} {ρ:Nat→Value} {w:World}
 {d:Nat} {ty:TypeId} {pos:String} {aft:Array Edge} {g:Option (Nat×Bool)} {t e:TypeId} {z:Value} {b s:Nat} {α:Type} {E:BC α}
theorem BK (hE:C5 s E){x y:Operand}{v a:Value}{xs:List α}{r:α}{cs:List Value}{S F:List Nat}{B B' U':Nat}(ht:P.underlying t=some (.slice e))(hi:TI P e s z b)(hz:z.cells.size=s)(hs:0<s)(hx:Bs N ρ x=v)(hy:Bs N ρ y=a)
  (hv:Ed s E e S B w.heap v xs F) (hB:B≤w.heap.size) (hS:∀b∈S,b<w.heap.size) (ha:Fr (EN s (rC s) e) B' U' w.heap a [cs]) (hr:RN (S++F) E w.heap cs r) (hbytes:(xs.length+1)*b≤140737488355328) (hmx:xs.length+1≤maxLen)
  (hu:Up ops N ρ ⟨some d,.call ⟨.builtin .append,#[x,y],#[t,t]⟩,ty,pos,aft,g⟩)
  (h:∀v1 w1 F0 F1,Ax F0 w w1→(∀c∈F0,c∈F)→Ed s E e S B w1.heap v1 (xs++[r]) F1→LW P ops w0 Q os ks (mk N (Cs ρ d v1)) w1) :
  LW P ops w0 Q (⟨some d,.call ⟨.builtin .append,#[x,y],#[t,t]⟩,ty,pos,aft,g⟩::os) (4::ks) (mk N ρ) w:=by
 obtain⟨css,h1,h2,h3⟩:=hv.own;obtain⟨A,a1,a2,a3⟩:=ha;obtain⟨v1,w1,G,F',r1,r2,r3,r4,r5⟩:=Sl (P:=P) (ty:=ty) (S:=[]) (Bh s) (Yb s) ht hi hz hs h1 (a:=a) (ys:=[cs]) ⟨A,a1.rd (Bh s),fun _ _ hm=>by cases hm⟩ (by rw[h2];exact hbytes) (by rw[h2];exact hmx);refine M3 rfl hu v1 w1 (by simp only[execOp,resolve,invoke,builtin,zc,zf,zh,Sem.run_bind,Sem.run_pure,Result.andThen_ok,hx,hy,r1])<|h v1 w1 G F' r3 r4 ⟨fun c hc=>?_,fun c hc hm=>?_,css++[cs],r2,by simp[h2],fun k y hy=>?_⟩;rcases r5 c hc with hh|hh;exact hv.low c hh;omega;rcases r5 c hc with hh|hh;exact hv.dis c hh hm;have:=hS c hm;omega;have key:∀ {c0:List Value} {x0:α},RN (S++F) E w.heap c0 x0→RN (S++F') E w1.heap c0 x0:=by
  rintro c0 x0 ⟨K,k1,k2⟩;have hlt:=hE.lt k1;refine⟨K,hE.stable k1 fun c hc=>r3.block c (hlt c hc) fun hm=>k2 c hc (z1 _ (r4 c hm)),fun c hc hm=>?_⟩;rcases zi.1 hm with hm|hm;exact k2 c hc<|z8 _ hm;rcases r5 c hm with hh|hh;exact k2 c hc<|z1 _ hh;have:=hlt c hc;omega
 by_cases hk:k<xs.length;rw[List.getElem?_append_left hk]at hy;have h4:=key<|h3 k y hy;have hku:k<css.length:=by rw[h2];exact hk
 rw[JA hku];exact h4;have hkl:k=xs.length:=by
  have:=List.getElem?_eq_some_iff.1 hy;obtain⟨hlt,_⟩:=this;rw[z4,zd]at hlt;omega
 rw[hkl,List.getElem?_concat_length]at hy
 injection hy with hy;subst hy;rw[Kl (by rw[h2];exact hkl)];exact key hr
end ops
theorem AT {S:List Nat}{n g:Nat}(h:∀b∈S,b<n)(hg:g<n):∀b∈S++[g],b<n:=fun b hb=>(zi.1 hb).elim (h b) fun hb=>by rw[A9 hb];exact hg
theorem DD {S F:List Nat}{n:Nat}(h:∀b∈S,b<n)(hF:∀b∈F,b<n):∀b∈S++F,b<n:=fun b hb=>(zi.1 hb).elim (h b) (hF b)
theorem DK {S:List Nat}{q g:Nat}(h:g∉S)(hg:g≠q):g∉S++[q]:=fun hb=>(zi.1 hb).elim h fun hb=>hg (A9 hb)
theorem Xm:∀b∈([]:List Nat),b<0:=fun b hb=>by cases hb
theorem BZ {s B U:Nat}{H:Array Obj}{cs:List Value}(hl:cs.length=s)(h:∀u∈cs,u.cells=#[u]∧u.oneCell'=true):Qr (rC s) B U H cs cs:=⟨[],⟨rfl,hl,h,rfl⟩,zk,fun b hb=>by cases hb⟩
theorem D8 {α:Type}{s:Nat}{E:BC α}(S:List Nat)(H:Array Obj):RN S (D0 s E) H (.slice none 0 0) []:=⟨[],.inl ⟨none,0,rfl,rfl,rfl⟩,fun b hb=>by cases hb⟩
theorem RN.un {α β:Type}{E:Array Obj→β→α→List Nat→Prop}{S T:List Nat}{H:Array Obj}{v:β}{x:α}(h:RN (S++T) E H v x):RN S E H v x:=by obtain⟨F,h1,h2⟩:=h;exact⟨F,h1,fun b hb hm=>h2 b hb (z8 _ hm)⟩
def Tm.zero:Tm:=⟨[],0⟩
def E7:BC Tm:=fun H cs t F=>∃v,cs=[v,.int .i64 t.co]∧BW t.co∧Bg rI H v t.ex F
theorem AM:C5 2 E7 where
 len:=by rintro H cs x F ⟨v,rfl,_⟩;rfl
 one:=by
  rintro H cs x F ⟨v,rfl,_,h⟩ u hu;rcases ze.1 hu with rfl|hu;exact⟨g1.cells h,g1.one h⟩;rw[A9 hu];exact⟨rfl,rfl⟩
 lt:=by rintro H cs x F ⟨v,rfl,_,h⟩;exact g1.lt h
 stable:=by rintro H H' cs x F ⟨v,rfl,hi,h⟩ hb;exact⟨v,rfl,hi,g1.stable h hb⟩
def Hx (m:Nat):BC (List Tm):=fun H cs q F=>∃v,cs=[.int .i64 ((m:Nat):Int),v]∧BW ((m:Nat):Int)∧D0 2 E7 H v q F
theorem Al:Cb (D0 2 E7):=Aq AM
theorem Be (m:Nat):C5 2 (Hx m) where
 len:=by rintro H cs x F ⟨v,rfl,_⟩;rfl
 one:=by
  rintro H cs x F ⟨v,rfl,_,h⟩ u hu;rcases ze.1 hu with rfl|hu;exact⟨rfl,rfl⟩;rw[A9 hu];exact⟨Al.cells h,Al.one h⟩
 lt:=by rintro H cs x F ⟨v,rfl,_,h⟩;exact Al.lt h
 stable:=by rintro H H' cs x F ⟨v,rfl,hi,h⟩ hb;exact⟨v,rfl,hi,Al.stable h hb⟩
theorem B5 (m:Nat):Cb (D0 2 (Hx m)):=Aq (Be m)
theorem RN.tm {S:List Nat}{H:Array Obj}{cs:List Value}{t:Tm}(h:RN S E7 H cs t):∃v,cs=[v,.int .i64 t.co]∧BW t.co∧RN S (Bg rI) H v t.ex:=by obtain⟨F,⟨v,h1,h2,h3⟩,hb⟩:=h;exact⟨v,h1,h2,F,h3,hb⟩
theorem RN.tm' {S:List Nat}{H:Array Obj}{v:Value}{t:Tm}(hi:BW t.co)(h:RN S (Bg rI) H v t.ex):RN S E7 H [v,.int .i64 t.co] t:=by obtain⟨F,h3,hb⟩:=h;exact⟨F,⟨v,rfl,hi,h3⟩,hb⟩
theorem RN.po {m:Nat}{S:List Nat}{H:Array Obj}{cs:List Value}{q:List Tm}(h:RN S (Hx m) H cs q):∃v,cs=[.int .i64 ((m:Nat):Int),v]∧BW ((m:Nat):Int)∧RN S (D0 2 E7) H v q:=by obtain⟨F,⟨v,h1,h2,h3⟩,hb⟩:=h;exact⟨v,h1,h2,F,h3,hb⟩
theorem RN.po' {m:Nat}{S:List Nat}{H:Array Obj}{v:Value}{q:List Tm}(hi:BW ((m:Nat):Int))(h:RN S (D0 2 E7) H v q):RN S (Hx m) H [.int .i64 ((m:Nat):Int),v] q:=by obtain⟨F,h3,hb⟩:=h;exact⟨F,⟨v,rfl,hi,h3⟩,hb⟩
end
section
theorem EU {α:Type}{l:List α}{k:Nat}(d:α)(h:k<l.length):l.drop k=l.getD k d::l.drop (k+1):=by rw[List.drop_eq_getElem_cons h,List.getD_eq_getElem?_getD,List.getElem?_eq_getElem h];rfl
theorem Sm {a b:List Int}{k:Nat}(hk:k<a.length)(hl:b.length=a.length):Cn (a.drop k) (b.drop k)=if a.getD k 0<b.getD k 0 then -1 else if b.getD k 0<a.getD k 0 then 1 else Cn (a.drop (k+1)) (b.drop (k+1)):=by rw[EU 0 hk,EU (l:=b) 0 (by omega)];rfl
theorem Ht {e:List Int}{c:Int}:∀(k:Nat)(q:List Tm),k≤q.length→(∀j,j<k→Cn (q.getD j Tm.zero).ex e<0)→C2 q e c=q.take k++C2 (q.drop k) e c
 |0,q,_,_=>by simp
 |k+1,[],h,_=>by simp at h
 |k+1,t::q,h,hlo=>by
  have h0:=hlo 0 zO
  have ih:=Ht (c:=c) k q (by simpa using h) fun j hj=>by
   have:=hlo (j+1) zO
   simpa using this
  rw[List.take_succ_cons,List.drop_succ_cons,List.cons_append,← ih]
  show(if Cn t.ex e<0 then _ else _)=_
  rw[if_pos (by simpa using h0)]
theorem MD {q:List Tm}{e:List Int}{c:Int}{k:Nat}(hk:k<q.length)(hlo:∀j,j<k→Cn (q.getD j Tm.zero).ex e<0):C2 q e c=q.take k ++
  (if Cn (q.getD k Tm.zero).ex e<0 then q.getD k Tm.zero::C2 (q.drop (k+1)) e c
  else if Cn (q.getD k Tm.zero).ex e=0 then(if md (c+(q.getD k Tm.zero).co)=0 then q.drop (k+1)else⟨e,md (c+(q.getD k Tm.zero).co)⟩::q.drop (k+1))
  else(if c=0 then q.getD k Tm.zero::q.drop (k+1)else⟨e,c⟩::q.getD k Tm.zero::q.drop (k+1))):=by
 rw[Ht k q zO hlo,EU Tm.zero hk];rfl
section
variable {q:List Tm} {ex:List Int} {co:Int} {i k:Nat}
theorem Yc (hi:i=k∧k<q.length)(hlo:∀j,j<k→Cn (q.getD j Tm.zero).ex ex<0)(h0:Cn (q.getD k Tm.zero).ex ex=0)(hn:¬md (co+(q.getD k Tm.zero).co)=0):(q.take i++[⟨ex,md (co+(q.getD k Tm.zero).co)⟩])++q.drop (k+1)=C2 q ex co:=by rw[MD hi.2 hlo,if_neg zO,if_pos h0,if_neg hn,hi.1,List.append_assoc];rfl
theorem Yd (hi:i=k∧k<q.length)(hlo:∀j,j<k→Cn (q.getD j Tm.zero).ex ex<0)(h0:Cn (q.getD k Tm.zero).ex ex=0)(hn:md (co+(q.getD k Tm.zero).co)=0):q.take i++q.drop (k+1)=C2 q ex co:=by rw[MD hi.2 hlo,if_neg zO,if_pos h0,if_pos hn,hi.1]
theorem Ye (hi:i=k∧k≤q.length)(hlo:∀j,j<k→Cn (q.getD j Tm.zero).ex ex<0)(h0:k=q.length∨(¬Cn (q.getD k Tm.zero).ex ex<0∧¬Cn (q.getD k Tm.zero).ex ex=0))(hn:¬co=0):(q.take i++[⟨ex,co⟩])++q.drop k=C2 q ex co:=by rw[hi.1,List.append_assoc];by_cases hk:k=q.length;rw[Ht k q zO hlo,hk,List.drop_length];unfold C2;rw[if_neg hn];rfl;rw[MD zO hlo,if_neg zO,if_neg zO,if_neg hn,EU Tm.zero (by omega)];rfl
theorem Yf (hi:i=k∧k≤q.length)(hlo:∀j,j<k→Cn (q.getD j Tm.zero).ex ex<0)(h0:k=q.length∨(¬Cn (q.getD k Tm.zero).ex ex<0∧¬Cn (q.getD k Tm.zero).ex ex=0))(hn:co=0):q.take i++q.drop k=C2 q ex co:=by rw[hi.1];by_cases hk:k=q.length;rw[Ht k q zO hlo,hk,List.drop_length];unfold C2;rw[if_pos hn];rw[MD zO hlo,if_neg zO,if_neg zO,if_pos hn,EU Tm.zero (by omega)]
end
theorem Uc (c:Int):CE [] c=[]:=by unfold CE;split <;> rfl
theorem Sn {q:List Tm}{c:Int}{k:Nat}(hk:k<q.length)(hc:¬c=0):CE (q.take (k+1)) c=CE (q.take k) c++[⟨(q.getD k Tm.zero).ex,md ((q.getD k Tm.zero).co*c)⟩]:=by unfold CE;rw[if_neg hc,if_neg hc,BI Tm.zero hk,List.map_append];rfl
theorem NF {q:List Tm}{c:Int}(hc:c=0):CE q c=[]:=by unfold CE;rw[if_pos hc]
theorem Lj (q:List Tm)(c:Int)(k:Nat):(CE (q.take k) c).length≤k:=by have:=Kn (q.take k) c;rw[List.length_take]at this;omega
theorem Do.at {n k:Nat}{ts:List Tm}(h:Do n ts)(hk:k<ts.length):(ts.getD k Tm.zero).ex.length=n∧∀e∈(ts.getD k Tm.zero).ex,0≤e:=by rw[List.getD_eq_getElem?_getD,List.getElem?_eq_getElem hk];exact h _<|List.getElem_mem _
theorem J6.at {d:Int}{k:Nat}{ts:List Tm}(h:J6 d ts)(hk:k<ts.length):BR (ts.getD k Tm.zero).ex≤d:=by rw[List.getD_eq_getElem?_getD,List.getElem?_eq_getElem hk];exact h _<|List.getElem_mem _
theorem KE:∀(e f:List Int),BR (e++f)=BR e+BR f
 |[],f=>by show BR f=0+BR f;omega
 |a::e,f=>by
  have:=KE e f
  show a+BR (e++f)=a+BR e+BR f
  omega
theorem NG {e:List Int}(h:∀x∈e,0≤x)(k:Nat):0≤BR (e.take k)∧BR (e.take k)≤BR e:=by
 have h1:=Gq (e:=e.take k) fun x hx=>h x<|zj hx
 have h2:=Gq (e:=e.drop k) fun x hx=>h x<|List.mem_of_mem_drop hx
 have h3:=KE (e.take k)<|e.drop k;rw[List.take_append_drop]at h3;omega
theorem So {e:List Int}{k:Nat}(hk:k<e.length):BR (e.take (k+1))=BR (e.take k)+e.getD k 0:=by rw[BI 0 hk,KE];show _+(e.getD k 0+0)=_;omega
theorem Sp {e:List Int}(h:∀x∈e,0≤x)(k:Nat):0≤e.getD k 0:=by by_cases hk:k<e.length;rw[List.getD_eq_getElem?_getD,List.getElem?_eq_getElem hk];exact h _<|List.getElem_mem _;rw[List.getD_eq_getElem?_getD,List.getElem?_eq_none (by omega)];exact Int.le_refl 0
def G5 (a b:List Tm):Bool:=decide (a.length=0∨b.length=0∨Cm a+Cm b≤12)
def KF (a b:List Tm):List Tm:=if a.length=0∨b.length=0 then []else if 12<Cm a+Cm b then []else JC a b
theorem Xn {e f:List Int}{v:Nat}(hl:f.length=e.length)(hv:v<e.length):(IY e f).getD v 0=e.getD v 0+f.getD v 0:=by unfold IY;simp only[List.getD_eq_getElem?_getD];rw[List.getElem?_eq_getElem (by rw[List.length_zipWith];omega),List.getElem_zipWith,List.getElem?_eq_getElem hv,List.getElem?_eq_getElem (by omega)];rfl
theorem Yg {e f:List Int}(hl:f.length=e.length):(IY e f).length=e.length:=by unfold IY;rw[List.length_zipWith];omega
theorem V3 {e:List Int}(h:∀x∈e,0≤x)(k:Nat):e.getD k 0≤BR e:=by by_cases hk:k<e.length;rw[List.getD_eq_getElem?_getD,List.getElem?_eq_getElem hk];exact Ko h _<|List.getElem_mem _;rw[List.getD_eq_getElem?_getD,List.getElem?_eq_none (by omega)];exact Gq h
theorem I3 {a b:List Tm}(h:a.length=0∨b.length=0):G5 a b=true∧KF a b=[]:=by unfold G5 KF;rw[if_pos h];exact⟨A5 (h.elim .inl fun h=>.inr (.inl h)),rfl⟩
theorem Je {a b:List Tm}(h:¬(a.length=0∨b.length=0))(h2:12<Cm a+Cm b):G5 a b=false∧KF a b=[]:=by unfold G5 KF;rw[if_neg h,if_pos h2];exact⟨A6 zO,rfl⟩
theorem I4 {a b:List Tm}(h:¬(a.length=0∨b.length=0))(h2:¬12<Cm a+Cm b):G5 a b=true∧KF a b=JC a b:=by unfold G5 KF;rw[if_neg h,if_neg h2];exact⟨A5 zO,rfl⟩
def LZ (a b:List Tm)(i:Nat):List Tm:=(a.take i).foldl (fun out x=>GZ x b out) []
theorem Ud {a b:List Tm}{i:Nat}(hi:i<a.length):GZ (a.getD i Tm.zero) b (LZ a b i)=LZ a b (i+1):=by unfold LZ;rw[BI Tm.zero hi,List.foldl_append];rfl
theorem Hu {a b:List Tm}{i:Nat}(hi:a.length≤i):LZ a b i=JC a b:=by unfold LZ;rw[za hi];rfl
theorem Xo {x:Tm}{b out:List Tm}{k:Nat}(hk:k<b.length):C2 (GZ x (b.take k) out) (IY x.ex (b.getD k Tm.zero).ex) (md (x.co*(b.getD k Tm.zero).co))=GZ x (b.take (k+1)) out:=by unfold GZ;rw[BI Tm.zero hk,List.foldl_append];rfl
end
section
def HF (m:Nat)(q:List Tm):Prop:=GK m 12 q∧q.length≤120
def Jf (m:Nat)(env:List (List Tm)):Prop:=∀k,k<env.length→HF m (env.getD k [])
theorem HF.nil (m:Nat):HF m []:=⟨GK.nil _ _,by simp⟩
theorem Jf.nil (m:Nat):Jf m []:=fun k hk=>by simp at hk
theorem Jf.snoc {m:Nat}{env:List (List Tm)}{q:List Tm}(h:Jf m env)(hq:HF m q):Jf m (env++[q]):=fun k hk=>by
 rw[z4,zd]at hk
 by_cases e:k=env.length
 rw[Kl e];exact hq
 rw[JA (by omega)];exact h k zO
theorem Jf.at {m:Nat}{env:List (List Tm)}(h:Jf m env)(k:Nat):HF m (env.getD k []):=by by_cases hk:k<env.length;exact h k hk;rw[List.getD_eq_getElem?_getD,List.getElem?_eq_none (by omega)];exact HF.nil m
theorem HF.lt {m:Nat}{q:List Tm}(h:HF m q):Do m q:=h.1.len
theorem HF.dg {m:Nat}{q:List Tm}(h:HF m q):J6 24 q:=fun t ht=>Int.le_trans (h.1.deg t ht) (by decide)
theorem HF.scl {m:Nat}{q:List Tm}(h:HF m q){c:Int}(hc:0≤c∧c<1000003):HF m (CE q c):=⟨h.1.scl hc,A8 (Kn q c) h.2⟩
theorem Ue {q:List Tm}(h:X1 q):CE q 1=q:=by
 unfold CE;rw[if_neg (by decide)]
 induction q with
 |nil=>rfl
 |cons t ts ih =>
  have ht:=h t (z0 ..);rw[zf,ih fun u hu=>h u (z3 _ hu),Int.mul_one,Is zO ht.2]
theorem Xp {m:Nat}{n:Int}(hn:0≤n∧n<1000003):HF m (JD m n):=by
 unfold JD;split;exact HF.nil m;refine⟨⟨fun t ht=>?_,fun t ht=>?_,⟨fun q hq=>(by cases hq),trivial⟩,fun t ht=>?_⟩,by simp⟩;rw[List.mem_singleton]at ht;rw[ht];exact⟨z5 ..,fun e he=>by rw[List.eq_of_mem_replicate he];omega⟩;rw[List.mem_singleton]at ht;rw[ht];have:∀m,BR (List.replicate m 0)=0:=fun m=>by
  induction m with
  |zero=>rfl
  |succ m ih=>rw[List.replicate_succ];show 0+BR _=0;omega
 show BR (List.replicate m 0)≤12;rw[this];omega;rw[List.mem_singleton]at ht;rw[ht];exact⟨by show 1≤n;omega,hn.2⟩
theorem Uf {m:Nat}{a b:List Tm}(ha:HF m a)(hb:HF m b):GK m 12 (KF a b):=by unfold KF;split;exact GK.nil _ _;split;exact GK.nil _ _;unfold JC;exact Mq (d0:=Cm a) (d1:=Cm b) ⟨hb.1.len,ET b,hb.1.srt,hb.1.co⟩ zO a [] ⟨ha.1.len,ET a,ha.1.srt,ha.1.co⟩<|GK.nil _ _
theorem Ug (a b:List Tm)(s:Nat):Qa a b s=if G5 a b=true then EI (KF a b) s else .err 3:=by unfold Qa;by_cases h:a.length=0∨b.length=0;rw[(I3 h).1,(I3 h).2,if_pos (h.elim (fun h=>.inl (List.eq_nil_of_length_eq_zero h)) fun h=>.inr (List.eq_nil_of_length_eq_zero h)),if_pos rfl];rfl;have h':¬(a=[]∨b=[]):=fun hh=>h (hh.elim (fun h=>.inl (by rw[h];rfl)) fun h=>.inr (by rw[h];rfl));rw[if_neg h'];by_cases h2:12<Cm a+Cm b;rw[(Je h h2).1,if_pos h2,if_neg (by decide)];rw[(I4 h h2).1,(I4 h h2).2,if_neg h2,if_pos rfl]
def Uh (n:Nat)(C:LR)(e:Ex)(env:List Pl)(s:Nat):Rs Pl:=(LT n C e.kids 0 env s).bind fun x t=>(Eu x t).bind fun c u=>if c=0 then LT n C e.kids 1 env u else LT n C e.kids 2 env u
def ME (n:Nat)(C:LR)(e:Ex)(env:List Pl)(s:Nat):Rs Pl:=(Fd n C e.kids env s).bind fun xs t=>LS e.kind xs t
section
variable {n:Nat} {C:LR} {e:Ex} {env:List Pl} {s s1 s2:Nat} {c c1 c2 c':Int} {x y:Pl} {z:Int} {xs ys:List Pl}
theorem Ui (hc:c=0)(hs:s+1≤3000)(hk:e.kind=8)(h:AH (go c (Uh n C e env (s+1))) y s2 c2):AH (go c (Fj n C e env s)) y s2 c2:=by subst hc;rw[BS]at h ⊢;rw[I1,if_neg zO,if_neg zO,if_neg zO,if_pos hk];exact h
theorem Uj (hc:c=0)(hs:s+1≤3000)(hk:e.kind=3∨e.kind=4∨e.kind=5∨e.kind=6)(h:AH (go c (ME n C e env (s+1))) y s2 c2):AH (go c (Fj n C e env s)) y s2 c2:=by
 subst hc;rw[BS]at h ⊢;rw[IL hs zO zO zO (by omega)];unfold ME at h;cases hv:Fd n C e.kids env (s+1)with
 |err d=>rw[hv]at h;exact h
 |ok zsq t=>rw[hv]at h;rw[Rs.bind_ok]at h ⊢;rw[if_neg zO,if_neg (by omega)];exact h
theorem Sq (hc:c=0)(hs:s+1≤3000)(hk:e.kind=7)(hl:e.kids.length=1)(h:AH (go c (Fj n C (e.kids.getD 0 Ex.zero) env (s+1))) x s1 c1):AH (go c (Fj n C e env s)) (CE x 1000002) s1 c1:=by have h1:=TS hl h;by_cases hc1:c1=0;subst hc1;exact TR hc hs zO zO zO zO zO zO h1 rfl (TQ (xs:=[x]) hk);exact Oe hc hs zO zO zO zO h1 hc1
theorem Oq (hl:e.kids.length=3):Uh n C e env s=(Fj n C (e.kids.getD 0 Ex.zero) env s).bind fun x t=>(Eu x t).bind fun c u=>if c=0 then Fj n C (e.kids.getD 1 Ex.zero) env u else Fj n C (e.kids.getD 2 Ex.zero) env u:=by unfold Uh;rw[Gs _ _ _ _ _ _ (by omega)];refine congrArg _ (funext fun x=>funext fun t=>congrArg _ (funext fun c=>funext fun u=>?_));rw[Gs _ _ _ _ _ _ zO,Gs _ _ _ _ _ _ (by omega)]
theorem ZY (hl:e.kids.length=3)(h1:AH (go c (Fj n C (e.kids.getD 0 Ex.zero) env s)) x s1 c1)(hn:AH (go c1 (Eu x s1)) z s1 c2)(h0:c2≠0):AH (go c (Uh n C e env s)) y s2 c2:=by rw[Oq hl];by_cases hc:c=0;subst hc;rw[BS]at h1 ⊢;by_cases hc1:c1=0;subst hc1;rw[BS]at hn;rw[h1.bindO,hn.bindE h0];exact AH.mk_err rfl h0;rw[BO hc1]at hn;rw[h1.bindE hc1];exact AH.mk_err (by rw[hn.1]) h0;have e1:=Ju h1 hc;subst e1;rw[BO hc]at hn ⊢;exact AH.mk_err (by rw[hn.1]) h0
theorem ZZ (hl:e.kids.length=3)(h1:AH (go c (Fj n C (e.kids.getD 0 Ex.zero) env s)) x s1 c1)(hn:AH (go c1 (Eu x s1)) z s1 c2)(h0:c2=0)(hz:z=0)(h2:AH (go c2 (Fj n C (e.kids.getD 1 Ex.zero) env s1)) y s2 c'):AH (go c (Uh n C e env s)) y s2 c':=by
 subst h0;have hc1:c1=0:=by
  by_cases hc1:c1=0;exact hc1;rw[BO hc1]at hn;exact absurd hn.1.symm hc1
 subst hc1;have hc:c=0:=by
  by_cases hc:c=0;exact hc;rw[BO hc]at h1;exact absurd h1.1.symm hc
 subst hc;rw[BS]at h1 hn h2 ⊢;rw[Oq hl,h1.bindO,hn.bindO,if_pos hz];exact h2
theorem aA (hl:e.kids.length=3)(h1:AH (go c (Fj n C (e.kids.getD 0 Ex.zero) env s)) x s1 c1)(hn:AH (go c1 (Eu x s1)) z s1 c2)(h0:c2=0)(hz:¬z=0)(h2:AH (go c2 (Fj n C (e.kids.getD 2 Ex.zero) env s1)) y s2 c'):AH (go c (Uh n C e env s)) y s2 c':=by
 subst h0;have hc1:c1=0:=by
  by_cases hc1:c1=0;exact hc1;rw[BO hc1]at hn;exact absurd hn.1.symm hc1
 subst hc1;have hc:c=0:=by
  by_cases hc:c=0;exact hc;rw[BO hc]at h1;exact absurd h1.1.symm hc
 subst hc;rw[BS]at h1 hn h2 ⊢;rw[Oq hl,h1.bindO,hn.bindO,if_neg hz];exact h2
theorem aB (hr:AH (go c (Fd n C e.kids env s)) xs s1 c1)(h0:c1≠0):AH (go c (ME n C e env s)) y s2 c1:=by by_cases hc:c=0;subst hc;rw[BS]at hr ⊢;unfold ME;rw[hr.bindE h0];exact AH.mk_err rfl h0;have e1:=Ju hr hc;subst e1;rw[BO hc];exact AH.mk_err rfl hc
theorem Ql (hr:AH (go c (Fd n C e.kids env s)) xs s1 c1)(h0:c1=0)(h:AH (LS e.kind xs s1) y s2 c2):AH (go c (ME n C e env s)) y s2 c2:=by
 subst h0;have hc:c=0:=by
  by_cases hc:c=0;exact hc;rw[BO hc]at hr;exact absurd hr.1.symm hc
 subst hc;rw[BS]at hr ⊢;unfold ME;rw[hr.bindO];exact h
theorem Xq {k:Int}(hk:k=6)(hn:AH (go c1 (Eu (xs.getD 1 []) s)) z s c2)(h1:c1=0)(h0:c2≠0):AH (LS k xs s) y s2 c2:=by subst h1;rw[BS]at hn;rw[Mx hk,hn.bindE h0];exact AH.mk_err rfl h0
theorem Yh {k:Int}(hk:k=6)(hn:AH (go c1 (Eu (xs.getD 1 []) s)) z s c2)(h1:c1=0)(h0:c2=0)(hz:z=0):AH (LS k xs s) y s2 6:=by subst h1;rw[BS]at hn;exact RD hk hn h0 hz
theorem Yi {k:Int}(hk:k=6)(hn:AH (go c1 (Eu (xs.getD 1 []) s)) z s c2)(h1:c1=0)(h0:c2=0)(hz:¬z=0):AH (LS k xs s) (CE (xs.getD 0 []) (ER z)) s c2:=by subst h1;rw[BS]at hn;have:=RE hk hn h0 hz;subst h0;exact this
theorem Yj {r:Rs Pl}(hc:c=0)(h:AH (go c r) y s2 c2):AH r y s2 c2:=by subst hc;rwa [BS]at h
end
theorem Ss {n:Nat}{num:Int}(h:num=0):JD n num=[]:=if_pos h
theorem St {n:Nat}{num:Int}(h:¬num=0):JD n num=[⟨List.replicate n 0,num⟩]:=if_neg h
section
variable {q:List Tm} {s s1:Nat} {c c1:Int} {ok:Bool}
theorem Su (h:ok=false)(hc:c=0∧c1=3∨c≠0∧c1=c):AH (go c (if ok=true then EI q s else .err 3)) [] s1 c1:=by rw[if_neg (by rw[h];decide)];rcases hc with⟨h1,h2⟩|⟨h1,h2⟩;rw[h1,h2];exact⟨rfl,by decide⟩;rw[BO h1,h2];exact⟨rfl,h1⟩
theorem Qm (h:120<q.length)(hc:c=0∧c1=3∨c≠0∧c1=c):AH (go c (if ok=true then EI q s else .err 3)) [] s1 c1:=by rcases hc with⟨h1,h2⟩|⟨h1,h2⟩;rw[h1,h2,BS];split;unfold EI;rw[if_pos h];exact⟨rfl,by decide⟩;exact⟨rfl,by decide⟩;rw[BO h1,h2];exact⟨rfl,h1⟩
theorem Uk (h:ok=true)(hl:¬120<q.length):AH (go c (if ok=true then EI q s else .err 3)) q s c:=by by_cases hc:c=0;subst hc;rw[BS,if_pos h];unfold EI;rw[if_neg hl];exact⟨rfl,rfl,rfl⟩;rw[BO hc];exact⟨rfl,hc⟩
theorem Ul {z:Int}(h:0<Cm q)(hc:c=0∧c1=4∨c≠0∧c1=c):AH (go c (Eu q s)) z s c1:=by rcases hc with⟨h1,h2⟩|⟨h1,h2⟩;rw[h1,h2,BS,Mw h];exact⟨rfl,by decide⟩;rw[BO h1,h2];exact⟨rfl,h1⟩
theorem Um (h:¬0<Cm q)(hq:q.length=0):AH (go c (Eu q s)) 0 s c:=by by_cases hc:c=0;subst hc;rw[BS,Mv zO,List.eq_nil_of_length_eq_zero hq];exact⟨rfl,rfl,rfl⟩;rw[BO hc];exact⟨rfl,hc⟩
theorem Yk (h:¬q.length=0):MX q=(q.getD 0 Tm.zero).co:=by
 cases q with
 |nil=>exact absurd rfl h
 |cons t ts=>rfl
theorem Xr {z:Int}(h:¬0<Cm q)(hq:¬q.length=0)(hz:z=(q.getD 0 Tm.zero).co):AH (go c (Eu q s)) z s c:=by by_cases hc:c=0;subst hc;rw[BS,Mv zO,Yk hq,hz];exact⟨rfl,rfl,rfl⟩;rw[BO hc];exact⟨rfl,hc⟩
end
theorem Yl {b:Bool}(h:(!b)=true):b=false:=by cases b <;> simp_all
theorem Xs {b:Bool}(h:(!b)=false):b=true:=by cases b <;> simp_all
section
variable {n:Nat} {C:LR} {e:Ex} {env:List Pl} {s s1 s2:Nat} {c c1 c2 c':Int} {x y:Pl} {z:Int} {xs ys:List Pl}
theorem Ym (hr:AH (go c (Fd n C e.kids env s)) xs s1 c1)(h0:c1≠0)(hc:c2=c1):AH (go c (ME n C e env s)) y s2 c2:=by rw[hc];exact aB hr h0
theorem Yn {a b:Pl}{k:Int}(hk:k=6)(hn:AH (go c1 (Eu b s)) z s c2)(h1:c1=0)(h0:c2≠0)(hc:c'=c2):AH (LS k [a,b] s) y s2 c':=by rw[hc];exact Xq (xs:=[a,b]) hk hn h1 h0
theorem Yo {a b:Pl}{k:Int}(hk:k=6)(hn:AH (go c1 (Eu b s)) z s c2)(h1:c1=0)(h0:c2=0)(hz:z=0)(hc:c'=6):AH (LS k [a,b] s) y s2 c':=by rw[hc];exact Yh (xs:=[a,b]) hk hn h1 h0 hz
theorem Yp (hl:e.kids.length=3)(h1:AH (go c (Fj n C (e.kids.getD 0 Ex.zero) env s)) x s1 c1)(hn:AH (go c1 (Eu x s1)) z s1 c2)(h0:c2≠0)(hc:c'=c2):AH (go c (Uh n C e env s)) y s2 c':=by rw[hc];exact ZY hl h1 hn h0
theorem NH {q:Pl}(h:AH (go c1 (if true=true then EI q s else .err 3)) y s2 c2)(h1:c1=0):AH (EI q s) y s2 c2:=by subst h1;rw[BS,if_pos rfl]at h;exact h
theorem Or {r:Rs Pl}(hc:c≠0)(h:c'=c):AH (go c r) x s c':=by rw[h];exact Qb hc
theorem Qn (hc:c=0)(hs:s=3000)(h:c'=7):AH (go c (Fj n C e env s)) x s1 c':=by rw[h];exact Nq hc hs
end
theorem G6 (m:Nat):(Fe m).length=m:=by unfold Fe;rw[Bl]
theorem PB {m v:Nat}(h:v<m):(Fe m).getD v []=[⟨(List.replicate m 0).set v 1,1⟩]:=Bo [] h
theorem Xt (m:Nat):GP m 0=List.replicate m 0:=by
 unfold GP;cases m with
 |zero=>rfl
 |succ m=>rw[List.replicate_succ,List.set_cons_zero]
theorem Sv {m v:Nat}(h:v<m):(Fe m).getD v []=[⟨(GP m ((0:Nat):Int)).set v 1,1⟩]:=by rw[PB h,← Xt];rfl
theorem Sw (m:Nat):Jf m (Fe m):=fun k hk=>by
 rw[G6]at hk
 exact⟨Sg hk,by rw[PB hk];simp⟩
def Qo (p:List Fn)(f pick:Int):Int:=if DJ p f=0 then(if 0≤pick∧pick≤(((p.getD f.toNat Fn.zero).outs.length:Nat):Int)-1 then(match pe p (p.getD f.toNat Fn.zero).params.toNat f.toNat (Fe (p.getD f.toNat Fn.zero).params.toNat)with|.ok _ _=>0|.err c=>if c=0 then 9 else c)else 2)else DJ p f
section
variable {p:List Fn} {f pick:Int} {c c1:Int} {x:List Pl} {s m:Nat}
theorem Xu (h:DJ p f≠0∧c=DJ p f):c=Qo p f pick:=by unfold Qo;rw[if_neg h.1];exact h.2
theorem Un (h:DJ p f=0∧c=2)(h2:¬(0≤pick∧pick≤(((p.getD f.toNat Fn.zero).outs.length:Nat):Int)-1)):c=Qo p f pick:=by unfold Qo;rw[if_pos h.1,if_neg h2];exact h.2
theorem Xv (h:DJ p f=0)(h2:0≤pick∧pick≤(((p.getD f.toNat Fn.zero).outs.length:Nat):Int)-1)(hm:(p.getD f.toNat Fn.zero).params.toNat=m)(hr:AH (go 0 (Fd m (H2 p m f.toNat) (p.getD f.toNat Fn.zero).outs (Fe m) 0)) x s c)(h0:c≠0):c=Qo p f pick:=by subst hm;unfold Qo;rw[if_pos h,if_pos h2];rw[BS]at hr;unfold pe;rw[hr.err h0];exact (if_neg h0).symm
theorem Yq (h:DJ p f=0)(h2:0≤pick∧pick≤(((p.getD f.toNat Fn.zero).outs.length:Nat):Int)-1)(hm:(p.getD f.toNat Fn.zero).params.toNat=m)(hr:AH (go 0 (Fd m (H2 p m f.toNat) (p.getD f.toNat Fn.zero).outs (Fe m) 0)) x s c)(h0:c=0∧c1=0):c1=Qo p f pick:=by subst hm;unfold Qo;rw[if_pos h,if_pos h2];obtain⟨rfl,rfl⟩:=h0;rw[BS]at hr;unfold pe;rw[hr.ok]
end
theorem Sx {a b c:Int}(h:(decide (a≤b) && decide (b≤c))=true):a≤b∧b≤c:=by simpa using h
theorem Yr {a b c:Int}(h:(decide (a≤b) && decide (b≤c))=false):¬(a≤b∧b≤c):=by intro hh;rw[A5 hh.1,A5 hh.2]at h;cases h
theorem Sy {u v:Value}(hu:u.cells=#[u]∧u.oneCell'=true)(hv:v.cells=#[v]∧v.oneCell'=true):∀x∈[u,v],x.cells=#[x]∧x.oneCell'=true:=fun x hx=>by
 rcases ze.1 hx with rfl|hx
 exact hu
 rw[A9 hx];exact hv
end
@[simp] theorem ZF (x:bX):(cH x).length=2:=rfl
@[simp] theorem ZG (x:bW):(Hq x).length=4:=rfl
theorem Xw {p:List Fn}{f:Int}{a d:Sr}(h:Jr p=true)(hf:0≤f∧f<((p.length:Nat):Int))(hl:((a.length:Nat):Int)=(p.getD f.toNat Fn.zero).params)(hn:Bd a=true)(hl2:((d.length:Nat):Int)=(p.getD f.toNat Fn.zero).params)(hn2:Bd d=true):Li p f a d=0:=by unfold Li DJ;rw[if_pos h,if_pos zO,hn,hn2,A5 hl,A5 hl2];rfl
section
theorem Sz {S:List Nat}{e:TypeId}{B U:Nat}{H:Array Obj}{v:Value}{xs:List Int}(h:Fr (Bz rI e) B U H v xs)(hS:∀b∈S,b<B∨U≤b):RN S (Bg rI) H v xs:=by obtain⟨F,h1,h2,h3⟩:=h;exact⟨F,h1.rd id,fun b hb hm=>by have:=h3 b hb;have:=hS b hm;omega⟩
section
variable {p:List Fn} {f pk:Int} {a b:List Int}
theorem Nx.li (h:Nx p f pk a b):Li p f a b=0:=Xw h.dr.ok (by have:=h.fe;have:=h.len;omega) h.la.1 h.la.2 h.lb.1 h.lb.2
theorem Nx.ln (h:Nx p f pk a b)(h0:Qo p f pk=0):∃qs,NE p f.toNat pk.toNat a b qs:=by
 have hf:0≤f∧f<((p.length:Nat):Int):=by have:=h.fe;have:=h.len;omega
 have hi:DJ p f=0:=by
  unfold DJ;rw[if_pos h.dr.ok,if_pos (by omega)]
 unfold Qo at h0;have hp:=h.pk;have hm:(p.getD f.toNat Fn.zero).params.toNat=a.length:=by have:=h.la.1;omega
 rw[if_pos hi,if_pos zO,hm]at h0;cases e:pe p a.length f.toNat (Fe a.length)with
 |err c =>
  rw[e]at h0;have h0:(if c=0 then 9 else c)=(0:Int):=h0;split at h0 <;> omega
 |ok qs s=>exact⟨qs,EM h.dr.ok,zO,h.la.1,h.la.2,by have:=h.la.1;have:=h.lb.1;omega,h.lb.2,⟨s,e⟩,zO⟩
theorem Ys (p:List Fn)(f:Nat)(a d:List Int):Eo p (12+1) f (Ds a d (12+1))=Lc p f a:=by unfold Lc;rw[← Pz a d (n:=12+1) (by decide),Mz p (m:=1) (n:=12+1) (by decide) (by decide)]
end
end
section
set_option linter.unusedSectionVars false
section
variable {P:Program} {ops:Array Oper} {md:Region.Mode}
def RA (P:Program)(o:Oper)(a:Act)(w:World)(R:Value→World→Prop):Prop:=o.wp P a w (fun b w1=>AK w w1∧∃v,b=a.put o.dst v∧R v w1) (NQ fun _ _=>False)
theorem SA {a:Act}{d e:Option Tmp}{v x y:Value}(h:(a.put d v).put e x=(a.put d v).put e y):a.put e x=a.put e y:=by
 cases e with
 |none=>rfl
 |some e =>
  have hsz:(a.put d v).tmps.size=a.tmps.size:=by cases d <;> simp[Act.put]
  generalize hb:a.put d v=b at h hsz;by_cases hlt:e<a.tmps.size;have h2:=congrArg (fun z:Act=>z.tmps[e]?) h;simp only[Act.put,Array.getElem?_setIfInBounds_self,hsz,if_pos hlt]at h2
  injection h2 with h2;rw[h2];have e1:∀u,a.tmps.setIfInBounds e u=a.tmps:=fun u=>by
   apply Array.ext;simp
   intro i h1 h2;have:e≠i:=fun h9=>hlt (h9 ▸ h2);rw[Array.getElem_setIfInBounds h2];simp[this]
  show(⟨_,_⟩:Act)=⟨_,_⟩;rw[e1,e1]
theorem Uo {a:Act}{d:Option Tmp}{v:Value}:(a.put d v).defers=a.defers:=by cases d <;> rfl
theorem RA.shape {o:Oper}{a:Act}{d:Option Tmp}{v u:Value}{b:Act}(h2:∀x,d=some x→o.dst≠some x)(hs:Jn a o.dst b)(h:b.put d v=(a.put d v).put o.dst u):b=a.put o.dst u:=by obtain⟨u',rfl|⟨x,rfl⟩⟩:=hs;have e:=Act.put_comm a v u' h2;rw[← e]at h;exact SA h;have:=congrArg Act.defers h;simp only[Uo]at this;have:=congrArg List.length this;simp at this
theorem RA.apart {o:Oper}(hs:∀cs b,o.op≠.select cs b){a:Act}{d:Option Tmp}{v:Value}{w:World}{R:Value→World→Prop}
  (h1:∀x,d=some x→x∉o.looksAt ops) (h2:∀x,d=some x→o.dst≠some x):RA P o (a.put d v) w R↔RA P o a w R:=by
 constructor
 intro h;have g:=Dw<|EV (ops:=ops) (Q:=fun _ _=>False) hs h1 h2 h;refine Oper.wp_mono (fun b w1 hb=>?_) g;obtain⟨⟨hE,u,hu,hR⟩,hsh⟩:=hb;exact⟨hE,u,RA.shape h2 hsh hu,hR⟩
 intro h;refine Gf (ops:=ops) hs h1 h2<|Oper.wp_mono (fun b w1 hb=>?_) h;obtain⟨hE,u,rfl,hR⟩:=hb;exact⟨hE,u,(Act.put_comm a v u h2).symm,hR⟩
theorem RA.some {o:Oper}{a:Act}{w:World}{R:Value→World→Prop}(h:RA P o a w R):∃v w1,AK w w1∧R v w1:=by obtain⟨_,w1,⟨hE,v,_,hR⟩|⟨_,hE,v,_,hR⟩⟩:=JO h;exact⟨v,w1,hE,hR⟩;exact⟨v,w1,hE,hR⟩
abbrev I5:=Nat×Value×Nat×Nat
def Gx:List I5→Nat→Value×Nat×Nat
 |[],_=>(undef,0,0)
 |q::l,j=>cond (Nat.beq q.1 j) q.2 (Gx l j)
abbrev Ot:=Nat→(Nat→Value×Nat×Nat)→Value→Nat→Nat→World→Prop
def V4 (bs:Nat→Nat)(Rs:Ot)(k:Nat)(w:World):List I5→Prop
 |[]=>True
 |q::L=>((bs k).testBit q.1=true→q.2.2.2≤w.heap.size∧Rs q.1 (Gx L) q.2.1 q.2.2.1 q.2.2.2 w)∧V4 bs Rs k w L
def MF (P:Program)(bs:Nat→Nat)(Rs:Ot)(w0:World)(k:Nat)(o:Oper)(a:Act)(w:World)(L:List I5)(K:List I5→Act→World→Prop):Prop :=
 (∀w',AK w0 w'→V4 bs Rs k w' L→RA P o a w' fun v w''=>Rs k (Gx L) v w'.heap.size w''.heap.size w'') ∧
  ∀v lo hi w'',AK w w''→w0.heap.size≤lo→lo≤hi→hi≤w''.heap.size→(∀q∈L,q.2.2.2≤lo∨hi≤q.2.2.1)→Rs k (Gx L) v lo hi w''→K ((k,v,lo,hi)::L) (a.put o.dst v) w''
def LV (P:Program)(ops:Array Oper)(bs:Nat→Nat)(Rs:Ot)(w0:World)(Q:Act→World→Prop):Nat→List Oper→List Nat→List I5→Act→World→Prop
 |_,[],_,_,a,w=>Q a w
 |_,_::_,[],_,_,_=>False
 |k,o::os,kd::ks,L,a,w =>
  if Region.wanted o (yielded ops a.tmps)=true then(if kd=5 then MF P bs Rs w0 k o a w L (LV P ops bs Rs w0 Q (k+1) os ks)else Bk P w0 o kd a w (LV P ops bs Rs w0 Q (k+1) os ks L))else LV P ops bs Rs w0 Q (k+1) os ks L (a.put o.dst undef) w
variable (P ops) in
def GT (bs:Nat→Nat)(Rs:Ot)(kd:Nat→Nat)(w0:World)(Q:Act→World→Prop):List Nat→List I5→Act→World→Prop
 |[],_,a,w=>Q a w
 |i::l,L,a,w =>
  match ops[i]? with
  |none=>False
  |some o=>if Region.wanted o (yielded ops a.tmps)=true then(if kd i=5 then MF P bs Rs w0 i o a w L (GT bs Rs kd w0 Q l)else Bk P w0 o (kd i) a w (GT bs Rs kd w0 Q l L))else GT bs Rs kd w0 Q l L (a.put o.dst undef) w
def NT (ki kj:Nat):Bool:=(ki≤1 && (kj≤1 || kj == 5)) || (ki == 5 && (kj≤1 || kj == 5)) || (ki == 0 && kj == 4) || (ki == 4 && kj == 0)
theorem Yt {ki kj:Nat}(h:NT ki kj=true)(hk:kj≤1):ki≤1∨ki=5∨(ki=4∧kj=0):=by simp[NT]at h;omega
theorem Yu {ki kj:Nat}(h:NT ki kj=true)(hk:kj=5):ki≤1∨ki=5:=by simp[NT]at h;omega
theorem V5 {ki kj:Nat}(h:NT ki kj=true)(hk:kj=4):ki=0:=by simp[NT]at h;omega
def Lk (kd:Nat→Nat)(l:List Nat):Prop:=∀l1 i l2,l=l1++i::l2→kd i=4→∀j∈l2,kd j≠1∧kd j≠5
def SB (Rs:Ot)(w:World):List I5→Prop
 |[]=>True
 |q::L=>(q.2.2.2≤w.heap.size∧Rs q.1 (Gx L) q.2.1 q.2.2.1 q.2.2.2 w)∧SB Rs w L
def SD (Rs:Ot)(kd:Nat→Nat)(w0 w:World)(l:List Nat)(L:List I5):Prop:=(∃j∈l,kd j=1∨kd j=5)→AK w0 w∧SB Rs w L
structure SE (bs:Nat→Nat)(Rs:Ot):Prop where
 st:∀k g v lo hi w1 w2,AK w1 w2→Rs k g v lo hi w1→Rs k g v lo hi w2
 dp:∀k g g' v lo hi w,(∀d,(bs k).testBit d=true→g d=g' d)→Rs k g v lo hi w→Rs k g' v lo hi w
theorem SB.ext {bs:Nat→Nat}{Rs:Ot}(hR:SE bs Rs){w w':World}(e:AK w w'):∀ {L:List I5},SB Rs w L→SB Rs w' L
 |[],_=>trivial
 |_::_,h=>⟨⟨A8 h.1.1 e.size,hR.st _ _ _ _ _ _ _ e h.1.2⟩,SB.ext hR e h.2⟩
theorem SB.sz {Rs:Ot}{w:World}:∀ {L:List I5},SB Rs w L→∀q∈L,q.2.2.2≤w.heap.size
 |[],_,q,hq=>by cases hq
 |_::_,h,q,hq=>by
  rcases ze.1 hq with rfl|hq
  exact h.1.1
  exact h.2.sz q hq
theorem SB.dp {bs:Nat→Nat}{Rs:Ot}{w:World}{k:Nat}:∀ {L:List I5},SB Rs w L→V4 bs Rs k w L
 |[],_=>trivial
 |_::_,h=>⟨fun _=>h.1,h.2.dp⟩
theorem IQ {q:I5}{L:List I5}{j:Nat}(h:q.1≠j):Gx (q::L) j=Gx L j:=by show cond (Nat.beq q.1 j) _ _=_;rw[show Nat.beq q.1 j=false from by cases hb:Nat.beq q.1 j with|false=>rfl|true=>exact absurd (Nat.eq_of_beq_eq_true hb) h];rfl
theorem Lk.tail {kd:Nat→Nat}{i:Nat}{l:List Nat}(h:Lk kd (i::l)):Lk kd l:=fun l1 j l2 e=>h (i::l1) j l2 (by rw[e];rfl)
theorem Lk.erase {kd:Nat→Nat}{l1 l2:List Nat}{i:Nat}(h:Lk kd (l1++i::l2)):Lk kd (l1++l2):=by
 intro m1 j m2 e hj x hx;by_cases hlt:m1.length<l1.length;have e1:l1=m1++j::(m2.take (l1.length-m1.length-1)):=by
  have:=congrArg (List.take l1.length) e;rw[List.take_left,List.take_append,za (by omega)]at this;rw[this];congr 1;obtain⟨n,hn⟩:∃n,l1.length-m1.length=n+1:=⟨l1.length-m1.length-1,zO⟩;rw[hn];simp
 have e2:l2=m2.drop (l1.length-m1.length-1):=by
  have:=congrArg (List.drop l1.length) e;rw[List.drop_left,List.drop_append]at this;rw[this,List.drop_of_length_le zO,zl];obtain⟨n,hn⟩:∃n,l1.length-m1.length=n+1:=⟨l1.length-m1.length-1,zO⟩;rw[hn];simp
 refine h m1 j (m2.take (l1.length-m1.length-1)++i::l2) (by rw[e1];simp[List.append_assoc]) hj x ?_;have hx':x∈m2.take (l1.length-m1.length-1)++m2.drop (l1.length-m1.length-1):=by rw[List.take_append_drop];exact hx
 rw[← e2]at hx';simp only[zi,ze]at hx' ⊢;rcases hx' with hx'|hx';exact .inl hx';exact .inr<|.inr hx';have e2:l2=m1.drop l1.length++j::m2:=by
  have:=congrArg (List.drop l1.length) e;rw[List.drop_left,List.drop_append_of_le_length (by omega)]at this;exact this
 exact h (l1++i::m1.drop l1.length) j m2 (by rw[e2];simp) hj x hx
section main
variable {kd bs:Nat→Nat} {Rs:Ot} {w0:World} {Q:Act→World→Prop}
structure Tp (bs:Nat→Nat)(L L':List I5):Prop where
 ex:∃M p q N,L=M++p::q::N∧L'=M++q::p::N∧p.1≠q.1∧(bs p.1).testBit q.1=false∧(bs q.1).testBit p.1=false
theorem Tp.cons {L L':List I5}(h:Tp bs L L')(r:I5):Tp bs (r::L) (r::L'):=by obtain⟨M,p,q,N,rfl,rfl,hh⟩:=h.ex;exact⟨r::M,p,q,N,rfl,rfl,hh⟩
theorem Tp.mem {L L':List I5}(h:Tp bs L L')(x:I5):x∈L↔x∈L':=by obtain⟨M,p,q,N,rfl,rfl,hh⟩:=h.ex;simp only[zi,ze];constructor <;> (rintro(h|h|h|h) <;> simp[h])
theorem KG {p q:I5}(hne:p.1≠q.1)(N:List I5)(d:Nat):∀M,Gx (M++p::q::N) d=Gx (M++q::p::N) d
 |[]=>by
  show cond (Nat.beq p.1 d) p.2 (cond (Nat.beq q.1 d) q.2 _)=cond (Nat.beq q.1 d) q.2 (cond (Nat.beq p.1 d) p.2 _)
  cases hp:Nat.beq p.1 d with
  |false=>cases Nat.beq q.1 d <;> rfl
  |true =>
   have e1:p.1=d:=Nat.eq_of_beq_eq_true hp
   cases hq:Nat.beq q.1 d with
   |false=>rfl
   |true=>exact absurd (e1.trans (Nat.eq_of_beq_eq_true hq).symm) hne
 |r::M=>by
  show cond (Nat.beq r.1 d) r.2 (Gx (M++p::q::N) d)=cond (Nat.beq r.1 d) r.2 (Gx (M++q::p::N) d)
  rw[KG hne N d M]
theorem Tp.getR {L L':List I5}(h:Tp bs L L')(d:Nat):Go.Proofs.YtbcopolhaljhhaaGreat.Gx L d=Go.Proofs.YtbcopolhaljhhaaGreat.Gx L' d:=by obtain⟨M,p,q,N,rfl,rfl,hne,_⟩:=h.ex;exact KG hne N d M
theorem PC (hR:SE bs Rs){p q:I5}(hne:p.1≠q.1)(b1:(bs p.1).testBit q.1=false)(b2:(bs q.1).testBit p.1=false){N:List I5}{k:Nat}{w:World}:∀M,V4 bs Rs k w (M++q::p::N)→V4 bs Rs k w (M++p::q::N)
 |[],hd=>by
  obtain⟨d1,d2,d3⟩:=hd
  refine⟨fun hb=>⟨(d2 hb).1,hR.dp _ _ _ _ _ _ _ (fun d hd=>?_) (d2 hb).2⟩,fun hb=>⟨(d1 hb).1,hR.dp _ _ _ _ _ _ _ (fun d hd=>?_) (d1 hb).2⟩,d3⟩
  refine (IQ fun h9=>?_).symm
  rw[← h9,b1]at hd;cases hd
  refine IQ fun h9=>?_
  rw[← h9,b2]at hd;cases hd
 |r::M,hd=>⟨fun hb=>⟨(hd.1 hb).1,hR.dp _ _ _ _ _ _ _ (fun d _=>(KG hne N d M).symm) (hd.1 hb).2⟩,PC hR hne b1 b2 M hd.2⟩
theorem Tp.dp (hR:SE bs Rs){L L':List I5}(h:Tp bs L L'){k:Nat}{w:World}(hd:V4 bs Rs k w L'):V4 bs Rs k w L:=by obtain⟨M,p,q,N,rfl,rfl,hne,b1,b2⟩:=h.ex;exact PC hR hne b1 b2 M hd
theorem GT.sub (hR:SE bs Rs):∀(l:List Nat){L L':List I5}{a:Act}{w:World},Tp bs L L'→GT P ops bs Rs kd w0 Q l L a w→GT P ops bs Rs kd w0 Q l L' a w
 |[],_,_,_,_,_,h=>h
 |i::l,L,L',a,w,hs,h=>by
  simp only[GT]at h ⊢
  cases hoi:ops[i]? with
  |none=>rw[hoi]at h;exact h
  |some o =>
   rw[hoi]at h
   simp only at h ⊢
   split
   rename_i hw
   rw[if_pos hw]at h
   split
   rename_i h5
   rw[if_pos h5]at h
   obtain⟨r2,r3⟩:=h
   have hg:Go.Proofs.YtbcopolhaljhhaaGreat.Gx L=Go.Proofs.YtbcopolhaljhhaaGreat.Gx L':=funext hs.getR
   exact⟨fun w' e1 e2=>by rw[← hg];exact r2 w' e1 (hs.dp hR e2),fun v lo hi w'' e1 e2 e3 e4 e5 e6=>GT.sub hR l (hs.cons _) (r3 v lo hi w'' e1 e2 e3 e4 (fun q hq=>e5 q ((hs.mem q).1 hq)) (by rw[hg];exact e6))⟩
   rename_i h5
   rw[if_neg h5]at h
   exact h.mono fun a w hh=>GT.sub hR l hs hh
   rename_i hw
   rw[if_neg hw]at h
   exact GT.sub hR l hs h
theorem KH (hR:SE bs Rs)(hsel:∀(j:Nat)(o:Oper) cs b,ops[j]? = some o→o.op≠.select cs b){j:Nat}{oj:Oper}(hj:ops[j]? = some oj)(hk:kd j≤1) :
  ∀(l1 l2:List Nat) (L:List I5) (a:Act) (w:World),Lk kd (l1++j::l2)→SD Rs kd w0 w (l1++j::l2) L→(∀i∈l1,∀oi,ops[i]? = some oi→oi.apart ops oj=true∧NT (kd i) (kd j)=true) →
   GT P ops bs Rs kd w0 Q (l1++j::l2) L a w→∃v,Yv P ops w0 (kd j) oj a w v∧GT P ops bs Rs kd w0 Q (l1++l2) L (a.put oj.dst v) w
 |[],l2,L,a,w,hN,hI,_,h=>by
  simp only[zl,GT,hj]at h ⊢
  split at h
  rename_i hw
  rw[if_neg (by omega)]at h
  unfold Bk at h
  rw[if_pos (by omega)]at h
  obtain⟨v,h1,h2⟩:=h
  exact⟨v,.inl ⟨hw,h1⟩,h2⟩
  rename_i hw
  exact⟨undef,.inr ⟨by simpa using hw,rfl⟩,h⟩
 |i::l1,l2,L,a,w,hN,hI,hl,h=>by
  have hi:=hl i (z0 ..)
  have hl':∀x∈l1,∀ox,ops[x]? = some ox→ox.apart ops oj=true∧NT (kd x) (kd j)=true:=fun x hx=>hl x (z3 _ hx)
  have hN':Lk kd (l1++j::l2):=hN.tail
  have hI':SD Rs kd w0 w (l1++j::l2) L:=fun⟨x,hx,hk⟩=>hI ⟨x,z3 _ hx,hk⟩
  simp only[List.cons_append,GT]at h ⊢
  cases hoi:ops[i]? with
  |none=>rw[hoi]at h;exact h.elim
  |some oi =>
   rw[hoi]at h
   simp only at h ⊢
   obtain⟨hap,hok⟩:=hi oi hoi
   obtain⟨p1,p2,p3⟩:=Oper.apart_spec hap
   have p2':∀d,oj.dst=some d→oi.dst≠some d:=fun d hd he=>p2 d he hd
   have si:=fun cs b=>hsel i oi cs b hoi
   have sj:=fun cs b=>hsel j oj cs b hj
   have hcl:∀w1 w2 w3,Cl w0 w1 (kd j) w3→Cl w0 w2 (kd j) w3:=by
    intro w1 w2 w3 hc;match hkj:kd j,hk with
    |0,_=>trivial
    |1,_=>rw[hkj]at hc;exact hc
    |_+2,hle=>omega
   by_cases hw:Region.wanted oi (yielded ops a.tmps)=true;rw[if_pos hw]at h;rcases Yt hok hk with hki|hki|⟨hki,hkj⟩;rw[if_neg (by omega)]at h;unfold Bk at h;rw[if_pos (by omega)]at h;obtain⟨vi,hy,h⟩:=h;obtain⟨v,h1,h2⟩:=KH hR hsel hj hk l1 l2 L (a.put oi.dst vi) w hN' hI' hl' h;refine⟨v,(Yv.apart sj p1).1 h1,?_⟩;rw[wanted_put oi a oj.dst v p3,if_pos hw,if_neg (by omega)];unfold Bk;rw[if_pos (by omega)];refine⟨vi,fun w' hc=>(YA.apart (ops:=ops) si p3).2 (hy w' hc),?_⟩;rw[Act.put_comm a v vi p2'];exact h2;rw[if_pos hki]at h;obtain⟨r2,r3⟩:=h;obtain⟨hE0,hL0⟩:=hI ⟨i,z0 ..,.inr hki⟩;have step:∀vi lo hi w'',AK w w''→w0.heap.size≤lo→lo≤hi→hi≤w''.heap.size→(∀q∈L,q.2.2.2≤lo∨hi≤q.2.2.1)→Rs i (Gx L) vi lo hi w''→∃v,Yv P ops w0 (kd j) oj a w v∧GT P ops bs Rs kd w0 Q (l1++l2) ((i,vi,lo,hi)::L) ((a.put oi.dst vi).put oj.dst v) w'':=by
    intro vi lo hi w'' e1 e2 e3 e4 e5 e6;obtain⟨v,h1,h2⟩:=KH hR hsel hj hk l1 l2 ((i,vi,lo,hi)::L) (a.put oi.dst vi) w'' hN' (fun _=>⟨hE0.trans e1,⟨e4,e6⟩,hL0.ext hR e1⟩) hl' (r3 vi lo hi w'' e1 e2 e3 e4 e5 e6);refine⟨v,?_,h2⟩;rcases(Yv.apart sj p1).1 h1 with⟨q1,q2⟩|⟨q1,q2⟩;exact .inl ⟨q1,fun w2 hc=>q2 w2<|hcl w w'' w2 hc⟩;exact .inr ⟨q1,q2⟩
   have hfr:∀w1,∀q∈L,q.2.2.2≤w.heap.size∨w1≤q.2.2.1:=fun w1 q hq=>.inl (hL0.sz q hq);obtain⟨v,hv⟩:∃v,Yv P ops w0 (kd j) oj a w v:=by
    obtain⟨vi,w1,g1,g2⟩:=(r2 w hE0 hL0.dp).some;obtain⟨v,h1,_⟩:=step vi w.heap.size w1.heap.size w1 g1 hE0.size g1.size (A7 _) (hfr _) g2;exact⟨v,h1⟩
   refine⟨v,hv,?_⟩;rw[wanted_put oi a oj.dst v p3,if_pos hw,if_pos hki];refine⟨fun w' hw' hd=>(RA.apart (ops:=ops) si p3 p2').2 (r2 w' hw' hd),fun vi lo hi w'' e1 e2 e3 e4 e5 e6=>?_⟩;obtain⟨v',h1,h2⟩:=step vi lo hi w'' e1 e2 e3 e4 e5 e6;have:v'=v:=h1.unique (fun _=>hE0) hv;subst this;rw[Act.put_comm a v' vi p2'];exact h2;rw[if_neg (by omega)]at h;unfold Bk at h;rw[if_neg zO,if_neg (by omega)]at h;have hno:∀x∈l1++j::l2,kd x≠1∧kd x≠5:=hN [] i _ rfl hki;have hs:=Dw h;have step:∀a' w',(GT P ops bs Rs kd w0 Q (l1++j::l2) L a' w'∧Jn a oi.dst a')→∃v,Yv P ops w0 (kd j) oj a w v∧GT P ops bs Rs kd w0 Q (l1++l2) L (a'.put oj.dst v) w':=by
    rintro a' w' ⟨hL,hsh⟩;obtain⟨v,h1,h2⟩:=KH hR hsel hj hk l1 l2 L a' w' hN' (fun⟨x,hx,hh⟩=>(hh.elim (fun h=>(hno x hx).1 h) fun h=>(hno x hx).2 h).elim) hl' hL;refine⟨v,?_,h2⟩;rcases(Yv.shape sj p1 hsh).1 h1 with⟨q1,q2⟩|⟨q1,q2⟩;exact .inl ⟨q1,fun w2 hc=>q2 w2<|hcl w w' w2 hc⟩;exact .inr ⟨q1,q2⟩
   obtain⟨v,hv⟩:∃v,Yv P ops w0 (kd j) oj a w v:=by
    obtain⟨u,w',hK|⟨d,hK⟩⟩:=JO hs;obtain⟨v,h1,_⟩:=step _ _ hK;exact⟨v,h1⟩;obtain⟨v,h1,_⟩:=step _ _ hK;exact⟨v,h1⟩
   refine⟨v,hv,?_⟩;rw[wanted_put oi a oj.dst v p3,if_pos hw,if_neg (by omega)];unfold Bk;rw[if_neg zO,if_neg (by omega)];refine Gf (ops:=ops) si p3 p2'<|Oper.wp_mono (fun a' w' hK=>?_) hs;obtain⟨v',h1,h2⟩:=step a' w' hK;have:v'=v:=h1.unique (fun h1=>by omega) hv;subst this;exact h2;rw[if_neg hw]at h;obtain⟨v,h1,h2⟩:=KH hR hsel hj hk l1 l2 L (a.put oi.dst undef) w hN' hI' hl' h;refine⟨v,(Yv.apart sj p1).1 h1,?_⟩;rw[wanted_put oi a oj.dst v p3,if_neg hw,Act.put_comm a v undef p2'];exact h2
theorem PD (hR:SE bs Rs)(hsel:∀(j:Nat)(o:Oper) cs b,ops[j]? = some o→o.op≠.select cs b){j:Nat}{oj:Oper}(hj:ops[j]? = some oj)(hk:kd j=5) :
  ∀(l1 l2:List Nat) (L:List I5) (a:Act) (w:World),(∀i∈l1,∀oi,ops[i]? = some oi→oi.apart ops oj=true∧NT (kd i) (kd j)=true)→(∀i∈l1,(bs j).testBit i=false∧(bs i).testBit j=false∧i≠j)→AK w0 w→SB Rs w L→GT P ops bs Rs kd w0 Q (l1++j::l2) L a w →
   (Region.wanted oj (yielded ops a.tmps)=true→MF P bs Rs w0 j oj a w L (GT P ops bs Rs kd w0 Q (l1++l2))) ∧
   (Region.wanted oj (yielded ops a.tmps)=false→GT P ops bs Rs kd w0 Q (l1++l2) L (a.put oj.dst undef) w)
 |[],l2,L,a,w,_,_,hE0,hL0,h=>by
  simp only[zl,GT,hj]at h ⊢
  refine⟨fun hw=>?_,fun hw=>?_⟩
  rw[if_pos hw,if_pos hk]at h;exact h
  rw[if_neg (by simp[hw])]at h;exact h
 |i::l1,l2,L,a,w,hl,hb,hE0,hL0,h=>by
  have hi:=hl i (z0 ..)
  obtain⟨hbi,hbj,hij⟩:=hb i (z0 ..)
  have hl':∀x∈l1,∀ox,ops[x]? = some ox→ox.apart ops oj=true∧NT (kd x) (kd j)=true:=fun x hx=>hl x (z3 _ hx)
  have hb':∀x∈l1,(bs j).testBit x=false∧(bs x).testBit j=false∧x≠j:=fun x hx=>hb x (z3 _ hx)
  simp only[List.cons_append,GT]at h ⊢
  cases hoi:ops[i]? with
  |none=>rw[hoi]at h;exact h.elim
  |some oi =>
   rw[hoi]at h
   simp only at h ⊢
   obtain⟨hap,hok⟩:=hi oi hoi
   obtain⟨p1,p2,p3⟩:=Oper.apart_spec hap
   have p2':∀d,oj.dst=some d→oi.dst≠some d:=fun d hd he=>p2 d he hd
   have si:=fun cs b=>hsel i oi cs b hoi
   have sj:=fun cs b=>hsel j oj cs b hj
   by_cases hw:Region.wanted oi (yielded ops a.tmps)=true
   rw[if_pos hw]at h
   rcases Yu hok hk with hki|hki
   rw[if_neg (by omega)]at h
   unfold Bk at h
   rw[if_pos (by omega)]at h
   obtain⟨vi,hy,h⟩:=h
   obtain⟨g1,g2⟩:=PD hR hsel hj hk l1 l2 L (a.put oi.dst vi) w hl' hb' hE0 hL0 h
   rw[wanted_put oj a oi.dst vi p1]at g1 g2
   refine⟨fun hwj=>?_,fun hwj=>?_⟩
   obtain⟨r2,r3⟩:=g1 hwj
   refine⟨fun w' hw' hd=>(RA.apart (ops:=ops) sj p1 p2).1 (r2 w' hw' hd),fun v lo hi w'' e1 e2 e3 e4 e5 e6=>?_⟩
   have hr:=r3 v lo hi w'' e1 e2 e3 e4 e5 e6
   dsimp only
   rw[wanted_put oi a oj.dst v p3,if_pos hw,if_neg (by omega)]
   unfold Bk
   rw[if_pos (by omega)]
   refine⟨vi,fun w3 hc=>(YA.apart (ops:=ops) si p3).2 (hy w3 ?_),?_⟩
   match hki':kd i,hki with
   |0,_=>trivial
   |1,_=>rw[hki']at hc;exact hc
   |_+2,hle=>omega
   rw[Act.put_comm a v vi p2'];exact hr
   rw[wanted_put oi a oj.dst undef p3,if_pos hw,if_neg (by omega)]
   unfold Bk
   rw[if_pos (by omega)]
   refine⟨vi,fun w' hc=>(YA.apart (ops:=ops) si p3).2 (hy w' hc),?_⟩
   rw[Act.put_comm a undef vi p2']
   exact g2 hwj
   rw[if_pos hki]at h
   obtain⟨r2,r3⟩:=h
   have step:∀vi lo hi w'',AK w w''→w0.heap.size≤lo→lo≤hi→hi≤w''.heap.size→(∀q∈L,q.2.2.2≤lo∨hi≤q.2.2.1)→Rs i (Gx L) vi lo hi w'' →
     (Region.wanted oj (yielded ops a.tmps)=true→MF P bs Rs w0 j oj (a.put oi.dst vi) w'' ((i,vi,lo,hi)::L) (GT P ops bs Rs kd w0 Q (l1++l2))) ∧
     (Region.wanted oj (yielded ops a.tmps)=false→GT P ops bs Rs kd w0 Q (l1++l2) ((i,vi,lo,hi)::L) ((a.put oi.dst vi).put oj.dst undef) w''):=by
    intro vi lo hi w'' e1 e2 e3 e4 e5 e6;have hr:=PD hR hsel hj hk l1 l2 ((i,vi,lo,hi)::L) (a.put oi.dst vi) w'' hl' hb' (hE0.trans e1) ⟨⟨e4,e6⟩,hL0.ext hR e1⟩<|r3 vi lo hi w'' e1 e2 e3 e4 e5 e6;rw[wanted_put oj a oi.dst vi p1]at hr;exact hr
   have hfr:∀w1,∀q∈L,q.2.2.2≤w.heap.size∨w1≤q.2.2.1:=fun w1 q hq=>.inl (hL0.sz q hq);obtain⟨vi0,w10,k1,k2⟩:=(r2 w hE0 hL0.dp).some;have st0:=step vi0 w.heap.size w10.heap.size w10 k1 hE0.size k1.size (A7 _) (hfr _) k2;refine⟨fun hwj=>⟨fun w' e1 e2=>?_,fun v lo hi w2 e1 e2 e3 e4 e5 e6=>?_⟩,fun hwj=>?_⟩;have h9:=(st0.1 hwj).1 w' e1 ⟨fun hbq=>absurd (show(bs j).testBit i=true from hbq) (by rw[hbi];decide),e2⟩;refine (RA.apart (ops:=ops) sj p1 p2).1 (Oper.wp_mono (fun b w1 hb=>?_) h9);obtain⟨q1,u,q2,q3⟩:=hb;exact⟨q1,u,q2,hR.dp _ _ _ _ _ _ _ (fun d hd=>IQ fun h8=>by rw[← h8]at hd;rw[show(bs j).testBit i=true from hd]at hbi;cases hbi) q3⟩;dsimp only;rw[wanted_put oi a oj.dst v p3,if_pos hw,if_pos hki];have hgi:∀d,(bs i).testBit d=true→Gx L d=Gx ((j,v,lo,hi)::L) d:=fun d hd=>(IQ fun h8=>by rw[← h8]at hd;rw[show(bs i).testBit j=true from hd]at hbj;cases hbj).symm;have hgj:∀vi loi hii,∀d,(bs j).testBit d=true→Gx L d=Gx ((i,vi,loi,hii)::L) d:=fun vi loi hii d hd=>(IQ fun h8=>by rw[← h8]at hd;rw[show(bs j).testBit i=true from hd]at hbi;cases hbi).symm;refine⟨fun w' f1 f2=>(RA.apart (ops:=ops) si p3 p2').2 (Oper.wp_mono (fun b w1 hb=>⟨hb.1,hb.2.choose,hb.2.choose_spec.1,hR.dp _ _ _ _ _ _ _ hgi hb.2.choose_spec.2⟩) (r2 w' f1 f2.2)),fun vi loi hii w3 f1 f2 f3 f4 f5 f6=>?_⟩;have hs:=(step vi loi hii w3 (e1.trans f1) f2 f3 f4 (fun q hq=>f5 q<|z3 _ hq)<|hR.dp _ _ _ _ _ _ _ (fun d hd=>(hgi d hd).symm) f6).1 hwj;have hr:=hs.2 v lo hi w3 (AK.refl _) e2 e3 (A8 e4 f1.size) (fun q hq=>by
    rcases ze.1 hq with rfl|hq;exact (f5 _ (z0 ..)).symm;exact e5 q hq) (hR.dp _ _ _ _ _ _ _ (hgj vi loi hii) (hR.st _ _ _ _ _ _ _ f1 e6))
   rw[Act.put_comm a v vi p2'];exact GT.sub hR _ ⟨[],(j,v,lo,hi),(i,vi,loi,hii),L,rfl,rfl,fun h9=>hij h9.symm,hbi,hbj⟩ hr;rw[wanted_put oi a oj.dst undef p3,if_pos hw,if_pos hki];refine⟨fun w' f1 f2=>(RA.apart (ops:=ops) si p3 p2').2 (r2 w' f1 f2),fun vi loi hii w3 f1 f2 f3 f4 f5 f6=>?_⟩;rw[Act.put_comm a undef vi p2'];exact (step vi loi hii w3 f1 f2 f3 f4 f5 f6).2 hwj;rw[if_neg hw]at h;obtain⟨g1,g2⟩:=PD hR hsel hj hk l1 l2 L (a.put oi.dst undef) w hl' hb' hE0 hL0 h;rw[wanted_put oj a oi.dst undef p1]at g1 g2;refine⟨fun hwj=>?_,fun hwj=>?_⟩;obtain⟨r2,r3⟩:=g1 hwj;refine⟨fun w' hw' hd=>(RA.apart (ops:=ops) sj p1 p2).1 (r2 w' hw' hd),fun v lo hi w'' e1 e2 e3 e4 e5 e6=>?_⟩;have hr:=r3 v lo hi w'' e1 e2 e3 e4 e5 e6;dsimp only;rw[wanted_put oi a oj.dst v p3,if_neg hw,Act.put_comm a v undef p2'];exact hr;rw[wanted_put oi a oj.dst undef p3,if_neg hw,Act.put_comm a undef undef p2'];exact g2 hwj
theorem Ou (hsel:∀(j:Nat)(o:Oper) cs b,ops[j]? = some o→o.op≠.select cs b){j:Nat}{oj:Oper}(hj:ops[j]? = some oj)(hk:kd j=4) :
  ∀(l1 l2:List Nat) (L:List I5) (a:Act) (w:World),(∀i∈l1,∀oi,ops[i]? = some oi→oi.apart ops oj=true∧NT (kd i) (kd j)=true)→GT P ops bs Rs kd w0 Q (l1++j::l2) L a w →
   (Region.wanted oj (yielded ops a.tmps)=true→oj.wp P a w (GT P ops bs Rs kd w0 Q (l1++l2) L) (NQ fun _ _=>False)) ∧
   (Region.wanted oj (yielded ops a.tmps)=false→GT P ops bs Rs kd w0 Q (l1++l2) L (a.put oj.dst undef) w)
 |[],l2,L,a,w,_,h=>by
  simp only[zl,GT,hj]at h ⊢
  refine⟨fun hw=>?_,fun hw=>?_⟩
  rw[if_pos hw,if_neg (by omega)]at h
  unfold Bk at h
  rw[if_neg zO,if_neg (by omega)]at h;exact h
  rw[if_neg (by simp[hw])]at h;exact h
 |i::l1,l2,L,a,w,hl,h=>by
  have hi:=hl i (z0 ..)
  have hl':∀x∈l1,∀ox,ops[x]? = some ox→ox.apart ops oj=true∧NT (kd x) (kd j)=true:=fun x hx=>hl x (z3 _ hx)
  simp only[List.cons_append,GT]at h ⊢
  cases hoi:ops[i]? with
  |none=>rw[hoi]at h;exact h.elim
  |some oi =>
   rw[hoi]at h
   simp only at h ⊢
   obtain⟨hap,hok⟩:=hi oi hoi
   obtain⟨p1,p2,p3⟩:=Oper.apart_spec hap
   have p2':∀d,oj.dst=some d→oi.dst≠some d:=fun d hd he=>p2 d he hd
   have si:=fun cs b=>hsel i oi cs b hoi
   have sj:=fun cs b=>hsel j oj cs b hj
   have hki:=V5 hok hk
   by_cases hw:Region.wanted oi (yielded ops a.tmps)=true
   rw[if_pos hw,if_neg (by omega)]at h
   unfold Bk at h
   rw[if_pos (by omega)]at h
   obtain⟨vi,hy,h⟩:=h
   have hya:∀w',YA P oi a w' vi:=fun w'=>hy w' (by rw[hki];exact trivial)
   obtain⟨g1,g2⟩:=Ou hsel hj hk l1 l2 L (a.put oi.dst vi) w hl' h
   rw[wanted_put oj a oi.dst vi p1]at g1 g2
   refine⟨fun hwj=>?_,fun hwj=>?_⟩
   have g:=EV (ops:=ops) (Q:=fun _ _=>False) sj p1 p2<|g1 hwj
   refine Oper.wp_mono (fun a' w' hK=>?_)<|Dw g
   obtain⟨hL,hsh⟩:=hK
   rw[Dk p3 hsh,if_pos hw,if_neg (by omega)]
   unfold Bk
   rw[if_pos (by omega)]
   refine⟨vi,fun w'' hc=>?_,hL⟩
   have he:∀b,YA P oi b w'' vi↔YR P ((execOp b.eval oi).run P w'') w'' vi:=fun _=>Iff.rfl
   obtain⟨u,rfl|⟨x,rfl⟩⟩:=hsh
   exact (YA.apart (ops:=ops) si p3).2 (hya w'')
   refine (YA.apart (ops:=ops) si p3).2 ?_
   have hee:Act.eval { a with defers:=x::a.defers }=Act.eval a:=funext fun y=>by cases y <;> rfl
   rw[he,hee,← he];exact hya w''
   rw[wanted_put oi a oj.dst undef p3,if_pos hw,if_neg (by omega)]
   unfold Bk
   rw[if_pos (by omega)]
   refine⟨vi,fun w' hc=>(YA.apart (ops:=ops) si p3).2 (hya w'),?_⟩
   rw[Act.put_comm a undef vi p2']
   exact g2 hwj
   rw[if_neg hw]at h
   obtain⟨g1,g2⟩:=Ou hsel hj hk l1 l2 L (a.put oi.dst undef) w hl' h
   rw[wanted_put oj a oi.dst undef p1]at g1 g2
   refine⟨fun hwj=>?_,fun hwj=>?_⟩
   have g:=EV (ops:=ops) (Q:=fun _ _=>False) sj p1 p2<|g1 hwj
   refine Oper.wp_mono (fun a' w' hK=>?_)<|Dw g
   obtain⟨hL,hsh⟩:=hK
   rw[Dk p3 hsh,if_neg hw]
   exact hL
   rw[wanted_put oi a oj.dst undef p3,if_neg hw,Act.put_comm a undef undef p2']
   exact g2 hwj
def V6 (md:Region.Mode)(ops:Array Oper)(kd bs:Nat→Nat)(x y:Nat):Prop :=
 (∀ox oy,ops[x]? = some ox→ops[y]? = some oy→(bs y).testBit x=true∨(ox.apart ops oy=true∧NT (kd x) (kd y)=true)) ∧
 (∀ox,ops[x]? = some ox→∀e∈ox.after,Region.binds md e=true→e.on≠y)
theorem KI (hR:SE bs Rs)(hbk:∀x y ox,ops[x]? = some ox→x<y→(bs x).testBit y=false)(hkd:∀i,kd i≤1∨kd i=4∨kd i=5)(hsel:∀(j:Nat)(o:Oper) cs b,ops[j]? = some o→o.op≠.select cs b)(hS:MY md ops bs)
  (hlex:∀j oj,ops[j]? = some oj→∀e∈oj.after,Region.binds md e=true→e.on<j) :
  ∀(n:Nat) (l:List Nat) (listed:Array Bool) (L:List I5) (a:Act) (w:World),l.length=n→l.Pairwise (V6 md ops kd bs)→l.Pairwise (· < ·)→l.Nodup→listed.size=ops.size →
   (∀i,i∈l↔listed.getD i true=false)→IZ bs listed→Lk kd l→SD Rs kd w0 w l L→GT P ops bs Rs kd w0 Q l L a w→wpAny P md ops (NQ Q) n listed a w
 |0,l,listed,L,a,w,hn,_,_,_,_,hm,_,_,_,h=>by
  have hl:l=[]:=List.eq_nil_of_length_eq_zero hn
  subst hl
  refine⟨?_,h⟩
  cases hr:Region.ready md ops listed with
  |nil=>rfl
  |cons x xs =>
   have:=(mem_ready.1 (by rw[hr];exact z0 ..:x∈Region.ready md ops listed)).1
   exact absurd ((hm x).2 this) (by simp)
 |n+1,l,listed,L,a,w,hn,hs,hso,hd,hz,hm,hc,h14,hi1,h=>by
  refine⟨fun h0=>?_,fun i hi=>?_⟩
  exfalso
  match l,hn with
  |i::l,hn =>
   have hready:=HQ (md:=md) hz hm hlex fun y hy ox hox=>((List.pairwise_cons.1 hs).1 y hy).2 ox hox
   rw[h0]at hready
   cases hready
  obtain⟨hun,oi,hoi,hall⟩:=mem_ready.1 hi
  obtain⟨l1,l2,rfl⟩:=List.append_of_mem ((hm i).2 hun)
  have hbits:=Fv hS hc hoi hall
  have hpi:∀x∈l1,V6 md ops kd bs x i:=fun x hx=>(List.pairwise_append.1 hs).2.2 x hx i (z0 ..)
  have hlt:∀x∈l1,x<i:=fun x hx=>(List.pairwise_append.1 hso).2.2 x hx i (z0 ..)
  have hnb0:∀x∈l1,(bs i).testBit x=false:=fun x hx=>by
   have h2:=EW ((hm x).1 (z8 _ hx))
   cases hb:(bs i).testBit x with
   |false=>rfl
   |true=>rw[hbits x hb]at h2;cases h2
  have hnb:∀x∈l1,(bs i).testBit x=false∧(bs x).testBit i=false∧x≠i:=fun x hx=>⟨hnb0 x hx,hbk x i (ops[x]'(by have:=C7 ((hm x).1 (z8 _ hx));omega)) (by simp[show x<ops.size by have:=C7 ((hm x).1 (z8 _ hx));omega]) (hlt x hx),fun h9=>by have:=hlt x hx;omega⟩
  have hfree:∀x∈l1,∀ox,ops[x]? = some ox→ox.apart ops oi=true∧NT (kd x) (kd i)=true:=fun x hx ox hox=>by
   rcases(hpi x hx).1 ox oi hox hoi with hb|hb
   rw[hnb0 x hx]at hb;cases hb
   exact hb
  have hsz:=C7 hun
  have hsub0:(l1++l2).Sublist (l1++i::l2):=List.Sublist.append_left (List.sublist_cons_self _ _) _
  have hnd:i∉l1++l2:=by
   have h1:=List.nodup_append.1 hd
   intro hmem;rcases zi.1 hmem with hh|hh;exact h1.2.2 i hh i (z0 ..) rfl;exact (List.nodup_cons.1 h1.2.1).1 hh
  have hn':(l1++l2).length=n:=by simp at hn ⊢;omega
  have rec_:∀L' a' w',SD Rs kd w0 w' (l1++l2) L'→GT P ops bs Rs kd w0 Q (l1++l2) L' a' w'→wpAny P md ops (NQ Q) n (listed.setIfInBounds i true) a' w':=fun L' a' w' hi' hL =>
   KI hR hbk hkd hsel hS hlex n (l1++l2) _ L' a' w' hn' (hs.sublist hsub0) (hso.sublist hsub0) (hd.sublist hsub0) (by simpa using hz) (J0 hm hnd hsz) (HR hc hbits) (Lk.erase h14) hi' hL
  have hsub:SD Rs kd w0 w (l1++l2) L:=fun⟨j,hj,hk⟩=>hi1 ⟨j,hsub0.subset hj,hk⟩;rcases hkd i with hk|hk|hk;obtain⟨v,hv,hL⟩:=KH hR hsel hoi hk l1 l2 L a w h14 hi1 hfree h;unfold wpOp;rw[hoi];rcases hv with⟨hw,hy⟩|⟨hw,rfl⟩;simp only[hw,if_true];exact .inl<|Iq (hy w (Cl.self fun h1=>(hi1 ⟨i,by simp,.inl h1⟩).1))<|rec_ _ _ _ hsub hL;simp only[hw,Bool.false_eq_true,if_false];exact rec_ _ _ _ hsub hL;obtain⟨g1,g2⟩:=Ou hsel hoi hk l1 l2 L a w hfree h;unfold wpOp;rw[hoi];have hno:¬ ∃j∈l1++l2,kd j=1∨kd j=5:=by
   rintro⟨j,hj,hkj⟩;rcases zi.1 hj with hh|hh;obtain⟨oj,hoj⟩:∃oj,ops[j]? = some oj:=by
    have:=C7 ((hm j).1 (z8 _ hh));exact⟨ops[j]'(by omega),by simp[show j<ops.size by omega]⟩
   have:=V5 (hfree j hh oj hoj).2 hk;omega;have:=h14 l1 i l2 rfl hk j hh;omega
  by_cases hw:Region.wanted oi (yielded ops a.tmps)=true;simp only[hw,if_true];exact .inl<|Oper.wp_mono (fun a' w' hK=>rec_ L a' w' (fun hx=>absurd hx hno) hK)<|Hi<|g1 hw;simp only[hw,Bool.false_eq_true,if_false];exact rec_ _ _ _ hsub<|g2 (by simpa using hw);obtain⟨hE0,hL0⟩:=hi1 ⟨i,by simp,.inr hk⟩;obtain⟨g1,g2⟩:=PD hR hsel hoi hk l1 l2 L a w hfree hnb hE0 hL0 h;unfold wpOp;rw[hoi];by_cases hw:Region.wanted oi (yielded ops a.tmps)=true;simp only[hw,if_true];obtain⟨r2,r3⟩:=g1 hw;refine .inl<|Oper.wp_mono (fun a' w' hK=>?_)<|Hi<|r2 w hE0 hL0.dp;obtain⟨hE,v,rfl,hv⟩:=hK;exact rec_ ((i,v,w.heap.size,w'.heap.size)::L) _ _ (fun _=>⟨hE0.trans hE,⟨A7 _,hv⟩,hL0.ext hR hE⟩)<|r3 v _ _ w' hE hE0.size hE.size (A7 _) (fun q hq=>.inl<|hL0.sz q hq) hv;simp only[hw,Bool.false_eq_true,if_false];exact rec_ _ _ _ hsub<|g2 (by simpa using hw)
end main
theorem M0 {bs:Nat→Nat}{Rs:Ot}{w0:World}{Q:Act→World→Prop}(ks:List Nat):∀(os:List Oper)(k:Nat)(L:List I5)(a:Act)(w:World),(∀j,os[j]? = ops[k+j]?) →
  LV P ops bs Rs w0 Q k os (ks.drop k) L a w→GT P ops bs Rs (fun i=>ks.getD i 0) w0 Q (List.range' k os.length) L a w
 |[],_,_,_,_,_,h=>by simpa [GT,LV]using h
 |o::os,k,L,a,w,ho,h=>by
  have h0:ops[k]? = some o:=by simpa using (ho 0).symm
  have hr:∀L a w,LV P ops bs Rs w0 Q (k+1) os (ks.drop (k+1)) L a w→GT P ops bs Rs (fun i=>ks.getD i 0) w0 Q (List.range' (k+1) os.length) L a w:=fun L a w hh =>
   M0 ks os (k+1) L a w (fun j=>by have:=ho (j+1);simpa [Nat.add_assoc,Nat.add_comm 1 j]using this) hh
  have hlt:k<ks.length:=by
   rcases Nat.lt_or_ge k ks.length with hh|hh;exact hh;rw[List.drop_of_length_le hh]at h;exact h.elim
  have hd:ks.drop k=ks[k]::ks.drop (k+1):=List.drop_eq_getElem_cons hlt;rw[hd]at h;simp only[z9,List.range'_succ,GT,h0,LV]at h ⊢;have hg:ks.getD k 0=ks[k]:=by simp[hlt]
  split;rename_i hw;rw[if_pos hw]at h;rw[hg];split;rename_i h5;rw[if_pos h5]at h;exact⟨h.1,fun v lo hi w'' e1 e2 e3 e4 e5 e6=>hr _ _ _ (h.2 v lo hi w'' e1 e2 e3 e4 e5 e6)⟩;rename_i h5;rw[if_neg h5]at h;exact h.mono<|hr L;rename_i hw;rw[if_neg hw]at h;exact hr _ _ _ h
def Yw (ops:Array Oper)(ks:List Nat):Bool :=
  let b:=(Region.before ops).toList
  let os:=ops.toList
  Region.noSelect ops &&
  (os.zipIdx.all fun(o,j) =>
    (o.after.all fun e=>!Region.binds .any e || decide (e.on<j)) &&
    (let m:=o.after.foldl (fun s e=>if Region.binds .any e then s ||| 2 ^ e.on ||| b.getD e.on 0 else s) 0
     (b.getD j 0 == m)) &&
    (os.zipIdx.all fun(p,i)=>!(decide (i<j)) || (b.getD j 0).testBit i || (p.apart ops o && NT (ks.getD i 0) (ks.getD j 0)))) &&
  (os.zipIdx.all fun(_,i)=>!(decide (4=ks.getD i 0)) || os.zipIdx.all fun(_,j)=>!(decide (i<j)) || (ks.getD j 0 != 1 && ks.getD j 0 != 5)) && (ks.all fun k=>decide (k≤1) || decide (k=4) || decide (k=5))
def Uq (os:List Oper)(j:Nat):Nat:=(Region.before os.toArray).toList.getD j 0
theorem SF {id:Nat}{Q:Exit→Act→World→Prop}{a:Act}{w:World}(os:List Oper)(ks:List Nat)(hm:P.follows .mixedOrders=true)(hB:Yw os.toArray ks=true)(Rs:Ot)(hR:SE (Uq os) Rs)
  (h:LV P os.toArray (Uq os) Rs w.drew (fun a w=>Q .normal a w) 0 os ks [] a w.drew):(Code.region id os.toArray true).wp P Q a w:=by
 refine wp_region_any hm ?_;simp only[Yw,z7]at hB;obtain⟨⟨⟨hsel,hpl⟩,h14⟩,hks⟩:=hB;have hz:∀ {j:Nat} {o:Oper},os.toArray[j]? = some o→(o,j)∈os.toArray.toList.zipIdx:=by
  intro j o ho;rw[List.mem_zipIdx_iff_getElem?];simpa using ho
 have hall:∀j oj,os.toArray[j]? = some oj→_:=fun j oj hj=>zm.1 hpl _ (hz hj);have hF:∀i j oi oj,i<j→os.toArray[i]? = some oi→os.toArray[j]? = some oj→(Uq os j).testBit i=true∨(oi.apart os.toArray oj=true∧NT (ks.getD i 0) (ks.getD j 0)=true):=by
  intro i j oi oj hij hi hj;have h3:=(z7 _ _ ▸ hall j oj hj:_∧_).2;have h4:=zm.1 h3 _<|hz hi;simp only[Bool.or_eq_true,Bool.not_eq_true',decide_eq_false_iff_not,z7]at h4;rcases h4 with(h4|h4)|h4;exact absurd hij h4;exact .inl h4;exact .inr h4
 have hlex:∀j oj,os.toArray[j]? = some oj→∀e∈oj.after,Region.binds .any e=true→e.on<j:=by
  intro j oj hj e he hb;have h1:=(z7 _ _ ▸ (z7 _ _ ▸ hall j oj hj:_∧_).1:_∧_).1;have h2:=(Array.all_eq_true_iff_forall_mem.1 h1) e he;simpa [hb]using h2
 have hkd:∀i,ks.getD i 0≤1∨ks.getD i 0=4∨ks.getD i 0=5:=fun i=>by
  by_cases hi:i<ks.length;have:=zm.1 hks ks[i] (List.getElem_mem hi);simp only[Bool.or_eq_true,decide_eq_true_eq]at this;rw[show ks.getD i 0=ks[i]from by simp[hi]];omega;left;rw[List.getD_eq_getElem?_getD,List.getElem?_eq_none (by omega)];exact Nat.zero_le _
 have hSo:MY .any os.toArray (Uq os):=by
  intro j oj hj i hb;have h3:=(z7 _ _ ▸ (z7 _ _ ▸ hall j oj hj:_∧_).1:_∧_).2;have h5:(Region.before os.toArray).toList.getD j 0=oj.after.foldl (fun s e=>if Region.binds .any e then s ||| 2 ^ e.on ||| (Region.before os.toArray).toList.getD e.on 0 else s) 0:=by simpa using h3
  unfold Uq at hb;rw[h5,← Array.foldl_toList]at hb;rcases Gg _ _ _ _ hb with hb|⟨e,he,hbb,hh⟩;simp at hb;exact⟨e,Array.mem_toList_iff.1 he,hbb,hh⟩
 have hbk:∀x y ox,os.toArray[x]? = some ox→x<y→(Uq os x).testBit y=false:=by
  have H:∀n x ox y,x≤n→os.toArray[x]? = some ox→(Uq os x).testBit y=true→y<x:=by
   intro n
   induction n with
   |zero =>
    intro x ox y hx ho hb;obtain⟨e,he,hbb,_⟩:=hSo x ox ho y hb;have:=hlex x ox ho e he hbb;omega
   |succ n ih =>
    intro x ox y hx ho hb;obtain⟨e,he,hbb,rfl|hh⟩:=hSo x ox ho y hb;exact hlex x ox ho e he hbb;have h1:=hlex x ox ho e he hbb;have hlt:e.on<os.toArray.size:=by
     rcases Nat.lt_or_ge x os.toArray.size with h'|h';omega;rw[Array.getElem?_eq_none h']at ho;cases ho
    have:=ih e.on (os.toArray[e.on]) y zO (by simp) hh;omega
  intro x y ox ho hxy;cases hb:(Uq os x).testBit y with
  |false=>rfl
  |true=>have:=H x x ox y (A7 _) ho hb;omega
 have key:=KI (P:=P) (ops:=os.toArray) (md:=.any) (kd:=fun i=>ks.getD i 0) (bs:=Uq os) (Rs:=Rs) (w0:=w.drew) (Q:=fun a w=>Q .normal a w) hR ?_ hkd
  (Region.noSelect_spec hsel) ?_ ?_ os.length (List.range' 0 os.length) (Array.replicate os.length false) [] a w.drew (by simp) ?_ (List.pairwise_lt_range' (s:=0) (n:=os.length) (step:=1)) List.nodup_range' (by simp) ?_ ?_ ?_ (fun _=>⟨AK.refl _,trivial⟩) ?_
 have:=HS _ _ _ _ key;simpa using this;exact hbk;exact hSo;exact hlex;exact (List.pairwise_lt_range' (s:=0) (n:=os.length) (step:=1)).imp fun {x y} hxy=>⟨fun ox oy hox hoy=>hF x y ox oy hxy hox hoy,fun ox hox e he hb=>by have:=hlex x ox hox e he hb;omega⟩
 intro i;simp only[List.mem_range',Nat.zero_add,Nat.one_mul];constructor;rintro⟨x,hx,rfl⟩;simp[hx]
 intro hh;rcases Nat.lt_or_ge i os.length with h'|h';exact⟨i,h',rfl⟩;simp[Array.getElem?_eq_none (show(Array.replicate os.length false).size≤i by simpa using h')]at hh
 intro i hi;rcases Nat.lt_or_ge i os.length with h'|h';simp[h']at hi;simp[Array.getElem?_eq_none (show(Array.replicate os.length false).size≤i by simpa using h')]at hi
 intro l1 i l2 hl hk j hj;have hs:(l1++i::l2).Pairwise (· < ·):=hl ▸ List.pairwise_lt_range';have hij:i<j:=List.rel_of_pairwise_cons (List.pairwise_append.1 hs).2.1 hj;have mem:∀x∈l1++i::l2,x<os.length:=by
  intro x hx;rw[← hl]at hx;simp only[List.mem_range',Nat.zero_add,Nat.one_mul]at hx;obtain⟨y,hy,rfl⟩:=hx;exact hy
 have hi:=mem i (by simp);have hj':=mem j (by simp[hj]);have h1:=zm.1 h14 _<|hz (j:=i) (o:=os[i]) (by simp[hi]);simp only[Bool.or_eq_true,Bool.not_eq_true',decide_eq_false_iff_not]at h1;rcases h1 with h1|h1;exact absurd (Eq.symm hk) h1;have h2:=zm.1 h1 _<|hz (j:=j) (o:=os[j]) (by simp[hj']);simp only[Bool.or_eq_true,Bool.not_eq_true',decide_eq_false_iff_not]at h2;rcases h2 with h2|h2;exact absurd hij h2;simpa using h2;exact M0 ks os 0 [] a w.drew (by simp) (by simpa using h)
end
section
variable {P:Program} {ops:Array Oper} {bs:Nat→Nat} {Rs:Ot} {w0:World} {Q:Act→World→Prop} {os:List Oper} {ks:List Nat} {L:List I5} {N k d:Nat} {ρ:Nat→Value} {w:World} {o:Oper}
theorem LV.nil {a:Act}(h:Q a w):LV P ops bs Rs w0 Q k [] ks L a w:=h
theorem LV.j {kd:Nat}(hk:kd≠5){a:Act}(h:LW P ops w0 (fun a' w'=>LV P ops bs Rs w0 Q (k+1) os ks L a' w') [o] [kd] a w):LV P ops bs Rs w0 Q k (o::os) (kd::ks) L a w:=by simp only[LW]at h;simp only[LV,hk,if_false];split;rename_i hw;rw[if_pos hw]at h;exact h;rename_i hw;rw[if_neg hw]at h;exact h
theorem LV.r (hu:Up ops N ρ o)(ho:o.dst=some d)(hA:∀w',AK w0 w'→V4 bs Rs k w' L→LW P ops w' (fun a' w''=>∃v,a'=mk N (Cs ρ d v)∧Rs k (Gx L) v w'.heap.size w''.heap.size w'') [o] [3] (mk N ρ) w')
  (hK:∀v lo hi w'',AK w w''→w0.heap.size≤lo→lo≤hi→hi≤w''.heap.size→(∀q∈L,q.2.2.2≤lo∨hi≤q.2.2.1)→Rs k (Gx L) v lo hi w''→LV P ops bs Rs w0 Q (k+1) os ks ((k,v,lo,hi)::L) (mk N (Cs ρ d v)) w''):LV P ops bs Rs w0 Q k (o::os) (5::ks) L (mk N ρ) w:=by
 simp only[LV];rw[if_pos hu,if_pos trivial];refine⟨fun w' h1 h2=>?_,fun v lo hi w'' h1 h2 h3 h4 h5 h6=>?_⟩;have h:=hA w' h1 h2;simp only[LW]at h;rw[if_pos hu]at h;unfold Bk at h;rw[if_neg (by decide),if_pos rfl]at h;refine Oper.wp_mono (fun b w1 hb=>?_) h;obtain⟨q1,v,rfl,q3⟩:=hb;exact⟨q1,v,by rw[ho,DS],q3⟩;have:=hK v lo hi w'' h1 h2 h3 h4 h5 h6;rw[← DS]at this;rw[ho];exact this
def Ur:List (Nat×((Nat→Value×Nat×Nat)→Value→Nat→Nat→World→Prop))→Ot
 |[],_=>fun _ _ _ _ _=>True
 |r::l,k=>cond (Nat.beq r.1 k) r.2 (Ur l k)
theorem Us:SE bs (Ur []):=⟨fun _ _ _ _ _ _ _ _ _=>trivial,fun _ _ _ _ _ _ _ _ _=>trivial⟩
theorem NI {r:(Nat→Value×Nat×Nat)→Value→Nat→Nat→World→Prop}{l:List (Nat×((Nat→Value×Nat×Nat)→Value→Nat→Nat→World→Prop))}(h1:∀g v lo hi w1 w2,AK w1 w2→r g v lo hi w1→r g v lo hi w2)
  (h2:∀g g',(∀d,(bs k).testBit d=true→g d=g' d)→∀v lo hi w,r g v lo hi w→r g' v lo hi w) (h:SE bs (Ur l)):SE bs (Ur ((k,r)::l)):=by
 refine⟨fun j g v lo hi w1 w2 hE hr=>?_,fun j g g' v lo hi w hg hr=>?_⟩;have e:∀w,Ur ((k,r)::l) j g v lo hi w=(cond (Nat.beq k j) r (Ur l j)) g v lo hi w:=fun w=>rfl;rw[e]at hr ⊢;cases hb:Nat.beq k j with
 |true=>rw[hb]at hr;exact h1 _ _ _ _ _ _ hE hr
 |false=>rw[hb]at hr;exact h.st _ _ _ _ _ _ _ hE hr
 have e:∀g,Ur ((k,r)::l) j g v lo hi w=(cond (Nat.beq k j) r (Ur l j)) g v lo hi w:=fun g=>rfl;rw[e]at hr ⊢;cases hb:Nat.beq k j with
 |true=>rw[hb]at hr;have:=Nat.eq_of_beq_eq_true hb;subst this;exact h2 _ _ hg _ _ _ _ hr
 |false=>rw[hb]at hr;exact h.dp _ _ _ _ _ _ _ hg hr
end
def lF {α:Type}(E:Bx α)(x:α)(v:Value)(lo hi:Nat)(w:World):Prop:=Fr E lo hi w.heap v x
theorem V7 {α:Type}{E:Bx α}(hE:Cb E){x:α}(v:Value)(lo hi:Nat)(w1 w2:World)(h:AK w1 w2)(k:lF E x v lo hi w1):lF E x v lo hi w2:=Fr.ext hE k h
end
section
theorem aC {x y:Int}(hx:0≤x∧x<1000003)(hy:0≤y∧y<1000003):0≤x*y∧x*y≤1000006000009:=by refine⟨Int.mul_nonneg hx.1 hy.1,?_⟩;have:=Int.mul_le_mul (show x≤1000003 by omega) (show y≤1000003 by omega) hy.1 (by decide);omega
section
variable {a b:List Int} {k:Nat}
theorem SG (h:k<b.length):b.take (k+1)=b.take k++[b.getD k 0]:=by rw[List.take_add_one,List.getElem?_eq_getElem h,List.getD_eq_getElem?_getD,List.getElem?_eq_getElem h];rfl
end
theorem Ja.isSlI {e:TypeId}{S:Nat→Prop}{H:Array Obj}{v:Value}{xs:List Int}(h:Ja (Bz rI e) S H v xs):Go.Proofs.YtbcopolhaljhhaaGreat.Ea v xs.length:=by obtain⟨F,h,_⟩:=h;exact(Bz.rd id h:Bg rI H v xs F).isSl
theorem Ja.rd1 {e:TypeId}{S:Nat→Prop}{H:Array Obj}{v:Value}{xs:List Int}(h:Ja (Bz rI e) S H v xs):Rd (Bg rI) H v xs:=by obtain⟨F,h,_⟩:=h;exact⟨F,Bz.rd id h⟩
theorem Fr.prefI {e:TypeId}{B U:Nat}{H:Array Obj}{v:Value}{xs:List Int}{k:Nat}(h:Fr (Bz rI e) B U H v xs)(hk:k≤xs.length):Fr (Bz rI e) B U H (IK v k) (xs.take k):=by
 obtain⟨F,h1,h2,h3⟩:=h;refine⟨F,?_,h2,h3⟩;rcases h1 with⟨rfl,rfl,rfl⟩|⟨us,g,cap,cur,F',q1,rfl,q3,q4,q5,q6,q7,rfl⟩;have:k=0:=by simpa using hk
 subst this;exact .inl ⟨rfl,rfl,rfl⟩;have hl:(xs.take k).length=k:=by rw[List.length_take];omega
 have hF:F'=[]:=by
  have:∀ {us:List Value} {xs:List Int} {F:List Nat},els rI H us xs F→F=[]:=by
   intro us xs
   induction us generalizing xs with
   |nil=>intro F h;cases xs with
    |nil=>exact h
    |cons=>exact h.elim
   |cons u us ih =>
    intro F h;cases xs with
    |nil=>exact h.elim
    |cons x xs =>
     obtain⟨F1,F2,rfl,q1,q2⟩:=h;rw[q1.2.1,ih q2];rfl
  exact this q1
 subst hF;have htk:∀ {us:List Value} {xs:List Int} {k:Nat},els rI H us xs []→els rI H (us.take k) (xs.take k) []:=by
  intro us
  induction us with
  |nil=>intro xs k h;cases xs with
   |nil=>simpa using h
   |cons=>exact h.elim
  |cons u us ih =>
   intro xs k h;cases xs with
   |nil=>exact h.elim
   |cons x xs =>
    obtain⟨F1,F2,e,a1,a2⟩:=h;obtain⟨rfl,rfl⟩:=List.append_eq_nil_iff.1 e.symm;cases k with
    |zero=>rfl
    |succ k=>exact⟨[],[],rfl,a1,ih a2⟩
 refine .inr ⟨us.take k,g,cap,cur,[],htk q1,?_,q3,zO,q5,q6,?_,rfl⟩;rw[hl];rfl;rw[hl,← q7,List.take_take,Nat.min_eq_left hk]
section
variable {a b:List Int} {n k i:Nat} {x y:Int}
def I6 (a:List Int)(k i:Nat):List Int:=(Gn a (k+1)).take i++(Gn a k).drop i
theorem PE (hk:k<a.length)(hi:i≤a.length-(k+1)):(I6 a k i).length=a.length-k:=by unfold I6;rw[z4,List.length_take,List.length_drop,EK _ zO,EK _ (by omega)];omega
theorem PF {j:Nat}(hk:k<a.length)(hi:i≤a.length-(k+1))(hj:i≤j):(I6 a k i).getD j 0=(Gn a k).getD j 0:=by
 unfold I6;have hl:((Gn a (k+1)).take i).length=i:=by rw[List.length_take,EK _ (by omega)];omega
 rw[List.getD_eq_getElem?_getD,List.getElem?_append_right zO,hl,List.getElem?_drop,show i+(j-i)=j from by omega,List.getD_eq_getElem?_getD]
theorem Ut (hk:k<a.length)(hi:i<a.length-(k+1))(hx:x=md ((Gn a k).getD (i+1) 0-(Gn a k).getD i 0)):(I6 a k i).set i x=I6 a k (i+1):=by
 have hl:((Gn a (k+1)).take i).length=i:=by rw[List.length_take,EK _ (by omega)];omega
 have hg:(Gn a k).length=a.length-k:=EK _ zO;have hx2:x=(Gn a (k+1)).getD i 0:=by
  rw[hx];show _=(E8 (a.length-(k+1)) fun i=>md ((Gn a k).getD (i+1) 0-(Gn a k).getD i 0)).getD i 0;rw[Bo 0 hi]
 unfold I6;rw[List.set_append_right _ _ zO,hl,Nat.sub_self,List.drop_eq_getElem_cons zO,List.set_cons_zero,SG (by rw[EK _ (by omega)];exact hi),List.append_assoc,← hx2];rfl
theorem Yx:I6 a k 0=Gn a k:=by unfold I6;rw[List.take_zero,List.drop_zero,zl]
theorem Uu (hk:k<a.length):(I6 a k (a.length-(k+1))).take (a.length-(k+1))=Gn a (k+1):=by unfold I6;have hl:(Gn a (k+1)).length=a.length-(k+1):=EK _ zO;have h1:(Gn a (k+1)).take (a.length-(k+1))=Gn a (k+1):=za zO;rw[h1,List.take_append_of_le_length zO,h1]
def K7 (b:List Int)(k i:Nat):List Int:=(IX b k).take i++List.replicate (b.length-i) 0
theorem PG (hi:i≤b.length):(K7 b k i).length=b.length:=by unfold K7 IX;rw[z4,List.length_take,Bl,z5];omega
theorem Uv (hi:i<b.length):(K7 b k i).getD i 0=0:=by
 unfold K7;have hl:((IX b k).take i).length=i:=by unfold IX;rw[List.length_take,Bl];omega
 rw[List.getD_eq_getElem?_getD,List.getElem?_append_right zO,hl,Nat.sub_self,List.getElem?_replicate];split <;> rfl
theorem V8 (hi:i<b.length)(hy:y=UU b k i):(K7 b k i).set i y=K7 b k (i+1):=by
 have hl:((IX b k).take i).length=i:=by unfold IX;rw[List.length_take,Bl];omega
 have hy2:y=(IX b k).getD i 0:=by rw[hy];exact(Bo 0 hi).symm
 unfold K7;rw[List.set_append_right _ _ zO,hl,Nat.sub_self,show b.length-i=(b.length-(i+1))+1 from by omega,List.replicate_succ,List.set_cons_zero,SG (by unfold IX;rw[Bl];exact hi),List.append_assoc,← hy2];rfl
theorem V9 (hi:i<b.length)(h0:¬0<i):(K7 b k i).set i (md ((K7 b k i).getD i 0-b.getD i 0*((k:Nat):Int)))=K7 b k (i+1) :=
 V8 hi (by rw[Uv hi];unfold UU;rw[if_neg h0])
theorem Va (hi:i<b.length)(h0:0<i)(hx:x=b.getD (i-1) 0):((K7 b k i).set i x).set i (md (((K7 b k i).set i x).getD i 0-b.getD i 0*((k:Nat):Int)))=K7 b k (i+1):=by rw[List.set_set,List.getD_eq_getElem?_getD,List.getElem?_set_self (by rw[PG (by omega)];exact hi),Option.getD_some];exact V8 hi (by unfold UU;rw[if_pos h0,hx])
theorem Yy:K7 b k 0=List.replicate b.length 0:=by unfold K7;rw[List.take_zero,zl,Nat.sub_zero]
theorem Uw:K7 b k b.length=IX b k:=by
 unfold K7;have hl:(IX b k).length=b.length:=by unfold IX;rw[Bl]
 rw[za zO,Nat.sub_self];simp
theorem Xx:Bd (IX b k)=true:=EJ fun _ _=>BN _
theorem Yz (hx:0≤x∧x<1000003)(hk:k<13):0≤x*((k:Nat):Int)∧x*((k:Nat):Int)≤13000039:=by refine⟨Int.mul_nonneg hx.1 zO,?_⟩;have:=Int.mul_le_mul (show x≤1000003 by omega) (show((k:Nat):Int)≤13 by omega) zO (by decide);omega
end
end
theorem Ja.ofF {α β:Type}{E:Array Obj→β→α→List Nat→Prop}{B U:Nat}{H:Array Obj}{v:β}{x:α}(h:∃F,E H v x F∧F.Nodup∧∀b∈F,B≤b∧b<U):Ja E (fun b=>B≤b∧b<U) H v x:=h
theorem Ja.sub {α β:Type}{E:Array Obj→β→α→List Nat→Prop}{S T:Nat→Prop}{H:Array Obj}{v:β}{x:α}(h:Ja E S H v x)(hs:∀b,S b→T b):Ja E T H v x:=by obtain⟨F,h1,h2,h3⟩:=h;exact⟨F,h1,h2,fun b hb=>hs b (h3 b hb)⟩
theorem mixed:Tryz.prog.follows .mixedOrders=true:=by kernel_rfl
abbrev BV (k:Nat):Prop:=((Tryz.prog.funcs[k]?).map fun fn=>(fn.name != "runtime.NumGoroutine") && fn.body.isSome) = some true
theorem BY {k:Nat} (h:((Tryz.prog.funcs[k]?).map fun fn=>(fn.name != "runtime.NumGoroutine") && fn.body.isSome) = some true):BV k:=h
theorem cI:BV 9:=BY (by kernel_rfl)
theorem aE:BV 10:=BY (by kernel_rfl)
theorem aF:BV 11:=BY (by kernel_rfl)
theorem aG:BV 12:=BY (by kernel_rfl)
theorem aH:BV 13:=BY (by kernel_rfl)
theorem aI:BV 14:=BY (by kernel_rfl)
theorem aJ:BV 15:=BY (by kernel_rfl)
theorem aK:BV 16:=BY (by kernel_rfl)
theorem aL:BV 17:=BY (by kernel_rfl)
theorem aM:BV 18:=BY (by kernel_rfl)
theorem aN:BV 19:=BY (by kernel_rfl)
theorem aO:BV 20:=BY (by kernel_rfl)
theorem aP:BV 52:=BY (by kernel_rfl)
theorem aQ:BV 53:=BY (by kernel_rfl)
theorem H4:BV 54:=BY (by kernel_rfl)
theorem aR:BV 55:=BY (by kernel_rfl)
theorem YB:BV 56:=BY (by kernel_rfl)
theorem I7:BV 57:=BY (by kernel_rfl)
theorem Xy:BV 58:=BY (by kernel_rfl)
theorem YC:BV 59:=BY (by kernel_rfl)
theorem YD:BV 60:=BY (by kernel_rfl)
theorem I8:BV 61:=BY (by kernel_rfl)
theorem YE:BV 62:=BY (by kernel_rfl)
theorem aS:BV 63:=BY (by kernel_rfl)
theorem aT:BV 64:=BY (by kernel_rfl)
theorem YF:BV 65:=BY (by kernel_rfl)
theorem Ux:BV 66:=BY (by kernel_rfl)
theorem Xz:BV 67:=BY (by kernel_rfl)
theorem YG:BV 68:=BY (by kernel_rfl)
theorem XA:BV 69:=BY (by kernel_rfl)
theorem SH:BV 70:=BY (by kernel_rfl)
theorem XB:BV 71:=BY (by kernel_rfl)
theorem YH:BV 72:=BY (by kernel_rfl)
theorem XC:BV 73:=BY (by kernel_rfl)
theorem Uy:BV 74:=BY (by kernel_rfl)
theorem Uz:BV 75:=BY (by kernel_rfl)
theorem YI:BV 76:=BY (by kernel_rfl)
theorem aU:BV 77:=BY (by kernel_rfl)
theorem aV:BV 78:=BY (by kernel_rfl)
theorem aW:BV 79:=BY (by kernel_rfl)
theorem YJ:BV 80:=BY (by kernel_rfl)
theorem SI:BV 81:=BY (by kernel_rfl)
theorem PH:BV 104:=BY (by kernel_rfl)
theorem Vb:BV 109:=BY (by kernel_rfl)
theorem NJ:BV 111:=BY (by kernel_rfl)
theorem PI:BV 112:=BY (by kernel_rfl)
theorem YK:BV 116:=BY (by kernel_rfl)
theorem YL:BV 117:=BY (by kernel_rfl)
theorem YM:BV 119:=BY (by kernel_rfl)
theorem YN:BV 120:=BY (by kernel_rfl)
theorem YO:BV 138:=BY (by kernel_rfl)
theorem YP:BV 139:=BY (by kernel_rfl)
theorem Vc:BV 140:=BY (by kernel_rfl)
theorem H5:BV 141:=BY (by kernel_rfl)
theorem YQ:BV 142:=BY (by kernel_rfl)
theorem Vd:BV 143:=BY (by kernel_rfl)
theorem YS:BV 144:=BY (by kernel_rfl)
theorem YT:BV 145:=BY (by kernel_rfl)
theorem Ve:BV 146:=BY (by kernel_rfl)
theorem SJ:BV 147:=BY (by kernel_rfl)
theorem HG:BV 148:=BY (by kernel_rfl)
theorem YU:BV 149:=BY (by kernel_rfl)
theorem YV:BV 166:=BY (by kernel_rfl)
theorem SK:BV 167:=BY (by kernel_rfl)
theorem Vf:BV 168:=BY (by kernel_rfl)
theorem HH:BV 182:=BY (by kernel_rfl)
theorem YW:BV 183:=BY (by kernel_rfl)
theorem SL:BV 191:=BY (by kernel_rfl)
theorem PJ:BV 192:=BY (by kernel_rfl)
theorem YX:BV 193:=BY (by kernel_rfl)
theorem Vg:BV 194:=BY (by kernel_rfl)
theorem Vh:BV 197:=BY (by kernel_rfl)
theorem YY:BV 201:=BY (by kernel_rfl)
theorem YZ:BV 202:=BY (by kernel_rfl)
theorem SM:BV 203:=BY (by kernel_rfl)
theorem Vi:BV 204:=BY (by kernel_rfl)
theorem PK:BV 205:=BY (by kernel_rfl)
theorem Z0:BV 208:=BY (by kernel_rfl)
theorem Z1:BV 209:=BY (by kernel_rfl)
theorem Z2:BV 210:=BY (by kernel_rfl)
theorem SN:BV 211:=BY (by kernel_rfl)
theorem Z3:BV 212:=BY (by kernel_rfl)
theorem Vj:BV 213:=BY (by kernel_rfl)
theorem PL:BV 214:=BY (by kernel_rfl)
theorem HI:BV 230:=BY (by kernel_rfl)
theorem Z4:BV 231:=BY (by kernel_rfl)
theorem NK:BV 232:=BY (by kernel_rfl)
theorem Z5:BV 233:=BY (by kernel_rfl)
theorem Vk:BV 234:=BY (by kernel_rfl)
theorem Z6:BV 235:=BY (by kernel_rfl)
theorem Vl:BV 236:=BY (by kernel_rfl)
theorem H6:BV 237:=BY (by kernel_rfl)
theorem Z7:BV 238:=BY (by kernel_rfl)
theorem KJ:BV 239:=BY (by kernel_rfl)
theorem SP:BV 249:=BY (by kernel_rfl)
theorem Jy:BV 250:=BY (by kernel_rfl)
theorem Vm:BV 251:=BY (by kernel_rfl)
theorem SQ:BV 252:=BY (by kernel_rfl)
theorem Z8:BV 267:=BY (by kernel_rfl)
theorem Z9:BV 268:=BY (by kernel_rfl)
theorem Za:BV 271:=BY (by kernel_rfl)
theorem Vn:BV 278:=BY (by kernel_rfl)
theorem SR:BV 279:=BY (by kernel_rfl)
theorem PM:BV 280:=BY (by kernel_rfl)
theorem Vo:BV 281:=BY (by kernel_rfl)
theorem Zb:BV 282:=BY (by kernel_rfl)
theorem Vp:BV 283:=BY (by kernel_rfl)
theorem Vq:BV 284:=BY (by kernel_rfl)
theorem Zc:BV 285:=BY (by kernel_rfl)
theorem Zd:BV 286:=BY (by kernel_rfl)
theorem Ze:BV 287:=BY (by kernel_rfl)
theorem NL:BV 288:=BY (by kernel_rfl)
theorem Zf:BV 289:=BY (by kernel_rfl)
theorem Zg:BV 290:=BY (by kernel_rfl)
theorem Zh:BV 291:=BY (by kernel_rfl)
theorem Zi:BV 292:=BY (by kernel_rfl)
theorem Zj:BV 307:=BY (by kernel_rfl)
theorem AQ:Ce Tryz.prog 2:=by unfold Ce;kernel_rfl
theorem Ll:Ce Tryz.prog 3:=by unfold Ce;kernel_rfl
theorem aX:Ce Tryz.prog 4:=by unfold Ce;kernel_rfl
theorem aY:Ce Tryz.prog 5:=by unfold Ce;kernel_rfl
theorem Ov:Ce Tryz.prog 9:=by unfold Ce;kernel_rfl
theorem PN:Ce Tryz.prog 22:=by unfold Ce;kernel_rfl
theorem C6:Ce Tryz.prog 24:=by unfold Ce;kernel_rfl
theorem Cq:Ce Tryz.prog 27:=by unfold Ce;kernel_rfl
theorem D9:Ce Tryz.prog 30:=by unfold Ce;kernel_rfl
theorem Bc:Ce Tryz.prog 67:=by unfold Ce;kernel_rfl
theorem HJ:Ce Tryz.prog 97:=by unfold Ce;kernel_rfl
theorem Ox:Ce Tryz.prog 103:=by unfold Ce;kernel_rfl
theorem MG:Ce Tryz.prog 194:=by unfold Ce;kernel_rfl
theorem Gy:(Tryz.prog.info? 2).map (·.size)=some 1:=by kernel_rfl
theorem bZ:(Tryz.prog.info? 3).map (·.size)=some 1:=by kernel_rfl
theorem aZ:(Tryz.prog.info? 24).map (·.size)=some 1:=by kernel_rfl
theorem UA:(Tryz.prog.info? 30).map (·.size)=some 1:=by kernel_rfl
theorem SS:(Tryz.prog.info? 67).map (·.size)=some 1:=by kernel_rfl
theorem Vr:(Tryz.prog.info? 194).map (·.size)=some 1:=by kernel_rfl
theorem BL:TI Tryz.prog 2 1 (.int .i64 0) 8:=by unfold TI;kernel_rfl
theorem cA:TI Tryz.prog 5 1 (.int .u8 0) 1:=by unfold TI;kernel_rfl
theorem cB:TI Tryz.prog 9 1 (.string ByteArray.empty) 16:=by unfold TI;kernel_rfl
theorem Cc:TI Tryz.prog 27 1 (.slice none 0 0) 24:=by unfold TI;kernel_rfl
theorem u2:Tryz.prog.underlying 2=some (.int .i64):=by kernel_rfl
theorem u3:Tryz.prog.underlying 3=some (.int .i64):=by kernel_rfl
theorem u4:Tryz.prog.underlying 4=some (.bool):=by kernel_rfl
theorem u5:Tryz.prog.underlying 5=some (.int .u8):=by kernel_rfl
theorem u9:Tryz.prog.underlying 9=some (.string):=by kernel_rfl
theorem Qt:Tryz.prog.underlying 22=some (.slice 5):=by kernel_rfl
theorem Ge:Tryz.prog.underlying 24=some (.slice 76):=by kernel_rfl
theorem Bq:Tryz.prog.underlying 27=some (.slice 2):=by kernel_rfl
theorem Cg:Tryz.prog.underlying 30=some (.slice 137):=by kernel_rfl
theorem DR:Tryz.prog.underlying 35=some (.slice 27):=by kernel_rfl
theorem CQ:Tryz.prog.underlying 67=some (.slice 69):=by kernel_rfl
theorem G7:Tryz.prog.underlying 109=some (.slice 32):=by kernel_rfl
theorem UB:Tryz.prog.underlying 194=some (.int .u64):=by kernel_rfl
theorem XD:Tryz.prog.underlying 198=some (.slice 9):=by kernel_rfl
theorem Cy:EG Tryz.prog 26 1=true:=by kernel_rfl
theorem ST:(Tryz.prog.info? 26).map (·.zero)=some (some (.agg #[.slice none 0 0])):=by kernel_rfl
theorem BD:GJ Tryz.prog 26 0 0=true:=by kernel_rfl
theorem AW:EG Tryz.prog 32 2=true:=by kernel_rfl
theorem Fk:(Tryz.prog.info? 32).map (·.zero)=some (some (.agg #[.int .i64 0,.slice none 0 0])):=by kernel_rfl
theorem E1:TI Tryz.prog 32 2 (.agg #[.int .i64 0,.slice none 0 0]) 32:=by unfold TI;kernel_rfl
theorem SU:GJ Tryz.prog 32 0 0=true:=by kernel_rfl
theorem C0:GJ Tryz.prog 32 1 1=true:=by kernel_rfl
theorem By:EG Tryz.prog 69 5=true:=by kernel_rfl
theorem Lm:(Tryz.prog.info? 69).map (·.zero)=some (some (.agg #[.int .i64 0,.int .i64 0,.int .i64 0,.int .i64 0,.slice none 0 0])):=by kernel_rfl
theorem BA:TI Tryz.prog 69 5 (.agg #[.int .i64 0,.int .i64 0,.int .i64 0,.int .i64 0,.slice none 0 0]) 56:=by unfold TI;kernel_rfl
theorem Bu:GJ Tryz.prog 69 0 0=true:=by kernel_rfl
theorem Cd:GJ Tryz.prog 69 1 1=true:=by kernel_rfl
theorem Ee:GJ Tryz.prog 69 2 2=true:=by kernel_rfl
theorem Ef:GJ Tryz.prog 69 3 3=true:=by kernel_rfl
theorem Bj:GJ Tryz.prog 69 4 4=true:=by kernel_rfl
theorem KK:EG Tryz.prog 76 3=true:=by kernel_rfl
theorem XE:(Tryz.prog.info? 76).map (·.zero)=some (some (.agg #[.string ByteArray.empty,.int .i64 0,.slice none 0 0])):=by kernel_rfl
theorem Cr:TI Tryz.prog 76 3 (.agg #[.string ByteArray.empty,.int .i64 0,.slice none 0 0]) 48:=by unfold TI;kernel_rfl
theorem Jg:GJ Tryz.prog 76 0 0=true:=by kernel_rfl
theorem Co:GJ Tryz.prog 76 1 1=true:=by kernel_rfl
theorem BT:GJ Tryz.prog 76 2 2=true:=by kernel_rfl
theorem UC:GJ Tryz.prog 108 0 0=true:=by kernel_rfl
theorem Hv:GJ Tryz.prog 108 1 1=true:=by kernel_rfl
theorem MH:GJ Tryz.prog 108 2 2=true:=by kernel_rfl
theorem Cz:GJ Tryz.prog 108 3 3=true:=by kernel_rfl
theorem E2:EG Tryz.prog 137 2=true:=by kernel_rfl
theorem B1:TI Tryz.prog 137 2 (.agg #[.slice none 0 0,.int .i64 0]) 32:=by unfold TI;kernel_rfl
theorem EP:GJ Tryz.prog 137 0 0=true:=by kernel_rfl
theorem Gz:GJ Tryz.prog 137 1 1=true:=by kernel_rfl
theorem Ep:GJ Tryz.prog 165 0 0=true:=by kernel_rfl
theorem UD:GJ Tryz.prog 165 1 1=true:=by kernel_rfl
theorem MI:GJ Tryz.prog 165 2 2=true:=by kernel_rfl
theorem UE:GJ Tryz.prog 165 3 3=true:=by kernel_rfl
theorem UF:GJ Tryz.prog 204 0 0=true:=by kernel_rfl
theorem MJ:GJ Tryz.prog 204 1 1=true:=by kernel_rfl
theorem K8:GJ Tryz.prog 204 2 2=true:=by kernel_rfl
theorem GA:GJ Tryz.prog 204 3 3=true:=by kernel_rfl
theorem PO:GJ Tryz.prog 209 0 0=true:=by kernel_rfl
theorem UG:GJ Tryz.prog 209 1 1=true:=by kernel_rfl
theorem K9:GJ Tryz.prog 209 2 2=true:=by kernel_rfl
theorem GB:GJ Tryz.prog 209 3 3=true:=by kernel_rfl
theorem Oy:EG Tryz.prog 256 2=true:=by kernel_rfl
theorem UH:GJ Tryz.prog 256 0 0=true:=by kernel_rfl
theorem UI:GJ Tryz.prog 256 1 1=true:=by kernel_rfl
section
set_option maxHeartbeats 4000000
set_option maxRecDepth 100000
attribute [local irreducible] LW
theorem Bm (w:World)(n:Int)(low:Int)(high:Int)(_hn:BW n)(_hlow:BW low)(_hhigh:BW high)  :
  Calls Tryz.prog 61 #[zI n,zI low,zI high] w (fun e w'=>e=.returned (.bool (decide (low≤n) && decide (n≤high)))∧w'=w):=by
 refine At [zI n,zI low,zI high] 15 Tryz.func61 R R sM ?_;have a0:w=w:=rfl;refine bM R<|bL [0,0,0,0,0,0,0,0,0] R<|Ad 2 R ?_;by_cases a1:low≤n;exact Fl true R R (A5 a1) Aa<|Ad 3 R<|Dd (decide (n≤high)) R R R (bU 10)<|Ac 2 R<|A1<|Ai [6] R (.bool<|decide (n≤high)) R ⟨AR (by simp[*]),a0⟩;exact Fl false R R (A6 a1) Aa<|Ac 6 R<|A1<|Ai [6] R (.bool false) R ⟨AR (by simp[*]),a0⟩
theorem Bv (w:World)(n:Int)(low:Int)(high:Int)(_hn:BW n)(_hlow:BW low)(_hhigh:BW high)  :
  Calls Tryz.prog 57 #[zI n,zI low,zI high] w (fun e w'=>e=.returned (.bool (decide (low≤n) && decide (n≤high)))∧w'=w):=by
 refine At [zI n,zI low,zI high] 15 Tryz.func57 R R sM ?_;have a0:w=w:=rfl;refine bM R<|bL [0,0,0,0,0,0,0,0,0] R<|Ad 2 R ?_;by_cases a1:low≤n;exact Fl true R R (A5 a1) Aa<|Ad 3 R<|Dd (decide (n≤high)) R R R (bU 10)<|Ac 2 R<|A1<|Ai [6] R (.bool<|decide (n≤high)) R ⟨AR (by simp[*]),a0⟩;exact Fl false R R (A6 a1) Aa<|Ac 6 R<|A1<|Ai [6] R (.bool false) R ⟨AR (by simp[*]),a0⟩
theorem Di (w:World)(n:Int)(_hn:BW n)  :
  Calls Tryz.prog 81 #[zI n] w (fun e w'=>e=.returned (zI (md n))∧w'=w):=by
 refine At [zI n] 7 Tryz.func81 R R sM ?_;have a0:w=w:=rfl;exact bM R<|bL [0,0,0,0,0] R<|bO R<|Dr (n.tmod 1000003) R R (by decide) R Aa<|AP (wr ((n.tmod 1000003)+(1000003:Nat))) R R R Aa<|Dr ((wr ((n.tmod 1000003)+(1000003:Nat))).tmod 1000003) R R (by decide) R Aa<|bN R<|A1<|Ai [2] R (zI<|(wr ((n.tmod 1000003)+(1000003:Nat))).tmod 1000003) R ⟨B6<|VO n,a0⟩
theorem Jz (w:World)(a:Int)(b:Int)(_ha:BW a)(_hb:BW b)  :
  Calls Tryz.prog 80 #[zI a,zI b] w (fun e w'=>e=.returned (zI (md (a+b)))∧w'=w):=by
 refine At [zI a,zI b] 11 Tryz.func80 R R sM ?_;have a0:w=w:=rfl;exact bM R<|bL [0,0,0,0,0,0,0] R<|bO R<|AJ 81 [] [] [zI a] R R SI Aa (zI<|md a) (fun wq=>Di wq _ _ha)<|bO R<|AJ 81 [] [] [zI b] R R SI Aa (zI<|md b) (fun wq=>Di wq _ _hb)<|AP (wr ((md a)+(md b))) R R R Aa<|Dr ((wr ((md a)+(md b))).tmod 1000003) R R (by decide) R Aa<|bN R<|A1<|Ai [4] R (zI<|(wr ((md a)+(md b))).tmod 1000003) R ⟨B6<|M7 a b,a0⟩
theorem EQ (w:World)(a:Int)(b:Int)(_ha:BW a)(_hb:BW b)  :
  Calls Tryz.prog 75 #[zI a,zI b] w (fun e w'=>e=.returned (zI (md (a-b)))∧w'=w):=by
 refine At [zI a,zI b] 10 Tryz.func75 R R sM ?_;have a0:w=w:=rfl;exact bM R<|bL [0,0,0,0,0,0] R<|Ad 2 R<|AJ 81 [] [] [zI b] R R SI Aa (zI<|md b) (fun wq=>Di wq _ _hb)<|Cj (wr ((1000003:Nat)-(md b))) R R R Aa<|AJ 80 [] [] [zI a,zI<|wr ((1000003:Nat)-(md b))] R R YJ Aa (zI<|md (a+(wr ((1000003:Nat)-(md b))))) (fun wq=>Jz wq _ _ _ha<|NX _)<|bN R<|A1<|Ai [4] R (zI<|md (a+(wr ((1000003:Nat)-(md b))))) R ⟨B6<|QH a b,a0⟩
theorem XF (n:Int)(h:n.tmod 1000003<((0:Nat):Int)):wr (n.tmod 1000003+((1000003:Nat):Int))=md n:=by have h1:=C3 n;have h2:=EZ n;have h3:=C3 (-n);have h4:=EZ (-n);rw[tm n]at h ⊢;split at h;omega;rename_i h0;rw[if_neg h0,FU zO (by omega)];have e1:md (-(md (-n))+((1000003:Nat):Int))=md (-(md (-n))):=QG _;rw[O1,Int.neg_neg,Is zO (by omega)]at e1;exact e1
theorem XG (n:Int)(h:¬n.tmod 1000003<((0:Nat):Int)):n.tmod 1000003=md n:=by
  have h1:=C3 n;have h2:=EZ n;have h3:=C3 (-n);have h4:=EZ (-n);rw[tm n]at h ⊢;split;rfl;rename_i h0;rw[if_neg h0]at h;have e0:md (-n)=0:=by omega
  have e1:=O1 (-n);rw[e0,Int.neg_neg]at e1;rw[e0,← e1];rfl
theorem SW {p:Prop}(h:p:=by first|exact B6 (XF n (by assumption))|exact B6 (XG n (by assumption))):p:=h
theorem BP (w:World)(n:Int)(_hn:BW n)  :
  Calls Tryz.prog 148 #[zI n] w (fun e w'=>e=.returned (zI (md n))∧w'=w):=by
 refine At [zI n] 11 Tryz.func148 R R sM ?_;have a0:w=w:=rfl;refine bM R<|bL [0,0,0] R<|bO R<|Dr (n.tmod 1000003) R R (by decide) R Aa<|bN R<|A0<|bL [0,0] R<|bO R ?_;by_cases a1:n.tmod 1000003<((0:Nat):Int);exact AE true R R (A5 a1) Aa<|Af<|Ae R<|Ab _ [0,0,0] R<|bO R<|AP (wr ((n.tmod 1000003)+(1000003:Nat))) R R R Aa<|bN R<|bL [0,0] R<|Ac 2 R<|A1<|Ai [2] R (zI<|wr ((n.tmod 1000003)+(1000003:Nat))) R ⟨SW,a0⟩;exact AE false R R (A6 a1) Aa<|Af<|Ag R<|A2<|bL [0,0] R<|Ac 2 R<|A1<|Ai [2] R (zI<|n.tmod 1000003) R ⟨SW,a0⟩
theorem H7 (w:World)(a:Int)(b:Int)(_ha:BW a)(_hb:BW b)  :
  Calls Tryz.prog 70 #[zI a,zI b] w (fun e w'=>e=.returned (zI (md (a+b)))∧w'=w):=by
 refine At [zI a,zI b] 11 Tryz.func70 R R sM ?_;have a0:w=w:=rfl;exact bM R<|bL [0,0,0,0,0,0,0] R<|bO R<|AJ 148 [] [] [zI a] R R HG Aa (zI<|md a) (fun wq=>BP wq _ _ha)<|bO R<|AJ 148 [] [] [zI b] R R HG Aa (zI<|md b) (fun wq=>BP wq _ _hb)<|AP (wr ((md a)+(md b))) R R R Aa<|Dr ((wr ((md a)+(md b))).tmod 1000003) R R (by decide) R Aa<|bN R<|A1<|Ai [4] R (zI<|(wr ((md a)+(md b))).tmod 1000003) R ⟨B6<|M7 a b,a0⟩
theorem CU (w:World)(a:Int)(b:Int)(_ha:BW a)(_hb:BW b)  :
  Calls Tryz.prog 182 #[zI a,zI b] w (fun e w'=>e=.returned (zI (md (a*b)))∧w'=w):=by
 refine At [zI a,zI b] 11 Tryz.func182 R R sM ?_;have a0:w=w:=rfl;exact bM R<|bL [0,0,0,0,0,0,0] R<|bO R<|AJ 148 [] [] [zI a] R R HG Aa (zI<|md a) (fun wq=>BP wq _ _ha)<|bO R<|AJ 148 [] [] [zI b] R R HG Aa (zI<|md b) (fun wq=>BP wq _ _hb)<|DU (wr ((md a)*(md b))) R R R Aa<|Dr ((wr ((md a)*(md b))).tmod 1000003) R R (by decide) R Aa<|bN R<|A1<|Ai [4] R (zI<|(wr ((md a)*(md b))).tmod 1000003) R ⟨B6<|N1 a b,a0⟩
theorem JG (w:World)(a:Int)(b:Int)(_ha:BW a)(_hb:BW b)(hs:-9223372036854775808≤a-b∧a-b≤9223372036854775807) :
  Calls Tryz.prog 307 #[zI a,zI b] w (fun e w'=>e=.returned (zI (md (a-b)))∧w'=w):=by
 refine At [zI a,zI b] 9 Tryz.func307 R R sM ?_;have a0:w=w:=rfl;exact bM R<|bL [0,0,0,0,0] R<|Ad 2 R<|Cj (wr (a-b)) R R R Aa<|AJ 148 [] [] [zI<|wr (a-b)] R R HG Aa (zI<|md<|wr (a-b)) (fun wq=>BP wq _<|NX _)<|bN R<|A1<|Ai [4] R (zI<|md<|wr (a-b)) R ⟨B6 (by rw[FU hs.1 hs.2]),a0⟩
theorem MK {p:Prop}(h:p:=by exact⟨zO,by first|exact VR hI.2 oM (by assumption)|exact Tu hI.2 oM (by assumption)⟩):p:=h
theorem ML (w:World)(a:Int)(n:Int)(_ha:BW a)(_hn:BW n)  :
  Calls Tryz.prog 183 #[zI a,zI n] w (fun e w'=>e=.returned (zI (pw a n))∧w'=w):=by
 refine At [zI a,zI n] 25 Tryz.func183 R R sM ?_;have a0:w=w:=rfl;refine bM R<|A0<|bL [0,0] R<|bO R ?_;by_cases a2:n<(0:Nat);exact AE true R R (A5 a2) Aa<|Af<|Ae R<|bM R<|A1<|Ak<|Ai [4] R (zI (0:Nat)) R ⟨B6<|QK zV,a0⟩;refine AE false R R (A6 a2) Aa<|Af<|Ag R<|A2<|bM R<|bL [0,0,0] R<|bO R<|AJ 148 [] [] [zI a] R R HG Aa (zI<|md a) (fun wq=>BP wq _ _ha)<|bN R<|A0<|A3 ?_;refine AV (S:=Int×Int×Int) (fun⟨m,x,b⟩=>([(1,zI m),(5,zI x),(6,zI b)])) (fun⟨m,x,b⟩ W=>W=w∧(0≤m∧md (x*b ^ m.toNat)=md (a ^ n.toNat))∧m≤9223372036854775807∧(0≤x∧x<1000003)∧(0≤b∧b<1000003)) (fun⟨m,x,b⟩=>m.toNat) (n,(1:Nat),md a) ⟨rfl,rfl,rfl,trivial⟩ ⟨a0,(by exact⟨zO,N2 a n.toNat⟩),oM,oM,(by exact BN _)⟩ ?_;clear a0;rintro⟨m,x,b⟩ ρ3 w3 ⟨a1,hI,hm,hx,hb⟩;refine A0<|bL [0,0] R<|bO R ?_;by_cases a3:(0:Nat)<m;refine BG true R R (A5 a3) Aa<|Af<|Ae R<|A2<|A3<|A0<|bL [0,0,0] R<|bO R<|Dr (m % 2) R R (by decide) (bP hI.1) Aa ?_;by_cases a4:m % 2=((1:Nat):Int);refine Ap true R R (A5 a4) Aa<|Af<|Ae R<|Ab _ [0,0,0,0] R<|Ad 2 R<|AJ 182 [] [] [zI x,zI b] R R HH Aa (zI<|md (x*b)) (fun wq=>CU wq _ _ oM oM)<|bN R<|bL [0,0,0,0] R<|Ad 2 R<|AJ 182 [] [] [zI b,zI b] R R HH Aa (zI<|md (b*b)) (fun wq=>CU wq _ _ oM oM)<|bN R<|Ab _ [0,0,0] R<|bO R<|OL (m / 2) R R (by decide) (ZC hI.1 hm) Aa<|bN R ?_;exact⟨(m / 2,md (x*b),md (b*b)),_,rfl,zR,⟨a1,MK,oM,(by first|exact hx|exact BN _),(by exact BN _)⟩,zD⟩;exact Ap false R R (A6 a4) Aa<|Af<|Ag R<|A2<|bL [0,0,0,0] R<|Ad 2 R<|AJ 182 [] [] [zI b,zI b] R R HH Aa (zI<|md (b*b)) (fun wq=>CU wq _ _ oM oM)<|bN R<|Ab _ [0,0,0] R<|bO R<|OL (m / 2) R R (by decide) (ZC hI.1 hm) Aa<|bN R ⟨(m / 2,x,md (b*b)),_,rfl,zR,⟨a1,MK,oM,(by first|exact hx|exact BN _),(by exact BN _)⟩,zD⟩;exact BG false R R (A6 a3) Aa<|Af<|Ag R<|A4<|As<|As<|Am<|bL [0,0] R<|Ac 2 R<|A1<|Ai [4] R (zI x) R ⟨B6<|QJ hI.2 hI.1 zV zV hx,a1⟩
theorem MM (w:World)(a:Int)(n:Int)(_ha:BW a)(_hn:BW n)  :
  Calls Tryz.prog 149 #[zI a,zI n] w (fun e w'=>e=.returned (zI (pw a n))∧w'=w):=by
 refine At [zI a,zI n] 27 Tryz.func149 R R sM ?_;have a0:w=w:=rfl;refine bM R<|A0<|bL [0,0] R<|bO R ?_;by_cases a2:n<(0:Nat);exact AE true R R (A5 a2) Aa<|Af<|Ae R<|bM R<|A1<|Ak<|Ai [4] R (zI (0:Nat)) R ⟨B6<|QK zV,a0⟩;refine AE false R R (A6 a2) Aa<|Af<|Ag R<|A2<|bM R<|A0<|bL [0,0,0] R<|bO R<|AJ 81 [] [] [zI a] R R SI Aa (zI<|md a) (fun wq=>Di wq _ _ha)<|bN R<|A3 ?_;refine AV (S:=Int×Int×Int) (fun⟨m,x,b⟩=>([(1,zI m),(5,zI x),(6,zI b)])) (fun⟨m,x,b⟩ W=>W=w∧(0≤m∧md (x*b ^ m.toNat)=md (a ^ n.toNat))∧m≤9223372036854775807∧(0≤x∧x<1000003)∧(0≤b∧b<1000003)) (fun⟨m,x,b⟩=>m.toNat) (n,(1:Nat),md a) ⟨rfl,rfl,rfl,trivial⟩ ⟨a0,(by exact⟨zO,N2 a n.toNat⟩),oM,oM,(by exact BN _)⟩ ?_;clear a0;rintro⟨m,x,b⟩ ρ3 w3 ⟨a1,hI,hm,hx,hb⟩;refine A0<|bL [0,0] R<|bO R ?_;by_cases a3:(0:Nat)<m;refine BG true R R (A5 a3) Aa<|Af<|Ae R<|A2<|A0<|A3<|A0<|bL [0,0,0] R<|bO R<|Dr (m % 2) R R (by decide) (bP hI.1) Aa ?_;by_cases a4:m % 2=((1:Nat):Int);refine Ap true R R (A5 a4) Aa<|Af<|Ae R<|Ab _ [0,0,0,0,0] R<|Ad 2 R<|DU (wr (x*b)) R R R Aa<|Dr (md (x*b)) R R (by decide) (N3 hx hb) Aa<|bN R<|Ab _ [0,0,0,0,0] R<|Ad 2 R<|DU (wr (b*b)) R R R Aa<|Dr (md (b*b)) R R (by decide) (N3 hb hb) Aa<|bN R<|Ab _ [0,0,0] R<|bO R<|OL (m / 2) R R (by decide) (ZC hI.1 hm) Aa<|bN R ?_;exact⟨(m / 2,md (x*b),md (b*b)),_,rfl,zR,⟨a1,MK,oM,(by first|exact hx|exact BN _),(by exact BN _)⟩,zD⟩;exact Ap false R R (A6 a4) Aa<|Af<|Ag R<|A2<|Ab _ [0,0,0,0,0] R<|Ad 2 R<|DU (wr (b*b)) R R R Aa<|Dr (md (b*b)) R R (by decide) (N3 hb hb) Aa<|bN R<|Ab _ [0,0,0] R<|bO R<|OL (m / 2) R R (by decide) (ZC hI.1 hm) Aa<|bN R ⟨(m / 2,x,md (b*b)),_,rfl,zR,⟨a1,MK,oM,(by first|exact hx|exact BN _),(by exact BN _)⟩,zD⟩;exact BG false R R (A6 a3) Aa<|Af<|Ag R<|A4<|As<|As<|Am<|bL [0,0] R<|Ac 2 R<|A1<|Ai [4] R (zI x) R ⟨B6<|QJ hI.2 hI.1 zV zV hx,a1⟩
theorem FI (w:World)(a:Int)(_ha:BW a)  :
  Calls Tryz.prog 279 #[zI a] w (fun e w'=>e=.returned (zI (ER a))∧w'=w):=by
 refine At [zI a] 5 Tryz.func279 R R sM ?_;have a0:w=w:=rfl;exact bM R<|bL [0,0,0] R<|bO R<|AJ 183 [] [] [zI a,zI ((1000001:Nat):Int)] R R YW Aa (zI<|pw a (1000001:Nat)) (fun wq=>ML wq _ _ _ha oM)<|bN R<|A1<|Ai [2] R (zI<|pw a (1000001:Nat)) R ⟨rfl,a0⟩
theorem H8 (w:World)(a:Int)(_ha:BW a)  :
  Calls Tryz.prog 76 #[zI a] w (fun e w'=>e=.returned (zI (ER a))∧w'=w):=by
 refine At [zI a] 5 Tryz.func76 R R sM ?_;have a0:w=w:=rfl;exact bM R<|bL [0,0,0] R<|bO R<|AJ 149 [] [] [zI a,zI ((1000001:Nat):Int)] R R YU Aa (zI<|pw a (1000001:Nat)) (fun wq=>MM wq _ _ _ha oM)<|bN R<|A1<|Ai [2] R (zI<|pw a (1000001:Nat)) R ⟨rfl,a0⟩
theorem GL (w:World)(n:Int)(_hn:BW n)  :
  Calls Tryz.prog 146 #[zI n] w (fun e w'=>e=.returned (.bool (Io n))∧w'=w):=by
 refine At [zI n] 5 Tryz.func146 R R sM ?_;have a0:w=w:=rfl;exact bM R<|bL [0,0,0] R<|bO R<|AJ 61 [] [] [zI n,zI (0:Nat),zI ((1000002:Nat):Int)] R R I8 Aa (.bool (decide ((0:Nat)≤n) && decide (n≤(1000002:Nat)))) (fun wq=>Bm wq _ _ _ _hn oM oM)<|bN R<|A1<|Ai [2] R (.bool (decide ((0:Nat)≤n) && decide (n≤(1000002:Nat)))) R ⟨AR (by unfold Io;rfl),a0⟩
theorem G8 (w:World)(n:Int)(_hn:BW n)  :
  Calls Tryz.prog 236 #[zI n] w (fun e w'=>e=.returned (.bool (Io n))∧w'=w):=by
 refine At [zI n] 5 Tryz.func236 R R sM ?_;have a0:w=w:=rfl;exact bM R<|bL [0,0,0] R<|bO R<|AJ 57 [] [] [zI n,zI (0:Nat),zI ((1000002:Nat):Int)] R R I7 Aa (.bool (decide ((0:Nat)≤n) && decide (n≤(1000002:Nat)))) (fun wq=>Bv wq _ _ _ _hn oM oM)<|bN R<|A1<|Ai [2] R (.bool (decide ((0:Nat)≤n) && decide (n≤(1000002:Nat)))) R ⟨AR (by unfold Io;rfl),a0⟩
theorem Hy (w:World)(n:Int)(_hn:BW n)  :
  Calls Tryz.prog 145 #[zI n] w (fun e w'=>e=.returned (.bool (!Io n))∧AK w w'):=by
 refine At [zI n] 6 Tryz.func145 R R sM ?_;have a0:AK w w:=AK.refl w;exact bM R<|bL [0,0,0,0] R<|bO R<|AJ 146 [] [] [zI n] R R Ve Aa (.bool<|Io n) (fun wq=>GL wq _ _hn)<|BE (!(Io n)) R R Aa<|bN R<|A1<|Ai [2] R (.bool (!(Io n))) R ⟨rfl,a0⟩
def Qu {α:Type}(p:α→Bool)(l:List α):Int:=if l.any p then((l.findIdx p:Nat):Int)else -1
theorem SX {α:Type}{p:α→Bool}{l:List α}{k:Nat}(d:α)(h:∀j,j<k→p (l.getD j d)=false)(hk:k<l.length)(hp:p (l.getD k d)=true):((k:Nat):Int)=Qu p l:=by
  have e:∀j,(hj:j<l.length)→l.getD j d=l[j]:=fun j hj=>by simp[hj]
  have h1:l.any p=true:=List.any_eq_true.2 ⟨l[k],List.getElem_mem hk,by rw[← e k hk];exact hp⟩;have h2:l.findIdx p=k:=by
    rw[List.findIdx_eq hk];refine⟨by rw[← e k hk];exact hp,fun j hj=>?_⟩;have:=h j hj;rw[e j (by omega)]at this;exact this
  unfold Qu;rw[if_pos h1,h2]
theorem Vs {α:Type}{p:α→Bool}{l:List α}{k:Nat}(d:α)(h:∀j,j<k→p (l.getD j d)=false)(hk:l.length≤k):(-1:Int)=Qu p l:=by
  have h1:l.any p=false:=by
    rw[List.any_eq_false]
    intro x hx;obtain⟨j,hj,rfl⟩:=List.getElem_of_mem hx;have:=h j zO;have e:l.getD j d=l[j]:=by simp[hj]
    rw[e]at this;simp[this]
  unfold Qu;rw[h1];rfl
theorem Vt {α:Type}(p:α→Bool)(l:List α):decide (((0:Nat):Int)≤Qu p l)=l.any p:=by unfold Qu;split;rename_i h;rw[h];exact A5 zO;rename_i h;rw[Bool.not_eq_true]at h;rw[h];exact A6 zO
theorem PP {α:Type}{p:α→Bool}{l:List α}{k:Nat}{d:α}(h:∀j,j<k→p (l.getD j d)=false)(hp:p (l.getD k d)=false):∀j,j<k+1→p (l.getD j d)=false:=by intro j hj;by_cases e:j=k;subst e;exact hp;exact h j zO
theorem DQ (w:World) (va:Value) (a:Sr) (q:Nat) (qf qc:List Value) (p:Int→Bool) (ha:Rd (Bg rI) w.heap va a) (hcf_q:((Tryz.prog.funcs[q]?).map fun fn=>(fn.name != "runtime.NumGoroutine") && fn.body.isSome) = some true) (hp:∀ (x:Int),BW x→∀ w1,AK w w1→Calls Tryz.prog q (qf++[Value.int .i64 x]++qc).toArray w1 (fun e w2=>e = .returned (.bool (p x))∧AK w1 w2))  :
  Calls Tryz.prog 238 #[va,.func (.func q) qf.toArray qc.toArray] w (fun e w'=>e = .returned (zI (Qu p a))∧AK w w'):=by
 refine At [va,.func (.func q) qf.toArray qc.toArray] 19 Tryz.func238 R R sM ?_;have a3:AK w w:=AK.refl w;have aa:=ha.lenle;refine bM R<|A0<|bL [0,0,0] R<|bO R<|AU (v:=va) Bq R ha.isSl Aa<|bN R<|A3 ?_;refine AV (S:=Nat) (fun k=>([(8,zI ((k :Nat):Int)),(0,va),(1,.func (.func q) qf.toArray qc.toArray),(7,zI ((a.length :Nat):Int))])) (fun k W=>AK w W∧k≤a.length∧(∀ j,j < k→p (a.getD j 0) = false)) (fun k=>a.length - k) 0 ⟨rfl,rfl,rfl,rfl,trivial⟩ ⟨a3,sD,(by intro j hj; omega)⟩ ?_;clear a3;rintro k ρ1 w1 ⟨a1,a4,hq⟩;have a7:w.heap.size≤w1.heap.size:=a1.size;refine bL [0] R ?_;by_cases a5:((k :Nat):Int) < ((a.length :Nat):Int);refine AE true R R (A5 a5) Aa<|Af<|A0<|Ae R<|A2<|A0<|A3<|bL [0,0] R<|Ac 2 R<|bL [0,0,0,0,2,3] R<|Ad 3 R<|AF (v:=va) k Bq BL R R ha.isSl R sD Aa ?_;refine Aj (p:=AD va k 1) (.inr R) (zI<|a.getD k 0) AQ R (Bf a1 (ha.getI sD).1) Aa ?_;have a0:=hp (a.getD k 0) (ha.getI sD).2 _ a1;refine AB q qf qc _ R R hcf_q Aa a0 ?_;rintro e3 w3 ⟨rfl,a2⟩;refine ⟨_,rfl,a2,?_⟩;have a8:=a2.size;have a6:=a1.trans a2;cases a9:p (a.getD k 0);refine Af<|Ag R<|A2<|Ab _ [0,0] R<|AP ((k + 1 :Nat):Int) R R (Ba oM sD) Aa<|bN R ?_;exact ⟨k + 1,_,rfl,zR,⟨a6,sD,(by exact PP hq zV)⟩,by first | omega | (dsimp only; omega)⟩;exact Af<|Ae R<|bL [0,0] R<|Ac 2 R<|A1<|AO<|Ak<|Ak<|AO<|Ak<|Ai [4] R (zI ((k :Nat):Int)) R ⟨B6<|SX 0 hq oM zV,a6⟩;exact AE false R R (A6 a5) Aa<|Af<|A0<|Ag R<|A4<|As<|As<|Am<|bM R<|A1<|Ai [4] R (zI (-1)) R ⟨B6<|Vs 0 hq oM,a1⟩
theorem Dv (w:World) (va:Value) (a:Sr) (q:Nat) (qf qc:List Value) (p:Int→Bool) (ha:Rd (Bg rI) w.heap va a) (hcf_q:((Tryz.prog.funcs[q]?).map fun fn=>(fn.name != "runtime.NumGoroutine") && fn.body.isSome) = some true) (hp:∀ (x:Int),BW x→∀ w1,AK w w1→Calls Tryz.prog q (qf++[Value.int .i64 x]++qc).toArray w1 (fun e w2=>e = .returned (.bool (p x))∧AK w1 w2))  :
  Calls Tryz.prog 144 #[va,.func (.func q) qf.toArray qc.toArray] w (fun e w'=>e = .returned (.bool (a.any p))∧AK w w'):=by
 refine At [va,.func (.func q) qf.toArray qc.toArray] 9 Tryz.func144 R R sM ?_;have a0:AK w w:=AK.refl w;have a4:=ha.lenle;refine bM R<|bL [0,0,3,0,0] R<|Ad 2 R<|AB 238 [] [] [va,.func (.func q) qf.toArray qc.toArray] R R Z7 Aa (DQ _ _ _ q qf qc p (ha.ext g1 a0) hcf_q fun x hx w1 hw=>hp x hx w1<|a0.trans hw) ?_;rintro e1 w1 ⟨rfl,a1⟩;refine ⟨_,rfl,a1,?_⟩;have a2:=a1.size;have a3:=a0.trans a1;exact Fl (decide (((0 :Nat):Int)≤Qu p a)) R R R Aa<|bN R<|A1<|Ai [4] R (.bool<|decide (((0 :Nat):Int)≤Qu p a)) R ⟨AR<|Vt p a,a3⟩
theorem CR (w:World)(va:Value)(a:Sr)(ha:Rd (Bg rI) w.heap va a)(hla:a.length≤1000000000000) :
  Calls Tryz.prog 72 #[va] w (fun e w'=>∃v0:Value,e=.returned (v0)∧AK w w'∧Fr (Bz rI 2) w.heap.size w'.heap.size w'.heap v0 a):=by
 refine At [va] 8 Tryz.func72 R R sM ?_;have a1:AK w w:=AK.refl w;have ac:=ha.lenle;refine bM R<|A0<|bL [0,0] R<|bO R ?_;cases a2:O0 va;refine QF (v:=va) false Bq R R ha.isSl a2 Aa<|Af<|Ag R<|A2<|bL [3,0,4,0] R (CY (rI) Bi Bq BL Aa fun v2 w2 a3 ab a5=>?_);have a6:=a3.size;have a0:=a1.trans a3;refine bO R (DV (v:=v2) (a:=va) Bq BL R R R a5 a0.size (ha.ext g1 a0) sD (by unfold maxLen;first|omega|assumption|(simp;done)|(simp;omega)) Aa fun v3 w3 F3 a4 a7 a8=>?_);have a9:AK w w3:=a4.below a0 (fun c hc=>A8 (A7 _) (a7 c hc).1) a0.size;have aa:=a4.size;exact bN R<|A1<|Ai [2] R v3 R ⟨v3,rfl,a9,a8.up o1⟩;refine QF (v:=va) true Bq R R ha.isSl a2 Aa<|Af<|Ae R<|bM R<|A1<|Ak ?_;have hnil:a=[]:=ha.nil_of zV;subst hnil;exact Ai [2] R zN R ⟨zN,rfl,a1,Kd _ _ _⟩
theorem Da (w:World)(va:Value)(a:Sr)(count:Int)(ha:Rd (Bg rI) w.heap va a)(_hcount:BW count)  :
  Calls Tryz.prog 66 #[va,zI count] w (fun e w'=>e=.returned (.bool (decide ((a.length:Int)=count) && Bd a))∧AK w w'):=by
 refine At [va,zI count] 14 Tryz.func66 R R sM ?_;have a0:AK w w:=AK.refl w;have a5:=ha.lenle;refine bM R<|bL [0,0,0,0,0,0,3,0,0,0] R<|bO R<|AU (v:=va) Bq R ha.isSl Aa<|bO R ?_;by_cases a2:(a.length:Int)=count;refine Ap true R R (A5 a2) Aa<|Ad 2 R<|AB 144 [] [] [va,.func (.func 145) #[] #[]] R R YS (bU 9) (Dv _ _ _ 145 [] [] (fun x=>!Io x) (ha.ext g1 a0) YT fun x hx w1 hw=>Hy w1 x hx) ?_;rintro e2 w2 ⟨rfl,a1⟩;refine⟨_,rfl,a1,?_⟩;have a3:=a1.size;have a4:=a0.trans a1;exact BE (!(a.any fun x=>!Io x)) R R (bU 9)<|Ac 2 R<|A1<|Ai [4] R (.bool (!(a.any fun x=>!Io x))) R ⟨AR (by first|(rw[OQ];simp[*];done)|simp[*]),a4⟩;exact Ap false R R (A6 a2) Aa<|Ac 6 R<|A1<|Ai [4] R (.bool false) R ⟨AR (by first|(rw[OQ];simp[*];done)|simp[*]),a0⟩
theorem IR (w:World)(va:Value)(a:Sr)(ha:Rd (Bg rI) w.heap va a)  :
  Calls Tryz.prog 142 #[va] w (fun e w'=>e=.returned (.bool (Bd a))∧AK w w'):=by
 refine At [va] 16 Tryz.func142 R R sM ?_;have a1:AK w w:=AK.refl w;have a6:=ha.lenle;refine bM R<|A0<|bM R<|A3<|AV (S:=Nat) (fun k=>([(3,zI (k:Int)),(0,va)])) (fun k W=>AK w W∧k≤a.length∧((a.take k).all Io=true)) (fun k=>a.length-k) 0 ⟨rfl,rfl,trivial⟩ ⟨a1,sD,(by exact QL _ _)⟩ ?_;clear a1;rintro k ρ1 w1 ⟨a0,a2,hq⟩;have a5:w.heap.size≤w1.heap.size:=a0.size;refine A0<|bL [0,0,0,0] R<|Ad 2 R<|AU (v:=va) Bq R ha.isSl Aa ?_;by_cases a3:(k:Int)<(a.length:Int);refine AE true R R (A5 a3) Aa<|Af<|Ae R<|A2<|A0<|A3<|bL [0,0,0,2,0,0] R<|Ad 2 R<|AF (v:=va) k Bq BL R R ha.isSl R sD Aa ?_;refine Aj (p:=AD va k 1) (.inr R) (zI<|a.getD k 0) AQ R (Bf a0 (ha.getI sD).1) Aa ?_;refine AJ 236 [] [] [zI<|a.getD k 0] R R Vl Aa (.bool<|Io<|a.getD k 0) (fun wq=>G8 wq _ (ha.getI sD).2)<|BE (!(Io<|a.getD k 0)) R R Aa<|Af ?_;cases a4:(!(Io (a.getD k 0)));refine Ag (by first|rfl|exact zW a4)<|A2<|Ab _ [0,0,0] R<|bO R<|AP ((k+1:Nat):Int) R R (Ba oM sD) Aa<|bN R ?_;exact⟨k+1,_,rfl,⟨rfl,rfl,trivial⟩,⟨a0,sD,(by exact QM 0 hq oM (by simpa using ‹(!Io (a.getD k 0))=false›))⟩,zD⟩;exact Ae (by first|rfl|exact zW a4)<|bM R<|A1<|AO<|Ak<|Ak<|AO<|Ak<|Ai [2] R (.bool false) R ⟨AR (QN (k:=k) 0 oM (by simpa using ‹(!Io (a.getD k 0))=true›)).symm,a0⟩;exact AE false R R (A6 a3) Aa<|Af<|Ag R<|A4<|As<|As<|Am<|bM R<|A1<|Ai [2] R (.bool true) R ⟨AR (QP hq oM).symm,a0⟩
theorem Ck (w:World)(va:Value)(a:Sr)(ha:Rd (Bg rI) w.heap va a)(hla:a.length≤1000000000000) :
  Calls Tryz.prog 250 #[va] w (fun e w'=>∃v0:Value,e=.returned (v0)∧AK w w'∧Fr (Bz rI 2) w.heap.size w'.heap.size w'.heap v0 a):=by
 refine At [va] 6 Tryz.func250 R R sM ?_;have a3:AK w w:=AK.refl w;have ab:=ha.lenle;refine bM R<|bL [3,0,4,0] R (CY (rI) Bi Bq BL Aa fun v1 w1 a1 aa a4=>?_);have a5:=a1.size;have a0:=a3.trans a1;refine bO R (DV (v:=v1) (a:=va) Bq BL R R R a4 a0.size (ha.ext g1 a0) sD (by unfold maxLen;first|omega|assumption|(simp;done)|(simp;omega)) Aa fun v2 w2 F2 a2 a6 a7=>?_);have a8:AK w w2:=a2.below a0 (fun c hc=>A8 (A7 _) (a6 c hc).1) a0.size;have a9:=a2.size;exact bN R<|A1<|Ai [2] R v2 R ⟨v2,rfl,a8,a7.up o1⟩
theorem GM (w:World)(va:Value)(a:Sr)(y:Int)(ha:Rd (Bg rI) w.heap va a)(_hy:BW y)(hla:a.length≤1000000000000) :
  Calls Tryz.prog 281 #[va,zI y] w (fun e w'=>∃v0:Value,e=.returned (v0)∧AK w w'∧Fr (Bz rI 2) w.heap.size w'.heap.size w'.heap v0 (XP a y)):=by
 refine At [va,zI y] 24 Tryz.func281 R R sM ?_;have a7:AK w w:=AK.refl w;have am:=ha.lenle;refine bM R<|bL [3,0] R (CY (rI) Bi Bq BL Aa fun v1 w1 a3 ad a8=>?_);have a4:=a3.size;have a9:=a7.trans a3;refine bN R<|A0<|bM R<|A3 ?_;refine AV (S:=Nat×Value) (fun⟨k,vo⟩=>([(5,vo),(6,zI (k:Int)),(0,va),(1,zI y)])) (fun⟨k,vo⟩ W=>AK w W∧Fr (Bz rI 2) w.heap.size W.heap.size W.heap vo ((a.take k).map fun x=>md (x*y))∧k≤a.length) (fun⟨k,vo⟩=>a.length-k) (0,v1) ⟨rfl,rfl,rfl,rfl,trivial⟩ ⟨a9,a8.up o1,sD⟩ ?_;clear a7 a8 ad a3 a4 a9;rintro⟨k,vo⟩ ρ2 w2 ⟨a2,a1,aa⟩;have ae:w.heap.size≤w2.heap.size:=a2.size;refine A0<|bL [0,0,0,0] R<|Ad 2 R<|AU (v:=va) Bq R ha.isSl Aa ?_;by_cases ab:(k:Int)<(a.length:Int);refine AE true R R (A5 ab) Aa<|Af<|Ae R<|A2<|A0<|A3<|Ab _ [0,0,0,0,2,0,0,3,4,0] R<|Ad 3 R<|AF (v:=va) k Bq BL R R ha.isSl R sD Aa ?_;refine Aj (p:=AD va k 1) (.inr R) (zI<|a.getD k 0) AQ R (Bf a2 (ha.getI sD).1) Aa<|bO R ?_;refine AJ 182 [] [] [zI<|a.getD k 0,zI y] R R HH Aa (zI<|md ((a.getD k 0)*y)) (fun wq=>CU wq _ _ (ha.getI sD).2 _hy) (CH (u:=zI<|md ((a.getD k 0)*y)) (B:=w2.heap.size) Bi Bq BL R R (NY w2.heap.size w2.heap.size _ _<|CA _) (A7 _) Aa fun v5 w5 a5 al af=>?_);have ag:=a5.size;have a6:=a2.trans a5;have a0:=a1.ext (o1) a5;refine DV (v:=vo) (a:=v5) Bq BL R R R a0 a6.size af.rd1 sD (by unfold maxLen;first|omega|assumption|(simp;done)|(simp;omega)) Aa fun v6 w6 F6 ac ah ai=>?_;have aj:AK w w6:=ac.below a6 (fun c hc=>A8 (A7 _) (ah c hc).1) a6.size;have ak:=ac.size;refine bN R<|Ab _ [0,0,0] R<|bO R<|AP ((k+1:Nat):Int) R R (Ba oM sD) Aa<|bN R ?_;exact⟨(k+1,v6),_,rfl,zR,⟨aj,(by rw[FV 0 oM];exact ai.up o1),sD⟩,zD⟩;exact AE false R R (A6 ab) Aa<|Af<|Ag R<|A4<|As<|As<|Am<|bL [0,0] R<|Ac 2 R<|A1<|Ai [4] R vo R ⟨vo,rfl,a2,(by have h:=a1.up o1;rwa [za oM]at h)⟩
theorem Er (w:World)(va:Value)(a:Sr)(y:Int)(ha:Rd (Bg rI) w.heap va a)(_hy:BW y)(hla:a.length≤1000000000000)(hqa:Bd a=true)(hy:0≤y∧y<1000003) :
  Calls Tryz.prog 74 #[va,zI y] w (fun e w'=>∃v0:Value,e=.returned (v0)∧AK w w'∧Fr (Bz rI 2) w.heap.size w'.heap.size w'.heap v0 (DG a y)):=by
 refine At [va,zI y] 27 Tryz.func74 R R sM ?_;have a4:AK w w:=AK.refl w;have ah:=ha.lenle;refine bM R<|bL [0,0,3,0] R<|bO R<|AU (v:=va) Bq R ha.isSl Aa (EY (n:=a.length) Bq BL R R R sD Aa fun v1 w1 a2 aa a5=>?_);have a3:=a2.size;have a6:=a4.trans a2;refine bN R<|A0<|bL [0,0,0] R<|bO R<|AU (v:=va) Bq R ha.isSl Aa<|bN R<|A3 ?_;refine AV (S:=Nat) (fun k=>([(12,zI (k:Int)),(0,va),(1,zI y),(5,v1),(11,zI (a.length:Int))])) (fun k W=>AK w W∧Fr (Bz rI 2) w.heap.size W.heap.size W.heap v1 (Fp k (DG a y)<|List.replicate a.length 0)∧k≤a.length) (fun k=>a.length-k) 0 ⟨rfl,rfl,rfl,rfl,rfl,trivial⟩ ⟨a6,(by rw[GW];exact a5.up o1),sD⟩ ?_;clear a4 a5 aa a2 a3 a6;rintro k ρ2 w2 ⟨a1,a0,a7⟩;have ab:w.heap.size≤w2.heap.size:=a1.size;have hml:=Gh k (DG a y) (List.replicate a.length 0) sM;rw[z5]at hml;have hga:=Br hqa k;refine bL [0] R ?_;by_cases a8:(k:Int)<(a.length:Int);refine AE true R R (A5 a8) Aa<|Af<|A0<|Ae R<|A2<|A0<|A3<|bL [0,0] R<|Ac 2 R<|Ab _ [0,0,0,0,0,2,0,0,0,0,4] R<|Ad 4 R<|AF (v:=va) k Bq BL R R ha.isSl R sD Aa ?_;refine Aj (p:=AD va k 1) (.inr R) (zI<|a.getD k 0) AQ R (Bf a1 (ha.getI sD).1) Aa<|bO R<|DU (wr ((a.getD k 0)*y)) R R R Aa<|Dr (md (a.getD k 0*y)) R R (by decide) (N3 hga hy) Aa ?_;refine AF (v:=v1) k Bq BL R R a0.isSl R sD Aa (Dt (v:=v1) (w:=w2) Gy R R (CA _) a0 sD Aa fun w4 F4 a9 ag ac ad=>?_);have ae:AK w w4:=a9.below a1 (fun c hc=>A8 (A7 _) (ac c hc).1) a1.size;have af:=a9.size;refine Af<|Ab _ [0,0] R<|AP ((k+1:Nat):Int) R R (Ba oM sD) Aa<|bN R ?_;exact⟨k+1,_,rfl,zR,⟨ae,(by unfold DG;rw[M9 sM oM];exact ad.up o1),sD⟩,zD⟩;exact AE false R R (A6 a8) Aa<|Af<|A0<|Ag R<|A4<|As<|As<|Am<|bL [0,0] R<|Ac 2 R<|A1<|Ai [4] R v1 R ⟨v1,rfl,a1,(by have h:=a0.up o1;rwa [Iv sM (by simp;omega)]at h)⟩
theorem GD (w:World)(va:Value)(a:Sr)(vb:Value)(b:Sr)(ha:Rd (Bg rI) w.heap va a)(hb:Rd (Bg rI) w.heap vb b)(hla:a.length≤1000000000000)(hl:a.length≤b.length)(hqa:Bd a=true)(hqb:Bd b=true) :
  Calls Tryz.prog 73 #[va,vb] w (fun e w'=>∃v0:Value,e=.returned (v0)∧AK w w'∧Fr (Bz rI 2) w.heap.size w'.heap.size w'.heap v0 (Df a b)):=by
 refine At [va,vb] 30 Tryz.func73 R R sM ?_;have a5:AK w w:=AK.refl w;have ah:=ha.lenle;have ai:=hb.lenle;refine bM R<|bL [0,0,3,0] R<|bO R<|AU (v:=va) Bq R ha.isSl Aa (EY (n:=a.length) Bq BL R R R sD Aa fun v1 w1 a3 aa a6=>?_);have a4:=a3.size;have a7:=a5.trans a3;refine bN R<|A0<|bL [0,0,0] R<|bO R<|AU (v:=va) Bq R ha.isSl Aa<|bN R<|A3 ?_;refine AV (S:=Nat) (fun k=>([(12,zI (k:Int)),(0,va),(1,vb),(5,v1),(11,zI (a.length:Int))])) (fun k W=>AK w W∧Fr (Bz rI 2) w.heap.size W.heap.size W.heap v1 (Fp k (Df a b)<|List.replicate a.length 0)∧k≤a.length) (fun k=>a.length-k) 0 ⟨rfl,rfl,rfl,rfl,rfl,trivial⟩ ⟨a7,(by rw[GW];exact a6.up o1),sD⟩ ?_;clear a5 a6 aa a3 a4 a7;rintro k ρ2 w2 ⟨a1,a0,a8⟩;have ab:w.heap.size≤w2.heap.size:=a1.size;have hml:=Gh k (Df a b) (List.replicate a.length 0) sM;rw[z5]at hml;have hga:=Br hqa k;have hgb:=Br hqb k;refine bL [0] R ?_;by_cases a9:(k:Int)<(a.length:Int);refine AE true R R (A5 a9) Aa<|Af<|A0<|Ae R<|A2<|A0<|A3<|bL [0,0] R<|Ac 2 R<|B2 _ [0,0,0,0,0,1,0,0,0,1,0,0,0,4] mixed zK<|Ad 4 R<|AF (v:=va) k Bq BL R R ha.isSl R sD Aa ?_;refine Aj (p:=AD va k 1) (.inl R) (zI<|a.getD k 0) AQ R (Bf a1.drew (ha.getI sD).1) Aa<|Ad 2 R ?_;refine AF (v:=vb) k Bq BL R R hb.isSl R sD Aa ?_;refine Aj (p:=AD vb k 1) (.inl R) (zI<|b.getD k 0) AQ R (Bf a1.drew (hb.getI sD).1) Aa<|AP (wr ((a.getD k 0)+(b.getD k 0))) R R R Aa<|Dr (md (a.getD k 0+b.getD k 0)) R R (by decide) (Tz hga hgb) Aa ?_;refine AF (v:=v1) k Bq BL R R a0.isSl R sD Aa (Dt (v:=v1) (w:=w2.drew) Gy R R (CA _) a0 sD Aa fun w4 F4 a2 ag ac ad=>?_);replace a2:=a2.of_drew;have ae:AK w w4:=a2.below a1 (fun c hc=>A8 (A7 _) (ac c hc).1) a1.size;have af:=a2.size;refine Af<|Ab _ [0,0] R<|AP ((k+1:Nat):Int) R R (Ba oM sD) Aa<|bN R ?_;exact⟨k+1,_,rfl,zR,⟨ae,(by unfold Df;rw[M9 sM oM];exact ad.up o1),sD⟩,zD⟩;exact AE false R R (A6 a9) Aa<|Af<|A0<|Ag R<|A4<|As<|As<|Am<|bL [0,0] R<|Ac 2 R<|A1<|Ai [4] R v1 R ⟨v1,rfl,a1,(by have h:=a0.up o1;rwa [Iv sM (by simp;omega)]at h)⟩
theorem KL (w:World)(va:Value)(a:Sr)(vb:Value)(b:Sr)(ha:Rd (Bg rI) w.heap va a)(hb:Rd (Bg rI) w.heap vb b)(hla:a.length≤1000000000000)(hlb:b.length≤1000000000000)(hl:a.length≤b.length)(hqa:Bd a=true)(hqb:Bd b=true) :
  Calls Tryz.prog 290 #[va,vb] w (fun e w'=>∃v0:Value,e=.returned (v0)∧AK w w'∧Fr (Bz rI 2) w.heap.size w'.heap.size w'.heap v0 (Fw a b)):=by
 refine At [va,vb] 9 Tryz.func290 R R sM ?_;have a7:AK w w:=AK.refl w;have ab:=ha.lenle;have ac:=hb.lenle;refine bM R<|bL [0,0,3,3,0] R<|Ad 2 R<|AB 74 [] [] [vb,zI ((1000002:Nat):Int)] R R Uy Aa (Er _ _ _ _ (hb.ext g1 a7) oM hlb hqb oM) ?_;rintro e1 w1 ⟨a3,rfl,a4,a0⟩;refine⟨_,rfl,a4,?_⟩;have a8:=a4.size;have a5:=a7.trans a4;refine AB 73 [] [] [va,a3] R R XC Aa (GD _ _ _ _ _ (ha.ext g1 a5) a0.rd1 hla (by simp;omega) hqa (by exact Ix _ _)) ?_;rintro e2 w2 ⟨a1,rfl,a6,a2⟩;refine⟨_,rfl,a6,?_⟩;have a9:=a6.size;have aa:=a5.trans a6;exact bN R<|A1<|Ai [4] R a1 R ⟨a1,rfl,aa,(by rw[← R0 hl];exact(a2.up o1).low a5.size)⟩
theorem KM (w:World)(va:Value)(a:Sr)(vb:Value)(b:Sr)(ha:Rd (Bg rI) w.heap va a)(hb:Rd (Bg rI) w.heap vb b)(hla:a.length≤1000000000000)(hl:a.length≤b.length)(hqa:Bd a=true)(hqb:Bd b=true) :
  Calls Tryz.prog 291 #[va,vb] w (fun e w'=>∃v0:Value,e=.returned (v0)∧AK w w'∧Fr (Bz rI 2) w.heap.size w'.heap.size w'.heap v0 (E5 a b)):=by
 refine At [va,vb] 43 Tryz.func291 R R sM ?_;have a8:AK w w:=AK.refl w;have am:=ha.lenle;have an:=hb.lenle;refine bM R<|bL [0,0,3,0] R<|bO R<|AU (v:=va) Bq R ha.isSl Aa (EY (n:=a.length) Bq BL R R R sD Aa fun v1 w1 a5 af a9=>?_);have a6:=a5.size;have aa:=a8.trans a5;refine bN R<|A0<|bL [0,0,0] R<|bO R<|AU (v:=va) Bq R ha.isSl Aa<|bN R<|A3 ?_;refine AV (S:=Nat) (fun k=>([(13,zI (k:Int)),(0,va),(1,vb),(5,v1),(12,zI (a.length:Int))])) (fun k W=>AK w W∧Fr (Bz rI 2) w.heap.size W.heap.size W.heap v1 (Fp k (E5 a b)<|List.replicate a.length 0)∧k≤a.length) (fun k=>a.length-k) 0 ⟨rfl,rfl,rfl,rfl,rfl,trivial⟩ ⟨aa,(by rw[GW];exact a9.up o1),sD⟩ ?_;clear a8 a9 af a5 a6 aa;rintro k ρ2 w2 ⟨a3,a1,ab⟩;have a7:w.heap.size≤w2.heap.size:=a3.size;have hml:=Gh k (E5 a b) (List.replicate a.length 0) sM;rw[z5]at hml;have hga:=Br hqa k;refine bL [0] R ?_;by_cases ac:(k:Int)<(a.length:Int);refine AE true R R (A5 ac) Aa<|Af<|A0<|Ae R<|A2<|A0<|A3<|bL [0,0] R<|Ac 2 R<|bM R<|A3 ?_;refine AV (S:=Nat) (fun i=>([(7,zI (i:Int)),(0,va),(1,vb),(5,v1),(6,zI (k:Int)),(12,zI (a.length:Int)),(13,zI (k:Int))])) (fun i W=>AK w W∧Fr (Bz rI 2) w.heap.size W.heap.size W.heap v1 ((Fp k (E5 a b)<|List.replicate a.length 0).set k<|Lz a b k i)∧i≤k+1) (fun i=>k+1-i) 0 ⟨rfl,rfl,rfl,rfl,rfl,rfl,rfl,trivial⟩ ⟨a3,(by have h:=a1.up o1;rw[← R1 (T:=E5 a b) sM oM]at h;exact h),sD⟩ ?_;clear a1 a3 a7;rintro i ρ4 w4 ⟨a2,a0,ad⟩;have ag:w.heap.size≤w4.heap.size:=a2.size;have hms:((Fp k (E5 a b) (List.replicate a.length 0)).set k (Lz a b k i)).length=a.length:=by rw[z6];exact hml
 refine A0<|bL [0,0,0] R<|Ad 2 R ?_;by_cases ae:(i:Int)≤(k:Int);refine Dd true R R (A5 ae) Aa<|Af<|Ae R<|A2<|A0<|A3<|B2 _ [0,0,0,0,0,1,0,0,0,1,0,0,0,0,0,1,0,0,0,0,4] mixed zK<|Ad 4 R<|AF (v:=v1) k Bq BL R R a0.isSl R sD Aa ?_;refine Aj (p:=AD v1 k 1) (.inl R) (zI<|((Fp k (E5 a b)<|List.replicate a.length 0).set k<|Lz a b k i).getD k 0) AQ R (a0.rd1.getI sD).1 Aa (Ad 2 R ?_);refine AF (v:=va) i Bq BL R R ha.isSl R sD Aa ?_;refine Aj (p:=AD va i 1) (.inl R) (zI<|a.getD i 0) AQ R (Bf a2.drew (ha.getI sD).1) Aa<|Ad 3 R<|Cj ((k-i:Nat):Int) R R (Ba oM oM) Aa ?_;refine AF (v:=vb) (k-i) Bq BL R R hb.isSl R sD Aa ?_;refine Aj (p:=AD vb (k-i) 1) (.inl R) (zI<|b.getD (k-i) 0) AQ R (Bf a2.drew (hb.getI sD).1) Aa<|DU (wr ((a.getD i 0)*(b.getD (k-i) 0))) R R R Aa<|AP (wr ((((Fp k (E5 a b)<|List.replicate a.length 0).set k<|Lz a b k i).getD k 0)+(wr ((a.getD i 0)*(b.getD (k-i) 0))))) R R R Aa ?_;refine Dr (md (Lz a b k i+a.getD i 0*b.getD (k-i) 0)) R R (by decide) (by rw[QR _ _ _ _ _ oM,if_pos rfl];exact VT (OR _ _ _ _) (Br hqa _) (Br hqb _)) Aa<|AF (v:=v1) k Bq BL R R a0.isSl R sD Aa ?_;refine Dt (v:=v1) (w:=w4.drew) Gy R R (CA _) a0 sD Aa fun w6 F6 a4 al ah ai=>?_;replace a4:=a4.of_drew;have aj:AK w w6:=a4.below a2 (fun c hc=>A8 (A7 _) (ah c hc).1) a2.size;have ak:=a4.size;refine Af<|Ab _ [0,0,0] R<|bO R<|AP ((i+1:Nat):Int) R R (Ba oM sD) Aa<|bN R ?_;exact⟨i+1,_,rfl,zR,⟨aj,(by have h:=ai.up o1;rw[List.set_set]at h;exact h),sD⟩,zD⟩;refine Dd false R R (A6 ae) Aa<|Af<|Ag R<|A4<|As<|As<|Am<|Ab _ [0,0] R<|AP ((k+1:Nat):Int) R R (Ba oM sD) Aa<|bN R ?_;exact⟨k+1,_,rfl,zR,⟨a2,(by have h:=a0.up o1;rw[show i=k+1 from by omega]at h;unfold E5;rw[M9 sM oM];exact h),sD⟩,zD⟩;exact AE false R R (A6 ac) Aa<|Af<|A0<|Ag R<|A4<|As<|As<|Am<|bL [0,0] R<|Ac 2 R<|A1<|Ai [4] R v1 R ⟨v1,rfl,a3,(by have h:=a1.up o1;rwa [Iv sM (by simp;omega)]at h)⟩
theorem JH (w:World)(va:Value)(a:Sr)(vb:Value)(b:Sr)(ha:Rd (Bg rI) w.heap va a)(hb:Rd (Bg rI) w.heap vb b)(hla:a.length≤1000000000000)(hl:a.length≤b.length)(h1:0<b.length)(hqa:Bd a=true)(hqb:Bd b=true) :
  Calls Tryz.prog 292 #[va,vb] w (fun e w'=>∃v0:Value,e=.returned (v0)∧AK w w'∧Fr (Bz rI 2) w.heap.size w'.heap.size w'.heap v0 (De a b)):=by
 refine At [va,vb] 53 Tryz.func292 R R sM ?_;have a5:AK w w:=AK.refl w;have am:=ha.lenle;have an:=hb.lenle;refine bM R<|A0<|B2 _ [0,0,3,0,0,1,0,0,0] mixed zK<|bO R<|AU (v:=va) Bq R ha.isSl Aa (EY (n:=a.length) Bq BL R R R sD Aa fun v1 w1 a2 ae a7=>?_);replace a2:=a2.of_drew;have a6:=a2.size;have a8:=a5.trans a2;refine bO R<|AF (v:=vb) 0 Bq BL R R hb.isSl R sD Aa ?_;refine Aj (p:=AD vb 0 1) (.inl R) (zI<|b.getD 0 0) AQ R (Bf a5.drew (hb.getI sD).1) Aa ?_;refine AJ 76 [] [] [zI<|b.getD 0 0] R R YI Aa (zI<|ER<|b.getD 0 0) (fun wq=>H8 wq _ (hb.getI sD).2)<|Ac 2 R<|A0<|bL [0,0,0] R<|bO R<|AU (v:=va) Bq R ha.isSl Aa<|bN R<|A3 ?_;refine AV (S:=Nat) (fun k=>([(19,zI (k:Int)),(0,va),(1,vb),(5,v1),(6,zI<|ER<|b.getD 0 0),(18,zI (a.length:Int))])) (fun k W=>AK w W∧Fr (Bz rI 2) w.heap.size W.heap.size W.heap v1 (Fp k (De a b)<|List.replicate a.length 0)∧k≤a.length) (fun k=>a.length-k) 0 ⟨rfl,rfl,rfl,rfl,rfl,rfl,trivial⟩ ⟨a8,(by rw[GW];exact a7.up o1),sD⟩ ?_;clear a5 a7 ae a2 a6 a8;rintro k ρ3 w3 ⟨a4,a1,a9⟩;have af:w.heap.size≤w3.heap.size:=a4.size;have hml:=Gh k (De a b) (List.replicate a.length 0) sM;rw[z5]at hml;have hga:=Br hqa k;refine bL [0] R ?_;by_cases aa:(k:Int)<(a.length:Int);refine AE true R R (A5 aa) Aa<|Af<|A0<|Ae R<|A2<|A0<|A3<|bL [0,0] R<|Ac 2 R<|bL [0,0,0,2,0] R<|Ad 2 R<|AF (v:=va) k Bq BL R R ha.isSl R sD Aa ?_;refine Aj (p:=AD va k 1) (.inr R) (zI<|a.getD k 0) AQ R (Bf a4 (ha.getI sD).1) Aa<|bN R<|A0<|bM R<|A3 ?_;refine AV (S:=Nat×Int) (fun⟨i,t⟩=>([(8,zI t),(9,zI (i:Int)),(0,va),(1,vb),(5,v1),(6,zI<|ER<|b.getD 0 0),(7,zI (k:Int)),(18,zI (a.length:Int)),(19,zI (k:Int))])) (fun⟨i,t⟩ W=>AK w W∧Fr (Bz rI 2) w.heap.size w3.heap.size W.heap v1 (Fp k (De a b)<|List.replicate a.length 0)∧i≤k∧t=MV a b (De a b) k i∧(0≤t∧t<1000003)) (fun⟨i,t⟩=>k-i) (0,a.getD k 0) ⟨rfl,rfl,rfl,rfl,rfl,rfl,rfl,rfl,rfl,trivial⟩ ⟨a4,a1,sD,(by rfl),(by exact Br hqa k)⟩ ?_;clear a1;rintro⟨i,t⟩ ρ5 w5 ⟨a3,a0,ab,ht,htr⟩;have ag:w.heap.size≤w5.heap.size:=a3.size;refine A0<|bL [0,0,0] R<|Ad 2 R ?_;by_cases ac:(i:Int)<(k:Int);refine AE true R R (A5 ac) Aa<|Af<|Ae R<|A2<|A0<|A3<|B2 _ [0,0,0,0,1,0,0,0,0,0,1,0,0,0] mixed zK<|Ad 3 R<|AF (v:=v1) i Bq BL R R a0.isSl R sD Aa ?_;refine Aj (p:=AD v1 i 1) (.inl R) (zI<|(Fp k (De a b)<|List.replicate a.length 0).getD i 0) AQ R (a0.rd1.getI sD).1 Aa (Ad 3 R<|Cj ((k-i:Nat):Int) R R (Ba oM oM) Aa ?_);refine AF (v:=vb) (k-i) Bq BL R R hb.isSl R sD Aa ?_;refine Aj (p:=AD vb (k-i) 1) (.inl R) (zI<|b.getD (k-i) 0) AQ R (Bf a3.drew (hb.getI sD).1) Aa<|DU (wr (((Fp k (De a b)<|List.replicate a.length 0).getD i 0)*(b.getD (k-i) 0))) R R R Aa ?_;refine AJ 75 [] [] [zI t,zI<|wr (((Fp k (De a b)<|List.replicate a.length 0).getD i 0)*(b.getD (k-i) 0))] R R Uz Aa (zI<|md (t-(wr (((Fp k (De a b)<|List.replicate a.length 0).getD i 0)*(b.getD (k-i) 0))))) (fun wq=>EQ wq _ _ oM<|NX _)<|bN R<|Ab _ [0,0,0] R<|bO R<|AP ((i+1:Nat):Int) R R (Ba oM sD) Aa<|bN R ?_;exact⟨(i+1,md (t-(wr (((Fp k (De a b) (List.replicate a.length 0)).getD i 0)*(b.getD (k-i) 0))))),_,rfl,zR,⟨a3.drew,a0,sD,(by rw[ht,VS 0 oM (by simp;omega)];exact R2 (N5 a b) hqb),(by exact BN _)⟩,zD⟩;refine AE false R R (A6 ac) Aa<|Af<|Ag R<|A4<|As<|As<|Am<|Ab _ [0,0,0,0,0,0,0,4] R<|Ad 4 R<|DU (wr (t*(ER<|b.getD 0 0))) R R R Aa<|Dr (md (t*ER (b.getD 0 0))) R R (by decide) (N3 htr<|Iu _) Aa<|AF (v:=v1) k Bq BL R R a0.isSl R sD Aa ?_;refine Dt (v:=v1) (w:=w5) Gy R R (CA _) a0 sD Aa fun w8 F8 ad al ah ai=>?_;have aj:AK w w8:=ad.below a3 (fun c hc=>A8 (A7 _) (ah c hc).1) a3.size;have ak:=ad.size;refine Af<|Ab _ [0,0] R<|AP ((k+1:Nat):Int) R R (Ba oM sD) Aa<|bN R ?_;exact⟨k+1,_,rfl,zR,⟨aj,(by have h:=ai.up o1;rw[ht,show i=k from by omega]at h;rw[← Ty oM sM];exact h),sD⟩,zD⟩;exact AE false R R (A6 aa) Aa<|Af<|A0<|Ag R<|A4<|As<|As<|Am<|bL [0,0] R<|Ac 2 R<|A1<|Ai [4] R v1 R ⟨v1,rfl,a4,(by have h:=a1.up o1;rwa [Iv sM (by simp;omega)]at h)⟩
theorem H9 (w:World)(va:Value)(a:Sr)(ha:Rd (Bg rI) w.heap va a)(hla:a.length≤1000000000000) :
  Calls Tryz.prog 68 #[va] w (fun e w'=>∃v0:Value,e=.returned (v0)∧AK w w'∧Fr (Bz (Bz rI 2) 27) w.heap.size w'.heap.size w'.heap v0 (Ch a)):=by
 refine At [va] 20 Tryz.func68 R R sM ?_;have a9:AK w w:=AK.refl w;have au:=ha.lenle;refine bM R<|bL [3,0] R (CY (Bz rI 2) o1 DR Cc Aa fun v1 w1 a4 af aa=>?_);have a5:=a4.size;have ab:=a9.trans a4;refine bN R<|A0<|bL [0,0,0] R<|bO R<|AU (v:=va) Bq R ha.isSl Aa<|bN R<|A3 ?_;refine AV (S:=Nat×Value) (fun⟨k,vo⟩=>([(3,vo),(9,zI (k:Int)),(7,va),(8,zI (a.length:Int))])) (fun⟨k,vo⟩ W=>AK w W∧Fr (Bz (Bz rI 2) 27) w.heap.size W.heap.size W.heap vo ((a.take k).map fun x=>[x])∧k≤a.length) (fun⟨k,vo⟩=>a.length-k) (0,v1) ⟨rfl,rfl,rfl,rfl,trivial⟩ ⟨ab,aa.up o2,sD⟩ ?_;clear a9 aa af a4 a5 ab;rintro⟨k,vo⟩ ρ2 w2 ⟨a3,a2,ac⟩;have ag:w.heap.size≤w2.heap.size:=a3.size;refine bL [0] R ?_;by_cases ad:(k:Int)<(a.length:Int);refine AE true R R (A5 ad) Aa<|Af<|A0<|Ae R<|A2<|A0<|A3<|bL [0,2,0] R<|AF (v:=va) k Bq BL R R ha.isSl R sD Aa ?_;refine Aj (p:=AD va k 1) (.inr R) (zI<|a.getD k 0) AQ R (Bf a3 (ha.getI sD).1) Aa<|bN R<|Ab _ [0,0,3,3,4,0] R<|Ad 2 R ?_;refine CH (u:=zI<|a.getD k 0) (B:=w2.heap.size) Bi Bq BL R R (NY w2.heap.size w2.heap.size _ _ (ha.getI sD).2) (A7 _) Aa fun v4 w4 a6 aq ah=>?_;have ai:=a6.size;have aj:=a3.trans a6;have a0:=a2.ext (o2) a6;refine CH (u:=v4) (B:=w2.heap.size) o1 DR Cc R R ah (by first|exact A7 _|omega) Aa fun v5 w5 a7 ar ak=>?_;have al:=a7.size;have a8:=aj.trans a7;have a1:=a0.ext (o2) a7;refine Kf o1 (v:=vo) (a:=v5) DR Cc R R R a1 a8.size ak oM a3.size sD (by unfold maxLen;first|omega|assumption|(simp;done)|(simp;omega)) Aa fun v6 w6 F6 ae am an=>?_;have ao:AK w w6:=ae.below a8 (fun c hc=>A8 (A7 _) (am c hc).1) a8.size;have ap:=ae.size;refine bN R<|Ab _ [0,0] R<|AP ((k+1:Nat):Int) R R (Ba oM sD) Aa<|bN R ?_;exact⟨(k+1,v6),_,rfl,zR,⟨ao,(by rw[FV 0 oM];exact an.up o2),sD⟩,zD⟩;exact AE false R R (A6 ad) Aa<|Af<|A0<|Ag R<|A4<|As<|As<|Am<|bL [0,0] R<|Ac 2 R<|A1<|Ai [2] R vo R ⟨vo,rfl,a3,(by have h:=a2.up o2;rwa [za oM]at h)⟩
theorem FJ (w:World)(va:Value)(a:List (Sr))(ha:Rd (Bg (Bg rI)) w.heap va a)(hla:a.length≤1000000000000)(h1:∀k,k<a.length→0<(a.getD k []).length) :
  Calls Tryz.prog 69 #[va] w (fun e w'=>∃v0:Value,e=.returned (v0)∧AK w w'∧Fr (Bz rI 2) w.heap.size w'.heap.size w'.heap v0 (a.map (fun s=>s.getD 0 0))):=by
 refine At [va] 21 Tryz.func69 R R sM ?_;have a9:AK w w:=AK.refl w;have ar:=ha.lenle;refine bM R<|bL [3,0] R (CY (rI) Bi Bq BL Aa fun v1 w1 a4 af aa=>?_);have a5:=a4.size;have ab:=a9.trans a4;refine bN R<|A0<|bL [0,0,0] R<|bO R<|AU (v:=va) DR R ha.isSl Aa<|bN R<|A3 ?_;refine AV (S:=Nat×Value) (fun⟨k,vo⟩=>([(3,vo),(9,zI (k:Int)),(7,va),(8,zI (a.length:Int))])) (fun⟨k,vo⟩ W=>AK w W∧Fr (Bz rI 2) w.heap.size W.heap.size W.heap vo ((a.take k).map fun s=>s.getD 0 0)∧k≤a.length) (fun⟨k,vo⟩=>a.length-k) (0,v1) ⟨rfl,rfl,rfl,rfl,trivial⟩ ⟨ab,aa.up o1,sD⟩ ?_;clear a9 aa af a4 a5 ab;rintro⟨k,vo⟩ ρ2 w2 ⟨a2,a1,ac⟩;have ag:w.heap.size≤w2.heap.size:=a2.size;refine bL [0] R ?_;by_cases ad:(k:Int)<(a.length:Int);refine AE true R R (A5 ad) Aa<|Af<|A0<|Ae R<|A2<|A0<|A3<|bL [0,2,0] R<|AF (v:=va) k DR Cc R R ha.isSl R sD Aa ?_;obtain⟨a6,ah,a3⟩:=ha.get (k:=k) [] sD;have ai:=a3.lenle;refine Aj (p:=AD va k 1) (.inr R) a6 Cq R (Bf a2 ah) Aa<|bN R<|Ab _ [0,0,0,2,3,4,0] R ?_;have ap:=h1 k oM;refine Ad 2 R<|AF (v:=a6) 0 Bq BL R R a3.isSl R sD Aa ?_;refine Aj (p:=AD a6 0 1) (.inr R) (zI<|(a.getD k []).getD 0 0) AQ R (Bf a2 (a3.getI sD).1) Aa ?_;refine CH (u:=zI<|(a.getD k []).getD 0 0) (B:=w2.heap.size) Bi Bq BL R R (NY w2.heap.size w2.heap.size _ _ (a3.getI sD).2) (A7 _) Aa fun v5 w5 a7 aq aj=>?_;have ak:=a7.size;have a8:=a2.trans a7;have a0:=a1.ext (o1) a7;refine DV (v:=vo) (a:=v5) Bq BL R R R a0 a8.size aj.rd1 sD (by unfold maxLen;first|omega|assumption|(simp;done)|(simp;omega)) Aa fun v6 w6 F6 ae al am=>?_;have an:AK w w6:=ae.below a8 (fun c hc=>A8 (A7 _) (al c hc).1) a8.size;have ao:=ae.size;refine bN R<|Ab _ [0,0] R<|AP ((k+1:Nat):Int) R R (Ba oM sD) Aa<|bN R ?_;exact⟨(k+1,v6),_,rfl,zR,⟨an,(by rw[FV [] oM];exact am.up o1),sD⟩,zD⟩;exact AE false R R (A6 ad) Aa<|Af<|A0<|Ag R<|A4<|As<|As<|Am<|bL [0,0] R<|Ac 2 R<|A1<|Ai [2] R vo R ⟨vo,rfl,a2,(by have h:=a1.up o1;rwa [za oM]at h)⟩
theorem MN {p:Prop}(h:p:=by first|omega|exact OZ _):p:=h
theorem Ct {p:Prop}(h:p:=by kernel_rfl):p:=h
theorem Ff (w:World)(g:Nat)(sv:Value)(cs:List UInt8)(n0:Nat)(hs:EA w.heap g sv cs n0)(al:n0+1≤1000000000000)  :
  Calls Tryz.prog 140 #[zP g] w (fun e w'=>∃(x0:Int) (n1:Nat),e=.returned (zI x0)∧Ax [g] w w'∧EA w'.heap g sv cs n1∧(n0≤n1∧n1≤n0+1)∧(0≤x0∧x0≤255)):=by
 refine At [zP g] 62 Tryz.func140 R R sM ?_;have a2:Ax [g] w w:=Ax.refl [g] w;have aq:=hs.lt;obtain⟨sd,hbx,hrs⟩:=hs.parts;have hl_sv:=(hrs _<|Ax.refl [g] w).lenle;refine bM R<|bM R<|A0<|A0<|B2 _ [0,0,0,1,0,0,0,1,0,0] mixed Ct<|bO R<|B7 R Aa<|E9 1 Ct R Aa<|Aj (p:=.pointer<|some ⟨g,1,none⟩) (.inl R) (zI (n0:Int)) Ll R (hbx.ld (k:=1) sM) Aa<|bO R<|B7 R Aa<|E9 0 Ct R Aa<|Aj (p:=zP g) (.inl R) sv PN R (hbx.ld (k:=0) sM) Aa<|AU (v:=sv) Qt R (hrs _ a2.drew).isSl Aa ?_;by_cases aa:(n0:Int)<(cs.length:Int);refine AE true R R (A5 aa) Aa<|Af<|Ae R<|B2 _ [0,0,0,1,0,0,0,1,0,1,0,0] mixed Ct<|bO R<|B7 R Aa<|E9 0 Ct R Aa<|Aj (p:=zP g) (.inl R) sv PN R (hbx.ld (k:=0) sM) Aa<|bO R<|B7 R Aa<|E9 1 Ct R Aa<|Aj (p:=.pointer<|some ⟨g,1,none⟩) (.inl R) (zI (n0:Int)) Ll R (hbx.ld (k:=1) sM) Aa ?_;refine AF (v:=sv) n0 Qt cA R R (hrs _ a2.drew.drew).isSl R sD Aa ?_;refine Aj (p:=AD sv n0 1) (.inl R) (.int .u8 ((cs.getD n0 0).toNat:Int)) aY R ((hrs _ a2.drew.drew).getU sD).1 Aa (J3 ((cs.getD n0 0).toNat:Int) u5 u3 R (w8 _) Aa<|bN R<|bL [0,0,0,2,0,0,0,4] R<|bO R<|B7 R Aa<|E9 1 Ct R Aa<|Aj (p:=.pointer<|some ⟨g,1,none⟩) (.inr R) (zI (n0:Int)) Ll R (hbx.ld (k:=1) sM) Aa ?_);refine AP ((n0+1:Nat):Int) R R (Ba oM sD) Aa<|B7 R Aa<|E9 1 Ct R Aa (BB (w:=w.drew.drew) bZ R R ⟨rfl,rfl⟩ hbx sM Aa fun w2 a3 am ad=>?_);replace a3:=a3.of_drew;replace a3:=a3.of_drew;have ae:Ax [g] w w2:=a2.trans a3;have a4:BX w2.heap g [sv,zI ((n0+1:Nat):Int),.int .u64 sd]:=ad;refine Af<|bL [0,0,0,0,2,0,0,0,0,0,0,0,4] R<|Ad 2 R<|B7 R Aa<|E9 2 Ct R Aa<|Aj (p:=.pointer<|some ⟨g,2,none⟩) (.inr R) (.int .u64 sd) MG R (a4.ld (k:=2) sM) Aa<|DU (IntKind.u64.wrap (sd*6364136223846793005)) R R R Aa<|bO R<|J3 (IntKind.u64.wrap ((cs.getD n0 0).toNat:Int)) u3 UB R R Aa<|AP (IntKind.u64.wrap ((IntKind.u64.wrap (sd*6364136223846793005))+(IntKind.u64.wrap ((cs.getD n0 0).toNat:Int)))) R R R Aa<|AP (IntKind.u64.wrap ((IntKind.u64.wrap ((IntKind.u64.wrap (sd*6364136223846793005))+(IntKind.u64.wrap ((cs.getD n0 0).toNat:Int))))+1442695040888963407)) R R R Aa<|B7 R Aa ?_;refine E9 2 Ct R Aa (BB (w:=w2) Vr R R ⟨rfl,rfl⟩ a4 sM Aa fun w3 af an ag=>?_);have a5:Ax [g] w w3:=ae.trans af;have a0:BX w3.heap g [sv,zI ((n0+1:Nat):Int),.int .u64 (IntKind.u64.wrap ((IntKind.u64.wrap ((IntKind.u64.wrap (sd*6364136223846793005))+(IntKind.u64.wrap ((cs.getD n0 0).toNat:Int))))+1442695040888963407))]:=ag;refine Af<|A0<|A0<|B2 _ [0,0,0,1,0,0,0,1,0,0] mixed Ct<|bO R<|B7 R Aa<|E9 1 Ct R Aa<|Aj (p:=.pointer<|some ⟨g,1,none⟩) (.inl R) (zI ((n0+1:Nat):Int)) Ll R (a0.ld (k:=1) sM) Aa<|bO R<|B7 R Aa<|E9 0 Ct R Aa<|Aj (p:=zP g) (.inl R) sv PN R (a0.ld (k:=0) sM) Aa<|AU (v:=sv) Qt R (hrs _ a5.drew).isSl Aa ?_;by_cases ab:((n0+1:Nat):Int)≤(cs.length:Int);refine Dd true R R (A5 ab) Aa<|Af<|Ae R<|bL [0,0] R<|Ac 2 R<|A1<|Ak ?_;have a8:=OY<|cs.getD n0 0;exact Ai [2] R (zI ((cs.getD n0 0).toNat:Int)) R ⟨((cs.getD n0 0).toNat:Int),n0+1,rfl,a5.drew,hs.close a5.drew a0,⟨zO,zO⟩,MN⟩;refine Dd false R R (A6 ab) Aa<|Af<|Ag R<|A2<|bL [0,0,0,2,0,0,0,0] R<|bO R<|B7 R Aa<|E9 2 Ct R Aa<|Aj (p:=.pointer<|some ⟨g,2,none⟩) (.inr R) (.int .u64<|IntKind.u64.wrap ((IntKind.u64.wrap ((IntKind.u64.wrap (sd*6364136223846793005))+(IntKind.u64.wrap ((cs.getD n0 0).toNat:Int))))+1442695040888963407)) MG R (a0.ld (k:=2) sM) Aa<|UQ ((IntKind.u64.wrap ((IntKind.u64.wrap ((IntKind.u64.wrap (sd*6364136223846793005))+(IntKind.u64.wrap ((cs.getD n0 0).toNat:Int))))+1442695040888963407)).fdiv (2 ^ (min (40:Int).toNat (IntKind.u64).bits))) R R oM R Aa<|US R R Aa ?_;refine J3 (HU .u64 ((IntKind.u64.wrap ((IntKind.u64.wrap ((IntKind.u64.wrap (sd*6364136223846793005))+(IntKind.u64.wrap ((cs.getD n0 0).toNat:Int))))+1442695040888963407)).fdiv (2 ^ (min (40:Int).toNat (IntKind.u64).bits))) 255) UB u2 R (XX _) Aa<|bN R<|A1 ?_;have a8:=OY<|cs.getD n0 0;exact Ai [2] R (zI<|HU .u64 ((IntKind.u64.wrap ((IntKind.u64.wrap ((IntKind.u64.wrap (sd*6364136223846793005))+(IntKind.u64.wrap ((cs.getD n0 0).toNat:Int))))+1442695040888963407)).fdiv (2 ^ (min (40:Int).toNat (IntKind.u64).bits))) 255) R ⟨HU .u64 ((IntKind.u64.wrap ((IntKind.u64.wrap ((IntKind.u64.wrap (sd*6364136223846793005))+(IntKind.u64.wrap ((cs.getD n0 0).toNat:Int))))+1442695040888963407)).fdiv (2 ^ (min (40:Int).toNat (IntKind.u64).bits))) 255,n0+1,rfl,a5.drew,hs.close a5.drew a0,⟨zO,zO⟩,MN⟩;refine AE false R R (A6 aa) Aa<|Af<|Ag R<|A2<|bL [0,0,0,2,0,0,0,4] R<|bO R<|B7 R Aa<|E9 1 Ct R Aa<|Aj (p:=.pointer<|some ⟨g,1,none⟩) (.inr R) (zI (n0:Int)) Ll R (hbx.ld (k:=1) sM) Aa<|AP ((n0+1:Nat):Int) R R (Ba oM sD) Aa<|B7 R Aa ?_;refine E9 1 Ct R Aa (BB (w:=w.drew) bZ R R ⟨rfl,rfl⟩ hbx sM Aa fun w5 a9 ao ah=>?_);replace a9:=a9.of_drew;have ai:Ax [g] w w5:=a2.trans a9;have a6:BX w5.heap g [sv,zI ((n0+1:Nat):Int),.int .u64 sd]:=ah;refine Af<|bL [0,0,0,0,2,0,0,0,0,0,0,0,4] R<|Ad 2 R<|B7 R Aa<|E9 2 Ct R Aa<|Aj (p:=.pointer<|some ⟨g,2,none⟩) (.inr R) (.int .u64 sd) MG R (a6.ld (k:=2) sM) Aa<|DU (IntKind.u64.wrap (sd*6364136223846793005)) R R R Aa<|bO R<|J3 (IntKind.u64.wrap (0:Nat)) u3 UB R R Aa<|AP (IntKind.u64.wrap ((IntKind.u64.wrap (sd*6364136223846793005))+(IntKind.u64.wrap (0:Nat)))) R R R Aa<|AP (IntKind.u64.wrap ((IntKind.u64.wrap ((IntKind.u64.wrap (sd*6364136223846793005))+(IntKind.u64.wrap (0:Nat))))+1442695040888963407)) R R R Aa<|B7 R Aa<|E9 2 Ct R Aa ?_;refine BB (w:=w5) Vr R R ⟨rfl,rfl⟩ a6 sM Aa fun w6 aj ap ak=>?_;have a7:Ax [g] w w6:=ai.trans aj;have a1:BX w6.heap g [sv,zI ((n0+1:Nat):Int),.int .u64 (IntKind.u64.wrap ((IntKind.u64.wrap ((IntKind.u64.wrap (sd*6364136223846793005))+(IntKind.u64.wrap (0:Nat))))+1442695040888963407))]:=ak;refine Af<|A0<|A0<|B2 _ [0,0,0,1,0,0,0,1,0,0] mixed Ct<|bO R<|B7 R Aa<|E9 1 Ct R Aa<|Aj (p:=.pointer<|some ⟨g,1,none⟩) (.inl R) (zI ((n0+1:Nat):Int)) Ll R (a1.ld (k:=1) sM) Aa<|bO R<|B7 R Aa<|E9 0 Ct R Aa<|Aj (p:=zP g) (.inl R) sv PN R (a1.ld (k:=0) sM) Aa<|AU (v:=sv) Qt R (hrs _ a7.drew).isSl Aa ?_;by_cases ac:((n0+1:Nat):Int)≤(cs.length:Int);refine Dd true R R (A5 ac) Aa<|Af<|Ae R<|bL [0,0] R<|Ac 2 R<|A1<|Ak ?_;have a8:=OY<|cs.getD n0 0;exact Ai [2] R (zI (0:Nat)) R ⟨(0:Nat),n0+1,rfl,a7.drew,hs.close a7.drew a1,⟨zO,zO⟩,MN⟩;refine Dd false R R (A6 ac) Aa<|Af<|Ag R<|A2<|bL [0,0,0,2,0,0,0,0] R<|bO R<|B7 R Aa<|E9 2 Ct R Aa<|Aj (p:=.pointer<|some ⟨g,2,none⟩) (.inr R) (.int .u64<|IntKind.u64.wrap ((IntKind.u64.wrap ((IntKind.u64.wrap (sd*6364136223846793005))+(IntKind.u64.wrap (0:Nat))))+1442695040888963407)) MG R (a1.ld (k:=2) sM) Aa<|UQ ((IntKind.u64.wrap ((IntKind.u64.wrap ((IntKind.u64.wrap (sd*6364136223846793005))+(IntKind.u64.wrap (0:Nat))))+1442695040888963407)).fdiv (2 ^ (min (40:Int).toNat (IntKind.u64).bits))) R R oM R Aa<|US R R Aa ?_;refine J3 (HU .u64 ((IntKind.u64.wrap ((IntKind.u64.wrap ((IntKind.u64.wrap (sd*6364136223846793005))+(IntKind.u64.wrap (0:Nat))))+1442695040888963407)).fdiv (2 ^ (min (40:Int).toNat (IntKind.u64).bits))) 255) UB u2 R (XX _) Aa<|bN R<|A1 ?_;have a8:=OY<|cs.getD n0 0;exact Ai [2] R (zI<|HU .u64 ((IntKind.u64.wrap ((IntKind.u64.wrap ((IntKind.u64.wrap (sd*6364136223846793005))+(IntKind.u64.wrap (0:Nat))))+1442695040888963407)).fdiv (2 ^ (min (40:Int).toNat (IntKind.u64).bits))) 255) R ⟨HU .u64 ((IntKind.u64.wrap ((IntKind.u64.wrap ((IntKind.u64.wrap (sd*6364136223846793005))+(IntKind.u64.wrap (0:Nat))))+1442695040888963407)).fdiv (2 ^ (min (40:Int).toNat (IntKind.u64).bits))) 255,n0+1,rfl,a7.drew,hs.close a7.drew a1,⟨zO,zO⟩,MN⟩
theorem SY {p:Prop}(h:p:=by first|omega|exact⟨Int.emod_nonneg _ oM,Int.le_of_lt (Int.lt_of_lt_of_le (Int.emod_lt_of_pos _ oM) oM),fun _=>Int.emod_lt_of_pos _ oM⟩):p:=h
theorem B3 (w:World)(g:Nat)(sv:Value)(cs:List UInt8)(n0:Nat)(k:Int)(hs:EA w.heap g sv cs n0)(ad:n0+2≤1000000000000)(_hk:BW k)(hk:k≤1000000) :
  Calls Tryz.prog 54 #[zP g,zI k] w (fun e w'=>∃(x0:Int) (n1:Nat),e=.returned (zI x0)∧Ax [g] w w'∧EA w'.heap g sv cs n1∧(n0≤n1∧n1≤n0+2)∧(0≤x0∧x0≤1000000∧(1≤k→x0<k))):=by
 refine At [zP g,zI k] 20 Tryz.func54 R R sM ?_;have a0:Ax [g] w w:=Ax.refl [g] w;have ai:=hs.lt;refine bM R<|A0<|bL [0,0] R<|bO R ?_;by_cases a1:k≤(1:Nat);exact Dd true R R (A5 a1) Aa<|Af<|Ae R<|bM R<|A1<|Ak<|Ai [4] R (zI (0:Nat)) R ⟨(0:Nat),n0,rfl,a0,hs,⟨zO,zO⟩,SY⟩;refine Dd false R R (A6 a1) Aa<|Af<|Ag R<|A2<|bL [0,4,0] R<|bO R<|AG 140 [] [] [zP g] R R Vc Aa (Ff _ g _ _ _ hs oM) ?_;rintro e2 w2 ⟨ag,n2,rfl,a2,a3,ae,a4⟩;refine⟨_,rfl,?_⟩;have a9:=a2.size;have a5:Ax [g] w w2:=a0.trans a2;refine bN R<|A0<|bL [0,0] R<|bO R ?_;by_cases a6:(200:Nat)<k;refine BG true R R (A5 a6) Aa<|Af<|Ae R<|Ab _ [0,0,0,4,0,0] R<|bO R ?_;refine DU (ag*(256:Nat)) R R (Eh sD sD) Aa<|bO R ?_;refine AG 140 [] [] [zP g] R R Vc Aa (Ff _ g _ _ _ a3 oM) ?_;rintro e4 w4 ⟨ah,n4,rfl,a7,aa,af,a8⟩;refine⟨_,rfl,?_⟩;have ab:=a7.size;have ac:Ax [g] w w4:=a5.trans a7;refine AP ((ag*(256:Nat))+ah) R R (Eh sD sD) Aa<|bN R<|bL [0,0,0,0] R ?_;exact Ad 2 R<|Dr (((ag*(256:Nat))+ah) % k) R R oM (Int.tmod_eq_emod_of_nonneg oM) Aa<|bN R<|A1<|Ai [4] R (zI (((ag*(256:Nat))+ah) % k)) R ⟨((ag*(256:Nat))+ah) % k,n4,rfl,ac,aa,⟨zO,zO⟩,SY⟩;exact BG false R R (A6 a6) Aa<|Af<|Ag R<|A2<|bL [0,0,0,0] R<|Ad 2 R<|Dr ((ag) % k) R R oM (Int.tmod_eq_emod_of_nonneg oM) Aa<|bN R<|A1<|Ai [4] R (zI ((ag) % k)) R ⟨(ag) % k,n2,rfl,a5,a3,⟨zO,zO⟩,SY⟩
theorem Db (w:World)(g:Nat)(sv:Value)(cs:List UInt8)(n0:Nat)(k:Int)(hs:EA w.heap g sv cs n0)(a6:n0+2≤1000000000000)(_hk:BW k)(hk:k≤1000000) :
  Calls Tryz.prog 112 #[zP g,zI k] w (fun e w'=>∃(x0:Bool) (n1:Nat),e=.returned (.bool x0)∧Ax [g] w w'∧EA w'.heap g sv cs n1∧(n0≤n1∧n1≤n0+2)∧True):=by
 refine At [zP g,zI k] 9 Tryz.func112 R R sM ?_;have a2:Ax [g] w w:=Ax.refl [g] w;have a9:=hs.lt;refine bM R<|bL [0,0,4,0,0] R<|Ad 2 R<|AG 54 [] [] [zP g,zI k] R R H4 Aa (B3 _ g _ _ _ _ hs oM _hk sD) ?_;rintro e1 w1 ⟨a8,n1,rfl,a0,a3,a7,a1⟩;refine⟨_,rfl,?_⟩;have a4:=a0.size;have a5:Ax [g] w w1:=a2.trans a0;exact Ap (decide (a8=((0:Nat):Int))) R R R Aa<|bN R<|A1<|Ai [4] R (.bool<|decide (a8=((0:Nat):Int))) R ⟨decide (a8=((0:Nat):Int)),n1,rfl,a5,a3,⟨zO,zO⟩,(by trivial)⟩
theorem FK (w:World)(g:Nat)(sv:Value)(cs:List UInt8)(n0:Nat)(hs:EA w.heap g sv cs n0)(az:n0+8≤1000000000000)  :
  Calls Tryz.prog 191 #[zP g] w (fun e w'=>∃(x0:Int) (n1:Nat),e=.returned (zI x0)∧Ax [g] w w'∧EA w'.heap g sv cs n1∧(n0≤n1∧n1≤n0+8)∧(0≤x0∧x0<1000003)):=by
 refine At [zP g] 25 Tryz.func191 R R sM ?_;have ag:Ax [g] w w:=Ax.refl [g] w;have bc:=hs.lt;refine bM R<|A0<|bL [0,4] R<|bO R<|AG 54 [] [] [zP g,zI ((6:Nat):Int)] R R H4 Aa (B3 _ g _ _ _ _ hs oM oM sD) ?_;rintro e1 w1 ⟨ba,n1,rfl,a2,a0,b0,a3⟩;refine⟨_,rfl,?_⟩;have ah:=a2.size;have a1:Ax [g] w w1:=ag.trans a2;refine Af<|A3<|bL [0,0] R ?_;by_cases a4:ba=(0:Nat);refine Ap true R R (A5 a4) Aa<|bN R<|Ae R<|bL [0,4,0,0] R<|bO R<|AG 54 [] [] [zP g,zI ((3:Nat):Int)] R R H4 Aa (B3 _ g _ _ _ _ a0 oM oM sD) ?_;rintro e3 w3 ⟨b9,n3,rfl,a5,ai,b1,a6⟩;refine⟨_,rfl,?_⟩;have aj:=a5.size;have ak:Ax [g] w w3:=a1.trans a5;refine Cj ((1000002:Nat)-b9) R R (Eh sD sD) Aa<|bN R<|A1<|AO<|Ak ?_;exact Ai [2] R (zI ((1000002:Nat)-b9)) R ⟨(1000002:Nat)-b9,n3,rfl,ak,ai,⟨zO,zO⟩,(by first|omega|exact BN _)⟩;refine Ap false R R (A6 a4) Aa<|bN R<|Ag R<|bL [0,0] R ?_;by_cases a7:ba=(1:Nat);refine Ap true R R (A5 a7) Aa<|bN R<|Ae R<|bL [0,4,0,0,4,0,0,0,4,0,0,0] R<|bO R<|AG 54 [] [] [zP g,zI ((256:Nat):Int)] R R H4 Aa (B3 _ g _ _ _ _ a0 oM oM sD) ?_;rintro e5 w5 ⟨b6,n5,rfl,a8,al,b2,a9⟩;refine⟨_,rfl,?_⟩;have am:=a8.size;have an:Ax [g] w w5:=a1.trans a8;refine DU (b6*(65536:Nat)) R R (Eh sD sD) Aa<|bO R ?_;refine AG 54 [] [] [zP g,zI ((256:Nat):Int)] R R H4 Aa (B3 _ g _ _ _ _ al oM oM sD) ?_;rintro e6 w6 ⟨b7,n6,rfl,aa,ao,b3,ab⟩;refine⟨_,rfl,?_⟩;have ap:=aa.size;have aq:Ax [g] w w6:=an.trans aa;refine DU (b7*(256:Nat)) R R (Eh sD sD) Aa ?_;refine AP ((b6*(65536:Nat))+(b7*(256:Nat))) R R (Eh sD sD) Aa<|bO R ?_;refine AG 54 [] [] [zP g,zI ((256:Nat):Int)] R R H4 Aa (B3 _ g _ _ _ _ ao oM oM sD) ?_;rintro e7 w7 ⟨b8,n7,rfl,ac,ar,b4,ad⟩;refine⟨_,rfl,?_⟩;have au:=ac.size;have av:Ax [g] w w7:=aq.trans ac;refine AP (((b6*(65536:Nat))+(b7*(256:Nat)))+b8) R R (Eh sD sD) Aa ?_;exact Dr (md (((b6*(65536:Nat))+(b7*(256:Nat)))+b8)) R R (by decide) (Int.tmod_eq_emod_of_nonneg oM) Aa<|bN R<|A1<|AO<|Ak<|Ai [2] R (zI<|md (((b6*(65536:Nat))+(b7*(256:Nat)))+b8)) R ⟨md (((b6*(65536:Nat))+(b7*(256:Nat)))+b8),n7,rfl,av,ar,⟨zO,zO⟩,(by first|omega|exact BN _)⟩;refine Ap false R R (A6 a7) Aa<|bN R<|Ag R<|A2<|bL [0,4,0] R<|bO R<|AG 54 [] [] [zP g,zI ((7:Nat):Int)] R R H4 Aa (B3 _ g _ _ _ _ a0 oM oM sD) ?_;rintro e8 w8 ⟨bb,n8,rfl,ae,aw,b5,af⟩;refine⟨_,rfl,?_⟩;have ax:=ae.size;have ay:Ax [g] w w8:=a1.trans ae;exact bN R<|A1<|Ai [2] R (zI bb) R ⟨bb,n8,rfl,ay,aw,⟨zO,zO⟩,(by first|omega|exact BN _)⟩
theorem Ha (w:World)(g:Nat)(sv:Value)(cs:List UInt8)(n0:Nat)(k:Int)(hs:EA w.heap g sv cs n0)(ax:n0+(8*k.toNat)≤1000000000000)(_hk:BW k)(hk:k≤1000) :
  Calls Tryz.prog 109 #[zP g,zI k] w (fun e w'=>∃(v0:Value) (x0:Sr) (n1:Nat),e=.returned (v0)∧Ax [g] w w'∧EA w'.heap g sv cs n1∧(n0≤n1∧n1≤n0+(8*k.toNat))∧Fr (Bz rI 2) w.heap.size w'.heap.size w'.heap v0 x0∧(x0.length=k.toNat∧Bd x0=true)):=by
 refine At [zP g,zI k] 19 Tryz.func109 R R sM ?_;have ab:Ax [g] w w:=Ax.refl [g] w;have b1:=hs.lt;refine bM R<|bL [3,0] R (CY (rI) Bi Bq BL Aa fun v1 w1 a4 aj ac=>?_);have a6:=a4.size;have ad:Ax [g] w w1:=ab.ext a4;have a7:=hs.ext a4;refine bN R<|A0<|bM R<|A3 ?_;refine AV (S:=Nat×Value×Sr×Nat) (fun⟨j,vo,xs,m⟩=>([(5,vo),(6,zI (j:Int)),(0,zP g),(1,zI k)])) (fun⟨j,vo,xs,m⟩ W=>Ax [g] w W∧Fr (Bz rI 2) w.heap.size W.heap.size W.heap vo xs∧EA W.heap g sv cs m∧j≤k.toNat∧(n0≤m∧m≤n0+8*j)∧(xs.length=j∧Bd xs=true)) (fun⟨j,vo,xs,m⟩=>k.toNat-j) (0,v1,[],n0) ⟨rfl,rfl,rfl,rfl,trivial⟩ ⟨ad,ac.up o1,a7,sD,oM,(by exact⟨rfl,rfl⟩)⟩ ?_;clear ab ac aj a4 a6 ad;rintro⟨j,vo,xs,m⟩ ρ2 w2 ⟨a8,a0,a1,ae,hm,hxs⟩;have ak:w.heap.size≤w2.heap.size:=a8.size;refine A0<|bL [0,0,0] R<|Ad 2 R ?_;by_cases af:(j:Int)<k;refine AE true R R (A5 af) Aa<|Af<|Ae R<|A2<|A0<|A3<|Ab _ [0,0,4,3,4,0] R<|Ad 2 R<|AG 191 [] [] [zP g] R R SL Aa (FK _ g _ _ _ a1 oM) ?_;rintro e4 w4 ⟨b0,n4,rfl,a9,al,ay,ag⟩;refine⟨_,rfl,?_⟩;have am:=a9.size;have an:Ax [g] w w4:=a8.trans a9;have ao:=a0.chg (o1) a9 fun b hb=>by have:b=g:=(by simpa using hb);omega
 refine CH (u:=zI b0) (B:=w4.heap.size) Bi Bq BL R R (NY w4.heap.size w4.heap.size _ _ oM) (A7 _) Aa fun v6 w6 a5 az ap=>?_;have aq:=a5.size;have ah:Ax [g] w w6:=an.ext a5;have a2:=ao.ext (o1) a5;have a3:=al.ext a5;refine DV (v:=vo) (a:=v6) Bq BL R R R a2 ah.size ap.rd1 sD (by unfold maxLen;first|omega|assumption|(simp;done)|(simp;omega)) Aa fun v7 w7 F7 aa ai ar=>?_;have au:Ax [g] w w7:=ah.fresh aa (fun c hc=>A8 (A7 _) (ai c hc).1);have av:=aa.size;have aw:=a3.chg aa fun c hc=>zH<|ai c hc
 refine bN R<|Ab _ [0,0,0] R<|bO R<|AP ((j+1:Nat):Int) R R (Ba oM oM) Aa<|bN R ?_;exact⟨(j+1,v7,xs++[b0],n4),_,rfl,zR,⟨au,ar.up o1,aw,sD,oM,(by exact⟨by rw[z4,hxs.1];rfl,by unfold Bd at *;rw[List.all_append,hxs.2];simp only[List.all_cons,List.all_nil,Bool.and_true,Bool.true_and];exact Dl.2 oM⟩)⟩,zD⟩;exact AE false R R (A6 af) Aa<|Af<|Ag R<|A4<|As<|As<|Am<|bL [0,0] R<|Ac 2 R<|A1<|Ai [4] R vo R ⟨vo,xs,m,rfl,a8,a1,⟨zO,zO⟩,a0.up o1,(by exact⟨zO,hxs.2⟩)⟩
theorem XH (a:Option Addr)(n c:Nat)(w:World):(Instr.build 196 #[(0,.slice a n c)]).run Tryz.prog w=.ok (.agg #[.slice a n c,zI 0,.int .u64 0]) w:=by kernel_rfl
theorem Zk {v:Value}{n:Nat}(h:Ea v n)(w:World):(Instr.build 196 #[(0,v)]).run Tryz.prog w=.ok (.agg #[v,zI 0,.int .u64 0]) w:=by obtain⟨a,c,rfl,_⟩:=h;exact XH a n c w
theorem KN (w:World)(vc:Value)(cs:List UInt8)(hcs:Rd (Bg rU) w.heap vc cs)  :
  Calls Tryz.prog 52 #[vc] w (fun e w'=>∃g:Nat,e=.returned (zP g)∧AK w w'∧EA w'.heap g vc cs 0∧w.heap.size≤g):=by
 refine At [vc] 6 Tryz.func52 R R sM ?_;have a0:AK w w:=AK.refl w;have a7:=hcs.lenle;refine bM R<|bL [0,0,3,0] R<|bO R<|Bp (ps:=#[(0,vc)]) (.agg #[vc,zI 0,.int .u64 0]) (by simp only[zc,zf,zh];rfl) (fun wq=>Zk hcs.isSl wq) Aa (C4 R Aa fun w1 a1 a6 a3=>?_);have a4:=a1.size;have a2:=a0.trans a1;have a5:=EA.new hcs a2 a3 a0.size;exact bN R<|A1<|Ai [2] R (zP w.heap.size) R ⟨w.heap.size,rfl,a2,a5,a0.size⟩
end
end Go.Proofs.YtbcopolhaljhhaaGreat
