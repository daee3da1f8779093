/- Gz, Ha, Hb, Hc, Hd, He, Hf, Hg, Hh, Hi, Hj, Hk, Hl, Hm, T, Sa, Sb, Sc, Sf, Sk, Va, Vb, Vg, Vh: texts of this claim, joined; what the claim does not come to is left out. -/
import Derived.Test.YtnokbaiemimhjaaGreatQE2
import Derived.Test.YtnokbaiemimhjaaGreatProg
set_option linter.unusedVariables false
set_option linter.unusedSimpArgs false
namespace Go.Proofs.YtnokbaiemimhjaaGreat
open Go Go.RowKit
section
def Nb (m:Nat)(A:List Sr)(cs:List AF)(k:Nat):Prop:=∀j,j<k→(cs.getD j AF.zero).op=6→((Bb m A (cs.take j)).getD (cs.getD j AF.zero).b.toNat []).getD 0 0≠0
section
variable {m k:Nat} {A R:List Sr} {cs:List AF} {c:AF}
theorem DH (hk:k<cs.length):Bb m A (cs.take (k+1))=Bb m A (cs.take k)++[G7 m A (Bb m A (cs.take k)) (cs.getD k AF.zero)]:=by
 rw[Cr AF.zero hk,H7]
theorem OF (h:c.op=1):G7 m A R c=A.getD c.num.toNat []:=if_pos h
theorem Mk (h:c.op=3):G7 m A R c=DU (R.getD c.a.toNat []) (R.getD c.b.toNat []):=by unfold G7;rw[if_neg (by omega),if_pos h]
theorem Ml (h:c.op=4):G7 m A R c=Dg (R.getD c.a.toNat []) (R.getD c.b.toNat []):=by unfold G7;rw[if_neg (by omega),if_neg (by omega),if_pos h]
theorem Mm (h:c.op=5):G7 m A R c=C7 (R.getD c.a.toNat []) (R.getD c.b.toNat []):=by unfold G7;rw[if_neg (by omega),if_neg (by omega),if_neg (by omega),if_pos h]
theorem Mn (h:c.op=7):G7 m A R c=CD (R.getD c.a.toNat []) 1000002:=by unfold G7;rw[if_neg (by omega),if_neg (by omega),if_neg (by omega),if_neg (by omega),if_pos h]
theorem Mo (h:c.op=6):G7 m A R c=BR (R.getD c.a.toNat []) (R.getD c.b.toNat []):=by unfold G7;rw[if_neg (by omega),if_neg (by omega),if_neg (by omega),if_neg (by omega),if_neg (by omega),if_pos h]
theorem Mp (h:c.op≠1∧c.op≠3∧c.op≠4∧c.op≠5∧c.op≠7∧c.op≠6):G7 m A R c=cst m c.num:=by
 unfold G7;rw[if_neg h.1,if_neg h.2.1,if_neg h.2.2.1,if_neg h.2.2.2.1,if_neg h.2.2.2.2.1,if_neg h.2.2.2.2.2]
theorem VB (hA:Bt m A)(hR:Bt m R)(hl:R.length=k)(h:GL A.length k c):Bs m (G7 m A R c):=by
 have hg:∀x:Int,0≤x→x<((k:Nat):Int)→Bs m (R.getD x.toNat []):=fun x h0 h1=>hR _ (by omega)
 rcases h with⟨h1,_,_,h2,h3⟩|⟨h1,_,_,h2,h3⟩|⟨h1,h2,h3,_⟩|⟨h1,h2,_⟩
 ·rw[OF h1];exact hA _ (by omega)
 ·rw[Mp (by omega)];exact DE (C3.2 ⟨h2,h3⟩)
 ·have ha:=hg c.a h2.1 h2.2
  rcases h1 with h1|h1|h1|h1
  ·rw[Mk h1];exact H3 ha
  ·rw[Ml h1];exact JO ha
  ·rw[Mm h1];exact HX ha
  ·rw[Mo h1];exact H4 ha
 ·rw[Mn h1];exact PK (hg c.a h2.1 h2.2)
theorem YB (h:Bt m (Bb m A (cs.take k)))(hA:Bt m A)(hf:GL A.length k (cs.getD k AF.zero))(hk:k<cs.length):Bt m (Bb m A (cs.take (k+1))):=by
 rw[DH hk]
 exact Bt.snoc h (VB hA h (by rw[BE,List.length_take];omega) hf)
theorem dO:Nb m A cs 0:=fun j hj=>absurd hj (Nat.not_lt_zero j)
theorem YC (h:Nb m A cs k)(hk:(cs.getD k AF.zero).op≠6):Nb m A cs (k+1):=fun j hj h6=>by
 by_cases e:j=k
 ·subst e;exact absurd h6 hk
 ·exact h j (by omega) h6
theorem YD (h:Nb m A cs k)(hk:((Bb m A (cs.take k)).getD (cs.getD k AF.zero).b.toNat []).getD 0 0≠0):Nb m A cs (k+1):=fun j hj h6=>by
 by_cases e:j=k
 ·subst e;exact hk
 ·exact h j (by omega) h6
theorem VC {n:Nat}(hk:k<n)(h6:(cs.getD k AF.zero).op=6)(hz:((Bb m A (cs.take k)).getD (cs.getD k AF.zero).b.toNat []).getD 0 0=0):¬Nb m A cs n:=fun h=>h k hk h6 hz
end
theorem DG.nz {m:Nat}{A:List Sr}{T:Tp}(h:DG m A T):Nb m A T.code T.code.length:=fun j hj h6=>by
 have hf:=h.form j hj
 have hd:=h.dv j hj h6
 unfold GL at hf
 have hb:(T.code.getD j AF.zero).b.toNat<j:=by omega
 have hs:=(h.ser (T.code.getD j AF.zero).b.toNat (by omega)).2
 have e:(Bb m A (T.code.take j)).getD (T.code.getD j AF.zero).b.toNat []=(Bb m A T.code).getD (T.code.getD j AF.zero).b.toNat []:=by
  have h9:=Mj (m:=m) (A:=A) (T.code.take j) (T.code.drop j) (k:=(T.code.getD j AF.zero).b.toNat) (by rw[List.length_take];omega)
  rw[List.take_append_drop]at h9
  exact h9.symm
 rw[e,hs]
 exact hd
section io
variable {ni k:Nat} {c:AF}
theorem GL.i1 (h:GL ni k c)(h1:c.op=1):(0≤c.num∧c.num<((ni:Nat):Int)):=by unfold GL at h;omega
theorem GL.i2 (h:GL ni k c)(h1:3≤c.op∧c.op≤6):(0≤c.a∧c.a<((k:Nat):Int))∧(0≤c.b∧c.b<((k:Nat):Int)):=by unfold GL at h;omega
theorem GL.i7 (h:GL ni k c)(h1:c.op=7):(0≤c.a∧c.a<((k:Nat):Int)):=by unfold GL at h;omega
end io
theorem QP {S:List Nat}{H:Array Obj}{cs:List Value}{x:AF}(h:RN S QI H cs x):cs=jT x∧Yi x:=by
 obtain⟨F,h,_⟩:=h
 exact⟨h.1,h.2.1⟩
def YE (m:Nat)(A:List Sr)(cs:List AF)(c:Int):Prop:=(c=0∧Nb m A cs cs.length)∨(c=6∧¬Nb m A cs cs.length)
end
section
def FH (B:List Sr)(r:Int)(s:Sr):List Sr:=B.set r.toNat (DU (B.getD r.toNat []) s)
def NZ (cs:List AF)(R:List Sr)(k:Nat)(B:List Sr):List Sr :=
 if (cs.getD k AF.zero).op=3 then FH (FH B (cs.getD k AF.zero).a (B.getD k [])) (cs.getD k AF.zero).b (B.getD k [])
 else if (cs.getD k AF.zero).op=4 then FH (FH B (cs.getD k AF.zero).a (B.getD k [])) (cs.getD k AF.zero).b (CD (B.getD k []) 1000002)
 else if (cs.getD k AF.zero).op=5 then FH (FH B (cs.getD k AF.zero).a (C7 (B.getD k []) (R.getD (cs.getD k AF.zero).b.toNat []))) (cs.getD k AF.zero).b (C7 (B.getD k []) (R.getD (cs.getD k AF.zero).a.toNat []))
 else if (cs.getD k AF.zero).op=6 then FH (FH B (cs.getD k AF.zero).a (BR (B.getD k []) (R.getD (cs.getD k AF.zero).b.toNat []))) (cs.getD k AF.zero).b (CD (C7 (BR (B.getD k []) (R.getD (cs.getD k AF.zero).b.toNat [])) (R.getD k [])) 1000002)
 else if (cs.getD k AF.zero).op=7 then FH B (cs.getD k AF.zero).a (CD (B.getD k []) 1000002)else B
def TF (cs:List AF)(R:List Sr):Nat→List Sr→List Sr
 |0,B=>B
 |k+1,B=>TF cs R k (NZ cs R k B)
def N3 (os:List Int)(ws:List Int):Nat→List Sr→List Sr
 |0,B=>B
 |k+1,B=>(N3 os ws k B).set (os.getD k 0).toNat (((N3 os ws k B).getD (os.getD k 0).toNat []).set 0 (md (((N3 os ws k B).getD (os.getD k 0).toNat []).getD 0 0+ws.getD k 0)))
def JW (R:List Sr):List Sr:=R.map fun s=>List.replicate s.length 0
def L6 (cs:List AF)(R:List Sr)(os ws:List Int):List Sr:=TF cs R cs.length (N3 os ws os.length (JW R))
section
variable {m:Nat} {cs:List AF} {R B:List Sr} {os ws:List Int}
theorem Hu (h:Bt m R):Bt m (JW R):=fun k hk=>by
 have hk':k<R.length:=by unfold JW at hk;simpa using hk
 have e:(JW R).getD k []=List.replicate (R.getD k []).length 0:=by unfold JW;simp[List.getD_eq_getElem?_getD,List.getElem?_map,hk']
 rw[e]
 exact⟨by rw[List.length_replicate];exact(h k hk').1,H2 _⟩
@[simp] theorem D7:(JW R).length=R.length:=by simp[JW]
@[simp] theorem Eo (k:Nat):(N3 os ws k B).length=B.length:=by
 induction k with
 |zero=>rfl
 |succ k ih=>show((N3 os ws k B).set _ _).length=_;rw[List.length_set,ih]
theorem Bt.set {k:Nat}{s:Sr}(h:Bt m B)(hs:Bs m s):Bt m (B.set k s):=fun j hj=>by
 rw[List.length_set]at hj
 by_cases e:j=k
 ·rw[e,Bz _ _ _ _ _ (by omega),if_pos rfl];exact hs
 ·rw[show(B.set k s).getD j []=B.getD j []from by rw[List.getD_eq_getElem?_getD,List.getElem?_set_ne (fun h=>e h.symm),← List.getD_eq_getElem?_getD]];exact h j hj
theorem KB {s:Sr}{y:Int}(h:B7 s=true)(hy:0≤y∧y<1000003):B7 (s.set 0 y)=true:=by
 cases s with
 |nil=>rfl
 |cons x s =>
  rw[List.set_cons_zero]
  unfold B7 at h ⊢
  rw[List.all_cons]at h ⊢
  have:=Bool.and_eq_true_iff.1 h
  rw[this.2,Bool.and_true]
  exact C3.2 hy
theorem Ir (h:Bt m B)(ho:∀k,k<os.length→(os.getD k 0).toNat<B.length):∀k,k≤os.length→Bt m (N3 os ws k B)
 |0,_=>h
 |k+1,hk=>by
  have ih:=Ir h ho k (by omega)
  have h9:=ih (os.getD k 0).toNat (by rw[Eo];exact ho k (by omega))
  exact ih.set ⟨by rw[List.length_set];exact h9.1,KB h9.2 (BK _)⟩
@[simp] theorem C4 {r:Int}{s:Sr}:(FH B r s).length=B.length:=by unfold FH;rw[List.length_set]
theorem D8 {r:Int}{s:Sr}(h:Bt m B)(hr:r.toNat<B.length):Bt m (FH B r s):=h.set (H3 (h _ hr))
theorem Lx (k:Nat):(NZ cs R k B).length=B.length:=by
 unfold NZ
 split
 ·rw[C4,C4]
 ·split
  ·rw[C4,C4]
  ·split
   ·rw[C4,C4]
   ·split
    ·rw[C4,C4]
    ·split
     ·rw[C4]
     ·rfl
theorem Hv {ni k:Nat}(h:Bt m B)(hk:k≤B.length)(hf:GL ni k (cs.getD k AF.zero)):Bt m (NZ cs R k B):=by
 have h2:=fun h9=>hf.i2 h9
 have h7:=fun h9=>hf.i7 h9
 unfold NZ
 split
 ·have:=h2 (by omega);exact D8 (D8 h (by omega)) (by rw[C4];omega)
 ·split
  ·have:=h2 (by omega);exact D8 (D8 h (by omega)) (by rw[C4];omega)
  ·split
   ·have:=h2 (by omega);exact D8 (D8 h (by omega)) (by rw[C4];omega)
   ·split
    ·have:=h2 (by omega);exact D8 (D8 h (by omega)) (by rw[C4];omega)
    ·split
     ·have:=h7 (by omega);exact D8 h (by omega)
     ·exact h
theorem So:∀(n:Nat)(B:List Sr),(TF cs R n B).length=B.length
 |0,_=>rfl
 |n+1,B=>by show(TF cs R n _).length=_;rw[So n,Lx]
theorem Sp {ni:Nat}(hf:∀k,k<cs.length→GL ni k (cs.getD k AF.zero)):∀(n:Nat)(B:List Sr),n≤cs.length→n≤B.length→Bt m B→Bt m (TF cs R n B)
 |0,_,_,_,h=>h
 |n+1,B,hn,hb,h=>Sp hf n _ (by omega) (by rw[Lx];omega) (Hv h (by omega) (hf n (by omega)))
theorem PY {k:Nat}(h:(cs.getD k AF.zero).op=3):NZ cs R k B=FH (FH B (cs.getD k AF.zero).a (B.getD k [])) (cs.getD k AF.zero).b (B.getD k []):=if_pos h
theorem PZ {k:Nat}(h:(cs.getD k AF.zero).op=4):NZ cs R k B=FH (FH B (cs.getD k AF.zero).a (B.getD k [])) (cs.getD k AF.zero).b (CD (B.getD k []) 1000002):=by unfold NZ;rw[if_neg (by omega),if_pos h]
theorem Q0 {k:Nat}(h:(cs.getD k AF.zero).op=5):NZ cs R k B=FH (FH B (cs.getD k AF.zero).a (C7 (B.getD k []) (R.getD (cs.getD k AF.zero).b.toNat []))) (cs.getD k AF.zero).b (C7 (B.getD k []) (R.getD (cs.getD k AF.zero).a.toNat [])):=by unfold NZ;rw[if_neg (by omega),if_neg (by omega),if_pos h]
theorem Q3 {k:Nat}(h:(cs.getD k AF.zero).op=6):NZ cs R k B=FH (FH B (cs.getD k AF.zero).a (BR (B.getD k []) (R.getD (cs.getD k AF.zero).b.toNat []))) (cs.getD k AF.zero).b (CD (C7 (BR (B.getD k []) (R.getD (cs.getD k AF.zero).b.toNat [])) (R.getD k [])) 1000002):=by
 unfold NZ;rw[if_neg (by omega),if_neg (by omega),if_neg (by omega),if_pos h]
theorem Q4 {k:Nat}(h:(cs.getD k AF.zero).op=7):NZ cs R k B=FH B (cs.getD k AF.zero).a (CD (B.getD k []) 1000002):=by unfold NZ;rw[if_neg (by omega),if_neg (by omega),if_neg (by omega),if_neg (by omega),if_pos h]
theorem Q5 {k:Nat}(h:(cs.getD k AF.zero).op<3∨7<(cs.getD k AF.zero).op):NZ cs R k B=B:=by unfold NZ;rw[if_neg (by omega),if_neg (by omega),if_neg (by omega),if_neg (by omega),if_neg (by omega)]
theorem H8 {n k:Nat}{D B':List Sr}(h:TF cs R n B=D)(hn:n=k+1)(hi:NZ cs R k B=B'):TF cs R k B'=D:=by
 subst hn
 rw[← hi];exact h
end
theorem OG {e:TypeId}{H:Array Obj}{v:Value}{us:List Value}{F:List Nat}(h:AS rV e H v us F)(hl:0<us.length):∃g cap,F=[g]∧v=.slice (some ⟨g,0,none⟩) us.length cap∧∀k,k<us.length→EZ H (Aw v k 1)=some (us.getD k undef):=by
 rcases h with⟨_,rfl,_⟩|⟨vs,g,cap,cur,F',hels,rfl,hg,r1,r2,r3,r4,rfl⟩
 ·simp at hl
 ·obtain⟨rfl,rfl⟩:=Gt hels
  refine⟨g,cap,rfl,rfl,fun k hk=>?_⟩
  have hu:vs[k]? = some (vs.getD k undef):=by simp[List.getD_eq_getElem?_getD,hk]
  rw[DY]
  simp only[EZ,BV,hg,Nat.zero_add]
  rw[← r4,List.getElem?_take,if_pos hk]at hu
  rw[r4]at hu
  simpa using hu
section
variable {e:TypeId} {B:Nat} {w w':World} {v:Value} {xs:List (List Int)} {us:List Value} {F:List Nat}
theorem Ii.getF {S:List Nat}{H:Array Obj}(h:Ii e S B H v xs us F){k:Nat}(hk:k<xs.length):∃u,EZ H (Aw v k 1)=some u∧RN (S++F) (B3 rI) H u (xs.getD k []):=by
 obtain⟨g,cap,_,_,h3⟩:=OG h.own (by rw[h.len];omega)
 exact⟨_,h3 k (by rw[h.len];exact hk),h.els k hk⟩
theorem Ii.ofFr {S:List Nat}{e1:TypeId}{U:Nat}{H:Array Obj}(h:Fr (AS (AS rI e1) e) B U H v xs)(hS:∀b∈S,b<B):∃us F,Ii e S B H v xs us F∧∀b∈F,b<U:=by
 obtain⟨F,h1,h2,h3⟩:=h
 rcases h1 with⟨rfl,rfl,rfl⟩|⟨us,g,cap,cur,F',hels,rfl,hg,r1,r2,r3,r4,rfl⟩
 ·exact⟨[],[],⟨.inl ⟨rfl,rfl,rfl⟩,List.nodup_nil,(fun b hb=>absurd hb List.not_mem_nil),rfl,(fun k hk=>absurd hk (Nat.not_lt_zero k))⟩,(fun b hb=>absurd hb List.not_mem_nil)⟩
 ·have hl:=hels.length
  have hn:=List.nodup_cons.1 h2
  refine⟨us,[g],⟨.inr ⟨us,g,cap,cur,[],LK (hels.cells1 o1),by rw[hl],hg,by omega,r2,r3,by rw[hl];exact r4,rfl⟩,by simp,fun b hb=>?_,hl,fun k hk=>?_⟩,fun b hb=>?_⟩
  ·have:=h3 b (by rw[Ab hb];exact List.mem_cons_self ..);omega
  ·obtain⟨u,G,hu,q1,q2,q3,_⟩:=hels.at_ (k:=k) [] hk hn.2
   have e1:us.getD k undef=u:=by simp[List.getD_eq_getElem?_getD,hu]
   rw[e1]
   exact⟨G,q1.rd id,fun b hb hm=>by
    have hb':=q3 b hb
    rcases List.mem_append.1 hm with hm|hm
    ·have h8:=hS b hm
     have h9:=(h3 b (List.mem_cons_of_mem _ hb')).1
     omega
    ·rw[Ab hm]at hb'
     exact hn.1 hb'⟩
  ·exact(h3 b (by rw[Ab hb];exact List.mem_cons_self ..)).2
end
section ops
variable {P:Program} {ops:Array Oper} {w0:World} {Q:Act→World→Prop} {os:List Oper} {ks:List Nat} {N:Nat} {ρ:Nat→Value} {w:World}
 {d:Nat} {ty:TypeId} {pos:String} {aft:Array Edge} {g:Option (Nat×Bool)} {t e:TypeId} {z:Value} {b:Nat}
theorem VD {S:List Nat}{st:TypeId}{x y:Operand}{v u:Value}{xs:List (List Int)}{r:List Int}{us:List Value}{F:List Nat}{B j:Nat}(hst:(P.info? st).map (·.size)=some 1)(hx:Bm N ρ x=Aw v j 1)(hy:Bm N ρ y=u)
  (hv:Ii e S B w.heap v xs us F) (hr:RN (S++F) (B3 rI) w.heap u r) (hj:j<xs.length) (hu:Up ops N ρ ⟨none,.store st x y,ty,pos,aft,g⟩)
  (h:∀w1,AE F w w1→w1.heap.size=w.heap.size→Ii e S B w1.heap v (xs.set j r) (us.set j u) F→LW P ops w0 Q os ks (mk N ρ) w1) :
  LW P ops w0 Q (⟨none,.store st x y,ty,pos,aft,g⟩::os) (4::ks) (mk N ρ) w:=by
 obtain⟨g0,cap,hF,hvv,_⟩:=OG hv.own (by rw[hv.len];omega)
 have hone:=hr.one1 g1
 obtain⟨w1,F',q1,q2,q3,q4,q5,q6⟩:=If (P:=P) Bd hst hv.own hv.nd (by rw[hv.len];exact hj) (u:=u) (y:=u) (G:=[]) ⟨rfl,rfl,hone.1,hone.2⟩ List.nodup_nil (fun b hb=>by cases hb)
 obtain⟨g2,cap2,hF2,hvv2,_⟩:=OG q2 (by rw[List.length_set,hv.len];omega)
 have hg:g2=g0:=by
  rw[hvv]at hvv2
  injection hvv2 with h1 _ _
  injection h1 with h1
  injection h1 with h1 _ _
  exact h1.symm
 have hFF:F'=F:=by rw[hF2,hF,hg]
 subst hFF
 have hc:AE F' w w1:=q5.sub fun x hx=>List.mem_of_mem_take hx
 refine Kc rfl hu w1 (Ct hx hy q1) (h w1 hc q6 ⟨q2,hv.nd,hv.low,by rw[List.length_set,List.length_set];exact hv.len,fun k hk=>?_⟩)
 rw[List.length_set]at hk
 have hku:k<us.length:=by rw[hv.len];exact hk
 rw[Bz _ _ _ _ _ (by rw[hv.len];exact hj),Bz _ _ _ _ _ hj]
 have hcS:AE (S++F') w w1:=hc.sub fun b hb=>List.mem_append_right _ hb
 by_cases ek:k=j
 ·rw[if_pos ek,if_pos ek];exact hr.chg g1 hcS
 ·rw[if_neg ek,if_neg ek]
  exact(hv.els k hk).chg g1 hcS
theorem YF {st e':TypeId}{x y:Operand}{v u:Value}{n:Int}{xs:List (List Int)}{B T r j:Nat}{F:List Nat}(hst:(P.info? st).map (·.size)=some 1)(hx:Bm N ρ x=Aw u j 1)(hy:Bm N ρ y=.int .i64 n)(hn:-9223372036854775808≤n∧n≤9223372036854775807)
  (hv:Ow (AS (AS rI e) e') B T w.heap v xs F) (hr:r<xs.length) (hl:EZ w.heap (Aw v r 1)=some u) (hj:j<(xs.getD r []).length) (hu:Up ops N ρ ⟨none,.store st x y,ty,pos,aft,g⟩)
  (h:∀w1 G,AE G w w1→w1.heap.size=w.heap.size→(∀c∈G,c∈F)→Ow (AS (AS rI e) e') B T w1.heap v (xs.set r ((xs.getD r []).set j n)) F→LW P ops w0 Q os ks (mk N ρ) w1) :
  LW P ops w0 Q (⟨none,.store st x y,ty,pos,aft,g⟩::os) (4::ks) (mk N ρ) w:=by
 obtain⟨hown,hnd,hlow,hhigh⟩:=hv
 rcases hown with⟨_,rfl,_⟩|⟨us,g0,cap,cur,F',hels,rfl,hg,r1,r2,r3,r4,rfl⟩
 ·simp at hr
 ·have hc:=List.nodup_cons.1 hnd
  obtain⟨u',G,q0,q1,q2,q3,q4⟩:=hels.at_ (k:=r) [] hr hc.2
  have hlen:=hels.length
  have hu':u'=u:=by
   rw[DY]at hl
   simp only[EZ,BV,hg,Nat.zero_add]at hl
   rw[← r4,List.getElem?_take,if_pos hr]at q0
   have:some u'=some u:=by rw[← q0,← hl];simp
   exact Option.some.inj this
  subst hu'
  obtain⟨w1,p1,p2,p3,p4⟩:=Pj (P:=P) hst q1 q2 hj hn
  have hgG:g0∉G:=fun hm=>hc.1 (q3 g0 hm)
  refine Kc rfl hu w1 (Ct hx hy p1) (h w1 G p3 p4 (fun c hm=>List.mem_cons_of_mem _ (q3 c hm)) ⟨.inr ⟨us,g0,cap,cur,F',?_,by rw[List.length_set],?_,by rw[List.length_set];exact r1,r2,r3,by rw[List.length_set];exact r4,rfl⟩,hnd,hlow,hhigh⟩)
  ·exact q4 (fun hE hC=>o1.stable hE fun b hb=>p3.block b (o1.lt hE b hb) (hC b hb).2) p2
  ·have hlt:g0<w.heap.size:=(Array.getElem?_eq_some_iff.1 hg).1
   rw[p3.block g0 hlt hgG];exact hg
end ops
section
variable {e1 e:TypeId} {B T:Nat} {w:World} {v:Value} {xs:List (List Int)} {F:List Nat}
theorem Ow.rowO (h:Ow (AS (AS rI e1) e) B T w.heap v xs F){k:Nat}(hk:k<xs.length):∃u,EZ w.heap (Aw v k 1)=some u∧Rd (B3 rI) w.heap u (xs.getD k []):=by
 obtain⟨u,G,q0,q1,_⟩:=h.fr.row o1 [] hk
 exact⟨u,q0,G,q1.rd id⟩
theorem Ow.slO {H:Array Obj}(h:Ow (AS (AS rI e1) e) B T H v xs F):FS v xs.length:=(AS.rd id h.own:B3 (AS rI e1) H v xs F).isSl
theorem Ii.ofOw {S:List Nat}(h:Ow (AS (AS rI e1) e) B T w.heap v xs F)(hS:∀b∈S,b<B):∃us F',Ii e S B w.heap v xs us F'∧∀b∈F',b∈F:=by
 obtain⟨h1,h2,h3,h4⟩:=h
 rcases h1 with⟨rfl,rfl,rfl⟩|⟨us,g,cap,cur,F',hels,rfl,hg,r1,r2,r3,r4,rfl⟩
 ·exact⟨[],[],⟨.inl ⟨rfl,rfl,rfl⟩,List.nodup_nil,(fun b hb=>absurd hb List.not_mem_nil),rfl,(fun k hk=>absurd hk (Nat.not_lt_zero k))⟩,(fun b hb=>absurd hb List.not_mem_nil)⟩
 ·have hl:=hels.length
  have hn:=List.nodup_cons.1 h2
  refine⟨us,[g],⟨.inr ⟨us,g,cap,cur,[],LK (hels.cells1 o1),by rw[hl],hg,by omega,r2,r3,by rw[hl];exact r4,rfl⟩,by simp,fun b hb=>?_,hl,fun k hk=>?_⟩,fun b hb=>?_⟩
  ·exact h3 b (by rw[Ab hb];exact List.mem_cons_self ..)
  ·obtain⟨u,G,hu,q1,q2,q3,_⟩:=hels.at_ (k:=k) [] hk hn.2
   have e1:us.getD k undef=u:=by simp[List.getD_eq_getElem?_getD,hu]
   rw[e1]
   exact⟨G,q1.rd id,fun b hb hm=>by
    have hb':=q3 b hb
    rcases List.mem_append.1 hm with hm|hm
    ·have h8:=hS b hm
     have h9:=h3 b (List.mem_cons_of_mem _ hb')
     omega
    ·rw[Ab hm]at hb'
     exact hn.1 hb'⟩
  ·rw[Ab hb];exact List.mem_cons_self ..
end
theorem VE {R:List Sr}{k:Nat}(hk:k<R.length):JW (R.take k)++[List.replicate (R.getD k []).length 0]=JW (R.take (k+1)):=by
 unfold JW
 rw[Cr [] hk,List.map_append];rfl
end
section
def Tv (cs:List AF)(L:List Sr):Nat→List Sr→List Sr
 |0,B=>B
 |k+1,B=>if (cs.getD k AF.zero).op=1 then FH (Tv cs L k B) (cs.getD k AF.zero).num (L.getD k [])else Tv cs L k B
def dP (ni m:Nat)(cs:List AF)(L:List Sr):List Sr:=Tv cs L cs.length (List.replicate ni (List.replicate m 0))
section
variable {m ni:Nat} {cs:List AF} {L B:List Sr}
theorem Mq {k:Nat}(h:(cs.getD k AF.zero).op=1):Tv cs L (k+1) B=FH (Tv cs L k B) (cs.getD k AF.zero).num (L.getD k []):=if_pos h
theorem Mr {k:Nat}(h:(cs.getD k AF.zero).op≠1):Tv cs L (k+1) B=Tv cs L k B:=if_neg h
@[simp] theorem Is (k:Nat):(Tv cs L k B).length=B.length:=by
 induction k with
 |zero=>rfl
 |succ k ih =>
  by_cases h:(cs.getD k AF.zero).op=1
  ·rw[Mq h,C4,ih]
  ·rw[Mr h,ih]
theorem JX (m ni:Nat):Bt m (List.replicate ni (List.replicate m 0)):=fun k hk=>by
 rw[List.length_replicate]at hk
 have e:(List.replicate ni (List.replicate m (0:Int))).getD k []=List.replicate m 0:=by simp[List.getD_eq_getElem?_getD,hk]
 rw[e]
 exact⟨List.length_replicate,H2 _⟩
theorem Ly (hf:∀k,k<cs.length→GL B.length k (cs.getD k AF.zero))(h:Bt m B):∀k,k≤cs.length→Bt m (Tv cs L k B)
 |0,_=>h
 |k+1,hk=>by
  have ih:=Ly hf h k (by omega)
  by_cases h1:(cs.getD k AF.zero).op=1
  ·rw[Mq h1]
   have:=(hf k (by omega)).i1 h1
   exact D8 ih (by rw[Is];omega)
  ·rw[Mr h1];exact ih
theorem YG (hf:∀k,k<cs.length→GL ni k (cs.getD k AF.zero)):Bt m (dP ni m cs L):=Ly (fun k hk=>by rw[List.length_replicate];exact hf k hk) (JX m ni) _ (A9 _)
@[simp] theorem YH:(dP ni m cs L).length=ni:=by unfold dP;rw[Is,List.length_replicate]
end
end
section
structure Hw {α:Type}(E:Bc α)(e:TypeId)(S:List Nat)(B:Nat)(H:Array Obj)(v:Value)(xs:List α)(us:List Value)(F:List Nat):Prop where
 own:AS rV e H v us F
 nd:F.Nodup
 low:∀b∈F,B≤b
 len:us.length=xs.length
 els:∀k x,xs[k]? = some x→RN (S++F) E H (us.getD k undef) x
section bld
variable {α:Type} {E:Bc α} {e:TypeId} {S F:List Nat} {B:Nat} {w w':World} {v:Value} {xs:List α} {us:List Value} {g:Nat}
theorem Hw.nil {U:Nat}{H:Array Obj}(h:Fr (AS rV e) B U H v []):∃us F,Hw E e S B H v [] us F:=by
 obtain⟨F,h1,h2,h3⟩:=h
 exact⟨[],F,h1,h2,fun b hb=>(h3 b hb).1,rfl,fun k x hk=>by simp at hk⟩
theorem Hw.lt {H:Array Obj}(h:Hw E e S B H v xs us F):∀b∈F,b<H.size:=(B9 Bd).lt h.own
theorem Hw.ext (hE:BH E)(h:Hw E e S B w.heap v xs us F)(k:Az w w'):Hw E e S B w'.heap v xs us F :=
 ⟨(B9 Bd).stable h.own fun b hb=>k.heap (h.lt b hb),h.nd,h.low,h.len,fun i x hi=>(h.els i x hi).ext hE k⟩
theorem Hw.cap {H:Array Obj}(h:Hw E e S B H v xs us F):CK v:=h.own.cap
theorem Ms {S:List Nat}{H:Array Obj}:∀ {us:List Value}{xs:List α},us.length=xs.length→(∀k x,xs[k]? = some x→RN S E H (us.getD k undef) x)→∃G,Go.Proofs.YtnokbaiemimhjaaGreat.els E H us xs G∧∀b∈G,b∉S
 |[],[],_,_=>⟨[],rfl,fun b hb=>by cases hb⟩
 |u::us,x::xs,hl,h=>by
  obtain⟨G1,q1,q2⟩:=h 0 x (by simp)
  obtain⟨G2,r1,r2⟩:=Ms (us:=us) (xs:=xs) (by simpa using hl) fun k y hk=>by
   have:=h (k+1) y (by simpa using hk)
   simpa using this
  exact⟨G1++G2,⟨G1,G2,rfl,by simpa using q1,r1⟩,fun b hb=>(List.mem_append.1 hb).elim (q2 b) (r2 b)⟩
theorem Hw.done {H:Array Obj}(h:Hw E e S B H v xs us F)(hS:∀b∈S,b<B):RN S (B3 E) H v xs:=by
 obtain⟨G,g1,g2⟩:=Ms h.len h.els
 have g2':∀b∈G,b∉S:=fun b hb hm=>g2 b hb (List.mem_append_left _ hm)
 rcases h.own with⟨rfl,hus,rfl⟩|⟨vs,gb,cap,cur,F',hels,rfl,hg,r1,r2,r3,r4,hF⟩
 ·have:xs=[]:=List.eq_nil_of_length_eq_zero (by rw[← h.len,hus];rfl)
  subst this
  exact⟨[],.inl ⟨none,0,rfl,rfl,rfl⟩,fun b hb=>by cases hb⟩
 ·obtain⟨hv,hF0⟩:=Gt hels
  subst hv
  have hl:=h.len
  refine⟨gb::G,.inr ⟨vs,gb,0,cap,cur,e,(0,0),G,g1,by rw[hl],hg,by simpa [hl]using r4,by omega,rfl⟩,fun b hb hm=>?_⟩
  rcases List.mem_cons.1 hb with rfl|hb
  ·have:=h.low b (by rw[hF];exact List.mem_cons_self ..)
   have:=hS b hm
   omega
  ·exact g2' b hb hm
end bld
section ops
variable {P:Program} {ops:Array Oper} {w0:World} {Q:Act→World→Prop} {os:List Oper} {ks:List Nat} {N:Nat} {ρ:Nat→Value} {w:World}
 {d:Nat} {ty:TypeId} {pos:String} {aft:Array Edge} {g:Option (Nat×Bool)} {t e:TypeId} {z:Value} {b:Nat}
theorem OH {α:Type}{E:Bc α}(hE:BH E){x y:Operand}{v a u:Value}{xs:List α}{r:α}{us:List Value}{S F:List Nat}{B B' U':Nat}(ht:P.underlying t=some (.slice e))(hi:TI P e 1 z b)(hz:z.cells=#[z])(hx:Bm N ρ x=v)(hy:Bm N ρ y=a)
  (hv:Hw E e S B w.heap v xs us F) (hB:B≤w.heap.size) (ha:Fr (AS rV e) B' U' w.heap a [u]) (hr:RN (S++F) E w.heap u r) (hbytes:(xs.length+1)*b≤140737488355328) (hmx:xs.length+1≤maxLen)
  (hu:Up ops N ρ ⟨some d,.call ⟨.builtin .append,#[x,y],#[t,t]⟩,ty,pos,aft,g⟩)
  (h:∀v1 w1 F0,AE F0 w w1→(∀c∈F0,c∈F)→(∃us F,Hw E e S B w1.heap v1 (xs++[r]) us F)→LW P ops w0 Q os ks (mk N (CZ ρ d v1)) w1) :
  LW P ops w0 Q (⟨some d,.call ⟨.builtin .append,#[x,y],#[t,t]⟩,ty,pos,aft,g⟩::os) (4::ks) (mk N ρ) w:=by
 obtain⟨G,g1',g2',g3'⟩:=ha
 have hG1:G.drop 1=[]:=by
  rcases g1' with⟨_,hc,_⟩|⟨vs,gb,cap,cur,F',hels,_,_,_,_,_,_,rfl⟩
  ·cases hc
  ·rw[(Gt hels).2];rfl
 obtain⟨v',w',F',r1,r2,r3,r4,r5⟩:=Gr (P:=P) (ty:=ty) Bd ht hi hz hv.own hv.nd (g1'.rd id) rfl (by rw[hv.len];exact hbytes) (by rw[hv.len];exact hmx) (by rw[hG1];intro c hc;cases hc) (by rw[hG1];exact List.nodup_nil)
 rw[hG1]at r4
 refine L1 rfl hu v' w' (by simp only[execOp,resolve,invoke,builtin,List.map_toArray,List.map_cons,List.map_nil,Sem.run_bind,Sem.run_pure,Result.andThen_ok,hx,hy,r1]) (h v' w' (F.take 1) r5 (fun c hc=>List.mem_of_mem_take hc) ⟨us++[u],F',r2,r3,fun c hc=>?_,by simp[hv.len],fun k x0 hk0=>?_⟩)
 ·rcases r4 c hc with hh|hh|hh
  ·exact hv.low c hh
  ·cases hh
  ·omega
 ·have key:∀ {v0:Value} {x0:α},RN (S++F) E w.heap v0 x0→RN (S++F') E w'.heap v0 x0:=by
   rintro v0 x0 ⟨K,k1,k2⟩
   have hlt:=hE.lt k1
   refine⟨K,hE.stable k1 fun c hc=>r5.block c (hlt c hc) fun hm=>k2 c hc (List.mem_append_right _ (List.mem_of_mem_take hm)),fun c hc hm=>?_⟩
   rcases List.mem_append.1 hm with hm|hm
   ·exact k2 c hc (List.mem_append_left _ hm)
   ·rcases r4 c hm with hh|hh|hh
    ·exact k2 c hc (List.mem_append_right _ hh)
    ·cases hh
    ·have:=hlt c hc;omega
  by_cases hkx:k<xs.length
  ·have hku:k<us.length:=by rw[hv.len];exact hkx
   rw[List.getElem?_append_left hkx]at hk0
   rw[Jw hku]
   exact key (hv.els k x0 hk0)
  ·rw[List.getElem?_append_right (by omega)]at hk0
   have e1:k=xs.length:=by
    rcases Nat.lt_or_ge (k-xs.length) 1 with h9|h9
    ·omega
    ·rw[List.getElem?_eq_none (by simpa using h9)]at hk0;cases hk0
   subst e1
   rw[Jy (hv.len).symm]
   simp at hk0
   subst hk0
   exact key hr
end ops
def KC {α:Type}(E:Bc α):Bc (List α):=fun H v xs F=>B3 E H v xs F∧CK v
theorem Tw {α:Type}{E:Bc α}(hE:BH E):BH (KC E) where
 cells:=fun h=>(DQ hE).cells h.1
 one:=fun h=>(DQ hE).one h.1
 lt:=fun h=>(DQ hE).lt h.1
 stable:=fun h hb=>⟨(DQ hE).stable h.1 hb,h.2⟩
theorem OI:BH (KC (B3 rI)):=Tw g1
theorem ZB:BH (B3 (KC (B3 rI))):=DQ OI
theorem RN.mk2 {S:List Nat}{H:Array Obj}{v:Value}{x:List Sr}(h:RN S (B3 (B3 rI)) H v x)(hc:CK v):RN S (KC (B3 rI)) H v x:=by
 obtain⟨F,h,hb⟩:=h
 exact⟨F,⟨h,hc⟩,hb⟩
def dQ (L:List Sr)(ps:List Int):List Sr:=ps.map fun i=>L.getD i.toNat []
theorem VF {L:List Sr}{ps:List Int}{k:Nat}(hk:k<ps.length):dQ L (ps.take (k+1))=dQ L (ps.take k)++[L.getD (ps.getD k 0).toNat []]:=by
 unfold dQ
 rw[Cr 0 hk,List.map_append];rfl
section ops
variable {P:Program} {ops:Array Oper} {w0:World} {Q:Act→World→Prop} {os:List Oper} {ks:List Nat} {N:Nat} {ρ:Nat→Value} {w:World}
 {d:Nat} {ty:TypeId} {pos:String} {aft:Array Edge} {g:Option (Nat×Bool)} {t e:TypeId} {z:Value} {b:Nat}
end ops
end
section
theorem QQ {m:Nat}{a:List (List Int)}(h0:1≤m)(ha:0<a.length)(h:Bt m a):Qh a+1=m:=by
 have:=(h 0 ha).1
 unfold Qh;omega
def BZ (A:List Sr):List Int:=A.map fun s=>s.getD 0 0
def Qj (m:Nat)(T:Tp)(xs:List Int)(A:List Sr)(i:Nat):List Sr:=dP A.length m T.code (L6 T.code (Bb m A T.code) xs (G6 xs.length [((i:Nat):Int)] 1))
def IB (m:Nat)(T:Tp)(xs:List Int)(A:List Sr)(k:Nat):List (List Sr):=(List.range k).map (Qj m T xs A)
section
variable {m:Nat} {A:List Sr} {T:Tp} {xs:List Int}
theorem VG (k:Nat):IB m T xs A (k+1)=IB m T xs A k++[Qj m T xs A k]:=by unfold IB;rw[List.range_succ,List.map_append];rfl
theorem QR {k i:Nat}(hi:i<k):(IB m T xs A k).getD i []=Qj m T xs A i:=by unfold IB;simp[List.getD_eq_getElem?_getD,hi]
@[simp] theorem Ss (k:Nat):(IB m T xs A k).length=k:=by simp[IB]
@[simp] theorem Cp:(BZ A).length=A.length:=by simp[BZ]
theorem Ep (h:Bt m A):B7 (BZ A)=true:=by
 unfold B7 BZ
 rw[List.all_eq_true]
 intro x hx
 obtain⟨s,hs,rfl⟩:=List.mem_map.1 hx
 obtain⟨i,hi,rfl⟩:=List.mem_iff_getElem.1 hs
 have h9:=Ba (h i hi).2 0
 rw[show A.getD i []=A[i]from by simp[List.getD_eq_getElem?_getD,hi]]at h9
 exact C3.2 h9
theorem EJ (h:Bt m A):QO m (BZ A) A:=⟨Cp.symm,fun i hi=>h i (by rw[Cp]at hi;exact hi),fun i hi=>by
 rw[Cp]at hi
 unfold BZ
 rw[B5 (d:=[]) hi]⟩
theorem DG.regs (h:DG m A T):Bt m (Bb m A T.code):=fun k hk=>(h.ser k (by rw[BE]at hk;exact hk)).1
theorem DG.outs (h:DG m A T)(hE:Kx T xs):∀k,k<xs.length→0≤xs.getD k 0∧xs.getD k 0<((T.code.length:Nat):Int):=fun k hk=>by have:=hE k hk;have:=h.cl;omega
theorem DG.adj (h:DG m A T)(hE:Kx T xs){ws:List Int}:Bt m (L6 T.code (Go.Proofs.YtnokbaiemimhjaaGreat.Bb m A T.code) xs ws):=by
 have ho:=h.outs hE
 refine Sp (ni:=A.length) h.form _ _ (A9 _) (by rw[Eo,D7,BE];exact A9 _) (Ir (Hu h.regs) (fun q hq=>?_) _ (A9 _))
 have:=ho q hq
 rw[D7,BE];omega
theorem Mu {cs:List AF}{R:List Sr}{os ws:List Int}:(L6 cs R os ws).length=R.length:=by unfold L6;rw[So,Eo,D7]
end
end
section
def lL (a b:Int):Bool:=Hm a 2 7 && decide (b=a-1)
section
variable {p:List Fn} {f:Int} {y:List Sr}
end
def lD (n:Nat):Sr:=(List.replicate n 0).set 1 1
theorem St (n:Nat):Bs n (lD n):=by
 refine⟨by simp[lD],?_⟩
 match n with
 |0=>rfl
 |1=>rfl
 |n+2 =>
  show B7 (0::1::List.replicate n 0)=true
  have:=H2 n
  unfold B7 at this ⊢
  rw[List.all_cons,List.all_cons,this];rfl
end
section
theorem Bs.ext {m:Nat}{a b:Sr}(ha:Bs m a)(hb:Bs m b)(h:∀k,k<m→a.getD k 0=b.getD k 0):a=b:=by
 refine List.ext_getElem (by rw[ha.1,hb.1]) fun k h1 h2=>?_
 have:=h k (by rw[← ha.1];exact h1)
 simpa [List.getD_eq_getElem?_getD,h1,h2]using this
section
variable {m:Nat} {a b c:Sr}
theorem Su (ha:Bs m a){k:Nat}(hk:k<m):(DU a b).getD k 0=md (a.getD k 0+b.getD k 0):=by unfold DU;exact Bf _ (by rw[ha.1];exact hk)
theorem Sv (ha:Bs m a){y:Int}{k:Nat}(hk:k<m):(CD a y).getD k 0=md (a.getD k 0*y):=by unfold CD;exact Bf _ (by rw[ha.1];exact hk)
end
end
section
theorem fz {f:Nat→Int}:∀ {n:Nat},(∀i,i<n→f i=0)→sm n f=0
 |0,_=>rfl
 |n+1,h=>by unfold sm;rw[fz (n:=n) fun i hi=>h i (by omega),h n (by omega)];rfl
def ZC (M:List (List Int)):Nat→Nat→Int:=fun r k=>(M.getD r []).getD k 0
theorem Sw {a:List (List Int)}{b:List Int}(hS:Sq a.length a)(hl:b.length=a.length)(hb:B7 b=true)(hs:Iw a b≠none)(v:Nat→Int)
  (hv:∀r,r<a.length→md (sm a.length fun j=>ZC a r j*v j)=b.getD r 0):∀r,r<a.length→md (v r)=(Ix a b).getD r 0:=by
 have hA:Sh (Bs 1) [] (mm (fun x:Int=>[x]) a).length ((mm (fun x:Int=>[x]) a).length+1) (GY (mm (fun x=>[x]) a) (Cq b)):=by
  rw[JH hS hl,Ks];exact UF (GB hS hb)
 have hj:D5 (mm (fun x=>[x]) a) (Cq b)≠none:=by
  rw[Og hS hl hb]
  obtain⟨M,hM⟩:=Option.ne_none_iff_exists'.1 hs
  rw[hM];simp
 have h:=(M4 (v:=fun j _=>v j) hA hj).1
 rw[Ks,JH hS hl,RQ hS hl hb hs]at h
 intro r hr
 have hln:=M0 hS hb hs
 have h0:=h (fun r hr k hk=>?_) r hr 0 (by omega)
 ·have e:BN ((Cq (Ix a b)).getD r []) 0=(Ix a b).getD r 0:=by
   rw[PF _ (by omega)];rfl
  rw[e]at h0
  have hn:=Ba (PD hS hb hs) r
  rw[h0];exact KU hn.1 hn.2
 ·have hk0:k=0:=by omega
  subst hk0
  have hrow:=(GB hS hb).row r hr
  have hrl:=hrow.len
  rw[EI]
  unfold Dq
  have e1:(sm a.length fun j=>cv (BN ((((DS a b).getD r []).map fun x:Int=>[x]).getD j [])) (fun _=>v j) 0)=sm a.length fun j=>ZC a r j*v j:=by
   refine Ch fun j hj'=>?_
   rw[B5 (d:=0) (by omega),← Oe (b:=b) hS r (Nat.zero_le _) hr j hj']
   rfl
  have e2:BN ((((DS a b).getD r []).map fun x:Int=>[x]).getD a.length []) 0=b.getD r 0:=by
   rw[B5 (d:=0) (by omega)]
   unfold DS
   rw[Bf _ hr,GT (by rw[hS.row r hr];omega),hS.row r hr,Nat.sub_self]
   rfl
  rw[e1,e2,hv r hr]
  have hn:=Ba hb r
  exact(KU hn.1 hn.2).symm
section
variable {N N':Nat} {f f' g g':Nat→Int} {a b:Sr}
theorem EN.mono (h:EN N f g)(hN:N'≤N):EN N' f g:=fun k hk=>h k (by omega)
theorem EN.neg (hf:EN N f f'):EN N (fun k=>- f k) (fun k=>- f' k):=fun k hk=>by rw[← Km,hf k hk,Km]
theorem EN.eq (h:∀k,k<N→f k=g k):EN N f g:=fun k hk=>by rw[h k hk]
theorem VH (ha:Bs N a):EN N (BN (CD a 1000002)) (fun k=>- BN a k):=EN.trans (fv (y:=1000002) ha) fun k _=>by
 show md (1000002*BN a k)=md (- BN a k)
 unfold md;omega
def Lo (r:Nat)(f:Nat→Int):Prop:=EN r f J5
theorem Lo.mono {r r':Nat}(h:Lo r f)(hr:r'≤r):Lo r' f:=EN.mono h hr
theorem Lo.of {r:Nat}(h:EN r f g)(hg:Lo r g):Lo r f:=EN.trans h hg
theorem Lo.add {r:Nat}(h:Lo r f)(hg:Lo r g):Lo r fun k=>f k+g k:=(EN.add h hg).trans fun k _=>rfl
theorem Lo.sub {r:Nat}(h:Lo r f)(hg:Lo r g):Lo r fun k=>f k-g k:=(EN.sub h hg).trans fun k _=>rfl
theorem Lo.neg {r:Nat}(h:Lo r f):Lo r fun k=>- f k:=fun k hk=>by
 have:=h k hk
 show md (- f k)=md 0
 rw[← Km,this];rfl
theorem Lo.cvl {r:Nat}(h:Lo r f)(g:Nat→Int):Lo r (cv f g):=(EN.cv h (EN.rfl' g)).trans fun k _=>by rw[E0];rfl
theorem Lo.cvr {r:Nat}(g:Nat→Int)(h:Lo r f):Lo r (cv g f):=fun k hk=>by rw[CG];exact h.cvl g k hk
theorem Lo.cv2 {r s:Nat}(h:Lo r f)(hg:Lo s g):Lo (r+s) (cv f g):=fun k hk=>by
 rw[KV]
 have e:md (sm (k+1) fun i=>f i*g (k-i))=md (sm (k+1) fun _=>0):=LX fun i hi=>by
  by_cases h1:i<r
  ·rw[← Df,h i h1]
   show md (md 0*_)=_
   rw[ES,Int.zero_mul]
  ·rw[← Df,hg (k-i) (by omega)]
   show md (_*md 0)=_
   rw[ET,Int.mul_zero]
 rw[e,fz fun _ _=>rfl];rfl
theorem JY (f g g':Nat→Int)(k:Nat):cv f (fun i=>g i-g' i) k=cv f g k-cv f g' k:=by rw[CG,On,CG g,CG g']
theorem Sx (f g:Nat→Int)(k:Nat):cv f (fun i=>- g i) k = - cv f g k:=by
 have e:(fun i=>- g i)=fun i=>(-1)*g i:=funext fun i=>by omega
 rw[e,Py];omega
theorem OJ (f g:Nat→Int)(k:Nat):cv (fun i=>- f i) g k = - cv f g k:=by rw[CG,Sx,CG]
theorem Lo.div {r:Nat}(hd:∃e:Int,md (g 0*e)=1)(h:Lo r (cv f g)):Lo r f:=Hn hd (h.trans fun k _=>by rw[E0];rfl)
end
section
variable {N m n:Nat} {B:List Sr} {v v':Nat→Nat→Int}
theorem QT {f g:Nat→Int}{i:Nat}:∀ {n:Nat},i<n→(∀j,j<n→j≠i→f j=g j)→sm n f=sm n g+(f i-g i)
 |0,h,_=>absurd h (Nat.not_lt_zero i)
 |n+1,hi,h=>by
  show sm n f+f n=sm n g+g n+_
  by_cases e:i=n
  ·subst e
   rw[Ch fun j hj=>h j (by omega) (by omega)];omega
  ·rw[QT (n:=n) (by omega) fun j hj he=>h j (by omega) he,h n (by omega) (fun h=>e h.symm)];omega
theorem fA {i:Nat}(hi:i<n)(h:∀j,j<n→j≠i→v j=v' j)(t:Nat):Dq n v B t=Dq n v' B t+(cv (BN (B.getD i [])) (v i) t-cv (BN (B.getD i [])) (v' i) t):=by
 unfold Dq
 exact QT (f:=fun j=>cv (BN (B.getD j [])) (v j) t) (g:=fun j=>cv (BN (B.getD j [])) (v' j) t) hi fun j hj he=>by rw[h j hj he]
theorem Sy {i:Nat}{s:Sr}{d:Nat→Int}(hi:i<n)(hb:i<B.length)(h:EN N (BN s) fun t=>BN (B.getD i []) t+d t):EN N (Dq n v (B.set i s)) fun t=>Dq n v B t+cv d (v i) t:=fun t ht=>by
 have e:Dq n v (B.set i s) t=Dq n v B t+(cv (BN s) (v i) t-cv (BN (B.getD i [])) (v i) t):=by
  unfold Dq
  have:=QT (f:=fun j=>cv (BN ((B.set i s).getD j [])) (v j) t) (g:=fun j=>cv (BN (B.getD j [])) (v j) t) hi fun j hj he=>by rw[Bz _ _ _ _ _ hb,if_neg he]
  rw[this,Bz _ _ _ _ _ hb,if_pos rfl]
 have h2:md (cv (BN s) (v i) t)=md (cv (BN (B.getD i [])) (v i) t+cv d (v i) t):=by
  rw[EN.cv h (EN.rfl' (v i)) t ht,JI]
 show md _=md (Dq n v B t+cv d (v i) t)
 rw[e,← Gu,← Fm,h2,Fm,Gu]
 congr 1;omega
theorem Lz {r:Int}{s:Sr}(hB:Bt m B)(hN:N≤m)(hr:r.toNat<n)(hb:r.toNat<B.length):EN N (Dq n v (FH B r s)) fun t=>Dq n v B t+cv (BN s) (v r.toNat) t :=
 Sy hr hb (EN.mono (Yz (hB _ hb)) hN)
theorem Q6 (h:∀j,j<n→∀t,BN (B.getD j []) t=0)(t:Nat):Dq n v B t=0:=by
 unfold Dq
 refine fz fun j hj=>?_
 rw[show BN (B.getD j [])=J5 from funext fun t=>h j hj t,E0]
end
structure fB (N:Nat)(cs:List AF)(R:List Sr)(z D:Nat→Nat→Int):Prop where
 t1:∀k,k<cs.length→(cs.getD k AF.zero).op=1→EN N (D k) (z (cs.getD k AF.zero).num.toNat)
 t2:∀k,k<cs.length→(cs.getD k AF.zero).op=2→EN N (D k) J5
 t3:∀k,k<cs.length→(cs.getD k AF.zero).op=3→EN N (D k) fun t=>D (cs.getD k AF.zero).a.toNat t+D (cs.getD k AF.zero).b.toNat t
 t4:∀k,k<cs.length→(cs.getD k AF.zero).op=4→EN N (D k) fun t=>D (cs.getD k AF.zero).a.toNat t-D (cs.getD k AF.zero).b.toNat t
 t5:∀k,k<cs.length→(cs.getD k AF.zero).op=5→EN N (D k) fun t=>cv (BN (R.getD (cs.getD k AF.zero).b.toNat [])) (D (cs.getD k AF.zero).a.toNat) t+cv (BN (R.getD (cs.getD k AF.zero).a.toNat [])) (D (cs.getD k AF.zero).b.toNat) t
 t6:∀k,k<cs.length→(cs.getD k AF.zero).op=6→EN N (cv (BN (R.getD (cs.getD k AF.zero).b.toNat [])) (D k)) fun t=>D (cs.getD k AF.zero).a.toNat t-cv (BN (R.getD k [])) (D (cs.getD k AF.zero).b.toNat) t
 t7:∀k,k<cs.length→(cs.getD k AF.zero).op=7→EN N (D k) fun t=>- D (cs.getD k AF.zero).a.toNat t
def Fi (cs:List AF)(D:Nat→Nat→Int)(n k:Nat):Nat→Int:=if k<n∨(cs.getD k AF.zero).op=1 then D k else J5
section
variable {N m ni:Nat} {cs:List AF} {R B:List Sr} {z D:Nat→Nat→Int} {os ws:List Int}
theorem Hx {n k:Nat}(h:k<n):Fi cs D n k=D k:=if_pos (.inl h)
theorem VI {n k:Nat}(h:(cs.getD k AF.zero).op=1):Fi cs D n k=D k:=if_pos (.inr h)
theorem ZD {n k:Nat}(h:n≤k)(h1:(cs.getD k AF.zero).op≠1):Fi cs D n k=J5:=if_neg (by omega)
theorem fC (hT:fB N cs R z D)(hN:N≤m)(hR:Bt m R)(hRl:R.length=cs.length)(hB:Bt m B)(hl:B.length=cs.length){k:Nat}(hk:k<cs.length)(hf:GL ni k (cs.getD k AF.zero))
  (hd:(cs.getD k AF.zero).op=6→(R.getD (cs.getD k AF.zero).b.toNat []).getD 0 0≠0) :
  EN N (Dq cs.length (Fi cs D k) (NZ cs R k B)) (Dq cs.length (Fi cs D (k+1)) B):=by
 have hBk:=hB k (by omega)
 by_cases h1:(cs.getD k AF.zero).op=1
 ·rw[Q5 (by omega)]
  have e:Dq cs.length (Fi cs D k) B=Dq cs.length (Fi cs D (k+1)) B:=funext fun t=>by
   unfold Dq
   refine Ch fun j hj=>?_
   by_cases e:j=k
   ·subst e;rw[VI h1,VI h1]
   ·by_cases e2:j<k
    ·rw[Hx e2,Hx (by omega)]
    ·unfold Fi
     by_cases e3:(cs.getD j AF.zero).op=1
     ·rw[if_pos (.inr e3),if_pos (.inr e3)]
     ·rw[if_neg (by omega),if_neg (by omega)]
  rw[e];exact EN.rfl' _
 have hup:Dq cs.length (Fi cs D (k+1)) B=fun t=>Dq cs.length (Fi cs D k) B t+cv (BN (B.getD k [])) (D k) t:=funext fun t=>by
  rw[fA (v:=Fi cs D (k+1)) (v':=Fi cs D k) hk (fun j hj he=>?_) t,Hx (Nat.lt_succ_self k),ZD (A9 k) h1,CG _ J5,E0]
  ·omega
  ·by_cases e2:j<k
   ·rw[Hx e2,Hx (by omega)]
   ·unfold Fi
    by_cases e3:(cs.getD j AF.zero).op=1
    ·rw[if_pos (.inr e3),if_pos (.inr e3)]
    ·rw[if_neg (by omega),if_neg (by omega)]
 rw[hup]
 have two:∀ {ra rb:Int} {sa sb:Sr},ra.toNat<k→rb.toNat<k→EN N (fun t=>cv (BN sa) (D ra.toNat) t+cv (BN sb) (D rb.toNat) t) (cv (BN (B.getD k [])) (D k)) →
   EN N (Dq cs.length (Fi cs D k) (FH (FH B ra sa) rb sb)) fun t=>Dq cs.length (Fi cs D k) B t+cv (BN (B.getD k [])) (D k) t:=fun {ra rb sa sb} ha hb h=>by
  have q1:=Lz (v:=Fi cs D k) (s:=sa) (n:=cs.length) hB hN (r:=ra) (by omega) (by omega)
  have q2:=Lz (v:=Fi cs D k) (s:=sb) (n:=cs.length) (D8 (s:=sa) hB (r:=ra) (by omega)) hN (r:=rb) (by omega) (by rw[C4];omega)
  rw[Hx ha]at q1
  rw[Hx hb]at q2
  refine q2.trans (EN.trans (EN.add q1 (EN.rfl' _)) ?_)
  refine EN.trans (EN.eq fun t _=>?_) (EN.add (EN.rfl' (Dq cs.length (Fi cs D k) B)) h)
  exact Int.add_assoc _ _ _
 have b2:=fun h=>hf.i2 h
 have b7:=fun h=>hf.i7 h
 by_cases h3:(cs.getD k AF.zero).op=3
 ·rw[PY h3]
  have:=b2 (by omega)
  refine two (by omega) (by omega) ?_
  refine EN.trans (EN.eq fun t _=>?_) (EN.cv (EN.rfl' _) (hT.t3 k hk h3).symm)
  rw[JK]
 by_cases h4:(cs.getD k AF.zero).op=4
 ·rw[PZ h4]
  have:=b2 (by omega)
  refine two (by omega) (by omega) ?_
  refine EN.trans (EN.add (EN.rfl' _) (EN.cv (EN.mono (VH hBk) hN) (EN.rfl' _))) ?_
  refine EN.trans (EN.eq fun t _=>?_) (EN.cv (EN.rfl' _) (hT.t4 k hk h4).symm)
  rw[JY,OJ];omega
 by_cases h5:(cs.getD k AF.zero).op=5
 ·rw[Q0 h5]
  have:=b2 (by omega)
  refine two (by omega) (by omega) ?_
  refine EN.trans (EN.add (EN.cv (EN.mono (QD hBk) hN) (EN.rfl' _)) (EN.cv (EN.mono (QD hBk) hN) (EN.rfl' _))) ?_
  refine EN.trans (EN.eq fun t _=>?_) (EN.cv (EN.rfl' _) (hT.t5 k hk h5).symm)
  rw[JK,Fh,Fh]
 by_cases h6:(cs.getD k AF.zero).op=6
 ·rw[Q3 h6]
  have:=b2 (by omega)
  have hRb:=hR (cs.getD k AF.zero).b.toNat (by omega)
  refine two (by omega) (by omega) ?_
  have hq:=UH hBk hRb (hd h6)
  refine EN.trans (EN.add (EN.rfl' _) (EN.cv (EN.mono (EN.trans (VH (HX (H4 hBk))) (EN.neg (QD (H4 hBk)))) hN) (EN.rfl' _))) ?_
  refine EN.trans ?_ (EN.cv (EN.mono hq hN) (EN.rfl' _))
  refine EN.trans ?_ (EN.trans (EN.cv (EN.rfl' (BN (BR (B.getD k []) (R.getD (cs.getD k AF.zero).b.toNat [])))) (hT.t6 k hk h6).symm) (EN.eq fun t _=>(Fh _ _ _ t).symm))
  refine EN.eq fun t _=>?_
  rw[OJ,JY,Fh];omega
 by_cases h7:(cs.getD k AF.zero).op=7
 ·rw[Q4 h7]
  have:=b7 h7
  have q1:=Lz (v:=Fi cs D k) (s:=CD (B.getD k []) 1000002) (n:=cs.length) hB hN (r:=(cs.getD k AF.zero).a) (by omega) (by omega)
  rw[Hx (by omega)]at q1
  refine q1.trans (EN.add (EN.rfl' _) ?_)
  refine EN.trans (EN.cv (EN.mono (VH hBk) hN) (EN.rfl' _)) (EN.trans (EN.eq fun t _=>?_) (EN.cv (EN.rfl' _) (hT.t7 k hk h7).symm))
  rw[Sx,OJ]
 have h2:(cs.getD k AF.zero).op=2:=by unfold GL at hf;omega
 rw[Q5 (by omega)]
 refine EN.trans (EN.eq fun t _=>?_) (EN.add (EN.rfl' _) (EN.cv (EN.rfl' _) (hT.t2 k hk h2).symm))
 rw[CG,E0,Int.add_zero]
theorem ZE (hT:fB N cs R z D)(hN:N≤m)(hR:Bt m R)(hRl:R.length=cs.length)(hf:∀k,k<cs.length→GL ni k (cs.getD k AF.zero))
  (hd:∀k,k<cs.length→(cs.getD k AF.zero).op=6→(R.getD (cs.getD k AF.zero).b.toNat []).getD 0 0≠0) :
  ∀(n:Nat) (B:List Sr),n≤cs.length→Bt m B→B.length=cs.length→EN N (Dq cs.length (Fi cs D 0) (TF cs R n B)) (Dq cs.length (Fi cs D n) B)
 |0,B,_,_,_=>EN.rfl' _
 |n+1,B,hn,hB,hl=>by
  show EN N (Dq cs.length (Fi cs D 0) (TF cs R n (NZ cs R n B))) _
  exact(ZE hT hN hR hRl hf hd n _ (by omega) (Hv hB (by omega) (hf n (by omega))) (by rw[Lx,hl])).trans (fC hT hN hR hRl hB hl (by omega) (hf n (by omega)) (hd n (by omega)))
theorem Sz {L B0:List Sr}(hT:fB N cs R z D)(hN:N≤m)(hB:Bt m B0)(hl:B0.length=ni)(hf:∀k,k<cs.length→GL ni k (cs.getD k AF.zero)) :
  ∀n,n≤cs.length→EN N (Dq ni z (Tv cs L n B0)) fun t=>Dq ni z B0 t+sm n fun k=>cv (BN (L.getD k [])) (Fi cs D 0 k) t
 |0,_=>fun t _=>by show _=md (_+0);rw[Int.add_zero];rfl
 |n+1,hn=>by
  have ih:=Sz (L:=L) hT hN hB hl hf n (by omega)
  by_cases h1:(cs.getD n AF.zero).op=1
  ·rw[Mq h1]
   have hi:=(hf n (by omega)).i1 h1
   refine(Lz (Ly (fun k hk=>by rw[hl];exact hf k hk) hB n (by omega)) hN (by omega) (by rw[Is];omega)).trans ?_
   refine(EN.add ih (EN.cv (EN.rfl' _) (hT.t1 n (by omega) h1).symm)).trans (EN.eq fun t _=>?_)
   show _=Dq ni z B0 t+(sm n _+cv (BN (L.getD n [])) (Fi cs D 0 n) t)
   rw[VI h1,Int.add_assoc]
  ·rw[Mr h1]
   refine ih.trans (EN.eq fun t _=>?_)
   show _=Dq ni z B0 t+(sm n _+cv (BN (L.getD n [])) (Fi cs D 0 n) t)
   rw[ZD (Nat.zero_le n) h1,CG _ J5,E0,Int.add_zero]
theorem VJ {m:Nat}(t:Nat):BN (List.replicate m 0) t=0:=Gw m t
theorem ZF (hB:Bt m B)(hm:1≤m){n:Nat}(hn:n≤B.length):∀k,k≤os.length→(∀i,i<os.length→(os.getD i 0).toNat<n) →
  EN N (Dq n D (N3 os ws k B)) fun t=>Dq n D B t+sm k fun i=>ws.getD i 0*D (os.getD i 0).toNat t
 |0,_,_=>fun t _=>by show _=md (_+0);rw[Int.add_zero];rfl
 |k+1,hk,ho=>by
  have ih:=ZF hB hm hn k (by omega) ho
  have h9:=ho k (by omega)
  have hs:=Ir (ws:=ws) hB (fun i hi=>by have:=ho i hi;omega) k (by omega) (os.getD k 0).toNat (by rw[Eo];omega)
  refine(Sy (B:=N3 os ws k B) (s:=((N3 os ws k B).getD (os.getD k 0).toNat []).set 0 (md (((N3 os ws k B).getD (os.getD k 0).toNat []).getD 0 0+ws.getD k 0))) (d:=fun t=>ws.getD k 0*PG t) h9 (by rw[Eo];omega) (fun t _=>?_)).trans ?_
  ·unfold BN
   rw[Bz _ _ _ _ _ (by rw[hs.1];omega)]
   unfold PG
   by_cases e:t=0
   ·subst e
    show _=md (_+ws.getD k 0*(if (0:Nat)=0 then 1 else 0))
    rw[if_pos rfl,if_pos rfl,Fd,Int.mul_one]
   ·show _=md (_+ws.getD k 0*(if t=0 then 1 else 0))
    rw[if_neg e,if_neg e,Int.mul_zero,Int.add_zero]
  ·refine(EN.add ih (EN.rfl' _)).trans (EN.eq fun t _=>?_)
   show _=_+(sm k _+_)
   rw[JJ,Om,Int.add_assoc]
theorem YI (hT:fB N cs R z D)(hN:N≤m)(hm:1≤m)(hR:Bt m R)(hRl:R.length=cs.length)(hf:∀k,k<cs.length→GL ni k (cs.getD k AF.zero))
  (hd:∀k,k<cs.length→(cs.getD k AF.zero).op=6→(R.getD (cs.getD k AF.zero).b.toNat []).getD 0 0≠0) (ho:∀i,i<os.length→(os.getD i 0).toNat<cs.length) :
  EN N (Dq ni z (dP ni m cs (L6 cs R os ws))) fun t=>sm os.length fun i=>ws.getD i 0*D (os.getD i 0).toNat t:=by
 have h1:=Sz (L:=L6 cs R os ws) (B0:=List.replicate ni (List.replicate m 0)) hT hN (JX m ni) List.length_replicate hf cs.length (A9 _)
 have hw:Bt m (N3 os ws os.length (JW R)):=Ir (Hu hR) (fun q hq=>by rw[D7,hRl];exact ho q hq) _ (A9 _)
 have h2:=ZE hT hN hR hRl hf hd cs.length (N3 os ws os.length (JW R)) (A9 _) hw (by rw[Eo,D7,hRl])
 have h3:=ZF (N:=N) (D:=D) (os:=os) (ws:=ws) (Hu hR) hm (n:=cs.length) (by rw[D7,hRl];exact A9 _) os.length (A9 _) ho
 have e1:∀t,Dq ni z (List.replicate ni (List.replicate m 0)) t=0:=Q6 fun j hj t=>by
  rw[show(List.replicate ni (List.replicate m (0:Int))).getD j []=List.replicate m 0 from by simp[List.getD_eq_getElem?_getD,hj]];exact VJ t
 have e2:∀t,Dq cs.length D (JW R) t=0:=Q6 fun j hj t=>by
  rw[show(JW R).getD j []=List.replicate (R.getD j []).length 0 from by unfold JW;rw[B5 (d:=[]) (by omega)]];exact VJ t
 have e3:Dq cs.length (Fi cs D cs.length) (N3 os ws os.length (JW R))=Dq cs.length D (N3 os ws os.length (JW R)):=funext fun t=>by
  unfold Dq
  exact Ch fun j hj=>by rw[Hx hj]
 rw[e3]at h2
 refine h1.trans (EN.trans (EN.eq fun t _=>?_) (EN.trans h2 (h3.trans (EN.eq fun t _=>?_))))
 ·rw[e1,Int.zero_add];rfl
 ·rw[e2,Int.zero_add]
end
end
section
def Bv (A A':List Sr)(j:Nat):Nat→Int:=fun t=>BN (A'.getD j []) t-BN (A.getD j []) t
section
variable {m r N k j:Nat} {A A':List Sr} {T:Tp} {cs:List AF}
theorem GD (hk:k≤cs.length)(hj:j<k):(Bb m A (cs.take k)).getD j []=(Bb m A cs).getD j []:=by
 have:=Mj (m:=m) (A:=A) (cs.take k) (cs.drop k) (k:=j) (by rw[List.length_take];omega)
 rw[List.take_append_drop]at this
 exact this.symm
theorem J8 (hk:k<cs.length):(Bb m A cs).getD k []=G7 m A (Bb m A (cs.take k)) (cs.getD k AF.zero):=by
 rw[← GD (show k+1≤cs.length from hk) (Nat.lt_succ_self k),DH hk,Jy (by rw[BE,List.length_take];omega)]
theorem DG.r1 (h:DG m A T)(hk:k<T.code.length)(h1:(T.code.getD k AF.zero).op=1):(Go.Proofs.YtnokbaiemimhjaaGreat.Bb m A T.code).getD k []=A.getD (T.code.getD k AF.zero).num.toNat []:=by rw[J8 hk,OF h1]
theorem DG.r2 (h:DG m A T)(hk:k<T.code.length)(h1:(T.code.getD k AF.zero).op=2):(Go.Proofs.YtnokbaiemimhjaaGreat.Bb m A T.code).getD k []=cst m (T.code.getD k AF.zero).num:=by rw[J8 hk,Mp (by omega)]
theorem DG.r3 (h:DG m A T)(hk:k<T.code.length)(h1:(T.code.getD k AF.zero).op=3):(Go.Proofs.YtnokbaiemimhjaaGreat.Bb m A T.code).getD k []=DU ((Go.Proofs.YtnokbaiemimhjaaGreat.Bb m A T.code).getD (T.code.getD k AF.zero).a.toNat []) ((Go.Proofs.YtnokbaiemimhjaaGreat.Bb m A T.code).getD (T.code.getD k AF.zero).b.toNat []):=by
 have:=(h.form k hk).i2 (by omega)
 rw[J8 hk,Mk h1,GD (by omega) (by omega),GD (by omega) (by omega)]
theorem DG.r4 (h:DG m A T)(hk:k<T.code.length)(h1:(T.code.getD k AF.zero).op=4):(Go.Proofs.YtnokbaiemimhjaaGreat.Bb m A T.code).getD k []=Dg ((Go.Proofs.YtnokbaiemimhjaaGreat.Bb m A T.code).getD (T.code.getD k AF.zero).a.toNat []) ((Go.Proofs.YtnokbaiemimhjaaGreat.Bb m A T.code).getD (T.code.getD k AF.zero).b.toNat []):=by
 have:=(h.form k hk).i2 (by omega)
 rw[J8 hk,Ml h1,GD (by omega) (by omega),GD (by omega) (by omega)]
theorem DG.r5 (h:DG m A T)(hk:k<T.code.length)(h1:(T.code.getD k AF.zero).op=5):(Go.Proofs.YtnokbaiemimhjaaGreat.Bb m A T.code).getD k []=C7 ((Go.Proofs.YtnokbaiemimhjaaGreat.Bb m A T.code).getD (T.code.getD k AF.zero).a.toNat []) ((Go.Proofs.YtnokbaiemimhjaaGreat.Bb m A T.code).getD (T.code.getD k AF.zero).b.toNat []):=by
 have:=(h.form k hk).i2 (by omega)
 rw[J8 hk,Mm h1,GD (by omega) (by omega),GD (by omega) (by omega)]
theorem DG.r6 (h:DG m A T)(hk:k<T.code.length)(h1:(T.code.getD k AF.zero).op=6):(Go.Proofs.YtnokbaiemimhjaaGreat.Bb m A T.code).getD k []=BR ((Go.Proofs.YtnokbaiemimhjaaGreat.Bb m A T.code).getD (T.code.getD k AF.zero).a.toNat []) ((Go.Proofs.YtnokbaiemimhjaaGreat.Bb m A T.code).getD (T.code.getD k AF.zero).b.toNat []):=by
 have:=(h.form k hk).i2 (by omega)
 rw[J8 hk,Mo h1,GD (by omega) (by omega),GD (by omega) (by omega)]
theorem DG.r7 (h:DG m A T)(hk:k<T.code.length)(h1:(T.code.getD k AF.zero).op=7):(Go.Proofs.YtnokbaiemimhjaaGreat.Bb m A T.code).getD k []=CD ((Go.Proofs.YtnokbaiemimhjaaGreat.Bb m A T.code).getD (T.code.getD k AF.zero).a.toNat []) 1000002:=by
 have:=(h.form k hk).i7 h1
 rw[J8 hk,Mn h1,GD (by omega) (by omega)]
theorem DG.rz (h:DG m A T)(hk:k<T.code.length)(h1:(T.code.getD k AF.zero).op=6):((Go.Proofs.YtnokbaiemimhjaaGreat.Bb m A T.code).getD (T.code.getD k AF.zero).b.toNat []).getD 0 0≠0:=by
 have:=(h.form k hk).i2 (by omega)
 rw[(h.ser (T.code.getD k AF.zero).b.toNat (by omega)).2]
 exact h.dv k hk h1
theorem VL (f g:Nat→Int):f=fun t=>g t+(f t-g t):=funext fun t=>by omega
theorem VN (v w v' w':Nat→Int)(t:Nat):cv v' w' t-cv v w t=cv w (fun t=>v' t-v t) t+cv v (fun t=>w' t-w t) t+cv (fun t=>v' t-v t) (fun t=>w' t-w t) t:=by
 rw[On,JY,JY,JY,CG w,CG w];omega
theorem ZG (h:DG m A T)(h':DG m A' T)(hk:k<T.code.length)(h1:(T.code.getD k AF.zero).op=1):Bv (Bb m A T.code) (Bb m A' T.code) k=Bv A A' (T.code.getD k AF.zero).num.toNat:=by
 unfold Bv;rw[h.r1 hk h1,h'.r1 hk h1]
theorem ZH (h:DG m A T)(h':DG m A' T)(hk:k<T.code.length)(h1:(T.code.getD k AF.zero).op=2):EN N (Bv (Bb m A T.code) (Bb m A' T.code) k) J5:=EN.eq fun t _=>by
 unfold Bv;rw[h.r2 hk h1,h'.r2 hk h1,Int.sub_self];rfl
theorem ZI (h:DG m A T)(h':DG m A' T)(hk:k<T.code.length)(h1:(T.code.getD k AF.zero).op=3) :
  EN m (Bv (Bb m A T.code) (Bb m A' T.code) k) fun t=>Bv (Bb m A T.code) (Bb m A' T.code) (T.code.getD k AF.zero).a.toNat t+Bv (Bb m A T.code) (Bb m A' T.code) (T.code.getD k AF.zero).b.toNat t:=by
 have hb:=(h.form k hk).i2 (by omega)
 unfold Bv;rw[h.r3 hk h1,h'.r3 hk h1]
 exact(EN.sub (Yz (h'.ser _ (by omega)).1) (Yz (h.ser _ (by omega)).1)).trans (EN.eq fun t _=>by omega)
theorem ZJ (h:DG m A T)(h':DG m A' T)(hk:k<T.code.length)(h1:(T.code.getD k AF.zero).op=4) :
  EN m (Bv (Bb m A T.code) (Bb m A' T.code) k) fun t=>Bv (Bb m A T.code) (Bb m A' T.code) (T.code.getD k AF.zero).a.toNat t-Bv (Bb m A T.code) (Bb m A' T.code) (T.code.getD k AF.zero).b.toNat t:=by
 have hb:=(h.form k hk).i2 (by omega)
 unfold Bv;rw[h.r4 hk h1,h'.r4 hk h1]
 exact(EN.sub (Tm (h'.ser _ (by omega)).1) (Tm (h.ser _ (by omega)).1)).trans (EN.eq fun t _=>by omega)
theorem ZK (h:DG m A T)(h':DG m A' T)(hk:k<T.code.length)(h1:(T.code.getD k AF.zero).op=7) :
  EN m (Bv (Bb m A T.code) (Bb m A' T.code) k) fun t=>- Bv (Bb m A T.code) (Bb m A' T.code) (T.code.getD k AF.zero).a.toNat t:=by
 have hb:=(h.form k hk).i7 h1
 unfold Bv;rw[h.r7 hk h1,h'.r7 hk h1]
 exact(EN.sub (VH (h'.ser _ (by omega)).1) (VH (h.ser _ (by omega)).1)).trans (EN.eq fun t _=>by omega)
theorem ZL (h:DG m A T)(h':DG m A' T)(hk:k<T.code.length)(h1:(T.code.getD k AF.zero).op=5) :
  EN m (Bv (Bb m A T.code) (Bb m A' T.code) k) fun t=>cv (BN ((Bb m A T.code).getD (T.code.getD k AF.zero).b.toNat [])) (Bv (Bb m A T.code) (Bb m A' T.code) (T.code.getD k AF.zero).a.toNat) t
   + cv (BN ((Bb m A T.code).getD (T.code.getD k AF.zero).a.toNat [])) (Bv (Bb m A T.code) (Bb m A' T.code) (T.code.getD k AF.zero).b.toNat) t
   + cv (Bv (Bb m A T.code) (Bb m A' T.code) (T.code.getD k AF.zero).a.toNat) (Bv (Bb m A T.code) (Bb m A' T.code) (T.code.getD k AF.zero).b.toNat) t:=by
 have hb:=(h.form k hk).i2 (by omega)
 unfold Bv;rw[h.r5 hk h1,h'.r5 hk h1]
 exact(EN.sub (QD (h'.ser _ (by omega)).1) (QD (h.ser _ (by omega)).1)).trans (EN.eq fun t _=>VN _ _ _ _ t)
theorem ZM (h:DG m A T)(h':DG m A' T)(hk:k<T.code.length)(h1:(T.code.getD k AF.zero).op=6) :
  EN m (Bv (Bb m A T.code) (Bb m A' T.code) (T.code.getD k AF.zero).a.toNat) fun t=>cv (BN ((Bb m A T.code).getD (T.code.getD k AF.zero).b.toNat [])) (Bv (Bb m A T.code) (Bb m A' T.code) k) t
   + cv (BN ((Bb m A T.code).getD k [])) (Bv (Bb m A T.code) (Bb m A' T.code) (T.code.getD k AF.zero).b.toNat) t
   + cv (Bv (Bb m A T.code) (Bb m A' T.code) k) (Bv (Bb m A T.code) (Bb m A' T.code) (T.code.getD k AF.zero).b.toNat) t:=by
 have hb:=(h.form k hk).i2 (by omega)
 have q:=UH (h.ser (T.code.getD k AF.zero).a.toNat (by omega)).1 (h.ser (T.code.getD k AF.zero).b.toNat (by omega)).1 (h.rz hk h1)
 have q':=UH (h'.ser (T.code.getD k AF.zero).a.toNat (by omega)).1 (h'.ser (T.code.getD k AF.zero).b.toNat (by omega)).1 (h'.rz hk h1)
 rw[← h.r6 hk h1]at q
 rw[← h'.r6 hk h1]at q'
 exact(EN.sub q'.symm q.symm).trans (EN.eq fun t _=>VN _ _ _ _ t)
theorem VO (h:DG m A T)(h':DG m A' T)(hr:r≤m)(hz:∀j,j<A.length→Lo r (Bv A A' j)):∀n k,k<n→k<T.code.length→Lo r (Bv (Bb m A T.code) (Bb m A' T.code) k)
 |0,k,hk,_=>absurd hk (Nat.not_lt_zero k)
 |n+1,k,hn,hk=>by
  have ih:=VO h h' hr hz n
  have hf:=h.form k hk
  have b2:=fun h=>hf.i2 h
  have b7:=fun h=>hf.i7 h
  by_cases h1:(T.code.getD k AF.zero).op=1
  ·rw[ZG h h' hk h1];have:=hf.i1 h1;exact hz _ (by omega)
  by_cases h2:(T.code.getD k AF.zero).op=2
  ·exact ZH h h' hk h2
  by_cases h3:(T.code.getD k AF.zero).op=3
  ·have:=b2 (by omega)
   exact Lo.of (EN.mono (ZI h h' hk h3) hr) ((ih _ (by omega) (by omega)).add (ih _ (by omega) (by omega)))
  by_cases h4:(T.code.getD k AF.zero).op=4
  ·have:=b2 (by omega)
   exact Lo.of (EN.mono (ZJ h h' hk h4) hr) ((ih _ (by omega) (by omega)).sub (ih _ (by omega) (by omega)))
  by_cases h5:(T.code.getD k AF.zero).op=5
  ·have:=b2 (by omega)
   exact Lo.of (EN.mono (ZL h h' hk h5) hr) (((Lo.cvr _ (ih _ (by omega) (by omega))).add (Lo.cvr _ (ih _ (by omega) (by omega)))).add ((ih _ (by omega) (by omega)).cvl _))
  by_cases h6:(T.code.getD k AF.zero).op=6
  ·have:=b2 (by omega)
   have ha:=ih (T.code.getD k AF.zero).a.toNat (by omega) (by omega)
   have hb:=ih (T.code.getD k AF.zero).b.toNat (by omega) (by omega)
   have e:=EN.mono (ZM h h' hk h6) hr
   refine Lo.div (g:=BN ((Bb m A' T.code).getD (T.code.getD k AF.zero).b.toNat [])) (Oo (h'.ser (T.code.getD k AF.zero).b.toNat (by omega)).1 (h'.rz hk h6)) ?_
   refine Lo.of (g:=fun t=>Bv (Bb m A T.code) (Bb m A' T.code) (T.code.getD k AF.zero).a.toNat t-cv (BN ((Bb m A T.code).getD k [])) (Bv (Bb m A T.code) (Bb m A' T.code) (T.code.getD k AF.zero).b.toNat) t) ?_ (ha.sub (hb.cvr _))
   refine EN.trans (EN.eq fun t _=>?_) (EN.sub e.symm (EN.rfl' _))
   rw[VL (BN ((Bb m A' T.code).getD (T.code.getD k AF.zero).b.toNat [])) (BN ((Bb m A T.code).getD (T.code.getD k AF.zero).b.toNat [])),JK,CG _ (BN ((Bb m A T.code).getD (T.code.getD k AF.zero).b.toNat []))]
   show _+cv _ (Bv _ _ _) t=_
   omega
  have h7:(T.code.getD k AF.zero).op=7:=by unfold GL at hf;omega
  have:=b7 h7
  exact Lo.of (EN.mono (ZK h h' hk h7) hr) (ih _ (by omega) (by omega)).neg
theorem YJ (h:DG m A T)(h':DG m A' T)(hr:r≤m)(hz:∀j,j<A.length→Lo r (Bv A A' j))(hN:N≤m)(h2:N≤r+r):fB N T.code (Bb m A T.code) (Bv A A') (Bv (Bb m A T.code) (Bb m A' T.code)):=by
 have lo:=fun k (hk:k<T.code.length)=>VO h h' hr hz (k+1) k (Nat.lt_succ_self k) hk
 refine⟨fun k hk h1=>by rw[ZG h h' hk h1];exact EN.rfl' _,fun k hk h1=>ZH h h' hk h1,fun k hk h1=>EN.mono (ZI h h' hk h1) hN,fun k hk h1=>EN.mono (ZJ h h' hk h1) hN,fun k hk h1=>?_,fun k hk h1=>?_,fun k hk h1=>EN.mono (ZK h h' hk h1) hN⟩
 ·have:=(h.form k hk).i2 (by omega)
  refine(EN.mono (ZL h h' hk h1) hN).trans ?_
  refine(EN.add (EN.rfl' _) (Lo.mono (Lo.cv2 (lo _ (by omega)) (lo _ (by omega))) h2)).trans (EN.eq fun t _=>?_)
  exact Int.add_zero _
 ·have:=(h.form k hk).i2 (by omega)
  refine(EN.sub (EN.mono (ZM h h' hk h1) hN) (EN.rfl' _) |>.trans ?_).symm
  refine(EN.sub (EN.add (EN.rfl' _) (Lo.mono (Lo.cv2 (lo k hk) (lo _ (by omega))) h2)) (EN.rfl' _)).trans (EN.eq fun t _=>?_)
  show _+_+(0:Int)-_=_
  omega
theorem tay (h:DG m A T)(h':DG m A' T)(hm:1≤m)(hr:r≤m)(hz:∀j,j<A.length→Lo r (Bv A A' j))(hN:N≤m)(h2:N≤r+r){xs:List Int}(hE:Kx T xs){i:Nat}(hi:i<xs.length) :
  EN N (Dq A.length (Bv A A') (Qj m T xs A i)) (Bv (Bb m A T.code) (Bb m A' T.code) (xs.getD i 0).toNat):=by
 have hx:=h.outs hE
 refine(YI (m:=m) (ni:=A.length) (os:=xs) (ws:=G6 xs.length [((i:Nat):Int)] 1) (YJ h h' hr hz hN h2) hN hm h.regs (BE _) h.form (fun k hk h6=>h.rz hk h6) (fun q hq=>by have:=hx q hq;omega)).trans (EN.eq fun t _=>?_)
 have e:(sm xs.length fun q=>(G6 xs.length [((i:Nat):Int)] 1).getD q 0*Bv (Bb m A T.code) (Bb m A' T.code) (xs.getD q 0).toNat t)=sm xs.length fun q=>if i=q then Bv (Bb m A T.code) (Bb m A' T.code) (xs.getD q 0).toNat t else 0:=Ch fun q _=>by
  rw[show G6 xs.length [((i:Nat):Int)] 1=eV xs.length i from rfl,Vv hi]
  split
  ·rw[Int.one_mul]
  ·rw[Int.zero_mul]
 rw[e,JL i (fun q=>Bv (Bb m A T.code) (Bb m A' T.code) (xs.getD q 0).toNat t),if_pos hi]
end
end
section
section
variable {m n r N k:Nat}
theorem QU {u:Nat→Nat→Int}{row:List Sr}(h:∀j,j<n→Lo k (u j)):md (Dq n u row k)=md (sm n fun j=>BN (row.getD j []) 0*u j k):=by
 unfold Dq
 refine LX fun j hj=>?_
 cases k with
 |zero=>rfl
 |succ k =>
  show md (BN (row.getD j []) 0*u j (k+1)+cv (fun i=>BN (row.getD j []) (i+1)) (u j) k)=_
  have:=Lo.cvr (fun i=>BN (row.getD j []) (i+1)) (h j hj) k (Nat.lt_succ_self k)
  rw[← Gu,this]
  show md (_+md 0)=_
  rw[Gu,Int.add_zero]
theorem VP {J:List (List Sr)}{J0:List (List Int)}{u:Nat→Nat→Int}(hJ:J.length=n)(hS:Sq n J0)(hJ0:JM J=J0)(hJl:∀i,i<n→(J.getD i []).length=n)(hd:Ed J0≠0):∀N,(∀i,i<n→Lo N (Dq n u (J.getD i [])))→∀j,j<n→Lo N (u j)
 |0,_,j,_=>fun k hk=>absurd hk (Nat.not_lt_zero k)
 |N+1,h,j,hj=>by
  have ih:=VP hJ hS hJ0 hJl hd N fun i hi=>(h i hi).mono (Nat.le_succ N)
  have hl:J0.length=n:=by rw[← hJ0,En,hJ]
  have hS':Sq J0.length J0:=by rw[hl];exact hS
  have hb:B7 (List.replicate n 0)=true:=H2 n
  have hjn:Iw J0 (List.replicate n 0)≠none:=fun hn=>hd ((JF hS' hb).2 hn)
  have key:=Sw hS' (by rw[List.length_replicate,hl]) hb hjn (fun j=>u j N) fun i hi=>by
   rw[hl]at hi ⊢
   rw[Gw]
   have:=h i hi N (Nat.lt_succ_self N)
   rw[QU ih]at this
   rw[show(sm n fun j=>ZC J0 i j*u j N)=sm n fun j=>BN ((J.getD i []).getD j []) 0*u j N from Ch fun j hj=>by
    unfold ZC;rw[← hJ0,H0];unfold QE;rw[B5 (d:=[]) (by rw[hJl i hi];exact hj)];rfl,this];rfl
  have key0:=Sw hS' (by rw[List.length_replicate,hl]) hb hjn (fun j=>0) fun i hi=>by
   rw[Gw,fz fun j _=>Int.mul_zero _];rfl
  intro k hk
  by_cases e:k<N
  ·exact ih j hj k e
  ·have:k=N:=by omega
   subst this
   rw[key j (by rw[hl];exact hj),← key0 j (by rw[hl];exact hj)];rfl
structure TG (m n:Nat)(a:List Int)(J0:List (List Int))(G:List Sr→List Sr)(J:List Sr→List (List Sr)):Prop where
 al:a.length=n
 sq:Sq n J0
 gl:∀y,Bt m y→BZ y=a→(G y).length=n∧Bt m (G y)
 jl:∀y,Bt m y→BZ y=a→(J y).length=n∧∀i,i<n→((J y).getD i []).length=n∧Bt m ((J y).getD i [])
 j0:∀y,Bt m y→BZ y=a→JM (J y)=J0
 tay:∀y y' r N,Bt m y→Bt m y'→BZ y=a→BZ y'=a→1≤r→r≤m→(∀j,j<n→Lo r (Bv y y' j))→N≤m→N≤r+r→∀i,i<n→EN N (Dq n (Bv y y') ((J y).getD i [])) (Bv (G y) (G y') i)
variable {a:List Int} {J0:List (List Int)} {G:List Sr→List Sr} {J:List Sr→List (List Sr)} {y y' yS g:List Sr}
theorem It (h:BZ y=a):y.length=a.length:=by rw[← h,Cp]
def VQ (J:List (List Sr))(y g:List Sr):List Sr:=EU y.length fun i=>Dg (y.getD i []) ((FF J g).getD i [])
theorem JZ {J:List (List Sr)}:(VQ J y g).length=y.length:=by simp[VQ]
theorem QV {J:List (List Sr)}{i:Nat}(hi:i<y.length):(VQ J y g).getD i []=Dg (y.getD i []) ((FF J g).getD i []):=Bf [] hi
theorem YK {J:List (List Sr)}(h:Bt m y):Bt m (VQ J y g):=fun k hk=>by
 rw[JZ]at hk
 rw[QV hk];exact JO (h k hk)
theorem TG.sys (H:TG m n a J0 G J)(hy:Bt m y)(hf:BZ y=a)(hm:1≤m∧m≤13)(hn:n≤6)(hg:g.length=n)(hgs:Bt m g):HV (J y) g m:=by
 have h1:=H.jl y hy hf
 exact⟨by omega,by omega,fun i hi=>by rw[(h1.2 i (by omega)).1];omega,fun i j hi hj=>(h1.2 i (by omega)).2 j (by rw[(h1.2 i (by omega)).1];omega),fun i hi=>hgs i (by omega),hm.1,hm.2⟩
theorem TG.jor (H:TG m n a J0 G J)(hd:Ed J0≠0)(hy:Bt m y)(hf:BZ y=a)(hm:1≤m∧m≤13)(hn:n≤6)(hg:g.length=n)(hgs:Bt m g):D5 (J y) g≠none:=fun h=>by
 have:=(H.sys hy hf hm hn hg hgs).jor.1 h
 rw[H.j0 y hy hf]at this
 exact hd this
theorem TG.sol (H:TG m n a J0 G J)(hd:Ed J0≠0)(hy:Bt m y)(hf:BZ y=a)(hm:1≤m∧m≤13)(hn:n≤6)(hg:g.length=n)(hgs:Bt m g){i:Nat}(hi:i<n) :
  EN m (Dq n (fun j=>BN ((FF (J y) g).getD j [])) ((J y).getD i [])) (BN (g.getD i [])):=by
 have hs:=H.sys hy hf hm hn hg hgs
 have hj:=H.jor hd hy hf hm hn hg hgs
 have h1:=H.jl y hy hf
 have h:=(M4 (v:=fun j=>BN ((FF (J y) g).getD j [])) hs.sh hj).2 (fun r hr=>EN.rfl' _) i (by omega)
 unfold HU at h
 rw[M3 _ _ (by omega),h1.1]at h
 have hl:=(h1.2 i hi).1
 have e:Dq n (fun j=>BN ((FF (J y) g).getD j [])) ((J y).getD i []++[g.getD i []])=Dq n (fun j=>BN ((FF (J y) g).getD j [])) ((J y).getD i []):=funext fun t=>by
  unfold Dq
  exact Ch fun j hj=>by rw[JE (by omega)]
 rw[e,GT (by omega),show n-((J y).getD i []).length=0 from by omega]at h
 exact h
theorem TG.step (H:TG m n a J0 G J) (hd:Ed J0≠0) (hm:1≤m∧m≤13) (hn:n≤6) (hy:Bt m y) (hf:BZ y = a) (hyS:Bt m yS) (hfS:BZ yS = a) (hg:g.length = n) (hgs:Bt m g)
  (hgG:∀ i,i < n→EN m (BN (g.getD i [])) fun t=>BN ((G y).getD i []) t - BN ((G yS).getD i []) t) (hr1:1≤r) (hr:r≤m) (hz:∀ j,j < n→Lo r (Bv y yS j)) (hN:N≤m) (h2:N≤r + r) :
  ∀ j,j < n→Lo N (Bv (VQ (J y) y g) yS j):=by
 have h1:=H.jl y hy hf
 have hyl:y.length = n:=by rw [It hf,H.al]
 have hsl:=(PI (H.sys hy hf hm hn hg hgs) (H.jor hd hy hf hm hn hg hgs))
 -- the solution and the difference have the same image,up to N
 have key:∀ j,j < n→Lo N (fun t=>BN ((FF (J y) g).getD j []) t + Bv y yS j t):=VP h1.1 H.sq (H.j0 y hy hf) (fun i hi=>(h1.2 i hi).1) hd N fun i hi=>by
  have e:Dq n (fun j t=>BN ((FF (J y) g).getD j []) t + Bv y yS j t) ((J y).getD i []) = fun t=>Dq n (fun j=>BN ((FF (J y) g).getD j [])) ((J y).getD i []) t + Dq n (Bv y yS) ((J y).getD i []) t:=funext fun t=>by
   unfold Dq
   rw [← QB]
   exact Ch fun j _=>JK _ _ _ _
  rw [e]
  refine Lo.of (EN.add ((EN.mono (H.sol hd hy hf hm hn hg hgs hi) hN).trans (EN.mono (hgG i hi) hN)) (H.tay y yS r N hy hyS hf hfS hr1 hr hz hN h2 i hi)) fun t _=>?_
  unfold Bv
  rw [show BN ((G y).getD i []) t - BN ((G yS).getD i []) t + (BN ((G yS).getD i []) t - BN ((G y).getD i []) t) = 0 from by omega]; rfl
 intro j hj
 refine Lo.of (g:=fun t=>BN ((FF (J y) g).getD j []) t + Bv y yS j t) ?_ (key j hj)
 unfold Bv
 rw [QV (by omega)]
 refine (EN.sub (EN.rfl' _) (EN.mono (Tm (hy j (by omega))) hN)).trans (EN.eq fun t _=>?_)
 (try dsimp only); omega
theorem fD (hy:Bt m y)(hy':Bt m y')(hl:y.length=y'.length)(h:∀j,j<y.length→Lo m (Bv y y' j)):y=y':=by
 refine List.ext_getElem hl fun j h1 h2=>?_
 rw[← DV (d:=[]) h1,← DV (d:=[]) h2]
 refine Bs.ext (hy j h1) (hy' j h2) fun k hk=>?_
 have h3:md ((y'.getD j []).getD k 0-(y.getD j []).getD k 0)=md 0:=h j h1 k hk
 have h4:=Ba (hy j h1).2 k
 have h5:=Ba (hy' j h2).2 k
 unfold md at h3
 omega
theorem fE (hy:Bt m y)(hy':Bt m y')(hm:1≤m)(h:BZ y=BZ y'){j:Nat}(hj:j<y.length):Lo 1 (Bv y y' j):=fun k hk=>by
 have e:k=0:=by omega
 subst e
 have hl:y'.length=y.length:=by rw[← Cp (A:=y'),← h,Cp]
 have h1:(BZ y).getD j 0=(BZ y').getD j 0:=by rw[h]
 unfold BZ at h1
 rw[B5 (d:=[]) hj,B5 (d:=[]) (by omega)]at h1
 show md ((y'.getD j []).getD 0 0-(y.getD j []).getD 0 0)=_
 rw[h1,Int.sub_self];rfl
theorem O0 (hy:Bt m y)(hy':Bt m y')(hl:y.length=y'.length)(hm:1≤m)(h:∀j,j<y.length→Lo 1 (Bv y y' j)):BZ y=BZ y':=by
 refine List.ext_getElem (by rw[Cp,Cp,hl]) fun j h1 h2=>?_
 rw[← DV (d:=(0:Int)) h1,← DV (d:=(0:Int)) h2]
 rw[Cp]at h1 h2
 unfold BZ
 rw[B5 (d:=[]) h1,B5 (d:=[]) h2]
 have h3:md ((y'.getD j []).getD 0 0-(y.getD j []).getD 0 0)=md 0:=h j h1 0 (by omega)
 have h4:=Ba (hy j h1).2 0
 have h5:=Ba (hy' j h2).2 0
 unfold md at h3
 omega
theorem TG.at_ (H:TG m n a J0 G J)(hy:Bt m y)(hf:BZ y=a)(hy':Bt m y')(hf':BZ y'=a)(hk1:1≤k)(hk:k<m)(hz:∀j,j<n→Lo k (Bv y y' j)){i:Nat}(hi:i<n) :
  Lo k (Bv (G y) (G y') i)∧md (Bv (G y) (G y') i k)=md (sm n fun j=>ZC J0 i j*Bv y y' j k):=by
 have h:=H.tay y y' k (k+1) hy hy' hf hf' hk1 (by omega) hz (by omega) (by omega) i hi
 have h1:=H.jl y hy hf
 refine⟨?_,?_⟩
 ·refine Lo.of (EN.mono h.symm (Nat.le_succ k)) fun t ht=>?_
  show md (sm n fun j=>cv _ (Bv y y' j) t)=_
  rw[show md (sm n fun j=>cv (BN (((J y).getD i []).getD j [])) (Bv y y' j) t)=md (sm n fun _=>0)from LX fun j hj=>Lo.cvr _ (hz j hj) t ht,fz fun _ _=>rfl];rfl
 ·rw[← h k (Nat.lt_succ_self k),QU hz]
  congr 1
  exact Ch fun j hj=>by
   unfold ZC;rw[← H.j0 y hy hf,H0];unfold QE;rw[B5 (d:=[]) (by rw[(h1.2 i hi).1];exact hj)];rfl
end
section
variable {m n k:Nat} {a:List Int} {J0:List (List Int)} {G:List Sr→List Sr} {J:List Sr→List (List Sr)} {L:Nat→Nat→Int} {nx:Nat→List Sr→List Int} {Y:List Sr}
def FB (nx:Nat→List Sr→List Int)(Y:List Sr):Nat→List Sr
 |0=>Y
 |k+1=>EU Y.length fun i=>((FB nx Y k).getD i []).set (k+1) ((nx (k+1) (FB nx Y k)).getD i 0)
@[simp] theorem Iu:∀k,(FB nx Y k).length=Y.length
 |0=>rfl
 |k+1=>by simp[FB]
theorem QW {i:Nat}(hi:i<Y.length):(FB nx Y (k+1)).getD i []=((FB nx Y k).getD i []).set (k+1) ((nx (k+1) (FB nx Y k)).getD i 0):=Bf [] hi
theorem YL {i:Nat}(hi:i<Y.length):(Cn i (FB nx Y (k+1)) (FB nx Y k)).set i (((Cn i (FB nx Y (k+1)) (FB nx Y k)).getD i []).set (k+1) ((nx (k+1) (FB nx Y k)).getD i 0))=Cn (i+1) (FB nx Y (k+1)) (FB nx Y k):=by
 rw[CU [] (by simp) (A9 _) (by simpa using hi),← QW hi,Hk [] (by simp) (by simpa using hi)]
theorem Tx {s:Sr}{y:Int}:∀ {k:Nat},B7 s=true→0≤y∧y<1000003→B7 (s.set k y)=true:=fun {k} h hy=>by
 unfold B7 at h ⊢
 rw[List.all_eq_true]at h ⊢
 intro x hx
 rcases List.mem_or_eq_of_mem_set hx with h1|h1
 ·exact h x h1
 ·subst h1;exact C3.2 hy
structure lE (m n:Nat)(J0:List (List Int))(G:List Sr→List Sr)(a:List Int)(L:Nat→Nat→Int)(nx:Nat→List Sr→List Int):Prop where
 e:∀k y,1≤k→k<m→Bt m y→BZ y=a→nx k y=Ix J0 (EU n fun i=>md (L i k-BN ((G y).getD i []) k))
theorem ZN (H:TG m n a J0 G J)(hd:Ed J0≠0)(hx:lE m n J0 G a L nx)(hY:Bt m Y)(hf:BZ Y=a)(h0:∀j,j<n→∀k,1≤k→k<m→(Y.getD j []).getD k 0=0)(hL:∀i,i<n→EN 1 (BN ((G Y).getD i [])) (L i)) :
  ∀k,k<m→Bt m (FB nx Y k)∧BZ (FB nx Y k)=a∧(∀j,j<n→∀q,k<q→q<m→((FB nx Y k).getD j []).getD q 0=0)∧∀i,i<n→EN (k+1) (BN ((G (FB nx Y k)).getD i [])) (L i)
 |0,_=>⟨hY,hf,fun j hj q h1 h2=>h0 j hj q h1 h2,hL⟩
 |k+1,hk=>by
  obtain⟨h1,h2,h3,h4⟩:=ZN H hd hx hY hf h0 hL k (by omega)
  have hYl:Y.length=n:=by rw[It hf,H.al]
  have hl:J0.length=n:=by
   have:=H.j0 Y hY hf
   rw[← this,En];exact(H.jl Y hY hf).1
  have hS':Sq J0.length J0:=by rw[hl];exact H.sq
  have hb:B7 (EU n fun i=>md (L i (k+1)-BN ((G (FB nx Y k)).getD i []) (k+1)))=true:=FE fun _ _=>BK _
  have hbl:(EU n fun i=>md (L i (k+1)-BN ((G (FB nx Y k)).getD i []) (k+1))).length=J0.length:=by rw[hl];simp
  have hj:Iw J0 (EU n fun i=>md (L i (k+1)-BN ((G (FB nx Y k)).getD i []) (k+1)))≠none:=fun hn=>hd ((JF hS' hb).2 hn)
  have e:=hx.e (k+1) (FB nx Y k) (by omega) hk h1 h2
  have hnum:∀i,0≤(nx (k+1) (FB nx Y k)).getD i 0∧(nx (k+1) (FB nx Y k)).getD i 0<1000003:=fun i=>by rw[e];exact Ba (PD hS' hb hj) i
  have s1:Bt m (FB nx Y (k+1)):=fun i hi=>by
   rw[Iu]at hi
   rw[QW hi]
   have:=h1 i (by rw[Iu];exact hi)
   exact⟨by rw[List.length_set];exact this.1,Tx this.2 (hnum i)⟩
  have g1:∀i,i<n→∀q,((FB nx Y (k+1)).getD i []).getD q 0=if q=k+1 then(nx (k+1) (FB nx Y k)).getD i 0 else((FB nx Y k).getD i []).getD q 0:=fun i hi q=>by
   rw[QW (by omega),Bz _ _ _ _ _ (by rw[(h1 i (by rw[Iu];omega)).1];exact hk)]
  have s2:BZ (FB nx Y (k+1))=a:=by
   rw[← h2]
   refine(O0 h1 s1 (by simp) (by omega) fun j hj t ht=>?_).symm
   rw[Iu]at hj
   show md (((FB nx Y (k+1)).getD j []).getD t 0-_)=_
   rw[g1 j (by omega),if_neg (by omega)]
   show md (((FB nx Y k).getD j []).getD t 0-((FB nx Y k).getD j []).getD t 0)=_
   rw[Int.sub_self];rfl
  have hz:∀j,j<n→Lo (k+1) (Bv (FB nx Y k) (FB nx Y (k+1)) j):=fun j hj t ht=>by
   show md (((FB nx Y (k+1)).getD j []).getD t 0-_)=_
   rw[g1 j hj,if_neg (by omega)]
   show md (((FB nx Y k).getD j []).getD t 0-((FB nx Y k).getD j []).getD t 0)=_
   rw[Int.sub_self];rfl
  refine⟨s1,s2,fun j hj q hq hqm=>?_,fun i hi=>?_⟩
  ·rw[g1 j hj,if_neg (by omega)];exact h3 j hj q (by omega) hqm
  ·obtain⟨q1,q2⟩:=H.at_ h1 h2 s1 s2 (k:=k+1) (by omega) hk hz hi
   intro t ht
   by_cases e1:t<k+1
   ·have:=q1 t e1
    have h5:=h4 i hi t e1
    unfold Bv at this
    rw[← h5]
    unfold J5 at this
    unfold md at this ⊢
    omega
   ·have:t=k+1:=by omega
    subst this
    have h6:=PH hS' hbl hb hj (r:=i) (by omega)
    rw[← e,hl,Bf _ hi]at h6
    have e3:(sm n fun j=>ZC J0 i j*Bv (FB nx Y k) (FB nx Y (k+1)) j (k+1))=sm n fun j=>(J0.getD i []).getD j 0*(nx (k+1) (FB nx Y k)).getD j 0:=Ch fun j hj=>by
     unfold ZC Bv BN
     rw[g1 j hj,if_pos rfl,h3 j hj (k+1) (by omega) hk,Int.sub_zero]
    rw[e3,h6]at q2
    unfold Bv at q2
    unfold md at q2 ⊢
    omega
end
end
section
structure HH (m m':Nat)(B B':List Sr):Prop where
 s:Bt m B
 s':Bt m' B'
 l:B.length=B'.length
 h:∀k,(B.getD k []).getD 0 0=(B'.getD k []).getD 0 0
section
variable {m m' ni k i:Nat} {B B' R R':List Sr} {s s':Sr} {cs:List AF} {r:Int} {os ws:List Int}
theorem SA (l:List Sr)(i:Nat)(x:Sr)(j:Nat):(l.set i x).getD j []=if j=i∧i<l.length then x else l.getD j []:=by
 by_cases h:i<l.length
 ·rw[Bz _ _ _ _ _ h]
  by_cases e:j=i
  ·rw[if_pos e,if_pos ⟨e,h⟩]
  ·rw[if_neg e,if_neg fun h=>e h.1]
 ·rw[List.set_eq_of_length_le (by omega),if_neg fun h9=>h h9.2]
theorem HH.set (h:HH m m' B B')(hs:Bs m s)(hs':Bs m' s')(e:s.getD 0 0=s'.getD 0 0):HH m m' (B.set i s) (B'.set i s'):=by
 refine⟨h.s.set hs,h.s'.set hs',by rw[List.length_set,List.length_set,h.l],fun k=>?_⟩
 rw[SA,SA,h.l]
 split
 ·exact e
 ·exact h.h k
theorem HH.adP (hm:1≤m)(hm':1≤m')(h:HH m m' B B')(hr:r.toNat<B.length)(e:s.getD 0 0=s'.getD 0 0):HH m m' (FH B r s) (Go.Proofs.YtnokbaiemimhjaaGreat.FH B' r s'):=by
 have h1:=h.s r.toNat hr
 have h2:=h.s' r.toNat (by rw[← h.l];exact hr)
 refine h.set (H3 h1) (H3 h2) ?_
 rw[Su h1 (by omega),Su h2 (by omega),h.h,e]
theorem HH.adI (hm:1≤m)(hm':1≤m')(h:HH m m' B B')(hR:HH m m' R R')(hk:k<B.length)(hf:GL ni k (cs.getD k AF.zero)):HH m m' (NZ cs R k B) (Go.Proofs.YtnokbaiemimhjaaGreat.NZ cs R' k B'):=by
 have b2:=fun h=>hf.i2 h
 have b7:=fun h=>hf.i7 h
 have h1:=h.s k hk
 have h2:=h.s' k (by rw[← h.l];exact hk)
 have hp:∀q,(C7 (B.getD k []) (R.getD q [])).getD 0 0=(C7 (B'.getD k []) (R'.getD q [])).getD 0 0:=fun q=>by
  rw[Mg (by rw[h1.1];omega),Mg (by rw[h2.1];omega),h.h,hR.h]
 have hq:∀q,(BR (B.getD k []) (R.getD q [])).getD 0 0=(BR (B'.getD k []) (R'.getD q [])).getD 0 0:=fun q=>by
  rw[PV (by rw[h1.1];omega),PV (by rw[h2.1];omega),h.h,hR.h]
 have hn:∀ {s s':Sr},Bs m s→Bs m' s'→s.getD 0 0=s'.getD 0 0→(CD s 1000002).getD 0 0=(CD s' 1000002).getD 0 0:=fun hs hs' e=>by
  rw[Sv hs (by omega),Sv hs' (by omega),e]
 by_cases h3:(cs.getD k AF.zero).op=3
 ·rw[PY h3,PY h3]
  have:=b2 (by omega)
  exact(h.adP hm hm' (by omega) (h.h k)).adP hm hm' (by rw[C4];omega) (h.h k)
 by_cases h4:(cs.getD k AF.zero).op=4
 ·rw[PZ h4,PZ h4]
  have:=b2 (by omega)
  exact(h.adP hm hm' (by omega) (h.h k)).adP hm hm' (by rw[C4];omega) (hn h1 h2 (h.h k))
 by_cases h5:(cs.getD k AF.zero).op=5
 ·rw[Q0 h5,Q0 h5]
  have:=b2 (by omega)
  exact(h.adP hm hm' (by omega) (hp _)).adP hm hm' (by rw[C4];omega) (hp _)
 by_cases h6:(cs.getD k AF.zero).op=6
 ·rw[Q3 h6,Q3 h6]
  have:=b2 (by omega)
  refine(h.adP hm hm' (by omega) (hq _)).adP hm hm' (by rw[C4];omega) (hn (HX (H4 h1)) (HX (H4 h2)) ?_)
  rw[Mg (by rw[DT,h1.1];omega),Mg (by rw[DT,h2.1];omega),hq,hR.h]
 by_cases h7:(cs.getD k AF.zero).op=7
 ·rw[Q4 h7,Q4 h7]
  have:=b7 h7
  exact h.adP hm hm' (by omega) (hn h1 h2 (h.h k))
 have:(cs.getD k AF.zero).op<3∨7<(cs.getD k AF.zero).op:=by omega
 rw[Q5 this,Q5 this];exact h
theorem HH.adA (hm:1≤m)(hm':1≤m')(hR:HH m m' R R')(hf:∀k,k<cs.length→GL ni k (cs.getD k AF.zero)):∀(n:Nat)(B B':List Sr),n≤cs.length→n≤B.length→HH m m' B B'→HH m m' (TF cs R n B) (Go.Proofs.YtnokbaiemimhjaaGreat.TF cs R' n B')
 |0,_,_,_,_,h=>h
 |n+1,B,B',hn,hb,h=>HH.adA hm hm' hR hf n _ _ (by omega) (by rw[Lx];omega) (h.adI hm hm' hR (by omega) (hf n (by omega)))
theorem HH.wgt (hm:1≤m)(hm':1≤m')(h:HH m m' B B')(ho:∀k,k<os.length→(os.getD k 0).toNat<B.length):∀k,k≤os.length→HH m m' (N3 os ws k B) (Go.Proofs.YtnokbaiemimhjaaGreat.N3 os ws k B')
 |0,_=>h
 |k+1,hk=>by
  have ih:=HH.wgt hm hm' h ho k (by omega)
  have h1:=ih.s (os.getD k 0).toNat (by rw[Eo];exact ho k (by omega))
  have h2:=ih.s' (os.getD k 0).toNat (by rw[Eo,← h.l];exact ho k (by omega))
  refine ih.set ⟨by rw[List.length_set];exact h1.1,KB h1.2 (BK _)⟩ ⟨by rw[List.length_set];exact h2.1,KB h2.2 (BK _)⟩ ?_
  rw[Bz _ _ _ _ _ (by rw[h1.1];omega),Bz _ _ _ _ _ (by rw[h2.1];omega),if_pos rfl,if_pos rfl,ih.h]
theorem ZO (k:Nat):((JW R).getD k []).getD 0 0=0:=by
 by_cases h:k<R.length
 ·rw[show(JW R).getD k []=List.replicate (R.getD k []).length 0 from by unfold JW;rw[B5 (d:=[]) h]];exact Gw _ 0
 ·rw[show(JW R).getD k []=[]from by rw[List.getD_eq_getElem?_getD,List.getElem?_eq_none (by rw[D7];omega)];rfl];rfl
theorem HH.zrs (h:HH m m' R R'):HH m m' (JW R) (Go.Proofs.YtnokbaiemimhjaaGreat.JW R'):=⟨Hu h.s,Hu h.s',by rw[D7,D7,h.l],fun k=>by rw[ZO,ZO]⟩
theorem HH.byN {L L':List Sr}(hm:1≤m)(hm':1≤m')(hL:HH m m' L L')(h:HH m m' B B')(hf:∀k,k<cs.length→GL B.length k (cs.getD k AF.zero)):∀k,k≤cs.length→HH m m' (Tv cs L k B) (Go.Proofs.YtnokbaiemimhjaaGreat.Tv cs L' k B')
 |0,_=>h
 |k+1,hk=>by
  have ih:=HH.byN hm hm' hL h hf k (by omega)
  by_cases h1:(cs.getD k AF.zero).op=1
  ·rw[Mq h1,Mq h1]
   have:=(hf k (by omega)).i1 h1
   exact ih.adP hm hm' (by rw[Is];omega) (hL.h k)
  ·rw[Mr h1,Mr h1];exact ih
theorem HH.rep (m m' ni:Nat):HH m m' (List.replicate ni (List.replicate m 0)) (List.replicate ni (List.replicate m' 0)):=by
 refine⟨JX _ _,JX _ _,by simp,fun k=>?_⟩
 by_cases h:k<ni
 ·rw[show(List.replicate ni (List.replicate m (0:Int))).getD k []=List.replicate m 0 from by simp[List.getD_eq_getElem?_getD,h],show(List.replicate ni (List.replicate m' (0:Int))).getD k []=List.replicate m' 0 from by simp[List.getD_eq_getElem?_getD,h],Gw,Gw]
 ·rw[show(List.replicate ni (List.replicate m (0:Int))).getD k []=[]from by simp[List.getD_eq_getElem?_getD,h],show(List.replicate ni (List.replicate m' (0:Int))).getD k []=[]from by simp[List.getD_eq_getElem?_getD,h]]
theorem VS {A A':List Sr}{T:Tp}{xs:List Int}(hm:1≤m)(hm':1≤m')(h:DG m A T)(h':DG m' A' T)(hl:A.length=A'.length)(hE:Kx T xs)(i:Nat):HH m m' (Qj m T xs A i) (Qj m' T xs A' i):=by
 have hR:HH m m' (Bb m A T.code) (Bb m' A' T.code):=⟨h.regs,h'.regs,by rw[BE,BE],fun k=>by
  by_cases hk:k<T.code.length
  ·rw[(h.ser k hk).2,(h'.ser k hk).2]
  ·rw[show(Bb m A T.code).getD k []=[]from by rw[List.getD_eq_getElem?_getD,List.getElem?_eq_none (by rw[BE];omega)];rfl,show(Bb m' A' T.code).getD k []=[]from by rw[List.getD_eq_getElem?_getD,List.getElem?_eq_none (by rw[BE];omega)];rfl]⟩
 have hx:=h.outs hE
 unfold Qj dP
 rw[← hl]
 refine HH.byN hm hm' ?_ (HH.rep m m' _) (fun k hk=>by rw[List.length_replicate];exact h.form k hk) _ (A9 _)
 unfold L6
 refine HH.adA hm hm' hR h.form _ _ _ (A9 _) (by rw[Eo,D7,BE];exact A9 _) (hR.zrs.wgt hm hm' (fun q hq=>?_) _ (A9 _))
 rw[D7,BE]
 have:=hx q hq
 omega
end
section
variable {p:List Fn} {f m r N i j s:Nat} {a:List Int} {A A':List Sr} {xs:List Int} {T:Tp}
structure Hd (p:List Fn)(f:Nat)(a:List Int)(xs:List Int)(T:Tp):Prop where
 v:Iz p
 lt:f<p.length
 l:((a.length:Nat):Int)=(p.getD f Fn.zero).params
 n:B7 a=true
 r:∃s,AT (Na p f a) (xs,T) s 0
theorem LA (hA:Bt m A)(h:BZ A=a):QO m a A:=by rw[← h];exact EJ hA
theorem Hd.tp (h:Hd p f a xs T)(hm:1≤m)(hA:Bt m A)(hf:BZ A=a):DG m A T∧(Dr p m f A=xs.map fun r=>(Bb m A T.code).getD r.toNat [])∧HF p m f A=0:=by
 obtain⟨s,hs⟩:=h.r
 have h1:=JV hm h.v h.lt h.n (LA hA hf) h.l hs rfl
 exact⟨h1.1,h1.2,JU hm h.v h.lt h.n (LA hA hf) h.l hs⟩
theorem Dw (a:List Int):BZ (Cq a)=a:=by
 unfold BZ Cq
 rw[List.map_map]
 exact List.map_id'' (fun _=>rfl) a
theorem Hd.en (h:Hd p f a xs T):xs.length=(p.getD f Fn.zero).outs.length∧Kx T xs:=by
 obtain⟨s,hs⟩:=h.r
 have hT:=Sn (A9 1) h.v h.lt h.n (LA (DW h.n) (Dw a)) h.l
 rw[hs.ok]at hT
 obtain⟨z,h1,h2,h3,h4⟩:=hT
 exact⟨h4.1,fun k hk=>(h4.2.2 k (by rw[h4.1]at hk;exact hk)).1⟩
theorem Hd.at (h:Hd p f a xs T):lK p f a:=⟨h.v,h.lt,h.l,h.n,(h.tp (A9 1) (DW h.n) (Dw a)).2.2⟩
theorem Hd.vals (h:Hd p f a xs T)(hm:1≤m)(hA:Bt m A)(hf:BZ A=a)(hi:i<xs.length):(Dr p m f A).getD i []=(Bb m A T.code).getD (xs.getD i 0).toNat []:=by
 rw[(h.tp hm hA hf).2.1,B5 (d:=0) hi]
theorem Hd.ser (h:Hd p f a xs T)(hm:1≤m)(hA:Bt m A)(hf:BZ A=a):(Dr p m f A).length=xs.length∧Bt m (Dr p m f A):=by
 have hl:(Dr p m f A).length=xs.length:=by rw[(h.tp hm hA hf).2.1,List.length_map]
 refine⟨hl,fun k hk=>?_⟩
 rw[h.vals hm hA hf (by omega)]
 have:=(h.tp hm hA hf).1.outs h.en.2 k (by omega)
 exact((h.tp hm hA hf).1.ser _ (by omega)).1
theorem Hd.tay (h:Hd p f a xs T)(hm:1≤m)(hA:Bt m A)(hf:BZ A=a)(hA':Bt m A')(hf':BZ A'=a)(hr:r≤m)(hz:∀j,j<A.length→Lo r (Bv A A' j))(hN:N≤m)(h2:N≤r+r)(hi:i<xs.length) :
  EN N (Dq A.length (Bv A A') (Qj m T xs A i)) (Bv (Dr p m f A) (Dr p m f A') i):=by
 refine(Go.Proofs.YtnokbaiemimhjaaGreat.tay (h.tp hm hA hf).1 (h.tp hm hA' hf').1 hm hr hz hN h2 h.en.2 hi).trans (EN.eq fun t _=>?_)
 unfold Bv
 rw[h.vals hm hA hf hi,h.vals hm hA' hf' hi]
theorem Hd.slo (h:Hd p f a xs T)(hm:1≤m)(hA:Bt m A)(hf:BZ A=a)(i:Nat):(Qj m T xs A i).length=A.length∧Bt m (Qj m T xs A i):=by
 refine⟨YH,?_⟩
 unfold Qj
 exact YG (h.tp hm hA hf).1.form
def Gi (p:List Fn)(f:Nat)(a:List Int)(n:Nat):List (List Int):=EU n fun i=>EU a.length fun k=>((PW p f a (eV a.length k)).getD i []).getD 1 0
theorem EW (a d:List Int):BZ (Gl a d 2)=a:=by
 refine List.ext_getElem (by simp) fun k h1 h2=>?_
 rw[← DV (d:=(0:Int)) h1,← DV (d:=(0:Int)) h2]
 unfold BZ
 rw[B5 (d:=[]) (by rw[CP];exact h2),Vw h2]
theorem Hd.jac (h:Hd p f a xs T)(hm:1≤m)(hA:Bt m A)(hf:BZ A=a){i j:Nat}(hi:i<xs.length)(hj:j<a.length):((Qj m T xs A i).getD j []).getD 0 0=((PW p f a (eV a.length j)).getD i []).getD 1 0:=by
 have hn0:B7 (List.replicate a.length 0)=true:=H2 _
 have s0:Bt 2 (Gl a (List.replicate a.length 0) 2):=Ht h.n hn0
 have s1:Bt 2 (Gl a (eV a.length j) 2):=Ht h.n (QN _ _)
 have hl:A.length=a.length:=by rw[← hf,Cp]
 have hd:=VS (i:=i) hm (by decide:1≤2) (h.tp hm hA hf).1 (h.tp (by decide) s0 (EW _ _)).1 (by rw[CP,hl]) h.en.2
 rw[hd.h j]
 have ho:∀q,q<a.length→Lo 1 (Bv (Gl a (List.replicate a.length 0) 2) (Gl a (eV a.length j) 2) q):=fun q hq=>fE s0 s1 (by decide) (by rw[EW,EW]) (by rw[CP];exact hq)
 have ht:=h.tay (m:=2) (r:=1) (N:=2) (by decide) s0 (EW _ _) s1 (EW _ _) (by decide) (fun q hq=>ho q (by rw[CP]at hq;exact hq)) (by decide) (by decide) hi 1 (by decide)
 rw[CP,QU (k:=1) ho]at ht
 have e:(sm a.length fun q=>BN ((Qj 2 T xs (Gl a (List.replicate a.length 0) 2) i).getD q []) 0*Bv (Gl a (List.replicate a.length 0) 2) (Gl a (eV a.length j) 2) q 1)=sm a.length fun q=>if j=q then BN ((Qj 2 T xs (Gl a (List.replicate a.length 0) 2) i).getD q []) 0 else 0:=Ch fun q hq=>by
  unfold Bv
  rw[show BN ((Gl a (eV a.length j) 2).getD q []) 1=_ from Sm hq,show BN ((Gl a (List.replicate a.length 0) 2).getD q []) 1=_ from Sm hq,Gw,Vv hj,Int.sub_zero]
  split
  ·rw[Int.mul_one]
  ·rw[Int.mul_zero]
 rw[e,JL j (fun q=>BN ((Qj 2 T xs (Gl a (List.replicate a.length 0) 2) i).getD q []) 0),if_pos hj]at ht
 have hat:=h.at
 have hz:=Vx (K:=0) (d:=List.replicate a.length 0) (D:=fun _=>[]) (c:=fun _=>0) h.v h.lt h.l h.n hn0 (fun k hk=>absurd hk (Nat.not_lt_zero k)) (fun i hi=>by rw[Gw];rfl) hat.z (r:=i) (by rw[← h.en.1];exact hi)
 have hz':((Dr p 2 f (Gl a (List.replicate a.length 0) 2)).getD i []).getD 1 0=0:=hz
 unfold Bv at ht
 rw[show BN ((Dr p 2 f (Gl a (List.replicate a.length 0) 2)).getD i []) 1=0 from hz',Int.sub_zero]at ht
 have n1:=Ba (((h.slo (by decide:1≤2) s0 (EW _ _) i).2 j (by rw[(h.slo (by decide:1≤2) s0 (EW _ _) i).1,CP];exact hj)).2) 0
 have n2:=Ba (((h.ser (by decide:1≤2) s1 (EW _ _)).2 i (by rw[(h.ser (by decide:1≤2) s1 (EW _ _)).1];exact hi)).2) 1
 have ht':md (((Qj 2 T xs (Gl a (List.replicate a.length 0) 2) i).getD j []).getD 0 0)=md (((Dr p 2 f (Gl a (eV a.length j) 2)).getD i []).getD 1 0):=ht
 rw[KU n1.1 n1.2,KU n2.1 n2.2]at ht'
 exact ht'
end
end
section
section
variable {p:List Fn} {f m r N i j k n:Nat} {a d:List Int} {y y':List Sr} {xs:List Int} {T:Tp}
theorem OK (hi:i<n):(Gi p f a n).getD i []=EU a.length fun k=>((PW p f a (eV a.length k)).getD i []).getD 1 0:=Bf [] hi
theorem YM (h:Hd p f a xs T)(hn:n=xs.length)(i:Nat):B7 ((Gi p f a n).getD i [])=true:=by
 by_cases hi:i<n
 ·rw[OK hi]
  refine FE fun k _=>?_
  have:=(h.ser (m:=2) (by decide) (Ht h.n (QN a.length k)) (EW _ _))
  exact Ba (this.2 i (by rw[this.1];omega)).2 1
 ·rw[show(Gi p f a n).getD i []=[]from by rw[List.getD_eq_getElem?_getD,List.getElem?_eq_none (by unfold Gi;rw[DC];omega)];rfl];rfl
theorem QX (h:Hd p f a xs T)(hn:xs.length=a.length):Sq a.length (Gi p f a a.length):=⟨by simp[Gi],fun i hi=>by rw[OK hi];simp,YM h hn.symm⟩
theorem YN (h:Hd p f a xs T)(hm:1≤m)(hy:Bt m y)(hf:BZ y=a)(hn:n=xs.length):JM (IB m T xs y n)=Gi p f a n:=by
 have hl:y.length=a.length:=by rw[← hf,Cp]
 refine List.ext_getElem (by rw[En];simp[Gi]) fun i h1 h2=>?_
 have hi:i<n:=by rw[En,Ss]at h1;exact h1
 rw[← DV (d:=[]) h1,← DV (d:=[]) h2,H0,QR hi,OK hi]
 have hs:=h.slo hm hy hf i
 refine List.ext_getElem (by rw[Oq,hs.1];simp[hl]) fun j h3 h4=>?_
 have hj:j<a.length:=by rw[Oq,hs.1]at h3;omega
 rw[← DV (d:=(0:Int)) h3,← DV (d:=(0:Int)) h4,Bf _ hj]
 unfold QE
 rw[B5 (d:=[]) (by rw[hs.1];omega)]
 exact h.jac hm hy hf (by omega) hj
theorem LB (h:Hd p f a xs T)(hm:1≤m)(hn:xs.length=a.length):TG m a.length a (Gi p f a a.length) (fun y=>Dr p m f y) (fun y=>IB m T xs y xs.length) where
 al:=rfl
 sq:=QX h hn
 gl y hy hf:=by have:=h.ser hm hy hf;exact⟨this.1.trans hn,this.2⟩
 jl y hy hf:=by
  refine⟨by rw[Ss];exact hn,fun i hi=>?_⟩
  rw[QR (by omega)]
  have:=h.slo hm hy hf i
  exact⟨by rw[this.1,← hf,Cp],this.2⟩
 j0 y hy hf:=by rw[YN h hm hy hf rfl,hn]
 tay y y' r N hy hy' hf hf' hr1 hr hz hN h2 i hi:=by
  have hl:y.length=a.length:=by rw[← hf,Cp]
  rw[QR (by omega)]
  have:=h.tay hm hy hf hy' hf' hr (fun j hj=>hz j (by omega)) hN h2 (i:=i) (by omega)
  rw[hl]at this
  exact this
end
def E8 (a b:Int):Bool:=Hm a 1 6 && decide (b=a)
def IQ (p:List Fn)(f:Int)(a d:List Int)(o:Int):Int :=
 if HZ p f E8=0 then(if (((decide (((a.length:Nat):Int)=(p.getD f.toNat Fn.zero).params) && B7 a) && (decide (((d.length:Nat):Int)=(p.getD f.toNat Fn.zero).params) && B7 d)) && Hm o 0 12)=true then 0 else 2)else HZ p f E8
def N4 (p:List Fn)(f:Int)(a d:List Int)(o:Int):Int :=
 if IQ p f a d o=0 then(if FG p f.toNat a=0 then(if Ed (Gi p f.toNat a a.length)=0 then 6 else 0)else FG p f.toNat a)else IQ p f a d o
def XR (p:List Fn)(f:Nat)(a d:List Int)(k:Nat)(y:List Sr):List Int:=Ix (Gi p f a a.length) (EU a.length fun i=>md ((if k=1 then d.getD i 0 else 0)-((Dr p (k+1) f (y.map (CB (k+1)))).getD i []).getD k 0))
def K9 (p:List Fn)(f:Nat)(a d:List Int)(o:Nat)(k:Nat):List Sr:=FB (XR p f a d) (a.map fun x=>cst (o+1) x) k
def HJ (p:List Fn)(f:Int)(a d:List Int)(o:Int):List Sr:=if N4 p f a d o=0 then K9 p f.toNat a d o.toNat o.toNat else []
section
variable {p:List Fn} {f m k n o r:Nat} {a d:List Int} {y:List Sr} {xs:List Int} {T:Tp}
theorem VT (m:Nat)(x:Int){q:Nat}(h:1≤q):(cst m x).getD q 0=0:=by
 unfold cst
 rw[Mf,if_neg (by omega),Gw]
theorem ZP {m:Nat}(x:Int)(h:1≤m):(cst m x).getD 0 0=x:=by
 unfold cst
 rw[Mf,if_pos ⟨rfl,by simp;omega⟩]
theorem OL (hn:B7 a=true):Bt m (a.map fun x=>cst m x):=fun k hk=>by
 rw[List.length_map]at hk
 rw[B5 (d:=0) hk];exact DE (C3.2 (Ba hn k))
theorem OM (hm:1≤m):BZ (a.map fun x=>cst m x)=a:=by
 unfold BZ
 rw[List.map_map]
 refine(List.map_congr_left fun x _=>?_).trans (List.map_id a)
 exact ZP x hm
theorem dR {q j:Nat}(h:1≤q)(hj:j<a.length):((a.map fun x=>cst m x).getD j []).getD q 0=0:=by
 rw[B5 (d:=0) hj];exact VT m _ h
theorem Hd.v0 (h:Hd p f a xs T)(hm:1≤m)(hy:Bt m y)(hf:BZ y=a){i:Nat}(hi:i<xs.length):((Dr p m f y).getD i []).getD 0 0=(FA p f a).getD i 0:=by
 have hs:=DW h.n
 have h1:=h.ser (A9 1) hs (Dw a)
 unfold FA
 rw[B5 (d:=[]) (by rw[h1.1];exact hi),h.vals hm hy hf hi,h.vals (A9 1) hs (Dw a) hi]
 have hx:=(h.tp hm hy hf).1.outs h.en.2 i hi
 rw[((h.tp hm hy hf).1.ser _ (by omega)).2,((h.tp (A9 1) hs (Dw a)).1.ser _ (by omega)).2]
def eZ (p:List Fn)(f:Nat)(a d:List Int)(i:Nat):Nat→Int:=fun k=>if k=0 then(FA p f a).getD i 0 else if k=1 then d.getD i 0 else 0
theorem ON (h:Hd p f a xs T)(hn:xs.length=a.length)(hd:Ed (Gi p f a a.length)≠0)(hm:m=o+1) :
  ∀k,k≤o→Bt m (K9 p f a d o k)∧BZ (K9 p f a d o k)=a∧∀i,i<a.length→EN (k+1) (BN ((Dr p m f (K9 p f a d o k)).getD i [])) (eZ p f a d i):=fun k hk=>by
 have H:=LB (m:=m) h (by omega) hn
 subst hm
 have hx:lE (o+1) a.length (Gi p f a a.length) (fun y=>Dr p (o+1) f y) a (eZ p f a d) (XR p f a d):=⟨fun k y h1 h2 hy hf=>by
  unfold XR
  congr 1
  refine Ry fun i hi=>?_
  rw[Sk p (by omega) h2,B5 (d:=[]) (by rw[(H.gl y hy hf).1];exact hi),DF _ (Nat.lt_succ_self k)]
  unfold eZ
  rw[if_neg (by omega:¬k=0)];rfl⟩
 have:=ZN H hd hx (Y:=a.map fun x=>cst (o+1) x) (OL h.n) (OM (by omega)) (fun j hj q h1 _=>dR h1 hj) (fun i hi t ht=>by
  have:t=0:=by omega
  subst this
  show md (((Dr p (o+1) f (a.map fun x=>cst (o+1) x)).getD i []).getD 0 0)=_
  rw[h.v0 (by omega) (OL h.n) (OM (by omega)) (by omega)];rfl) k (by omega)
 exact⟨this.1,this.2.1,this.2.2.2⟩
end
end
section
theorem B3.imp {α:Type}{E E':Bc α}(h:∀ {H v x F},E H v x F→E' H v x F){H:Array Obj}{v:Value}{xs:List α}{F:List Nat}(k:B3 E H v xs F):B3 E' H v xs F:=by
 rcases k with h0|⟨us,g,off,cap,cur,e,fr,F',h1,h2⟩
 ·exact .inl h0
 ·exact .inr ⟨us,g,off,cap,cur,e,fr,F',els.imp h h1,h2⟩
theorem RN.rd3 {S:List Nat}{H:Array Obj}{v:Value}{x:List (List Sr)}(h:RN S (B3 (KC (B3 rI))) H v x):Rd (B3 (B3 (B3 rI))) H v x:=by
 obtain⟨F,h1,_⟩:=h
 exact⟨F,B3.imp (fun k=>k.1) h1⟩
def jV (y:List Sr)(J:List (List Sr))(g:List Sr):List Sr:=if (D5 J g).isSome=true then VQ J y g else []
theorem ZQ {y g:List Sr}{J:List (List Sr)}(h:(D5 J g).isSome=true):jV y J g=VQ J y g:=if_pos h
theorem fF {y g:List Sr}{J:List (List Sr)}(h:(D5 J g).isSome=false):jV y J g=[]:=if_neg (by rw[h];decide)
theorem dS {J:List (List Sr)}{g:List Sr}(h:(D5 J g).isSome=true):D5 J g≠none:=fun h9=>by rw[h9]at h;cases h
section
variable {p:List Fn} {f m n o r s:Nat} {a d:List Int} {y g:List Sr} {xs:List Int} {T:Tp}
theorem dT {p:List Fn}{f:Nat}(hv:Iz p)(hf:f<p.length)(hl:((a.length:Nat):Int)=(p.getD f Fn.zero).params)(hn:B7 a=true)(h:AT (Na p f a) (xs,T) s 0):Hd p f a xs T:=⟨hv,hf,hl,hn,s,h⟩
theorem Hd.xl (h:Hd p f a xs T):xs.length=(p.getD f Fn.zero).outs.length:=h.en.1
structure QY (p:List Fn)(f:Nat)(a d:List Int):Prop where
 v:Iz p
 lt:f<p.length
 l:((a.length:Nat):Int)=(p.getD f Fn.zero).params
 o:(((p.getD f Fn.zero).outs.length:Nat):Int)=((a.length:Nat):Int)
 n:B7 a=true
 b:1≤a.length∧a.length≤6
 dl:d.length=a.length
 dn:B7 d=true
theorem QY.rc (h:QY p f a d)(hf:BZ y=a)(hr:AT (Na p f (BZ y)) (xs,T) s 0):Hd p f a xs T:=by
 rw[hf]at hr
 exact dT h.v h.lt h.l h.n hr
theorem QZ (h:QY p f a d)(hc:Hd p f a xs T)(hm:1≤m∧m≤13)(hy:Bt m y)(hf:BZ y=a)(hg:g.length=a.length)(hgs:Bt m g) :
  HV (IB m T xs y xs.length) g m∧JM (IB m T xs y xs.length)=Gi p f a a.length∧y.length=a.length∧(IB m T xs y xs.length).length=a.length:=by
 have hx:xs.length=a.length:=by have:=hc.xl;have:=h.o;omega
 have H:=LB hc hm.1 hx
 exact⟨H.sys hy hf hm h.b.2 hg hgs,H.j0 y hy hf,by rw[← hf,Cp],(H.jl y hy hf).1⟩
theorem OO (h:QY p f a d)(hc:Hd p f a xs T)(hm:1≤m)(hy:Bt m y)(hf:BZ y=a):(Dr p m f y).length=a.length∧Bt m (Dr p m f y)∧HF p m f y=0:=by
 have hx:xs.length=a.length:=by have:=hc.xl;have:=h.o;omega
 have H:=LB hc hm hx
 exact⟨(H.gl y hy hf).1,(H.gl y hy hf).2,(hc.tp hm hy hf).2.2⟩
theorem VU (h:QY p f a d)(hc:Hd p f a xs T)(hm:1≤m∧m≤13)(hy:Bt m y)(hf:BZ y=a)(hg:g.length=a.length)(hgs:Bt m g):(D5 (IB m T xs y xs.length) g).isSome = !decide (Ed (Gi p f a a.length)=0):=by
 have hs:=QZ h hc hm hy hf hg hgs
 rw[UK hs.1,hs.2.1]
def J9 (p:List Fn)(f o:Nat)(a d:List Int):List Sr:=EU a.length fun i=>DU (cst (o+1) ((FA p f a).getD i 0)) (CD ((List.replicate (o+1) 0).set 1 1) (d.getD i 0))
def OP (v l:List Sr):List Sr:=EU v.length fun i=>Dg (v.getD i []) (l.getD i [])
theorem OQ (h:QY p f a d)(hc:Hd p f a xs T):(FA p f a).length=a.length∧B7 (FA p f a)=true:=by
 have hs:=DW h.n
 have h1:=OO h hc (A9 1) hs (Dw a)
 unfold FA
 refine⟨by rw[List.length_map];exact h1.1,Md (n:=0) h1.2.1⟩
theorem R0 {i:Nat}(hi:i<a.length):(J9 p f o a d).getD i []=DU (cst (o+1) ((FA p f a).getD i 0)) (CD ((List.replicate (o+1) 0).set 1 1) (d.getD i 0)):=Bf [] hi
@[simp] theorem YO:(J9 p f o a d).length=a.length:=by simp[J9]
theorem VV {k:Nat}(hl:(FA p f a).length=a.length)(hk:k<a.length):(Cn k (J9 p f o a d) ((FA p f a).map (fun x=>(List.replicate (o+1) 0).set 0 x))).getD k []=cst (o+1) ((FA p f a).getD k 0):=by
 rw[CU [] (by simp[hl]) (A9 _) (by simp[hl,hk]),B5 (d:=0) (by omega)];rfl
theorem dU {k:Nat}(hl:(FA p f a).length=a.length):(Cn k (J9 p f o a d) ((FA p f a).map (fun x=>(List.replicate (o+1) 0).set 0 x))).length=a.length:=by rw[D4 _ _ _ (by simp[hl])];simp[hl]
theorem YP {k:Nat}(hl:(FA p f a).length=a.length)(hk:k<a.length):(Cn k (J9 p f o a d) ((FA p f a).map (fun x=>(List.replicate (o+1) 0).set 0 x))).set k (DU ((Cn k (J9 p f o a d) ((FA p f a).map (fun x=>(List.replicate (o+1) 0).set 0 x))).getD k []) (CD ((List.replicate (o+1) 0).set 1 1) (d.getD k 0)))=Cn (k+1) (J9 p f o a d) ((FA p f a).map (fun x=>(List.replicate (o+1) 0).set 0 x)):=by
 rw[VV hl hk,← R0 (o:=o) (d:=d) hk,Hk [] (by simp[hl]) (by simp[hl,hk])]
theorem dV {k:Nat}(hl:(FA p f a).length=a.length)(hk:a.length≤k):Cn k (J9 p f o a d) ((FA p f a).map (fun x=>(List.replicate (o+1) 0).set 0 x))=J9 p f o a d:=CL (by simp[hl]) (by simp[hl,hk])
theorem YQ (h:QY p f a d)(hc:Hd p f a xs T):Bt (o+1) (J9 p f o a d):=fun i hi=>by
 unfold J9 at hi;rw[DC]at hi
 rw[R0 hi]
 exact H3 (DE (C3.2 (Ba (OQ h hc).2 i)))
theorem fG (h:QY p f a d)(hc:Hd p f a xs T){i:Nat}(hi:i<a.length):EN (o+1) (BN ((J9 p f o a d).getD i [])) (eZ p f a d i):=by
 have hcs:Bs (o+1) (cst (o+1) ((FA p f a).getD i 0)):=DE (C3.2 (Ba (OQ h hc).2 i))
 rw[R0 hi]
 refine(Yz hcs).trans (EN.trans (EN.add (EN.rfl' _) (fv (St (o+1)))) (EN.eq fun t ht=>?_))
 show(cst (o+1) _).getD t 0+d.getD i 0*((List.replicate (o+1) 0).set 1 1).getD t 0=eZ p f a d i t
 unfold eZ
 by_cases e0:t=0
 ·subst e0
  rw[if_pos rfl,ZP _ (by omega),Mf,if_neg (by omega),Gw];omega
 ·rw[if_neg e0,VT _ _ (by omega),Mf]
  by_cases e1:t=1
  ·subst e1;rw[if_pos rfl,if_pos ⟨rfl,by simp;omega⟩];omega
  ·rw[if_neg e1,if_neg (by omega),Gw];omega
theorem SB {v l:List Sr}(h:Bt m v):Bt m (OP v l):=fun i hi=>by
 unfold OP at hi ⊢;rw[DC]at hi
 rw[Bf _ hi];exact JO (h i hi)
theorem dW {v l:List Sr}{i:Nat}(hi:i<v.length):(OP v l).getD i []=Dg (v.getD i []) (l.getD i []):=Bf [] hi
@[simp] theorem FI {v l:List Sr}:(OP v l).length=v.length:=by simp[OP]
theorem YS (h:QY p f a d)(hc:Hd p f a xs T)(hd:Ed (Gi p f a a.length)≠0)(hm:m=o+1)(ho:o≤12)(hy:Bt m y)(hf:BZ y=a)(hr1:1≤r)
  (hlo:∀j,j<a.length→Lo (min r m) (Bv y (K9 p f a d o o) j)) :
  Bt m (VQ (IB m T xs y xs.length) y (OP (Dr p m f y) (J9 p f o a d)))∧BZ (VQ (IB m T xs y xs.length) y (OP (Dr p m f y) (J9 p f o a d)))=a∧∀j,j<a.length→Lo (min (r*2) m) (Bv (VQ (IB m T xs y xs.length) y (OP (Dr p m f y) (J9 p f o a d))) (K9 p f a d o o) j):=by
 have hx:xs.length=a.length:=by have:=hc.xl;have:=h.o;omega
 have H:=LB (m:=m) hc (by omega) hx
 have hg:=H.gl y hy hf
 obtain⟨s1,s2,s3⟩:=ON (d:=d) hc hx hd hm o (A9 _)
 have hl:y.length=a.length:=by rw[← hf,Cp]
 have hgl:(OP (Dr p m f y) (J9 p f o a d)).length=a.length:=by rw[FI];exact hg.1
 have st:=H.step (g:=OP (Dr p m f y) (J9 p f o a d)) (r:=min r m) (N:=min (r*2) m) hd (by omega) h.b.2 hy hf s1 s2 hgl (SB hg.2) (fun i hi=>by
  have hi':i<(Dr p m f y).length:=by rw[hg.1];exact hi
  rw[show(OP (Dr p m f y) (J9 p f o a d)).getD i []=_ from Bf [] hi']
  refine(Tm (hg.2 i hi')).trans (EN.sub (EN.rfl' _) ?_)
  subst hm
  exact(fG h hc hi).trans (s3 i hi).symm) (by omega) (by omega) hlo (by omega) (by omega)
 have n1:=YK (J:=IB m T xs y xs.length) (g:=OP (Dr p m f y) (J9 p f o a d)) hy
 refine⟨n1,?_,st⟩
 exact(O0 n1 s1 (by rw[JZ,hl];exact(It s2).symm) (by omega) fun j hj=>(st j (by rw[JZ]at hj;omega)).mono (by omega)).trans s2
theorem YT (h:QY p f a d)(hd:Ed (Gi p f a a.length)≠0)(hc:Hd p f a xs T)(hm:m=o+1):Bt m (a.map fun x=>cst m x)∧BZ (a.map fun x=>cst m x)=a∧∀j,j<a.length→Lo (min 1 m) (Bv (a.map fun x=>cst m x) (K9 p f a d o o) j):=by
 have hx:xs.length=a.length:=by have:=hc.xl;have:=h.o;omega
 obtain⟨s1,s2,s3⟩:=ON (d:=d) hc hx hd hm o (A9 _)
 have e1:Bt m (a.map fun x=>cst m x):=OL h.n
 have e2:BZ (a.map fun x=>cst m x)=a:=OM (by omega)
 exact⟨e1,e2,fun j hj=>(fE e1 s1 (by omega) (e2.trans s2.symm) (by rw[List.length_map];exact hj)).mono (by omega)⟩
theorem YU (h:QY p f a d)(hd:Ed (Gi p f a a.length)≠0)(hc:Hd p f a xs T)(hm:m=o+1)(hy:Bt m y)(hf:BZ y=a)(hr:m≤r)(hlo:∀j,j<a.length→Lo (min r m) (Bv y (K9 p f a d o o) j)):y=K9 p f a d o o:=by
 have hx:xs.length=a.length:=by have:=hc.xl;have:=h.o;omega
 obtain⟨s1,s2,s3⟩:=ON (d:=d) hc hx hd hm o (A9 _)
 have hl:y.length=a.length:=by rw[← hf,Cp]
 exact fD hy s1 (by rw[hl];exact(It s2).symm) fun j hj=>(hlo j (by omega)).mono (by omega)
end
section
variable {p:List Fn} {f o:Int} {a d:List Int}
theorem ZR (h:HZ p f E8=0):Ln p=true∧(0≤f∧f<((p.length:Nat):Int))∧(1≤(p.getD f.toNat Fn.zero).params∧(p.getD f.toNat Fn.zero).params≤6)∧(((p.getD f.toNat Fn.zero).outs.length:Nat):Int)=(p.getD f.toNat Fn.zero).params:=by
 obtain⟨g1,g2⟩:=Zr h
 obtain⟨q1,q2⟩:=Sd g1
 unfold E8 at g2
 rw[Bool.and_eq_true,CH,decide_eq_true_eq]at g2
 exact⟨q1,q2,g2.1,g2.2⟩
theorem ZT (h:HZ p f E8≠0):IQ p f a d o=HZ p f E8:=if_neg h
theorem O1 (h:HZ p f E8=0)(hb:(((decide (((a.length:Nat):Int)=(p.getD f.toNat Fn.zero).params) && B7 a) && (decide (((d.length:Nat):Int)=(p.getD f.toNat Fn.zero).params) && B7 d)) && Hm o 0 12)=false):IQ p f a d o=2:=by unfold IQ;rw[if_pos h,hb];rfl
theorem ZU (h:HZ p f E8=0)(h1:(decide (((a.length:Nat):Int)=(p.getD f.toNat Fn.zero).params) && B7 a)=true)(h2:(decide (((d.length:Nat):Int)=(p.getD f.toNat Fn.zero).params) && B7 d)=true)(h3:Hm o 0 12=true):IQ p f a d o=0:=by unfold IQ;rw[if_pos h,h1,h2,h3];rfl
theorem VW (h:IQ p f a d o=0):QY p f.toNat a d∧Ln p=true∧(0≤f∧f<((p.length:Nat):Int))∧(0≤o∧o≤12):=by
 unfold IQ at h
 split at h
 ·rename_i h1
  split at h
  ·rename_i h2
   simp only[Bool.and_eq_true,decide_eq_true_eq]at h2
   obtain⟨g1,g2⟩:=Zr h1
   obtain⟨q1,q2⟩:=Sd g1
   unfold E8 at g2
   rw[Bool.and_eq_true,CH,decide_eq_true_eq]at g2
   exact⟨⟨Or q1,by omega,h2.1.1.1,by omega,h2.1.1.2,by omega,by omega,h2.1.2.2⟩,q1,q2,CH.1 h2.2⟩
  ·omega
 ·rename_i h1;exact absurd h h1
theorem K1 (h:IQ p f a d o≠0):N4 p f a d o=IQ p f a d o:=if_neg h
theorem Q7 (h:IQ p f a d o=0)(h1:FG p f.toNat a≠0):N4 p f a d o=FG p f.toNat a:=by unfold N4;rw[if_pos h,if_neg h1]
theorem VX (h:IQ p f a d o=0)(h1:FG p f.toNat a=0)(hd:Ed (Gi p f.toNat a a.length)=0):N4 p f a d o=6:=by unfold N4;rw[if_pos h,if_pos h1,if_pos hd]
theorem ZV (h:IQ p f a d o=0)(h1:FG p f.toNat a=0)(hd:Ed (Gi p f.toNat a a.length)≠0):N4 p f a d o=0:=by unfold N4;rw[if_pos h,if_pos h1,if_neg hd]
theorem IR (h:N4 p f a d o≠0):HJ p f a d o=[]:=if_neg h
theorem VY (h:N4 p f a d o=0):HJ p f a d o=K9 p f.toNat a d o.toNat o.toNat:=if_pos h
end
theorem fH {p:List Fn}(hv:Iz p){n f:Nat}{a:List Sr}(hf:f<p.length)(ha:Bt n a)(hl:((a.length:Nat):Int)=(p.getD f Fn.zero).params):0≤HF p n f a∧HF p n f a≤9:=by
 rcases Mh hv hf ha hl with⟨x,s,h1,_⟩|h1|h1
 ·rw[NN h1];decide
 ·rw[HY h1];decide
 ·rw[HY h1];decide
theorem fI {p:List Fn}(hv:Iz p){f:Nat}{a:List Int}(hf:f<p.length)(ha:B7 a=true)(hl:((a.length:Nat):Int)=(p.getD f Fn.zero).params):0≤FG p f a∧FG p f a≤9:=fH hv hf (DW ha) (by unfold Cq;rw[List.length_map];exact hl)
theorem fJ {M:List (List Int)}(h:(!(!decide (Ed M=0)))=true):Ed M=0:=by simpa using h
theorem fK {M:List (List Int)}(h:(!(!decide (Ed M=0)))=false):Ed M≠0:=by simpa using h
end
section
theorem SD {n k:Nat}:uN n k=eV n k:=by
 show(List.replicate n (0:Int)).set k 1=(List.replicate n (0:Int)).set (((k:Nat):Int)).toNat (md ((List.replicate n (0:Int)).getD (((k:Nat):Int)).toNat 0+1))
 rw[Int.toNat_natCast,Gw];rfl
section
variable {p:List Fn} {f k o i m q:Nat} {a d:List Int} {y Y:List Sr} {xs:List Int} {T:Tp} {nx:Nat→List Sr→List Int}
theorem VZ (hv:Iz p)(hf:f<p.length)(hl:((a.length:Nat):Int)=(p.getD f Fn.zero).params)(hn:B7 a=true)(h0:FG p f a=0):∃xs T,Hd p f a xs T:=by
 cases hr:Na p f a with
 |ok x s=>exact⟨x.1,x.2,hv,hf,hl,hn,s,by rw[hr];exact AT.mk_ok rfl⟩
 |err c =>
  have hT:=Sn (A9 1) hv hf hn (LA (DW hn) (Dw a)) hl
  rw[hr]at hT
  have h9:ev p 1 f (Cq a)=.err c:=hT
  have h8:FG p f a=c:=HY h9
  rcases Mh hv hf (DW hn) (by unfold Cq;rw[List.length_map];exact hl)with⟨z,t,h1,_⟩|h1|h1
  ·rw[h1]at h9;cases h9
  ·rw[h1]at h9;cases h9;omega
  ·rw[h1]at h9;cases h9;omega
theorem Q8 (h:Bt m y)(hq:q≤m):Bt q (y.map (CB q)):=fun j hj=>by
 rw[List.length_map]at hj
 rw[B5 (d:=[]) hj]
 have:=h j hj
 refine⟨by rw[In,this.1];omega,?_⟩
 unfold CB
 have h2:=this.2
 unfold B7 at h2 ⊢
 rw[List.all_eq_true]at h2 ⊢
 exact fun x hx=>h2 x (List.mem_of_mem_take hx)
theorem X0 (h:1≤k)(hi:i<Y.length):(Cn i (FB nx Y k) (FB nx Y (k-1))).getD i []=(FB nx Y (k-1)).getD i []:=CU [] (by simp) (A9 _) (by simpa using hi)
theorem YV (h:1≤k)(hi:i<Y.length):(Cn i (FB nx Y k) (FB nx Y (k-1))).set i (((FB nx Y (k-1)).getD i []).set k ((nx k (FB nx Y (k-1))).getD i 0))=Cn (i+1) (FB nx Y k) (FB nx Y (k-1)):=by
 have:=YL (nx:=nx) (k:=k-1) hi
 rw[show k-1+1=k from by omega,X0 h hi]at this
 exact this
theorem dX {y:List Sr}(hy:y=K9 p f a d o (k-1))(h:1≤k)(hi:i<a.length):Cn (i+1) (K9 p f a d o k) y=(Cn i (K9 p f a d o k) y).set i ((y.getD i []).set k ((XR p f a d k y).getD i 0)):=by
 subst hy
 exact(YV (nx:=XR p f a d) (Y:=a.map fun x=>cst (o+1) x) h (by rw[List.length_map];exact hi)).symm
def ZW (p:List Fn)(f:Nat)(a d:List Int)(k:Nat)(y:List Sr):List Int:=EU a.length fun i=>md ((if k=1 then d.getD i 0 else 0)-((Dr p (k+1) f (y.map (CB (k+1)))).getD i []).getD k 0)
@[simp] theorem EX:(ZW p f a d k y).length=a.length:=by simp[ZW]
theorem OR:B7 (ZW p f a d k y)=true:=FE fun _ _=>BK _
theorem X1 (hi:i<a.length):(ZW p f a d k y).getD i 0=md ((if k=1 then d.getD i 0 else 0)-((Dr p (k+1) f (y.map (CB (k+1)))).getD i []).getD k 0):=Bf 0 hi
theorem dY:XR p f a d k y=Ix (Gi p f a a.length) (ZW p f a d k y):=rfl
theorem X2 (h:QY p f a d)(hc:Hd p f a xs T)(hd:Ed (Gi p f a a.length)≠0)(hk:k≤o):Bt (o+1) (K9 p f a d o k)∧(K9 p f a d o k).length=a.length∧BZ (K9 p f a d o k)=a:=by
 have hx:xs.length=a.length:=by have:=hc.xl;have:=h.o;omega
 have s:=ON (d:=d) hc hx hd (m:=o+1) rfl k hk
 exact⟨s.1,It s.2.1,s.2.1⟩
theorem dZ (h:QY p f a d)(hc:Hd p f a xs T)(hy:Bt (o+1) y)(hf:BZ y=a)(h1:1≤k)(hk:k≤o) :
  (Dr p (k+1) f (y.map (CB (k+1)))).length=a.length∧Bt (k+1) (Dr p (k+1) f (y.map (CB (k+1))))∧Bt (k+1) (y.map (CB (k+1))):=by
 have hv:=OO h hc (m:=o+1) (by omega) hy hf
 have e:=Sk p (show 1≤k+1 by omega) (show k+1≤o+1 by omega) f y
 rw[e,List.length_map]
 exact⟨hv.1,Q8 hv.2.1 (by omega),Q8 hy (by omega)⟩
theorem eA (h:QY p f a d)(hc:Hd p f a xs T)(hd:Ed (Gi p f a a.length)≠0){b:List Int}(hb:B7 b=true):Sq (Gi p f a a.length).length (Gi p f a a.length)∧(Gi p f a a.length).length=a.length∧Iw (Gi p f a a.length) b≠none:=by
 have hx:xs.length=a.length:=by have:=hc.xl;have:=h.o;omega
 have hS:=QX hc hx
 have hl:(Gi p f a a.length).length=a.length:=by simp[Gi]
 have hS':Sq (Gi p f a a.length).length (Gi p f a a.length):=by rw[hl];exact hS
 exact⟨hS',hl,fun hn=>hd ((JF hS' hb).2 hn)⟩
end
end
theorem mixed:Tryz.prog.follows .mixedOrders=true:=by kernel_rfl
abbrev BW (k:Nat):Prop:=((Tryz.prog.funcs[k]?).map fun fn=>(fn.name != "runtime.NumGoroutine") && fn.body.isSome) = some true
theorem BY {k:Nat} (h:((Tryz.prog.funcs[k]?).map fun fn=>(fn.name != "runtime.NumGoroutine") && fn.body.isSome) = some true):BW k:=h
theorem kO:BW 40:=BY (by kernel_rfl)
theorem YW:BW 43:=BY (by kernel_rfl)
theorem kP:BW 46:=BY (by kernel_rfl)
theorem eB:BW 47:=BY (by kernel_rfl)
theorem kQ:BW 48:=BY (by kernel_rfl)
theorem Q9:BW 49:=BY (by kernel_rfl)
theorem fL:BW 50:=BY (by kernel_rfl)
theorem eC:BW 51:=BY (by kernel_rfl)
theorem kR:BW 52:=BY (by kernel_rfl)
theorem eD:BW 53:=BY (by kernel_rfl)
theorem kS:BW 54:=BY (by kernel_rfl)
theorem fM:BW 55:=BY (by kernel_rfl)
theorem kT:BW 68:=BY (by kernel_rfl)
theorem KD:BW 72:=BY (by kernel_rfl)
theorem fN:BW 75:=BY (by kernel_rfl)
theorem Nc:BW 76:=BY (by kernel_rfl)
theorem eE:BW 77:=BY (by kernel_rfl)
theorem eF:BW 78:=BY (by kernel_rfl)
theorem eG:BW 79:=BY (by kernel_rfl)
theorem fO:BW 84:=BY (by kernel_rfl)
theorem eH:BW 87:=BY (by kernel_rfl)
theorem kU:BW 91:=BY (by kernel_rfl)
theorem IC:BW 92:=BY (by kernel_rfl)
theorem eI:BW 97:=BY (by kernel_rfl)
theorem kV:BW 98:=BY (by kernel_rfl)
theorem eJ:BW 99:=BY (by kernel_rfl)
theorem Qa:BW 102:=BY (by kernel_rfl)
theorem O2:BW 103:=BY (by kernel_rfl)
theorem ZX:BW 104:=BY (by kernel_rfl)
theorem O3:BW 106:=BY (by kernel_rfl)
theorem fP:BW 107:=BY (by kernel_rfl)
theorem ZY:BW 110:=BY (by kernel_rfl)
theorem fQ:BW 112:=BY (by kernel_rfl)
theorem fR:BW 117:=BY (by kernel_rfl)
theorem fS:BW 118:=BY (by kernel_rfl)
theorem ZZ:BW 119:=BY (by kernel_rfl)
theorem fT:BW 120:=BY (by kernel_rfl)
theorem fU:BW 121:=BY (by kernel_rfl)
theorem Qb:BW 122:=BY (by kernel_rfl)
theorem fV:BW 123:=BY (by kernel_rfl)
theorem SE:BW 124:=BY (by kernel_rfl)
theorem fW:BW 125:=BY (by kernel_rfl)
theorem fX:BW 126:=BY (by kernel_rfl)
theorem fY:BW 127:=BY (by kernel_rfl)
theorem aA:BW 128:=BY (by kernel_rfl)
theorem aB:BW 129:=BY (by kernel_rfl)
theorem aC:BW 130:=BY (by kernel_rfl)
theorem fZ:BW 131:=BY (by kernel_rfl)
theorem SF:BW 132:=BY (by kernel_rfl)
theorem gA:BW 133:=BY (by kernel_rfl)
theorem gB:BW 134:=BY (by kernel_rfl)
theorem gC:BW 135:=BY (by kernel_rfl)
theorem gD:BW 138:=BY (by kernel_rfl)
theorem gE:BW 144:=BY (by kernel_rfl)
theorem X3:BW 145:=BY (by kernel_rfl)
theorem aD:BW 147:=BY (by kernel_rfl)
theorem Mv:BW 148:=BY (by kernel_rfl)
theorem Qc:BW 151:=BY (by kernel_rfl)
theorem gF:BW 152:=BY (by kernel_rfl)
theorem gG:BW 157:=BY (by kernel_rfl)
theorem gH:BW 159:=BY (by kernel_rfl)
theorem gI:BW 160:=BY (by kernel_rfl)
theorem aE:BW 161:=BY (by kernel_rfl)
theorem gJ:BW 162:=BY (by kernel_rfl)
theorem gK:BW 163:=BY (by kernel_rfl)
theorem X4:BW 165:=BY (by kernel_rfl)
theorem gL:BW 167:=BY (by kernel_rfl)
theorem gM:BW 170:=BY (by kernel_rfl)
theorem gN:BW 171:=BY (by kernel_rfl)
theorem gO:BW 172:=BY (by kernel_rfl)
theorem aF:BW 173:=BY (by kernel_rfl)
theorem aG:BW 174:=BY (by kernel_rfl)
theorem X5:BW 175:=BY (by kernel_rfl)
theorem X6:BW 176:=BY (by kernel_rfl)
theorem gP:BW 177:=BY (by kernel_rfl)
theorem gQ:BW 178:=BY (by kernel_rfl)
theorem X7:BW 179:=BY (by kernel_rfl)
theorem X8:BW 180:=BY (by kernel_rfl)
theorem X9:BW 181:=BY (by kernel_rfl)
theorem Xa:BW 182:=BY (by kernel_rfl)
theorem Xb:BW 183:=BY (by kernel_rfl)
theorem aH:BW 184:=BY (by kernel_rfl)
theorem Xc:BW 185:=BY (by kernel_rfl)
theorem gR:BW 186:=BY (by kernel_rfl)
theorem aI:BW 187:=BY (by kernel_rfl)
theorem aJ:BW 192:=BY (by kernel_rfl)
theorem I2:BW 193:=BY (by kernel_rfl)
theorem gS:BW 194:=BY (by kernel_rfl)
theorem gT:BW 195:=BY (by kernel_rfl)
theorem gU:BW 196:=BY (by kernel_rfl)
theorem gW:BW 197:=BY (by kernel_rfl)
theorem Xd:BW 198:=BY (by kernel_rfl)
theorem gX:BW 202:=BY (by kernel_rfl)
theorem gY:BW 203:=BY (by kernel_rfl)
theorem gZ:BW 210:=BY (by kernel_rfl)
theorem aK:BW 211:=BY (by kernel_rfl)
theorem aL:BW 213:=BY (by kernel_rfl)
theorem aM:BW 214:=BY (by kernel_rfl)
theorem hZ:BW 215:=BY (by kernel_rfl)
theorem iA:BW 216:=BY (by kernel_rfl)
theorem SG:BW 217:=BY (by kernel_rfl)
theorem Xe:BW 218:=BY (by kernel_rfl)
theorem iB:BW 219:=BY (by kernel_rfl)
theorem K2:BW 220:=BY (by kernel_rfl)
theorem SH:BW 221:=BY (by kernel_rfl)
theorem iC:BW 222:=BY (by kernel_rfl)
theorem aN:BW 223:=BY (by kernel_rfl)
theorem aO:BW 224:=BY (by kernel_rfl)
theorem iD:BW 225:=BY (by kernel_rfl)
theorem iE:BW 226:=BY (by kernel_rfl)
theorem iF:BW 227:=BY (by kernel_rfl)
theorem iG:BW 228:=BY (by kernel_rfl)
theorem iH:BW 229:=BY (by kernel_rfl)
theorem aP:BW 230:=BY (by kernel_rfl)
theorem SI:BW 231:=BY (by kernel_rfl)
theorem iI:BW 234:=BY (by kernel_rfl)
theorem Xf:BW 235:=BY (by kernel_rfl)
theorem iJ:BW 236:=BY (by kernel_rfl)
theorem iK:BW 241:=BY (by kernel_rfl)
theorem iL:BW 242:=BY (by kernel_rfl)
theorem iM:BW 243:=BY (by kernel_rfl)
theorem Mw:BW 244:=BY (by kernel_rfl)
theorem iN:BW 245:=BY (by kernel_rfl)
theorem aQ:BW 246:=BY (by kernel_rfl)
theorem SJ:BW 247:=BY (by kernel_rfl)
theorem iO:BW 250:=BY (by kernel_rfl)
theorem iP:BW 251:=BY (by kernel_rfl)
theorem iQ:BW 252:=BY (by kernel_rfl)
theorem iR:BW 253:=BY (by kernel_rfl)
theorem aR:BW 255:=BY (by kernel_rfl)
theorem AH:CS Tryz.prog 2:=by unfold CS;kernel_rfl
theorem YX:CS Tryz.prog 3:=by unfold CS;kernel_rfl
theorem Nd:CS Tryz.prog 9:=by unfold CS;kernel_rfl
theorem Cs:CS Tryz.prog 24:=by unfold CS;kernel_rfl
theorem B6:CS Tryz.prog 27:=by unfold CS;kernel_rfl
theorem DX:CS Tryz.prog 32:=by unfold CS;kernel_rfl
theorem Bp:CS Tryz.prog 53:=by unfold CS;kernel_rfl
theorem aS:CS Tryz.prog 66:=by unfold CS;kernel_rfl
theorem iS:CS Tryz.prog 93:=by unfold CS;kernel_rfl
theorem OS:CS Tryz.prog 183:=by unfold CS;kernel_rfl
theorem Mx:CS Tryz.prog 196:=by unfold CS;kernel_rfl
theorem eK:CS Tryz.prog 197:=by unfold CS;kernel_rfl
theorem ID:(Tryz.prog.info? 2).map (·.size)=some 1:=by kernel_rfl
theorem lF:(Tryz.prog.info? 9).map (·.size)=some 1:=by kernel_rfl
theorem kW:(Tryz.prog.info? 24).map (·.size)=some 1:=by kernel_rfl
theorem Ja:(Tryz.prog.info? 27).map (·.size)=some 1:=by kernel_rfl
theorem YY:(Tryz.prog.info? 32).map (·.size)=some 1:=by kernel_rfl
theorem iT:(Tryz.prog.info? 53).map (·.size)=some 1:=by kernel_rfl
theorem Xg:(Tryz.prog.info? 196).map (·.size)=some 1:=by kernel_rfl
theorem iU:(Tryz.prog.info? 197).map (·.size)=some 1:=by kernel_rfl
theorem BA:TI Tryz.prog 2 1 (.int .i64 0) 8:=by unfold TI;kernel_rfl
theorem lM:TI Tryz.prog 5 1 (.int .u8 0) 1:=by unfold TI;kernel_rfl
theorem AX:TI Tryz.prog 27 1 (.slice none 0 0) 24:=by unfold TI;kernel_rfl
theorem Ef:TI Tryz.prog 32 1 (.slice none 0 0) 24:=by unfold TI;kernel_rfl
theorem u2:Tryz.prog.underlying 2=some (.int .i64):=by kernel_rfl
theorem u3:Tryz.prog.underlying 3=some (.int .i64):=by kernel_rfl
theorem u4:Tryz.prog.underlying 4=some (.bool):=by kernel_rfl
theorem u5:Tryz.prog.underlying 5=some (.int .u8):=by kernel_rfl
theorem u9:Tryz.prog.underlying 9=some (.string):=by kernel_rfl
theorem lG:Tryz.prog.underlying 22=some (.slice 5):=by kernel_rfl
theorem Gm:Tryz.prog.underlying 24=some (.slice 55):=by kernel_rfl
theorem Bh:Tryz.prog.underlying 27=some (.slice 2):=by kernel_rfl
theorem Bi:Tryz.prog.underlying 32=some (.slice 27):=by kernel_rfl
theorem DK:Tryz.prog.underlying 53=some (.slice 174):=by kernel_rfl
theorem eL:Tryz.prog.underlying 66=some (.slice 185):=by kernel_rfl
theorem DN:Tryz.prog.underlying 132=some (.slice 32):=by kernel_rfl
theorem R1:Tryz.prog.underlying 183=some (.slice 248):=by kernel_rfl
theorem My:Tryz.prog.underlying 196=some (.slice 231):=by kernel_rfl
theorem iV:Tryz.prog.underlying 197=some (.slice 255):=by kernel_rfl
theorem EB:DR Tryz.prog 26 1=true:=by kernel_rfl
theorem eN:(Tryz.prog.info? 26).map (·.zero)=some (some (.agg #[.slice none 0 0])):=by kernel_rfl
theorem BM:GK Tryz.prog 26 0 0=true:=by kernel_rfl
theorem I3:DR Tryz.prog 55 3=true:=by kernel_rfl
theorem YZ:(Tryz.prog.info? 55).map (·.zero)=some (some (.agg #[.string ByteArray.empty,.int .i64 0,.slice none 0 0])):=by kernel_rfl
theorem CA:TI Tryz.prog 55 3 (.agg #[.string ByteArray.empty,.int .i64 0,.slice none 0 0]) 48:=by unfold TI;kernel_rfl
theorem GE:GK Tryz.prog 55 0 0=true:=by kernel_rfl
theorem Cw:GK Tryz.prog 55 1 1=true:=by kernel_rfl
theorem Cu:GK Tryz.prog 55 2 2=true:=by kernel_rfl
theorem Qd:DR Tryz.prog 68 1=true:=by kernel_rfl
theorem Xh:GK Tryz.prog 68 0 0=true:=by kernel_rfl
theorem Z0:GK Tryz.prog 157 0 0=true:=by kernel_rfl
theorem OT:GK Tryz.prog 157 1 1=true:=by kernel_rfl
theorem LC:GK Tryz.prog 157 2 2=true:=by kernel_rfl
theorem FJ:GK Tryz.prog 157 3 3=true:=by kernel_rfl
theorem BS:DR Tryz.prog 174 5=true:=by kernel_rfl
theorem Mz:(Tryz.prog.info? 174).map (·.zero)=some (some (.agg #[.int .i64 0,.int .i64 0,.int .i64 0,.int .i64 0,.slice none 0 0])):=by kernel_rfl
theorem BB:TI Tryz.prog 174 5 (.agg #[.int .i64 0,.int .i64 0,.int .i64 0,.int .i64 0,.slice none 0 0]) 56:=by unfold TI;kernel_rfl
theorem C5:GK Tryz.prog 174 0 0=true:=by kernel_rfl
theorem BT:GK Tryz.prog 174 1 1=true:=by kernel_rfl
theorem Dn:GK Tryz.prog 174 2 2=true:=by kernel_rfl
theorem D9:GK Tryz.prog 174 3 3=true:=by kernel_rfl
theorem Bo:GK Tryz.prog 174 4 4=true:=by kernel_rfl
theorem Xi:DR Tryz.prog 185 3=true:=by kernel_rfl
theorem Xj:TI Tryz.prog 185 3 (.agg #[.string ByteArray.empty,.int .i64 0,.slice none 0 0]) 48:=by unfold TI;kernel_rfl
theorem SK:GK Tryz.prog 185 0 0=true:=by kernel_rfl
theorem Z1:GK Tryz.prog 185 1 1=true:=by kernel_rfl
theorem SL:GK Tryz.prog 185 2 2=true:=by kernel_rfl
theorem Dx:DR Tryz.prog 199 4=true:=by kernel_rfl
theorem SN:(Tryz.prog.info? 199).map (·.zero)=some (some (.agg #[.int .i64 0,.slice none 0 0,.slice none 0 0,.slice none 0 0])):=by kernel_rfl
theorem Z2:GK Tryz.prog 199 0 0=true:=by kernel_rfl
theorem Gx:GK Tryz.prog 199 1 1=true:=by kernel_rfl
theorem SP:GK Tryz.prog 199 2 2=true:=by kernel_rfl
theorem Eq:GK Tryz.prog 199 3 3=true:=by kernel_rfl
theorem SQ:GK Tryz.prog 228 0 0=true:=by kernel_rfl
theorem Gy:GK Tryz.prog 228 1 1=true:=by kernel_rfl
theorem E2:GK Tryz.prog 228 2 5=true:=by kernel_rfl
theorem OU:GK Tryz.prog 228 3 6=true:=by kernel_rfl
theorem FK:GK Tryz.prog 228 4 7=true:=by kernel_rfl
theorem Ft:DR Tryz.prog 231 4=true:=by kernel_rfl
theorem SR:(Tryz.prog.info? 231).map (·.zero)=some (some (.agg #[.int .i64 0,.int .i64 0,.int .i64 0,.int .i64 0])):=by kernel_rfl
theorem I4:TI Tryz.prog 231 4 (.agg #[.int .i64 0,.int .i64 0,.int .i64 0,.int .i64 0]) 32:=by unfold TI;kernel_rfl
theorem LE:GK Tryz.prog 231 0 0=true:=by kernel_rfl
theorem DI:GK Tryz.prog 231 1 1=true:=by kernel_rfl
theorem Do:GK Tryz.prog 231 2 2=true:=by kernel_rfl
theorem LF:GK Tryz.prog 231 3 3=true:=by kernel_rfl
theorem R2:DR Tryz.prog 237 2=true:=by kernel_rfl
theorem Z3:GK Tryz.prog 237 0 0=true:=by kernel_rfl
theorem Z4:GK Tryz.prog 237 1 1=true:=by kernel_rfl
theorem Xk:DR Tryz.prog 248 5=true:=by kernel_rfl
theorem Xl:TI Tryz.prog 248 5 (.agg #[.int .i64 0,.int .i64 0,.int .i64 0,.int .i64 0,.slice none 0 0]) 56:=by unfold TI;kernel_rfl
theorem Z5:GK Tryz.prog 248 0 0=true:=by kernel_rfl
theorem Z6:GK Tryz.prog 248 1 1=true:=by kernel_rfl
theorem Z7:GK Tryz.prog 248 2 2=true:=by kernel_rfl
theorem Z8:GK Tryz.prog 248 3 3=true:=by kernel_rfl
theorem SS:GK Tryz.prog 248 4 4=true:=by kernel_rfl
theorem Xm:TI Tryz.prog 255 2 (.agg #[.int .i64 0,.bool false]) 16:=by unfold TI;kernel_rfl
section
set_option maxHeartbeats 4000000
set_option maxRecDepth 100000
attribute [local irreducible] LW
theorem BD (w:World)(n:Int)(low:Int)(high:Int)(_hn:BC n)(_hlow:BC low)(_hhigh:BC high)  :
  Calls Tryz.prog 72 #[.int .i64 n,.int .i64 low,.int .i64 high] w (fun e w'=>e=.returned (.bool (decide (low≤n) && decide (n≤high)))∧w'=w):=by
 refine At [.int .i64 n,.int .i64 low,.int .i64 high] 15 Tryz.func72 Z Z sM ?_
 have a0:w=w:=rfl
 refine A0 (Ad _ [0] Z (Ae 1 Z (A0 (Ad _ [0,0,0,0,0,0,0,0,0] Z (Af 2 Z ?_)))))
 by_cases a1:low≤n
 ·exact Gq true Z Z (A7 a1) Ac (Af 3 Z (Ei (decide (n≤high)) Z Z Z (Al (e:=10) Z Z Z) (Ae 2 Z (A3 (Ag [6] Z (.bool (decide (n≤high))) Z ⟨(AG (by simp[*])),a0⟩)))))
 ·exact Gq false Z Z (A8 a1) Ac (Ae 6 Z (A3 (Ag [6] Z (.bool false) Z ⟨(AG (by simp[*])),a0⟩)))
theorem Br (w:World)(n:Int)(low:Int)(high:Int)(_hn:BC n)(_hlow:BC low)(_hhigh:BC high)  :
  Calls Tryz.prog 92 #[.int .i64 n,.int .i64 low,.int .i64 high] w (fun e w'=>e=.returned (.bool (decide (low≤n) && decide (n≤high)))∧w'=w):=by
 refine At [.int .i64 n,.int .i64 low,.int .i64 high] 15 Tryz.func92 Z Z sM ?_
 have a0:w=w:=rfl
 refine A0 (Ad _ [0] Z (Ae 1 Z (A0 (Ad _ [0,0,0,0,0,0,0,0,0] Z (Af 2 Z ?_)))))
 by_cases a1:low≤n
 ·exact Gq true Z Z (A7 a1) Ac (Af 3 Z (Ei (decide (n≤high)) Z Z Z (Al (e:=10) Z Z Z) (Ae 2 Z (A3 (Ag [6] Z (.bool (decide (n≤high))) Z ⟨(AG (by simp[*])),a0⟩)))))
 ·exact Gq false Z Z (A8 a1) Ac (Ae 6 Z (A3 (Ag [6] Z (.bool false) Z ⟨(AG (by simp[*])),a0⟩)))
theorem CW (w:World)(n:Int)(_hn:BC n)  :
  Calls Tryz.prog 106 #[.int .i64 n] w (fun e w'=>e=.returned (.int .i64 (md n))∧w'=w):=by
 refine At [.int .i64 n] 7 Tryz.func106 Z Z sM ?_
 have a0:w=w:=rfl
 exact A0 (Ad _ [0] Z (Ae 1 Z (A0 (Ad _ [0,0,0,0,0] Z (Af 1 Z (EA (n.tmod 1000003) Z Z (by decide) Z Ac (AI (wr ((n.tmod 1000003)+((1000003:Nat):Int))) Z Z Z Ac (EA ((wr ((n.tmod 1000003)+((1000003:Nat):Int))).tmod 1000003) Z Z (by decide) Z Ac (Ae 1 Z (A3 (Ag [2] Z (.int .i64 ((wr ((n.tmod 1000003)+((1000003:Nat):Int))).tmod 1000003)) Z ⟨(AV (bS n)),a0⟩)))))))))))
theorem I5 (w:World)(a:Int)(b:Int)(_ha:BC a)(_hb:BC b)  :
  Calls Tryz.prog 79 #[.int .i64 a,.int .i64 b] w (fun e w'=>e=.returned (.int .i64 (md (a+b)))∧w'=w):=by
 refine At [.int .i64 a,.int .i64 b] 11 Tryz.func79 Z Z sM ?_
 have a0:w=w:=rfl
 exact A0 (Ad _ [0] Z (Ae 1 Z (A0 (Ad _ [0,0,0,0,0,0,0] Z (Af 1 Z (AD 106 [] [] [(.int .i64 a)] Z Z O3 Ac (.int .i64 (md a)) (fun wq=>CW wq _ _ha) (Af 1 Z (AD 106 [] [] [(.int .i64 b)] Z Z O3 Ac (.int .i64 (md b)) (fun wq=>CW wq _ _hb) (AI (wr ((md a)+(md b))) Z Z Z Ac (EA ((wr ((md a)+(md b))).tmod 1000003) Z Z (by decide) Z Ac (Ae 1 Z (A3 (Ag [4] Z (.int .i64 ((wr ((md a)+(md b))).tmod 1000003)) Z ⟨(AV (Rx a b)),a0⟩)))))))))))))
theorem K3 (w:World)(a:Int)(b:Int)(_ha:BC a)(_hb:BC b)  :
  Calls Tryz.prog 147 #[.int .i64 a,.int .i64 b] w (fun e w'=>e=.returned (.int .i64 (md (a*b)))∧w'=w):=by
 refine At [.int .i64 a,.int .i64 b] 11 Tryz.func147 Z Z sM ?_
 have a0:w=w:=rfl
 exact A0 (Ad _ [0] Z (Ae 1 Z (A0 (Ad _ [0,0,0,0,0,0,0] Z (Af 1 Z (AD 106 [] [] [(.int .i64 a)] Z Z O3 Ac (.int .i64 (md a)) (fun wq=>CW wq _ _ha) (Af 1 Z (AD 106 [] [] [(.int .i64 b)] Z Z O3 Ac (.int .i64 (md b)) (fun wq=>CW wq _ _hb) (IM (wr ((md a)*(md b))) Z Z Z Ac (EA ((wr ((md a)*(md b))).tmod 1000003) Z Z (by decide) Z Ac (Ae 1 Z (A3 (Ag [4] Z (.int .i64 ((wr ((md a)*(md b))).tmod 1000003)) Z ⟨(AV (Pq a b)),a0⟩)))))))))))))
theorem Hy (w:World)(a:Int)(b:Int)(_ha:BC a)(_hb:BC b)  :
  Calls Tryz.prog 78 #[.int .i64 a,.int .i64 b] w (fun e w'=>e=.returned (.int .i64 (md (a-b)))∧w'=w):=by
 refine At [.int .i64 a,.int .i64 b] 10 Tryz.func78 Z Z sM ?_
 have a0:w=w:=rfl
 exact A0 (Ad _ [0] Z (Ae 1 Z (A0 (Ad _ [0,0,0,0,0,0] Z (Af 2 Z (AD 106 [] [] [(.int .i64 b)] Z Z O3 Ac (.int .i64 (md b)) (fun wq=>CW wq _ _hb) (Cy (wr (((1000003:Nat):Int)-(md b))) Z Z Z Ac (AD 79 [] [] [(.int .i64 a),(.int .i64 (wr (((1000003:Nat):Int)-(md b))))] Z Z eG Ac (.int .i64 (md (a+(wr (((1000003:Nat):Int)-(md b)))))) (fun wq=>I5 wq _ _ _ha (O6 _)) (Ae 1 Z (A3 (Ag [4] Z (.int .i64 (md (a+(wr (((1000003:Nat):Int)-(md b)))))) Z ⟨(AV (Ud a b)),a0⟩)))))))))))
theorem eO (n:Int)(h:n.tmod 1000003<((0:Nat):Int)):wr (n.tmod 1000003+((1000003:Nat):Int))=md n:=by
  have h1:=Ci n;have h2:=FT n;have h3:=Ci (-n);have h4:=FT (-n)
  rw[tm n]at h ⊢
  split at h
  · omega
  · rename_i h0
    rw[if_neg h0,Gv (by omega) (by omega)]
    have e1:md (-(md (-n))+((1000003:Nat):Int))=md (-(md (-n))):=Uc _
    rw[Km,Int.neg_neg,KU (by omega) (by omega)]at e1
    exact e1
theorem eP (n:Int)(h:¬n.tmod 1000003<((0:Nat):Int)):n.tmod 1000003=md n:=by
  have h1:=Ci n;have h2:=FT n;have h3:=Ci (-n);have h4:=FT (-n)
  rw[tm n]at h ⊢
  split
  · rfl
  · rename_i h0
    rw[if_neg h0]at h
    have e0:md (-n)=0:=by omega
    have e1:=Km (-n)
    rw[e0,Int.neg_neg]at e1
    rw[e0,← e1]
    rfl
theorem Xn {p:Prop}(h:p:=by first|exact AV (eO n (by assumption))|exact AV (eP n (by assumption))):p:=h
theorem CE (w:World)(n:Int)(_hn:BC n)  :
  Calls Tryz.prog 148 #[.int .i64 n] w (fun e w'=>e=.returned (.int .i64 (md n))∧w'=w):=by
 refine At [.int .i64 n] 11 Tryz.func148 Z Z sM ?_
 have a0:w=w:=rfl
 refine A0 (Ad _ [0] Z (Ae 1 Z (A0 (Ad _ [0,0,0] Z (Af 1 Z (EA (n.tmod 1000003) Z Z (by decide) Z Ac (Ae 1 Z (A0 (A0 (Ad _ [0,0] Z (Af 1 Z ?_)))))))))))
 by_cases a1:n.tmod 1000003<((0:Nat):Int)
 ·exact Ax true Z Z (A7 a1) Ac (Ah (Ai Z (Ad _ [0,0,0] Z (Af 1 Z (AI (wr ((n.tmod 1000003)+((1000003:Nat):Int))) Z Z Z Ac (Ae 1 Z (A0 (Ad _ [0,0] Z (Ae 2 Z (A3 (Ag [2] Z (.int .i64 (wr ((n.tmod 1000003)+((1000003:Nat):Int)))) Z ⟨Xn,a0⟩)))))))))))
 ·exact Ax false Z Z (A8 a1) Ac (Ah (Aj Z (A4 (A0 (Ad _ [0,0] Z (Ae 2 Z (A3 (Ag [2] Z (.int .i64 (n.tmod 1000003)) Z ⟨Xn,a0⟩))))))))
theorem KZ (w:World)(a:Int)(b:Int)(_ha:BC a)(_hb:BC b)  :
  Calls Tryz.prog 75 #[.int .i64 a,.int .i64 b] w (fun e w'=>e=.returned (.int .i64 (md (a+b)))∧w'=w):=by
 refine At [.int .i64 a,.int .i64 b] 11 Tryz.func75 Z Z sM ?_
 have a0:w=w:=rfl
 exact A0 (Ad _ [0] Z (Ae 1 Z (A0 (Ad _ [0,0,0,0,0,0,0] Z (Af 1 Z (AD 148 [] [] [(.int .i64 a)] Z Z Mv Ac (.int .i64 (md a)) (fun wq=>CE wq _ _ha) (Af 1 Z (AD 148 [] [] [(.int .i64 b)] Z Z Mv Ac (.int .i64 (md b)) (fun wq=>CE wq _ _hb) (AI (wr ((md a)+(md b))) Z Z Z Ac (EA ((wr ((md a)+(md b))).tmod 1000003) Z Z (by decide) Z Ac (Ae 1 Z (A3 (Ag [4] Z (.int .i64 ((wr ((md a)+(md b))).tmod 1000003)) Z ⟨(AV (Rx a b)),a0⟩)))))))))))))
theorem Cm (w:World)(a:Int)(b:Int)(_ha:BC a)(_hb:BC b)  :
  Calls Tryz.prog 76 #[.int .i64 a,.int .i64 b] w (fun e w'=>e=.returned (.int .i64 (md (a*b)))∧w'=w):=by
 refine At [.int .i64 a,.int .i64 b] 11 Tryz.func76 Z Z sM ?_
 have a0:w=w:=rfl
 exact A0 (Ad _ [0] Z (Ae 1 Z (A0 (Ad _ [0,0,0,0,0,0,0] Z (Af 1 Z (AD 148 [] [] [(.int .i64 a)] Z Z Mv Ac (.int .i64 (md a)) (fun wq=>CE wq _ _ha) (Af 1 Z (AD 148 [] [] [(.int .i64 b)] Z Z Mv Ac (.int .i64 (md b)) (fun wq=>CE wq _ _hb) (IM (wr ((md a)*(md b))) Z Z Z Ac (EA ((wr ((md a)*(md b))).tmod 1000003) Z Z (by decide) Z Ac (Ae 1 Z (A3 (Ag [4] Z (.int .i64 ((wr ((md a)*(md b))).tmod 1000003)) Z ⟨(AV (Pq a b)),a0⟩)))))))))))))
theorem Nf (w:World)(a:Int)(_ha:BC a)(hneg:0≤a) :
  Calls Tryz.prog 138 #[.int .i64 a] w (fun e w'=>e=.returned (.int .i64 (md (-a)))∧w'=w):=by
 refine At [.int .i64 a] 6 Tryz.func138 Z Z sM ?_
 have a0:w=w:=rfl
 exact A0 (Ad _ [0] Z (Ae 1 Z (A0 (Ad _ [0,0,0,0] Z (Af 1 Z (f5 (wr (-a)) Z Z Ac (AD 148 [] [] [(.int .i64 (wr (-a)))] Z Z Mv Ac (.int .i64 (md (wr (-a)))) (fun wq=>CE wq _ (O6 _)) (Ae 1 Z (A3 (Ag [2] Z (.int .i64 (md (wr (-a)))) Z ⟨(AV (by rw[Gv oM oM])),a0⟩))))))))))
theorem E3 (w:World)(a:Int)(b:Int)(_ha:BC a)(_hb:BC b)(hs:-9223372036854775808≤a-b∧a-b≤9223372036854775807) :
  Calls Tryz.prog 124 #[.int .i64 a,.int .i64 b] w (fun e w'=>e=.returned (.int .i64 (md (a-b)))∧w'=w):=by
 refine At [.int .i64 a,.int .i64 b] 9 Tryz.func124 Z Z sM ?_
 have a0:w=w:=rfl
 exact A0 (Ad _ [0] Z (Ae 1 Z (A0 (Ad _ [0,0,0,0,0] Z (Af 2 Z (Cy (wr (a-b)) Z Z Z Ac (AD 148 [] [] [(.int .i64 (wr (a-b)))] Z Z Mv Ac (.int .i64 (md (wr (a-b)))) (fun wq=>CE wq _ (O6 _)) (Ae 1 Z (A3 (Ag [4] Z (.int .i64 (md (wr (a-b)))) Z ⟨(AV (by rw[Gv hs.1 hs.2])),a0⟩))))))))))
theorem OV {p:Prop}(h:p:=by exact⟨by omega,by first|exact bV hI.2 oM (by assumption)|exact Y0 hI.2 oM (by assumption)⟩):p:=h
theorem OW (w:World)(a:Int)(n:Int)(_ha:BC a)(_hn:BC n)  :
  Calls Tryz.prog 216 #[.int .i64 a,.int .i64 n] w (fun e w'=>e=.returned (.int .i64 (pw a n))∧w'=w):=by
 refine At [.int .i64 a,.int .i64 n] 25 Tryz.func216 Z Z sM ?_
 have a0:w=w:=rfl
 refine A0 (Ad _ [0] Z (Ae 1 Z (A0 (A0 (Ad _ [0,0] Z (Af 1 Z ?_))))))
 by_cases a2:n<((0:Nat):Int)
 ·exact Ax true Z Z (A7 a2) Ac (Ah (Ai Z (A0 (Ad _ [0] Z (Ae 1 Z (A3 (Aq (Ag [4] Z (.int .i64 ((0:Nat):Int)) Z ⟨(AV (Uf (by assumption))),a0⟩))))))))
 ·refine Ax false Z Z (A8 a2) Ac (Ah (Aj Z (A4 (A0 (Ad _ [0] Z (Ae 1 Z (A0 (Ad _ [0,0,0] Z (Af 1 Z (AD 148 [] [] [(.int .i64 a)] Z Z Mv Ac (.int .i64 (md a)) (fun wq=>CE wq _ _ha) (Ae 1 Z (A0 (A5 ?_)))))))))))))
  refine AN (S:=Int×Int×Int) (fun⟨m,x,b⟩=>([(1,(.int .i64 m)),(5,(.int .i64 x)),(6,(.int .i64 b))])) (fun⟨m,x,b⟩ W=>W=w∧(0≤m∧md (x*b ^ m.toNat)=md (a ^ n.toNat))∧m≤9223372036854775807∧(0≤x∧x<1000003)∧(0≤b∧b<1000003)) (fun⟨m,x,b⟩=>m.toNat) (n,((1:Nat):Int),(md a)) ⟨rfl,rfl,rfl,trivial⟩ ⟨a0,(by exact⟨by omega,Pr a n.toNat⟩),oM,oM,(by exact BK _)⟩ ?_
  clear a0
  rintro⟨m,x,b⟩ ρ3 w3 ⟨a1,hI,hm,hx,hb⟩
  refine A0 (A0 (Ad _ [0,0] Z (Af 1 Z ?_)))
  by_cases a3:((0:Nat):Int)<m
  ·refine C6 true Z Z (A7 a3) Ac (Ah (Ai Z (A4 (A5 (A0 (A0 (Ad _ [0,0,0] Z (Af 1 Z (EA (m % 2) Z Z (by decide) (lB hI.1) Ac ?_)))))))))
   by_cases a4:m % 2=((1:Nat):Int)
   ·refine AA true Z Z (A7 a4) Ac (Ah (Ai Z (Ad _ [0,0,0,0] Z (Af 2 Z (AD 76 [] [] [(.int .i64 x),(.int .i64 b)] Z Z Nc Ac (.int .i64 (md (x*b))) (fun wq=>Cm wq _ _ oM oM) (Ae 1 Z (A0 (Ad _ [0,0,0,0] Z (Af 2 Z (AD 76 [] [] [(.int .i64 b),(.int .i64 b)] Z Z Nc Ac (.int .i64 (md (b*b))) (fun wq=>Cm wq _ _ oM oM) (Ae 1 Z (Ad _ [0,0,0] Z (Af 1 Z (Ph (m / 2) Z Z (by decide) (jS hI.1 hm) Ac (Ae 1 Z ?_)))))))))))))))
    exact⟨((m / 2),(md (x*b)),(md (b*b))),_,rfl,⟨rfl,rfl,rfl,trivial⟩,⟨a1,OV,oM,(by first|exact hx|exact BK _),(by exact BK _)⟩,by first|omega|(dsimp only;omega)⟩
   ·exact AA false Z Z (A8 a4) Ac (Ah (Aj Z (A4 (A0 (Ad _ [0,0,0,0] Z (Af 2 Z (AD 76 [] [] [(.int .i64 b),(.int .i64 b)] Z Z Nc Ac (.int .i64 (md (b*b))) (fun wq=>Cm wq _ _ oM oM) (Ae 1 Z (Ad _ [0,0,0] Z (Af 1 Z (Ph (m / 2) Z Z (by decide) (jS hI.1 hm) Ac (Ae 1 Z ⟨((m / 2),x,(md (b*b))),_,rfl,⟨rfl,rfl,rfl,trivial⟩,⟨a1,OV,oM,(by first|exact hx|exact BK _),(by exact BK _)⟩,by first|omega|(dsimp only;omega)⟩))))))))))))
  ·exact C6 false Z Z (A8 a3) Ac (Ah (Aj Z (A6 (As (As (An (A0 (Ad _ [0,0] Z (Ae 2 Z (A3 (Ag [4] Z (.int .i64 x) Z ⟨(AV (Ue hI.2 hI.1 (by assumption) (by assumption) hx)),a1⟩)))))))))))
theorem OX (w:World)(a:Int)(n:Int)(_ha:BC a)(_hn:BC n)  :
  Calls Tryz.prog 162 #[.int .i64 a,.int .i64 n] w (fun e w'=>e=.returned (.int .i64 (pw a n))∧w'=w):=by
 refine At [.int .i64 a,.int .i64 n] 27 Tryz.func162 Z Z sM ?_
 have a0:w=w:=rfl
 refine A0 (Ad _ [0] Z (Ae 1 Z (A0 (A0 (Ad _ [0,0] Z (Af 1 Z ?_))))))
 by_cases a2:n<((0:Nat):Int)
 ·exact Ax true Z Z (A7 a2) Ac (Ah (Ai Z (A0 (Ad _ [0] Z (Ae 1 Z (A3 (Aq (Ag [4] Z (.int .i64 ((0:Nat):Int)) Z ⟨(AV (Uf (by assumption))),a0⟩))))))))
 ·refine Ax false Z Z (A8 a2) Ac (Ah (Aj Z (A4 (A0 (Ad _ [0] Z (Ae 1 Z (A0 (A0 (Ad _ [0,0,0] Z (Af 1 Z (AD 106 [] [] [(.int .i64 a)] Z Z O3 Ac (.int .i64 (md a)) (fun wq=>CW wq _ _ha) (Ae 1 Z (A5 ?_)))))))))))))
  refine AN (S:=Int×Int×Int) (fun⟨m,x,b⟩=>([(1,(.int .i64 m)),(5,(.int .i64 x)),(6,(.int .i64 b))])) (fun⟨m,x,b⟩ W=>W=w∧(0≤m∧md (x*b ^ m.toNat)=md (a ^ n.toNat))∧m≤9223372036854775807∧(0≤x∧x<1000003)∧(0≤b∧b<1000003)) (fun⟨m,x,b⟩=>m.toNat) (n,((1:Nat):Int),(md a)) ⟨rfl,rfl,rfl,trivial⟩ ⟨a0,(by exact⟨by omega,Pr a n.toNat⟩),oM,oM,(by exact BK _)⟩ ?_
  clear a0
  rintro⟨m,x,b⟩ ρ3 w3 ⟨a1,hI,hm,hx,hb⟩
  refine A0 (A0 (Ad _ [0,0] Z (Af 1 Z ?_)))
  by_cases a3:((0:Nat):Int)<m
  ·refine C6 true Z Z (A7 a3) Ac (Ah (Ai Z (A4 (A0 (A5 (A0 (A0 (Ad _ [0,0,0] Z (Af 1 Z (EA (m % 2) Z Z (by decide) (lB hI.1) Ac ?_))))))))))
   by_cases a4:m % 2=((1:Nat):Int)
   ·refine AA true Z Z (A7 a4) Ac (Ah (Ai Z (Ad _ [0,0,0,0,0] Z (Af 2 Z (IM (wr (x*b)) Z Z Z Ac (EA (md (x*b)) Z Z (by decide) (Ps hx hb) Ac (Ae 1 Z (Ad _ [0,0,0,0,0] Z (Af 2 Z (IM (wr (b*b)) Z Z Z Ac (EA (md (b*b)) Z Z (by decide) (Ps hb hb) Ac (Ae 1 Z (Ad _ [0,0,0] Z (Af 1 Z (Ph (m / 2) Z Z (by decide) (jS hI.1 hm) Ac (Ae 1 Z ?_))))))))))))))))
    exact⟨((m / 2),(md (x*b)),(md (b*b))),_,rfl,⟨rfl,rfl,rfl,trivial⟩,⟨a1,OV,oM,(by first|exact hx|exact BK _),(by exact BK _)⟩,by first|omega|(dsimp only;omega)⟩
   ·exact AA false Z Z (A8 a4) Ac (Ah (Aj Z (A4 (Ad _ [0,0,0,0,0] Z (Af 2 Z (IM (wr (b*b)) Z Z Z Ac (EA (md (b*b)) Z Z (by decide) (Ps hb hb) Ac (Ae 1 Z (Ad _ [0,0,0] Z (Af 1 Z (Ph (m / 2) Z Z (by decide) (jS hI.1 hm) Ac (Ae 1 Z ⟨((m / 2),x,(md (b*b))),_,rfl,⟨rfl,rfl,rfl,trivial⟩,⟨a1,OV,oM,(by first|exact hx|exact BK _),(by exact BK _)⟩,by first|omega|(dsimp only;omega)⟩))))))))))))
  ·exact C6 false Z Z (A8 a3) Ac (Ah (Aj Z (A6 (As (As (An (A0 (Ad _ [0,0] Z (Ae 2 Z (A3 (Ag [4] Z (.int .i64 x) Z ⟨(AV (Ue hI.2 hI.1 (by assumption) (by assumption) hx)),a1⟩)))))))))))
theorem GF (w:World)(a:Int)(_ha:BC a)  :
  Calls Tryz.prog 175 #[.int .i64 a] w (fun e w'=>e=.returned (.int .i64 (inv a))∧w'=w):=by
 refine At [.int .i64 a] 5 Tryz.func175 Z Z sM ?_
 have a0:w=w:=rfl
 exact A0 (Ad _ [0] Z (Ae 1 Z (A0 (Ad _ [0,0,0] Z (Af 1 Z (AD 216 [] [] [(.int .i64 a),(.int .i64 ((1000001:Nat):Int))] Z Z iA Ac (.int .i64 (pw a ((1000001:Nat):Int))) (fun wq=>OW wq _ _ _ha oM) (Ae 1 Z (A3 (Ag [2] Z (.int .i64 (pw a ((1000001:Nat):Int))) Z ⟨rfl,a0⟩)))))))))
theorem I6 (w:World)(a:Int)(_ha:BC a)  :
  Calls Tryz.prog 104 #[.int .i64 a] w (fun e w'=>e=.returned (.int .i64 (inv a))∧w'=w):=by
 refine At [.int .i64 a] 5 Tryz.func104 Z Z sM ?_
 have a0:w=w:=rfl
 exact A0 (Ad _ [0] Z (Ae 1 Z (A0 (Ad _ [0,0,0] Z (Af 1 Z (AD 162 [] [] [(.int .i64 a),(.int .i64 ((1000001:Nat):Int))] Z Z gJ Ac (.int .i64 (pw a ((1000001:Nat):Int))) (fun wq=>OX wq _ _ _ha oM) (Ae 1 Z (A3 (Ag [2] Z (.int .i64 (pw a ((1000001:Nat):Int))) Z ⟨rfl,a0⟩)))))))))
theorem HK (w:World)(n:Int)(_hn:BC n)  :
  Calls Tryz.prog 161 #[.int .i64 n] w (fun e w'=>e=.returned (.bool (J2 n))∧w'=w):=by
 refine At [.int .i64 n] 5 Tryz.func161 Z Z sM ?_
 have a0:w=w:=rfl
 exact A0 (Ad _ [0] Z (Ae 1 Z (A0 (Ad _ [0,0,0] Z (Af 1 Z (AD 72 [] [] [(.int .i64 n),(.int .i64 ((0:Nat):Int)),(.int .i64 ((1000002:Nat):Int))] Z Z KD Ac (.bool (decide (((0:Nat):Int)≤n) && decide (n≤((1000002:Nat):Int)))) (fun wq=>BD wq _ _ _ _hn oM oM) (Ae 1 Z (A3 (Ag [2] Z (.bool (decide (((0:Nat):Int)≤n) && decide (n≤((1000002:Nat):Int)))) Z ⟨(AG (by unfold J2;rfl)),a0⟩)))))))))
theorem H9 (w:World)(n:Int)(_hn:BC n)  :
  Calls Tryz.prog 192 #[.int .i64 n] w (fun e w'=>e=.returned (.bool (J2 n))∧w'=w):=by
 refine At [.int .i64 n] 5 Tryz.func192 Z Z sM ?_
 have a0:w=w:=rfl
 exact A0 (Ad _ [0] Z (Ae 1 Z (A0 (Ad _ [0,0,0] Z (Af 1 Z (AD 92 [] [] [(.int .i64 n),(.int .i64 ((0:Nat):Int)),(.int .i64 ((1000002:Nat):Int))] Z Z IC Ac (.bool (decide (((0:Nat):Int)≤n) && decide (n≤((1000002:Nat):Int)))) (fun wq=>Br wq _ _ _ _hn oM oM) (Ae 1 Z (A3 (Ag [2] Z (.bool (decide (((0:Nat):Int)≤n) && decide (n≤((1000002:Nat):Int)))) Z ⟨(AG (by unfold J2;rfl)),a0⟩)))))))))
theorem IE (w:World)(n:Int)(_hn:BC n)  :
  Calls Tryz.prog 160 #[.int .i64 n] w (fun e w'=>e=.returned (.bool (!J2 n))∧Az w w'):=by
 refine At [.int .i64 n] 6 Tryz.func160 Z Z sM ?_
 have a0:Az w w:=Az.refl w
 exact A0 (Ad _ [0] Z (Ae 1 Z (A0 (Ad _ [0,0,0,0] Z (Af 1 Z (AD 161 [] [] [(.int .i64 n)] Z Z aE Ac (.bool (J2 n)) (fun wq=>HK wq _ _hn) (Bn (!(J2 n)) Z Z Ac (Ae 1 Z (A3 (Ag [2] Z (.bool (!(J2 n))) Z ⟨rfl,a0⟩))))))))))
end
section
set_option maxHeartbeats 4000000
set_option maxRecDepth 100000
attribute [local irreducible] LW
def TH {α:Type}(p:α→Bool)(l:List α):Int:=if l.any p then((l.findIdx p:Nat):Int)else -1
theorem Xo {α:Type}{p:α→Bool}{l:List α}{k:Nat}(d:α)(h:∀j,j<k→p (l.getD j d)=false)(hk:k<l.length)(hp:p (l.getD k d)=true):((k:Nat):Int)=TH p l:=by
  have e:∀j,(hj:j<l.length)→l.getD j d=l[j]:=fun j hj=>by simp[hj]
  have h1:l.any p=true:=List.any_eq_true.2 ⟨l[k],List.getElem_mem hk,by rw[← e k hk];exact hp⟩
  have h2:l.findIdx p=k:=by
    rw[List.findIdx_eq hk]
    refine⟨by rw[← e k hk];exact hp,fun j hj=>?_⟩
    have:=h j hj
    rw[e j (by omega)]at this
    exact this
  unfold TH;rw[if_pos h1,h2]
theorem aT {α:Type}{p:α→Bool}{l:List α}{k:Nat}(d:α)(h:∀j,j<k→p (l.getD j d)=false)(hk:l.length≤k):(-1:Int)=TH p l:=by
  have h1:l.any p=false:=by
    rw[List.any_eq_false]
    intro x hx
    obtain⟨j,hj,rfl⟩:=List.getElem_of_mem hx
    have:=h j (by omega)
    have e:l.getD j d=l[j]:=by simp[hj]
    rw[e]at this
    simp[this]
  unfold TH;rw[h1];rfl
theorem aU {α:Type}(p:α→Bool)(l:List α):decide (((0:Nat):Int)≤TH p l)=l.any p:=by
  unfold TH
  split
  · rename_i h;rw[h];exact A7 (by omega)
  · rename_i h;rw[Bool.not_eq_true]at h;rw[h];exact A8 (by omega)
theorem ST {α:Type}{p:α→Bool}{l:List α}{k:Nat}{d:α}(h:∀j,j<k→p (l.getD j d)=false)(hp:p (l.getD k d)=false):∀j,j<k+1→p (l.getD j d)=false:=by
  intro j hj
  by_cases e:j=k
  · subst e;exact hp
  · exact h j (by omega)
theorem Eg (w:World) (va:Value) (a:List Int) (q:Nat) (qf qc:List Value) (p:Int→Bool) (ha:Rd (B3 rI) w.heap va a) (hcf_q:((Tryz.prog.funcs[q]?).map fun fn=>(fn.name != "runtime.NumGoroutine") && fn.body.isSome) = some true) (hp:∀ (x:Int),BC x→∀ w1,Az w w1→Calls Tryz.prog q (qf++[Value.int .i64 x]++qc).toArray w1 (fun e w2=>e = .returned (.bool (p x))∧Az w1 w2))  :
  Calls Tryz.prog 210 #[va,.func (.func q) qf.toArray qc.toArray] w (fun e w'=>e = .returned (.int .i64 (TH p a))∧Az w w'):=by
 refine At [va,.func (.func q) qf.toArray qc.toArray] 19 Tryz.func210 Z Z sM ?_
 have a3:Az w w:=Az.refl w
 have hl_va:=ha.lenle
 refine A0 (Ad _ [0] Z (Ae 1 Z (A0 (A0 (Ad _ [0,0,0] Z (Af 1 Z (AJ (v:=va) Bh Z ha.isSl Ac (Ae 1 Z (A5 ?_)))))))))
 refine AN (S:=Nat) (fun k=>([(8,(.int .i64 ((k :Nat):Int))),(0,va),(1,(.func (.func q) qf.toArray qc.toArray)),(7,(.int .i64 ((a.length :Nat):Int)))])) (fun k W=>Az w W∧k≤a.length∧(∀ j,j < k→p (a.getD j 0) = false)) (fun k=>a.length - k) 0 ⟨rfl,rfl,rfl,rfl,trivial⟩ ⟨a3,sD,(by intro j hj; omega)⟩ ?_
 clear a3
 rintro k ρ1 w1 ⟨a1,a4,hq⟩
 have a7:w.heap.size≤w1.heap.size:=a1.size
 refine A0 (Ad _ [0] Z ?_)
 by_cases a5:((k :Nat):Int) < ((a.length :Nat):Int)
 ·
  refine Ax true Z Z (A7 a5) Ac (Ah (A0 (Ai Z (A4 (A0 (A5 (A0 (Ad _ [0,0] Z (Ae 2 Z (A0 (Ad _ [0,0,0,0,2,3] Z (Af 3 Z (Au (v:=va) k Bh BA Z Z ha.isSl Z sD Ac ?_)))))))))))))
  refine Ak (p:=Aw va k 1) (.inr Z) (.int .i64 (a.getD k 0)) AH Z (AP a1 (ha.getI sD).1) Ac ?_
  have a0:=hp (a.getD k 0) (ha.getI sD).2 _ a1
  refine Ap q qf qc _ Z Z hcf_q Ac a0 ?_
  rintro e3 w3 ⟨rfl,a2⟩
  refine ⟨_,rfl,a2,?_⟩
  have a8:=a2.size
  have a6:=a1.trans a2
  cases a9:p (a.getD k 0)
  ·
   refine Ah (Aj Z (A4 (Ad _ [0,0] Z (AI ((k + 1 :Nat):Int) Z Z (B8 oM sD) Ac (Ae 1 Z ?_)))))
   exact ⟨(k + 1),_,rfl,⟨rfl,rfl,rfl,rfl,trivial⟩,⟨a6,sD,(by exact ST hq (by assumption))⟩,by first | omega | (dsimp only; omega)⟩
  ·
   exact Ah (Ai Z (A0 (Ad _ [0,0] Z (Ae 2 Z (A3 (AL (Aq (Aq (AL (Aq (Ag [4] Z (.int .i64 ((k :Nat):Int)) Z ⟨(AV (Xo 0 hq oM (by assumption))),a6⟩)))))))))))
 ·
  exact Ax false Z Z (A8 a5) Ac (Ah (A0 (Aj Z (A6 (As (As (An (A0 (Ad _ [0] Z (Ae 1 Z (A3 (Ag [4] Z (.int .i64 (-1)) Z ⟨(AV (aT 0 hq oM)),a1⟩))))))))))))
theorem DO (w:World) (va:Value) (a:List Int) (q:Nat) (qf qc:List Value) (p:Int→Bool) (ha:Rd (B3 rI) w.heap va a) (hcf_q:((Tryz.prog.funcs[q]?).map fun fn=>(fn.name != "runtime.NumGoroutine") && fn.body.isSome) = some true) (hp:∀ (x:Int),BC x→∀ w1,Az w w1→Calls Tryz.prog q (qf++[Value.int .i64 x]++qc).toArray w1 (fun e w2=>e = .returned (.bool (p x))∧Az w1 w2))  :
  Calls Tryz.prog 159 #[va,.func (.func q) qf.toArray qc.toArray] w (fun e w'=>e = .returned (.bool (a.any p))∧Az w w'):=by
 refine At [va,.func (.func q) qf.toArray qc.toArray] 9 Tryz.func159 Z Z sM ?_
 have a0:Az w w:=Az.refl w
 have hl_va:=ha.lenle
 refine A0 (Ad _ [0] Z (Ae 1 Z (A0 (Ad _ [0,0,3,0,0] Z (Af 2 Z (Ap 210 [] [] [va,(.func (.func q) qf.toArray qc.toArray)] Z Z gZ Ac (Eg _ _ _ q qf qc p (ha.ext g1 a0) hcf_q (fun x hx w1 hw=>hp x hx w1 (a0.trans hw))) ?_))))))
 rintro e1 w1 ⟨rfl,a1⟩
 refine ⟨_,rfl,a1,?_⟩
 have a2:=a1.size
 have a3:=a0.trans a1
 exact Gq (decide (((0 :Nat):Int)≤TH p a)) Z Z Z Ac (Ae 1 Z (A3 (Ag [4] Z (.bool (decide (((0 :Nat):Int)≤TH p a))) Z ⟨(AG (aU p a)),a3⟩)))
theorem Er (w:World)(va:Value)(a:List Int)(count:Int)(ha:Rd (B3 rI) w.heap va a)(_hcount:BC count)  :
  Calls Tryz.prog 97 #[va,.int .i64 count] w (fun e w'=>e=.returned (.bool (decide (((a.length:Nat):Int)=count) && B7 a))∧Az w w'):=by
 refine At [va,.int .i64 count] 14 Tryz.func97 Z Z sM ?_
 have a0:Az w w:=Az.refl w
 have hl_va:=ha.lenle
 refine A0 (Ad _ [0] Z (Ae 1 Z (A0 (Ad _ [0,0,0,0,0,0,3,0,0,0] Z (Af 1 Z (AJ (v:=va) Bh Z ha.isSl Ac (Af 1 Z ?_)))))))
 by_cases a2:((a.length:Nat):Int)=count
 ·refine AA true Z Z (A7 a2) Ac (Af 2 Z (Ap 159 [] [] [va,(.func (.func 160) #[] #[])] Z Z gH (Al (e:=9) Z Z Z) (DO _ _ _ 160 [] [] (fun x=>!J2 x) (ha.ext g1 a0) gI (fun x hx w1 hw=>IE w1 x hx)) ?_))
  rintro e2 w2 ⟨rfl,a1⟩
  refine⟨_,rfl,a1,?_⟩
  have a3:=a1.size
  have a4:=a0.trans a1
  exact Bn (!(a.any (fun x=>!J2 x))) Z Z (Al (e:=9) Z Z Z) (Ae 2 Z (A3 (Ag [4] Z (.bool (!(a.any (fun x=>!J2 x)))) Z ⟨(AG (by first|(rw[Rz];simp[*];done)|simp[*])),a4⟩)))
 ·exact AA false Z Z (A8 a2) Ac (Ae 6 Z (A3 (Ag [4] Z (.bool false) Z ⟨(AG (by first|(rw[Rz];simp[*];done)|simp[*])),a0⟩)))
theorem K4 (w:World)(va:Value)(a:List Int)(ha:Rd (B3 rI) w.heap va a)  :
  Calls Tryz.prog 144 #[va] w (fun e w'=>e=.returned (.bool (B7 a))∧Az w w'):=by
 refine At [va] 16 Tryz.func144 Z Z sM ?_
 have a1:Az w w:=Az.refl w
 have hl_va:=ha.lenle
 refine A0 (Ad _ [0] Z (Ae 1 Z (A0 (A0 (Ad _ [0] Z (Ae 1 Z (A5 (AN (S:=Nat) (fun k=>([(3,(.int .i64 ((k:Nat):Int))),(0,va)])) (fun k W=>Az w W∧k≤a.length∧((a.take k).all J2=true)) (fun k=>a.length-k) 0 ⟨rfl,rfl,trivial⟩ ⟨a1,sD,(by exact Ug _ _)⟩ ?_))))))))
 clear a1
 rintro k ρ1 w1 ⟨a0,a2,hq⟩
 have a5:w.heap.size≤w1.heap.size:=a0.size
 refine A0 (A0 (Ad _ [0,0,0,0] Z (Af 2 Z (AJ (v:=va) Bh Z ha.isSl Ac ?_))))
 by_cases a3:((k:Nat):Int)<((a.length:Nat):Int)
 ·refine Ax true Z Z (A7 a3) Ac (Ah (Ai Z (A4 (A0 (A5 (A0 (Ad _ [0,0,0,2,0,0] Z (Af 2 Z (Au (v:=va) k Bh BA Z Z ha.isSl Z sD Ac ?_)))))))))
  refine Ak (p:=Aw va k 1) (.inr Z) (.int .i64 (a.getD k 0)) AH Z (AP a0 (ha.getI sD).1) Ac ?_
  refine AD 192 [] [] [(.int .i64 (a.getD k 0))] Z Z aJ Ac (.bool (J2 (a.getD k 0))) (fun wq=>H9 wq _ (ha.getI sD).2) (Bn (!(J2 (a.getD k 0))) Z Z Ac (Ah ?_))
  cases a4:(!(J2 (a.getD k 0)))
  ·refine Aj (by first|rfl|(show Value.bool _=_;rw[a4])) (A4 (Ad _ [0,0,0] Z (Af 1 Z (AI ((k+1:Nat):Int) Z Z (B8 oM sD) Ac (Ae 1 Z ?_)))))
   exact⟨(k+1),_,rfl,⟨rfl,rfl,trivial⟩,⟨a0,sD,(by exact Uh 0 hq oM (by simpa using ‹(!J2 (a.getD k 0))=false›))⟩,by first|omega|(dsimp only;omega)⟩
  ·exact Ai (by first|rfl|(show Value.bool _=_;rw[a4])) (A0 (Ad _ [0] Z (Ae 1 Z (A3 (AL (Aq (Aq (AL (Aq (Ag [2] Z (.bool false) Z ⟨(AG (Ui (k:=k) 0 oM (by simpa using ‹(!J2 (a.getD k 0))=true›)).symm),a0⟩))))))))))
 ·exact Ax false Z Z (A8 a3) Ac (Ah (Aj Z (A6 (As (As (An (A0 (Ad _ [0] Z (Ae 1 Z (A3 (Ag [2] Z (.bool true) Z ⟨(AG (Uj hq oM).symm),a0⟩)))))))))))
theorem GG (w:World)(va:Value)(a:List Int)(ha:Rd (B3 rI) w.heap va a)(hla:a.length≤1000000000000) :
  Calls Tryz.prog 165 #[va] w (fun e w'=>∃v0:Value,e=.returned (v0)∧Az w w'∧Fr (AS rI 2) w.heap.size w'.heap.size w'.heap v0 a):=by
 refine At [va] 6 Tryz.func165 Z Z sM ?_
 have a3:Az w w:=Az.refl w
 have hl_va:=ha.lenle
 refine A0 (Ad _ [0] Z (Ae 1 Z (A0 (Ad _ [3,0,4,0] Z (BI (rI) AQ Bh BA Ac fun v1 w1 a1 aa a4=>?_)))))
 have a5:=a1.size
 have a0:=a3.trans a1
 refine Af 1 Z (GA (v:=v1) (a:=va) Bh BA Z Z Z a4 a0.size (ha.ext g1 a0) sD (by unfold maxLen;first|omega|assumption|(simp;done)|(simp;omega)) Ac fun v2 w2 F2 a2 a6 a7=>?_)
 have a8:Az w w2:=a2.below a0 (fun c hc=>Aa (A9 _) (a6 c hc).1) a0.size
 have a9:=a2.size
 exact Ae 1 Z (A3 (Ag [2] Z v2 Z ⟨v2,rfl,a8,a7.up o1⟩))
theorem IS (w:World)(va:Value)(a:List (List Int))(ha:Rd (B3 (B3 rI)) w.heap va a)(hla:a.length≤1000000000000)(hlr:∀k,(a.getD k []).length≤1000000000000) :
  Calls Tryz.prog 173 #[va] w (fun e w'=>∃v0:Value,e=.returned (v0)∧Az w w'∧Fr (AS (AS rI 2) 27) w.heap.size w'.heap.size w'.heap v0 a):=by
 refine At [va] 21 Tryz.func173 Z Z sM ?_
 have ab:Az w w:=Az.refl w
 have hl_va:=ha.lenle
 refine A0 (Ad _ [0] Z (Ae 1 Z (A0 (Ad _ [3,0] Z (BI (AS rI 2) o1 Bi AX Ac fun v1 w1 a6 aj ac=>?_)))))
 have a7:=a6.size
 have ad:=ab.trans a6
 refine Ae 1 Z (A0 (A0 (Ad _ [0] Z (Ae 1 Z (A5 (AN (S:=Nat×Value) (fun⟨k,vo⟩=>([(3,vo),(4,(.int .i64 ((k:Nat):Int))),(0,va)])) (fun⟨k,vo⟩ W=>Az w W∧Fr (AS (AS rI 2) 27) w.heap.size W.heap.size W.heap vo (a.take k)∧k≤a.length) (fun⟨k,vo⟩=>a.length-k) (0,v1) ⟨rfl,rfl,rfl,trivial⟩ ⟨ad,ac.up o2,sD⟩ ?_))))))
 clear ab ac aj a6 a7 ad
 rintro⟨k,vo⟩ ρ2 w2 ⟨a3,a2,ae⟩
 have ak:w.heap.size≤w2.heap.size:=a3.size
 refine A0 (A0 (Ad _ [0,0,0,0] Z (Af 2 Z (AJ (v:=va) Bi Z ha.isSl Ac ?_))))
 by_cases af:((k:Nat):Int)<((a.length:Nat):Int)
 ·refine Ax true Z Z (A7 af) Ac (Ah (Ai Z (A4 (A0 (A5 (Ad _ [0,0,0,0,2,3,3,4,0] Z (Af 3 Z (Au (v:=va) k Bi AX Z Z ha.isSl Z sD Ac ?_))))))))
  obtain⟨ag,al,ah⟩:=ha.get (k:=k) [] sD
  have am:=ah.lenle
  refine Ak (p:=Aw va k 1) (.inr Z) ag B6 Z (AP a3 al) Ac (Ap 165 [] [] [ag] Z Z X4 Ac (GG _ _ _ (ah.ext g1 a3) (by exact hlr _)) ?_)
  rintro e5 w5 ⟨a8,rfl,a5,a4⟩
  refine⟨_,rfl,a5,?_⟩
  have an:=a5.size
  have ao:=a3.trans a5
  have a0:=a2.ext (o2) a5
  refine Bq (u:=a8) (B:=w2.heap.size) o1 Bi AX Z Z a4 (by first|exact A9 _|omega) Ac fun v6 w6 a9 ax ap=>?_
  have aq:=a9.size
  have aa:=ao.trans a9
  have a1:=a0.ext (o2) a9
  refine Ej o1 (v:=vo) (a:=v6) Bi AX Z Z Z a1 aa.size ap oM a3.size sD (by unfold maxLen;first|omega|assumption|(simp;done)|(simp;omega)) Ac fun v7 w7 F7 ai ar au=>?_
  have av:Az w w7:=ai.below aa (fun c hc=>Aa (A9 _) (ar c hc).1) aa.size
  have aw:=ai.size
  refine Ae 1 Z (Ad _ [0,0,0] Z (Af 1 Z (AI ((k+1:Nat):Int) Z Z (B8 oM sD) Ac (Ae 1 Z ?_))))
  exact⟨((k+1),v7),_,rfl,⟨rfl,rfl,rfl,trivial⟩,⟨av,(by rw[Cr [] oM];exact au.up o2),sD⟩,by first|omega|(dsimp only;omega)⟩
 ·exact Ax false Z Z (A8 af) Ac (Ah (Aj Z (A6 (As (As (An (A0 (Ad _ [0,0] Z (Ae 2 Z (A3 (Ag [2] Z vo Z ⟨vo,rfl,a3,(by have h:=a2.up o2;rwa [List.take_of_length_le oM]at h)⟩)))))))))))
end
section
set_option maxHeartbeats 4000000
set_option maxRecDepth 100000
attribute [local irreducible] LW
theorem I7 (w:World)(va:Value)(a:List Int)(Fa:List Nat)(vb:Value)(b:List Int)(y:Int)(ha:AS rI 2 w.heap va a Fa)(hna:Fa.Nodup)(hb:∀w',AE Fa w w'→Rd (B3 rI) w'.heap vb b)(_hy:BC y)(hl:a.length≤b.length)(hqa:B7 a=true)(hqb:B7 b=true)(hy:0≤y∧y<1000003) :
  Calls Tryz.prog 174 #[va,vb,.int .i64 y] w (fun e w'=>e=.returned (.tuple #[])∧AE Fa w w'∧AS rI 2 w'.heap va (NH a b y) Fa):=by
 refine At [va,vb,.int .i64 y] 27 Tryz.func174 Z Z sM ?_
 have a2:AE Fa w w:=AE.refl Fa w
 have hl_va:=ha.lenle
 unfold maxLen at hl_va
 have hl_vb:=(hb _ a2).lenle
 refine A0 (Ad _ [0] Z (Ae 1 Z (A5 ?_)))
 refine AN (S:=Nat) (fun k=>([(6,(.int .i64 ((k:Nat):Int))),(0,va),(1,vb),(2,(.int .i64 y))])) (fun k W=>AE Fa w W∧AS rI 2 W.heap va (Cn k (NH a b y) a) Fa∧k≤a.length) (fun k=>a.length-k) 0 ⟨rfl,rfl,rfl,rfl,trivial⟩ ⟨a2,(by first|(rw[C9];exact ha)|(have h:=ha;rw[CU 0 (Hl a b y) (A9 _) oM]at h;unfold NH;rw[DD Z oM];exact h)),sD⟩ ?_
 clear a2
 rintro k ρ1 w1 ⟨a1,a0,a4⟩
 have a7:w.heap.size≤w1.heap.size:=a1.size
 have hml:=D4 k (NH a b y) a (Hl a b y)
 have hgb:=Ba hqb k
 have hga:=Ba hqa k
 refine A0 (A0 (Ad _ [0,0,0,0] Z (Af 2 Z (AJ (v:=va) Bh Z (a0.rd id).isSl Ac ?_))))
 by_cases a5:((k:Nat):Int)<(((Cn k (NH a b y) a).length:Nat):Int)
 ·refine Ax true Z Z (A7 a5) Ac (Ah (Ai Z (A4 (A0 (A5 (AY _ [0,0,0,0,0,1,0,0,0,0,1,0,0,0,4] mixed (by kernel_rfl) (Af 4 Z (Au (v:=va) k Bh BA Z Z (a0.rd id).isSl Z sD Ac ?_))))))))
  refine Ak (p:=Aw va k 1) (.inl Z) (.int .i64 ((Cn k (NH a b y) a).getD k 0)) AH Z ((O7 a0).getI (k:=k) sD).1 Ac (Af 3 Z ?_)
  refine Au (v:=vb) k Bh BA Z Z (hb _ a1.drew).isSl Z sD Ac ?_
  refine Ak (p:=Aw vb k 1) (.inl Z) (.int .i64 (b.getD k 0)) AH Z ((hb _ a1.drew).getI sD).1 Ac ?_
  refine AD 76 [] [] [(.int .i64 y),(.int .i64 (b.getD k 0))] Z Z Nc Ac (.int .i64 (md (y*(b.getD k 0)))) (fun wq=>Cm wq _ _ _hy ((hb _ a1.drew).getI sD).2) ?_
  refine AD 124 [] [] [(.int .i64 ((Cn k (NH a b y) a).getD k 0)),(.int .i64 (md (y*(b.getD k 0))))] Z Z SE Ac (.int .i64 (md (((Cn k (NH a b y) a).getD k 0)-(md (y*(b.getD k 0)))))) (fun wq=>E3 wq _ _ ((O7 a0).getI (k:=k) sD).2 (Dt _) (by have h1:=BK (y*b.getD k 0);rw[CU 0 (Hl a b y) (A9 _) oM];omega)) ?_
  refine Au (v:=va) k Bh BA Z Z (a0.rd id).isSl Z sD Ac ?_
  refine TT (v:=va) (w:=w1.drew) ID Z Z (Dt _) a0 hna sD Ac fun w5 a3 a9 a6=>?_
  replace a3:=a3.of_drew
  have a8:AE Fa w w5:=a1.trans a3
  refine Ah (Ad _ [0,0,0] Z (Af 1 Z (AI ((k+1:Nat):Int) Z Z (B8 oM sD) Ac (Ae 1 Z ?_))))
  exact⟨(k+1),_,rfl,⟨rfl,rfl,rfl,rfl,trivial⟩,⟨a8,(by first|(rw[C9];exact a6)|(have h:=a6;rw[CU 0 (Hl a b y) (A9 _) oM]at h;unfold NH;rw[DD Z oM];exact h)),sD⟩,by first|omega|(dsimp only;omega)⟩
 ·exact Ax false Z Z (A8 a5) Ac (Ah (Aj Z (A6 (As (As (An (Pg [] Z (.tuple #[]) Z ⟨rfl,a1,(by have h:=a0;rwa [CL (Hl a b y) oM]at h)⟩)))))))
theorem Fu (w:World)(va:Value)(a:List Int)(vb:Value)(b:List Int)(ha:Rd (B3 rI) w.heap va a)(hb:Rd (B3 rI) w.heap vb b)  :
  Calls Tryz.prog 51 #[va,vb] w (fun e w'=>e=.returned (.bool (decide (a=b)))∧Az w w'):=by
 refine At [va,vb] 26 Tryz.func51 Z Z sM ?_
 have a1:Az w w:=Az.refl w
 have hl_va:=ha.lenle
 have hl_vb:=hb.lenle
 refine A0 (Ad _ [0] Z (Ae 1 Z (A0 (A0 (Ad _ [0,0,0,0,0] Z (Af 1 Z (AJ (v:=va) Bh Z ha.isSl Ac (Af 1 Z (AJ (v:=vb) Bh Z hb.isSl Ac ?_)))))))))
 by_cases a2:((a.length:Nat):Int)≠((b.length:Nat):Int)
 ·exact AZ true Z Z (A7 a2) Ac (Ah (Ai Z (A0 (Ad _ [0] Z (Ae 1 Z (A3 (Aq (Ag [4] Z (.bool false) Z ⟨(AG (A8 (RB oM)).symm),a1⟩))))))))
 ·refine AZ false Z Z (A8 a2) Ac (Ah (Aj Z (A4 (A0 (A0 (Ad _ [0] Z (Ae 1 Z (A5 (AN (S:=Nat) (fun k=>([(5,(.int .i64 ((k:Nat):Int))),(0,va),(1,vb)])) (fun k W=>Az w W∧k≤a.length∧(∀j,j<k→a.getD j 0=b.getD j 0)) (fun k=>a.length-k) 0 ⟨rfl,rfl,rfl,trivial⟩ ⟨a1,sD,(by intro j hj;omega)⟩ ?_)))))))))
  clear a1
  rintro k ρ2 w2 ⟨a0,a3,hq⟩
  have a6:w.heap.size≤w2.heap.size:=a0.size
  refine A0 (A0 (Ad _ [0,0,0,0] Z (Af 2 Z (AJ (v:=va) Bh Z ha.isSl Ac ?_))))
  by_cases a4:((k:Nat):Int)<((a.length:Nat):Int)
  ·refine Ax true Z Z (A7 a4) Ac (Ah (Ai Z (A4 (A0 (A5 (A0 (AY _ [0,0,0,1,0,0,0,1,0] mixed (by kernel_rfl) (Af 2 Z (Au (v:=va) k Bh BA Z Z ha.isSl Z sD Ac ?_)))))))))
   refine Ak (p:=Aw va k 1) (.inl Z) (.int .i64 (a.getD k 0)) AH Z (AP a0.drew (ha.getI sD).1) Ac (Af 2 Z ?_)
   refine Au (v:=vb) k Bh BA Z Z hb.isSl Z sD Ac ?_
   refine Ak (p:=Aw vb k 1) (.inl Z) (.int .i64 (b.getD k 0)) AH Z (AP a0.drew (hb.getI sD).1) Ac ?_
   by_cases a5:a.getD k 0≠b.getD k 0
   ·exact AZ true Z Z (A7 a5) Ac (Ah (Ai Z (A0 (Ad _ [0] Z (Ae 1 Z (A3 (AL (Aq (Aq (AL (Aq (Ag [4] Z (.bool false) Z ⟨(AG (A8 (Pu (d:=0) (k:=k) oM)).symm),a0.drew⟩))))))))))))
   ·refine AZ false Z Z (A8 a5) Ac (Ah (Aj Z (A4 (Ad _ [0,0,0] Z (Af 1 Z (AI ((k+1:Nat):Int) Z Z (B8 oM sD) Ac (Ae 1 Z ?_)))))))
    exact⟨(k+1),_,rfl,⟨rfl,rfl,rfl,trivial⟩,⟨a0.drew,sD,(by exact Pt hq oM)⟩,by first|omega|(dsimp only;omega)⟩
  ·exact Ax false Z Z (A8 a4) Ac (Ah (Aj Z (A6 (As (As (An (A0 (Ad _ [0] Z (Ae 1 Z (A3 (Ag [4] Z (.bool true) Z ⟨(AG (A7 (FU hq oM oM)).symm),a0⟩)))))))))))
theorem EK (w:World)(va:Value)(a:List (List Int))(vb:Value)(b:List (List Int))(ha:Rd (B3 (B3 rI)) w.heap va a)(hb:Rd (B3 (B3 rI)) w.heap vb b)  :
  Calls Tryz.prog 47 #[va,vb] w (fun e w'=>e=.returned (.bool (decide (a=b)))∧Az w w'):=by
 refine At [va,vb] 27 Tryz.func47 Z Z sM ?_
 have a2:Az w w:=Az.refl w
 have hl_va:=ha.lenle
 have hl_vb:=hb.lenle
 refine A0 (Ad _ [0] Z (Ae 1 Z (A0 (A0 (Ad _ [0,0,0,0,0] Z (Af 1 Z (AJ (v:=va) Bi Z ha.isSl Ac (Af 1 Z (AJ (v:=vb) Bi Z hb.isSl Ac ?_)))))))))
 by_cases a3:((a.length:Nat):Int)≠((b.length:Nat):Int)
 ·exact AZ true Z Z (A7 a3) Ac (Ah (Ai Z (A0 (Ad _ [0] Z (Ae 1 Z (A3 (Aq (Ag [4] Z (.bool false) Z ⟨(AG (A8 (RB oM)).symm),a2⟩))))))))
 ·refine AZ false Z Z (A8 a3) Ac (Ah (Aj Z (A4 (A0 (A0 (Ad _ [0] Z (Ae 1 Z (A5 (AN (S:=Nat) (fun k=>([(5,(.int .i64 ((k:Nat):Int))),(0,va),(1,vb)])) (fun k W=>Az w W∧k≤a.length∧(∀j,j<k→a.getD j []=b.getD j [])) (fun k=>a.length-k) 0 ⟨rfl,rfl,rfl,trivial⟩ ⟨a2,sD,(by intro j hj;omega)⟩ ?_)))))))))
  clear a2
  rintro k ρ2 w2 ⟨a0,a4,hq⟩
  have ac:w.heap.size≤w2.heap.size:=a0.size
  refine A0 (A0 (Ad _ [0,0,0,0] Z (Af 2 Z (AJ (v:=va) Bi Z ha.isSl Ac ?_))))
  by_cases a5:((k:Nat):Int)<((a.length:Nat):Int)
  ·refine Ax true Z Z (A7 a5) Ac (Ah (Ai Z (A4 (A0 (A5 (A0 (AY _ [0,0,0,1,0,0,0,1,3,0] mixed (by kernel_rfl) (Af 2 Z (Au (v:=va) k Bi AX Z Z ha.isSl Z sD Ac ?_)))))))))
   obtain⟨a6,ad,a7⟩:=ha.get (k:=k) [] sD
   have ae:=a7.lenle
   refine Ak (p:=Aw va k 1) (.inl Z) a6 B6 Z (AP a0.drew ad) Ac (Af 2 Z (Au (v:=vb) k Bi AX Z Z hb.isSl Z sD Ac ?_))
   obtain⟨a8,af,a9⟩:=hb.get (k:=k) [] sD
   have ag:=a9.lenle
   refine Ak (p:=Aw vb k 1) (.inl Z) a8 B6 Z (AP a0.drew af) Ac (Ap 51 [] [] [a6,a8] Z Z eC Ac (Fu _ _ _ _ _ (a7.ext g1 a0.drew) (a9.ext g1 a0.drew)) ?_)
   rintro e6 w6 ⟨rfl,a1⟩
   refine⟨_,rfl,a1,?_⟩
   replace a1:=a1.of_drew
   have ah:=a1.size
   have aa:=a0.trans a1
   refine Bn (!(decide ((a.getD k [])=(b.getD k [])))) Z Z Ac (Ah ?_)
   cases ab:(!(decide ((a.getD k [])=(b.getD k []))))
   ·refine Aj (by first|rfl|(show Value.bool _=_;rw[ab])) (A4 (Ad _ [0,0,0] Z (Af 1 Z (AI ((k+1:Nat):Int) Z Z (B8 oM sD) Ac (Ae 1 Z ?_)))))
    exact⟨(k+1),_,rfl,⟨rfl,rfl,rfl,trivial⟩,⟨aa,sD,(by exact Pt hq (by simpa using ‹(!decide (a.getD k []=b.getD k []))=false›))⟩,by first|omega|(dsimp only;omega)⟩
   ·exact Ai (by first|rfl|(show Value.bool _=_;rw[ab])) (A0 (Ad _ [0] Z (Ae 1 Z (A3 (AL (Aq (Aq (AL (Aq (Ag [4] Z (.bool false) Z ⟨(AG (A8 (Pu (d:=[]) (k:=k) (by simpa using ‹(!decide (a.getD k []=b.getD k []))=true›))).symm),aa⟩))))))))))
  ·exact Ax false Z Z (A8 a5) Ac (Ah (Aj Z (A6 (As (As (An (A0 (Ad _ [0] Z (Ae 1 Z (A3 (Ag [4] Z (.bool true) Z ⟨(AG (A7 (FU hq oM oM)).symm),a0⟩)))))))))))
theorem Cd (w:World)(va:Value)(a:List Int)(ha:Rd (B3 rI) w.heap va a)(hla:a.length≤1000000000000) :
  Calls Tryz.prog 49 #[va] w (fun e w'=>∃v0:Value,e=.returned (v0)∧Az w w'∧Fr (AS rI 2) w.heap.size w'.heap.size w'.heap v0 a):=by
 refine At [va] 22 Tryz.func49 Z Z sM ?_
 have a4:Az w w:=Az.refl w
 have hl_va:=ha.lenle
 refine A0 (Ad _ [0] Z (Ae 1 Z (A0 (Ad _ [0,0,3,0] Z (Af 1 Z (AJ (v:=va) Bh Z ha.isSl Ac (EF (n:=a.length) Bh BA Z Z Z sD Ac fun v1 w1 a2 aa a5=>?_)))))))
 have a3:=a2.size
 have a6:=a4.trans a2
 refine Ae 1 Z (A0 (A0 (Ad _ [0] Z (Ae 1 Z (A5 (AN (S:=Nat) (fun k=>([(4,(.int .i64 ((k:Nat):Int))),(0,va),(3,v1)])) (fun k W=>Az w W∧Fr (AS rI 2) w.heap.size W.heap.size W.heap v1 (Cn k a (List.replicate a.length 0))∧k≤a.length) (fun k=>a.length-k) 0 ⟨rfl,rfl,rfl,trivial⟩ ⟨a6,(by rw[C9];exact a5.up o1),sD⟩ ?_))))))
 clear a4 a5 aa a2 a3 a6
 rintro k ρ2 w2 ⟨a1,a0,a7⟩
 have ab:w.heap.size≤w2.heap.size:=a1.size
 have hml:=D4 k a (List.replicate a.length 0) sM
 rw[List.length_replicate]at hml
 refine A0 (A0 (Ad _ [0,0,0,0] Z (Af 2 Z (AJ (v:=va) Bh Z ha.isSl Ac ?_))))
 by_cases a8:((k:Nat):Int)<((a.length:Nat):Int)
 ·refine Ax true Z Z (A7 a8) Ac (Ah (Ai Z (A4 (A0 (A5 (Ad _ [0,0,0,0,0,2,0,4] Z (Af 4 Z (Au (v:=va) k Bh BA Z Z ha.isSl Z sD Ac ?_))))))))
  refine Ak (p:=Aw va k 1) (.inr Z) (.int .i64 (a.getD k 0)) AH Z (AP a1 (ha.getI sD).1) Ac ?_
  refine Au (v:=v1) k Bh BA Z Z a0.isSl Z sD Ac ?_
  refine Fk (v:=v1) (w:=w2) ID Z Z (ha.getI sD).2 a0 sD Ac fun w4 F4 a9 ag ac ad=>?_
  have ae:Az w w4:=a9.below a1 (fun c hc=>Aa (A9 _) (ac c hc).1) a1.size
  have af:=a9.size
  refine Ah (Ad _ [0,0,0] Z (Af 1 Z (AI ((k+1:Nat):Int) Z Z (B8 oM sD) Ac (Ae 1 Z ?_))))
  exact⟨(k+1),_,rfl,⟨rfl,rfl,rfl,trivial⟩,⟨ae,(by rw[← Hk 0 sM (by simp;omega)];exact ad.up o1),sD⟩,by first|omega|(dsimp only;omega)⟩
 ·exact Ax false Z Z (A8 a8) Ac (Ah (Aj Z (A6 (As (As (An (A0 (Ad _ [0,0] Z (Ae 2 Z (A3 (Ag [2] Z v1 Z ⟨v1,rfl,a1,(by have h:=a0.up o1;rwa [CL sM (by simp;omega)]at h)⟩)))))))))))
end
section
set_option maxHeartbeats 4000000
set_option maxRecDepth 100000
attribute [local irreducible] LW
theorem Es (w:World)(va:Value)(a:List Int)(Fa:List Nat)(k:Int)(ha:AS rI 2 w.heap va a Fa)(hna:Fa.Nodup)(_hk:BC k)(hk:0≤k∧k+(a.length:Int)≤4611686018427387904) :
  Calls Tryz.prog 53 #[va,.int .i64 k] w (fun e w'=>e=.returned (.int .i64 (k+((a.length:Nat):Int)))∧AE Fa w w'∧AS rI 2 w'.heap va (up a.length k) Fa):=by
 refine At [va,.int .i64 k] 19 Tryz.func53 Z Z sM ?_
 have a2:AE Fa w w:=AE.refl Fa w
 have hl_va:=ha.lenle
 unfold maxLen at hl_va
 refine A0 (Ad _ [0] Z (Ae 1 Z (A0 (A0 (Ad _ [0] Z (Ae 1 Z (A5 ?_)))))))
 refine AN (S:=Nat×Int) (fun⟨j,l⟩=>([(1,(.int .i64 l)),(5,(.int .i64 ((j:Nat):Int))),(0,va)])) (fun⟨j,l⟩ W=>AE Fa w W∧AS rI 2 W.heap va (Cn j (up a.length k) a) Fa∧j≤a.length∧l=k+((j:Nat):Int)) (fun⟨j,l⟩=>a.length-j) (0,k) ⟨rfl,rfl,rfl,trivial⟩ ⟨a2,(by first|(rw[C9];exact ha)|(have h:=ha;rw[hl]at h;unfold up;rw[DD Z oM];exact h)),sD,oM⟩ ?_
 clear a2
 rintro⟨j,l⟩ ρ1 w1 ⟨a1,a0,a3,hl⟩
 have a6:w.heap.size≤w1.heap.size:=a1.size
 have hml:=D4 j (up a.length k) a (Qw _ _)
 refine A0 (A0 (Ad _ [0,0,0,0] Z (Af 2 Z (AJ (v:=va) Bh Z (a0.rd id).isSl Ac ?_))))
 by_cases a4:((j:Nat):Int)<(((Cn j (up a.length k) a).length:Nat):Int)
 ·refine Ax true Z Z (A7 a4) Ac (Ah (Ai Z (A4 (A0 (A5 (A0 (Ad _ [0,0,0,0,4] Z (Af 3 Z (Au (v:=va) j Bh BA Z Z (a0.rd id).isSl Z sD Ac ?_)))))))))
  refine TT (v:=va) (w:=w1) ID Z Z oM a0 hna sD Ac fun w3 a7 a9 a5=>?_
  have a8:AE Fa w w3:=a1.trans a7
  refine Ah (Ad _ [0,0,0] Z (Af 1 Z (AI (l+((1:Nat):Int)) Z Z (FR sD sD) Ac (Ae 1 Z ?_))))
  refine Ad _ [0,0,0] Z (Af 1 Z (AI ((j+1:Nat):Int) Z Z (B8 oM sD) Ac (Ae 1 Z ?_)))
  exact⟨((j+1),(l+((1:Nat):Int))),_,rfl,⟨rfl,rfl,rfl,trivial⟩,⟨a8,(by first|(rw[C9];exact a5)|(have h:=a5;rw[hl]at h;unfold up;rw[DD Z oM];exact h)),sD,oM⟩,by first|omega|(dsimp only;omega)⟩
 ·exact Ax false Z Z (A8 a4) Ac (Ah (Aj Z (A6 (As (As (An (A0 (Ad _ [0,0] Z (Ae 2 Z (A3 (Ag [4] Z (.int .i64 l) Z ⟨(AV (by rw[hl,show j=a.length from by omega])),a1,(by have h:=a0;rwa [CL (Qw _ _) oM]at h)⟩)))))))))))
theorem K5 (w:World)(va:Value)(a:List Int)(k:Int)(ha:Rd (B3 rI) w.heap va a)(_hk:BC k)(hk:0≤k∧k+(a.length:Int)≤4611686018427387904)(heq:∀i,i<a.length→a.getD i 0=k+((i:Nat):Int)) :
  Calls Tryz.prog 135 #[va,.int .i64 k] w (fun e w'=>e=.returned (.int .i64 (k+((a.length:Nat):Int)))∧Az w w'):=by
 refine At [va,.int .i64 k] 21 Tryz.func135 Z Z sM ?_
 have a1:Az w w:=Az.refl w
 have hl_va:=ha.lenle
 refine A0 (Ad _ [0] Z (Ae 1 Z (A0 (A0 (Ad _ [0] Z (Ae 1 Z (A5 (AN (S:=Nat×Int) (fun⟨j,l⟩=>([(1,(.int .i64 l)),(5,(.int .i64 ((j:Nat):Int))),(0,va)])) (fun⟨j,l⟩ W=>Az w W∧j≤a.length∧l=k+((j:Nat):Int)) (fun⟨j,l⟩=>a.length-j) (0,k) ⟨rfl,rfl,rfl,trivial⟩ ⟨a1,sD,oM⟩ ?_))))))))
 clear a1
 rintro⟨j,l⟩ ρ1 w1 ⟨a0,a2,hl⟩
 have a5:w.heap.size≤w1.heap.size:=a0.size
 refine A0 (A0 (Ad _ [0,0,0,0] Z (Af 2 Z (AJ (v:=va) Bh Z ha.isSl Ac ?_))))
 by_cases a3:((j:Nat):Int)<((a.length:Nat):Int)
 ·refine Ax true Z Z (A7 a3) Ac (Ah (Ai Z (A4 (A0 (A5 (A0 (A0 (Ad _ [0,0,0,2,0,0] Z (Af 2 Z (Au (v:=va) j Bh BA Z Z ha.isSl Z sD Ac ?_))))))))))
  refine Ak (p:=Aw va j 1) (.inr Z) (.int .i64 (a.getD j 0)) AH Z (AP a0 (ha.getI sD).1) Ac (Af 1 Z ?_)
  by_cases a4:a.getD j 0≠l
  ·exact absurd (by rw[heq j oM];omega) a4
  ·refine AZ false Z Z (A8 a4) Ac (Ah (Aj Z (A4 (Ad _ [0,0,0] Z (Af 1 Z ?_)))))
   refine AI (l+((1:Nat):Int)) Z Z (FR sD sD) Ac (Ae 1 Z (Ad _ [0,0,0] Z (Af 1 Z ?_)))
   refine AI ((j+1:Nat):Int) Z Z (B8 oM sD) Ac (Ae 1 Z ?_)
   exact⟨((j+1),(l+((1:Nat):Int))),_,rfl,⟨rfl,rfl,rfl,trivial⟩,⟨a0,sD,oM⟩,by first|omega|(dsimp only;omega)⟩
 ·exact Ax false Z Z (A8 a3) Ac (Ah (Aj Z (A6 (As (As (An (A0 (Ad _ [0,0] Z (Ae 2 Z (A3 (Ag [4] Z (.int .i64 l) Z ⟨(AV (by rw[hl,show j=a.length from by omega])),a0⟩)))))))))))
theorem Jb (w:World)(va:Value)(a:List (List Int))(Fa:List Nat)(k:Int)(ha:AS (AS rI 2) 27 w.heap va a Fa)(hna:Fa.Nodup)(_hk:BC k)(hk:0≤k∧k+(J3 a a.length:Int)≤4611686018427387904) :
  Calls Tryz.prog 54 #[va,.int .i64 k] w (fun e w'=>e=.returned (.int .i64 (k+((J3 a a.length:Nat):Int)))∧AE Fa w w'∧AS (AS rI 2) 27 w'.heap va (L3 a k) Fa):=by
 refine At [va,.int .i64 k] 19 Tryz.func54 Z Z sM ?_
 have a2:AE Fa w w:=AE.refl Fa w
 have hl_va:=ha.lenle
 unfold maxLen at hl_va
 refine A0 (Ad _ [0] Z (Ae 1 Z (A0 (A0 (Ad _ [0] Z (Ae 1 Z (A5 ?_)))))))
 refine AN (S:=Nat×Int) (fun⟨j,l⟩=>([(1,(.int .i64 l)),(5,(.int .i64 ((j:Nat):Int))),(0,va)])) (fun⟨j,l⟩ W=>AE Fa w W∧AS (AS rI 2) 27 W.heap va (Cn j (L3 a k) a) Fa∧j≤a.length∧l=k+((J3 a j:Nat):Int)) (fun⟨j,l⟩=>a.length-j) (0,k) ⟨rfl,rfl,rfl,trivial⟩ ⟨a2,(by first|(rw[C9];exact ha)|(have h:=ha;rw[hl,CU [] (Ek _ _) (A9 _) oM]at h;unfold L3;rw[DD Z oM];exact h)),sD,(by rw[LT];omega)⟩ ?_
 clear a2
 rintro⟨j,l⟩ ρ1 w1 ⟨a1,a0,a3,hl⟩
 have a9:w.heap.size≤w1.heap.size:=a1.size
 have hml:=D4 j (L3 a k) a (Ek _ _)
 have hmo:=JD a (j+1)
 have hmi:=JD a j
 refine A0 (A0 (Ad _ [0,0,0,0] Z (Af 2 Z (AJ (v:=va) Bi Z (GQ a0).isSl Ac ?_))))
 by_cases a4:((j:Nat):Int)<(((Cn j (L3 a k) a).length:Nat):Int)
 ·refine Ax true Z Z (A7 a4) Ac (Ah (Ai Z (A4 (A0 (A5 (Ad _ [0,0,0,2,0,4,0] Z (Af 2 Z (Au (v:=va) j Bi AX Z Z (GQ a0).isSl Z sD Ac ?_))))))))
  obtain⟨a5,a6,aa⟩:=(GQ a0).get (k:=j) [] sD
  have ab:=aa.lenle
  refine Ak (p:=Aw va j 1) (.inr Z) a5 B6 Z a6 Ac (Af 1 Z ?_)
  obtain⟨G4,ac,ad,ae,af⟩:=XV o1 [] a0 hna sD a6
  refine B1 53 [] [] [a5,(.int .i64 l)] Z Z eD Ac (Es _ _ _ _ _ ac ad oM (by rw[CU [] (Ek _ _) (A9 _) oM];have:=FV (a:=a) (i:=j) oM;omega)) ?_
  rintro e4 w4 ⟨rfl,a7,ag⟩
  refine⟨_,rfl,?_⟩
  have ah:AE Fa w w4:=a1.trans (a7.sub ae)
  have a8:=af a7 ag
  refine Ae 1 Z (Ad _ [0,0,0] Z (Af 1 Z (AI ((j+1:Nat):Int) Z Z (B8 oM sD) Ac (Ae 1 Z ?_))))
  exact⟨((j+1),(l+((((Cn j (L3 a k) a).getD j []).length:Nat):Int))),_,rfl,⟨rfl,rfl,rfl,trivial⟩,⟨ah,(by first|(rw[C9];exact a8)|(have h:=a8;rw[hl,CU [] (Ek _ _) (A9 _) oM]at h;unfold L3;rw[DD Z oM];exact h)),sD,(by rw[FV oM,CU [] (Ek _ _) (A9 _) oM];omega)⟩,by first|omega|(dsimp only;omega)⟩
 ·exact Ax false Z Z (A8 a4) Ac (Ah (Aj Z (A6 (As (As (An (A0 (Ad _ [0,0] Z (Ae 2 Z (A3 (Ag [4] Z (.int .i64 l) Z ⟨(AV (by rw[hl,show j=a.length from by omega])),a1,(by have h:=a0;rwa [CL (Ek _ _) oM]at h)⟩)))))))))))
theorem Ga (w:World)(va:Value)(a:List (List Int))(k:Int)(ha:Rd (B3 (B3 rI)) w.heap va a)(_hk:BC k)(hk:0≤k∧k+(J3 a a.length:Int)≤4611686018427387904)(heq:∀i,i<a.length→a.getD i []=up (a.getD i []).length (k+((J3 a i:Nat):Int))) :
  Calls Tryz.prog 55 #[va,.int .i64 k] w (fun e w'=>e=.returned (.int .i64 (k+((J3 a a.length:Nat):Int)))∧Az w w'):=by
 refine At [va,.int .i64 k] 21 Tryz.func55 Z Z sM ?_
 have a2:Az w w:=Az.refl w
 have hl_va:=ha.lenle
 refine A0 (Ad _ [0] Z (Ae 1 Z (A0 (A0 (Ad _ [0] Z (Ae 1 Z (A5 (AN (S:=Nat×Int) (fun⟨j,l⟩=>([(1,(.int .i64 l)),(5,(.int .i64 ((j:Nat):Int))),(0,va)])) (fun⟨j,l⟩ W=>Az w W∧j≤a.length∧l=k+((J3 a j:Nat):Int)) (fun⟨j,l⟩=>a.length-j) (0,k) ⟨rfl,rfl,rfl,trivial⟩ ⟨a2,sD,(by rw[LT];omega)⟩ ?_))))))))
 clear a2
 rintro⟨j,l⟩ ρ1 w1 ⟨a0,a3,hl⟩
 have a8:w.heap.size≤w1.heap.size:=a0.size
 have hmo:=JD a (j+1)
 have hmi:=JD a j
 refine A0 (A0 (Ad _ [0,0,0,0] Z (Af 2 Z (AJ (v:=va) Bi Z ha.isSl Ac ?_))))
 by_cases a4:((j:Nat):Int)<((a.length:Nat):Int)
 ·refine Ax true Z Z (A7 a4) Ac (Ah (Ai Z (A4 (A0 (A5 (A0 (Ad _ [0,0,0,2,0,3,0] Z (Af 2 Z (Au (v:=va) j Bi AX Z Z ha.isSl Z sD Ac ?_)))))))))
  obtain⟨a5,a9,a6⟩:=ha.get (k:=j) [] sD
  have aa:=a6.lenle
  refine Ak (p:=Aw va j 1) (.inr Z) a5 B6 Z (AP a0 a9) Ac (Af 1 Z (Ap 135 [] [] [a5,(.int .i64 l)] Z Z gC Ac (K5 _ _ _ _ (a6.ext g1 a0) oM (by have:=FV (a:=a) (i:=j) oM;omega) (by intro i hi;rw[heq j oM,bY oM,hl])) ?_))
  rintro e4 w4 ⟨rfl,a1⟩
  refine⟨_,rfl,a1,?_⟩
  have ab:=a1.size
  have ac:=a0.trans a1
  refine Ae 1 Z (A0 (Ad _ [0,0] Z (Af 1 Z ?_)))
  by_cases a7:l+(((a.getD j []).length:Nat):Int)<((0:Nat):Int)
  ·exact absurd a7 oM
  ·refine Ax false Z Z (A8 a7) Ac (Ah (Aj Z (A4 (Ad _ [0,0,0] Z (Af 1 Z (AI ((j+1:Nat):Int) Z Z (B8 oM sD) Ac (Ae 1 Z ?_)))))))
   exact⟨((j+1),(l+(((a.getD j []).length:Nat):Int))),_,rfl,⟨rfl,rfl,rfl,trivial⟩,⟨ac,sD,(by rw[FV oM];omega)⟩,by first|omega|(dsimp only;omega)⟩
 ·exact Ax false Z Z (A8 a4) Ac (Ah (Aj Z (A6 (As (As (An (A0 (Ad _ [0,0] Z (Ae 2 Z (A3 (Ag [4] Z (.int .i64 l) Z ⟨(AV (by rw[hl,show j=a.length from by omega])),a0⟩)))))))))))
theorem Fw (w:World)(va:Value)(a:List Int)(y:Int)(ha:Rd (B3 rI) w.heap va a)(_hy:BC y)(hla:a.length≤1000000000000) :
  Calls Tryz.prog 176 #[va,.int .i64 y] w (fun e w'=>∃v0:Value,e=.returned (v0)∧Az w w'∧Fr (AS rI 2) w.heap.size w'.heap.size w'.heap v0 (scl a y)):=by
 refine At [va,.int .i64 y] 24 Tryz.func176 Z Z sM ?_
 have a8:Az w w:=Az.refl w
 have hl_va:=ha.lenle
 refine A0 (Ad _ [0] Z (Ae 1 Z (A0 (Ad _ [3,0] Z (BI (rI) AQ Bh BA Ac fun v1 w1 a3 af a9=>?_)))))
 have a4:=a3.size
 have aa:=a8.trans a3
 refine Ae 1 Z (A0 (A0 (Ad _ [0] Z (Ae 1 Z (A5 ?_)))))
 refine AN (S:=Nat×Value) (fun⟨k,vo⟩=>([(5,vo),(6,(.int .i64 ((k:Nat):Int))),(0,va),(1,(.int .i64 y))])) (fun⟨k,vo⟩ W=>Az w W∧Fr (AS rI 2) w.heap.size W.heap.size W.heap vo ((a.take k).map (fun x=>md (x*y)))∧k≤a.length) (fun⟨k,vo⟩=>a.length-k) (0,v1) ⟨rfl,rfl,rfl,rfl,trivial⟩ ⟨aa,a9.up o1,sD⟩ ?_
 clear a8 a9 af a3 a4 aa
 rintro⟨k,vo⟩ ρ2 w2 ⟨a2,a1,ab⟩
 have ag:w.heap.size≤w2.heap.size:=a2.size
 refine A0 (A0 (Ad _ [0,0,0,0] Z (Af 2 Z (AJ (v:=va) Bh Z ha.isSl Ac ?_))))
 by_cases ac:((k:Nat):Int)<((a.length:Nat):Int)
 ·refine Ax true Z Z (A7 ac) Ac (Ah (Ai Z (A4 (A0 (A5 (Ad _ [0,0,0,0,2,0,0,3,4,0] Z (Af 3 Z (Au (v:=va) k Bh BA Z Z ha.isSl Z sD Ac ?_))))))))
  refine Ak (p:=Aw va k 1) (.inr Z) (.int .i64 (a.getD k 0)) AH Z (AP a2 (ha.getI sD).1) Ac (Af 1 Z ?_)
  refine AD 76 [] [] [(.int .i64 (a.getD k 0)),(.int .i64 y)] Z Z Nc Ac (.int .i64 (md ((a.getD k 0)*y))) (fun wq=>Cm wq _ _ (ha.getI sD).2 _hy) (Bq (u:=(.int .i64 (md ((a.getD k 0)*y)))) (B:=w2.heap.size) AQ Bh BA Z Z (N6 w2.heap.size w2.heap.size _ _ (Dt _)) (A9 _) Ac fun v5 w5 a5 al ad=>?_)
  have ah:=a5.size
  have a6:=a2.trans a5
  have a0:=a1.ext (o1) a5
  refine GA (v:=vo) (a:=v5) Bh BA Z Z Z a0 a6.size ad.rd1 sD (by unfold maxLen;first|omega|assumption|(simp;done)|(simp;omega)) Ac fun v6 w6 F6 a7 ae ai=>?_
  have aj:Az w w6:=a7.below a6 (fun c hc=>Aa (A9 _) (ae c hc).1) a6.size
  have ak:=a7.size
  have am:=ad.chg (o1) a7 (fun c hc=>by have:=ae c hc;omega)
  refine Ae 1 Z (Ad _ [0,0,0] Z (Af 1 Z (AI ((k+1:Nat):Int) Z Z (B8 oM sD) Ac (Ae 1 Z ?_))))
  exact⟨((k+1),v6),_,rfl,⟨rfl,rfl,rfl,rfl,trivial⟩,⟨aj,(by rw[Du 0 oM];exact ai.up o1),sD⟩,by first|omega|(dsimp only;omega)⟩
 ·exact Ax false Z Z (A8 ac) Ac (Ah (Aj Z (A6 (As (As (An (A0 (Ad _ [0,0] Z (Ae 2 Z (A3 (Ag [4] Z vo Z ⟨vo,rfl,a2,(by have h:=a1.up o1;rwa [List.take_of_length_le oM]at h)⟩)))))))))))
theorem Gz (w:World)(va:Value)(a:List Int)(n:Int)(ha:Rd (B3 rI) w.heap va a)(_hn:BC n)  :
  Calls Tryz.prog 119 #[va,.int .i64 n] w (fun e w'=>e=.returned (.bool (decide (((a.length:Nat):Int)=n) && B7 a))∧Az w w'):=by
 refine At [va,.int .i64 n] 13 Tryz.func119 Z Z sM ?_
 have a0:Az w w:=Az.refl w
 have hl_va:=ha.lenle
 refine A0 (Ad _ [0] Z (Ae 1 Z (A0 (Ad _ [0,0,0,0,0,0,3,0,0] Z (Af 1 Z (AJ (v:=va) Bh Z ha.isSl Ac (Af 1 Z ?_)))))))
 by_cases a2:((a.length:Nat):Int)=n
 ·refine AA true Z Z (A7 a2) Ac (Af 2 Z (Ap 144 [] [] [va] Z Z gE (Al (e:=9) Z Z Z) (K4 _ _ _ (ha.ext g1 a0)) ?_))
  rintro e2 w2 ⟨rfl,a1⟩
  refine⟨_,rfl,a1,?_⟩
  have a3:=a1.size
  have a4:=a0.trans a1
  exact Ae 2 Z (A3 (Ag [4] Z (.bool (B7 a)) Z ⟨(AG (by simp[*])),a4⟩))
 ·exact AA false Z Z (A8 a2) Ac (Ae 5 Z (A3 (Ag [4] Z (.bool false) Z ⟨(AG (by simp[*])),a0⟩)))
theorem MA (w:World)(n:Int)(_hn:BC n)  :
  Calls Tryz.prog 127 #[.int .i64 n] w (fun e w'=>e=.returned (.bool (decide (((0:Nat):Int)≤n) && decide (n≤((12:Nat):Int))))∧Az w w'):=by
 refine At [.int .i64 n] 5 Tryz.func127 Z Z sM ?_
 have a0:Az w w:=Az.refl w
 exact A0 (Ad _ [0] Z (Ae 1 Z (A0 (Ad _ [0,0,0] Z (Af 1 Z (AD 72 [] [] [(.int .i64 n),(.int .i64 ((0:Nat):Int)),(.int .i64 ((12:Nat):Int))] Z Z KD Ac (.bool (decide (((0:Nat):Int)≤n) && decide (n≤((12:Nat):Int)))) (fun wq=>BD wq _ _ _ _hn oM oM) (Ae 1 Z (A3 (Ag [2] Z (.bool (decide (((0:Nat):Int)≤n) && decide (n≤((12:Nat):Int)))) Z ⟨rfl,a0⟩)))))))))
theorem HL (w:World)(va:Value)(a:List Int)(o:Int)(ha:Rd (B3 rI) w.heap va a)(_ho:BC o)(hla:a.length≤1000000000000)(ho:0≤o∧o≤12) :
  Calls Tryz.prog 130 #[va,.int .i64 o] w (fun e w'=>∃v0:Value,e=.returned (v0)∧Az w w'∧Fr (AS (AS rI 2) 27) w.heap.size w'.heap.size w'.heap v0 (a.map (fun x=>(List.replicate (o.toNat+1) 0).set 0 x))):=by
 refine At [va,.int .i64 o] 28 Tryz.func130 Z Z sM ?_
 have aa:Az w w:=Az.refl w
 have hl_va:=ha.lenle
 refine A0 (Ad _ [0] Z (Ae 1 Z (A0 (Ad _ [3,0] Z (BI (AS rI 2) o1 Bi AX Ac fun v1 w1 a4 aj ab=>?_)))))
 have a5:=a4.size
 have ac:=aa.trans a4
 refine Ae 1 Z (A0 (A0 (Ad _ [0,0,0] Z (Af 1 Z (AJ (v:=va) Bh Z ha.isSl Ac (Ae 1 Z (A5 ?_)))))))
 refine AN (S:=Nat×Value) (fun⟨k,vo⟩=>([(5,vo),(12,(.int .i64 ((k:Nat):Int))),(1,(.int .i64 o)),(10,va),(11,(.int .i64 ((a.length:Nat):Int)))])) (fun⟨k,vo⟩ W=>Az w W∧Fr (AS (AS rI 2) 27) w.heap.size W.heap.size W.heap vo ((a.take k).map (fun x=>(List.replicate (o.toNat+1) 0).set 0 x))∧k≤a.length) (fun⟨k,vo⟩=>a.length-k) (0,v1) ⟨rfl,rfl,rfl,rfl,rfl,trivial⟩ ⟨ac,ab.up o2,sD⟩ ?_
 clear aa ab aj a4 a5 ac
 rintro⟨k,vo⟩ ρ2 w2 ⟨a2,a1,ad⟩
 have ak:w.heap.size≤w2.heap.size:=a2.size
 refine A0 (Ad _ [0] Z ?_)
 by_cases ae:((k:Nat):Int)<((a.length:Nat):Int)
 ·refine Ax true Z Z (A7 ae) Ac (Ah (A0 (Ai Z (A4 (A0 (A5 (A0 (Ad _ [0,2,0] Z (Au (v:=va) k Bh BA Z Z ha.isSl Z sD Ac ?_)))))))))
  refine Ak (p:=Aw va k 1) (.inr Z) (.int .i64 (a.getD k 0)) AH Z (AP a2 (ha.getI sD).1) Ac (Ae 1 Z (A0 (Ad _ [0,0,3,0] Z (Af 1 Z (AI ((o.toNat+1:Nat):Int) Z Z (B8 oM oM) Ac ?_)))))
  refine EF (n:=o.toNat+1) Bh BA Z Z Z sD Ac fun v4 w4 a6 ay af=>?_
  have al:=a6.size
  have ag:=a2.trans a6
  have a0:=a1.ext (o2) a6
  refine Ae 1 Z (A0 (Ad _ [0,0,0,4] Z (Af 2 Z (Au (v:=v4) 0 Bh BA Z Z af.isSl Z sD Ac ?_))))
  refine Fk (v:=v4) (w:=w4) ID Z Z (ha.getI sD).2 af sD Ac fun w5 F5 a7 az ah am=>?_
  have an:Az w w5:=a7.below ag (fun c hc=>Aa a2.size (ah c hc).1) ag.size
  have ao:=a7.size
  have ap:=a0.chg (o2) a7 (fun c hc=>by have:=ah c hc;omega)
  refine Ah (Ad _ [0,0,3,4,0] Z (Af 2 Z (Bq (u:=v4) (B:=w2.heap.size) o1 Bi AX Z Z am (by first|exact A9 _|omega) Ac fun v7 w7 a8 b0 aq=>?_)))
  have ar:=a8.size
  have a9:=an.trans a8
  have a3:=ap.ext (o2) a8
  refine Ej o1 (v:=vo) (a:=v7) Bi AX Z Z Z a3 a9.size aq oM a2.size sD (by unfold maxLen;first|omega|assumption|(simp;done)|(simp;omega)) Ac fun v8 w8 F8 ai au av=>?_
  have aw:Az w w8:=ai.below a9 (fun c hc=>Aa (A9 _) (au c hc).1) a9.size
  have ax:=ai.size
  refine Ae 1 Z (Ad _ [0,0] Z (AI ((k+1:Nat):Int) Z Z (B8 oM sD) Ac (Ae 1 Z ?_)))
  exact⟨((k+1),v8),_,rfl,⟨rfl,rfl,rfl,rfl,rfl,trivial⟩,⟨aw,(by rw[Du 0 oM];exact av.up o2),sD⟩,by first|omega|(dsimp only;omega)⟩
 ·exact Ax false Z Z (A8 ae) Ac (Ah (A0 (Aj Z (A6 (As (As (An (A0 (Ad _ [0,0] Z (Ae 2 Z (A3 (Ag [4] Z vo Z ⟨vo,rfl,a2,(by have h:=a1.up o2;rwa [List.take_of_length_le oM]at h)⟩))))))))))))
end
section
set_option maxHeartbeats 4000000
set_option maxRecDepth 100000
attribute [local irreducible] LW
theorem De (w:World)(va:Value)(a:List Int)(y:Int)(ha:Rd (B3 rI) w.heap va a)(_hy:BC y)(hla:a.length≤1000000000000)(hqa:B7 a=true)(hy:0≤y∧y<1000003) :
  Calls Tryz.prog 103 #[va,.int .i64 y] w (fun e w'=>∃v0:Value,e=.returned (v0)∧Az w w'∧Fr (AS rI 2) w.heap.size w'.heap.size w'.heap v0 (CD a y)):=by
 refine At [va,.int .i64 y] 27 Tryz.func103 Z Z sM ?_
 have a4:Az w w:=Az.refl w
 have hl_va:=ha.lenle
 refine A0 (Ad _ [0] Z (Ae 1 Z (A0 (Ad _ [0,0,3,0] Z (Af 1 Z (AJ (v:=va) Bh Z ha.isSl Ac (EF (n:=a.length) Bh BA Z Z Z sD Ac fun v1 w1 a2 aa a5=>?_)))))))
 have a3:=a2.size
 have a6:=a4.trans a2
 refine Ae 1 Z (A0 (A0 (Ad _ [0,0,0] Z (Af 1 Z (AJ (v:=va) Bh Z ha.isSl Ac (Ae 1 Z (A5 ?_)))))))
 refine AN (S:=Nat) (fun k=>([(12,(.int .i64 ((k:Nat):Int))),(0,va),(1,(.int .i64 y)),(5,v1),(11,(.int .i64 ((a.length:Nat):Int)))])) (fun k W=>Az w W∧Fr (AS rI 2) w.heap.size W.heap.size W.heap v1 (Cn k (CD a y) (List.replicate a.length 0))∧k≤a.length) (fun k=>a.length-k) 0 ⟨rfl,rfl,rfl,rfl,rfl,trivial⟩ ⟨a6,(by rw[C9];exact a5.up o1),sD⟩ ?_
 clear a4 a5 aa a2 a3 a6
 rintro k ρ2 w2 ⟨a1,a0,a7⟩
 have ab:w.heap.size≤w2.heap.size:=a1.size
 have hml:=D4 k (CD a y) (List.replicate a.length 0) sM
 rw[List.length_replicate]at hml
 have hga:=Ba hqa k
 refine A0 (Ad _ [0] Z ?_)
 by_cases a8:((k:Nat):Int)<((a.length:Nat):Int)
 ·refine Ax true Z Z (A7 a8) Ac (Ah (A0 (Ai Z (A4 (A0 (A5 (A0 (Ad _ [0,0] Z (Ae 2 Z (Ad _ [0,0,0,0,0,2,0,0,0,0,4] Z (Af 4 Z (Au (v:=va) k Bh BA Z Z ha.isSl Z sD Ac ?_))))))))))))
  refine Ak (p:=Aw va k 1) (.inr Z) (.int .i64 (a.getD k 0)) AH Z (AP a1 (ha.getI sD).1) Ac (Af 1 Z (IM (wr ((a.getD k 0)*y)) Z Z Z Ac (EA (md (a.getD k 0*y)) Z Z (by decide) (Ps hga hy) Ac ?_)))
  refine Au (v:=v1) k Bh BA Z Z a0.isSl Z sD Ac (Fk (v:=v1) (w:=w2) ID Z Z (Dt _) a0 sD Ac fun w4 F4 a9 ag ac ad=>?_)
  have ae:Az w w4:=a9.below a1 (fun c hc=>Aa (A9 _) (ac c hc).1) a1.size
  have af:=a9.size
  refine Ah (Ad _ [0,0] Z (AI ((k+1:Nat):Int) Z Z (B8 oM sD) Ac (Ae 1 Z ?_)))
  exact⟨(k+1),_,rfl,⟨rfl,rfl,rfl,rfl,rfl,trivial⟩,⟨ae,(by unfold CD;rw[DD sM oM];exact ad.up o1),sD⟩,by first|omega|(dsimp only;omega)⟩
 ·exact Ax false Z Z (A8 a8) Ac (Ah (A0 (Aj Z (A6 (As (As (An (A0 (Ad _ [0,0] Z (Ae 2 Z (A3 (Ag [4] Z v1 Z ⟨v1,rfl,a1,(by have h:=a0.up o1;rwa [CL sM (by simp;omega)]at h)⟩))))))))))))
theorem Et (w:World)(va:Value)(a:List Int)(vb:Value)(b:List Int)(ha:Rd (B3 rI) w.heap va a)(hb:Rd (B3 rI) w.heap vb b)(hla:a.length≤1000000000000)(hl:a.length≤b.length)(hqa:B7 a=true)(hqb:B7 b=true) :
  Calls Tryz.prog 102 #[va,vb] w (fun e w'=>∃v0:Value,e=.returned (v0)∧Az w w'∧Fr (AS rI 2) w.heap.size w'.heap.size w'.heap v0 (DU a b)):=by
 refine At [va,vb] 30 Tryz.func102 Z Z sM ?_
 have a5:Az w w:=Az.refl w
 have hl_va:=ha.lenle
 have hl_vb:=hb.lenle
 refine A0 (Ad _ [0] Z (Ae 1 Z (A0 (Ad _ [0,0,3,0] Z (Af 1 Z (AJ (v:=va) Bh Z ha.isSl Ac (EF (n:=a.length) Bh BA Z Z Z sD Ac fun v1 w1 a3 aa a6=>?_)))))))
 have a4:=a3.size
 have a7:=a5.trans a3
 refine Ae 1 Z (A0 (A0 (Ad _ [0,0,0] Z (Af 1 Z (AJ (v:=va) Bh Z ha.isSl Ac (Ae 1 Z (A5 ?_)))))))
 refine AN (S:=Nat) (fun k=>([(12,(.int .i64 ((k:Nat):Int))),(0,va),(1,vb),(5,v1),(11,(.int .i64 ((a.length:Nat):Int)))])) (fun k W=>Az w W∧Fr (AS rI 2) w.heap.size W.heap.size W.heap v1 (Cn k (DU a b) (List.replicate a.length 0))∧k≤a.length) (fun k=>a.length-k) 0 ⟨rfl,rfl,rfl,rfl,rfl,trivial⟩ ⟨a7,(by rw[C9];exact a6.up o1),sD⟩ ?_
 clear a5 a6 aa a3 a4 a7
 rintro k ρ2 w2 ⟨a1,a0,a8⟩
 have ab:w.heap.size≤w2.heap.size:=a1.size
 have hml:=D4 k (DU a b) (List.replicate a.length 0) sM
 rw[List.length_replicate]at hml
 have hga:=Ba hqa k
 have hgb:=Ba hqb k
 refine A0 (Ad _ [0] Z ?_)
 by_cases a9:((k:Nat):Int)<((a.length:Nat):Int)
 ·refine Ax true Z Z (A7 a9) Ac (Ah (A0 (Ai Z (A4 (A0 (A5 (A0 (Ad _ [0,0] Z (Ae 2 Z (AY _ [0,0,0,0,0,1,0,0,0,1,0,0,0,4] mixed (by kernel_rfl) (Af 4 Z (Au (v:=va) k Bh BA Z Z ha.isSl Z sD Ac ?_))))))))))))
  refine Ak (p:=Aw va k 1) (.inl Z) (.int .i64 (a.getD k 0)) AH Z (AP a1.drew (ha.getI sD).1) Ac (Af 2 Z ?_)
  refine Au (v:=vb) k Bh BA Z Z hb.isSl Z sD Ac ?_
  refine Ak (p:=Aw vb k 1) (.inl Z) (.int .i64 (b.getD k 0)) AH Z (AP a1.drew (hb.getI sD).1) Ac (AI (wr ((a.getD k 0)+(b.getD k 0))) Z Z Z Ac (EA (md (a.getD k 0+b.getD k 0)) Z Z (by decide) (Y3 hga hgb) Ac ?_))
  refine Au (v:=v1) k Bh BA Z Z a0.isSl Z sD Ac (Fk (v:=v1) (w:=w2.drew) ID Z Z (Dt _) a0 sD Ac fun w4 F4 a2 ag ac ad=>?_)
  replace a2:=a2.of_drew
  have ae:Az w w4:=a2.below a1 (fun c hc=>Aa (A9 _) (ac c hc).1) a1.size
  have af:=a2.size
  refine Ah (Ad _ [0,0] Z (AI ((k+1:Nat):Int) Z Z (B8 oM sD) Ac (Ae 1 Z ?_)))
  exact⟨(k+1),_,rfl,⟨rfl,rfl,rfl,rfl,rfl,trivial⟩,⟨ae,(by unfold DU;rw[DD sM oM];exact ad.up o1),sD⟩,by first|omega|(dsimp only;omega)⟩
 ·exact Ax false Z Z (A8 a9) Ac (Ah (A0 (Aj Z (A6 (As (As (An (A0 (Ad _ [0,0] Z (Ae 2 Z (A3 (Ag [4] Z v1 Z ⟨v1,rfl,a1,(by have h:=a0.up o1;rwa [CL sM (by simp;omega)]at h)⟩))))))))))))
theorem Eu (w:World)(va:Value)(a:List Int)(vb:Value)(b:List Int)(ha:Rd (B3 rI) w.heap va a)(hb:Rd (B3 rI) w.heap vb b)(hla:a.length≤1000000000000)(hlb:b.length≤1000000000000)(hl:a.length≤b.length)(hqa:B7 a=true)(hqb:B7 b=true) :
  Calls Tryz.prog 132 #[va,vb] w (fun e w'=>∃v0:Value,e=.returned (v0)∧Az w w'∧Fr (AS rI 2) w.heap.size w'.heap.size w'.heap v0 (Dg a b)):=by
 refine At [va,vb] 9 Tryz.func132 Z Z sM ?_
 have a7:Az w w:=Az.refl w
 have hl_va:=ha.lenle
 have hl_vb:=hb.lenle
 refine A0 (Ad _ [0] Z (Ae 1 Z (A0 (Ad _ [0,0,3,3,0] Z (Af 2 Z (Ap 103 [] [] [vb,(.int .i64 ((1000002:Nat):Int))] Z Z O2 Ac (De _ _ _ _ (hb.ext g1 a7) oM (by exact hlb) (by exact hqb) oM) ?_))))))
 rintro e1 w1 ⟨a3,rfl,a4,a0⟩
 refine⟨_,rfl,a4,?_⟩
 have a8:=a4.size
 have a5:=a7.trans a4
 refine Ap 102 [] [] [va,a3] Z Z Qa Ac (Et _ _ _ _ _ (ha.ext g1 a5) a0.rd1 (by exact hla) (by simp;omega) (by exact hqa) (by exact Em _ _)) ?_
 rintro e2 w2 ⟨a1,rfl,a6,a2⟩
 refine⟨_,rfl,a6,?_⟩
 have a9:=a6.size
 have aa:=a5.trans a6
 exact Ae 1 Z (A3 (Ag [4] Z a1 Z ⟨a1,rfl,aa,(by rw[← Ux hl];exact(a2.up o1).low a5.size)⟩))
theorem Dy (w:World)(va:Value)(a:List Int)(vb:Value)(b:List Int)(ha:Rd (B3 rI) w.heap va a)(hb:Rd (B3 rI) w.heap vb b)(hla:a.length≤1000000000000)(hl:a.length≤b.length)(hqa:B7 a=true)(hqb:B7 b=true) :
  Calls Tryz.prog 151 #[va,vb] w (fun e w'=>∃v0:Value,e=.returned (v0)∧Az w w'∧Fr (AS rI 2) w.heap.size w'.heap.size w'.heap v0 (C7 a b)):=by
 refine At [va,vb] 43 Tryz.func151 Z Z sM ?_
 have a8:Az w w:=Az.refl w
 have hl_va:=ha.lenle
 have hl_vb:=hb.lenle
 refine A0 (Ad _ [0] Z (Ae 1 Z (A0 (Ad _ [0,0,3,0] Z (Af 1 Z (AJ (v:=va) Bh Z ha.isSl Ac (EF (n:=a.length) Bh BA Z Z Z sD Ac fun v1 w1 a5 af a9=>?_)))))))
 have a6:=a5.size
 have aa:=a8.trans a5
 refine Ae 1 Z (A0 (A0 (Ad _ [0,0,0] Z (Af 1 Z (AJ (v:=va) Bh Z ha.isSl Ac (Ae 1 Z (A5 ?_)))))))
 refine AN (S:=Nat) (fun k=>([(13,(.int .i64 ((k:Nat):Int))),(0,va),(1,vb),(5,v1),(12,(.int .i64 ((a.length:Nat):Int)))])) (fun k W=>Az w W∧Fr (AS rI 2) w.heap.size W.heap.size W.heap v1 (Cn k (C7 a b) (List.replicate a.length 0))∧k≤a.length) (fun k=>a.length-k) 0 ⟨rfl,rfl,rfl,rfl,rfl,trivial⟩ ⟨aa,(by rw[C9];exact a9.up o1),sD⟩ ?_
 clear a8 a9 af a5 a6 aa
 rintro k ρ2 w2 ⟨a3,a1,ab⟩
 have a7:w.heap.size≤w2.heap.size:=a3.size
 have hml:=D4 k (C7 a b) (List.replicate a.length 0) sM
 rw[List.length_replicate]at hml
 have hga:=Ba hqa k
 refine A0 (Ad _ [0] Z ?_)
 by_cases ac:((k:Nat):Int)<((a.length:Nat):Int)
 ·refine Ax true Z Z (A7 ac) Ac (Ah (A0 (Ai Z (A4 (A0 (A5 (A0 (Ad _ [0,0] Z (Ae 2 Z (A0 (Ad _ [0] Z (Ae 1 Z (A5 ?_)))))))))))))
  refine AN (S:=Nat) (fun i=>([(7,(.int .i64 ((i:Nat):Int))),(0,va),(1,vb),(5,v1),(6,(.int .i64 ((k:Nat):Int))),(12,(.int .i64 ((a.length:Nat):Int))),(13,(.int .i64 ((k:Nat):Int)))])) (fun i W=>Az w W∧Fr (AS rI 2) w.heap.size W.heap.size W.heap v1 ((Cn k (C7 a b) (List.replicate a.length 0)).set k (N9 a b k i))∧i≤k+1) (fun i=>k+1-i) 0 ⟨rfl,rfl,rfl,rfl,rfl,rfl,rfl,trivial⟩ ⟨a3,(by have h:=a1.up o1;rw[← Uz (T:=C7 a b) sM oM]at h;exact h),sD⟩ ?_
  clear a1 a3 a7
  rintro i ρ4 w4 ⟨a2,a0,ad⟩
  have ag:w.heap.size≤w4.heap.size:=a2.size
  have hms:((Cn k (C7 a b) (List.replicate a.length 0)).set k (N9 a b k i)).length=a.length:=by rw[List.length_set];exact hml
  refine A0 (A0 (Ad _ [0,0,0] Z (Af 2 Z ?_)))
  by_cases ae:((i:Nat):Int)≤((k:Nat):Int)
  ·refine Ei true Z Z (A7 ae) Ac (Ah (Ai Z (A4 (A0 (A5 (AY _ [0,0,0,0,0,1,0,0,0,1,0,0,0,0,0,1,0,0,0,0,4] mixed (by kernel_rfl) (Af 4 Z (Au (v:=v1) k Bh BA Z Z a0.isSl Z sD Ac ?_))))))))
   refine Ak (p:=Aw v1 k 1) (.inl Z) (.int .i64 (((Cn k (C7 a b) (List.replicate a.length 0)).set k (N9 a b k i)).getD k 0)) AH Z (a0.rd1.getI sD).1 Ac (Af 2 Z ?_)
   refine Au (v:=va) i Bh BA Z Z ha.isSl Z sD Ac ?_
   refine Ak (p:=Aw va i 1) (.inl Z) (.int .i64 (a.getD i 0)) AH Z (AP a2.drew (ha.getI sD).1) Ac (Af 3 Z (Cy ((k-i:Nat):Int) Z Z (B8 oM oM) Ac ?_))
   refine Au (v:=vb) (k-i) Bh BA Z Z hb.isSl Z sD Ac ?_
   refine Ak (p:=Aw vb (k-i) 1) (.inl Z) (.int .i64 (b.getD (k-i) 0)) AH Z (AP a2.drew (hb.getI sD).1) Ac (IM (wr ((a.getD i 0)*(b.getD (k-i) 0))) Z Z Z Ac (AI (wr ((((Cn k (C7 a b) (List.replicate a.length 0)).set k (N9 a b k i)).getD k 0)+(wr ((a.getD i 0)*(b.getD (k-i) 0))))) Z Z Z Ac ?_))
   refine EA (md (N9 a b k i+a.getD i 0*b.getD (k-i) 0)) Z Z (by decide) (by rw[Bz _ _ _ _ _ oM,if_pos rfl];exact bX (RK _ _ _ _) (Ba hqa _) (Ba hqb _)) Ac (Au (v:=v1) k Bh BA Z Z a0.isSl Z sD Ac ?_)
   refine Fk (v:=v1) (w:=w4.drew) ID Z Z (Dt _) a0 sD Ac fun w6 F6 a4 al ah ai=>?_
   replace a4:=a4.of_drew
   have aj:Az w w6:=a4.below a2 (fun c hc=>Aa (A9 _) (ah c hc).1) a2.size
   have ak:=a4.size
   refine Ah (Ad _ [0,0,0] Z (Af 1 Z (AI ((i+1:Nat):Int) Z Z (B8 oM sD) Ac (Ae 1 Z ?_))))
   exact⟨(i+1),_,rfl,⟨rfl,rfl,rfl,rfl,rfl,rfl,rfl,trivial⟩,⟨aj,(by have h:=ai.up o1;rw[List.set_set]at h;exact h),sD⟩,by first|omega|(dsimp only;omega)⟩
  ·refine Ei false Z Z (A8 ae) Ac (Ah (Aj Z (A6 (As (As (An (Ad _ [0,0] Z (AI ((k+1:Nat):Int) Z Z (B8 oM sD) Ac (Ae 1 Z ?_)))))))))
   exact⟨(k+1),_,rfl,⟨rfl,rfl,rfl,rfl,rfl,trivial⟩,⟨a2,(by have h:=a0.up o1;rw[show i=k+1 from by omega]at h;unfold C7;rw[DD sM oM];exact h),sD⟩,by first|omega|(dsimp only;omega)⟩
 ·exact Ax false Z Z (A8 ac) Ac (Ah (A0 (Aj Z (A6 (As (As (An (A0 (Ad _ [0,0] Z (Ae 2 Z (A3 (Ag [4] Z v1 Z ⟨v1,rfl,a3,(by have h:=a1.up o1;rwa [CL sM (by simp;omega)]at h)⟩))))))))))))
theorem Fx (w:World)(va:Value)(a:List Int)(vb:Value)(b:List Int)(ha:Rd (B3 rI) w.heap va a)(hb:Rd (B3 rI) w.heap vb b)(hla:a.length≤1000000000000)(hl:a.length≤b.length)(h1:0<b.length)(hqa:B7 a=true)(hqb:B7 b=true) :
  Calls Tryz.prog 185 #[va,vb] w (fun e w'=>∃v0:Value,e=.returned (v0)∧Az w w'∧Fr (AS rI 2) w.heap.size w'.heap.size w'.heap v0 (BR a b)):=by
 refine At [va,vb] 53 Tryz.func185 Z Z sM ?_
 have a5:Az w w:=Az.refl w
 have hl_va:=ha.lenle
 have hl_vb:=hb.lenle
 refine A0 (Ad _ [0] Z (Ae 1 Z (A0 (AY _ [0,0,3,0,0,1,0,0,0] mixed (by kernel_rfl) (Af 1 Z (AJ (v:=va) Bh Z ha.isSl Ac (EF (n:=a.length) Bh BA Z Z Z sD Ac fun v1 w1 a2 ae a7=>?_)))))))
 replace a2:=a2.of_drew
 have a6:=a2.size
 have a8:=a5.trans a2
 refine Af 1 Z (Au (v:=vb) 0 Bh BA Z Z hb.isSl Z sD Ac ?_)
 refine Ak (p:=Aw vb 0 1) (.inl Z) (.int .i64 (b.getD 0 0)) AH Z (AP a5.drew (hb.getI sD).1) Ac ?_
 refine AD 104 [] [] [(.int .i64 (b.getD 0 0))] Z Z ZX Ac (.int .i64 (inv (b.getD 0 0))) (fun wq=>I6 wq _ (hb.getI sD).2) (Ae 2 Z (A0 (A0 (Ad _ [0,0,0] Z (Af 1 Z (AJ (v:=va) Bh Z ha.isSl Ac (Ae 1 Z (A5 ?_))))))))
 refine AN (S:=Nat) (fun k=>([(19,(.int .i64 ((k:Nat):Int))),(0,va),(1,vb),(5,v1),(6,(.int .i64 (inv (b.getD 0 0)))),(18,(.int .i64 ((a.length:Nat):Int)))])) (fun k W=>Az w W∧Fr (AS rI 2) w.heap.size W.heap.size W.heap v1 (Cn k (BR a b) (List.replicate a.length 0))∧k≤a.length) (fun k=>a.length-k) 0 ⟨rfl,rfl,rfl,rfl,rfl,rfl,trivial⟩ ⟨a8,(by rw[C9];exact a7.up o1),sD⟩ ?_
 clear a5 a7 ae a2 a6 a8
 rintro k ρ3 w3 ⟨a4,a1,a9⟩
 have af:w.heap.size≤w3.heap.size:=a4.size
 have hml:=D4 k (BR a b) (List.replicate a.length 0) sM
 rw[List.length_replicate]at hml
 have hga:=Ba hqa k
 refine A0 (Ad _ [0] Z ?_)
 by_cases aa:((k:Nat):Int)<((a.length:Nat):Int)
 ·refine Ax true Z Z (A7 aa) Ac (Ah (A0 (Ai Z (A4 (A0 (A5 (A0 (Ad _ [0,0] Z (Ae 2 Z (A0 (Ad _ [0,0,0,2,0] Z (Af 2 Z (Au (v:=va) k Bh BA Z Z ha.isSl Z sD Ac ?_)))))))))))))
  refine Ak (p:=Aw va k 1) (.inr Z) (.int .i64 (a.getD k 0)) AH Z (AP a4 (ha.getI sD).1) Ac (Ae 1 Z (A0 (A0 (Ad _ [0] Z (Ae 1 Z (A5 ?_))))))
  refine AN (S:=Nat×Int) (fun⟨i,t⟩=>([(8,(.int .i64 t)),(9,(.int .i64 ((i:Nat):Int))),(0,va),(1,vb),(5,v1),(6,(.int .i64 (inv (b.getD 0 0)))),(7,(.int .i64 ((k:Nat):Int))),(18,(.int .i64 ((a.length:Nat):Int))),(19,(.int .i64 ((k:Nat):Int)))])) (fun⟨i,t⟩ W=>Az w W∧Fr (AS rI 2) w.heap.size w3.heap.size W.heap v1 (Cn k (BR a b) (List.replicate a.length 0))∧i≤k∧t=Of a b (BR a b) k i∧(0≤t∧t<1000003)) (fun⟨i,t⟩=>k-i) (0,(a.getD k 0)) ⟨rfl,rfl,rfl,rfl,rfl,rfl,rfl,rfl,rfl,trivial⟩ ⟨a4,a1,sD,(by rfl),(by exact Ba hqa k)⟩ ?_
  clear a1
  rintro⟨i,t⟩ ρ5 w5 ⟨a3,a0,ab,ht,htr⟩
  have ag:w.heap.size≤w5.heap.size:=a3.size
  refine A0 (A0 (Ad _ [0,0,0] Z (Af 2 Z ?_)))
  by_cases ac:((i:Nat):Int)<((k:Nat):Int)
  ·refine Ax true Z Z (A7 ac) Ac (Ah (Ai Z (A4 (A0 (A5 (AY _ [0,0,0,0,1,0,0,0,0,0,1,0,0,0] mixed (by kernel_rfl) (Af 3 Z (Au (v:=v1) i Bh BA Z Z a0.isSl Z sD Ac ?_))))))))
   refine Ak (p:=Aw v1 i 1) (.inl Z) (.int .i64 ((Cn k (BR a b) (List.replicate a.length 0)).getD i 0)) AH Z (a0.rd1.getI sD).1 Ac (Af 3 Z (Cy ((k-i:Nat):Int) Z Z (B8 oM oM) Ac ?_))
   refine Au (v:=vb) (k-i) Bh BA Z Z hb.isSl Z sD Ac ?_
   refine Ak (p:=Aw vb (k-i) 1) (.inl Z) (.int .i64 (b.getD (k-i) 0)) AH Z (AP a3.drew (hb.getI sD).1) Ac (IM (wr (((Cn k (BR a b) (List.replicate a.length 0)).getD i 0)*(b.getD (k-i) 0))) Z Z Z Ac ?_)
   refine AD 78 [] [] [(.int .i64 t),(.int .i64 (wr (((Cn k (BR a b) (List.replicate a.length 0)).getD i 0)*(b.getD (k-i) 0))))] Z Z eF Ac (.int .i64 (md (t-(wr (((Cn k (BR a b) (List.replicate a.length 0)).getD i 0)*(b.getD (k-i) 0)))))) (fun wq=>Hy wq _ _ oM (O6 _)) (Ae 1 Z (Ad _ [0,0,0] Z (Af 1 Z (AI ((i+1:Nat):Int) Z Z (B8 oM sD) Ac (Ae 1 Z ?_)))))
   exact⟨((i+1),(md (t-(wr (((Cn k (BR a b) (List.replicate a.length 0)).getD i 0)*(b.getD (k-i) 0)))))),_,rfl,⟨rfl,rfl,rfl,rfl,rfl,rfl,rfl,rfl,rfl,trivial⟩,⟨a3.drew,a0,sD,(by rw[ht,Qv 0 oM (by simp;omega)];exact UA (El a b) hqb),(by exact BK _)⟩,by first|omega|(dsimp only;omega)⟩
  ·refine Ax false Z Z (A8 ac) Ac (Ah (Aj Z (A6 (As (As (An (Ad _ [0,0,0,0,0,0,0,4] Z (Af 4 Z (IM (wr (t*(inv (b.getD 0 0)))) Z Z Z Ac (EA (md (t*inv (b.getD 0 0))) Z Z (by decide) (Ps htr (XZ _)) Ac (Au (v:=v1) k Bh BA Z Z a0.isSl Z sD Ac ?_)))))))))))
   refine Fk (v:=v1) (w:=w5) ID Z Z (Dt _) a0 sD Ac fun w8 F8 ad al ah ai=>?_
   have aj:Az w w8:=ad.below a3 (fun c hc=>Aa (A9 _) (ah c hc).1) a3.size
   have ak:=ad.size
   refine Ah (Ad _ [0,0] Z (AI ((k+1:Nat):Int) Z Z (B8 oM sD) Ac (Ae 1 Z ?_)))
   exact⟨(k+1),_,rfl,⟨rfl,rfl,rfl,rfl,rfl,rfl,trivial⟩,⟨aj,(by have h:=ai.up o1;rw[ht,show i=k from by omega]at h;rw[← Y2 oM sM];exact h),sD⟩,by first|omega|(dsimp only;omega)⟩
 ·exact Ax false Z Z (A8 aa) Ac (Ah (A0 (Aj Z (A6 (As (As (An (A0 (Ad _ [0,0] Z (Ae 2 Z (A3 (Ag [4] Z v1 Z ⟨v1,rfl,a4,(by have h:=a1.up o1;rwa [CL sM (by simp;omega)]at h)⟩))))))))))))
theorem MB (w:World)(va:Value)(a:List Int)(ha:Rd (B3 rI) w.heap va a)(hla:a.length≤1000000000000) :
  Calls Tryz.prog 98 #[va] w (fun e w'=>∃v0:Value,e=.returned (v0)∧Az w w'∧Fr (AS (AS rI 2) 27) w.heap.size w'.heap.size w'.heap v0 (Cq a)):=by
 refine At [va] 20 Tryz.func98 Z Z sM ?_
 have a9:Az w w:=Az.refl w
 have hl_va:=ha.lenle
 refine A0 (Ad _ [0] Z (Ae 1 Z (A0 (Ad _ [3,0] Z (BI (AS rI 2) o1 Bi AX Ac fun v1 w1 a4 af aa=>?_)))))
 have a5:=a4.size
 have ab:=a9.trans a4
 refine Ae 1 Z (A0 (A0 (Ad _ [0,0,0] Z (Af 1 Z (AJ (v:=va) Bh Z ha.isSl Ac (Ae 1 Z (A5 ?_)))))))
 refine AN (S:=Nat×Value) (fun⟨k,vo⟩=>([(3,vo),(9,(.int .i64 ((k:Nat):Int))),(7,va),(8,(.int .i64 ((a.length:Nat):Int)))])) (fun⟨k,vo⟩ W=>Az w W∧Fr (AS (AS rI 2) 27) w.heap.size W.heap.size W.heap vo ((a.take k).map (fun x=>[x]))∧k≤a.length) (fun⟨k,vo⟩=>a.length-k) (0,v1) ⟨rfl,rfl,rfl,rfl,trivial⟩ ⟨ab,aa.up o2,sD⟩ ?_
 clear a9 aa af a4 a5 ab
 rintro⟨k,vo⟩ ρ2 w2 ⟨a3,a2,ac⟩
 have ag:w.heap.size≤w2.heap.size:=a3.size
 refine A0 (Ad _ [0] Z ?_)
 by_cases ad:((k:Nat):Int)<((a.length:Nat):Int)
 ·refine Ax true Z Z (A7 ad) Ac (Ah (A0 (Ai Z (A4 (A0 (A5 (A0 (Ad _ [0,2,0] Z (Au (v:=va) k Bh BA Z Z ha.isSl Z sD Ac ?_)))))))))
  refine Ak (p:=Aw va k 1) (.inr Z) (.int .i64 (a.getD k 0)) AH Z (AP a3 (ha.getI sD).1) Ac (Ae 1 Z (Ad _ [0,0,3,3,4,0] Z (Af 2 Z ?_)))
  refine Bq (u:=(.int .i64 (a.getD k 0))) (B:=w2.heap.size) AQ Bh BA Z Z (N6 w2.heap.size w2.heap.size _ _ (ha.getI sD).2) (A9 _) Ac fun v4 w4 a6 aq ah=>?_
  have ai:=a6.size
  have aj:=a3.trans a6
  have a0:=a2.ext (o2) a6
  refine Bq (u:=v4) (B:=w2.heap.size) o1 Bi AX Z Z ah (by first|exact A9 _|omega) Ac fun v5 w5 a7 ar ak=>?_
  have al:=a7.size
  have a8:=aj.trans a7
  have a1:=a0.ext (o2) a7
  refine Ej o1 (v:=vo) (a:=v5) Bi AX Z Z Z a1 a8.size ak oM a3.size sD (by unfold maxLen;first|omega|assumption|(simp;done)|(simp;omega)) Ac fun v6 w6 F6 ae am an=>?_
  have ao:Az w w6:=ae.below a8 (fun c hc=>Aa (A9 _) (am c hc).1) a8.size
  have ap:=ae.size
  refine Ae 1 Z (Ad _ [0,0] Z (AI ((k+1:Nat):Int) Z Z (B8 oM sD) Ac (Ae 1 Z ?_)))
  exact⟨((k+1),v6),_,rfl,⟨rfl,rfl,rfl,rfl,trivial⟩,⟨ao,(by rw[Du 0 oM];exact an.up o2),sD⟩,by first|omega|(dsimp only;omega)⟩
 ·exact Ax false Z Z (A8 ad) Ac (Ah (A0 (Aj Z (A6 (As (As (An (A0 (Ad _ [0,0] Z (Ae 2 Z (A3 (Ag [2] Z vo Z ⟨vo,rfl,a3,(by have h:=a2.up o2;rwa [List.take_of_length_le oM]at h)⟩))))))))))))
theorem GH (w:World)(va:Value)(a:List (List Int))(ha:Rd (B3 (B3 rI)) w.heap va a)(hla:a.length≤1000000000000)(h1:∀k,k<a.length→0<(a.getD k []).length) :
  Calls Tryz.prog 99 #[va] w (fun e w'=>∃v0:Value,e=.returned (v0)∧Az w w'∧Fr (AS rI 2) w.heap.size w'.heap.size w'.heap v0 (a.map (fun s=>s.getD 0 0))):=by
 refine At [va] 21 Tryz.func99 Z Z sM ?_
 have aa:Az w w:=Az.refl w
 have hl_va:=ha.lenle
 refine A0 (Ad _ [0] Z (Ae 1 Z (A0 (Ad _ [3,0] Z (BI (rI) AQ Bh BA Ac fun v1 w1 a4 ah ab=>?_)))))
 have a5:=a4.size
 have ac:=aa.trans a4
 refine Ae 1 Z (A0 (A0 (Ad _ [0,0,0] Z (Af 1 Z (AJ (v:=va) Bi Z ha.isSl Ac (Ae 1 Z (A5 ?_)))))))
 refine AN (S:=Nat×Value) (fun⟨k,vo⟩=>([(3,vo),(9,(.int .i64 ((k:Nat):Int))),(7,va),(8,(.int .i64 ((a.length:Nat):Int)))])) (fun⟨k,vo⟩ W=>Az w W∧Fr (AS rI 2) w.heap.size W.heap.size W.heap vo ((a.take k).map (fun s=>s.getD 0 0))∧k≤a.length) (fun⟨k,vo⟩=>a.length-k) (0,v1) ⟨rfl,rfl,rfl,rfl,trivial⟩ ⟨ac,ab.up o1,sD⟩ ?_
 clear aa ab ah a4 a5 ac
 rintro⟨k,vo⟩ ρ2 w2 ⟨a2,a1,ad⟩
 have ai:w.heap.size≤w2.heap.size:=a2.size
 refine A0 (Ad _ [0] Z ?_)
 by_cases ae:((k:Nat):Int)<((a.length:Nat):Int)
 ·refine Ax true Z Z (A7 ae) Ac (Ah (A0 (Ai Z (A4 (A0 (A5 (A0 (Ad _ [0,2,0] Z (Au (v:=va) k Bi AX Z Z ha.isSl Z sD Ac ?_)))))))))
  obtain⟨a6,aj,a3⟩:=ha.get (k:=k) [] sD
  have ak:=a3.lenle
  refine Ak (p:=Aw va k 1) (.inr Z) a6 B6 Z (AP a2 aj) Ac (Ae 1 Z (Ad _ [0,0,0,2,3,4,0] Z ?_))
  have ap:=h1 k oM
  refine Af 2 Z (Au (v:=a6) 0 Bh BA Z Z a3.isSl Z sD Ac ?_)
  refine Ak (p:=Aw a6 0 1) (.inr Z) (.int .i64 ((a.getD k []).getD 0 0)) AH Z (AP a2 (a3.getI sD).1) Ac ?_
  refine Bq (u:=(.int .i64 ((a.getD k []).getD 0 0))) (B:=w2.heap.size) AQ Bh BA Z Z (N6 w2.heap.size w2.heap.size _ _ (a3.getI sD).2) (A9 _) Ac fun v5 w5 a7 aq af=>?_
  have al:=a7.size
  have a8:=a2.trans a7
  have a0:=a1.ext (o1) a7
  refine GA (v:=vo) (a:=v5) Bh BA Z Z Z a0 a8.size af.rd1 sD (by unfold maxLen;first|omega|assumption|(simp;done)|(simp;omega)) Ac fun v6 w6 F6 a9 ag am=>?_
  have an:Az w w6:=a9.below a8 (fun c hc=>Aa (A9 _) (ag c hc).1) a8.size
  have ao:=a9.size
  have ar:=af.chg (o1) a9 (fun c hc=>by have:=ag c hc;omega)
  refine Ae 1 Z (Ad _ [0,0] Z (AI ((k+1:Nat):Int) Z Z (B8 oM sD) Ac (Ae 1 Z ?_)))
  exact⟨((k+1),v6),_,rfl,⟨rfl,rfl,rfl,rfl,trivial⟩,⟨an,(by rw[Du [] oM];exact am.up o1),sD⟩,by first|omega|(dsimp only;omega)⟩
 ·exact Ax false Z Z (A8 ae) Ac (Ah (A0 (Aj Z (A6 (As (As (An (A0 (Ad _ [0,0] Z (Ae 2 Z (A3 (Ag [2] Z vo Z ⟨vo,rfl,a2,(by have h:=a1.up o1;rwa [List.take_of_length_le oM]at h)⟩))))))))))))
end
section
set_option maxHeartbeats 4000000
set_option maxRecDepth 100000
attribute [local irreducible] LW
theorem HM (w:World)(dex:Nat)(ve:Value)(ex:Ex)(hex:RX [] dex w.heap ve ex)(hs:ex.size≤1000000000) :
  Calls Tryz.prog 198 #[(.agg #[(.int .i64 ex.kind),(.int .i64 ex.num),(.int .i64 ex.pick),(.int .i64 ex.count),ve])] w (fun e w'=>e=.returned (.int .i64 ((ex.size:Nat):Int))∧Az w w'):=by
 induction dex using Nat.strongRecOn generalizing w ve ex
 rename_i dex ih
 refine At [(.agg #[(.int .i64 ex.kind),(.int .i64 ex.num),(.int .i64 ex.pick),(.int .i64 ex.count),ve])] 19 Tryz.func198 Z Z sM ?_
 have ab:Az w w:=Az.refl w
 have hl_ve:=hex.rn.lenle
 unfold maxLen at hl_ve
 have hsk:=Cb ex
 refine A0 (Ad _ [3,0] Z (Bx (cs:=#[(.int .i64 ex.kind),(.int .i64 ex.num),(.int .i64 ex.pick),(.int .i64 ex.count),ve]) Z Ac fun w1 a2 aj a3=>?_))
 have a4:=a2.size
 have ac:=ab.trans a2
 replace a3:BX w1.heap w.heap.size [(.int .i64 ex.kind),(.int .i64 ex.num),(.int .i64 ex.pick),(.int .i64 ex.count),ve]:=a3
 refine Ae 1 Z (A0 (Ad _ [0] Z (Ae 1 Z (A0 (A0 (Ad _ [0,2,0,0] Z (Ao (p:=(.pointer (some ⟨w.heap.size,0,none⟩))) (b:=w.heap.size) (o:=0) 4 Bo Z Z Ac (Ak (p:=(Ay (.pointer (some ⟨w.heap.size,0,none⟩)) 4)) (.inr Z) ve Bp Z (a3.ldp (i:=4) sM) Ac (AJ (v:=ve) DK Z hex.rn.isSl Ac (Ae 1 Z (A5 ?_)))))))))))
 refine AN (S:=Nat×Nat) (fun⟨k,sz⟩=>([(3,(.int .i64 ((sz:Nat):Int))),(9,(.int .i64 ((k:Nat):Int))),(7,ve),(8,(.int .i64 ((ex.kids.length:Nat):Int)))])) (fun⟨k,sz⟩ W=>Az w W∧k≤ex.kids.length∧sz=1+Ex.sizes (ex.kids.take k)) (fun⟨k,sz⟩=>ex.kids.length-k) (0,1) ⟨rfl,rfl,rfl,rfl,trivial⟩ ⟨ac,sD,(by rw[List.take_zero,Ih])⟩ ?_
 clear ab aj a2 a4 ac
 rintro⟨k,sz⟩ ρ2 w2 ⟨a1,ad,hsz⟩
 have ak:w.heap.size≤w2.heap.size:=a1.size
 refine A0 (Ad _ [0] Z ?_)
 by_cases ae:((k:Nat):Int)<((ex.kids.length:Nat):Int)
 ·refine Ax true Z Z (A7 ae) Ac (Ah (A0 (Ai Z (A4 (A0 (A5 (A0 (Ad _ [0,2,3,4] Z ?_))))))))
  have hst:=D3 (l:=ex.kids) (k:=k) oM
  have hle:=CO ex.kids (k+1)
  have hdt:=Hj (l:=ex.kids) (k:=k) oM
  have hda:=EH (ex.kids.getD k Ex.zero)
  refine Au (v:=ve) k DK BB Z Z hex.rn.isSl Z sD Ac ?_
  obtain⟨cs4,al,am⟩:=hex.rn.get (AC dex) Ex.zero (k:=k) sD
  obtain⟨dd4,a0,ar,rfl,a5⟩:=RX.of al
  have a6:=a5.rn.lenle
  unfold maxLen at a6
  refine AR (p:=Aw ve k 5) (.inr Z) [(.int .i64 ((ex.kids.getD k Ex.zero).kind)),(.int .i64 ((ex.kids.getD k Ex.zero).num)),(.int .i64 ((ex.kids.getD k Ex.zero).pick)),(.int .i64 ((ex.kids.getD k Ex.zero).count)),a0] BS Z (fun wq9 a7=>am wq9 (AE.of_ext [] (a1.trans a7))) Z Ac (BJ (z:=.agg #[.int .i64 0,.int .i64 0,.int .i64 0,.int .i64 0,.slice none 0 0]) Mz Ac fun w5 af au a8=>?_)
  have an:=af.size
  have ag:=a1.trans af
  replace a8:BX w5.heap w2.heap.size [(.int .i64 0),(.int .i64 0),(.int .i64 0),(.int .i64 0),(.slice none 0 0)]:=a8
  refine CT (vs:=[(.int .i64 ((ex.kids.getD k Ex.zero).kind)),(.int .i64 ((ex.kids.getD k Ex.zero).num)),(.int .i64 ((ex.kids.getD k Ex.zero).pick)),(.int .i64 ((ex.kids.getD k Ex.zero).count)),a0]) BS Z Z a5.ones a8 Z Z Ac fun w6 ah av a9=>?_
  replace a9:BX w6.heap w2.heap.size [(.int .i64 ((ex.kids.getD k Ex.zero).kind)),(.int .i64 ((ex.kids.getD k Ex.zero).num)),(.int .i64 ((ex.kids.getD k Ex.zero).pick)),(.int .i64 ((ex.kids.getD k Ex.zero).count)),a0]:=a9
  have ai:Az w w6:=ah.below ag (fun c hc=>by have:=Ab hc;omega) ag.size
  have ao:=ah.size
  refine Ah (Ad _ [0,2,3,0,0] Z (Af 1 Z (AR (p:=(.pointer (some ⟨w2.heap.size,0,none⟩))) (.inr Z) [(.int .i64 ((ex.kids.getD k Ex.zero).kind)),(.int .i64 ((ex.kids.getD k Ex.zero).num)),(.int .i64 ((ex.kids.getD k Ex.zero).pick)),(.int .i64 ((ex.kids.getD k Ex.zero).count)),a0] BS Z (fun wq9 a7=>LD.of_box (BX.ext (w:=w6) a9 a7)) Z Ac (Ap 198 [] [] [(.agg #[(.int .i64 ((ex.kids.getD k Ex.zero).kind)),(.int .i64 ((ex.kids.getD k Ex.zero).num)),(.int .i64 ((ex.kids.getD k Ex.zero).pick)),(.int .i64 ((ex.kids.getD k Ex.zero).count)),a0])] Z Z Xd Ac (ih dd4 oM _ a0 (ex.kids.getD k Ex.zero) (a5.ext ai) oM) ?_))))
  rintro e7 w7 ⟨rfl,aa⟩
  refine⟨_,rfl,aa,?_⟩
  have ap:=aa.size
  have aq:=ai.trans aa
  refine AI ((sz+(ex.kids.getD k Ex.zero).size:Nat):Int) Z Z (B8 oM oM) Ac (Ae 1 Z (Ad _ [0,0] Z (AI ((k+1:Nat):Int) Z Z (B8 oM sD) Ac (Ae 1 Z ?_))))
  exact⟨((k+1),(sz+(ex.kids.getD k Ex.zero).size)),_,rfl,⟨rfl,rfl,rfl,rfl,trivial⟩,⟨aq,sD,oM⟩,by first|omega|(dsimp only;omega)⟩
 ·exact Ax false Z Z (A8 ae) Ac (Ah (A0 (Aj Z (A6 (As (As (An (A0 (Ad _ [0,0] Z (Ae 2 Z (A3 (Ag [2] Z (.int .i64 ((sz:Nat):Int)) Z ⟨(AV (by rw[hsz,Ki oM,hsk])),a1⟩))))))))))))
theorem KE (w:World)(dex:Nat)(ve:Value)(ex:Ex)(hex:RX [] dex w.heap ve ex)(hs:ex.size≤1000000000) :
  Calls Tryz.prog 230 #[(.agg #[(.int .i64 ex.kind),(.int .i64 ex.num),(.int .i64 ex.pick),(.int .i64 ex.count),ve])] w (fun e w'=>e=.returned (.int .i64 ((ex.deep:Nat):Int))∧Az w w'):=by
 induction dex using Nat.strongRecOn generalizing w ve ex
 rename_i dex ih
 refine At [(.agg #[(.int .i64 ex.kind),(.int .i64 ex.num),(.int .i64 ex.pick),(.int .i64 ex.count),ve])] 20 Tryz.func230 Z Z sM ?_
 have ab:Az w w:=Az.refl w
 have hl_ve:=hex.rn.lenle
 unfold maxLen at hl_ve
 have hsk:=Cb ex
 have hdk:=EG ex
 refine A0 (Ad _ [3,0] Z (Bx (cs:=#[(.int .i64 ex.kind),(.int .i64 ex.num),(.int .i64 ex.pick),(.int .i64 ex.count),ve]) Z Ac fun w1 a2 aj a3=>?_))
 have a4:=a2.size
 have ac:=ab.trans a2
 replace a3:BX w1.heap w.heap.size [(.int .i64 ex.kind),(.int .i64 ex.num),(.int .i64 ex.pick),(.int .i64 ex.count),ve]:=a3
 refine Ae 1 Z (A0 (Ad _ [0] Z (Ae 1 Z (A0 (A0 (Ad _ [0,2,0,0] Z (Ao (p:=(.pointer (some ⟨w.heap.size,0,none⟩))) (b:=w.heap.size) (o:=0) 4 Bo Z Z Ac (Ak (p:=(Ay (.pointer (some ⟨w.heap.size,0,none⟩)) 4)) (.inr Z) ve Bp Z (a3.ldp (i:=4) sM) Ac (AJ (v:=ve) DK Z hex.rn.isSl Ac (Ae 1 Z (A5 ?_)))))))))))
 refine AN (S:=Nat×Nat) (fun⟨k,sz⟩=>([(3,(.int .i64 ((sz:Nat):Int))),(9,(.int .i64 ((k:Nat):Int))),(7,ve),(8,(.int .i64 ((ex.kids.length:Nat):Int)))])) (fun⟨k,sz⟩ W=>Az w W∧k≤ex.kids.length∧sz=Ex.deeps (ex.kids.take k)) (fun⟨k,sz⟩=>ex.kids.length-k) (0,0) ⟨rfl,rfl,rfl,rfl,trivial⟩ ⟨ac,sD,(by rw[List.take_zero,NC])⟩ ?_
 clear ab aj a2 a4 ac
 rintro⟨k,sz⟩ ρ2 w2 ⟨a1,ad,hsz⟩
 have ak:w.heap.size≤w2.heap.size:=a1.size
 refine A0 (Ad _ [0] Z ?_)
 by_cases ae:((k:Nat):Int)<((ex.kids.length:Nat):Int)
 ·refine Ax true Z Z (A7 ae) Ac (Ah (A0 (Ai Z (A4 (A0 (A5 (A0 (Ad _ [0,2,3,4] Z ?_))))))))
  have hst:=D3 (l:=ex.kids) (k:=k) oM
  have hle:=CO ex.kids (k+1)
  have hdt:=Hj (l:=ex.kids) (k:=k) oM
  have hda:=EH (ex.kids.getD k Ex.zero)
  refine Au (v:=ve) k DK BB Z Z hex.rn.isSl Z sD Ac ?_
  obtain⟨cs4,al,am⟩:=hex.rn.get (AC dex) Ex.zero (k:=k) sD
  obtain⟨dd4,a0,ar,rfl,a5⟩:=RX.of al
  have a6:=a5.rn.lenle
  unfold maxLen at a6
  refine AR (p:=Aw ve k 5) (.inr Z) [(.int .i64 ((ex.kids.getD k Ex.zero).kind)),(.int .i64 ((ex.kids.getD k Ex.zero).num)),(.int .i64 ((ex.kids.getD k Ex.zero).pick)),(.int .i64 ((ex.kids.getD k Ex.zero).count)),a0] BS Z (fun wq9 a7=>am wq9 (AE.of_ext [] (a1.trans a7))) Z Ac (BJ (z:=.agg #[.int .i64 0,.int .i64 0,.int .i64 0,.int .i64 0,.slice none 0 0]) Mz Ac fun w5 af au a8=>?_)
  have an:=af.size
  have ag:=a1.trans af
  replace a8:BX w5.heap w2.heap.size [(.int .i64 0),(.int .i64 0),(.int .i64 0),(.int .i64 0),(.slice none 0 0)]:=a8
  refine CT (vs:=[(.int .i64 ((ex.kids.getD k Ex.zero).kind)),(.int .i64 ((ex.kids.getD k Ex.zero).num)),(.int .i64 ((ex.kids.getD k Ex.zero).pick)),(.int .i64 ((ex.kids.getD k Ex.zero).count)),a0]) BS Z Z a5.ones a8 Z Z Ac fun w6 ah av a9=>?_
  replace a9:BX w6.heap w2.heap.size [(.int .i64 ((ex.kids.getD k Ex.zero).kind)),(.int .i64 ((ex.kids.getD k Ex.zero).num)),(.int .i64 ((ex.kids.getD k Ex.zero).pick)),(.int .i64 ((ex.kids.getD k Ex.zero).count)),a0]:=a9
  have ai:Az w w6:=ah.below ag (fun c hc=>by have:=Ab hc;omega) ag.size
  have ao:=ah.size
  refine Ah (Ad _ [0,2,3,0,0] Z (Af 1 Z (AR (p:=(.pointer (some ⟨w2.heap.size,0,none⟩))) (.inr Z) [(.int .i64 ((ex.kids.getD k Ex.zero).kind)),(.int .i64 ((ex.kids.getD k Ex.zero).num)),(.int .i64 ((ex.kids.getD k Ex.zero).pick)),(.int .i64 ((ex.kids.getD k Ex.zero).count)),a0] BS Z (fun wq9 a7=>LD.of_box (BX.ext (w:=w6) a9 a7)) Z Ac (Ap 230 [] [] [(.agg #[(.int .i64 ((ex.kids.getD k Ex.zero).kind)),(.int .i64 ((ex.kids.getD k Ex.zero).num)),(.int .i64 ((ex.kids.getD k Ex.zero).pick)),(.int .i64 ((ex.kids.getD k Ex.zero).count)),a0])] Z Z aP Ac (ih dd4 oM _ a0 (ex.kids.getD k Ex.zero) (a5.ext ai) oM) ?_))))
  rintro e7 w7 ⟨rfl,aa⟩
  refine⟨_,rfl,aa,?_⟩
  have ap:=aa.size
  have aq:=ai.trans aa
  refine f8 ((max sz ((ex.kids.getD k Ex.zero).deep):Nat):Int) oM Z Z Ac (Ae 1 Z (Ad _ [0,0] Z (AI ((k+1:Nat):Int) Z Z (B8 oM sD) Ac (Ae 1 Z ?_))))
  exact⟨((k+1),(max sz ((ex.kids.getD k Ex.zero).deep))),_,rfl,⟨rfl,rfl,rfl,rfl,trivial⟩,⟨aq,sD,oM⟩,by first|omega|(dsimp only;omega)⟩
 ·refine Ax false Z Z (A8 ae) Ac (Ah (A0 (Aj Z (A6 (As (As (An (A0 (Ad _ [0,0,0] Z ?_)))))))))
  have h8:=Kj (l:=ex.kids) (k:=k) oM
  have h9:=EH ex
  exact Af 1 Z (AI ((sz+1:Nat):Int) Z Z (B8 oM oM) Ac (Ae 1 Z (A3 (Ag [2] Z (.int .i64 ((sz+1:Nat):Int)) Z ⟨(AV (by rw[hsz,Kj oM,hdk])),a1⟩))))
end
section
set_option maxHeartbeats 4000000
set_option maxRecDepth 100000
attribute [local irreducible] LW
theorem aV {b:Bool}(h:(!b)=false):b=true:=by cases b <;> simp_all
theorem iW {b:Bool}(h:(!b)=true):b=false:=by cases b <;> simp_all
theorem eQ {p:List Fn}{funcs vars:Int}{e:Ex}{b:Bool}(h:e.kids.length=0∨b=false)(hb:Kn p funcs vars e=b):Ending.returned (.bool b)=.returned (.bool (wf p funcs e vars)):=by
  rcases h with h|h
  · rw[Y1 h,hb]
  · subst h;rw[← Ul hb]
theorem Ce {p:Prop}(h:p:=by first|exact AG (RD hwn fun j hj=>hall j oM)|exact AG (Um (k:=k) oM (by first|(rw[if_pos oM])|(rw[if_neg oM])) (iW ‹_›))|exact eQ (by first|exact .inr Z|(left;omega)|(left;simp_all <;> omega)) (by(have hp9:=hpl.symm;clear hpl;unfold Kn Hm;first|(simp[*];done)|(simp[*];omega)|(simp[*] <;> intros <;> omega)|(simp_all <;> omega)))):p:=h
theorem Jc {p:Prop}(h:p:=by(have hp9:=hpl.symm;clear hpl;unfold Kn Hm;first|(simp[*];done)|(simp[*];omega)|(simp[*] <;> intros <;> omega)|(simp_all <;> omega))):p:=h
theorem R3 {p:Prop}(h:p:=by intro j hj;by_cases e9:j=k;(rw[e9];first|(rw[if_pos oM];exact aV ‹_›)|(rw[if_neg oM];exact aV ‹_›));exact hall j oM):p:=h
theorem Xp {p:Prop}(h:p:=by unfold Fp;first|(simp[*];done)|(simp[*];intros;omega)|(simp[*];omega)):p:=h
theorem Jd {p:Prop}(h:p:=by first|exact(A7 oM).symm|exact decide_eq_decide.2 oM):p:=h
theorem Ha (w:World)(dp:Nat)(vp:Value)(p:List Fn)(funcs:Int)(dex:Nat)(ve:Value)(ex:Ex)(vars:Int)(hp:RP [] dp w.heap vp p)(_hfuncs:BC funcs)(hex:RX [] dex w.heap ve ex)(_hvars:BC vars)(hs:0≤vars∧vars+(ex.deep:Int)≤2000000000)(hf:0≤funcs∧funcs≤(p.length:Int)) :
  Calls Tryz.prog 231 #[(.agg #[vp,(.int .i64 funcs)]),(.agg #[(.int .i64 ex.kind),(.int .i64 ex.num),(.int .i64 ex.pick),(.int .i64 ex.count),ve]),.int .i64 vars] w (fun e w'=>e=.returned (.bool (wf p funcs ex vars))∧Az w w'):=by
 induction dex using Nat.strongRecOn generalizing w dp vp p funcs ve ex vars
 rename_i dex ih
 refine At [(.agg #[vp,(.int .i64 funcs)]),(.agg #[(.int .i64 ex.kind),(.int .i64 ex.num),(.int .i64 ex.pick),(.int .i64 ex.count),ve]),.int .i64 vars] 177 Tryz.func231 Z Z sM ?_
 have d2:Az w w:=Az.refl w
 have hl_vp:=hp.lenle
 unfold maxLen at hl_vp
 have hl_ve:=hex.rn.lenle
 unfold maxLen at hl_ve
 have hdk:=EG ex
 refine A0 (Ad _ [3,3,0] Z (Bx (cs:=#[vp,(.int .i64 funcs)]) Z Ac fun w1 cq df co=>?_))
 have cr:=cq.size
 have d3:=d2.trans cq
 replace co:BX w1.heap w.heap.size [vp,(.int .i64 funcs)]:=co
 have e5:=co.lt
 refine Bx (cs:=#[(.int .i64 ex.kind),(.int .i64 ex.num),(.int .i64 ex.pick),(.int .i64 ex.count),ve]) Z Ac fun w2 cp dg bc=>?_
 have ct:=cp.size
 have cu:=d3.trans cp
 have bb:=co.ext cp
 replace bc:BX w2.heap w1.heap.size [(.int .i64 ex.kind),(.int .i64 ex.num),(.int .i64 ex.pick),(.int .i64 ex.count),ve]:=bc
 refine Ae 1 Z (A0 (Ad _ [0,2,0,0] Z (Ao (p:=(.pointer (some ⟨w1.heap.size,0,none⟩))) (b:=w1.heap.size) (o:=0) 4 Bo Z Z Ac (Ak (p:=(Ay (.pointer (some ⟨w1.heap.size,0,none⟩)) 4)) (.inr Z) ve Bp Z (bc.ldp (i:=4) sM) Ac (AJ (v:=ve) DK Z hex.rn.isSl Ac (Ae 1 Z (A0 (KT (S:=Bool) (fun(pl:Bool)=>([(8,(.bool pl)),(2,(.int .i64 vars)),(3,(.pointer (some ⟨w.heap.size,0,none⟩))),(4,(.pointer (some ⟨w1.heap.size,0,none⟩))),(7,(.int .i64 ((ex.kids.length:Nat):Int)))])) (fun(pl:Bool) (W:World)=>Az w W∧BX W.heap w.heap.size [vp,(.int .i64 funcs)]∧BX W.heap w1.heap.size [(.int .i64 ex.kind),(.int .i64 ex.num),(.int .i64 ex.pick),(.int .i64 ex.count),ve]∧pl=Fp ex) ?_ ?_))))))))
 ·refine Ad _ [0,2,0,0,0,2,0,0,0] Z (Ao (p:=(.pointer (some ⟨w1.heap.size,0,none⟩))) (b:=w1.heap.size) (o:=0) 2 Dn Z Z Ac (Ak (p:=(Ay (.pointer (some ⟨w1.heap.size,0,none⟩)) 2)) (.inr Z) (.int .i64 ex.pick) AH Z (bc.ldp (i:=2) sM) Ac ?_))
  by_cases d4:ex.pick=((0:Nat):Int)
  ·exact AA true Z Z (A7 d4) Ac (Af 1 Z (Ao (p:=(.pointer (some ⟨w1.heap.size,0,none⟩))) (b:=w1.heap.size) (o:=0) 3 D9 Z Z (Al (e:=19) Z Z Z) (Ak (p:=(Ay (.pointer (some ⟨w1.heap.size,0,none⟩)) 3)) (.inr Z) (.int .i64 ex.count) AH Z (bc.ldp (i:=3) sM) (Al (e:=19) Z Z Z) (AA (decide (ex.count=((0:Nat):Int))) Z Z Z (Al (e:=19) Z Z Z) (Ae 2 Z ⟨(decide (ex.count=((0:Nat):Int))),_,rfl,⟨rfl,rfl,rfl,rfl,rfl,trivial⟩,⟨cu,bb,bc,Xp⟩⟩)))))
  ·exact AA false Z Z (A8 d4) Ac (Ae 6 Z ⟨false,_,rfl,⟨rfl,rfl,rfl,rfl,rfl,trivial⟩,⟨cu,bb,bc,Xp⟩⟩)
 ·clear d2 df cq cr d3 dg cp ct cu
  rintro pl ρ4 w4 ⟨ag,a4,a1,hpl⟩
  have bf:w.heap.size≤w4.heap.size:=ag.size
  have e6:=a4.lt
  have e7:=a1.lt
  refine A0 (KT (S:=Unit) (fun(u:Unit)=>([(2,(.int .i64 vars)),(3,(.pointer (some ⟨w.heap.size,0,none⟩))),(4,(.pointer (some ⟨w1.heap.size,0,none⟩)))])) (fun(u:Unit) (W:World)=>Az w W∧BX W.heap w.heap.size [vp,(.int .i64 funcs)]∧BX W.heap w1.heap.size [(.int .i64 ex.kind),(.int .i64 ex.num),(.int .i64 ex.pick),(.int .i64 ex.count),ve]∧Kn p funcs vars ex=true) ?_ ?_)
  ·refine A0 (Ad _ [0,2] Z (Ao (p:=(.pointer (some ⟨w1.heap.size,0,none⟩))) (b:=w1.heap.size) (o:=0) 0 C5 Z Z Ac (Ak (p:=(Ay (.pointer (some ⟨w1.heap.size,0,none⟩)) 0)) (.inr Z) (.int .i64 ex.kind) AH Z (a1.ldp (i:=0) sM) Ac (Ah (A5 (A0 (Ad _ [0,0] Z ?_)))))))
   by_cases d5:ex.kind=((1:Nat):Int)
   ·refine AA true Z Z (A7 d5) Ac (Ae 1 Z (Ai Z (A0 (Ad _ [0,0,0,0,0,0,0,2,0,0,0] Z (Af 2 Z ?_)))))
    cases dh:pl
    ·exact Ae 9 Z (A3 (AL (Aq (Ag [6] Z (.bool false) Z ⟨Ce,ag⟩))))
    ·refine Af 1 Z ?_
     by_cases bg:((ex.kids.length:Nat):Int)=((0:Nat):Int)
     ·refine AA true Z Z (A7 bg) (Al (e:=29) Z Z Z) (Af 2 Z (Ao (p:=(.pointer (some ⟨w1.heap.size,0,none⟩))) (b:=w1.heap.size) (o:=0) 1 BT Z Z (Al (e:=33) Z Z Z) (Ak (p:=(Ay (.pointer (some ⟨w1.heap.size,0,none⟩)) 1)) (.inr Z) (.int .i64 ex.num) AH Z (a1.ldp (i:=1) sM) (Al (e:=33) Z Z Z) (AD 161 [] [] [(.int .i64 ex.num)] Z Z aE (Al (e:=33) Z Z Z) (.bool (J2 ex.num)) (fun wq=>HK wq _ hex.rng.num) (Ae 2 Z (A3 (AL (Aq ?_))))))))
      exact Ag [6] Z (.bool (J2 ex.num)) Z ⟨Ce,ag⟩
     ·exact AA false Z Z (A8 bg) (Al (e:=29) Z Z Z) (Ae 7 Z (A3 (AL (Aq (Ag [6] Z (.bool false) Z ⟨Ce,ag⟩)))))
   ·refine AA false Z Z (A8 d5) Ac (Ae 1 Z (Aj Z (A0 (Ad _ [0,0] Z ?_))))
    by_cases bh:ex.kind=((2:Nat):Int)
    ·refine AA true Z Z (A7 bh) Ac (Ae 1 Z (Ai Z (A0 (Ad _ [0,0,0,0,0,0,0,2,0,0,0,0,0] Z (Af 2 Z ?_)))))
     cases di:pl
     ·exact Ae 11 Z (A3 (AL (Aq (Ag [6] Z (.bool false) Z ⟨Ce,ag⟩))))
     ·refine Af 1 Z ?_
      by_cases bi:((ex.kids.length:Nat):Int)=((0:Nat):Int)
      ·refine AA true Z Z (A7 bi) (Al (e:=41) Z Z Z) (Af 2 Z (Ao (p:=(.pointer (some ⟨w1.heap.size,0,none⟩))) (b:=w1.heap.size) (o:=0) 1 BT Z Z (Al (e:=45) Z Z Z) (Ak (p:=(Ay (.pointer (some ⟨w1.heap.size,0,none⟩)) 1)) (.inr Z) (.int .i64 ex.num) AH Z (a1.ldp (i:=1) sM) (Al (e:=45) Z Z Z) (Af 1 Z (Cy (vars-1) Z Z (FR oM oM) (Al (e:=45) Z Z Z) (AD 72 [] [] [(.int .i64 ex.num),(.int .i64 ((0:Nat):Int)),(.int .i64 (vars-1))] Z Z KD (Al (e:=45) Z Z Z) (.bool (decide (((0:Nat):Int)≤ex.num) && decide (ex.num≤(vars-1)))) (fun wq=>BD wq _ _ _ hex.rng.num oM oM) (Ae 2 Z (A3 (AL ?_)))))))))
       exact Aq (Ag [6] Z (.bool (decide (((0:Nat):Int)≤ex.num) && decide (ex.num≤(vars-1)))) Z ⟨Ce,ag⟩)
      ·exact AA false Z Z (A8 bi) (Al (e:=41) Z Z Z) (Ae 9 Z (A3 (AL (Aq (Ag [6] Z (.bool false) Z ⟨Ce,ag⟩)))))
    ·refine AA false Z Z (A8 bh) Ac (Ae 1 Z (Aj Z (A0 (KT (S:=Bool) (fun(b5:Bool)=>([(52,(.bool b5)),(2,(.int .i64 vars)),(3,(.pointer (some ⟨w.heap.size,0,none⟩))),(4,(.pointer (some ⟨w1.heap.size,0,none⟩))),(7,(.int .i64 ((ex.kids.length:Nat):Int))),(8,(.bool pl)),(25,(.int .i64 ex.kind))])) (fun(b5:Bool) (W:World)=>Az w W∧BX W.heap w.heap.size [vp,(.int .i64 funcs)]∧BX W.heap w1.heap.size [(.int .i64 ex.kind),(.int .i64 ex.num),(.int .i64 ex.pick),(.int .i64 ex.count),ve]∧b5=decide (ex.kind=3∨ex.kind=4∨ex.kind=5∨ex.kind=6∨ex.kind=9)) ?_ ?_))))
     ·refine A0 (Ad _ [0,0] Z ?_)
      by_cases bj:ex.kind=((3:Nat):Int)
      ·exact AA true Z Z (A7 bj) Ac (Ae 1 Z (Ai Z (A4 ⟨true,_,rfl,⟨rfl,rfl,rfl,rfl,rfl,rfl,rfl,trivial⟩,⟨ag,a4,a1,Jd⟩⟩)))
      ·refine AA false Z Z (A8 bj) Ac (Ae 1 Z (Aj Z (A0 (Ad _ [0,0] Z ?_))))
       by_cases bk:ex.kind=((4:Nat):Int)
       ·exact AA true Z Z (A7 bk) Ac (Ae 1 Z (Ai Z (A4 ⟨true,_,rfl,⟨rfl,rfl,rfl,rfl,rfl,rfl,rfl,trivial⟩,⟨ag,a4,a1,Jd⟩⟩)))
       ·refine AA false Z Z (A8 bk) Ac (Ae 1 Z (Aj Z (A0 (Ad _ [0,0] Z ?_))))
        by_cases bl:ex.kind=((5:Nat):Int)
        ·exact AA true Z Z (A7 bl) Ac (Ae 1 Z (Ai Z (A4 ⟨true,_,rfl,⟨rfl,rfl,rfl,rfl,rfl,rfl,rfl,trivial⟩,⟨ag,a4,a1,Jd⟩⟩)))
        ·refine AA false Z Z (A8 bl) Ac (Ae 1 Z (Aj Z (A0 (Ad _ [0,0] Z ?_))))
         by_cases bm:ex.kind=((6:Nat):Int)
         ·exact AA true Z Z (A7 bm) Ac (Ae 1 Z (Ai Z (A4 ⟨true,_,rfl,⟨rfl,rfl,rfl,rfl,rfl,rfl,rfl,trivial⟩,⟨ag,a4,a1,Jd⟩⟩)))
         ·exact AA false Z Z (A8 bm) Ac (Ae 1 Z (Aj Z (Ad _ [0,0] Z (AA (decide (ex.kind=((9:Nat):Int))) Z Z Z Ac (Ae 1 Z ⟨(decide (ex.kind=((9:Nat):Int))),_,rfl,⟨rfl,rfl,rfl,rfl,rfl,rfl,rfl,trivial⟩,⟨ag,a4,a1,Jd⟩⟩)))))
     ·clear a1 a4 ag bf
      rintro b5 ρ17 w17 ⟨a2,a3,a0,h5b⟩
      have bn:w.heap.size≤w17.heap.size:=a2.size
      have dj:=a3.lt
      have dk:=a0.lt
      cases bo:b5
      ·refine Aj (by first|rfl|(show Value.bool _=_;rw[bo])) (A0 (Ad _ [0,0] Z ?_))
       have h5n:=of_decide_eq_false (h5b.symm.trans ‹_›)
       clear h5b
       by_cases bp:ex.kind=((7:Nat):Int)
       ·refine AA true Z Z (A7 bp) Ac (Ae 1 Z (Ai Z (A0 (Ad _ [0,0,0,0,2,0,0,0,0,0,0] Z (Af 1 Z (Bn (!pl) Z Z Ac (Af 1 Z ?_)))))))
        cases dl:(!pl)
        ·refine Ao (p:=(.pointer (some ⟨w1.heap.size,0,none⟩))) (b:=w1.heap.size) (o:=0) 1 BT Z Z (Al (e:=73) Z Z Z) (Ak (p:=(Ay (.pointer (some ⟨w1.heap.size,0,none⟩)) 1)) (.inr Z) (.int .i64 ex.num) AH Z (a0.ldp (i:=1) sM) (Al (e:=73) Z Z Z) ?_)
         by_cases bq:ex.num≠((0:Nat):Int)
         ·exact AZ true Z Z (A7 bq) (Al (e:=73) Z Z Z) (Ae 5 Z (Ai Z (A0 (Ad _ [0] Z (Ae 1 Z (A3 (AL (Aq (Ag [6] Z (.bool false) Z ⟨Ce,a2⟩)))))))))
         ·refine AZ false Z Z (A8 bq) (Al (e:=73) Z Z Z) (Af 3 Z ?_)
          by_cases br:((ex.kids.length:Nat):Int)≠((1:Nat):Int)
          ·exact AZ true Z Z (A7 br) (Al (e:=78) Z Z Z) (Ae 1 Z (Ai Z (A0 (Ad _ [0] Z (Ae 1 Z (A3 (AL (Aq (Ag [6] Z (.bool false) Z ⟨Ce,a2⟩)))))))))
          ·exact AZ false Z Z (A8 br) (Al (e:=78) Z Z Z) (Ae 1 Z (Aj Z (A4 ⟨(),_,rfl,⟨rfl,rfl,rfl,trivial⟩,⟨a2,a3,a0,Jc⟩⟩)))
        ·exact Ae 8 Z (Ai Z (A0 (Ad _ [0] Z (Ae 1 Z (A3 (AL (Aq (Ag [6] Z (.bool false) Z ⟨Ce,a2⟩))))))))
       ·refine AA false Z Z (A8 bp) Ac (Ae 1 Z (Aj Z (A0 (Ad _ [0,0] Z ?_))))
        by_cases bs:ex.kind=((8:Nat):Int)
        ·refine AA true Z Z (A7 bs) Ac (Ae 1 Z (Ai Z (A0 (Ad _ [0,0,0,0,2,0,0,0,0,0,0] Z (Af 1 Z (Bn (!pl) Z Z Ac (Af 1 Z ?_)))))))
         cases dm:(!pl)
         ·refine Ao (p:=(.pointer (some ⟨w1.heap.size,0,none⟩))) (b:=w1.heap.size) (o:=0) 1 BT Z Z (Al (e:=86) Z Z Z) (Ak (p:=(Ay (.pointer (some ⟨w1.heap.size,0,none⟩)) 1)) (.inr Z) (.int .i64 ex.num) AH Z (a0.ldp (i:=1) sM) (Al (e:=86) Z Z Z) ?_)
          by_cases bt:ex.num≠((0:Nat):Int)
          ·exact AZ true Z Z (A7 bt) (Al (e:=86) Z Z Z) (Ae 5 Z (Ai Z (A0 (Ad _ [0] Z (Ae 1 Z (A3 (AL (Aq (Ag [6] Z (.bool false) Z ⟨Ce,a2⟩)))))))))
          ·refine AZ false Z Z (A8 bt) (Al (e:=86) Z Z Z) (Af 3 Z ?_)
           by_cases bu:((ex.kids.length:Nat):Int)≠((3:Nat):Int)
           ·exact AZ true Z Z (A7 bu) (Al (e:=91) Z Z Z) (Ae 1 Z (Ai Z (A0 (Ad _ [0] Z (Ae 1 Z (A3 (AL (Aq (Ag [6] Z (.bool false) Z ⟨Ce,a2⟩)))))))))
           ·exact AZ false Z Z (A8 bu) (Al (e:=91) Z Z Z) (Ae 1 Z (Aj Z (A4 ⟨(),_,rfl,⟨rfl,rfl,rfl,trivial⟩,⟨a2,a3,a0,Jc⟩⟩)))
         ·exact Ae 8 Z (Ai Z (A0 (Ad _ [0] Z (Ae 1 Z (A3 (AL (Aq (Ag [6] Z (.bool false) Z ⟨Ce,a2⟩))))))))
        ·refine AA false Z Z (A8 bs) Ac (Ae 1 Z (Aj Z (A0 (KT (S:=Bool) (fun(b10:Bool)=>([(95,(.bool b10)),(2,(.int .i64 vars)),(3,(.pointer (some ⟨w.heap.size,0,none⟩))),(4,(.pointer (some ⟨w1.heap.size,0,none⟩))),(7,(.int .i64 ((ex.kids.length:Nat):Int)))])) (fun(b10:Bool) (W:World)=>Az w W∧BX W.heap w.heap.size [vp,(.int .i64 funcs)]∧BX W.heap w1.heap.size [(.int .i64 ex.kind),(.int .i64 ex.num),(.int .i64 ex.pick),(.int .i64 ex.count),ve]∧b10=decide (ex.kind=10∨ex.kind=11)) ?_ ?_))))
         ·refine A0 (Ad _ [0,0] Z ?_)
          by_cases bv:ex.kind=((10:Nat):Int)
          ·exact AA true Z Z (A7 bv) Ac (Ae 1 Z (Ai Z (A4 ⟨true,_,rfl,⟨rfl,rfl,rfl,rfl,rfl,trivial⟩,⟨a2,a3,a0,Jd⟩⟩)))
          ·exact AA false Z Z (A8 bv) Ac (Ae 1 Z (Aj Z (Ad _ [0,0] Z (AA (decide (ex.kind=((11:Nat):Int))) Z Z Z Ac (Ae 1 Z ⟨(decide (ex.kind=((11:Nat):Int))),_,rfl,⟨rfl,rfl,rfl,rfl,rfl,trivial⟩,⟨a2,a3,a0,Jd⟩⟩)))))
         ·clear a0 a3 a2 bn
          rintro b10 ρ33 w33 ⟨an,a6,a7,h10b⟩
          have d6:w.heap.size≤w33.heap.size:=an.size
          have dn:=a6.lt
          have dq:=a7.lt
          cases bw:b10
          ·refine Aj (by first|rfl|(show Value.bool _=_;rw[bw])) (A0 (Ad _ [0] Z ?_))
           have h10n:=of_decide_eq_false (h10b.symm.trans ‹_›)
           clear h10b
           exact Ae 1 Z (A3 (AL (Aq (Ag [6] Z (.bool false) Z ⟨Ce,an⟩))))
          ·refine Ai (by first|rfl|(show Value.bool _=_;rw[bw])) (A0 (A0 (Ad _ [0,2,0,2,0,0,0] Z ?_)))
           have h5k:=of_decide_eq_true (h10b.symm.trans ‹_›)
           clear h10b
           refine Ao (p:=(.pointer (some ⟨w1.heap.size,0,none⟩))) (b:=w1.heap.size) (o:=0) 1 BT Z Z Ac (Ak (p:=(Ay (.pointer (some ⟨w1.heap.size,0,none⟩)) 1)) (.inr Z) (.int .i64 ex.num) AH Z (a7.ldp (i:=1) sM) Ac (Ao (p:=(.pointer (some ⟨w.heap.size,0,none⟩))) (b:=w.heap.size) (o:=0) 1 Z4 Z Z Ac (Ak (p:=(Ay (.pointer (some ⟨w.heap.size,0,none⟩)) 1)) (.inr Z) (.int .i64 funcs) AH Z (a6.ldp (i:=1) sM) Ac (Cy (funcs-1) Z Z (FR oM oM) Ac (AD 72 [] [] [(.int .i64 ex.num),(.int .i64 ((0:Nat):Int)),(.int .i64 (funcs-1))] Z Z KD Ac (.bool (decide (((0:Nat):Int)≤ex.num) && decide (ex.num≤(funcs-1)))) (fun wq=>BD wq _ _ _ hex.rng.num oM oM) ?_)))))
           refine Bn (!(decide (((0:Nat):Int)≤ex.num) && decide (ex.num≤(funcs-1)))) Z Z Ac (Ah ?_)
           cases bx:(!(decide (((0:Nat):Int)≤ex.num) && decide (ex.num≤(funcs-1))))
           ·refine Aj (by first|rfl|(show Value.bool _=_;rw[bx])) (A4 (A0 (Ad _ [0,0,2,0,2,0,2,3,4] Z ?_)))
            have hnr:0≤ex.num∧ex.num≤funcs-1:=by have h9:=‹(!(decide (((0:Nat):Int)≤ex.num) && decide (ex.num≤funcs-1)))=false›;simpa using h9
            refine Ao (p:=(.pointer (some ⟨w.heap.size,0,none⟩))) (b:=w.heap.size) (o:=0) 0 Z3 Z Z Ac (Ao (p:=(Ay (.pointer (some ⟨w.heap.size,0,none⟩)) 0)) (b:=w.heap.size) (o:=0) 0 BM Z Z Ac (Ak (p:=(Ay (Ay (.pointer (some ⟨w.heap.size,0,none⟩)) 0) 0)) (.inr Z) vp Cs Z (a6.ldp (i:=0) sM) Ac (Ao (p:=(.pointer (some ⟨w1.heap.size,0,none⟩))) (b:=w1.heap.size) (o:=0) 1 BT Z Z Ac (Ak (p:=(Ay (.pointer (some ⟨w1.heap.size,0,none⟩)) 1)) (.inr Z) (.int .i64 ex.num) AH Z (a7.ldp (i:=1) sM) Ac ?_))))
            refine Au (v:=vp) ((ex.num).toNat) Gm CA Z Z hp.isSl oM sD Ac ?_
            obtain⟨cs40,cv,cw⟩:=hp.get (AB dp) Fn.zero (k:=((ex.num).toNat)) sD
            obtain⟨aa,rfl,ao⟩:=RF.of cv
            have bz:=ao.rn.lenle
            unfold maxLen at bz
            refine AR (p:=Aw vp ((ex.num).toNat) 3) (.inr Z) [(.string ((p.getD ((ex.num).toNat) Fn.zero).name)),(.int .i64 ((p.getD ((ex.num).toNat) Fn.zero).params)),aa] I3 Z (fun wq9 ad=>cw wq9 (AE.of_ext [] (an.trans ad))) Z Ac ?_
            have dr:=a6.lt
            have ds:=a7.lt
            refine BJ (z:=.agg #[.string ByteArray.empty,.int .i64 0,.slice none 0 0]) YZ Ac fun w41 ax dt bd=>?_
            have d7:=ax.size
            have c0:=an.trans ax
            have ai:=a6.ext ax
            have aj:=a7.ext ax
            replace bd:BX w41.heap w33.heap.size [(.string ByteArray.empty),(.int .i64 0),(.slice none 0 0)]:=bd
            refine CT (vs:=[(.string ((p.getD ((ex.num).toNat) Fn.zero).name)),(.int .i64 ((p.getD ((ex.num).toNat) Fn.zero).params)),aa]) I3 Z Z ao.ones bd Z Z Ac fun w44 ay du ac=>?_
            replace ac:BX w44.heap w33.heap.size [(.string ((p.getD ((ex.num).toNat) Fn.zero).name)),(.int .i64 ((p.getD ((ex.num).toNat) Fn.zero).params)),aa]:=ac
            have a8:Az w w44:=ay.below c0 (fun c hc=>by have:=Ab hc;omega) c0.size
            have d8:=ay.size
            have az:=ai.chg ay (fun hm=>by have:=Ab hm;omega)
            have a9:=aj.chg ay (fun hm=>by have:=Ab hm;omega)
            refine Ah (A0 (A0 (Ad _ [0,0,2,0,0,0,2,0,2,0,0,0,0,0] Z (Af 1 Z (Ao (p:=(.pointer (some ⟨w33.heap.size,0,none⟩))) (b:=w33.heap.size) (o:=0) 1 Cw Z Z Ac (Ak (p:=(Ay (.pointer (some ⟨w33.heap.size,0,none⟩)) 1)) (.inr Z) (.int .i64 ((p.getD ((ex.num).toNat) Fn.zero).params)) AH Z (ac.ldp (i:=1) sM) Ac ?_))))))
            by_cases c1:((ex.kids.length:Nat):Int)≠(p.getD ((ex.num).toNat) Fn.zero).params
            ·exact AZ true Z Z (A7 c1) Ac (Ae 10 Z (Ai Z (A0 (Ad _ [0] Z (Ae 1 Z (A3 (Aq (AL (Aq (Ag [6] Z (.bool false) Z ⟨Ce,a8⟩))))))))))
            ·refine AZ false Z Z (A8 c1) Ac (Af 1 Z (Ao (p:=(.pointer (some ⟨w1.heap.size,0,none⟩))) (b:=w1.heap.size) (o:=0) 2 Dn Z Z (Al (e:=116) Z Z Z) (Ak (p:=(Ay (.pointer (some ⟨w1.heap.size,0,none⟩)) 2)) (.inr Z) (.int .i64 ex.pick) AH Z (a9.ldp (i:=2) sM) (Al (e:=116) Z Z Z) (Ao (p:=(.pointer (some ⟨w33.heap.size,0,none⟩))) (b:=w33.heap.size) (o:=0) 2 Cu Z Z (Al (e:=116) Z Z Z) (Ak (p:=(Ay (.pointer (some ⟨w33.heap.size,0,none⟩)) 2)) (.inr Z) aa Bp Z (ac.ldp (i:=2) sM) (Al (e:=116) Z Z Z) (AJ (v:=aa) DK Z ao.rn.isSl (Al (e:=116) Z Z Z) ?_))))))
             refine Cy (((p.getD (ex.num).toNat Fn.zero).outs.length:Int)-1) Z Z (FR oM oM) (Al (e:=116) Z Z Z) (AD 72 [] [] [(.int .i64 ex.pick),(.int .i64 ((0:Nat):Int)),(.int .i64 (((p.getD (ex.num).toNat Fn.zero).outs.length:Int)-1))] Z Z KD (Al (e:=116) Z Z Z) (.bool (decide (((0:Nat):Int)≤ex.pick) && decide (ex.pick≤(((p.getD (ex.num).toNat Fn.zero).outs.length:Int)-1)))) (fun wq=>BD wq _ _ _ hex.rng.pick oM oM) (Bn (!(decide (((0:Nat):Int)≤ex.pick) && decide (ex.pick≤(((p.getD (ex.num).toNat Fn.zero).outs.length:Int)-1)))) Z Z (Al (e:=116) Z Z Z) (Ae 1 Z ?_)))
             cases c2:(!(decide (((0:Nat):Int)≤ex.pick) && decide (ex.pick≤(((p.getD (ex.num).toNat Fn.zero).outs.length:Int)-1))))
             ·refine Aj (by first|rfl|(show Value.bool _=_;rw[c2])) (A4 (A0 (Ad _ [0,2,0,0,0,2,0,0,0,0,2,0,0,0,2,0,0,2,0,0,0,2,0,0,0,0,0] Z (Ao (p:=(.pointer (some ⟨w1.heap.size,0,none⟩))) (b:=w1.heap.size) (o:=0) 0 C5 Z Z Ac (Ak (p:=(Ay (.pointer (some ⟨w1.heap.size,0,none⟩)) 0)) (.inr Z) (.int .i64 ex.kind) AH Z (a9.ldp (i:=0) sM) Ac ?_)))))
              by_cases c3:ex.kind=((10:Nat):Int)
              ·refine AA true Z Z (A7 c3) Ac (Af 1 Z (Ao (p:=(.pointer (some ⟨w1.heap.size,0,none⟩))) (b:=w1.heap.size) (o:=0) 3 D9 Z Z (Al (e:=129) Z Z Z) (Ak (p:=(Ay (.pointer (some ⟨w1.heap.size,0,none⟩)) 3)) (.inr Z) (.int .i64 ex.count) AH Z (a9.ldp (i:=3) sM) (Al (e:=129) Z Z Z) ?_)))
               by_cases c4:ex.count≠((0:Nat):Int)
               ·exact AZ true Z Z (A7 c4) (Al (e:=129) Z Z Z) (Ae 20 Z (Ai Z (A0 (Ad _ [0] Z (Ae 1 Z (A3 (AL (Aq (Ag [6] Z (.bool false) Z ⟨Ce,a8⟩)))))))))
               ·refine AZ false Z Z (A8 c4) (Al (e:=129) Z Z Z) (Af 2 Z (Ao (p:=(.pointer (some ⟨w1.heap.size,0,none⟩))) (b:=w1.heap.size) (o:=0) 0 C5 Z Z (Al (e:=134) Z Z Z) (Ak (p:=(Ay (.pointer (some ⟨w1.heap.size,0,none⟩)) 0)) (.inr Z) (.int .i64 ex.kind) AH Z (a9.ldp (i:=0) sM) (Al (e:=134) Z Z Z) ?_)))
                by_cases c5:ex.kind=((11:Nat):Int)
                ·refine AA true Z Z (A7 c5) (Al (e:=134) Z Z Z) (Af 1 Z (Ao (p:=(.pointer (some ⟨w33.heap.size,0,none⟩))) (b:=w33.heap.size) (o:=0) 2 Cu Z Z (Al (e:=138) Z Z Z) (Ak (p:=(Ay (.pointer (some ⟨w33.heap.size,0,none⟩)) 2)) (.inr Z) aa Bp Z (ac.ldp (i:=2) sM) (Al (e:=138) Z Z Z) (AJ (v:=aa) DK Z ao.rn.isSl (Al (e:=138) Z Z Z) (Ao (p:=(.pointer (some ⟨w33.heap.size,0,none⟩))) (b:=w33.heap.size) (o:=0) 1 Cw Z Z (Al (e:=138) Z Z Z) (Ak (p:=(Ay (.pointer (some ⟨w33.heap.size,0,none⟩)) 1)) (.inr Z) (.int .i64 ((p.getD ((ex.num).toNat) Fn.zero).params)) AH Z (ac.ldp (i:=1) sM) (Al (e:=138) Z Z Z) ?_))))))
                 by_cases c6:((((p.getD ((ex.num).toNat) Fn.zero).outs).length:Nat):Int)≠(p.getD ((ex.num).toNat) Fn.zero).params
                 ·exact AZ true Z Z (A7 c6) (Al (e:=138) Z Z Z) (Ae 8 Z (Ai Z (A0 (Ad _ [0] Z (Ae 1 Z (A3 (AL (Aq (Ag [6] Z (.bool false) Z ⟨Ce,a8⟩)))))))))
                 ·refine AZ false Z Z (A8 c6) (Al (e:=138) Z Z Z) (Af 1 Z (Ao (p:=(.pointer (some ⟨w1.heap.size,0,none⟩))) (b:=w1.heap.size) (o:=0) 3 D9 Z Z (Al (e:=145) Z Z Z) (Ak (p:=(Ay (.pointer (some ⟨w1.heap.size,0,none⟩)) 3)) (.inr Z) (.int .i64 ex.count) AH Z (a9.ldp (i:=3) sM) (Al (e:=145) Z Z Z) (AD 72 [] [] [(.int .i64 ex.count),(.int .i64 ((0:Nat):Int)),(.int .i64 ((8:Nat):Int))] Z Z KD (Al (e:=145) Z Z Z) (.bool (decide (((0:Nat):Int)≤ex.count) && decide (ex.count≤((8:Nat):Int)))) (fun wq=>BD wq _ _ _ hex.rng.count oM oM) (Bn (!(decide (((0:Nat):Int)≤ex.count) && decide (ex.count≤((8:Nat):Int)))) Z Z (Al (e:=145) Z Z Z) ?_)))))
                  refine Ae 3 Z ?_
                  cases c7:(!(decide (((0:Nat):Int)≤ex.count) && decide (ex.count≤((8:Nat):Int))))
                  ·exact Aj (by first|rfl|(show Value.bool _=_;rw[c7])) (A4 ⟨(),_,rfl,⟨rfl,rfl,rfl,trivial⟩,⟨a8,az,a9,Jc⟩⟩)
                  ·exact Ai (by first|rfl|(show Value.bool _=_;rw[c7])) (A0 (Ad _ [0] Z (Ae 1 Z (A3 (AL (Aq (Ag [6] Z (.bool false) Z ⟨Ce,a8⟩)))))))
                ·exact AA false Z Z (A8 c5) (Al (e:=134) Z Z Z) (Ae 15 Z (Aj Z (A4 ⟨(),_,rfl,⟨rfl,rfl,rfl,trivial⟩,⟨a8,az,a9,Jc⟩⟩)))
              ·refine AA false Z Z (A8 c3) Ac (Af 6 Z (Ao (p:=(.pointer (some ⟨w1.heap.size,0,none⟩))) (b:=w1.heap.size) (o:=0) 0 C5 Z Z (Al (e:=134) Z Z Z) (Ak (p:=(Ay (.pointer (some ⟨w1.heap.size,0,none⟩)) 0)) (.inr Z) (.int .i64 ex.kind) AH Z (a9.ldp (i:=0) sM) (Al (e:=134) Z Z Z) ?_)))
               by_cases c8:ex.kind=((11:Nat):Int)
               ·refine AA true Z Z (A7 c8) (Al (e:=134) Z Z Z) (Af 1 Z (Ao (p:=(.pointer (some ⟨w33.heap.size,0,none⟩))) (b:=w33.heap.size) (o:=0) 2 Cu Z Z (Al (e:=138) Z Z Z) (Ak (p:=(Ay (.pointer (some ⟨w33.heap.size,0,none⟩)) 2)) (.inr Z) aa Bp Z (ac.ldp (i:=2) sM) (Al (e:=138) Z Z Z) (AJ (v:=aa) DK Z ao.rn.isSl (Al (e:=138) Z Z Z) (Ao (p:=(.pointer (some ⟨w33.heap.size,0,none⟩))) (b:=w33.heap.size) (o:=0) 1 Cw Z Z (Al (e:=138) Z Z Z) (Ak (p:=(Ay (.pointer (some ⟨w33.heap.size,0,none⟩)) 1)) (.inr Z) (.int .i64 ((p.getD ((ex.num).toNat) Fn.zero).params)) AH Z (ac.ldp (i:=1) sM) (Al (e:=138) Z Z Z) ?_))))))
                by_cases c9:((((p.getD ((ex.num).toNat) Fn.zero).outs).length:Nat):Int)≠(p.getD ((ex.num).toNat) Fn.zero).params
                ·exact AZ true Z Z (A7 c9) (Al (e:=138) Z Z Z) (Ae 8 Z (Ai Z (A0 (Ad _ [0] Z (Ae 1 Z (A3 (AL (Aq (Ag [6] Z (.bool false) Z ⟨Ce,a8⟩)))))))))
                ·refine AZ false Z Z (A8 c9) (Al (e:=138) Z Z Z) (Af 1 Z (Ao (p:=(.pointer (some ⟨w1.heap.size,0,none⟩))) (b:=w1.heap.size) (o:=0) 3 D9 Z Z (Al (e:=145) Z Z Z) (Ak (p:=(Ay (.pointer (some ⟨w1.heap.size,0,none⟩)) 3)) (.inr Z) (.int .i64 ex.count) AH Z (a9.ldp (i:=3) sM) (Al (e:=145) Z Z Z) (AD 72 [] [] [(.int .i64 ex.count),(.int .i64 ((0:Nat):Int)),(.int .i64 ((8:Nat):Int))] Z Z KD (Al (e:=145) Z Z Z) (.bool (decide (((0:Nat):Int)≤ex.count) && decide (ex.count≤((8:Nat):Int)))) (fun wq=>BD wq _ _ _ hex.rng.count oM oM) (Bn (!(decide (((0:Nat):Int)≤ex.count) && decide (ex.count≤((8:Nat):Int)))) Z Z (Al (e:=145) Z Z Z) ?_)))))
                 refine Ae 3 Z ?_
                 cases ca:(!(decide (((0:Nat):Int)≤ex.count) && decide (ex.count≤((8:Nat):Int))))
                 ·exact Aj (by first|rfl|(show Value.bool _=_;rw[ca])) (A4 ⟨(),_,rfl,⟨rfl,rfl,rfl,trivial⟩,⟨a8,az,a9,Jc⟩⟩)
                 ·exact Ai (by first|rfl|(show Value.bool _=_;rw[ca])) (A0 (Ad _ [0] Z (Ae 1 Z (A3 (AL (Aq (Ag [6] Z (.bool false) Z ⟨Ce,a8⟩)))))))
               ·exact AA false Z Z (A8 c8) (Al (e:=134) Z Z Z) (Ae 15 Z (Aj Z (A4 ⟨(),_,rfl,⟨rfl,rfl,rfl,trivial⟩,⟨a8,az,a9,Jc⟩⟩)))
             ·exact Ai (by first|rfl|(show Value.bool _=_;rw[c2])) (A0 (Ad _ [0] Z (Ae 1 Z (A3 (Aq (AL (Aq (Ag [6] Z (.bool false) Z ⟨Ce,a8⟩))))))))
           ·exact Ai (by first|rfl|(show Value.bool _=_;rw[bx])) (A0 (Ad _ [0] Z (Ae 1 Z (A3 (Aq (AL (Aq (Ag [6] Z (.bool false) Z ⟨Ce,an⟩))))))))
      ·refine Ai (by first|rfl|(show Value.bool _=_;rw[bo])) (A0 (Ad _ [0,0,0,0,2,0,0,0,0,0,0] Z ?_))
       have h5k:=of_decide_eq_true (h5b.symm.trans ‹_›)
       clear h5b
       refine Af 1 Z (Bn (!pl) Z Z Ac (Af 1 Z ?_))
       cases dv:(!pl)
       ·refine Ao (p:=(.pointer (some ⟨w1.heap.size,0,none⟩))) (b:=w1.heap.size) (o:=0) 1 BT Z Z (Al (e:=60) Z Z Z) (Ak (p:=(Ay (.pointer (some ⟨w1.heap.size,0,none⟩)) 1)) (.inr Z) (.int .i64 ex.num) AH Z (a0.ldp (i:=1) sM) (Al (e:=60) Z Z Z) ?_)
        by_cases cb:ex.num≠((0:Nat):Int)
        ·exact AZ true Z Z (A7 cb) (Al (e:=60) Z Z Z) (Ae 5 Z (Ai Z (A0 (Ad _ [0] Z (Ae 1 Z (A3 (AL (Aq (Ag [6] Z (.bool false) Z ⟨Ce,a2⟩)))))))))
        ·refine AZ false Z Z (A8 cb) (Al (e:=60) Z Z Z) (Af 3 Z ?_)
         by_cases cc:((ex.kids.length:Nat):Int)≠((2:Nat):Int)
         ·exact AZ true Z Z (A7 cc) (Al (e:=65) Z Z Z) (Ae 1 Z (Ai Z (A0 (Ad _ [0] Z (Ae 1 Z (A3 (AL (Aq (Ag [6] Z (.bool false) Z ⟨Ce,a2⟩)))))))))
         ·exact AZ false Z Z (A8 cc) (Al (e:=65) Z Z Z) (Ae 1 Z (Aj Z (A4 ⟨(),_,rfl,⟨rfl,rfl,rfl,trivial⟩,⟨a2,a3,a0,Jc⟩⟩)))
       ·exact Ae 8 Z (Ai Z (A0 (Ad _ [0] Z (Ae 1 Z (A3 (AL (Aq (Ag [6] Z (.bool false) Z ⟨Ce,a2⟩))))))))
  ·clear a1 a4 ag bf
   rintro u ρ8 w8 ⟨cx,ap,ah,hwn⟩
   have cy:w.heap.size≤w8.heap.size:=cx.size
   have dw:=ap.lt
   have dx:=ah.lt
   refine A0 (A0 (Ad _ [0,2,0,0] Z (Ao (p:=(.pointer (some ⟨w1.heap.size,0,none⟩))) (b:=w1.heap.size) (o:=0) 4 Bo Z Z Ac (Ak (p:=(Ay (.pointer (some ⟨w1.heap.size,0,none⟩)) 4)) (.inr Z) ve Bp Z (ah.ldp (i:=4) sM) Ac (AJ (v:=ve) DK Z hex.rn.isSl Ac (Ae 1 Z (A5 ?_)))))))
   refine AN (S:=Nat) (fun k=>([(156,(.int .i64 ((k:Nat):Int))),(2,(.int .i64 vars)),(3,(.pointer (some ⟨w.heap.size,0,none⟩))),(4,(.pointer (some ⟨w1.heap.size,0,none⟩))),(154,ve),(155,(.int .i64 ((ex.kids.length:Nat):Int)))])) (fun k W=>Az w W∧BX W.heap w.heap.size [vp,(.int .i64 funcs)]∧BX W.heap w1.heap.size [(.int .i64 ex.kind),(.int .i64 ex.num),(.int .i64 ex.pick),(.int .i64 ex.count),ve]∧k≤ex.kids.length∧(∀j,j<k→wf p funcs (ex.kids.getD j Ex.zero) (if ex.kind=9∧j=1 then vars+1 else vars)=true)) (fun k=>ex.kids.length-k) 0 ⟨rfl,rfl,rfl,rfl,rfl,rfl,trivial⟩ ⟨cx,ap,ah,sD,(by intro j hj;omega)⟩ ?_
   clear ah ap cx cy
   rintro k ρ65 w65 ⟨b0,ae,af,cz,hall⟩
   have d9:w.heap.size≤w65.heap.size:=b0.size
   have dy:=ae.lt
   have dz:=af.lt
   refine A0 (Ad _ [0] Z ?_)
   by_cases cd:((k:Nat):Int)<((ex.kids.length:Nat):Int)
   ·refine Ax true Z Z (A7 cd) Ac (Ah (A0 (Ai Z (A4 (A0 (A5 (A0 (Ad _ [0,0,2,3,0,4] Z ?_))))))))
    have hkd:=Fz (l:=ex.kids) (k:=k) oM
    refine Af 1 Z (Au (v:=ve) k DK BB Z Z hex.rn.isSl Z sD Ac ?_)
    obtain⟨cs69,d0,d1⟩:=hex.rn.get (AC dex) Ex.zero (k:=k) sD
    obtain⟨dd69,a5,e0,rfl,aq⟩:=RX.of d0
    have ce:=aq.rn.lenle
    unfold maxLen at ce
    refine AR (p:=Aw ve k 5) (.inr Z) [(.int .i64 ((ex.kids.getD k Ex.zero).kind)),(.int .i64 ((ex.kids.getD k Ex.zero).num)),(.int .i64 ((ex.kids.getD k Ex.zero).pick)),(.int .i64 ((ex.kids.getD k Ex.zero).count)),a5] BS Z (fun wq9 ad=>d1 wq9 (AE.of_ext [] (b0.trans ad))) Z Ac ?_
    have e1:=ae.lt
    have e2:=af.lt
    refine BJ (z:=.agg #[.int .i64 0,.int .i64 0,.int .i64 0,.int .i64 0,.slice none 0 0]) Mz Ac fun w70 b1 e3 be=>?_
    have da:=b1.size
    have cf:=b0.trans b1
    have ak:=ae.ext b1
    have al:=af.ext b1
    replace be:BX w70.heap w65.heap.size [(.int .i64 0),(.int .i64 0),(.int .i64 0),(.int .i64 0),(.slice none 0 0)]:=be
    refine Af 1 Z (CT (vs:=[(.int .i64 ((ex.kids.getD k Ex.zero).kind)),(.int .i64 ((ex.kids.getD k Ex.zero).num)),(.int .i64 ((ex.kids.getD k Ex.zero).pick)),(.int .i64 ((ex.kids.getD k Ex.zero).count)),a5]) BS Z Z aq.ones be Z Z Ac fun w73 b2 e4 ar=>?_)
    replace ar:BX w73.heap w65.heap.size [(.int .i64 ((ex.kids.getD k Ex.zero).kind)),(.int .i64 ((ex.kids.getD k Ex.zero).num)),(.int .i64 ((ex.kids.getD k Ex.zero).pick)),(.int .i64 ((ex.kids.getD k Ex.zero).count)),a5]:=ar
    have ab:Az w w73:=b2.below cf (fun c hc=>by have:=Ab hc;omega) cf.size
    have db:=b2.size
    have am:=ak.chg b2 (fun hm=>by have:=Ab hm;omega)
    have b3:=al.chg b2 (fun hm=>by have:=Ab hm;omega)
    refine Ah (A0 (Ad _ [0,0] Z (Ae 2 Z (A0 (A0 (Ad _ [0,2,0,0,0,0,0] Z (Ao (p:=(.pointer (some ⟨w1.heap.size,0,none⟩))) (b:=w1.heap.size) (o:=0) 0 C5 Z Z Ac (Ak (p:=(Ay (.pointer (some ⟨w1.heap.size,0,none⟩)) 0)) (.inr Z) (.int .i64 ex.kind) AH Z (b3.ldp (i:=0) sM) Ac ?_))))))))
    by_cases cg:ex.kind=((9:Nat):Int)
    ·refine AA true Z Z (A7 cg) Ac (Af 2 Z ?_)
     by_cases ch:((k:Nat):Int)=((1:Nat):Int)
     ·refine AA true Z Z (A7 ch) (Al (e:=165) Z Z Z) (Ae 1 Z (Ai Z (Ad _ [0,0,0] Z (Af 1 Z (AI (vars+1) Z Z (FR oM oM) Ac (Ae 1 Z (A0 (Ad _ [2,2,0,3,0] Z (AR (p:=(.pointer (some ⟨w.heap.size,0,none⟩))) (.inr Z) [vp,(.int .i64 funcs)] R2 Z (fun wq9 ad=>LD.of_box (BX.ext (w:=w73) am ad)) Z Ac (AR (p:=(.pointer (some ⟨w65.heap.size,0,none⟩))) (.inr Z) [(.int .i64 ((ex.kids.getD k Ex.zero).kind)),(.int .i64 ((ex.kids.getD k Ex.zero).num)),(.int .i64 ((ex.kids.getD k Ex.zero).pick)),(.int .i64 ((ex.kids.getD k Ex.zero).count)),a5] BS Z (fun wq9 ad=>LD.of_box (BX.ext (w:=w73) ar ad)) Z Ac (Af 1 Z ?_)))))))))))
      refine Ap 231 [] [] [(.agg #[vp,(.int .i64 funcs)]),(.agg #[(.int .i64 ((ex.kids.getD k Ex.zero).kind)),(.int .i64 ((ex.kids.getD k Ex.zero).num)),(.int .i64 ((ex.kids.getD k Ex.zero).pick)),(.int .i64 ((ex.kids.getD k Ex.zero).count)),a5]),(.int .i64 (vars+1))] Z Z SI Ac (ih dd69 oM _ dp vp (p) (funcs) a5 (ex.kids.getD k Ex.zero) _ (hp.ext (Am (AB dp)) ab) _hfuncs (aq.ext ab) oM oM oM) ?_
      rintro e78 w78 ⟨rfl,au⟩
      refine⟨_,rfl,au,?_⟩
      have dc:=au.size
      have ci:=ab.trans au
      have b4:=am.ext au
      have b6:=b3.ext au
      refine Bn (!(wf p funcs (ex.kids.getD k Ex.zero) (vars+1))) Z Z Ac (Ah ?_)
      cases cj:(!(wf p funcs (ex.kids.getD k Ex.zero) (vars+1)))
      ·refine Aj (by first|rfl|(show Value.bool _=_;rw[cj])) (A4 (Ad _ [0,0] Z (AI ((k+1:Nat):Int) Z Z (B8 oM sD) Ac (Ae 1 Z ?_))))
       exact⟨(k+1),_,rfl,⟨rfl,rfl,rfl,rfl,rfl,rfl,trivial⟩,⟨ci,b4,b6,sD,R3⟩,by first|omega|(dsimp only;omega)⟩
      ·exact Ai (by first|rfl|(show Value.bool _=_;rw[cj])) (A0 (Ad _ [0] Z (Ae 1 Z (A3 (AL (Aq (Aq (AL (Aq (Ag [6] Z (.bool false) Z ⟨Ce,ci⟩))))))))))
     ·refine AA false Z Z (A8 ch) (Al (e:=165) Z Z Z) (Ae 1 Z (Aj Z (A4 (A0 (Ad _ [2,2,0,3,0] Z (AR (p:=(.pointer (some ⟨w.heap.size,0,none⟩))) (.inr Z) [vp,(.int .i64 funcs)] R2 Z (fun wq9 ad=>LD.of_box (BX.ext (w:=w73) am ad)) Z Ac (AR (p:=(.pointer (some ⟨w65.heap.size,0,none⟩))) (.inr Z) [(.int .i64 ((ex.kids.getD k Ex.zero).kind)),(.int .i64 ((ex.kids.getD k Ex.zero).num)),(.int .i64 ((ex.kids.getD k Ex.zero).pick)),(.int .i64 ((ex.kids.getD k Ex.zero).count)),a5] BS Z (fun wq9 ad=>LD.of_box (BX.ext (w:=w73) ar ad)) Z Ac (Af 1 Z ?_))))))))
      refine Ap 231 [] [] [(.agg #[vp,(.int .i64 funcs)]),(.agg #[(.int .i64 ((ex.kids.getD k Ex.zero).kind)),(.int .i64 ((ex.kids.getD k Ex.zero).num)),(.int .i64 ((ex.kids.getD k Ex.zero).pick)),(.int .i64 ((ex.kids.getD k Ex.zero).count)),a5]),(.int .i64 vars)] Z Z SI Ac (ih dd69 oM _ dp vp (p) (funcs) a5 (ex.kids.getD k Ex.zero) _ (hp.ext (Am (AB dp)) ab) _hfuncs (aq.ext ab) _hvars oM oM) ?_
      rintro e80 w80 ⟨rfl,av⟩
      refine⟨_,rfl,av,?_⟩
      have dd:=av.size
      have ck:=ab.trans av
      have b7:=am.ext av
      have b8:=b3.ext av
      refine Bn (!(wf p funcs (ex.kids.getD k Ex.zero) vars)) Z Z Ac (Ah ?_)
      cases cl:(!(wf p funcs (ex.kids.getD k Ex.zero) vars))
      ·refine Aj (by first|rfl|(show Value.bool _=_;rw[cl])) (A4 (Ad _ [0,0] Z (AI ((k+1:Nat):Int) Z Z (B8 oM sD) Ac (Ae 1 Z ?_))))
       exact⟨(k+1),_,rfl,⟨rfl,rfl,rfl,rfl,rfl,rfl,trivial⟩,⟨ck,b7,b8,sD,R3⟩,by first|omega|(dsimp only;omega)⟩
      ·exact Ai (by first|rfl|(show Value.bool _=_;rw[cl])) (A0 (Ad _ [0] Z (Ae 1 Z (A3 (AL (Aq (Aq (AL (Aq (Ag [6] Z (.bool false) Z ⟨Ce,ck⟩))))))))))
    ·refine AA false Z Z (A8 cg) Ac (Ae 4 Z (Aj Z (A4 (A0 (Ad _ [2,2,0,3,0] Z (AR (p:=(.pointer (some ⟨w.heap.size,0,none⟩))) (.inr Z) [vp,(.int .i64 funcs)] R2 Z (fun wq9 ad=>LD.of_box (BX.ext (w:=w73) am ad)) Z Ac (AR (p:=(.pointer (some ⟨w65.heap.size,0,none⟩))) (.inr Z) [(.int .i64 ((ex.kids.getD k Ex.zero).kind)),(.int .i64 ((ex.kids.getD k Ex.zero).num)),(.int .i64 ((ex.kids.getD k Ex.zero).pick)),(.int .i64 ((ex.kids.getD k Ex.zero).count)),a5] BS Z (fun wq9 ad=>LD.of_box (BX.ext (w:=w73) ar ad)) Z Ac (Af 1 Z ?_))))))))
     refine Ap 231 [] [] [(.agg #[vp,(.int .i64 funcs)]),(.agg #[(.int .i64 ((ex.kids.getD k Ex.zero).kind)),(.int .i64 ((ex.kids.getD k Ex.zero).num)),(.int .i64 ((ex.kids.getD k Ex.zero).pick)),(.int .i64 ((ex.kids.getD k Ex.zero).count)),a5]),(.int .i64 vars)] Z Z SI Ac (ih dd69 oM _ dp vp (p) (funcs) a5 (ex.kids.getD k Ex.zero) _ (hp.ext (Am (AB dp)) ab) _hfuncs (aq.ext ab) _hvars oM oM) ?_
     rintro e82 w82 ⟨rfl,aw⟩
     refine⟨_,rfl,aw,?_⟩
     have de:=aw.size
     have cm:=ab.trans aw
     have b9:=am.ext aw
     have ba:=b3.ext aw
     refine Bn (!(wf p funcs (ex.kids.getD k Ex.zero) vars)) Z Z Ac (Ah ?_)
     cases cn:(!(wf p funcs (ex.kids.getD k Ex.zero) vars))
     ·refine Aj (by first|rfl|(show Value.bool _=_;rw[cn])) (A4 (Ad _ [0,0] Z (AI ((k+1:Nat):Int) Z Z (B8 oM sD) Ac (Ae 1 Z ?_))))
      exact⟨(k+1),_,rfl,⟨rfl,rfl,rfl,rfl,rfl,rfl,trivial⟩,⟨cm,b9,ba,sD,R3⟩,by first|omega|(dsimp only;omega)⟩
     ·exact Ai (by first|rfl|(show Value.bool _=_;rw[cn])) (A0 (Ad _ [0] Z (Ae 1 Z (A3 (AL (Aq (Aq (AL (Aq (Ag [6] Z (.bool false) Z ⟨Ce,cm⟩))))))))))
   ·exact Ax false Z Z (A8 cd) Ac (Ah (A0 (Aj Z (A6 (As (As (An (A0 (Ad _ [0] Z (Ae 1 Z (A3 (Ag [6] Z (.bool true) Z ⟨Ce,b0⟩))))))))))))
end
section
set_option maxHeartbeats 4000000
set_option maxRecDepth 100000
attribute [local irreducible] LW
theorem R4 {s:ByteArray}{k:Nat}(hk:k<s.size)(h:(K8 s k<97∨122<K8 s k)∧(k=0∨K8 s k<48∨57<K8 s k)):false=Pd s:=by
  have hc:Zo s k=false:=by
    unfold Zo
    rcases h with⟨h1|h1,h2|h2|h2⟩ <;> simp <;> omega
  unfold Pd
  rw[Ku hk hc,Bool.and_false]
theorem SU {s:ByteArray}{k:Nat}(h:(97≤K8 s k∧K8 s k≤122)∨(k≠0∧48≤K8 s k∧K8 s k≤57)):Zo s k=true:=by
  unfold Zo
  rcases h with h|h <;> simp <;> omega
theorem Xq {s:ByteArray}{k:Nat}{b:Bool}(h:(List.range k).all (Zo s)=true)(hk:k=s.size)(hb:b=(decide (1≤s.size) && decide (s.size≤12))):b=Pd s:=by
  subst hk
  unfold Pd
  rw[h,Bool.and_true,hb]
theorem I8 {p:Prop}(h:p:=by first|exact AG (R4 (k:=k) oM oM)|exact AG (Xq hq oM (by first|(rw[A7 (show 1≤s.size by omega),Bool.true_and];exact decide_eq_decide.2 oM)|(rw[A8 (show ¬1≤s.size by omega)];rfl)))):p:=h
theorem Ng (w:World)(s:ByteArray)  (hl:s.size≤1000000000) :
  Calls Tryz.prog 194 #[.string s] w (fun e w'=>e=.returned (.bool (Pd s))∧w'=w):=by
 refine At [.string s] 44 Tryz.func194 Z Z sM ?_
 have a3:w=w:=rfl
 refine A0 (Ad _ [0] Z (Ae 1 Z (A0 (A0 (Ad _ [0,0,0] Z (Af 1 Z (Kd (s:=s) u9 Z Ac (Ae 1 Z (A5 ?_)))))))))
 refine AN (S:=Nat) (fun k=>([(6,(.int .i64 ((k:Nat):Int))),(0,(.string s)),(5,(.int .i64 ((s.size:Nat):Int)))])) (fun k W=>W=w∧k≤s.size∧(List.range k).all (Zo s)=true) (fun k=>s.size-k) 0 ⟨rfl,rfl,rfl,trivial⟩ ⟨a3,sD,(by rfl)⟩ ?_
 clear a3
 rintro k ρ1 w1 ⟨a0,a4,hq⟩
 refine A0 (Ad _ [0] Z ?_)
 by_cases a5:((k:Nat):Int)<((s.size:Nat):Int)
 ·refine Ax true Z Z (A7 a5) Ac (Ah (A0 (Ai Z (A4 (A0 (A5 (A0 (Ad _ [0,0] Z (Ae 2 Z (A0 (Ad _ [0,0,0,0,0,0,0,0,0,0,0,0,0,0,0,0,0,0,0,0,0,0,0,0,0,0] Z (Af 2 Z (Dl (s:=s) k u9 Z Z Z sD Ac ?_)))))))))))))
  by_cases a6:((K8 s k:Nat):Int)<97
  ·refine Ax true Z Z (A7 a6) Ac (Af 8 Z ?_)
   by_cases a7:((k:Nat):Int)=((0:Nat):Int)
   ·exact AA true Z Z (A7 a7) (Al (e:=19) Z Z Z) (Ae 13 Z (Ai Z (A0 (Ad _ [0] Z (Ae 1 Z (A3 (AL (Aq (Aq (AL (Aq (Ag [2] Z (.bool false) Z ⟨I8,a0⟩))))))))))))
   ·refine AA false Z Z (A8 a7) (Al (e:=19) Z Z Z) (Af 3 Z (Dl (s:=s) k u9 Z Z Z sD (Al (e:=22) Z Z Z) ?_))
    by_cases a8:((K8 s k:Nat):Int)<48
    ·exact Ax true Z Z (A7 a8) (Al (e:=22) Z Z Z) (Ae 8 Z (Ai Z (A0 (Ad _ [0] Z (Ae 1 Z (A3 (AL (Aq (Aq (AL (Aq (Ag [2] Z (.bool false) Z ⟨I8,a0⟩))))))))))))
    ·refine Ax false Z Z (A8 a8) (Al (e:=22) Z Z Z) (Af 4 Z (Dl (s:=s) k u9 Z Z Z sD (Al (e:=28) Z Z Z) ?_))
     by_cases a9:57<((K8 s k:Nat):Int)
     ·exact C6 true Z Z (A7 a9) (Al (e:=28) Z Z Z) (Ae 2 Z (Ai Z (A0 (Ad _ [0] Z (Ae 1 Z (A3 (AL (Aq (Aq (AL (Aq (Ag [2] Z (.bool false) Z ⟨I8,a0⟩))))))))))))
     ·refine C6 false Z Z (A8 a9) (Al (e:=28) Z Z Z) (Ae 2 Z (Aj Z (A4 (Ad _ [0,0] Z (AI ((k+1:Nat):Int) Z Z (B8 oM sD) Ac (Ae 1 Z ?_))))))
      exact⟨(k+1),_,rfl,⟨rfl,rfl,rfl,trivial⟩,⟨a0,sD,(by exact Ec hq (SU oM))⟩,by first|omega|(dsimp only;omega)⟩
  ·refine Ax false Z Z (A8 a6) Ac (Af 3 Z (Dl (s:=s) k u9 Z Z Z sD (Al (e:=13) Z Z Z) ?_))
   by_cases aa:122<((K8 s k:Nat):Int)
   ·refine C6 true Z Z (A7 aa) (Al (e:=13) Z Z Z) (Af 3 Z ?_)
    by_cases ab:((k:Nat):Int)=((0:Nat):Int)
    ·exact AA true Z Z (A7 ab) (Al (e:=19) Z Z Z) (Ae 13 Z (Ai Z (A0 (Ad _ [0] Z (Ae 1 Z (A3 (AL (Aq (Aq (AL (Aq (Ag [2] Z (.bool false) Z ⟨I8,a0⟩))))))))))))
    ·refine AA false Z Z (A8 ab) (Al (e:=19) Z Z Z) (Af 3 Z (Dl (s:=s) k u9 Z Z Z sD (Al (e:=22) Z Z Z) ?_))
     by_cases ac:((K8 s k:Nat):Int)<48
     ·exact Ax true Z Z (A7 ac) (Al (e:=22) Z Z Z) (Ae 8 Z (Ai Z (A0 (Ad _ [0] Z (Ae 1 Z (A3 (AL (Aq (Aq (AL (Aq (Ag [2] Z (.bool false) Z ⟨I8,a0⟩))))))))))))
     ·refine Ax false Z Z (A8 ac) (Al (e:=22) Z Z Z) (Af 4 Z (Dl (s:=s) k u9 Z Z Z sD (Al (e:=28) Z Z Z) ?_))
      by_cases a1:57<((K8 s k:Nat):Int)
      ·exact C6 true Z Z (A7 a1) (Al (e:=28) Z Z Z) (Ae 2 Z (Ai Z (A0 (Ad _ [0] Z (Ae 1 Z (A3 (AL (Aq (Aq (AL (Aq (Ag [2] Z (.bool false) Z ⟨I8,a0⟩))))))))))))
      ·refine C6 false Z Z (A8 a1) (Al (e:=28) Z Z Z) (Ae 2 Z (Aj Z (A4 (Ad _ [0,0] Z (AI ((k+1:Nat):Int) Z Z (B8 oM sD) Ac (Ae 1 Z ?_))))))
       exact⟨(k+1),_,rfl,⟨rfl,rfl,rfl,trivial⟩,⟨a0,sD,(by exact Ec hq (SU oM))⟩,by first|omega|(dsimp only;omega)⟩
   ·refine C6 false Z Z (A8 aa) (Al (e:=13) Z Z Z) (Ae 17 Z (Aj Z (A4 (Ad _ [0,0] Z (AI ((k+1:Nat):Int) Z Z (B8 oM sD) Ac (Ae 1 Z ?_))))))
    exact⟨(k+1),_,rfl,⟨rfl,rfl,rfl,trivial⟩,⟨a0,sD,(by exact Ec hq (SU oM))⟩,by first|omega|(dsimp only;omega)⟩
 ·refine Ax false Z Z (A8 a5) Ac (Ah (A0 (Aj Z (A6 (As (As (An (A0 (Ad _ [0,0,0,0,0,0,0,0,0] Z (Af 1 Z (Kd (s:=s) u9 Z Ac ?_)))))))))))
  by_cases a2:((1:Nat):Int)≤((s.size:Nat):Int)
  ·exact Gq true Z Z (A7 a2) Ac (Af 2 Z (Kd (s:=s) u9 Z (Al (e:=39) Z Z Z) (Ei (decide (((s.size:Nat):Int)≤((12:Nat):Int))) Z Z Z (Al (e:=39) Z Z Z) (Ae 2 Z (A3 (Ag [2] Z (.bool (decide (((s.size:Nat):Int)≤((12:Nat):Int)))) Z ⟨I8,a0⟩))))))
  ·exact Gq false Z Z (A8 a2) Ac (Ae 6 Z (A3 (Ag [2] Z (.bool false) Z ⟨I8,a0⟩)))
theorem HQ (w:World)(dx:Nat)(vo:Value)(x:Fn)(bf:Nat)(vf:Value)(f:Fn)(hx:RF [] dx w.heap vo x)(hBf:BX w.heap bf [.string f.name,.int .i64 f.params,vf])  :
  Calls Tryz.prog 196 #[(.agg #[(.string x.name),(.int .i64 x.params),vo]),.pointer (some ⟨bf,0,none⟩)] w (fun e w'=>e=.returned (.bool (GR x.name f.name))∧Az w w'):=by
 refine At [(.agg #[(.string x.name),(.int .i64 x.params),vo]),.pointer (some ⟨bf,0,none⟩)] 9 Tryz.func196 Z Z sM ?_
 have a3:Az w w:=Az.refl w
 have hl_vo:=hx.rn.lenle
 unfold maxLen at hl_vo
 refine A0 (Ad _ [3,0] Z ?_)
 have a6:=hBf.lt
 refine Bx (cs:=#[(.string x.name),(.int .i64 x.params),vo]) Z Ac fun w1 a1 a7 a2=>?_
 have a4:=a1.size
 have a5:=a3.trans a1
 have a0:=hBf.ext a1
 replace a2:BX w1.heap w.heap.size [(.string x.name),(.int .i64 x.params),vo]:=a2
 exact Ae 1 Z (A0 (Ad _ [0,2,0,2,0,0] Z (Ao (p:=(.pointer (some ⟨w.heap.size,0,none⟩))) (b:=w.heap.size) (o:=0) 0 GE Z Z Ac (Ak (p:=(Ay (.pointer (some ⟨w.heap.size,0,none⟩)) 0)) (.inr Z) (.string x.name) Nd Z (a2.ldp (i:=0) sM) Ac (Ao (p:=(.pointer (some ⟨bf,0,none⟩))) (b:=bf) (o:=0) 0 GE Z Z Ac (Ak (p:=(Ay (.pointer (some ⟨bf,0,none⟩)) 0)) (.inr Z) (.string f.name) Nd Z (a0.ldp (i:=0) sM) Ac (Qs (GR x.name f.name) u9 Z Z Z Ac (Ae 1 Z (A3 (Ag [3] Z (.bool (GR x.name f.name)) Z ⟨rfl,a5⟩))))))))))
theorem Dc (w:World) (da:Nat) (va:Value) (a:List Fn) (q:Nat) (qf qc:List Value) (pr:Fn→Bool) (ha:RP [] da w.heap va a) (hcf_q:((Tryz.prog.funcs[q]?).map fun fn=>(fn.name != "runtime.NumGoroutine") && fn.body.isSome) = some true) (hpr:∀ (d9:Nat) (u:Value) (x:Fn) w1,RF [] d9 w1.heap u x→Az w w1→Calls Tryz.prog q (qf++[Value.agg #[Value.string x.name,Value.int .i64 x.params,u]]++qc).toArray w1 (fun e w2=>e = .returned (.bool (pr x))∧Az w1 w2))  :
  Calls Tryz.prog 228 #[va,.func (.func q) qf.toArray qc.toArray] w (fun e w'=>e = .returned (.int .i64 (TH pr a))∧Az w w'):=by
 refine At [va,.func (.func q) qf.toArray qc.toArray] 19 Tryz.func228 Z Z sM ?_
 have a5:Az w w:=Az.refl w
 have hl_va:=ha.lenle
 unfold maxLen at hl_va
 refine A0 (Ad _ [0] Z (Ae 1 Z (A0 (A0 (Ad _ [0,0,0] Z (Af 1 Z (AJ (v:=va) Gm Z ha.isSl Ac (Ae 1 Z (A5 ?_)))))))))
 refine AN (S:=Nat) (fun k=>([(8,(.int .i64 ((k :Nat):Int))),(0,va),(1,(.func (.func q) qf.toArray qc.toArray)),(7,(.int .i64 ((a.length :Nat):Int)))])) (fun k W=>Az w W∧k≤a.length∧(∀ j,j < k→pr (a.getD j Fn.zero) = false)) (fun k=>a.length - k) 0 ⟨rfl,rfl,rfl,rfl,trivial⟩ ⟨a5,sD,(by intro j hj; omega)⟩ ?_
 clear a5
 rintro k ρ1 w1 ⟨a1,a6,hq⟩
 have aa:w.heap.size≤w1.heap.size:=a1.size
 refine A0 (Ad _ [0] Z ?_)
 by_cases a7:((k :Nat):Int) < ((a.length :Nat):Int)
 ·
  refine Ax true Z Z (A7 a7) Ac (Ah (A0 (Ai Z (A4 (A0 (A5 (A0 (Ad _ [0,0] Z (Ae 2 Z (A0 (Ad _ [0,0,0,0,2,3] Z (Af 3 Z (Au (v:=va) k Gm CA Z Z ha.isSl Z sD Ac ?_)))))))))))))
  obtain ⟨cs3,ab,ac⟩:=ha.get (AB da) Fn.zero (k:=k) sD
  obtain ⟨a8,rfl,a2⟩:=RF.of ab
  have a3:=a2.rn.lenle
  unfold maxLen at a3
  refine AR (p:=Aw va k 3) (.inr Z) [(.string ((a.getD k Fn.zero).name)),(.int .i64 ((a.getD k Fn.zero).params)),a8] I3 Z (fun wq9 ad=>ac wq9 (AE.of_ext [] (a1.trans ad))) Z Ac ?_
  have a0:=hpr da a8 (a.getD k Fn.zero) w1 ⟨a2.rng,(a2.rn.ext (Am (AC da)) a1)⟩ a1
  refine Ap q qf qc _ Z Z hcf_q Ac a0 ?_
  rintro e4 w4 ⟨rfl,a4⟩
  refine ⟨_,rfl,a4,?_⟩
  have ae:=a4.size
  have a9:=a1.trans a4
  cases af:pr (a.getD k Fn.zero)
  ·
   refine Ah (Aj Z (A4 (Ad _ [0,0] Z (AI ((k + 1 :Nat):Int) Z Z (B8 oM sD) Ac (Ae 1 Z ?_)))))
   exact ⟨(k + 1),_,rfl,⟨rfl,rfl,rfl,rfl,trivial⟩,⟨a9,sD,(by exact ST hq (by assumption))⟩,by first | omega | (dsimp only; omega)⟩
  ·
   exact Ah (Ai Z (A0 (Ad _ [0,0] Z (Ae 2 Z (A3 (AL (Aq (Aq (AL (Aq (Ag [4] Z (.int .i64 ((k :Nat):Int)) Z ⟨(AV (Xo Fn.zero hq oM (by assumption))),a9⟩)))))))))))
 ·
  exact Ax false Z Z (A8 a7) Ac (Ah (A0 (Aj Z (A6 (As (As (An (A0 (Ad _ [0] Z (Ae 1 Z (A3 (Ag [4] Z (.int .i64 (-1)) Z ⟨(AV (aT Fn.zero hq oM)),a1⟩))))))))))))
theorem CX (w:World) (da:Nat) (va:Value) (a:List Fn) (q:Nat) (qf qc:List Value) (pr:Fn→Bool) (ha:RP [] da w.heap va a) (hcf_q:((Tryz.prog.funcs[q]?).map fun fn=>(fn.name != "runtime.NumGoroutine") && fn.body.isSome) = some true) (hpr:∀ (d9:Nat) (u:Value) (x:Fn) w1,RF [] d9 w1.heap u x→Az w w1→Calls Tryz.prog q (qf++[Value.agg #[Value.string x.name,Value.int .i64 x.params,u]]++qc).toArray w1 (fun e w2=>e = .returned (.bool (pr x))∧Az w1 w2))  :
  Calls Tryz.prog 195 #[va,.func (.func q) qf.toArray qc.toArray] w (fun e w'=>e = .returned (.bool (a.any pr))∧Az w w'):=by
 refine At [va,.func (.func q) qf.toArray qc.toArray] 9 Tryz.func195 Z Z sM ?_
 have a0:Az w w:=Az.refl w
 have hl_va:=ha.lenle
 unfold maxLen at hl_va
 refine A0 (Ad _ [0] Z (Ae 1 Z (A0 (Ad _ [0,0,3,0,0] Z (Af 2 Z (Ap 228 [] [] [va,(.func (.func q) qf.toArray qc.toArray)] Z Z iG Ac (Dc _ da va (a) q qf qc pr (ha.ext (Am (AB da)) a0) hcf_q (fun d9 u x w1 hx hw=>hpr d9 u x w1 hx (a0.trans hw))) ?_))))))
 rintro e1 w1 ⟨rfl,a1⟩
 refine ⟨_,rfl,a1,?_⟩
 have a2:=a1.size
 have a3:=a0.trans a1
 exact Gq (decide (((0 :Nat):Int)≤TH pr a)) Z Z Z Ac (Ae 1 Z (A3 (Ag [4] Z (.bool (decide (((0 :Nat):Int)≤TH pr a))) Z ⟨(AG (aU pr a)),a3⟩)))
theorem MC (w:World)(vars:Int)(_hvars:BC vars)  :
  Calls Tryz.prog 229 #[.int .i64 vars] w (fun e w'=>e=.returned (.bool (Hm vars 0 412))∧w'=w):=by
 refine At [.int .i64 vars] 5 Tryz.func229 Z Z sM ?_
 have a0:w=w:=rfl
 exact A0 (Ad _ [0] Z (Ae 1 Z (A0 (Ad _ [0,0,0] Z (Af 1 Z (AD 72 [] [] [(.int .i64 vars),(.int .i64 ((0:Nat):Int)),(.int .i64 ((412:Nat):Int))] Z Z KD Ac (.bool (decide (((0:Nat):Int)≤vars) && decide (vars≤((412:Nat):Int)))) (fun wq=>BD wq _ _ _ _hvars oM oM) (Ae 1 Z (A3 (Ag [2] Z (.bool (decide (((0:Nat):Int)≤vars) && decide (vars≤((412:Nat):Int)))) Z ⟨rfl,a0⟩)))))))))
theorem SW {p:List Fn}{e:Ex}{vars funcs:Int}(h:(0≤vars∧vars≤412)∧(0≤funcs∧funcs≤((p.length:Nat):Int))∧e.size≤400∧e.deep≤60):wf p funcs e vars=NO p e vars funcs:=by
  unfold NO
  rw[CH.2 h.1,CH.2 h.2.1,A7 h.2.2.1,A7 h.2.2.2];rfl
theorem O4 {p:List Fn}{e:Ex}{vars funcs:Int}(h:¬((0≤vars∧vars≤412)∧(0≤funcs∧funcs≤((p.length:Nat):Int))∧e.size≤400∧e.deep≤60)):false=NO p e vars funcs:=by
  cases hh:NO p e vars funcs with
  |false=>rfl
  |true =>
    unfold NO at hh
    simp only[Bool.and_eq_true,decide_eq_true_eq,CH]at hh
    exact absurd ⟨hh.1,hh.2.1,hh.2.2.1,hh.2.2.2.1⟩ h
theorem aW {p:List Fn}{e:Ex}{vars funcs:Int}(h:wf p funcs e vars=false):false=NO p e vars funcs:=by
  unfold NO;rw[h];simp
theorem Xr {x a b:Int}(h:Hm x a b=false):¬(a≤x∧x≤b):=fun hh=>by rw[CH.2 hh]at h;cases h
theorem Qe {x a b:Int}(h:(decide (a≤x) && decide (x≤b))=false):¬(a≤x∧x≤b):=Xr h
theorem I9 {x a b:Int}(h:(decide (a≤x) && decide (x≤b))=true):a≤x∧x≤b:=CH.1 h
theorem MD {p:Prop}(h:p:=by first|exact AG (aW (by assumption))|exact AG (SW ⟨CH.1 (by assumption),I9 (by assumption),by omega,by omega⟩)|exact AG ((by assumption:wf p funcs ex vars=true).symm.trans (SW ⟨CH.1 (by assumption),I9 (by assumption),by omega,by omega⟩))|exact AG (O4 fun hh=>Xr (by assumption) hh.1)|exact AG (O4 fun hh=>Qe (by assumption) hh.2.1)|exact AG (O4 oM)):p:=h
theorem KF (w:World)(dp:Nat)(vp:Value)(p:List Fn)(dex:Nat)(ve:Value)(ex:Ex)(vars:Int)(funcs:Int)(hp:RP [] dp w.heap vp p)(hex:RX [] dex w.heap ve ex)(_hvars:BC vars)(_hfuncs:BC funcs)(hs:ex.size≤1000000000) :
  Calls Tryz.prog 197 #[(.agg #[vp]),(.agg #[(.int .i64 ex.kind),(.int .i64 ex.num),(.int .i64 ex.pick),(.int .i64 ex.count),ve]),.int .i64 vars,.int .i64 funcs] w (fun e w'=>e=.returned (.bool (NO p ex vars funcs))∧Az w w'):=by
 refine At [(.agg #[vp]),(.agg #[(.int .i64 ex.kind),(.int .i64 ex.num),(.int .i64 ex.pick),(.int .i64 ex.count),ve]),.int .i64 vars,.int .i64 funcs] 36 Tryz.func197 Z Z sM ?_
 have am:Az w w:=Az.refl w
 have hl_vp:=hp.lenle
 unfold maxLen at hl_vp
 have hl_ve:=hex.rn.lenle
 unfold maxLen at hl_ve
 refine A0 (Ad _ [3,3,0] Z (Bx (cs:=#[vp]) Z Ac fun w1 ai ar ac=>?_))
 have an:=ai.size
 have ao:=am.trans ai
 replace ac:BX w1.heap w.heap.size [vp]:=ac
 have au:=ac.lt
 refine Bx (cs:=#[(.int .i64 ex.kind),(.int .i64 ex.num),(.int .i64 ex.pick),(.int .i64 ex.count),ve]) Z Ac fun w2 af av ad=>?_
 have ap:=af.size
 have ae:=ao.trans af
 have a2:=ac.ext af
 replace ad:BX w2.heap w1.heap.size [(.int .i64 ex.kind),(.int .i64 ex.num),(.int .i64 ex.pick),(.int .i64 ex.count),ve]:=ad
 refine Ae 1 Z (A0 (Ad _ [0,0,0,0,0,2,0,0,0,0,2,3,0,0,0,2,3,0,0,0,2,0,0,2,0,3,0,0] Z (Af 1 Z (AD 229 [] [] [(.int .i64 vars)] Z Z iH Ac (.bool (Hm vars 0 412)) (fun wq=>MC wq _ _hvars) (Af 1 Z ?_)))))
 cases aw:(Hm vars 0 412)
 ·exact Ae 25 Z (A3 (Ag [8] Z (.bool false) Z ⟨MD,ae⟩))
 ·refine Af 1 Z (Ao (p:=(.pointer (some ⟨w.heap.size,0,none⟩))) (b:=w.heap.size) (o:=0) 0 BM Z Z (Al (e:=11) Z Z Z) (Ak (p:=(Ay (.pointer (some ⟨w.heap.size,0,none⟩)) 0)) (.inr Z) vp Cs Z (a2.ldp (i:=0) sM) (Al (e:=11) Z Z Z) (AJ (v:=vp) Gm Z hp.isSl (Al (e:=11) Z Z Z) (AD 72 [] [] [(.int .i64 funcs),(.int .i64 ((0:Nat):Int)),(.int .i64 ((p.length:Nat):Int))] Z Z KD (Al (e:=11) Z Z Z) (.bool (decide (((0:Nat):Int)≤funcs) && decide (funcs≤((p.length:Nat):Int)))) (fun wq=>BD wq _ _ _ _hfuncs oM oM) (Af 2 Z ?_)))))
  cases ax:(decide (((0:Nat):Int)≤funcs) && decide (funcs≤((p.length:Nat):Int)))
  ·exact Ae 18 Z (A3 (Ag [8] Z (.bool false) Z ⟨MD,ae⟩))
  ·refine AR (p:=(.pointer (some ⟨w1.heap.size,0,none⟩))) (.inr Z) [(.int .i64 ex.kind),(.int .i64 ex.num),(.int .i64 ex.pick),(.int .i64 ex.count),ve] BS Z (fun wq9 a4=>LD.of_box (BX.ext (w:=w2) ad a4)) Z (Al (e:=18) Z Z Z) (Ap 198 [] [] [(.agg #[(.int .i64 ex.kind),(.int .i64 ex.num),(.int .i64 ex.pick),(.int .i64 ex.count),ve])] Z Z Xd (Al (e:=18) Z Z Z) (HM _ dex ve (ex) (hex.ext ae) oM) ?_)
   rintro e8 w8 ⟨rfl,a8⟩
   refine⟨_,rfl,a8,?_⟩
   have aq:=a8.size
   have ag:=ae.trans a8
   have a9:=a2.ext a8
   have a3:=ad.ext a8
   by_cases aj:((ex.size:Nat):Int)≤((400:Nat):Int)
   ·refine Ei true Z Z (A7 aj) (Al (e:=18) Z Z Z) (Af 2 Z (AR (p:=(.pointer (some ⟨w1.heap.size,0,none⟩))) (.inr Z) [(.int .i64 ex.kind),(.int .i64 ex.num),(.int .i64 ex.pick),(.int .i64 ex.count),ve] BS Z (fun wq9 a4=>LD.of_box (BX.ext (w:=w8) a3 a4)) Z (Al (e:=23) Z Z Z) (Ap 230 [] [] [(.agg #[(.int .i64 ex.kind),(.int .i64 ex.num),(.int .i64 ex.pick),(.int .i64 ex.count),ve])] Z Z aP (Al (e:=23) Z Z Z) (KE _ dex ve (ex) (hex.ext ag) oM) ?_)))
    rintro e10 w10 ⟨rfl,a0⟩
    refine⟨_,rfl,a0,?_⟩
    have ak:=a0.size
    have a1:=ag.trans a0
    have a5:=a9.ext a0
    have a6:=a3.ext a0
    by_cases aa:((ex.deep:Nat):Int)≤((60:Nat):Int)
    ·refine Ei true Z Z (A7 aa) (Al (e:=23) Z Z Z) (Af 2 Z (AR (p:=(.pointer (some ⟨w.heap.size,0,none⟩))) (.inr Z) [vp] EB Z (fun wq9 a4=>LD.of_box (BX.ext (w:=w10) a5 a4)) Z (Al (e:=28) Z Z Z) (Af 1 Z ?_)))
     have ab:∀(vp:Value) (m12_0:Nat) (h12_0:FS vp m12_0) (wq:World),(Instr.build 237 #[(0,(.agg #[vp])),(1,(.int .i64 funcs))]).run Tryz.prog wq=.ok (.agg #[vp,(.int .i64 funcs)]) wq:=by intro vp m12_0 h12_0 wq;obtain⟨a12_0,c12_0,rfl,_⟩:=h12_0;kernel_rfl
     refine ER (ps:=#[(0,(.agg #[vp])),(1,(.int .i64 funcs))]) (.agg #[vp,(.int .i64 funcs)]) (by simp only[List.map_toArray,List.map_cons,List.map_nil];rfl) (fun wq=>ab vp _ hp.isSl wq) (Al (e:=28) Z Z Z) (AR (p:=(.pointer (some ⟨w1.heap.size,0,none⟩))) (.inr Z) [(.int .i64 ex.kind),(.int .i64 ex.num),(.int .i64 ex.pick),(.int .i64 ex.count),ve] BS Z (fun wq9 a4=>LD.of_box (BX.ext (w:=w10) a6 a4)) Z (Al (e:=28) Z Z Z) (Af 1 Z ?_))
     refine Ap 231 [] [] [(.agg #[vp,(.int .i64 funcs)]),(.agg #[(.int .i64 ex.kind),(.int .i64 ex.num),(.int .i64 ex.pick),(.int .i64 ex.count),ve]),(.int .i64 vars)] Z Z SI (Al (e:=28) Z Z Z) (Ha _ dp vp (p) (funcs) dex ve (ex) _ (hp.ext (Am (AB dp)) a1) _hfuncs (hex.ext a1) _hvars (by have h1:=CH.1 (by assumption:Hm vars 0 412=true);omega) (by have h2:=I9 (by assumption:(decide (((0:Nat):Int)≤funcs) && decide (funcs≤((p.length:Nat):Int)))=true);omega)) ?_
     rintro e13 w13 ⟨rfl,a7⟩
     refine⟨_,rfl,a7,?_⟩
     have al:=a7.size
     have ah:=a1.trans a7
     exact Ae 2 Z (A3 (Ag [8] Z (.bool (wf p funcs ex vars)) Z ⟨MD,ah⟩))
    ·exact Ei false Z Z (A8 aa) (Al (e:=23) Z Z Z) (Ae 10 Z (A3 (Ag [8] Z (.bool false) Z ⟨MD,a1⟩)))
   ·exact Ei false Z Z (A8 aj) (Al (e:=18) Z Z Z) (Ae 15 Z (A3 (Ag [8] Z (.bool false) Z ⟨MD,ag⟩)))
theorem Xs {p:List Fn}(h:¬p.length≤16):false=Ln p:=by unfold Ln;rw[A8 h];rfl
theorem Je {p:List Fn}{k:Nat}(hk:k<p.length)(h:L4 p k=false):false=Ln p:=by unfold Ln;rw[Ku hk h,Bool.and_false]
theorem Xt {p:List Fn}{k:Nat}(hl:p.length≤16)(hk:p.length≤k)(hk2:k≤p.length)(h:(List.range k).all (L4 p)=true):true=Ln p:=by
  have:k=p.length:=by omega
  subst this;unfold Ln;rw[h,A7 hl];rfl
section
variable {p:List Fn} {k:Nat}
theorem iX (h:Pd (p.getD k Fn.zero).name=false):L4 p k=false:=by unfold L4;rw[h];rfl
theorem iY (h:(p.take k).any (fun g=>GR g.name (p.getD k Fn.zero).name)=true):L4 p k=false:=by unfold L4 cU;rw[h];simp
theorem iZ (h:(decide (((0:Nat):Int)≤(p.getD k Fn.zero).params) && decide ((p.getD k Fn.zero).params≤((12:Nat):Int)))=false):L4 p k=false:=by
  have h':Hm (p.getD k Fn.zero).params 0 12=false:=h
  unfold L4;rw[h'];simp
theorem jA (h:(decide (((1:Nat):Int)≤(((p.getD k Fn.zero).outs.length:Nat):Int)) && decide ((((p.getD k Fn.zero).outs.length:Nat):Int)≤((12:Nat):Int)))=false):L4 p k=false:=by
  have h':Hm (((p.getD k Fn.zero).outs.length:Nat):Int) 1 12=false:=h
  unfold L4;rw[h'];simp
theorem jB {j:Nat}(hj:j<(p.getD k Fn.zero).outs.length)(h:NO p ((p.getD k Fn.zero).outs.getD j Ex.zero) (p.getD k Fn.zero).params ((k:Nat):Int)=false):L4 p k=false:=by
  unfold L4
  rw[Ku hj h];simp
theorem jC (h:¬Ex.sizes (p.getD k Fn.zero).outs≤400):L4 p k=false:=by
  unfold L4;rw[A8 h];simp
theorem aX {j:Nat}(h1:Pd (p.getD k Fn.zero).name=true)(h2:(p.take k).any (fun g=>GR g.name (p.getD k Fn.zero).name)=false)(h3:(decide (((0:Nat):Int)≤(p.getD k Fn.zero).params) && decide ((p.getD k Fn.zero).params≤((12:Nat):Int)))=true)(h4:(decide (((1:Nat):Int)≤(((p.getD k Fn.zero).outs.length:Nat):Int)) && decide ((((p.getD k Fn.zero).outs.length:Nat):Int)≤((12:Nat):Int)))=true)(h5:(List.range j).all (fun j=>NO p ((p.getD k Fn.zero).outs.getD j Ex.zero) (p.getD k Fn.zero).params ((k:Nat):Int))=true)(hj:j=(p.getD k Fn.zero).outs.length)(h6:Ex.sizes (p.getD k Fn.zero).outs≤400):L4 p k=true:=by
  have h3':Hm (p.getD k Fn.zero).params 0 12=true:=h3
  have h4':Hm (((p.getD k Fn.zero).outs.length:Nat):Int) 1 12=true:=h4
  subst hj
  unfold L4 cU
  rw[h1,h2,h3',h4',h5,A7 h6];rfl
end
theorem Ez {b:Bool}(h:(!b)=false):b=true:=by cases b <;> simp_all
theorem Gb {b:Bool}(h:(!b)=true):b=false:=by cases b <;> simp_all
theorem Ia {p:Prop}(h:p:=by first|exact AG (Xs oM)|exact AG (Xt oM oM oM hq)|exact AG (Je (k:=k) oM (iX (Gb (by assumption))))|exact AG (Je (k:=k) oM (iY (by assumption)))|exact AG (Je (k:=k) oM (iZ (Gb (by assumption))))|exact AG (Je (k:=k) oM (jA (Gb (by assumption))))|exact AG (Je (k:=k) oM (jB (j:=j) oM (Gb (by assumption))))|exact AG (Je (k:=k) oM (jC oM))):p:=h
theorem IF (w:World)(dp:Nat)(vp:Value)(p:List Fn)(hp:RP [] dp w.heap vp p)(hz:Tq p) :
  Calls Tryz.prog 152 #[(.agg #[vp])] w (fun e w'=>e=.returned (.bool (Ln p))∧Az w w'):=by
 refine At [(.agg #[vp])] 65 Tryz.func152 Z Z sM ?_
 have bq:Az w w:=Az.refl w
 have hl_vp:=hp.lenle
 unfold maxLen at hl_vp
 refine A0 (Ad _ [3,0] Z (Bx (cs:=#[vp]) Z Ac fun w1 be c0 aw=>?_))
 have bf:=be.size
 have bg:=bq.trans be
 replace aw:BX w1.heap w.heap.size [vp]:=aw
 refine Ae 1 Z (A0 (A0 (Ad _ [0,2,0,0] Z (Ao (p:=(.pointer (some ⟨w.heap.size,0,none⟩))) (b:=w.heap.size) (o:=0) 0 BM Z Z Ac (Ak (p:=(Ay (.pointer (some ⟨w.heap.size,0,none⟩)) 0)) (.inr Z) vp Cs Z (aw.ldp (i:=0) sM) Ac (AJ (v:=vp) Gm Z hp.isSl Ac ?_))))))
 by_cases br:((16:Nat):Int)<((p.length:Nat):Int)
 ·exact C6 true Z Z (A7 br) Ac (Ah (Ai Z (A0 (Ad _ [0] Z (Ae 1 Z (A3 (Aq (Ag [2] Z (.bool false) Z ⟨Ia,bg⟩))))))))
 ·refine C6 false Z Z (A8 br) Ac (Ah (Aj Z (A4 (A0 (A0 (Ad _ [0,2,0,0] Z (Ao (p:=(.pointer (some ⟨w.heap.size,0,none⟩))) (b:=w.heap.size) (o:=0) 0 BM Z Z Ac (Ak (p:=(Ay (.pointer (some ⟨w.heap.size,0,none⟩)) 0)) (.inr Z) vp Cs Z (aw.ldp (i:=0) sM) Ac (AJ (v:=vp) Gm Z hp.isSl Ac (Ae 1 Z (A5 ?_)))))))))))
  refine AN (S:=Nat) (fun k=>([(15,(.int .i64 ((k:Nat):Int))),(1,(.pointer (some ⟨w.heap.size,0,none⟩))),(13,vp),(14,(.int .i64 ((p.length:Nat):Int)))])) (fun k W=>Az w W∧BX W.heap w.heap.size [vp]∧k≤p.length∧(List.range k).all (L4 p)=true) (fun k=>p.length-k) 0 ⟨rfl,rfl,rfl,rfl,trivial⟩ ⟨bg,aw,sD,(by rfl)⟩ ?_
  clear bq c0 be bf bg
  rintro k ρ3 w3 ⟨ax,a4,bs,hq⟩
  have bh:w.heap.size≤w3.heap.size:=ax.size
  have ce:=a4.lt
  refine A0 (Ad _ [0] Z ?_)
  by_cases bt:((k:Nat):Int)<((p.length:Nat):Int)
  ·refine Ax true Z Z (A7 bt) Ac (Ah (A0 (Ai Z (A4 (A0 (A5 (A0 (Ad _ [0,0,2,3,0,4] Z (Af 1 Z (Au (v:=vp) k Gm CA Z Z hp.isSl Z sD Ac ?_))))))))))
   obtain⟨cs6,c1,c2⟩:=hp.get (AB dp) Fn.zero (k:=k) sD
   obtain⟨ab,rfl,ap⟩:=RF.of c1
   have ay:=ap.rn.lenle
   unfold maxLen at ay
   refine AR (p:=Aw vp k 3) (.inr Z) [(.string ((p.getD k Fn.zero).name)),(.int .i64 ((p.getD k Fn.zero).params)),ab] I3 Z (fun wq9 af=>c2 wq9 (AE.of_ext [] (ax.trans af))) Z Ac ?_
   have cf:=a4.lt
   refine BJ (z:=.agg #[.string ByteArray.empty,.int .i64 0,.slice none 0 0]) YZ Ac fun w7 bb c3 bi=>?_
   have bj:=bb.size
   have bk:=ax.trans bb
   have a5:=a4.ext bb
   replace bi:BX w7.heap w3.heap.size [(.string ByteArray.empty),(.int .i64 0),(.slice none 0 0)]:=bi
   refine Af 1 Z (CT (vs:=[(.string ((p.getD k Fn.zero).name)),(.int .i64 ((p.getD k Fn.zero).params)),ab]) I3 Z Z ap.ones bi Z Z Ac fun w9 bc c4 az=>?_)
   replace az:BX w9.heap w3.heap.size [(.string ((p.getD k Fn.zero).name)),(.int .i64 ((p.getD k Fn.zero).params)),ab]:=az
   have bd:Az w w9:=bc.below bk (fun c hc=>by have:=Ab hc;omega) bk.size
   have bl:=bc.size
   have aq:=a5.chg bc (fun hm=>by have:=Ab hm;omega)
   refine Ah (A0 (A0 (Ad _ [0,2,0,0,0,0,2,0,0,0,3,0] Z ?_)))
   have hzk:=hz k oM
   refine Ao (p:=(.pointer (some ⟨w3.heap.size,0,none⟩))) (b:=w3.heap.size) (o:=0) 0 GE Z Z Ac (Ak (p:=(Ay (.pointer (some ⟨w3.heap.size,0,none⟩)) 0)) (.inr Z) (.string ((p.getD k Fn.zero).name)) Nd Z (az.ldp (i:=0) sM) Ac (AD 194 [] [] [(.string ((p.getD k Fn.zero).name))] Z Z gS Ac (.bool (Pd ((p.getD k Fn.zero).name))) (fun wq=>Ng wq ((p.getD k Fn.zero).name) oM) (Bn (!(Pd ((p.getD k Fn.zero).name))) Z Z Ac (Af 1 Z ?_))))
   cases c5:(!(Pd ((p.getD k Fn.zero).name)))
   ·refine Ao (p:=(.pointer (some ⟨w.heap.size,0,none⟩))) (b:=w.heap.size) (o:=0) 0 BM Z Z (Al (e:=24) Z Z Z) (Ak (p:=(Ay (.pointer (some ⟨w.heap.size,0,none⟩)) 0)) (.inr Z) vp Cs Z (aq.ldp (i:=0) sM) (Al (e:=24) Z Z Z) (Af 1 Z (U2 (v:=vp) (k:=k) Gm CA Z hp.isSl hp.capS Z sD (Al (e:=24) Z Z Z) ?_)))
    have b0:=RN.pref (AB dp) (k:=k) hp sD
    refine Ql [] [(.pointer (some ⟨w3.heap.size,0,none⟩))] Z Z (Al (e:=24) Z Z Z) (Ap 195 [] [] [(LO vp k),(.func (.func 196) #[] #[(.pointer (some ⟨w3.heap.size,0,none⟩))])] Z Z gT (Al (e:=24) Z Z Z) (CX _ dp (LO vp k) (p.take k) 196 [] [(.pointer (some ⟨w3.heap.size,0,none⟩))] (fun g=>GR g.name (p.getD k Fn.zero).name) (b0.ext (Am (AB dp)) bd) gU (fun d9 u x w1 hx hw=>HQ w1 d9 u x w3.heap.size ab (p.getD k Fn.zero) hx (az.ext hw))) ?_)
    rintro e14 w14 ⟨rfl,a7⟩
    refine⟨_,rfl,a7,?_⟩
    have b1:=a7.size
    have ac:=bd.trans a7
    have a6:=aq.ext a7
    have a0:=az.ext a7
    refine Ae 1 Z ?_
    cases b2:((p.take k).any (fun g=>GR g.name (p.getD k Fn.zero).name))
    ·refine Aj (by first|rfl|(show Value.bool _=_;rw[b2])) (A4 (A0 (A0 (Ad _ [0,2,0,0,0,0,2,0,0,0,0] Z (Ao (p:=(.pointer (some ⟨w3.heap.size,0,none⟩))) (b:=w3.heap.size) (o:=0) 1 Cw Z Z Ac (Ak (p:=(Ay (.pointer (some ⟨w3.heap.size,0,none⟩)) 1)) (.inr Z) (.int .i64 ((p.getD k Fn.zero).params)) AH Z (a0.ldp (i:=1) sM) Ac (AD 72 [] [] [(.int .i64 ((p.getD k Fn.zero).params)),(.int .i64 ((0:Nat):Int)),(.int .i64 ((12:Nat):Int))] Z Z KD Ac (.bool (decide (((0:Nat):Int)≤((p.getD k Fn.zero).params)) && decide (((p.getD k Fn.zero).params)≤((12:Nat):Int)))) (fun wq=>BD wq _ _ _ ap.rng oM oM) ?_)))))))
     refine Bn (!(decide (((0:Nat):Int)≤((p.getD k Fn.zero).params)) && decide (((p.getD k Fn.zero).params)≤((12:Nat):Int)))) Z Z Ac (Af 1 Z ?_)
     cases c6:(!(decide (((0:Nat):Int)≤((p.getD k Fn.zero).params)) && decide (((p.getD k Fn.zero).params)≤((12:Nat):Int))))
     ·refine Ao (p:=(.pointer (some ⟨w3.heap.size,0,none⟩))) (b:=w3.heap.size) (o:=0) 2 Cu Z Z (Al (e:=36) Z Z Z) (Ak (p:=(Ay (.pointer (some ⟨w3.heap.size,0,none⟩)) 2)) (.inr Z) ab Bp Z (a0.ldp (i:=2) sM) (Al (e:=36) Z Z Z) (AJ (v:=ab) DK Z ap.rn.isSl (Al (e:=36) Z Z Z) (AD 72 [] [] [(.int .i64 ((((p.getD k Fn.zero).outs).length:Nat):Int)),(.int .i64 ((1:Nat):Int)),(.int .i64 ((12:Nat):Int))] Z Z KD (Al (e:=36) Z Z Z) (.bool (decide (((1:Nat):Int)≤((((p.getD k Fn.zero).outs).length:Nat):Int)) && decide (((((p.getD k Fn.zero).outs).length:Nat):Int)≤((12:Nat):Int)))) (fun wq=>BD wq _ _ _ oM oM oM) ?_)))
      refine Bn (!(decide (((1:Nat):Int)≤((((p.getD k Fn.zero).outs).length:Nat):Int)) && decide (((((p.getD k Fn.zero).outs).length:Nat):Int)≤((12:Nat):Int)))) Z Z (Al (e:=36) Z Z Z) (Ae 1 Z ?_)
      cases b3:(!(decide (((1:Nat):Int)≤((((p.getD k Fn.zero).outs).length:Nat):Int)) && decide (((((p.getD k Fn.zero).outs).length:Nat):Int)≤((12:Nat):Int))))
      ·refine Aj (by first|rfl|(show Value.bool _=_;rw[b3])) (A4 (A0 (Ad _ [0] Z (Ae 1 Z (A0 (A0 (Ad _ [0,2,0,0] Z (Ao (p:=(.pointer (some ⟨w3.heap.size,0,none⟩))) (b:=w3.heap.size) (o:=0) 2 Cu Z Z Ac (Ak (p:=(Ay (.pointer (some ⟨w3.heap.size,0,none⟩)) 2)) (.inr Z) ab Bp Z (a0.ldp (i:=2) sM) Ac (AJ (v:=ab) DK Z ap.rn.isSl Ac (Ae 1 Z (A5 ?_))))))))))))
       refine AN (S:=Nat×Nat) (fun⟨j,sz⟩=>([(5,(.int .i64 ((sz:Nat):Int))),(46,(.int .i64 ((j:Nat):Int))),(1,(.pointer (some ⟨w.heap.size,0,none⟩))),(3,(.int .i64 ((k:Nat):Int))),(4,(.pointer (some ⟨w3.heap.size,0,none⟩))),(13,vp),(14,(.int .i64 ((p.length:Nat):Int))),(15,(.int .i64 ((k:Nat):Int))),(44,ab),(45,(.int .i64 ((((p.getD k Fn.zero).outs).length:Nat):Int)))])) (fun⟨j,sz⟩ W=>Az w W∧BX W.heap w.heap.size [vp]∧BX W.heap w3.heap.size [(.string ((p.getD k Fn.zero).name)),(.int .i64 ((p.getD k Fn.zero).params)),ab]∧j≤(p.getD k Fn.zero).outs.length∧sz=Ex.sizes ((p.getD k Fn.zero).outs.take j)∧(List.range j).all (fun j=>NO p ((p.getD k Fn.zero).outs.getD j Ex.zero) (p.getD k Fn.zero).params ((k:Nat):Int))=true) (fun⟨j,sz⟩=>(p.getD k Fn.zero).outs.length-j) (0,0) ⟨rfl,rfl,rfl,rfl,rfl,rfl,rfl,rfl,rfl,rfl,trivial⟩ ⟨ac,a6,a0,sD,(by rw[List.take_zero,Ih]),(by rfl)⟩ ?_
       clear a4 ax bh ay c3 bb bj bk a5 c4 bc bd bl aq a7 b1 ac a6
       rintro⟨j,sz⟩ ρ20 w20 ⟨ad,a1,a3,bm,hsz,hqe⟩
       have bu:w.heap.size≤w20.heap.size:=ad.size
       have c7:=a1.lt
       have c8:=a3.lt
       refine A0 (Ad _ [0] Z ?_)
       by_cases b4:((j:Nat):Int)<((((p.getD k Fn.zero).outs).length:Nat):Int)
       ·refine Ax true Z Z (A7 b4) Ac (Ah (A0 (Ai Z (A4 (A0 (A5 (A0 (Ad _ [0,2,3,4] Z (Au (v:=ab) j DK BB Z Z ap.rn.isSl Z sD Ac ?_)))))))))
        obtain⟨cs24,bn,bo⟩:=ap.rn.get (AC dp) Ex.zero (k:=j) sD
        obtain⟨dd24,a2,c9,rfl,ag⟩:=RX.of bn
        have b5:=ag.rn.lenle
        unfold maxLen at b5
        refine AR (p:=Aw ab j 5) (.inr Z) [(.int .i64 ((((p.getD k Fn.zero).outs).getD j Ex.zero).kind)),(.int .i64 ((((p.getD k Fn.zero).outs).getD j Ex.zero).num)),(.int .i64 ((((p.getD k Fn.zero).outs).getD j Ex.zero).pick)),(.int .i64 ((((p.getD k Fn.zero).outs).getD j Ex.zero).count)),a2] BS Z (fun wq9 af=>bo wq9 (AE.of_ext [] (ad.trans af))) Z Ac ?_
        have ca:=a1.lt
        have cb:=a3.lt
        refine BJ (z:=.agg #[.int .i64 0,.int .i64 0,.int .i64 0,.int .i64 0,.slice none 0 0]) Mz Ac fun w25 ah cc ar=>?_
        have bv:=ah.size
        have b6:=ad.trans ah
        have a8:=a1.ext ah
        have a9:=a3.ext ah
        replace ar:BX w25.heap w20.heap.size [(.int .i64 0),(.int .i64 0),(.int .i64 0),(.int .i64 0),(.slice none 0 0)]:=ar
        refine CT (vs:=[(.int .i64 ((((p.getD k Fn.zero).outs).getD j Ex.zero).kind)),(.int .i64 ((((p.getD k Fn.zero).outs).getD j Ex.zero).num)),(.int .i64 ((((p.getD k Fn.zero).outs).getD j Ex.zero).pick)),(.int .i64 ((((p.getD k Fn.zero).outs).getD j Ex.zero).count)),a2]) BS Z Z ag.ones ar Z Z Ac fun w28 ai cd aj=>?_
        replace aj:BX w28.heap w20.heap.size [(.int .i64 ((((p.getD k Fn.zero).outs).getD j Ex.zero).kind)),(.int .i64 ((((p.getD k Fn.zero).outs).getD j Ex.zero).num)),(.int .i64 ((((p.getD k Fn.zero).outs).getD j Ex.zero).pick)),(.int .i64 ((((p.getD k Fn.zero).outs).getD j Ex.zero).count)),a2]:=aj
        have au:Az w w28:=ai.below b6 (fun c hc=>by have:=Ab hc;omega) b6.size
        have bw:=ai.size
        have b7:=a8.chg ai (fun hm=>by have:=Ab hm;omega)
        have b8:=a9.chg ai (fun hm=>by have:=Ab hm;omega)
        refine Ah (A0 (A0 (Ad _ [2,2,0,2,0,3,0] Z ?_)))
        have hst:=D3 (l:=(p.getD k Fn.zero).outs) (k:=j) oM
        have hle:=CO (p.getD k Fn.zero).outs (j+1)
        refine AR (p:=(.pointer (some ⟨w.heap.size,0,none⟩))) (.inr Z) [vp] EB Z (fun wq9 af=>LD.of_box (BX.ext (w:=w28) b7 af)) Z Ac (AR (p:=(.pointer (some ⟨w20.heap.size,0,none⟩))) (.inr Z) [(.int .i64 ((((p.getD k Fn.zero).outs).getD j Ex.zero).kind)),(.int .i64 ((((p.getD k Fn.zero).outs).getD j Ex.zero).num)),(.int .i64 ((((p.getD k Fn.zero).outs).getD j Ex.zero).pick)),(.int .i64 ((((p.getD k Fn.zero).outs).getD j Ex.zero).count)),a2] BS Z (fun wq9 af=>LD.of_box (BX.ext (w:=w28) aj af)) Z Ac (Ao (p:=(.pointer (some ⟨w3.heap.size,0,none⟩))) (b:=w3.heap.size) (o:=0) 1 Cw Z Z Ac (Ak (p:=(Ay (.pointer (some ⟨w3.heap.size,0,none⟩)) 1)) (.inr Z) (.int .i64 ((p.getD k Fn.zero).params)) AH Z (b8.ldp (i:=1) sM) Ac (Af 1 Z ?_))))
        refine Ap 197 [] [] [(.agg #[vp]),(.agg #[(.int .i64 ((((p.getD k Fn.zero).outs).getD j Ex.zero).kind)),(.int .i64 ((((p.getD k Fn.zero).outs).getD j Ex.zero).num)),(.int .i64 ((((p.getD k Fn.zero).outs).getD j Ex.zero).pick)),(.int .i64 ((((p.getD k Fn.zero).outs).getD j Ex.zero).count)),a2]),(.int .i64 ((p.getD k Fn.zero).params)),(.int .i64 ((k:Nat):Int))] Z Z gW Ac (KF _ dp vp (p) dd24 a2 (((p.getD k Fn.zero).outs).getD j Ex.zero) _ _ (hp.ext (Am (AB dp)) au) (ag.ext au) ap.rng oM oM) ?_
        rintro e31 w31 ⟨rfl,aa⟩
        refine⟨_,rfl,aa,?_⟩
        have bx:=aa.size
        have av:=au.trans aa
        have ak:=b7.ext aa
        have al:=b8.ext aa
        have am:=aj.ext aa
        refine Bn (!(NO p (((p.getD k Fn.zero).outs).getD j Ex.zero) ((p.getD k Fn.zero).params) ((k:Nat):Int))) Z Z Ac (Ah ?_)
        cases b9:(!(NO p (((p.getD k Fn.zero).outs).getD j Ex.zero) ((p.getD k Fn.zero).params) ((k:Nat):Int)))
        ·refine Aj (by first|rfl|(show Value.bool _=_;rw[b9])) (A4 (Ad _ [0,2,3,0,0] Z (Af 1 Z (AR (p:=(.pointer (some ⟨w20.heap.size,0,none⟩))) (.inr Z) [(.int .i64 ((((p.getD k Fn.zero).outs).getD j Ex.zero).kind)),(.int .i64 ((((p.getD k Fn.zero).outs).getD j Ex.zero).num)),(.int .i64 ((((p.getD k Fn.zero).outs).getD j Ex.zero).pick)),(.int .i64 ((((p.getD k Fn.zero).outs).getD j Ex.zero).count)),a2] BS Z (fun wq9 af=>LD.of_box (BX.ext (w:=w31) am af)) Z Ac ?_))))
         refine Ap 198 [] [] [(.agg #[(.int .i64 ((((p.getD k Fn.zero).outs).getD j Ex.zero).kind)),(.int .i64 ((((p.getD k Fn.zero).outs).getD j Ex.zero).num)),(.int .i64 ((((p.getD k Fn.zero).outs).getD j Ex.zero).pick)),(.int .i64 ((((p.getD k Fn.zero).outs).getD j Ex.zero).count)),a2])] Z Z Xd Ac (HM _ dd24 a2 (((p.getD k Fn.zero).outs).getD j Ex.zero) (ag.ext av) oM) ?_
         rintro e33 w33 ⟨rfl,ae⟩
         refine⟨_,rfl,ae,?_⟩
         have bz:=ae.size
         have bp:=av.trans ae
         have an:=ak.ext ae
         have ao:=al.ext ae
         refine AI ((sz+((p.getD k Fn.zero).outs.getD j Ex.zero).size:Nat):Int) Z Z (B8 oM oM) Ac (Ae 1 Z (Ad _ [0,0] Z (AI ((j+1:Nat):Int) Z Z (B8 oM sD) Ac (Ae 1 Z ?_))))
         exact⟨((j+1),(sz+((p.getD k Fn.zero).outs.getD j Ex.zero).size)),_,rfl,⟨rfl,rfl,rfl,rfl,rfl,rfl,rfl,rfl,rfl,rfl,trivial⟩,⟨bp,an,ao,sD,oM,(by exact Ec hqe (Ez (by assumption)))⟩,by first|omega|(dsimp only;omega)⟩
        ·refine Ai (by first|rfl|(show Value.bool _=_;rw[b9])) (A0 (Ad _ [0] Z (Ae 1 Z (A3 (Aq (AL (Aq (Aq (AL (Aq (AL (Aq (Aq (AL (Aq ?_)))))))))))))))
         exact Ag [2] Z (.bool false) Z ⟨Ia,av⟩
       ·refine Ax false Z Z (A8 b4) Ac (Ah (A0 (Aj Z (A6 (As (As (An (A0 (Ad _ [0,0] Z ?_)))))))))
        have hal:=Ki (l:=(p.getD k Fn.zero).outs) (k:=j) oM
        refine Af 1 Z ?_
        by_cases ba:((400:Nat):Int)<((sz:Nat):Int)
        ·exact C6 true Z Z (A7 ba) Ac (Ah (Ai Z (A0 (Ad _ [0] Z (Ae 1 Z (A3 (AL (Aq (Aq (AL (Aq (Ag [2] Z (.bool false) Z ⟨Ia,ad⟩))))))))))))
        ·refine C6 false Z Z (A8 ba) Ac (Ah (Aj Z (A4 (Ad _ [0,0] Z (AI ((k+1:Nat):Int) Z Z (B8 oM sD) Ac (Ae 1 Z ?_))))))
         exact⟨(k+1),_,rfl,⟨rfl,rfl,rfl,rfl,trivial⟩,⟨ad,a1,sD,(by exact Ec hq (aX (Ez (by assumption)) (by assumption) (Ez (by assumption)) (Ez (by assumption)) hqe oM oM))⟩,by first|omega|(dsimp only;omega)⟩
      ·exact Ai (by first|rfl|(show Value.bool _=_;rw[b3])) (A0 (Ad _ [0] Z (Ae 1 Z (A3 (Aq (AL (Aq (Aq (AL (Aq (Ag [2] Z (.bool false) Z ⟨Ia,ac⟩)))))))))))
     ·exact Ae 6 Z (Ai Z (A0 (Ad _ [0] Z (Ae 1 Z (A3 (Aq (AL (Aq (Aq (AL (Aq (Ag [2] Z (.bool false) Z ⟨Ia,ac⟩))))))))))))
    ·exact Ai (by first|rfl|(show Value.bool _=_;rw[b2])) (A0 (Ad _ [0] Z (Ae 1 Z (A3 (Aq (AL (Aq (Aq (AL (Aq (Ag [2] Z (.bool false) Z ⟨Ia,ac⟩)))))))))))
   ·exact Ae 7 Z (Ai Z (A0 (Ad _ [0] Z (Ae 1 Z (A3 (Aq (AL (Aq (Aq (AL (Aq (Ag [2] Z (.bool false) Z ⟨Ia,bd⟩))))))))))))
  ·exact Ax false Z Z (A8 bt) Ac (Ah (A0 (Aj Z (A6 (As (As (An (A0 (Ad _ [0] Z (Ae 1 Z (A3 (Ag [2] Z (.bool true) Z ⟨Ia,ax⟩))))))))))))
end
section
set_option maxHeartbeats 4000000
set_option maxRecDepth 100000
attribute [local irreducible] LW
theorem aY {p:List Fn}{f:Int}(h:Ln p=false):1=IP p f:=by unfold IP;rw[h];rfl
theorem aZ {p:List Fn}{f:Int}(h:Ln p=true)(h2:¬(0≤f∧f≤((p.length:Nat):Int)-1)):2=IP p f:=by unfold IP;rw[if_pos h,if_neg h2]
theorem bA {p:List Fn}{f:Int}(h:Ln p=true)(h2:0≤f∧f≤((p.length:Nat):Int)-1):0=IP p f:=by unfold IP;rw[if_pos h,if_pos h2]
theorem Xu {p:Prop}(h:p:=by first|exact AV (aY (Gb (by assumption)))|exact AV (aZ (Ez (by assumption)) (Qe (Gb (by assumption))))|exact AV (bA (Ez (by assumption)) (I9 (Ez (by assumption))))):p:=h
theorem IT (w:World)(dp:Nat)(vp:Value)(p:List Fn)(f:Int)(hp:RP [] dp w.heap vp p)(_hf:BC f)(hz:Tq p) :
  Calls Tryz.prog 84 #[(.agg #[vp]),.int .i64 f] w (fun e w'=>e=.returned (.int .i64 (IP p f))∧Az w w'):=by
 refine At [(.agg #[vp]),.int .i64 f] 17 Tryz.func84 Z Z sM ?_
 have a8:Az w w:=Az.refl w
 have hl_vp:=hp.lenle
 unfold maxLen at hl_vp
 refine A0 (Ad _ [3,0] Z (Bx (cs:=#[vp]) Z Ac fun w1 a4 ac a1=>?_))
 have a9:=a4.size
 have a5:=a8.trans a4
 replace a1:BX w1.heap w.heap.size [vp]:=a1
 refine Ae 1 Z (A0 (A5 (A0 (Ad _ [2,3,0,0] Z (AR (p:=(.pointer (some ⟨w.heap.size,0,none⟩))) (.inr Z) [vp] EB Z (fun wq9 aa=>LD.of_box (BX.ext (w:=w1) a1 aa)) Z Ac (Ap 152 [] [] [(.agg #[vp])] Z Z gF Ac (IF _ dp vp (p) (hp.ext (Am (AB dp)) a5) (by exact hz)) ?_))))))
 rintro e2 w2 ⟨rfl,a2⟩
 refine⟨_,rfl,a2,?_⟩
 have ab:=a2.size
 have a3:=a5.trans a2
 have a0:=a1.ext a2
 refine Bn (!(Ln p)) Z Z Ac (Ae 1 Z ?_)
 cases a6:(!(Ln p))
 ·refine Aj (by first|rfl|(show Value.bool _=_;rw[a6])) (A0 (Ad _ [0,0,2,0,0,0,0,0] Z (Af 1 Z (Ao (p:=(.pointer (some ⟨w.heap.size,0,none⟩))) (b:=w.heap.size) (o:=0) 0 BM Z Z Ac (Ak (p:=(Ay (.pointer (some ⟨w.heap.size,0,none⟩)) 0)) (.inr Z) vp Cs Z (a0.ldp (i:=0) sM) Ac (AJ (v:=vp) Gm Z hp.isSl Ac (Cy (((p.length:Nat):Int)-1) Z Z (FR oM oM) Ac (AD 72 [] [] [(.int .i64 f),(.int .i64 ((0:Nat):Int)),(.int .i64 (((p.length:Nat):Int)-1))] Z Z KD Ac (.bool (decide (((0:Nat):Int)≤f) && decide (f≤(((p.length:Nat):Int)-1)))) (fun wq=>BD wq _ _ _ _hf oM oM) ?_))))))))
  refine Bn (!(decide (((0:Nat):Int)≤f) && decide (f≤(((p.length:Nat):Int)-1)))) Z Z Ac (Ae 1 Z ?_)
  cases a7:(!(decide (((0:Nat):Int)≤f) && decide (f≤(((p.length:Nat):Int)-1))))
  ·exact Aj (by first|rfl|(show Value.bool _=_;rw[a7])) (A4 (A0 (Ad _ [0] Z (Ae 1 Z (A3 (Ag [4] Z (.int .i64 ((0:Nat):Int)) Z ⟨Xu,a3⟩))))))
  ·exact Ai (by first|rfl|(show Value.bool _=_;rw[a7])) (A0 (Ad _ [0] Z (Ae 1 Z (A3 (AL (Aq (Ag [4] Z (.int .i64 ((2:Nat):Int)) Z ⟨Xu,a3⟩)))))))
 ·exact Ai (by first|rfl|(show Value.bool _=_;rw[a6])) (A0 (Ad _ [0] Z (Ae 1 Z (A3 (AL (Aq (Ag [4] Z (.int .i64 ((1:Nat):Int)) Z ⟨Xu,a3⟩)))))))
theorem bB {p:List Fn}{f:Int}{pr:Int→Int→Bool}(h:IP p f≠0):IP p f=HZ p f pr:=by unfold HZ;rw[if_neg h]
theorem jD {p:List Fn}{f:Int}{pr:Int→Int→Bool}(h:IP p f=0)(h2:pr (p.getD f.toNat Fn.zero).params (((p.getD f.toNat Fn.zero).outs.length:Nat):Int)=false):2=HZ p f pr:=by unfold HZ;rw[if_pos h,h2];rfl
theorem jE {p:List Fn}{f:Int}{pr:Int→Int→Bool}(h:IP p f=0)(h2:pr (p.getD f.toNat Fn.zero).params (((p.getD f.toNat Fn.zero).outs.length:Nat):Int)=true):IP p f=HZ p f pr:=by unfold HZ;rw[if_pos h,h2,h];rfl
theorem R5 {p:Prop}(h:p:=by first|exact AV (bB oM)|exact AV (jD oM (by assumption))|exact AV (jE oM (by assumption))):p:=h
theorem L7 (w:World) (dp:Nat) (vp:Value) (p:List Fn) (f:Int) (q:Nat) (qf qc:List Value) (pr:Int→Int→Bool) (hp:RP [] dp w.heap vp p) (_hf:BC f) (hcf_q:((Tryz.prog.funcs[q]?).map fun fn=>(fn.name != "runtime.NumGoroutine") && fn.body.isSome) = some true) (hpr:∀ (a b:Int) w1,(BC a)→(BC b)→Calls Tryz.prog q (qf++[Value.int .i64 a,Value.int .i64 b]++qc).toArray w1 (fun e w2=>e = .returned (.bool (pr a b))∧w2 = w1)) (hz:Tq p) :
  Calls Tryz.prog 177 #[(.agg #[vp]),.int .i64 f,.func (.func q) qf.toArray qc.toArray] w (fun e w'=>e = .returned (.int .i64 (HZ p f pr))∧Az w w'):=by
 refine At [(.agg #[vp]),.int .i64 f,.func (.func q) qf.toArray qc.toArray] 32 Tryz.func177 Z Z sM ?_
 have ad:Az w w:=Az.refl w
 have hl_vp:=hp.lenle
 unfold maxLen at hl_vp
 refine A0 (Ad _ [3,0] Z (Bx (cs:=#[vp]) Z Ac fun w1 a8 ak a3=>?_))
 have ae:=a8.size
 have a9:=ad.trans a8
 replace a3:BX w1.heap w.heap.size [vp]:=a3
 refine Ae 1 Z (A0 (Ad _ [2,0,3,0] Z (AR (p:=(.pointer (some ⟨w.heap.size,0,none⟩))) (.inr Z) [vp] EB Z (fun wq9 af=>LD.of_box (BX.ext (w:=w1) a3 af)) Z Ac (Af 1 Z (Ap 84 [] [] [(.agg #[vp]),(.int .i64 f)] Z Z fO Ac (IT _ dp vp (p) _ (hp.ext (Am (AB dp)) a9) _hf (by exact hz)) ?_)))))
 rintro e2 w2 ⟨rfl,a4⟩
 refine ⟨_,rfl,a4,?_⟩
 have ag:=a4.size
 have a1:=a9.trans a4
 have a0:=a3.ext a4
 refine Ae 1 Z (A0 (A0 (AY _ [0,0,0,0,0,1,0,0,0,1,0,1,0,0,0,1,0,3,0,0] mixed (by kernel_rfl) (Af 1 Z ?_))))
 by_cases aa:IP p f = ((0 :Nat):Int)
 ·
  refine AA true Z Z (A7 aa) Ac (Af 2 Z ?_)
  have al:=Sd (p:=p) (f:=f) oM
  refine Ao (p:=(.pointer (some ⟨w.heap.size,0,none⟩))) (b:=w.heap.size) (o:=0) 0 BM Z Z (Al (e:=13) Z Z Z) (Ak (p:=(Ay (.pointer (some ⟨w.heap.size,0,none⟩)) 0)) (.inl Z) vp Cs Z (a0.ldp (i:=0) sM) (Al (e:=13) Z Z Z) (Af 1 Z (Au (v:=vp) ((f).toNat) Gm CA Z Z hp.isSl oM sD (Al (e:=13) Z Z Z) ?_)))
  obtain ⟨cs4,ah,a5⟩:=hp.get (AB dp) Fn.zero (k:=((f).toNat)) sD
  obtain ⟨ab,rfl,a6⟩:=RF.of ah
  have a7:=a6.rn.lenle
  unfold maxLen at a7
  refine AM (p:=Aw vp ((f).toNat) 3) 1 Cw Z (a5 _ (AE.of_ext [] a1.drew)) (Al (e:=13) Z Z Z) (Ak (p:=(Ay (Aw vp ((f).toNat) 3) 1)) (.inl Z) (.int .i64 ((p.getD ((f).toNat) Fn.zero).params)) AH Z ((a5 _ (AE.of_ext [] a1.drew)).ld (i:=1) (by simp [FL,FM])) (Al (e:=13) Z Z Z) (Ao (p:=(.pointer (some ⟨w.heap.size,0,none⟩))) (b:=w.heap.size) (o:=0) 0 BM Z Z (Al (e:=13) Z Z Z) (Ak (p:=(Ay (.pointer (some ⟨w.heap.size,0,none⟩)) 0)) (.inl Z) vp Cs Z (a0.ldp (i:=0) sM) (Al (e:=13) Z Z Z) (Af 1 Z ?_))))
  refine Au (v:=vp) ((f).toNat) Gm CA Z Z hp.isSl oM sD (Al (e:=13) Z Z Z) (AM (p:=Aw vp ((f).toNat) 3) 2 Cu Z (a5 _ (AE.of_ext [] a1.drew)) (Al (e:=13) Z Z Z) (Ak (p:=(Ay (Aw vp ((f).toNat) 3) 2)) (.inl Z) ab Bp Z ((a5 _ (AE.of_ext [] a1.drew)).ld (i:=2) (by simp [FL,FM])) (Al (e:=13) Z Z Z) (AJ (v:=ab) DK Z a6.rn.isSl (Al (e:=13) Z Z Z) ?_)))
  refine Ap q qf qc _ Z Z hcf_q (Al (e:=13) Z Z Z) (hpr ((p.getD ((f).toNat) Fn.zero).params) ((((p.getD ((f).toNat) Fn.zero).outs).length :Nat):Int) _ a6.rng oM) ?_
  rintro e5 w5 ⟨rfl,ai⟩
  have a2:Az w2.drew w5:=by rw [ai]; exact Az.refl _
  refine ⟨_,rfl,a2,?_⟩
  replace a2:=a2.of_drew
  have aj:=a2.size
  have ac:=a1.trans a2
  cases am:pr ((p.getD ((f).toNat) Fn.zero).params) ((((p.getD ((f).toNat) Fn.zero).outs).length :Nat):Int)
  ·
   exact Bn true Z Z (Al (e:=13) Z Z Z) (Ae 1 Z (Ai Z (Ad _ [0] Z (Ae 1 Z (A0 (Ad _ [0,0] Z (Ae 2 Z (A3 (Ag [6] Z (.int .i64 ((2 :Nat):Int)) Z ⟨R5,ac⟩)))))))))
  ·
   exact Bn false Z Z (Al (e:=13) Z Z Z) (Ae 1 Z (Aj Z (A4 (A0 (Ad _ [0,0] Z (Ae 2 Z (A3 (Ag [6] Z (.int .i64 (IP p f)) Z ⟨R5,ac⟩))))))))
 ·
  exact AA false Z Z (A8 aa) Ac (Ae 18 Z (Aj Z (A4 (A0 (Ad _ [0,0] Z (Ae 2 Z (A3 (Ag [6] Z (.int .i64 (IP p f)) Z ⟨R5,a1.drew⟩))))))))
theorem Gc (w:World)(va:Value)(a:List (List Int))(ha:RN [] (B3 (B3 rI)) w.heap va a)(hqa:CK va)(h1:0<a.length→0<(a.getD 0 []).length) :
  Calls Tryz.prog 87 #[va] w (fun e w'=>e=.returned (.int .i64 ((Qh a:Nat):Int))∧Az w w'):=by
 refine At [va] 11 Tryz.func87 Z Z sM ?_
 have a0:Az w w:=Az.refl w
 have hl_va:=ha.lenL
 unfold maxLen at hl_va
 refine A0 (Ad _ [0] Z (Ae 1 Z (A0 (A0 (Ad _ [0,0,0] Z (Af 1 Z (AJ (v:=va) Bi Z ha.slL Ac ?_)))))))
 by_cases a2:((a.length:Nat):Int)=((0:Nat):Int)
 ·exact AA true Z Z (A7 a2) Ac (Ah (Ai Z (A0 (Ad _ [0] Z (Ae 1 Z (A3 (Aq (Ag [2] Z (.int .i64 ((0:Nat):Int)) Z ⟨(AV (by unfold Qh;have:a=[]:=List.eq_nil_of_length_eq_zero oM;subst this;rfl)),a0⟩))))))))
 ·refine AA false Z Z (A8 a2) Ac (Ah (Aj Z (A4 (A0 (Ad _ [0,0,2,0,0,0] Z (Af 1 Z (Au (v:=va) 0 Bi AX Z Z ha.slL Z sD Ac ?_)))))))
  obtain⟨a3,a5,a4⟩:=RN.getL (w:=w) g1 [] (k:=0) ha sD
  have a1:=a4.lenL
  unfold maxLen at a1
  exact Ak (p:=Aw va 0 1) (.inr Z) a3 B6 Z (a5 _ (AE.of_ext [] a0)) Ac (AJ (v:=a3) Bh Z a4.slL Ac (Cy (((a.getD 0 []).length-1:Nat):Int) Z Z (by rw[FR oM oM];omega) Ac (Ae 1 Z (A3 (Ag [2] Z (.int .i64 (((a.getD 0 []).length-1:Nat):Int)) Z ⟨(AV Z),a0⟩)))))
end
end Go.Proofs.YtnokbaiemimhjaaGreat
