/- Ij, Ik, Il, FwY, Gc, Ma, Mb, Na, Mc, Md, Me, Mh, Mq, Nb, Nc, Nd, Ne, Gd, Ge, Gu, Gv, Gw, Gx, Nf, Ng, Nh, Ni, Nk, Nl, Ga, Gf, Gk, Gh, Gl, Gm, Gq, Gp, Gs, Gy, Gz, Ha, Hb, Hd, He, Hf, Hj, Hl, Hm, Hn, Hr, Hv, Hx, In, Ir, Is, It, Im, Iu: texts of this claim, joined; what the claim does not come to is left out. -/
import Derived.Test.YtemfgblmfahllaaGreatQD1
import Derived.Test.YtemfgblmfahllaaGreatProg
import Derived.Laws.CopyRow
import Derived.Shelf.Bits.Mul64
import Derived.Ground.NamesProg
set_option linter.unusedVariables false
set_option linter.unusedSimpArgs false
namespace Go.Proofs.YtemfgblmfahllaaGreat
open Go Go.RowKit
section
def Ie (a:Av):Bool:=if a.kind=1 then decide (1≤a.arg) && decide (a.arg≤40)else if a.kind=2∨a.kind=3 then decide (0≤a.arg) && decide (a.arg≤7)else decide (a.kind=4) && decide (a.arg=0)
section
variable {a:Av} {l:List Av} {k:Nat}
theorem EC:Ie a=true↔Gd a:=by unfold Ie Gd;by_cases h1:a.kind=1;rw[if_pos h1,z7,decide_eq_true_eq,decide_eq_true_eq];omega;rw[if_neg h1];by_cases h2:a.kind=2∨a.kind=3;rw[if_pos h2,z7,decide_eq_true_eq,decide_eq_true_eq];omega;rw[if_neg h2,z7,decide_eq_true_eq,decide_eq_true_eq];omega
theorem RB (q:Int):∀(l:List Av)(a:Av),C3 q (l++[a])=C3 q l+(if a.kind=q then 1 else 0)
 |[],a=>by show(if a.kind=q then 1 else 0)+0=0+_;omega
 |b::l,a=>by show(if b.kind=q then 1 else 0)+C3 q (l++[a])=(if b.kind=q then 1 else 0)+C3 q l+_;rw[RB q l a];omega
theorem HV {q:Int}(hk:k<l.length):C3 q (l.take (k+1))=C3 q (l.take k)+(if (l.getD k Av.zero).kind=q then 1 else 0):=by rw[List.take_succ_eq_append_getElem hk,RB];rw[show l.getD k Av.zero=l[k]from by simp[List.getD_eq_getElem?_getD,hk]]
def Dj (l:List Av):Bool:=decide (l.length≤400) && !l.any fun a=>!Ie a
theorem G0:Dj l=true↔l.length≤400∧∀i,i<l.length→Gd (l.getD i Av.zero):=by
 unfold Dj;rw[z7,decide_eq_true_eq];refine and_congr_right fun _=>?_;rw[Bool.not_eq_true',← Bool.not_eq_true,List.any_eq_true];constructor
 intro h i hi;refine EC.1 ?_;cases hh:Ie (l.getD i Av.zero)with
 |true=>rfl
 |false =>
  refine absurd ⟨l.getD i Av.zero,?_,by rw[hh];rfl⟩ h;rw[show l.getD i Av.zero=l[i]from by simp[List.getD_eq_getElem?_getD,hi]];exact List.getElem_mem hi
 rintro h ⟨x,hx,hy⟩;obtain⟨i,hi,rfl⟩:=List.mem_iff_getElem.1 hx;have h2:=h i hi;rw[show l.getD i Av.zero=l[i]from by simp[List.getD_eq_getElem?_getD,hi],← EC]at h2;rw[h2]at hy;cases hy
theorem XM (h:Dj l=true):∀a∈l,Gd a:=fun a ha=>by
 obtain⟨i,hi,rfl⟩:=List.mem_iff_getElem.1 ha
 have h2:=(G0.1 h).2 i hi
 rwa [show l.getD i Av.zero=l[i]from by simp[List.getD_eq_getElem?_getD,hi]]at h2
theorem RC (h:¬l.length≤400):false=Dj l:=by unfold Dj;rw[A6 h];rfl
theorem XN (h:l.length≤400):(!l.any fun a=>!Ie a)=Dj l:=by unfold Dj;rw[A5 h,Bool.true_and]
theorem XO (hk:k<l.length)(h:Ie (l.getD k Av.zero)=false):false=Dj l:=by
 cases hh:Dj l with
 |false=>rfl
 |true=>rw[EC.2 ((G0.1 hh).2 k hk)]at h;cases h
theorem XP (h:∀i,i<l.length→Ie (l.getD i Av.zero)=true):decide (l.length≤400)=Dj l:=by by_cases h4:l.length≤400;rw[A5 h4];exact(G0.2 ⟨h4,fun i hi=>EC.1 (h i hi)⟩).symm;rw[A6 h4];exact RC h4
end
def mD (u:Us):Value:=.agg #[.int .i64 u.cost,.int .i64 u.adv,.int .i64 u.st,.int .i64 u.ld,.int .i64 u.sl]
def Tc (l:List Av)(n k:Nat):Int:=if GB l (FN ((n:Nat):Int) k) 0 = -1 then 0 else 4
def LX (l:List Av)(w:List Int)(k:Nat):Us :=
 if Tc l w.length k=0 then⟨Em (Pz l (PB w.length k)).ov w w.length,(Pz l (PB w.length k)).u.adv,(Pz l (PB w.length k)).u.st,(Pz l (PB w.length k)).u.ld,(((Pz l (PB w.length k)).us.length:Nat):Int)⟩else Us.zero
def mE (z:CS)(w:List Int)(i:Nat):CS:=⟨⟨z.c.at_,z.c.left,z.c.slots⟩,z.ov,z.us,⟨Em z.ov w i,z.u.adv,z.u.st,z.u.ld,z.u.sl⟩⟩
section
variable {l:List Av} {n k m:Nat} {w:List Int} {z:CS} {ov:List Int}
theorem gZ (h:z.u.cost=0):mE z w 0=z:=by obtain⟨⟨a,b,c⟩,d,e,⟨f,g,h1,h2,h3⟩⟩:=z;have h:f=0:=h;subst h;rfl
theorem RD (h:GB l (FN ((n:Nat):Int) k) 0 = -1):Tc l n k=0:=if_pos h
theorem RE (h:GB l (FN ((n:Nat):Int) k) 0≠-1):Tc l n k=4:=if_neg h
theorem eF (h:Tc l w.length k=0):LX l w k=⟨Em (Pz l (PB w.length k)).ov w w.length,(Pz l (PB w.length k)).u.adv,(Pz l (PB w.length k)).u.st,(Pz l (PB w.length k)).u.ld,(((Pz l (PB w.length k)).us.length:Nat):Int)⟩:=if_pos h
theorem eG (h:Tc l w.length k≠0):LX l w k=Us.zero:=if_neg h
theorem UC {x y:Int}{M:Nat}(h1:0≤x∧x≤M)(h2:0≤y∧y≤1000):0≤x*y∧x*y≤1000*M:=by refine⟨Int.mul_nonneg h1.1 h2.1,?_⟩;have a1:=Int.mul_le_mul_of_nonneg_left h2.2 h1.1;have a2:=Int.mul_le_mul_of_nonneg_right h1.2 (show(0:Int)≤1000 by omega);omega
theorem Lj {M:Nat}(h1:∀k,0≤ov.getD k 0∧ov.getD k 0≤M)(h2:∀k,0≤w.getD k 0∧w.getD k 0≤1000):∀i:Nat,0≤Em ov w i∧Em ov w i≤1000*M*i
 |0=>⟨Int.le_refl _,by show(0:Int)≤_;simp⟩
 |i+1=>by
  have a:=Lj h1 h2 i
  have b:=UC (h1 i)<|h2 i
  show 0≤Em ov w i+ov.getD i 0*w.getD i 0∧Em ov w i+ov.getD i 0*w.getD i 0≤_
  rw[Int.natCast_add,Int.mul_add]
  omega
theorem hJ (l:List Av)(c:Cn):-1≤GB l c 0∧GB l c 0≤((l.length:Nat):Int):=by have h:=(XI l c 0<|Int.le_refl _).2;omega
theorem bC {a:Int}{xs:List Int}:(KD a xs).length≤xs.length+1:=by unfold KD;split <;> simp
theorem hP (l:List Av):∀z:CS,(Pz l z).us.length≤z.us.length+l.length:=by
 induction l with
 |nil=>intro z;exact A7 _
 |cons a l ih =>
  intro z;have h:=ih<|FB z a;have h2:(FB z a).us.length≤z.us.length+1:=by
   show(gW z a).length≤_;unfold gW;split;exact bC;omega
  show(Pz l (FB z a)).us.length≤_;simp only[z9];omega
end
section
variable {e:TypeId} {H:Array Obj} {w w':World} {g gm o n:Nat} {vs vo:Value} {Fs Fo F:List Nat} {s:CS} {cs:List Value}
theorem Li.chg (h:Li e w.heap g gm vs vo Fs Fo s)(c:AF F w w')(hd:∀b∈ZL g gm Fs Fo,b∉F):Li e w'.heap g gm vs vo Fs Fo s :=
 ⟨h.bx.chg c (hd _ (NA _ (List.mem_singleton.2 rfl))),Ce h.sl c (fun b hb=>hd _ (gX _ hb)),h.sn,Ce h.ov c (fun b hb=>hd _ (lY _ hb)),h.on,h.mp.chg c (hd _ (bA _ (List.mem_singleton.2 rfl))),h.d⟩
theorem LD.of_boxA (h:BX H g cs)(hn:o+n≤cs.length):LD H (.pointer (some ⟨g,o,none⟩)) ((cs.drop o).take n):=by
 obtain⟨e,h⟩:=h;refine⟨g,o,rfl,fun i hi=>?_⟩;have h2:i<n:=by simp at hi;omega
 simp only[Cv,h];have h3:o+i<cs.length:=by omega
 simp[h2,h3,List.getD_eq_getElem?_getD,List.getElem?_take,List.getElem?_drop]
end
end
section
def ZR (g:Nat)(Fs:List Nat):List Nat:=g::Fs
structure sm (g:Nat)(Fs:List Nat):Prop where
 gs:g∉Fs
structure MC (e:TypeId)(H:Array Obj)(g:Nat)(vs:Value)(Fs:List Nat)(c:Cn):Prop where
 bx:BX H g [.int .i64 c.at_,.int .i64 c.left,vs]
 sl:By rI e H vs c.slots Fs
 sn:Fs.Nodup
 d:sm g Fs
section
variable {e:TypeId} {H:Array Obj} {w w':World} {g:Nat} {vs:Value} {Fs F:List Nat} {s:Cn}
theorem bE:∀x∈[g],x∈ZR g Fs:=fun x hx=>by rw[A9 hx];exact z0 ..
theorem hX:∀x∈Fs,x∈ZR g Fs:=fun x hx=>z3 _ hx
theorem MC.lt (h:MC e H g vs Fs s):∀b∈ZR g Fs,b<H.size:=fun b hb=>by
 rcases ze.1 hb with rfl|hb
 exact h.bx.lt
 exact (B3 Ay).lt h.sl b hb
theorem MC.ext (h:MC e w.heap g vs Fs s)(c:AI w w'):MC e w'.heap g vs Fs s:=⟨h.bx.ext c,Qc h.sl c,h.sn,h.d⟩
theorem MC.chg (h:MC e w.heap g vs Fs s)(c:AF F w w')(hd:∀b∈ZR g Fs,b∉F):MC e w'.heap g vs Fs s :=
 ⟨h.bx.chg c (hd _ (bE _ (List.mem_singleton.2 rfl))),Ce h.sl c (fun b hb=>hd _ (hX _ hb)),h.sn,h.d⟩
variable {at_ left:Int} {sl:List Int} {B B2 U2:Nat}
theorem bF (hb:BX H g [.int .i64 at_,.int .i64 left,vs])(hs:Fr (By rI e) B2 U2 H vs sl)(h3:g<B2)(hB:B≤g):∃Fs,MC e H g vs Fs ⟨at_,left,sl⟩∧∀b∈ZR g Fs,B≤b:=by obtain⟨Fs,s1,s2,s3⟩:=hs;refine⟨Fs,⟨hb,s1,s2,⟨fun h=>by have:=s3 _ h;omega⟩⟩,fun b hb=>?_⟩;rcases ze.1 hb with rfl|hb;exact hB;have:=s3 _ hb;omega
end
section
variable {z:Cn} {a:Av}
theorem NB (h:a.kind=1):(⟨z.at_+a.arg,z.left,z.slots⟩:Cn)=CC z a:=by unfold CC;rw[if_pos h]
theorem NC (h:a.kind=2):(⟨z.at_,z.left,z.slots.set a.arg.toNat z.at_⟩:Cn)=CC z a:=by unfold CC;rw[if_neg zO,if_pos h]
theorem ND (h:a.kind=3):(⟨z.slots.getD a.arg.toNat 0,z.left,z.slots⟩:Cn)=CC z a:=by unfold CC;rw[if_neg zO,if_neg zO,if_pos h]
theorem NE (h:a.kind=4):(⟨z.at_,z.at_,z.slots⟩:Cn)=CC z a:=by unfold CC;rw[if_neg zO,if_neg zO,if_neg (by omega)]
theorem X2 (h:a.kind=1):Cw z a=decide (z.at_+a.arg<z.left):=by unfold Cw;rw[if_pos h]
theorem hY (h:a.kind=2):Cw z a=decide (a.arg<((z.slots.length:Nat):Int)):=by unfold Cw;rw[if_neg zO,if_pos h]
theorem XQ (h:a.kind=3):Cw z a=(decide (a.arg<((z.slots.length:Nat):Int)) && decide (0≤z.slots.getD a.arg.toNat 0)):=by unfold Cw;rw[if_neg zO,if_neg zO,if_pos h]
theorem hZ (h:a.kind=4):Cw z a=decide (z.at_=z.left-1):=by unfold Cw;rw[if_neg zO,if_neg zO,if_neg (by omega)]
theorem PC (h:Cw z a=true)(hk:a.kind=2∨a.kind=3):a.arg<((z.slots.length:Nat):Int):=by rcases hk with hk|hk;rw[hY hk]at h;exact of_decide_eq_true h;rw[XQ hk,z7]at h;exact of_decide_eq_true h.1
end
def mF (l:List Av)(n k:Nat):Int:=if GB l (FN ((n:Nat):Int) k) 0 = -1 then((l.length:Nat):Int)else GB l (FN ((n:Nat):Int) k) 0
def X3 (l:List Av)(n k:Nat):Bool:=!decide (GB l (FN ((n:Nat):Int) k) 0 = -1)
section
variable {l:List Av} {c:Cn} {i n k:Nat}
theorem iA {z:Cn}(h:GB (l.drop i) z ((i:Nat):Int)=GB l (FN ((n:Nat):Int) k) 0)(hi:l.length≤i)(h2:i≤l.length) :
  Ending.returned (.tuple #[.int .i64 ((l.length:Nat):Int),.bool (decide (((0:Nat):Int)<z.left))])=Ending.returned (.tuple #[.int .i64 (mF l n k),.bool (X3 l n k)]):=by
 rw[Qf hi]at h;unfold mF X3;rw[← h];by_cases h8:0<z.left;rw[if_pos h8,if_neg zO,A6 (show ¬((i:Nat):Int) = -1 by omega),A5 (show((0:Nat):Int)<z.left by omega),show i=l.length from by omega];rfl;rw[if_neg h8,if_pos rfl,A5 rfl,A6 (show ¬((0:Nat):Int)<z.left by omega)];rfl
theorem iB {z:Cn}(h:GB (l.drop i) z ((i:Nat):Int)=GB l (FN ((n:Nat):Int) k) 0)(hi:i<l.length)(hp:Cw z (l.getD i Av.zero)=false) :
  Ending.returned (.tuple #[.int .i64 ((i:Nat):Int),.bool true])=Ending.returned (.tuple #[.int .i64 (mF l n k),.bool (X3 l n k)]):=by
 rw[N4 hi hp]at h;unfold mF X3;rw[← h,if_neg zO,A6 (by omega)];rfl
end
def H6 (a:Int):List Int→List Int
 |[]=>[a]
 |x::xs=>if x<a then x::H6 a xs else if x=a then x::xs else a::x::xs
section
variable {a b:Int} {l xs us:List Int}
theorem UD (h:∀x∈l,x<a):H6 a l=l++[a]:=by
 induction l with
 |nil=>rfl
 |cons x l ih =>
  show(if x<a then _ else _)=_;rw[if_pos (h x (z0 ..)),ih fun y hy=>h y (z3 _ hy)];rfl
theorem Hg (h:∀x∈l,x<a)(hb:a≤b):H6 a (l++[b])=if b=a then l++[b]else l++[a]++[b]:=by
 induction l with
 |nil =>
  show(if b<a then _ else if b=a then _ else _)=_;rw[if_neg (by omega)];rfl
 |cons x l ih =>
  show(if x<a then x::H6 a (l++[b])else _)=_;rw[if_pos (h x (z0 ..)),ih fun y hy=>h y (z3 _ hy)];split <;> rfl
theorem JO (h:∃x∈l,a≤x):H6 a (l++[b])=H6 a l++[b]:=by
 induction l with
 |nil=>obtain⟨x,hx,_⟩:=h;cases hx
 |cons x l ih =>
  show(if x<a then x::H6 a (l++[b])else if x=a then x::(l++[b])else a::x::(l++[b]))=(if x<a then x::H6 a l else if x=a then x::l else a::x::l)++[b];by_cases hx:x<a;rw[if_pos hx,if_pos hx,ih];rfl;obtain⟨y,hy,hy2⟩:=h;rcases ze.1 hy with rfl|hy;omega;exact⟨y,hy,hy2⟩;rw[if_neg hx,if_neg hx];split <;> rfl
theorem RH:(H6 a l).length≤l.length+1:=by
 induction l with
 |nil=>exact A7 _
 |cons x l ih =>
  show(if x<a then _ else if x=a then _ else _:List Int).length≤_;split;simp only[z9];omega;split <;> simp
theorem RJ:b∈H6 a l↔b=a∨b∈l:=by
 induction l with
 |nil=>show b∈[a]↔_;simp
 |cons x l ih =>
  show b∈(if x<a then x::H6 a l else if x=a then x::l else a::x::l)↔_;split;rw[ze,ih,ze];constructor;rintro(h|h|h);exact .inr<|.inl h;exact .inl h;exact .inr<|.inr h;rintro(h|h|h);exact .inr<|.inl h;exact .inl h;exact .inr<|.inr h;split;rename_i h;subst h;simp;simp
theorem X4 (h:l.Pairwise (· < ·)):(H6 a l).Pairwise (· < ·):=by
 induction l with
 |nil=>exact List.pairwise_singleton ..
 |cons x l ih =>
  obtain⟨h1,h2⟩:=List.pairwise_cons.1 h;show(if x<a then x::H6 a l else if x=a then x::l else a::x::l).Pairwise (· < ·);split;refine List.pairwise_cons.2 ⟨fun y hy=>?_,ih h2⟩;rcases RJ.1 hy with rfl|hy;assumption;exact h1 y hy;split;exact h;refine List.pairwise_cons.2 ⟨fun y hy=>?_,h⟩;rcases ze.1 hy with rfl|hy;omega;have:=h1 y hy;omega
def qk (xs us:List Int):Prop:=xs.Pairwise (· < ·)∧(∀b,b∈xs↔b∈us)∧xs.length=us.length
theorem iC:qk [] []:=⟨.nil,fun _=>.rfl,rfl⟩
theorem bG (h:l.Pairwise (· < ·))(ha:a∈l):(H6 a l).length=l.length:=by
 induction l with
 |nil=>cases ha
 |cons x l ih =>
  obtain⟨h1,h2⟩:=List.pairwise_cons.1 h;show(if x<a then x::H6 a l else if x=a then x::l else a::x::l).length=_;by_cases hx:x<a;rw[if_pos hx];rcases ze.1 ha with rfl|ha;omega;simp only[z9,ih h2 ha];rw[if_neg hx];by_cases hy:x=a;rw[if_pos hy];rcases ze.1 ha with rfl|ha;exact absurd rfl hy;have:=h1 a ha;omega
theorem XR (ha:a∉l):(H6 a l).length=l.length+1:=by
 induction l with
 |nil=>rfl
 |cons x l ih =>
  have hx:¬x=a:=fun h=>ha (h ▸ z0 ..);show(if x<a then x::H6 a l else if x=a then x::l else a::x::l).length=_;split;simp only[z9,ih fun h=>ha (z3 _ h)];rfl
theorem iD (h:qk xs us)(a:Int):qk (H6 a xs) (KD a us):=by obtain⟨h1,h2,h3⟩:=h;refine⟨X4 h1,fun b=>?_,?_⟩;rw[RJ,h2];unfold KD;split;exact⟨fun h=>h.elim (fun e=>by rw[e];assumption) id,.inr⟩;rw[zi,List.mem_singleton];exact Or.comm;unfold KD;split;rename_i h9;rw[bG h1 ((h2 a).2 h9),h3];rename_i h9;rw[XR (fun h=>h9 ((h2 a).1 h)),h3];simp
end
end
section
section
variable {n:Int} {m:Nat} {s:CS} {a:Av} {w:List Int} {l:List Av} {c:Cn} {i:Nat}
theorem XS (hb:aZ n m s)(ha:Gd a)(hp:Cw s.c a=true):Em (FB s a).ov w n.toNat=Em s.ov w n.toNat+(if a.kind=1 then P5 w s.c.at_.toNat a.arg.toNat else 0):=by
 show Em (Xn s a) w n.toNat=_;unfold Xn;by_cases k1:a.kind=1;have hat:s.c.at_+a.arg<s.c.left:=by
  unfold Cw at hp;rw[if_pos k1]at hp;exact of_decide_eq_true hp
 have h6:=hb.len;have h7:=hb.k.at0;have h8:=hb.k.ln;unfold Gd at ha;rw[if_pos k1,if_pos k1,← h6,Rz _ (by omega)];rw[if_neg k1,if_neg k1];omega
theorem mG (k:Nat):Em (List.replicate m 0) w k=0:=by
 induction k with
 |zero=>rfl
 |succ k ih =>
  show Em _ w k+(List.replicate m (0:Int)).getD k 0*w.getD k 0=0;rw[ih,show(List.replicate m (0:Int)).getD k 0=0 from by simp only[List.getD_eq_getElem?_getD,List.getElem?_replicate];split <;> rfl];omega
theorem Qg (h:GB (l.drop i) c ((i:Nat):Int) = -1)(hi:i<l.length):Cw c (l.getD i Av.zero)=true:=by
 cases hp:Cw c (l.getD i Av.zero)with
 |true=>rfl
 |false=>rw[N4 hi hp]at h;omega
theorem JP (h:GB (l.drop i) c ((i:Nat):Int) = -1)(hi:i<l.length):GB (l.drop (i+1)) (CC c (l.getD i Av.zero)) ((i+1:Nat):Int) = -1:=by rw[Qe hi (Qg h hi)]at h;rw[show((i+1:Nat):Int)=((i:Nat):Int)+1 from by omega];exact h
theorem bH:(FB s a).u.adv=s.u.adv+(if a.kind=1 then a.arg else 0):=by show(Nz s.u a).adv=_;unfold Nz;split;rfl;split;show s.u.adv=_;omega;split <;> (show s.u.adv=_;omega)
theorem iE:(FB s a).u.st=s.u.st+(if a.kind=2 then 1 else 0):=by show(Nz s.u a).st=_;unfold Nz;split;rw[if_neg (by omega)];show s.u.st=_;omega;split;rfl;split <;> (show s.u.st=_;omega)
theorem iF:(FB s a).u.ld=s.u.ld+(if a.kind=3 then 1 else 0):=by show(Nz s.u a).ld=_;unfold Nz;split;rw[if_neg (by omega)];show s.u.ld=_;omega;split;rw[if_neg (by omega)];show s.u.ld=_;omega;split;rfl;show s.u.ld=_;omega
theorem iG:(FB s a).us=if a.kind=2 then KD a.arg s.us else s.us:=rfl
theorem RK {M:Nat}(h:∀k,0≤w.getD k 0∧w.getD k 0≤M)(b:Nat):∀k:Nat,0≤P5 w b k∧P5 w b k≤M*k
 |0=>⟨Int.le_refl _,by show(0:Int)≤_;simp⟩
 |k+1=>by
  have h1:=RK h b k
  have h2:=h (b+k)
  show 0≤P5 w b k+w.getD (b+k) 0∧P5 w b k+w.getD (b+k) 0≤_
  rw[Int.natCast_add,Int.mul_add];omega
end
end
section
section res
variable {P:Program} {N:Nat} {ρ:Nat→Value} {w:World} {t:TypeId}
theorem If {s b o:Nat}(ht:E0 P t s=true){cs:List Value}(h:LD w.heap (.pointer (some ⟨b,o,none⟩)) cs)(hl:cs.length=s):(loadVar t ⟨b,o,none⟩).run P w=.ok (.agg cs.toArray) w:=by
 obtain⟨b',o',he,h⟩:=h
 injection he with he
 injection he with he
 injection he with hb ho _;subst hb;subst ho;unfold E0 at ht;simp only[z7]at ht;obtain⟨h1,h2⟩:=ht;split at h1;rename_i fs hfs;split at h2;rename_i inf hin;have hs:inf.size=s:=by simpa using h2
 have hag:(isAgg t).run P w=.ok true w:=by
  unfold isAgg;simp only[Sem.run_bind,run_underlying hfs,Result.andThen_ok];rfl
 have hlc:=run_loadCells_list (P:=P) w ⟨b,o,none⟩ cs (fun j v hj=>by
  rw[GQ,BY];have hjl:j<cs.length:=(List.getElem?_eq_some_iff.1 hj).1;rw[h j hjl];simp[List.getD,hj])
 rw[hl,← hs]at hlc;simp[loadVar,hag,sizeOf,typeInfo,hin,hlc];cases h2;cases h1
theorem D6 {fn:Func}{R:Ending→World→Prop}{k s b:Nat}{ty:TypeId}{cs:List Value}(hr:fn.results=#[.cell k ty])(ha:E0 P ty s=true)(hv:Bk N ρ (.tmp k)=.pointer (some ⟨b,0,none⟩))(hb:BX w.heap b cs)(hl:cs.length=s)
  (h:R (.returned (.agg cs.toArray)) w):bodyPost P fn R .ret (mk N ρ) w:=by
 refine⟨rfl,_,?_,h⟩;have hld:=If (P:=P) ha (LD.of_box hb) hl;have hg:(mk N ρ).tmps.getD k undef=.pointer (some ⟨b,0,none⟩):=by rw[JL,hv]
 have hi:(asAddr (.pointer (some ⟨b,0,none⟩))).run P w=.ok ⟨b,0,none⟩ w:=rfl;unfold results;rw[hr];have hg':(mk N ρ).tmps[k]?.getD undef=.pointer (some ⟨b,0,none⟩):=by simpa using hg
 simp[Sem.run_bind,hg',hi,hld,Result.andThen]
end res
section fr
variable {α:Type} {E:BS α} {s:Nat} {e e':TypeId} {B U d:Nat} {H:Array Obj} {v:Value}
theorem Fr.isSlS {xs:List α}(h:Fr (Dt s E e) B U H v xs):Go.Proofs.YtemfgblmfahllaaGreat.ES v xs.length:=by obtain⟨F,h,_⟩:=h;exact h.isSl
theorem RN.of_frF {S:List Nat}{xs:List Fn}(h:Fr (Dt 3 (XD e d) e') B U H v xs)(hS:∀b∈S,b<B):RP S d H v xs:=by obtain⟨F,h1,_,h3⟩:=h;exact⟨F,(h1.rd (AQ e d)).imp fun h=>XE e h,fun b hb hm=>by have:=h3 b hb;have:=hS b hm;omega⟩
end fr
section str
variable {P:Program} {ops:Array Oper} {w0:World} {Q:Act→World→Prop} {os:List Oper} {ks:List Nat} {N:Nat} {ρ:Nat→Value} {w:World}
 {d:Nat} {ty:TypeId} {pos:String} {aft:Array Edge} {g:Option (Nat×Bool)} {t e:TypeId}
theorem iH {xt yt:TypeId}{x y:Operand}{a b:ByteArray}(hx:Bk N ρ x=.string a)(hy:Bk N ρ y=.string b)(hl:a.size+b.size≤9223372036854775807)(hu:Up ops N ρ ⟨some d,.binOp .add xt x y yt,ty,pos,aft,g⟩)
  (h:LW P ops w0 Q os ks (mk N (Ch ρ d (.string (a++b)))) w):LW P ops w0 Q (⟨some d,.binOp .add xt x y yt,ty,pos,aft,g⟩::os) (0::ks) (mk N ρ) w :=
 D2 (by decide) rfl hu _ (fun w' _=>by
  have he:(eqGuard .add xt x y (.string a) (.string b)).run P w'=.ok () w':=rfl
  have hr:(binOp .add xt (.string a) (.string b)).run P w'=.ok (.string (a++b)) w':=by
   have h2:=run_string_add_sum (P:=P) w' a b hl;simpa [binOp]using h2
  simp only[execOp,hx,hy,Sem.run_bind,he,Result.andThen_ok,hr,Sem.run_pure]) h
end str
end
section
theorem RM:∀(cs:List Value)(k:Nat)(A:Array Value),k+cs.length≤A.size→((cs.zipIdx k).foldl (fun A p=>A.setIfInBounds (0+p.2) p.1) A).toList=A.toList.take k++cs++A.toList.drop (k+cs.length)
 |[],k,A,_=>by simp
 |c::cs,k,A,h=>by
  rw[z9]at h
  rw[List.zipIdx_cons,List.foldl_cons,RM cs (k+1) _ (by simp;omega)]
  simp only[Array.toList_setIfInBounds,Nat.zero_add]
  have h1:(A.toList.set k c).take (k+1)=A.toList.take k++[c]:=by
   rw[List.take_succ_eq_append_getElem (by simp;omega),List.take_set,List.set_eq_of_length_le (by simp;omega)];simp
  have h2:(A.toList.set k c).drop (k+1+cs.length)=A.toList.drop (k+(c::cs).length):=by
   rw[List.drop_set_of_lt zO,z9,show k+1+cs.length=k+(cs.length+1)from by omega]
  rw[h1,h2,List.append_assoc (A.toList.take k)];simp
theorem XT {cs:List Value}{A:Array Value}(h:A.size=cs.length):cs.zipIdx.foldl (fun A p=>A.setIfInBounds p.2 p.1) A=cs.toArray:=by apply Array.ext';have:=RM cs 0 A zO;simp only[List.take_zero,zl,Nat.zero_add]at this;rw[List.drop_of_length_le (by rw[Array.length_toList];omega),List.append_nil]at this;simpa using this
section run
variable {P:Program} {w:World} {α:Type} {E:BS α} {s:Nat} {t ty e:TypeId} {b:Nat} {z:Value}
theorem bI {cs:List Value}(ht:P.underlying t=some (.slice e))(hi:TI P e s z b)(hs:0<s)(hs2:s≤1000)(hz:z.cells.size=s)(hc:cs.length=s) :
  (Instr.buildSlice t 1 #[(0,.agg cs.toArray)]).run P w=.ok (.slice (some ⟨w.heap.size,0,none⟩) 1 1) (w.alloc (.cells cs.toArray e)):=by
 obtain⟨i,h1,h2,h3,h4⟩:=hi.get;have h0:¬(s=0):=by omega
 have hA:((Array.range s).map (fun x=>z.cells[x % s]!)).size=cs.length:=by simp[hc]
 have hf:=XT hA;have hbig:¬(s > 2 ^ 24):=by omega
 simp only[Instr.buildSlice,Sem.run_bind,run_underlying ht,Result.andThen_ok,sizeOf,typeInfo,zeroValue,h1,h2,h3,Nat.one_mul,Instr.fill,hz,Sem.run_pure];have hag:(Value.agg cs.toArray).cells=cs.toArray:=rfl;simp[h0,hbig,hag,hc,newRow,hz,h1,h2,h3,Instr.fill,run_underlying ht,typeInfo];rw[hf]
def P7 (E:BS α)(B U:Nat)(H:Array Obj)(cs:List Value)(x:α):Prop:=∃G,E H cs x G∧G.Nodup∧∀b∈G,B≤b∧b<U
theorem N5 (hE:Ct s E){css:List (List Value)}{xs:List α}{F:List Nat}{cur:Array Value}{cap:Nat}(h:CL E w.heap css xs F)(hl:xs.length≤cap)(hm:cap≤maxLen)(hsz:cur.size=cap*s)(hc:cur.toList.take (xs.length*s)=css.flatten) :
  Dt s E e (w.alloc (.cells cur e)).heap (.slice (some ⟨w.heap.size,0,none⟩) xs.length cap) xs (w.heap.size::F):=by
 refine .inr ⟨css,w.heap.size,cap,cur,F,h.stable hE fun b hb=>?_,rfl,?_,hl,hm,hsz,hc,rfl⟩;exact Below.heap_alloc _ _ _<|h.lt hE b hb;show(w.heap.push _)[w.heap.size]? = _;simp
def X5 {α β:Type}(E:Array Obj→β→α→List Nat→Prop)(S:Nat→Prop)(H:Array Obj)(v:β)(x:α):Prop:=∃F,E H v x F∧F.Nodup∧∀b∈F,S b
theorem X5.chg {α:Type}{E:BL α}(hE:CA E){S:Nat→Prop}{w w':World}{v:Value}{x:α}{F:List Nat}(h:X5 E S w.heap v x)(c:AF F w w')(hF:∀b∈F,¬S b):X5 E S w'.heap v x:=by obtain⟨G,h1,h2,h3⟩:=h;exact⟨G,hE.stable h1 fun b hb=>c.block b (hE.lt h1 b hb) fun hm=>hF b hm (h3 b hb),h2,h3⟩
theorem X5.isSlS {α:Type}{E:BS α}{s:Nat}{e:TypeId}{S:Nat→Prop}{H:Array Obj}{v:Value}{xs:List α}(h:X5 (Dt s E e) S H v xs):Go.Proofs.YtemfgblmfahllaaGreat.ES v xs.length:=by obtain⟨F,h,_⟩:=h;exact h.isSl
theorem X5.fr {α:Type}{E:BL α}(hE:CA E){S:Nat→Prop}{w:World}{v:Value}{x:α}{B:Nat}(h:X5 E S w.heap v x)(hB:∀b,S b→B≤b):Fr E B w.heap.size w.heap v x:=by obtain⟨G,h1,h2,h3⟩:=h;exact⟨G,h1,h2,fun b hb=>⟨hB b (h3 b hb),hE.lt h1 b hb⟩⟩
theorem NF (hE:Ct s E)(ht:P.underlying t=some (.slice e))(hi:TI P e s z b)(hz:z.cells.size=s)(hs:0<s){v:Value}{xs:List α}{S T:Nat→Prop}(hv:X5 (Dt s E e) S w.heap v xs)
  {a:Value} {y:α} (ha:X5 (Dt s E e) T w.heap a [y]) (hST:∀b,S b→T b→False) (hbytes:(xs.length+1)*b≤140737488355328) (hmx:xs.length+1≤maxLen) :
  ∃v' w' F,(Builtin.append_ #[t,t] ty #[v,a]).run P w=.ok v' w'∧X5 (Dt s E e) (fun b=>S b∨T b∨b=w.heap.size) w'.heap v' (xs++[y])∧AF F w w'∧∀c∈F,S c:=by
 obtain⟨F,hv1,hn,hF⟩:=hv;obtain⟨G,ha1,hnG,hG⟩:=ha;obtain⟨i,h1,h2,h3,h4⟩:=hi.get;subst h4;have hsmall:xs.length+1≤9223372036854775807:=by simp only[maxLen]at hmx;omega
 rcases ha1 with⟨_,h0,_⟩|⟨cas,ga,capa,cura,G',hels,rfl,hga,a1,a2,a3,a4,rfl⟩;cases h0;have hnG':=List.nodup_cons.1 hnG;have hfl:cas.flatten.length=s:=by have:=hels.flen hE;simpa using this
 simp only[zd,Nat.one_mul]at a4 a1;have hnews:∀j u,cas.flatten[j]? = some u→w.cell? ((⟨ga,0,none⟩:Addr).add j)=some u:=by
  intro j u hj;have e1:(⟨ga,0,none⟩:Addr).add j=⟨ga,j,none⟩:=by
   unfold Addr.add;split;rename_i hh;subst hh;rfl;simp
  rw[e1,BY];simp only[Cv,hga];rw[← a4,List.getElem?_take]at hj;split at hj;simpa using hj;cases hj
 have h1c:∀u∈cas.flatten,u.oneCell'=true:=fun u hu=>(hels.one hE u hu).2;have hl1:cas.flatten.length=1*i.size:=by rw[h3,hfl,Nat.one_mul]
 have made:∀(w1:World) (ous:List (List Value)) (F0:List Nat) (rest:Nat),w1.heap=w.heap→w1.os=w.os→w1.tape=w.tape→w1.output=w.output→CL E w.heap ous xs F0→(∀c∈F0,c∈F)→F0.Nodup →
   (xs.length+1+rest)≤maxLen →
   X5 (Dt s E e) (fun b=>S b∨T b∨b=w.heap.size) (w1.alloc (.cells (ous.flatten.toArray++cas.flatten.toArray++Builtin.zeroCells z.cells rest) e)).heap (.slice (some ⟨w.heap.size,0,none⟩) (xs.length+1) (xs.length+1+rest)) (xs++[y]) ∧
    AF ([]:List Nat) w (w1.alloc (.cells (ous.flatten.toArray++cas.flatten.toArray++Builtin.zeroCells z.cells rest) e)):=by
  intro w1 ous F0 rest hh ho htp hop hou hsub hnd hmax;have happ:=hou.append hels;have hofl:=hou.flen hE;have hzc:(Builtin.zeroCells z.cells rest).size=rest*s:=by simp[Builtin.zeroCells,hz]
  have hsz:(ous.flatten.toArray++cas.flatten.toArray++Builtin.zeroCells z.cells rest).size=(xs.length+1+rest)*s:=by
   rw[Nat.add_mul,Nat.add_mul,Nat.one_mul];simp only[Array.size_append,List.size_toArray,hzc,hfl,hofl]
  have hlen:(xs++[y]).length=xs.length+1:=by simp
  have hnew:=N5 (e:=e) (w:=w1) hE (css:=ous++cas) (xs:=xs++[y]) (F:=F0++G') (cur:=ous.flatten.toArray++cas.flatten.toArray++Builtin.zeroCells z.cells rest) (cap:=xs.length+1+rest)
   (by rw[hh];exact happ) (by rw[hlen];omega) hmax hsz (by
    rw[hlen,Array.toList_append,Array.toList_append,List.flatten_append];have e1:(xs.length+1)*s=(ous.flatten++cas.flatten).length:=by rw[z4,hofl,hfl,Nat.add_mul,Nat.one_mul]
    rw[e1];exact List.take_left)
  rw[hh,hlen]at hnew;have hnn:(w.heap.size::(F0++G')).Nodup:=by
   rw[List.nodup_cons];refine⟨fun hm=>?_,?_⟩;have:=happ.lt hE _ hm;omega;rw[List.nodup_append];refine⟨hnd,hnG'.2,?_⟩;rintro x hx y hy rfl;exact hST _ (hF x<|hsub x hx)<|hG x<|z3 _ hy
  refine⟨⟨_,hnew,hnn,fun c hc=>?_⟩,ho,htp,hop,?_,fun k hk _=>?_⟩;rcases ze.1 hc with rfl|hc;exact .inr<|.inr rfl;rcases zi.1 hc with hc|hc;exact .inl<|hF c<|hsub c hc;exact .inr<|.inl<|hG c<|z3 _ hc;show w.heap.size≤(w1.heap.push _).size;rw[hh];simp;have:=Below.heap_alloc w1 (.cells (ous.flatten.toArray++cas.flatten.toArray++Builtin.zeroCells z.cells rest) e) k (by rw[hh];exact hk);rw[this,hh]
 rcases hv1 with⟨rfl,rfl,rfl⟩|⟨ous,gv,capv,curv,F0,hels0,rfl,hgv,r1,r2,r3,r4,rfl⟩;have hr:=run_append_nil (P:=P) w t ty e i z ht h1 h2 ⟨ga,0,none⟩ 1 capa cas.flatten hl1 hnews (by decide) (by decide) (by simp at hbytes ⊢;omega);have hge:=grownCap_ge w 1 0 e;have hgm:=grownCap_le_maxLen w 1 0 e (by simpa using hmx);obtain⟨q1,q2⟩:=made w.drew [] [] (grownCap w 1 0 e-1) rfl rfl rfl rfl rfl (fun c hc=>by cases hc) zk (by simp;omega);refine⟨_,_,[],hr,?_,?_,fun c hc=>by cases hc⟩;have ea:(([]:List α).length+1+(grownCap w 1 0 e-1))=grownCap w 1 0 e:=by simp;omega
 rw[ea]at q1;simpa using q1;simpa using q2;have hn':=List.nodup_cons.1 hn;have hofl:=hels0.flen hE;by_cases hroom:xs.length+1≤capv;have hbnd:xs.length*s+s≤curv.size:=by rw[r3,← Nat.succ_mul];exact Nat.mul_le_mul_right s hroom
 have hr:=run_append_room (P:=P) w t ty e i ht h1 gv xs.length capv curv hgv ⟨ga,0,none⟩ 1 capa cas.flatten hl1 hnews h1c hroom (by rw[h3,hfl];exact hbnd);rw[h3]at hr;have hgF:gv∉F0:=hn'.1;have hgG:gv∉G':=fun hm=>hST _ (hF gv (z0 ..)) (hG gv (z3 _ hm));refine⟨_,_,[gv],hr,⟨gv::(F0++G'),.inr ⟨ous++cas,gv,capv,_,F0++G',?_,by rw[z4,zd],setRow_heap w gv curv _ e _ hgv,by rw[z4,zd];exact hroom,r2,?_,?_,rfl⟩,?_,fun c hc=>?_⟩,⟨rfl,rfl,rfl,by simp,fun k _ hk=>setRow_other w gv k _ fun hh=>hk (by simp[hh])⟩,fun c hc=>by rw[A9 hc];exact hF gv (z0 ..)⟩;refine (hels0.append hels).stable hE fun c hc=>setRow_other w gv c _ fun hcg=>?_;subst hcg;rcases zi.1 hc with hc|hc;exact hgF hc;exact hgG hc;rw[← r3];simp only[List.size_toArray,z4,List.length_take,List.length_drop,Array.length_toList];omega;rw[z4,zd];simp only[List.flatten_append];rw[r4];have e1:(xs.length+1)*s=(ous.flatten++cas.flatten).length:=by rw[z4,hofl,hfl,Nat.add_mul,Nat.one_mul]
 rw[e1];exact List.take_left;rw[List.nodup_cons,List.nodup_append];refine⟨fun hm=>?_,hn'.2,hnG'.2,?_⟩;rcases zi.1 hm with hm|hm;exact hgF hm;exact hgG hm;rintro x hx y hy rfl;exact hST _ (hF x<|z3 _ hx)<|hG x<|z3 _ hy;rcases ze.1 hc with rfl|hc;exact .inl<|hF c (z0 ..);rcases zi.1 hc with hc|hc;exact .inl<|hF c<|z3 _ hc;exact .inr<|.inl<|hG c<|z3 _ hc;have holds:∀j u,ous.flatten[j]? = some u→w.cell? ((⟨gv,0,none⟩:Addr).add j)=some u:=by
  intro j u hj;have e1:(⟨gv,0,none⟩:Addr).add j=⟨gv,j,none⟩:=by
   unfold Addr.add;split;rename_i hh;subst hh;rfl;simp
  rw[e1,BY];simp only[Cv,hgv];rw[← r4,List.getElem?_take]at hj;split at hj;simpa using hj;cases hj
 have hr:=run_append_grow (P:=P) w t ty e i z ht h1 h2 ⟨gv,0,none⟩ xs.length capv ous.flatten (by rw[h3,hofl]) holds ⟨ga,0,none⟩ 1 capa cas.flatten hl1 hnews zO zO<|growslice_fits zO hbytes;have hge:=grownCap_ge w (xs.length+1) capv e;have hgm:=grownCap_le_maxLen w (xs.length+1) capv e hmx;obtain⟨q1,q2⟩:=made w.drew ous F0 (grownCap w (xs.length+1) capv e-(xs.length+1)) rfl rfl rfl rfl hels0 (fun c hc=>z3 _ hc) hn'.2 zO;refine⟨_,_,[],hr,?_,q2,fun c hc=>by cases hc⟩;have ea:(xs.length+1+(grownCap w (xs.length+1) capv e-(xs.length+1)))=grownCap w (xs.length+1) capv e:=by omega
 rw[ea]at q1;exact q1
theorem XU (hE:Ct s E)(ht:P.underlying t=some (.slice e))(hi:TI P e s z b)(hz:z.cells.size=s)(hs:0<s){v:Value}{xs:List α}{B U:Nat}(hv:Fr (Dt s E e) B U w.heap v xs)(hB:B≤w.heap.size)
  {a:Value} {y:α} {B' U':Nat} (ha:Fr (Dt s E e) B' U' w.heap a [y]) (hU:U≤B') (hBB:B≤B') (hbytes:(xs.length+1)*b≤140737488355328) (hmx:xs.length+1≤maxLen) :
  ∃v' w' F,(Builtin.append_ #[t,t] ty #[v,a]).run P w=.ok v' w'∧Fr (Dt s E e) B w'.heap.size w'.heap v' (xs++[y])∧AF F w w'∧∀c∈F,B≤c∧c<U:=by
 obtain⟨v',w',F,r1,⟨G,h1,h2,h3⟩,r3,r4⟩:=NF (P:=P) (ty:=ty) hE ht hi hz hs (S:=fun b=>B≤b∧b<U) (T:=fun b=>B'≤b∧b<U') hv ha (fun b h1 h2=>by omega) hbytes hmx;exact⟨v',w',F,r1,⟨G,h1,h2,fun b hb=>⟨by have:=h3 b hb;omega,(Aj hE).lt h1 b hb⟩⟩,r3,r4⟩
end run
section ops
variable {P:Program} {ops:Array Oper} {w0:World} {Q:Act→World→Prop} {os:List Oper} {ks:List Nat} {N:Nat} {ρ:Nat→Value} {w:World}
 {d:Nat} {ty:TypeId} {pos:String} {aft:Array Edge} {g:Option (Nat×Bool)} {t e:TypeId} {z:Value} {b s:Nat} {α:Type} {E:BS α}
theorem E9 (hE:Ct s E){x:Operand}{cs:List Value}{y:α}{B U:Nat}(ht:P.underlying t=some (.slice e))(hi:TI P e s z b)(hz:z.cells.size=s)(hs:0<s∧s≤1000)(hx:Bk N ρ x=.agg cs.toArray)(hy:P7 E B U w.heap cs y)(hB:B≤w.heap.size)
  (hu:Up ops N ρ ⟨some d,.buildSlice t 1 #[(0,x)],ty,pos,aft,g⟩)
  (h:∀v w1,AI w w1→w1.heap.size=w.heap.size+1→Fr (Dt s E e) B w1.heap.size w1.heap v [y]→LW P ops w0 Q os ks (mk N (Ch ρ d v)) w1) :
  LW P ops w0 Q (⟨some d,.buildSlice t 1 #[(0,x)],ty,pos,aft,g⟩::os) (3::ks) (mk N ρ) w:=by
 obtain⟨F,h1,h2,h3⟩:=hy;have hl:=hE.len h1;have hr:=bI (P:=P) (w:=w) ht hi hs.1 hs.2 hz hl;have hrun:(execOp (Bk N ρ) ⟨some d,.buildSlice t 1 #[(0,x)],ty,pos,aft,g⟩).run P w=.ok (.value (.slice (some ⟨w.heap.size,0,none⟩) 1 1)) (w.alloc (.cells cs.toArray e)):=by
  simp only[execOp,zc,zf,zh,Sem.run_bind,hx,hr,Result.andThen_ok,Sem.run_pure]
 refine II rfl hu _ _ hrun (BM _ _)<|h _ _ (BM _ _) (by simp) ?_;have hn:=N5 (e:=e) (w:=w) hE (css:=[cs]) (xs:=[y]) (F:=F++[]) (cur:=cs.toArray) (cap:=1) ⟨F,[],rfl,h1,rfl⟩ (by simp) (by simp[maxLen]) (by simp[hl]) (by simp[← hl]);refine⟨_,hn,?_,fun c hc=>?_⟩;rw[List.append_nil,List.nodup_cons];exact⟨fun hm=>by have:=hE.lt h1 _ hm;omega,h2⟩;have hlt:=(Aj hE).lt hn c hc;refine⟨?_,hlt⟩;rcases ze.1 hc with rfl|hc;exact hB;exact (h3 c (by simpa using hc)).1
theorem GR (hE:Ct s E){x y:Operand}{v a:Value}{xs:List α}{y0:α}{B U B' U':Nat}(ht:P.underlying t=some (.slice e))(hi:TI P e s z b)(hz:z.cells.size=s)(hs:0<s)(hx:Bk N ρ x=v)(hy:Bk N ρ y=a)(hv:Fr (Dt s E e) B U w.heap v xs)(hB:B≤w.heap.size)
  (ha:Fr (Dt s E e) B' U' w.heap a [y0]) (hU:U≤B') (hBB:B≤B') (hbytes:(xs.length+1)*b≤140737488355328) (hmx:xs.length+1≤maxLen) (hu:Up ops N ρ ⟨some d,.call ⟨.builtin .append,#[x,y],#[t,t]⟩,ty,pos,aft,g⟩)
  (h:∀v1 w1 F,AF F w w1→(∀c∈F,B≤c∧c<U)→Fr (Dt s E e) B w1.heap.size w1.heap v1 (xs++[y0])→LW P ops w0 Q os ks (mk N (Ch ρ d v1)) w1) :
  LW P ops w0 Q (⟨some d,.call ⟨.builtin .append,#[x,y],#[t,t]⟩,ty,pos,aft,g⟩::os) (4::ks) (mk N ρ) w:=by
 obtain⟨v1,w1,F,r1,r2,r3,r4⟩:=XU (P:=P) (ty:=ty) hE ht hi hz hs hv hB ha hU hBB hbytes hmx;exact IV rfl hu v1 w1 (by simp only[execOp,resolve,invoke,builtin,zc,zf,zh,Sem.run_bind,Sem.run_pure,Result.andThen_ok,hx,hy,r1])<|h v1 w1 F r3 r4 r2
theorem iI (hE:Ct s E){x y:Operand}{v a:Value}{xs:List α}{y0:α}{B U B' U':Nat}(ht:P.underlying t=some (.slice e))(hi:TI P e s z b)(hz:z.cells.size=s)(hs:0<s)(hx:Bk N ρ x=v)(hy:Bk N ρ y=a)(hv:Fr (Dt s E e) B U w.heap v xs)
  (ha:Fr (Dt s E e) B' U' w.heap a [y0]) (hU:U≤B') (hbytes:(xs.length+1)*b≤140737488355328) (hmx:xs.length+1≤maxLen) (hu:Up ops N ρ ⟨some d,.call ⟨.builtin .append,#[x,y],#[t,t]⟩,ty,pos,aft,g⟩)
  (h:∀v1 w1 F,AF F w w1→(∀c∈F,B≤c∧c<U)→X5 (Dt s E e) (fun b=>(B≤b∧b<U)∨(B'≤b∧b<U')∨b=w.heap.size) w1.heap v1 (xs++[y0])→LW P ops w0 Q os ks (mk N (Ch ρ d v1)) w1) :
  LW P ops w0 Q (⟨some d,.call ⟨.builtin .append,#[x,y],#[t,t]⟩,ty,pos,aft,g⟩::os) (4::ks) (mk N ρ) w:=by
 obtain⟨v1,w1,F,r1,r2,r3,r4⟩:=NF (P:=P) (ty:=ty) hE ht hi hz hs (S:=fun b=>B≤b∧b<U) (T:=fun b=>B'≤b∧b<U') hv ha (fun b h1 h2=>by omega) hbytes hmx;exact IV rfl hu v1 w1 (by simp only[execOp,resolve,invoke,builtin,zc,zf,zh,Sem.run_bind,Sem.run_pure,Result.andThen_ok,hx,hy,r1])<|h v1 w1 F r3 r4 r2
end ops
theorem Ig {α:Type}{s:Nat}{E:BS α}{e:TypeId}(B U:Nat)(H:Array Obj):Fr (Dt s E e) B U H (.slice none 0 0) ([]:List α):=⟨[],.inl ⟨rfl,rfl,rfl⟩,zk,fun c hc=>by cases hc⟩
end
theorem qt {p:Prop}(h:p):RowKit.Hid p:=h
def md (x:Int):Int:=x % 1000003
theorem CM (x:Int):0≤md x:=Int.emod_nonneg x (by decide)
theorem GS (x:Int):md x<1000003:=Int.emod_lt_of_pos x (by decide)
theorem FC (x:Int):-9223372036854775808≤md x∧md x≤9223372036854775807:=by have:=CM x;have:=GS x;omega
theorem UE {x:Int}(h:0≤x)(h':x<1000003):md x=x:=Int.emod_eq_of_lt h h'
theorem RO (x:Int):md (md x)=md x:=UE (CM x) (GS x)
theorem Ts (a b:Int):md (md a+md b)=md (a+b):=by unfold md;rw[← Int.add_emod]
theorem KE (a b:Int):md (md a*md b)=md (a*b):=by unfold md;rw[← Int.mul_emod]
theorem XV (a b:Int):md (md a-md b)=md (a-b):=by unfold md;rw[← Int.sub_emod]
theorem UF (a b:Int):md (a+md b)=md (a+b):=by rw[← Ts,RO,Ts]
theorem Qh (a b:Int):md (a-md b)=md (a-b):=by rw[← XV,RO,XV]
theorem bJ (a:Int):md (a+1000003)=md a:=by unfold md;omega
theorem Tt (a:Int):md (-(md a))=md (-a):=by have:=Qh 0 a;simpa using this
theorem N6 {a b:Int}(ha:0≤a)(ha':a<1000003)(hb:0≤b)(hb':b<1000003):0≤a*b∧a*b≤1000004000004:=by refine⟨Int.mul_nonneg ha hb,?_⟩;have h1:a*b≤1000002*b:=Int.mul_le_mul_of_nonneg_right zO hb;have h2:1000002*b≤1000002*1000002:=Int.mul_le_mul_of_nonneg_left zO (by decide);omega
theorem tm (x:Int):x.tmod 1000003=if 0≤x then md x else -(md (-x)):=by unfold md;split;rename_i h;exact Int.tmod_eq_emod_of_nonneg h;rename_i h;have:=Int.tmod_eq_emod_of_nonneg (a:=-x) (b:=1000003) zO;rw[Int.neg_tmod]at this;omega
theorem Hh {x:Int}(h:-9223372036854775808≤x)(h':x≤9223372036854775807):wr x=x:=Cs h h'
theorem iJ (n:Int):(wr (n.tmod 1000003+((1000003:Nat):Int))).tmod 1000003=md n:=by have h1:=CM n;have h2:=GS n;have h3:=CM (-n);have h4:=GS (-n);rw[tm n];split;rw[Hh zO zO,tm,if_pos (by omega)];have:=bJ (md n);rw[RO]at this;simpa using this;rw[Hh zO zO,tm,if_pos (by omega)];have e1:md (-(md (-n))+((1000003:Nat):Int))=md (-(md (-n))):=bJ _;rw[e1,Tt];simp
theorem UG (a b:Int):(wr (md a+md b)).tmod 1000003=md (a+b):=by have h1:=CM a;have h2:=GS a;have h3:=CM b;have h4:=GS b;rw[Hh zO zO,tm,if_pos zO,Ts]
theorem RQ (a b:Int):(wr (md a*md b)).tmod 1000003=md (a*b):=by have:=N6 (CM a) (GS a) (CM b) (GS b);rw[Hh zO zO,tm,if_pos zO,KE]
theorem XW (a b:Int):md (a+wr (((1000003:Nat):Int)-md b))=md (a-b):=by have h3:=CM b;have h4:=GS b;rw[Hh zO zO,show a+(((1000003:Nat):Int)-md b)=(a-md b)+1000003 from by omega,bJ,Qh]
theorem Tu (a:Int)(k:Nat):md ((md a) ^ k)=md (a ^ k):=by
 induction k with
 |zero=>rw[Int.pow_zero,Int.pow_zero]
 |succ k ih=>rw[Int.pow_succ,Int.pow_succ,← KE,ih,RO,KE]
def pw (a n:Int):Int:=if n<0 then 0 else md (a ^ n.toNat)
theorem iK (a n:Int):-9223372036854775808≤pw a n∧pw a n≤9223372036854775807:=by unfold pw;split;omega;exact FC _
theorem iL (a n:Int):0≤pw a n∧pw a n<1000003:=by unfold pw;split;omega;exact⟨CM _,GS _⟩
def inv (a:Int):Int:=pw a ((1000001:Nat):Int)
theorem Qi (a:Int):-9223372036854775808≤inv a∧inv a≤9223372036854775807:=iK _ _
theorem bK (a:Int):0≤inv a∧inv a<1000003:=iL _ _
theorem RR (a:Int)(k:Nat):md (((1:Nat):Int)*(md a) ^ k)=md (a ^ k):=by rw[show((1:Nat):Int)*(md a) ^ k=(md a) ^ k from Int.one_mul _,Tu]
theorem iM {x b m R:Int}(h:md (x*b ^ m.toNat)=R)(h0:0<m)(h1:m % 2=1):md (md (x*b)*(md (b*b)) ^ (m / 2).toNat)=R:=by
 rw[← h,← KE,RO,Tu,KE];congr 1;have e:m.toNat=2*(m / 2).toNat+1:=by omega
 rw[e,Int.pow_succ,Int.pow_mul,show b ^ 2=b*b from by rw[Int.pow_succ,Int.pow_succ,Int.pow_zero,Int.one_mul]];rw[Int.mul_comm ((b*b) ^ (m / 2).toNat) b,Int.mul_assoc]
theorem bL {x b m R:Int}(h:md (x*b ^ m.toNat)=R)(h0:0<m)(h1:¬m % 2=1):md (x*(md (b*b)) ^ (m / 2).toNat)=R:=by
 rw[← h,← KE,Tu,KE];congr 1;have e:m.toNat=2*(m / 2).toNat:=by omega
 rw[e,Int.pow_mul,show b ^ 2=b*b from by rw[Int.pow_succ,Int.pow_succ,Int.pow_zero,Int.one_mul]]
theorem XX {x b m a n:Int}(h:md (x*b ^ m.toNat)=md (a ^ n.toNat))(h0:0≤m)(h1:¬((0:Nat):Int)<m)(hn:¬n<((0:Nat):Int))(hx:0≤x∧x<1000003):x=pw a n:=by
 have e:m=0:=by omega
 subst e;unfold pw;rw[if_neg zO,← h];simp only[Int.toNat_zero,Int.pow_zero,Int.mul_one];rw[UE hx.1 hx.2]
theorem XY {a n:Int}(h:n<((0:Nat):Int)):((0:Nat):Int)=pw a n:=by unfold pw;rw[if_pos (by omega)];rfl
theorem rZ {m:Int}(h:0≤m):m.tmod ((2:Nat):Int)=m % 2:=Int.tmod_eq_emod_of_nonneg h
theorem ql {m:Int}(h:0≤m)(h':m≤9223372036854775807):IntKind.i64.wrap (m.tdiv ((2:Nat):Int))=m / 2:=by rw[Int.tdiv_eq_ediv_of_nonneg h];exact Hh (x:=m / 2) zO zO
theorem RS {x b:Int}(hx:0≤x∧x<1000003)(hb:0≤b∧b<1000003):(wr (x*b)).tmod ((1000003:Nat):Int)=md (x*b):=by have:=N6 hx.1 hx.2 hb.1 hb.2;rw[Hh zO (by omega)];have:=tm (x*b);rw[if_pos (by omega)]at this;exact this
theorem CU (x:Int):0≤md x∧md x<1000003:=⟨CM x,GS x⟩
def M7 (n:Int):Bool:=decide (0≤n) && decide (n≤1000002)
theorem Dk {n:Int}:M7 n=true↔0≤n∧n<1000003:=by unfold M7;simp only[z7,decide_eq_true_eq];omega
def Bl (l:List Int):Bool:=l.all M7
theorem XZ (f:Int→Bool)(l:List Int):(l.take 0).all f=true:=rfl
theorem RU {α:Type}{f:α→Bool}{l:List α}{k:Nat}(d:α)(h:(l.take k).all f=true)(hk:k<l.length)(hf:f (l.getD k d)=true):(l.take (k+1)).all f=true:=by
 rw[List.take_succ_eq_append_getElem hk,List.all_append,h];have e:l.getD k d=l[k]:=by simp[hk]
 rw[e]at hf;simp[hf]
theorem RV {α:Type}{f:α→Bool}{l:List α}{k:Nat}(d:α)(hk:k<l.length)(hf:f (l.getD k d)=false):l.all f=false:=by
 have e:l.getD k d=l[k]:=by simp[hk]
 rw[e]at hf;rw[List.all_eq_false];exact⟨l[k],List.getElem_mem hk,by simp[hf]⟩
theorem RW {α:Type}{f:α→Bool}{l:List α}{k:Nat}(h:(l.take k).all f=true)(hk:l.length≤k):l.all f=true:=by rwa [za hk]at h
theorem D8 {l:List Int}(h:Bl l=true)(k:Nat):0≤l.getD k 0∧l.getD k 0<1000003:=by
 by_cases hk:k<l.length;have e:l.getD k 0=l[k]:=by simp[hk]
 rw[e];exact Dk.1<|zm.1 h _<|List.getElem_mem hk;have e:l.getD k 0=0:=by simp[Nat.not_lt.1 hk]
 rw[e];omega
theorem CW {α:Type}{l:List α}{k:Nat}(d:α)(h:k<l.length):l.take (k+1)=l.take k++[l.getD k d]:=by rw[List.take_succ_eq_append_getElem h];simp[h]
def H7 {α:Type}(n:Nat)(f:Nat→α):List α:=(List.range n).map f
@[simp] theorem FO {α:Type}(n:Nat)(f:Nat→α):(H7 n f).length=n:=by simp[H7]
theorem Dx {α:Type}{n:Nat}{f:Nat→α}{k:Nat}(d:α)(h:k<n):(H7 n f).getD k d=f k:=by simp[H7,h]
theorem NG {α:Type}(n:Nat)(f:Nat→α):H7 (n+1) f=H7 n f++[f n]:=by simp[H7,List.range_succ]
theorem bM {α:Type}{n:Nat}{f g:Nat→α}(h:∀k,k<n→f k=g k):H7 n f=H7 n g:=by unfold H7;exact List.map_congr_left fun k hk=>h k<|List.mem_range.1 hk
def JQ {α:Type}(k:Nat)(t z:List α):List α:=t.take k++z.drop k
theorem Lk {α:Type}(t z:List α):JQ 0 t z=z:=by simp[JQ]
theorem N7 {α:Type}{k:Nat}{t z:List α}(h:t.length=z.length)(hk:z.length≤k):JQ k t z=t:=by simp[JQ,za (show t.length≤k by omega),List.drop_of_length_le hk]
@[simp] theorem Ll {α:Type}(k:Nat)(t z:List α)(h:t.length=z.length):(JQ k t z).length=z.length:=by simp[JQ];omega
theorem UI {α:Type}{k:Nat}{t z:List α}(d:α)(h:t.length=z.length)(hk:k<z.length):(JQ k t z).set k (t.getD k d)=JQ (k+1) t z:=by
 unfold JQ;have hl:(t.take k).length=k:=by simp;omega
 rw[CW d zO,List.set_append_right _ _ zO,hl,Nat.sub_self,List.append_assoc];congr 1;rw[List.drop_eq_getElem_cons hk];rfl
theorem iN {α:Type}{k j:Nat}{t z:List α}(d:α)(h:t.length=z.length)(hkj:k≤j)(hj:j<z.length):(JQ k t z).getD j d=z.getD j d:=by
 unfold JQ;have hl:(t.take k).length=k:=by simp;omega
 rw[List.getD_eq_getElem?_getD,List.getElem?_append_right zO,hl,List.getElem?_drop,List.getD_eq_getElem?_getD];congr 2;omega
theorem iO {α:Type}{k j:Nat}{t z:List α}(d:α)(hkj:j<k)(hj:j<t.length):(JQ k t z).getD j d=t.getD j d:=by unfold JQ;rw[List.getD_eq_getElem?_getD,List.getElem?_append_left (by simp;omega),List.getElem?_take,if_pos hkj,List.getD_eq_getElem?_getD]
theorem Qj {α:Type}{n k:Nat}{f:Nat→α}{z:List α}(hz:z.length=n)(hk:k<n):JQ (k+1) (H7 n f) z=(JQ k (H7 n f) z).set k (f k):=by rw[← UI (f k) (by simp[hz]) zO,Dx _ hk]
theorem UJ (l:List Int):(!l.any fun x=>!M7 x)=Bl l:=by unfold Bl;rw[← List.all_eq_not_any_not]
theorem GT {α:Type}(l:List α)(i j:Nat)(x d:α)(hi:i<l.length):(l.set i x).getD j d=if j=i then x else l.getD j d:=by rw[List.getD_eq_getElem?_getD,List.getElem?_set];by_cases h:i=j;subst h;simp[hi];simp[h,Ne.symm h]
def sp (a b:List Int)(y:Int):List Int:=H7 a.length fun k=>md (a.getD k 0-md (y*b.getD k 0))
theorem N8 {n:Nat}{f:Nat→Int}(h:∀k,k<n→0≤f k∧f k<1000003):Bl (H7 n f)=true:=by
 unfold Bl H7;rw[zm]
 intro x hx;obtain⟨k,hk,rfl⟩:=List.mem_map.1 hx;exact Dk.2<|h k<|List.mem_range.1 hk
def sr (c:Nat)(rc:List Int)(iv:Int):Nat→List (List Int)→List (List Int):=it fun j M=>M.set (c+1+j) (sp (M.getD (c+1+j) []) rc (md ((M.getD (c+1+j) []).getD c 0*iv)))
theorem P8 {α:Type}(l:List α){r:Nat}(d:α)(h:r<l.length):l.set r (l.getD r d)=l:=by
 have:l.getD r d=l[r]:=by simp[h]
 rw[this,List.set_getElem_self]
theorem Y0 {α:Type}{a b:List α}{d:α}{k:Nat}(h:∀j,j<k→a.getD j d=b.getD j d)(hk:a.getD k d=b.getD k d):∀j,j<k+1→a.getD j d=b.getD j d:=by intro j hj;by_cases e:j=k;subst e;exact hk;exact h j zO
theorem NH {α:Type}{a b:List α}{d:α}{k:Nat}(h:∀j,j<k→a.getD j d=b.getD j d)(hl:a.length=b.length)(hk:a.length≤k):a=b:=by
 apply List.ext_getElem hl
 intro i h1 h2;have:=h i zO;simpa [h1,h2]using this
theorem Y1 {α:Type}{a b:List α}{d:α}{k:Nat}(h:a.getD k d≠b.getD k d):a≠b:=fun e=>h (by rw[e])
theorem bN {α:Type}{a b:List α}(h:a.length≠b.length):a≠b:=fun e=>h (by rw[e])
def Ge (x a b:Int):Bool:=decide (a≤x) && decide (x≤b)
def EK (e:Ex):Bool:=decide (e.pick=0) && decide (e.count=0)
def Ih (p:List Fn)(funcs vars:Int)(e:Ex):Bool :=
 if e.kind=1 then EK e && (decide (e.kids.length=0) && M7 e.num)
 else if e.kind=2 then EK e && (decide (e.kids.length=0) && Ge e.num 0 (vars-1))
 else if e.kind=3∨e.kind=4∨e.kind=5∨e.kind=6∨e.kind=9 then EK e && (decide (e.num=0) && decide (e.kids.length=2))
 else if e.kind=7 then EK e && (decide (e.num=0) && decide (e.kids.length=1))
 else if e.kind=8 then EK e && (decide (e.num=0) && decide (e.kids.length=3))
 else if e.kind=10∨e.kind=11 then
  Ge e.num 0 (funcs-1) && (decide ((e.kids.length:Int)=(p.getD e.num.toNat Fn.zero).params) && (Ge e.pick 0 (((p.getD e.num.toNat Fn.zero).outs.length:Int)-1) &&
   (if e.kind=10 then decide (e.count=0)else decide (((p.getD e.num.toNat Fn.zero).outs.length:Int)=(p.getD e.num.toNat Fn.zero).params) && Ge e.count 0 8)))
 else false
mutual
def wf (p:List Fn)(funcs:Int):Ex→Int→Bool
 |.mk k n q c l,vars=>Ih p funcs vars (.mk k n q c l) && UK p funcs (decide (k=9)) 0 l vars
def UK (p:List Fn)(funcs:Int)(b:Bool):Nat→List Ex→Int→Bool
 |_,[],_=>true
 |i,e::l,vars=>wf p funcs e (if b=true∧i=1 then vars+1 else vars) && UK p funcs b (i+1) l vars
end
theorem PD (p:List Fn)(funcs:Int)(e:Ex)(vars:Int):wf p funcs e vars=(Ih p funcs vars e && UK p funcs (decide (e.kind=9)) 0 e.kids vars):=by cases e;rw[wf];rfl
theorem N9 (p:List Fn)(funcs:Int)(b:Bool)(vars:Int):∀(l:List Ex)(i:Nat),UK p funcs b i l vars=true↔∀j,j<l.length→wf p funcs (l.getD j Ex.zero) (if b=true∧i+j=1 then vars+1 else vars)=true
 |[],i=>by rw[UK];simp
 |e::l,i=>by
  rw[UK,z7,N9 p funcs b vars l (i+1)]
  constructor
  rintro⟨h1,h2⟩ j hj
  cases j with
  |zero=>simpa using h1
  |succ j =>
   have:=h2 j (by simpa using hj)
   rw[show i+1+j=i+(j+1)from by omega]at this
   simpa using this
  intro h
  refine⟨by simpa using h 0 (by simp),fun j hj=>?_⟩
  have:=h (j+1) (by simpa using hj)
  rw[show i+(j+1)=i+1+j from by omega]at this
  simpa using this
theorem Qk {p:List Fn}{funcs vars:Int}{e:Ex}(h:e.kids.length=0):wf p funcs e vars=Ih p funcs vars e:=by rw[PD];have:e.kids=[]:=List.eq_nil_of_length_eq_zero h;rw[this,UK,Bool.and_true]
theorem Y2 {p:List Fn}{funcs vars:Int}{e:Ex}(h:Ih p funcs vars e=false):false=wf p funcs e vars:=by rw[PD,h];rfl
theorem Y3 {p:List Fn}{funcs vars own:Int}{e:Ex}{k:Nat}(hk:k<e.kids.length)(ho:own=if e.kind=9∧k=1 then vars+1 else vars)(h:wf p funcs (e.kids.getD k Ex.zero) own=false):false=wf p funcs e vars:=by
 rw[PD];cases hw:UK p funcs (decide (e.kind=9)) 0 e.kids vars with
 |false=>rw[Bool.and_false]
 |true =>
  have:=(N9 p funcs _ vars e.kids 0).1 hw k hk;rw[Nat.zero_add]at this;simp only[decide_eq_true_eq]at this;rw[← ho,h]at this;cases this
theorem Ql {p:List Fn}{funcs vars:Int}{e:Ex}(hn:Ih p funcs vars e=true)(h:∀j,j<e.kids.length→wf p funcs (e.kids.getD j Ex.zero) (if e.kind=9∧j=1 then vars+1 else vars)=true):true=wf p funcs e vars:=by rw[PD,hn,Bool.true_and];refine ((N9 p funcs _ vars e.kids 0).2 fun j hj=>?_).symm;rw[Nat.zero_add];simp only[decide_eq_true_eq];exact h j hj
theorem Dl {l:List Ex}{k:Nat}(hk:k<l.length):(l.getD k Ex.zero).deep≤Ex.deeps l:=by
 have h1:=KA hk;have h2:∀(l:List Ex) (k:Nat),Ex.deeps (l.take k)≤Ex.deeps l:=by
  intro l
  induction l with
  |nil=>intro k;simp
  |cons e l ih =>
   intro k;cases k with
   |zero=>rw[List.take_zero,Ex.deeps];omega
   |succ k=>rw[List.take_succ_cons,Ex.deeps,Ex.deeps];have:=ih k;omega
 have h3:=h2 l (k+1);omega
theorem J1 {α β:Type}{f:α→β}{l:List α}{k:Nat}(d:α)(h:k<l.length):(l.take (k+1)).map f=(l.take k).map f++[f (l.getD k d)]:=by rw[CW d h,List.map_append];rfl
def mH (a b:List Int):Nat→Int
 |0=>0
 |k+1=>md (mH a b k+a.getD k 0*b.getD k 0)
def qu (a b:List Int):Int:=mH a b a.length
theorem iP {s x y:Int}(hs:0≤s∧s<1000003)(hx:0≤x∧x<1000003)(hy:0≤y∧y<1000003):(wr (s+wr (x*y))).tmod ((1000003:Nat):Int)=md (s+x*y):=by have h:=N6 hx.1 hx.2 hy.1 hy.2;rw[Hh (x:=x*y) zO zO,Hh zO (by omega)];exact Int.tmod_eq_emod_of_nonneg zO
def eH (a:List Int)(y:Int):List Int:=a.map fun x=>md (x*y)
@[simp] theorem bO (a:List Int)(y:Int):(eH a y).length=a.length:=by simp[eH]
def ss (m:List (List Int))(v:List Int):List Int:=m.map fun r=>qu r v
def nw (a:List (List Int))(s:List Int):Nat→List Int
 |0=>s
 |k+1=>eH (ss a (nw a s k)) (inv ((k+1:Nat):Int))
def up (n:Nat)(k:Int):List Int:=H7 n fun i=>k+(i:Int)
section
theorem bP {α:Type}{l l':List α}{k:Nat}{d:α}(h:k<l.length):(l++l').getD k d=l.getD k d:=by rw[List.getD_eq_getElem?_getD,List.getElem?_append_left h,List.getD_eq_getElem?_getD]
theorem Y4 {α:Type}{l l':List α}{k:Nat}{d:α}(h:l.length≤k):(l++l').getD k d=l'.getD (k-l.length) d:=by rw[List.getD_eq_getElem?_getD,List.getElem?_append_right h,List.getD_eq_getElem?_getD]
structure Ar (α:Type) where
 q:α→α→α
 t:α→α→α→α
 z:α→Bool
 d:α
section hom
variable {α β:Type} {R:Ar α} {S:Ar β} {V:α→Prop} {h:α→β} {n m c p:Nat} {M:List (List α)}
theorem Et {row:List α}{k:Nat}{d:α}{d':β}(hk:k<row.length):(row.map h).getD k d'=h (row.getD k d):=by simp[hk]
end hom
def Nm (x:Int):Prop:=0≤x∧x<1000003
end
def X6 (a b:List Int)(k:Nat):Nat→Int
 |0=>0
 |i+1=>md (X6 a b k i+a.getD i 0*b.getD (k-i) 0)
theorem UL (a b:List Int)(k:Nat):∀i,0≤X6 a b k i∧X6 a b k i<1000003
 |0=>by unfold X6;omega
 |i+1=>CU _
def D9 (a b:List Int):List Int:=H7 a.length fun k=>X6 a b k (k+1)
@[simp] theorem GU (a b:List Int):(D9 a b).length=a.length:=by simp[D9]
theorem J2 (a b:List Int):Bl (D9 a b)=true:=N8 fun _ _=>UL _ _ _ _
def Y5 (a b o:List Int)(k:Nat):Nat→Int
 |0=>a.getD k 0
 |i+1=>md (Y5 a b o k i-o.getD i 0*b.getD (k-i) 0)
def Qm (a b:List Int):Nat→List Int
 |0=>[]
 |k+1=>Qm a b k++[md (Y5 a b (Qm a b k) k k*inv (b.getD 0 0))]
def Da (a b:List Int):List Int:=Qm a b a.length
@[simp] theorem GD (a b:List Int):∀k,(Qm a b k).length=k
 |0=>rfl
 |k+1=>by simp[Qm,GD a b k]
@[simp] theorem Eu (a b:List Int):(Da a b).length=a.length:=GD _ _ _
theorem UM (a b:List Int):∀k,Bl (Qm a b k)=true
 |0=>rfl
 |k+1=>by
  unfold Qm Bl
  rw[List.all_append]
  have h:=UM a b k
  unfold Bl at h
  simp only[h,List.all_cons,List.all_nil,Bool.and_true,Bool.true_and]
  exact Dk.2<|CU _
theorem HW (a b:List Int):Bl (Da a b)=true:=UM _ _ _
theorem UN (a b:List Int){i:Nat}:∀k m,i<k→k≤m→(Qm a b m).getD i 0=(Qm a b k).getD i 0
 |k,m,h,hm=>by
  induction m with
  |zero=>omega
  |succ m ih =>
   by_cases e:k=m+1
   subst e;rfl
   show(Qm a b m++_).getD i 0=_
   rw[bP (by rw[GD];omega)]
   exact ih zO
theorem PE {a b o o':List Int}{k:Nat}:∀i,(∀j,j<i→o.getD j 0=o'.getD j 0)→Y5 a b o k i=Y5 a b o' k i
 |0,_=>rfl
 |i+1,h=>by unfold Y5;rw[PE i fun j hj=>h j zO,h i (by omega)]
theorem UO {a b:List Int}{k:Nat}(hk:k<a.length):(Da a b).getD k 0=md (Y5 a b (Da a b) k k*inv (b.getD 0 0)):=by unfold Da;rw[UN a b (k+1) a.length zO (by omega)];show(Qm a b k++[_]).getD k 0=_;rw[Y4 (by simp),GD,Nat.sub_self];show md _=_;rw[PE (o:=Qm a b k) (o':=Qm a b a.length) k fun j hj=>(UN a b k a.length hj zO).symm]
theorem bQ {a b:List Int}{k:Nat}(hk:k<a.length){z:List Int}(hz:z.length=a.length) :
  (JQ k (Da a b) z).set k (md (Y5 a b (Da a b) k k*inv (b.getD 0 0)))=JQ (k+1) (Da a b) z:=by
 rw[← UO hk,UI 0 (by simp[hz]) (by omega)]
def Dm (a b:List Int):List Int:=H7 a.length fun k=>md (a.getD k 0+b.getD k 0)
def E6 (a:List Int)(n:Int):List Int:=H7 a.length fun k=>md (a.getD k 0*n)
def Ii (a b:List Int):List Int:=H7 a.length fun k=>md (a.getD k 0-b.getD k 0)
@[simp] theorem HX (a b:List Int):(Dm a b).length=a.length:=by simp[Dm]
@[simp] theorem J3 (a:List Int)(n:Int):(E6 a n).length=a.length:=by simp[E6]
@[simp] theorem J4 (a b:List Int):(Ii a b).length=a.length:=by simp[Ii]
theorem NI (a b:List Int):Bl (Dm a b)=true:=N8 fun _ _=>CU _
theorem HY (a:List Int)(n:Int):Bl (E6 a n)=true:=N8 fun _ _=>CU _
theorem NJ (a b:List Int):Bl (Ii a b)=true:=N8 fun _ _=>CU _
theorem Tv {a b:List Int}(h:a.length≤b.length):Dm a (E6 b 1000002)=Ii a b:=by unfold Dm Ii;refine bM fun k hk=>?_;unfold E6;rw[Dx _ zO,UF];unfold md;omega
theorem bR {x y:Int}(hx:0≤x∧x<1000003)(hy:0≤y∧y<1000003):(wr (x+y)).tmod ((1000003:Nat):Int)=md (x+y):=by rw[Hh zO (by omega)];exact Int.tmod_eq_emod_of_nonneg zO
theorem Y6 {n k:Nat}{T:List Int}(hT:T.length=n)(hk:k<n):(JQ k T (List.replicate n 0)).set k 0=JQ k T (List.replicate n 0):=by
 have h1:(JQ k T (List.replicate n 0)).length=n:=by rw[Ll _ _ _ (by simp[hT])];simp
 have h2:(JQ k T (List.replicate n 0)).getD k 0=0:=by rw[iN 0 (by simp[hT]) (A7 _) (by simpa using hk)];simp[hk]
 have h3:=P8 (JQ k T<|List.replicate n 0) (r:=k) 0 zO;rw[h2]at h3;exact h3
theorem Y7 {a b q:List Int}{k i:Nat}(hq:Bl q=true)(hb:Bl b=true):md (Y5 a b q k i-wr (q.getD i 0*b.getD (k-i) 0))=Y5 a b q k (i+1):=by have h1:=D8 hq i;have h2:=D8 hb (k-i);have h:=N6 h1.1 h1.2 h2.1 h2.2;rw[Hh zO (by omega)];rfl
def DP (N:Nat)(s:List Int):Prop:=s.length=N∧Bl s=true
def E7 (b:List Int):List (List Int):=b.map fun x=>[x]
theorem G3 (b:List Int):(E7 b).length=b.length:=by simp[E7]
theorem Y8 (b:List Int){k:Nat}(hk:k<b.length):(E7 b).getD k []=[b.getD k 0]:=by unfold E7;rw[Et (d:=0) hk]
theorem IA {α:Type}{l:List α}{j:Nat}{d:α}(h:j<l.length):l.getD j d=l[j]:=by simp[h]
abbrev Sr:=List Int
def JS (n:Nat)(x:Int):Sr:=(List.replicate n 0).set 0 x
inductive Rs (α:Type) where
 |ok (x:α) (s:Nat)
 |err (c:Int)
structure Ca where
 one:Nat→Nat→List Sr→Nat→Rs Sr
 all:Nat→List Sr→Nat→Rs (List Sr)
def Rs.bind {α β:Type}(r:Rs α)(f:α→Nat→Rs β):Rs β:=match r with
 |.ok x s=>f x s
 |.err c=>.err c
theorem Rs.bind_ok {α β:Type}(x:α)(s:Nat)(f:α→Nat→Rs β):(Rs.ok x s).bind f=f x s:=rfl
theorem Rs.bind_err {α β:Type}(c:Int)(f:α→Nat→Rs β):(Rs.err c:Rs α).bind f=.err c:=rfl
theorem Rs.bind_assoc {α β γ:Type}(r:Rs α)(f:α→Nat→Rs β)(h:β→Nat→Rs γ):(r.bind f).bind h=r.bind fun x s=>(f x s).bind h:=by cases r <;> rfl
def MD (f:List Sr→Nat→Rs (List Sr)):Nat→List Sr→Nat→Rs (List Sr)
 |0,a,s=>.ok a s
 |k+1,a,s=>(MD f k a s).bind f
def Ri (k:Int)(xs:List Sr)(t:Nat):Rs Sr :=
 if k=3 then .ok (Dm (xs.getD 0 []) (xs.getD 1 [])) t
 else if k=4 then .ok (Ii (xs.getD 0 []) (xs.getD 1 [])) t
 else if k=5 then .ok (D9 (xs.getD 0 []) (xs.getD 1 [])) t
 else if k=7 then .ok (E6 (xs.getD 0 []) 1000002) t
 else if (xs.getD 1 []).getD 0 0=0 then .err 6 else .ok (Da (xs.getD 0 []) (xs.getD 1 [])) t
mutual
def DL (n:Nat)(C:Ca):Ex→List Sr→Nat→Rs Sr
 |.mk k num pick cnt l,env,s =>
  if 3000≤s then .err 7
  else if k=1 then .ok (JS n num) (s+1)
  else if k=2 then .ok (env.getD num.toNat []) (s+1)
  else if k=8 then(Rj n C l 0 env (s+1)).bind fun x t=>if x.getD 0 0=0 then Rj n C l 1 env t else Rj n C l 2 env t
  else if k=9 then(Rj n C l 0 env (s+1)).bind fun x t=>Rj n C l 1 (env++[x]) t
  else(EX n C l env (s+1)).bind fun xs t =>
   if k=10 then C.one num.toNat pick.toNat xs t
   else if k=11 then(MD (C.all num.toNat) cnt.toNat xs t).bind fun ys u=>.ok (ys.getD pick.toNat []) u
   else Ri k xs t
def Rj (n:Nat)(C:Ca):List Ex→Nat→List Sr→Nat→Rs Sr
 |[],_,_,_=>.err 0
 |e::_,0,env,s=>DL n C e env s
 |_::l,j+1,env,s=>Rj n C l j env s
def EX (n:Nat)(C:Ca):List Ex→List Sr→Nat→Rs (List Sr)
 |[],_,s=>.ok [] s
 |e::l,env,s=>(DL n C e env s).bind fun x t=>(EX n C l env t).bind fun xs u=>.ok (x::xs) u
end
theorem FD (n:Nat)(C:Ca)(env:List Sr)(s:Nat):∀(l:List Ex)(j:Nat),j<l.length→Rj n C l j env s=DL n C (l.getD j Ex.zero) env s
 |[],j,h=>by simp at h
 |e::l,0,_=>by rw[Rj];rfl
 |e::l,j+1,h=>by rw[Rj,FD n C env s l j (by simpa using h)];simp
theorem RY (n:Nat)(C:Ca)(env:List Sr)(e:Ex):∀(l:List Ex)(s:Nat),EX n C (l++[e]) env s=(EX n C l env s).bind fun xs t=>(DL n C e env t).bind fun x u=>.ok (xs++[x]) u
 |[],s=>by
  rw[zl,EX,EX]
  simp only[Rs.bind_ok]
  cases DL n C e env s <;> simp only[Rs.bind_ok,Rs.bind_err,EX] <;> rfl
 |a::l,s=>by
  rw[List.cons_append,EX,EX]
  cases DL n C a env s with
  |err c=>rfl
  |ok x t =>
   simp only[Rs.bind_ok]
   rw[RY n C env e l t]
   simp only[Rs.bind_assoc]
   cases EX n C l env t with
   |err c=>rfl
   |ok xs u =>
    simp only[Rs.bind_ok]
    cases DL n C e env u <;> rfl
theorem Y9 {n:Nat}{C:Ca}{env:List Sr}{s:Nat}{l:List Ex}{k:Nat}(hk:k<l.length):EX n C (l.take (k+1)) env s=(EX n C (l.take k) env s).bind fun xs t=>(DL n C (l.getD k Ex.zero) env t).bind fun x u=>.ok (xs++[x]) u:=by rw[List.take_succ_eq_append_getElem hk,RY];simp[hk]
theorem Ij (n:Nat)(C:Ca)(e:Ex)(env:List Sr)(s:Nat):DL n C e env s =
  if 3000≤s then .err 7
  else if e.kind=1 then .ok (JS n e.num) (s+1)
  else if e.kind=2 then .ok (env.getD e.num.toNat []) (s+1)
  else if e.kind=8 then(Rj n C e.kids 0 env (s+1)).bind fun x t=>if x.getD 0 0=0 then Rj n C e.kids 1 env t else Rj n C e.kids 2 env t
  else if e.kind=9 then(Rj n C e.kids 0 env (s+1)).bind fun x t=>Rj n C e.kids 1 (env++[x]) t
  else(EX n C e.kids env (s+1)).bind fun xs t =>
   if e.kind=10 then C.one e.num.toNat e.pick.toNat xs t
   else if e.kind=11 then(MD (C.all e.num.toNat) e.count.toNat xs t).bind fun ys u=>.ok (ys.getD e.pick.toNat []) u
   else Ri e.kind xs t:=by cases e;rw[DL];rfl
def Gt (p:List Fn)(n:Nat):Nat→Ca
 |0=>⟨fun _ _ _ _=>.err 0,fun _ _ _=>.err 0⟩
 |k+1=>⟨fun f j a s=>if f=k then DL n (Gt p n k) ((p.getD k Fn.zero).outs.getD j Ex.zero) a s else(Gt p n k).one f j a s,
   fun f a s=>if f=k then EX n (Gt p n k) (p.getD k Fn.zero).outs a s else(Gt p n k).all f a s⟩
theorem Qn {p:List Fn}{n f j:Nat}{a:List Sr}{s:Nat}:∀ {F:Nat},f<F→(Gt p n F).one f j a s=DL n (Gt p n f) ((p.getD f Fn.zero).outs.getD j Ex.zero) a s
 |0,h=>by omega
 |F+1,h=>by
  show(if f=F then _ else _)=_
  split
  rename_i e;rw[e]
  exact Qn zO
theorem JT {p:List Fn}{n f:Nat}{a:List Sr}{s:Nat}:∀ {F:Nat},f<F→(Gt p n F).all f a s=EX n (Gt p n f) (p.getD f Fn.zero).outs a s
 |0,h=>by omega
 |F+1,h=>by
  show(if f=F then _ else _)=_
  split
  rename_i e;rw[e]
  exact JT zO
def ev (p:List Fn)(n f:Nat)(a:List Sr):Rs (List Sr):=EX n (Gt p n f) (p.getD f Fn.zero).outs a 0
def go {α:Type}(c:Int)(r:Rs α):Rs α:=if c=0 then r else .err c
theorem Do {α:Type}(r:Rs α):go 0 r=r:=rfl
theorem Ea {α:Type}{c:Int}(h:c≠0)(r:Rs α):go c r=.err c:=if_neg h
def CN (n:Nat)(env:List Sr):Prop:=∀k,k<env.length→DP n (env.getD k [])
def AK {α:Type}(r:Rs α)(x:α)(s:Nat)(c:Int):Prop:=match r with
 |.ok y t=>x=y∧s=t∧c=0
 |.err d=>c=d∧d≠0
theorem AK.ok {α:Type}{r:Rs α}{x:α}{s:Nat}(h:AK r x s 0):r=.ok x s:=by
 cases r with
 |ok y t=>obtain⟨rfl,rfl,_⟩:=h;rfl
 |err d=>exact absurd h.1.symm h.2
theorem AK.err {α:Type}{r:Rs α}{x:α}{s:Nat}{c:Int}(h:AK r x s c)(hc:c≠0):r=.err c:=by
 cases r with
 |ok y t=>exact absurd h.2.2 hc
 |err d=>rw[h.1]
theorem AK.mk_ok {α:Type}{r:Rs α}{x:α}{s:Nat}(h:r=.ok x s):AK r x s 0:=by subst h;exact⟨rfl,rfl,rfl⟩
theorem AK.mk_err {α:Type}{r:Rs α}{x:α}{s:Nat}{c:Int}(h:r=.err c)(hc:c≠0):AK r x s c:=by subst h;exact⟨rfl,hc⟩
theorem AK.bindE {α β:Type}{r:Rs α}{x:α}{s:Nat}{c:Int}(h:AK r x s c)(hc:c≠0){f:α→Nat→Rs β}:r.bind f=.err c:=by rw[h.err hc];rfl
theorem AK.bindO {α β:Type}{r:Rs α}{x:α}{s:Nat}(h:AK r x s 0){f:α→Nat→Rs β}:r.bind f=f x s:=by rw[h.ok];rfl
theorem FP (n:Nat)(x:Int):(JS n x).length=n:=by simp[JS]
theorem NK (n:Nat):Bl (List.replicate n 0)=true:=by
 unfold Bl;rw[zm]
 intro y hy;rw[List.eq_of_mem_replicate hy];decide
theorem GE {n:Nat}{x:Int}(h:M7 x=true):DP n (JS n x):=by
 refine⟨FP n x,?_⟩;unfold JS Bl;rw[zm]
 intro y hy;rcases List.mem_or_eq_of_mem_set hy with hy|rfl;rw[List.eq_of_mem_replicate hy];decide;exact h
theorem CN.snoc {n:Nat}{env:List Sr}{x:Sr}(h:CN n env)(hx:DP n x):CN n (env++[x]):=by
 intro k hk;rw[z4,zd]at hk;by_cases e:k<env.length;rw[K5 e];exact h k e;have:k=env.length:=by omega
 rw[KB this];exact hx
section
structure Hs (p:List Fn):Prop where
 par:∀k,k<p.length→0≤(p.getD k Fn.zero).params∧(p.getD k Fn.zero).params≤12
 outs:∀k,k<p.length→1≤(p.getD k Fn.zero).outs.length∧(p.getD k Fn.zero).outs.length≤12
 deep:∀k,k<p.length→∀j,j<(p.getD k Fn.zero).outs.length→((p.getD k Fn.zero).outs.getD j Ex.zero).deep≤60
 wf:∀k,k<p.length→∀j,j<(p.getD k Fn.zero).outs.length→wf p ((k:Nat):Int) ((p.getD k Fn.zero).outs.getD j Ex.zero) (p.getD k Fn.zero).params=true
theorem C4 {x a b:Int}:Ge x a b=true↔a≤x∧x≤b:=by unfold Ge;simp
theorem DM {p:List Fn}{F vars:Int}{e:Ex}(h:Ih p F vars e=true) :
  (e.kind=1∨e.kind=2∨e.kind=3∨e.kind=4∨e.kind=5∨e.kind=6∨e.kind=7∨e.kind=8∨e.kind=9∨e.kind=10∨e.kind=11) ∧
  (e.kind=2→0≤e.num∧e.num≤vars-1)∧(e.kind=3∨e.kind=4∨e.kind=5∨e.kind=6∨e.kind=9→e.kids.length=2)∧(e.kind=7→e.kids.length=1)∧(e.kind=8→e.kids.length=3) ∧
  (e.kind=10∨e.kind=11→0≤e.num∧e.num≤F-1∧(e.kids.length:Int)=(p.getD e.num.toNat Fn.zero).params∧0≤e.pick∧e.pick≤((p.getD e.num.toNat Fn.zero).outs.length:Int)-1) ∧
  (e.kind=11→((p.getD e.num.toNat Fn.zero).outs.length:Int)=(p.getD e.num.toNat Fn.zero).params∧0≤e.count∧e.count≤8)∧(e.kind=1→0≤e.num∧e.num<1000003):=by
 unfold Ih at h;split at h;simp only[z7,decide_eq_true_eq,Dk]at h;omega;split at h;simp only[z7,decide_eq_true_eq,C4]at h;omega;split at h;simp only[z7,decide_eq_true_eq]at h;omega;split at h;simp only[z7,decide_eq_true_eq]at h;omega;split at h;simp only[z7,decide_eq_true_eq]at h;omega;split at h;simp only[z7,decide_eq_true_eq,C4]at h;obtain⟨h1,h2,h3,h4⟩:=h;split at h4;simp only[decide_eq_true_eq]at h4;omega;simp only[z7,decide_eq_true_eq,C4]at h4;omega;cases h
theorem Dy {p:List Fn}{F vars:Int}{e:Ex}(h:wf p F e vars=true):Ih p F vars e=true:=by rw[PD,z7]at h;exact h.1
theorem eI {p:List Fn}{F vars:Int}{e:Ex}(h:wf p F e vars=true){j:Nat}(hj:j<e.kids.length):wf p F (e.kids.getD j Ex.zero) (if e.kind=9∧j=1 then vars+1 else vars)=true:=by rw[PD,z7]at h;have:=(N9 p F _ vars e.kids 0).1 h.2 j hj;rw[Nat.zero_add]at this;simpa only[decide_eq_true_eq]using this
theorem CI {p:List Fn}{F vars:Int}{e:Ex}(h:wf p F e vars=true){j:Nat}(hj:j<e.kids.length)(hn:¬(e.kind=9∧j=1)):wf p F (e.kids.getD j Ex.zero) vars=true:=by have:=eI h hj;rwa [if_neg hn]at this
theorem J5 {p:List Fn}{F vars:Int}{e:Ex}(h:wf p F e vars=true)(hj:1<e.kids.length)(hk:e.kind=9):wf p F (e.kids.getD 1 Ex.zero) (vars+1)=true:=by have:=eI h hj;rwa [if_pos ⟨hk,rfl⟩]at this
section
variable {p:List Fn} {F:Nat} {vars:Int} {e:Ex}
theorem NL (h:wf p ((F:Nat):Int) e vars=true)(hk:e.kind=1):0≤e.num∧e.num<1000003:=(DM (Dy h)).2.2.2.2.2.2.2 hk
theorem NM (h:wf p ((F:Nat):Int) e vars=true)(hk:e.kind=2):0≤e.num∧e.num≤vars-1:=(DM (Dy h)).2.1 hk
theorem RZ (h:wf p ((F:Nat):Int) e vars=true)(hk:e.kind=8):e.kids.length=3:=(DM (Dy h)).2.2.2.2.1 hk
theorem NN (h:wf p ((F:Nat):Int) e vars=true)(hk:e.kind=9):e.kids.length=2:=(DM (Dy h)).2.2.1 zO
theorem Qo (h:wf p ((F:Nat):Int) e vars=true)(hk:e.kind=7):e.kids.length=1:=(DM (Dy h)).2.2.2.1 hk
theorem KF (h:wf p ((F:Nat):Int) e vars=true)(hk:e.kind=3∨e.kind=4∨e.kind=5∨e.kind=6):e.kids.length=2:=(DM (Dy h)).2.2.1 zO
theorem GF (h:wf p ((F:Nat):Int) e vars=true)(hk:e.kind=10∨e.kind=11):(0≤e.num∧e.num≤((F:Nat):Int)-1)∧(e.kids.length:Int)=(p.getD e.num.toNat Fn.zero).params∧(0≤e.pick∧e.pick≤((p.getD e.num.toNat Fn.zero).outs.length:Int)-1):=by have:=(DM (Dy h)).2.2.2.2.2.1 hk;exact⟨⟨this.1,this.2.1⟩,this.2.2.1,this.2.2.2⟩
theorem Lm (h:wf p ((F:Nat):Int) e vars=true)(hk:e.kind=11):((p.getD e.num.toNat Fn.zero).outs.length:Int)=(p.getD e.num.toNat Fn.zero).params∧(0≤e.count∧e.count≤8):=(DM (Dy h)).2.2.2.2.2.2.1 hk
theorem iQ (h:wf p ((F:Nat):Int) e vars=true)(hk:(e.kind≠1∧e.kind≠2∧e.kind≠8∧e.kind≠9)∧(e.kind≠10∧e.kind≠11∧e.kind≠3∧e.kind≠4∧e.kind≠5∧e.kind≠7)):e.kind=6:=by have:=(DM (Dy h)).1;omega
theorem iR (h:wf p ((F:Nat):Int) e vars=true)(hk:(e.kind≠1∧e.kind≠2∧e.kind≠7∧e.kind≠8)∧(e.kind≠9∧e.kind≠10∧e.kind≠11)):e.kind=3∨e.kind=4∨e.kind=5∨e.kind=6:=by have:=(DM (Dy h)).1;omega
theorem Tw (h:wf p ((F:Nat):Int) e vars=true)(hv:Hs p)(hF:F≤p.length):e.kids.length≤12:=by have hq:=DM<|Dy h;by_cases h10:e.kind=10∨e.kind=11;have h1:=GF h h10;have:=hv.par e.num.toNat zO;omega;have h1:=hq.1;have h2:=hq.2.2.1;have h3:=hq.2.2.2.1;have h4:=hq.2.2.2.2.1;by_cases hl:e.kind=1∨e.kind=2;have h5:=Dy h;unfold Ih at h5;rcases hl with hl|hl;rw[if_pos hl]at h5;simp only[z7,decide_eq_true_eq]at h5;omega;rw[if_neg zO,if_pos hl]at h5;simp only[z7,decide_eq_true_eq]at h5;omega;omega
end
section
variable {n:Nat} {C:Ca} {e:Ex} {env:List Sr} {s s1 s2:Nat} {c c1 c2:Int} {x y:Sr} {xs ys:List Sr}
theorem Ev (hc:c≠0){r:Rs Sr}:AK (go c r) x s c:=AK.mk_err (Ea hc r) hc
theorem Ds (hc:c=0)(hs:s=3000):AK (go c (DL n C e env s)) x s1 7:=by subst hc;rw[Do,Ij,if_pos (by omega)];exact AK.mk_err rfl (by decide)
theorem FQ (hc:c=0)(hs:s+1≤3000)(hk:e.kind=1):AK (go c (DL n C e env s)) (JS n e.num) (s+1) c:=by subst hc;rw[Do,Ij,if_neg zO,if_pos hk];exact AK.mk_ok rfl
theorem FR (hc:c=0)(hs:s+1≤3000)(hk:e.kind=2):AK (go c (DL n C e env s)) (env.getD e.num.toNat []) (s+1) c:=by subst hc;rw[Do,Ij,if_neg zO,if_neg zO,if_pos hk];exact AK.mk_ok rfl
theorem FS (hc:c=0)(hs:s+1≤3000)(hk:e.kind=8)(hl:e.kids.length=3)(h1:AK (go c (DL n C (e.kids.getD 0 Ex.zero) env (s+1))) x s1 c1)(hx:x.getD 0 0=0)
  (h2:AK (go c1 (DL n C (e.kids.getD 1 Ex.zero) env s1)) y s2 c2):AK (go c (DL n C e env s)) y s2 c2:=by
 subst hc;rw[Do,Ij,if_neg zO,if_neg zO,if_neg zO,if_pos hk,FD _ _ _ _ _ _ (by omega)];rw[Do]at h1;by_cases h0:c1=0;subst h0;rw[h1.bindO,if_pos hx,FD _ _ _ _ _ _ (by omega)];exact h2;rw[h1.bindE h0];rw[Ea h0]at h2;exact h2
theorem FT (hc:c=0)(hs:s+1≤3000)(hk:e.kind=8)(hl:e.kids.length=3)(h1:AK (go c (DL n C (e.kids.getD 0 Ex.zero) env (s+1))) x s1 c1)(hx:¬x.getD 0 0=0)
  (h2:AK (go c1 (DL n C (e.kids.getD 2 Ex.zero) env s1)) y s2 c2):AK (go c (DL n C e env s)) y s2 c2:=by
 subst hc;rw[Do,Ij,if_neg zO,if_neg zO,if_neg zO,if_pos hk,FD _ _ _ _ _ _ (by omega)];rw[Do]at h1;by_cases h0:c1=0;subst h0;rw[h1.bindO,if_neg hx,FD _ _ _ _ _ _ (by omega)];exact h2;rw[h1.bindE h0];rw[Ea h0]at h2;exact h2
theorem FU (hc:c=0)(hs:s+1≤3000)(hk:e.kind=9)(hl:e.kids.length=2)(h1:AK (go c (DL n C (e.kids.getD 0 Ex.zero) env (s+1))) x s1 c1)
  (h2:AK (go c1 (DL n C (e.kids.getD 1 Ex.zero) (env++[x]) s1)) y s2 c2):AK (go c (DL n C e env s)) y s2 c2:=by
 subst hc;rw[Do,Ij,if_neg zO,if_neg zO,if_neg zO,if_neg zO,if_pos hk,FD _ _ _ _ _ _ (by omega)];rw[Do]at h1;by_cases h0:c1=0;subst h0;rw[h1.bindO,FD _ _ _ _ _ _ (by omega)];exact h2;rw[h1.bindE h0];rw[Ea h0]at h2;exact h2
theorem J6 (hs : s + 1 ≤ 3000) (h1 : e.kind ≠ 1) (h2 : e.kind ≠ 2) (h8 : e.kind ≠ 8) (h9 : e.kind ≠ 9) : DL n C e env s = (EX n C e.kids env (s + 1)).bind fun xs t =>
      if e.kind = 10 then C.one e.num.toNat e.pick.toNat xs t
      else if e.kind = 11 then (MD (C.all e.num.toNat) e.count.toNat xs t).bind fun ys u=>.ok (ys.getD e.pick.toNat []) u
      else Ri e.kind xs t:=by
  rw [Ij,if_neg zO,if_neg h1,if_neg h2,if_neg h8,if_neg h9]
theorem DV (hc:c=0)(hs:s+1≤3000)(h1:e.kind≠1)(h2:e.kind≠2)(h8:e.kind≠8)(h9:e.kind≠9)(hr:AK (go c (EX n C e.kids env (s+1))) xs s1 c1)(hc1:c1≠0):AK (go c (DL n C e env s)) x s2 c1:=by subst hc;rw[Do]at hr ⊢;rw[J6 hs h1 h2 h8 h9,hr.bindE hc1];exact AK.mk_err rfl hc1
theorem EY {p:List Fn}{F:Nat}(hc:c=0)(hs:s+1≤3000)(hk:e.kind=10)(hF:e.num.toNat<F)(hr:AK (go c (EX n (Gt p n F) e.kids env (s+1))) xs s1 c1)(hc1:c1=0)
  (h2:AK (go c1 (DL n (Gt p n e.num.toNat) ((p.getD e.num.toNat Fn.zero).outs.getD e.pick.toNat Ex.zero) xs s1)) y s2 c2):AK (go c (DL n (Gt p n F) e env s)) y s2 c2:=by
 subst hc;subst hc1;rw[Do]at hr h2 ⊢;rw[J6 hs zO zO zO zO,hr.bindO,if_pos hk,Qn hF];exact h2
theorem EZ {p:List Fn}{F:Nat}(hc:c=0)(hs:s+1≤3000)(hk:e.kind=11)(hF:e.num.toNat<F)(hr:AK (go c (EX n (Gt p n F) e.kids env (s+1))) xs s1 c1)(hc1:c1=0)
  (h2:AK (MD (fun a t=>EX n (Gt p n e.num.toNat) (p.getD e.num.toNat Fn.zero).outs a t) e.count.toNat xs s1) ys s2 c2):AK (go c (DL n (Gt p n F) e env s)) (ys.getD e.pick.toNat []) s2 c2:=by
 subst hc;subst hc1;rw[Do]at hr ⊢;rw[J6 hs zO zO zO zO,hr.bindO,if_neg zO,if_pos hk];have hl:(Gt p n F).all e.num.toNat=fun a t=>EX n (Gt p n e.num.toNat) (p.getD e.num.toNat Fn.zero).outs a t:=funext fun a=>funext fun t=>JT hF;rw[hl];by_cases h0:c2=0;subst h0;rw[h2.bindO];exact AK.mk_ok rfl;rw[h2.bindE h0];exact AK.mk_err rfl h0
theorem BE (hc:c=0)(hs:s+1≤3000)(h1:e.kind≠1)(h2:e.kind≠2)(h8:e.kind≠8)(h9:e.kind≠9)(h10:e.kind≠10)(h11:e.kind≠11)(hr:AK (go c (EX n C e.kids env (s+1))) xs s1 c1)(hc1:c1=0)
  (h:AK (Ri e.kind xs s1) y s2 c2):AK (go c (DL n C e env s)) y s2 c2:=by
 subst hc;subst hc1;rw[Do]at hr ⊢;rw[J6 hs h1 h2 h8 h9,hr.bindO,if_neg h10,if_neg h11];exact h
theorem Ht {k:Int}(hk:k=3):AK (Ri k xs s) (Dm (xs.getD 0 []) (xs.getD 1 [])) s 0:=by subst hk;exact AK.mk_ok rfl
theorem Hu {k:Int}(hk:k=4):AK (Ri k xs s) (Ii (xs.getD 0 []) (xs.getD 1 [])) s 0:=by subst hk;exact AK.mk_ok rfl
theorem Hv {k:Int}(hk:k=5):AK (Ri k xs s) (D9 (xs.getD 0 []) (xs.getD 1 [])) s 0:=by subst hk;exact AK.mk_ok rfl
theorem Hw {k:Int}(hk:k=7):AK (Ri k xs s) (E6 (xs.getD 0 []) 1000002) s 0:=by subst hk;exact AK.mk_ok rfl
theorem FV {k:Int}(hk:k=6)(hz:(xs.getD 1 []).getD 0 0=0):AK (Ri k xs s) x s1 6:=by
 subst hk;have:Ri 6 xs s=.err 6:=by
  show(if (xs.getD 1 []).getD 0 0=0 then _ else _)=_;rw[if_pos hz]
 exact AK.mk_err this (by decide)
theorem Hx {k:Int}(hk:k=6)(hz:¬(xs.getD 1 []).getD 0 0=0):AK (Ri k xs s) (Da (xs.getD 0 []) (xs.getD 1 [])) s 0:=by
 subst hk;have:Ri 6 xs s=.ok (Da (xs.getD 0 []) (xs.getD 1 [])) s:=by
  show(if (xs.getD 1 []).getD 0 0=0 then _ else _)=_;rw[if_neg hz]
 exact AK.mk_ok this
theorem HZ {l:List Ex}{k:Nat}(hk:k<l.length)(h:AK (go c (EX n C (l.take k) env s)) xs s1 c1)(h2:AK (go c1 (DL n C (l.getD k Ex.zero) env s1)) x s2 c2) :
  AK (go c (EX n C (l.take (k+1)) env s)) (xs++[x]) s2 c2:=by
 by_cases hc:c=0;subst hc;rw[Do]at h ⊢;rw[Y9 hk];by_cases h0:c1=0;subst h0;rw[Do]at h2;rw[h.bindO];by_cases h3:c2=0;subst h3;rw[h2.bindO];exact AK.mk_ok rfl;rw[h2.bindE h3];exact AK.mk_err rfl h3;rw[h.bindE h0];rw[Ea h0]at h2;exact AK.mk_err (by rw[h2.1]) (by rw[h2.1];exact h2.2);rw[Ea hc]at h ⊢;have hc1:c1≠0:=by rw[h.1];exact hc
 rw[Ea hc1]at h2;exact AK.mk_err (by rw[h2.1,h.1]) (by rw[h2.1];exact hc1)
theorem bS {f:List Sr→Nat→Rs (List Sr)}{k:Nat}(h:AK (MD f k xs s) ys s1 c1)(hc:c1=0){zsq:List Sr}(h2:AK (go c1 (f ys s1)) zsq s2 c2):AK (MD f (k+1) xs s) zsq s2 c2:=by subst hc;show AK ((MD f k xs s).bind f) _ _ _;rw[h.bindO];rw[Do]at h2;exact h2
theorem UP {f:List Sr→Nat→Rs (List Sr)} {d:Int}:∀ {m k:Nat},MD f k xs s = .err d→k≤m→MD f m xs s = .err d
  | 0, k, h, hk => by have : k = 0 := by omega
                      subst this; exact h
  | m + 1,k,h,hk=>by
    by_cases e:k = m + 1
    subst e; exact h
    show (MD f m xs s).bind f = _
    rw [UP h (by omega)]; rfl
theorem Fb {f:List Sr→Nat→Rs (List Sr)}{k m:Nat}(h:AK (MD f k xs s) ys s1 c1)(hk:k≤m)(hs:k=m∨c1≠0):AK (MD f m xs s) ys s1 c1:=by by_cases hc:c1=0;rcases hs with rfl|hh;exact h;exact absurd hc hh;exact AK.mk_err (UP (h.err hc) hk) hc
end
theorem I0 (n:Nat)(C:Ca)(l:List Ex)(env:List Sr)(s:Nat)(c:Int):AK (go c (EX n C (l.take 0) env s)) [] s c:=by rw[List.take_zero,EX];by_cases h:c=0;subst h;exact AK.mk_ok rfl;exact AK.mk_err (Ea h _) h
theorem I1 {n:Nat}{a b:Sr}(ha:DP n a):DP n (Dm a b):=⟨by unfold Dm;rw[FO];exact ha.1,NI _ _⟩
theorem NO {n:Nat}{a b:Sr}(ha:DP n a):DP n (Ii a b):=⟨by rw[J4];exact ha.1,NJ _ _⟩
theorem J7 {n:Nat}{a b:Sr}(ha:DP n a):DP n (D9 a b):=⟨by unfold D9;rw[FO];exact ha.1,J2 _ _⟩
theorem J8 {n:Nat}{a b:Sr}(ha:DP n a):DP n (Da a b):=⟨by rw[Eu];exact ha.1,HW _ _⟩
theorem NP {n:Nat}{a:Sr}{y:Int}(ha:DP n a):DP n (E6 a y):=⟨by unfold E6;rw[FO];exact ha.1,HY _ _⟩
end
section
def Ya (p:List Fn)(n f:Nat)(a:List Sr):List Sr:=match ev p n f a with
 |.ok xs _=>xs
 |.err _=>[]
def eJ (p:List Fn)(n f:Nat)(a:List Sr):Nat:=match ev p n f a with
 |.ok _ s=>s
 |.err _=>0
def Tx (p:List Fn)(n f:Nat)(a:List Sr):Int:=match ev p n f a with
 |.ok _ _=>0
 |.err c=>c
section
variable {p:List Fn} {n f s:Nat} {a x:List Sr} {c:Int}
theorem NR (h:AK (go 0 (EX n (Gt p n f) (p.getD f Fn.zero).outs a 0)) x s c)(hc:c=0):ev p n f a=.ok x s:=by subst hc;exact h.ok
theorem KG (h:AK (go 0 (EX n (Gt p n f) (p.getD f Fn.zero).outs a 0)) x s c)(hc:c≠0):ev p n f a=.err c:=h.err hc
theorem NS (h:ev p n f a=.ok x s):Ya p n f a=x:=by unfold Ya;rw[h]
theorem UQ (h:ev p n f a=.ok x s):eJ p n f a=s:=by unfold eJ;rw[h]
theorem NT (h:ev p n f a=.ok x s):Tx p n f a=0:=by unfold Tx;rw[h]
theorem S0 (h:ev p n f a=.err c):Ya p n f a=[]:=by unfold Ya;rw[h]
theorem UR (h:ev p n f a=.err c):eJ p n f a=0:=by unfold eJ;rw[h]
theorem Ln (h:ev p n f a=.err c):Tx p n f a=c:=by unfold Tx;rw[h]
end
structure eK (p:List Fn)(n f:Nat)(a:List Sr):Prop where
 code:0≤Tx p n f a∧Tx p n f a≤9
 steps:eJ p n f a≤3000
 len:Tx p n f a=0→(Ya p n f a).length=(p.getD f Fn.zero).outs.length
 ser:CN n (Ya p n f a)
 non:Tx p n f a≠0→Ya p n f a=[]
theorem eK.mk' {p:List Fn}{n f s:Nat}{a x:List Sr}{c:Int}(h:AK (go 0 (EX n (Gt p n f) (p.getD f Fn.zero).outs a 0)) x s c)(hc:0≤c∧c≤9)(hs:s≤3000)(hl:x.length=(p.getD f Fn.zero).outs.length)(hx:CN n x):eK p n f a:=by by_cases h0:c=0;have e:=NR h h0;exact⟨by rw[NT e];omega,by rw[UQ e];exact hs,fun _=>by rw[NS e];exact hl,by rw[NS e];exact hx,fun hh=>absurd (NT e) hh⟩;have e:=KG h h0;exact⟨by rw[Ln e];exact hc,by rw[UR e];omega,fun hh=>absurd (by rw[← hh,Ln e]) h0,by rw[S0 e];intro k hk;simp at hk,fun _=>S0 e⟩
end
def eL (s:ByteArray)(i:Nat):Bool:=(decide (97≤LV s i) && decide (LV s i≤122)) || (decide (i≠0) && (decide (48≤LV s i) && decide (LV s i≤57)))
def P0 (s:ByteArray):Bool:=(decide (1≤s.size) && decide (s.size≤12)) && (List.range s.size).all (eL s)
def P9 (p:List Fn)(e:Ex)(vars funcs:Int):Bool :=
 Ge vars 0 412 && (Ge funcs 0 ((p.length:Nat):Int) && (decide (e.size≤400) && (decide (e.deep≤60) && wf p funcs e vars)))
def X7 (p:List Fn)(k:Nat):Bool:=!((p.take k).any fun g=>K6 g.name (p.getD k Fn.zero).name)
def ME (p:List Fn)(k:Nat):Bool :=
 (P0 (p.getD k Fn.zero).name && X7 p k) && ((Ge (p.getD k Fn.zero).params 0 12 && Ge (((p.getD k Fn.zero).outs.length:Nat):Int) 1 12) &&
  ((List.range (p.getD k Fn.zero).outs.length).all (fun j=>P9 p ((p.getD k Fn.zero).outs.getD j Ex.zero) (p.getD k Fn.zero).params ((k:Nat):Int)) && decide (Ex.sizes (p.getD k Fn.zero).outs≤400)))
def Fd (p:List Fn):Bool:=decide (p.length≤16) && (List.range p.length).all (ME p)
def Ty (p:List Fn):Prop:=∀k,k<p.length→Ex.sizes (p.getD k Fn.zero).outs≤2000000∧(p.getD k Fn.zero).outs.length≤2000000∧(p.getD k Fn.zero).name.size≤2000000
theorem EQ {f:Nat→Bool}{k:Nat}(h:(List.range k).all f=true)(hk:f k=true):(List.range (k+1)).all f=true:=by rw[List.range_succ,List.all_append,h];simp[hk]
theorem M8 {f:Nat→Bool}{k n:Nat}(hk:k<n)(h:f k=false):(List.range n).all f=false:=by rw[List.all_eq_false];exact⟨k,List.mem_range.2 hk,by simp[h]⟩
theorem US {f:Nat→Bool}{k n:Nat}(h:(List.range n).all f=true)(hk:k<n):f k=true:=zm.1 h k (List.mem_range.2 hk)
theorem iS {p:List Fn}(h:Fd p=true){k:Nat}(hk:k<p.length):ME p k=true:=by unfold Fd at h;rw[z7]at h;exact US h.2 hk
theorem Hi {p:List Fn}(h:Fd p=true):Hs p:=by
 have h1:∀k,k<p.length→(0≤(p.getD k Fn.zero).params∧(p.getD k Fn.zero).params≤12)∧(1≤(p.getD k Fn.zero).outs.length∧(p.getD k Fn.zero).outs.length≤12) ∧
   ∀j,j<(p.getD k Fn.zero).outs.length→P9 p ((p.getD k Fn.zero).outs.getD j Ex.zero) (p.getD k Fn.zero).params ((k:Nat):Int)=true:=by
  intro k hk;have:=iS h hk;unfold ME at this;simp only[z7,C4]at this;exact⟨this.2.1.1,zO,fun j hj=>US this.2.2.1 hj⟩
 have h2:∀k,k<p.length→∀j,j<(p.getD k Fn.zero).outs.length→((p.getD k Fn.zero).outs.getD j Ex.zero).deep≤60∧wf p ((k:Nat):Int) ((p.getD k Fn.zero).outs.getD j Ex.zero) (p.getD k Fn.zero).params=true:=by
  intro k hk j hj;have:=(h1 k hk).2.2 j hj;unfold P9 at this;simp only[z7,decide_eq_true_eq]at this;exact⟨this.2.2.2.1,this.2.2.2.2⟩
 exact⟨fun k hk=>(h1 k hk).1,fun k hk=>(h1 k hk).2.1,fun k hk j hj=>(h2 k hk j hj).1,fun k hk j hj=>(h2 k hk j hj).2⟩
section
mutual
def lL:Ex→Bool
 |.mk k _ _ _ l=>(decide (k≠6) && decide (k≠8)) && Td l
def Td:List Ex→Bool
 |[]=>true
 |e::l=>lL e && Td l
end
theorem Tz (k n q c:Int)(l:List Ex):lL (.mk k n q c l)=((decide (k≠6) && decide (k≠8)) && Td l):=by rw[lL]
theorem S3 (l:List Ex)(e:Ex):Td (l++[e])=(Td l && lL e):=by
 induction l with
 |nil=>rw[zl,Td,Td];simp[Td]
 |cons a l ih=>rw[List.cons_append,Td,Td,ih,Bool.and_assoc]
def Pa:Nat→Int
 |0=>1
 |d+1=>1+4*Pa d
def J9:Nat→Nat
 |0=>30
 |d+1=>50+4*J9 d
def iT:Nat→Int→Int
 |0,_=>0
 |n+1,k=>iT n k+k
def X8:Nat→Nat→Nat
 |0,_=>0
 |n+1,k=>X8 n k+k
theorem JU:∀d,1≤Pa d
 |0=>by decide
 |d+1=>by have:=JU d;show 1≤1+4*Pa d;omega
theorem eM {d:Nat}(h:1≤d):Pa d=1+4*Pa (d-1):=by obtain⟨d,rfl⟩:∃k,d=k+1:=⟨d-1,zO⟩;rfl
theorem mI {d:Nat}(h:1≤d):J9 d=50+4*J9 (d-1):=by obtain⟨d,rfl⟩:∃k,d=k+1:=⟨d-1,zO⟩;rfl
theorem TA:∀d,30≤J9 d
 |0=>by decide
 |d+1=>by show 30≤50+4*J9 d;omega
theorem S5 {i:Nat}{k:Int}(hk:0≤k)(hi:i≤4):0≤iT i k∧iT i k≤4*k:=by rcases i with _|_|_|_|_|i;all_goals first|(exfalso;omega)|(simp only[iT];omega)
theorem PF {i k:Nat}(hi:i≤4):X8 i k≤4*k:=by rcases i with _|_|_|_|_|i;all_goals first|(exfalso;omega)|(simp only[X8];omega)
structure Rk (p:List Fn)(funcs vars:Int)(pl:Bool)(d:Nat)(l0 l1:Int)(ex:Ex):Prop where
 wf:wf p funcs ex vars=true
 sz:(ex.size:Int)+4*max l1 1≤1+4*max l0 1
 dp:ex.deep≤d+1
 pl:pl=true→lL ex=true
 lo:l0-Pa d≤l1∧l1≤l0-1
structure TB (p:List Fn)(vars:Int)(ex:Ex):Prop where
 wf:∀funcs,wf p funcs ex vars=true
 sz:ex.size=1
 dp:ex.deep=1
 pl:lL ex=true
structure mJ (p:List Fn):Prop where
 len:p.length≤1000
 par:∀k,k<p.length→0≤(p.getD k Fn.zero).params∧(p.getD k Fn.zero).params≤4
 outs:∀k,k<p.length→1≤(p.getD k Fn.zero).outs.length∧(p.getD k Fn.zero).outs.length≤12
theorem TB.num {p:List Fn}{vars n:Int}(h:0≤n∧n<1000003):TB p vars (.mk 1 n 0 0 []) :=
 ⟨fun funcs=>by
  rw[Qk rfl];unfold Ih EK
  simp[Ex.kind,Ex.pick,Ex.count,Ex.kids,Ex.num,Dk];omega,by rw[Ex.size,Ex.sizes],by rw[Ex.deep,Ex.deeps],by rw[Tz];rfl⟩
theorem TB.var {p:List Fn}{vars n:Int}(h:0≤n∧n<vars):TB p vars (.mk 2 n 0 0 []) :=
 ⟨fun funcs=>by
  rw[Qk rfl];unfold Ih EK
  simp[Ex.kind,Ex.pick,Ex.count,Ex.kids,Ex.num,C4];omega,by rw[Ex.size,Ex.sizes],by rw[Ex.deep,Ex.deeps],by rw[Tz];rfl⟩
theorem TB.ok {p:List Fn}{vars funcs l0:Int}{ex:Ex}{pl:Bool}(h:TB p vars ex)(d:Nat):Rk p funcs vars pl d l0 (l0-1) ex:=by have:=JU d;exact⟨h.wf funcs,by rw[h.sz];omega,by rw[h.dp];omega,fun _=>h.pl,zO⟩
def kn (k:Int):Int:=if k=1∨k=2 then 0 else if k=3∨k=4∨k=5∨k=6∨k=9 then 2 else if k=7 then 1 else if k=8 then 3 else -1
structure UT (p:List Fn)(funcs vars:Int)(pl:Bool)(k:Int)(d:Nat)(l0 l1:Int)(xs:List Ex)(i:Nat):Prop where
 len:xs.length=i
 wf:∀j,j<i→wf p funcs (xs.getD j Ex.zero) (if k=9∧j=1 then vars+1 else vars)=true
 sz:(Ex.sizes xs:Int)+4*max l1 1≤i+4*max l0 1
 dp:Ex.deeps xs≤d
 pl:pl=true→Td xs=true
 lo:l0-iT i (Pa (d-1))≤l1∧l1≤l0
theorem UT.nil (p:List Fn)(funcs vars:Int)(pl:Bool)(k:Int)(d:Nat)(l0:Int):UT p funcs vars pl k d l0 l0 [] 0 :=
 ⟨rfl,fun j hj=>by omega,by rw[Ex.sizes];omega,by rw[Ex.deeps];omega,fun _=>by rw[Td],by show l0-0≤l0∧l0≤l0;omega⟩
theorem UT.snoc {p:List Fn}{funcs vars own:Int}{pl:Bool}{k:Int}{d:Nat}{l0 l1 l2:Int}{xs:List Ex}{i:Nat}{x:Ex}(h:UT p funcs vars pl k d l0 l1 xs i)(hd:1≤d)
  (ho:own=if k=9∧i=1 then vars+1 else vars) (hx:Rk p funcs own pl (d-1) l1 l2 x):UT p funcs vars pl k d l0 l2 (xs++[x]) (i+1):=by
 have hlen:=h.len;refine⟨by simp[hlen],fun j hj=>?_,?_,?_,fun hp=>?_,?_⟩;by_cases e:j=i;subst e;rw[← hlen,KB rfl,hlen,← ho];exact hx.wf;rw[K5 (by omega)];exact h.wf j zO;have h1:=h.sz;have h2:=hx.sz;rw[Ky];omega;have h1:=h.dp;have h2:=hx.dp;rw[Kz];omega;rw[S3,h.pl hp,hx.pl hp];rfl;have h1:=h.lo;have h2:=hx.lo;have h3:iT (i+1) (Pa (d-1))=iT i (Pa (d-1))+Pa (d-1):=rfl;omega
theorem UT.node {p:List Fn}{funcs vars:Int}{pl:Bool}{k num pick cnt:Int}{d i:Nat}{l0 l1:Int}{xs:List Ex}(h:UT p funcs vars pl k d (l0-1) l1 xs i)(hd:1≤d)(hi:i≤4)(hl:2≤l0)
  (hp:pl=true→k≠6∧k≠8) (hw:Ih p funcs vars (.mk k num pick cnt xs)=true):Rk p funcs vars pl d l0 l1 (.mk k num pick cnt xs):=by
 have hn:=eM hd;have ht:=S5 (k:=Pa (d-1)) (by have:=JU (d-1);omega) hi;have h1:=h.lo;have h2:=h.sz;refine⟨(Ql hw fun j hj=>?_).symm,?_,?_,fun hq=>?_,zO⟩;exact h.wf j (by rw[← h.len];exact hj);rw[Ex.size];omega;rw[Ex.deep];have:=h.dp;omega;rw[Tz,h.pl hq,A5 (hp hq).1,A5 (hp hq).2];rfl
theorem iU {p:List Fn}{funcs vars k:Int}{xs:List Ex}(hk:k=3∨k=4∨k=5∨k=6∨k=7∨k=8∨k=9)(hl:((xs.length:Nat):Int)=kn k):Ih p funcs vars (.mk k 0 0 0 xs)=true:=by
 have h2:k=3∨k=4∨k=5∨k=6∨k=9→xs.length=2:=fun h=>by
  have:kn k=2:=by unfold kn;rw[if_neg zO,if_pos (by omega)]
  omega
 have h1:k=7→xs.length=1:=fun h=>by
  have:kn k=1:=by unfold kn;rw[if_neg zO,if_neg zO,if_pos h]
  omega
 have h3:k=8→xs.length=3:=fun h=>by
  have:kn k=3:=by unfold kn;rw[if_neg zO,if_neg zO,if_neg zO,if_pos h]
  omega
 unfold Ih EK;rcases hk with rfl|rfl|rfl|rfl|rfl|rfl|rfl;simp[Ex.kind,Ex.pick,Ex.count,Ex.kids,Ex.num,h2];simp[Ex.kind,Ex.pick,Ex.count,Ex.kids,Ex.num,h2];simp[Ex.kind,Ex.pick,Ex.count,Ex.kids,Ex.num,h2];simp[Ex.kind,Ex.pick,Ex.count,Ex.kids,Ex.num,h2];simp[Ex.kind,Ex.pick,Ex.count,Ex.kids,Ex.num,h1];simp[Ex.kind,Ex.pick,Ex.count,Ex.kids,Ex.num,h3];simp[Ex.kind,Ex.pick,Ex.count,Ex.kids,Ex.num,h2]
theorem iV {p:List Fn}{funcs vars k num pick cnt:Int}{xs:List Ex}(hk:(k=10∧cnt=0)∨(k=11∧((p.getD num.toNat Fn.zero).outs.length:Int)=(p.getD num.toNat Fn.zero).params∧0≤cnt∧cnt≤8))
  (hn:0≤num∧num<funcs) (hl:((xs.length:Nat):Int)=(p.getD num.toNat Fn.zero).params) (hq:0≤pick∧pick<((p.getD num.toNat Fn.zero).outs.length:Int)):Ih p funcs vars (.mk k num pick cnt xs)=true:=by
 have h1:Ge num 0 (funcs-1)=true:=C4.2 zO;have h2:Ge pick 0 (((p.getD num.toNat Fn.zero).outs.length:Int)-1)=true:=C4.2 zO;have h6:decide ((xs.length:Int)=(p.getD num.toNat Fn.zero).params)=true:=A5 hl;unfold Ih;rcases hk with⟨rfl,rfl⟩|⟨rfl,h3,h4⟩;show(Ge num 0 (funcs-1) && (decide ((xs.length:Int)=(p.getD num.toNat Fn.zero).params) && (Ge pick 0 (((p.getD num.toNat Fn.zero).outs.length:Int)-1) && decide ((0:Int)=0))))=true;rw[h1,h2,h6];rfl;have h5:Ge cnt 0 8=true:=C4.2 h4;show(Ge num 0 (funcs-1) && (decide ((xs.length:Int)=(p.getD num.toNat Fn.zero).params) && (Ge pick 0 (((p.getD num.toNat Fn.zero).outs.length:Int)-1) && (decide (((p.getD num.toNat Fn.zero).outs.length:Int)=(p.getD num.toNat Fn.zero).params) && Ge cnt 0 8))))=true;rw[h1,h2,h5,h6,A5 h3];rfl
theorem NU {a b c k:Int}{l:List Ex}(h1:-9223372036854775808≤a∧a≤9223372036854775807)(h2:-9223372036854775808≤b∧b≤9223372036854775807)(h3:-9223372036854775808≤c∧c≤9223372036854775807)(h4:-9223372036854775808≤k∧k≤9223372036854775807):aO (.mk a b c k l):=⟨h1,h2,h3,h4⟩
theorem Du {a b c:Nat}(h:c∈[a,b]):c=a∨c=b:=by simpa using h
theorem Hy {a b:Nat}:∀x∈[a],x∈[a,b]:=fun x hx=>by rw[A9 hx];exact z0 ..
theorem iW {a b:Nat}:∀x∈[b],x∈[a,b]:=fun x hx=>by rw[A9 hx];exact z3 _ (z0 ..)
theorem AF.new2 {F:List Nat}{g g':Nat}{a b c:World}(h:AF F a b)(k:AF [g,g'] b c)(hg:g∈F)(hg':a.heap.size≤g'):AF F a c :=
 ⟨k.os.trans h.os,k.tape.trans h.tape,k.output.trans h.output,A8 h.size k.size,fun i hi hm=>(k.block i (Nat.lt_of_lt_of_le hi h.size) fun hq=>by
  rcases Du hq with rfl|rfl
  exact hm hg
  omega).trans (h.block i hi hm)⟩
theorem RN.of_frF2 {e e':TypeId}{d B U:Nat}{H:Array Obj}{v:Value}{S:List Nat}{xs:List Fn}(h:Fr (Dt 3 (XD e d) e') B U H v xs)(hS:∀b∈S,b<B∨U≤b):RP S d H v xs:=by obtain⟨F,h,_,hF⟩:=h;exact⟨F,(h.rd (AQ e d)).imp fun h=>XE e h,fun b hb hm=>by have:=hF b hb;have:=hS b hm;omega⟩
theorem P7.mk1 {e:TypeId}{d B U:Nat}{H:Array Obj}{v:Value}{x:Ex}(hd:1≤d)(hr:aO x)(h:Fr (Dt 5 (P4 e (d-1)) e) B U H v x.kids):P7 (P4 e d) B U H (Rt x v) x:=by obtain⟨d,rfl⟩:∃k,d=k+1:=⟨d-1,zO⟩;obtain⟨G,h1,h2,h3⟩:=h;exact⟨G,⟨v,rfl,hr,h1⟩,h2,h3⟩
theorem P7.mkF {e:TypeId}{d B U:Nat}{H:Array Obj}{v:Value}{x:Fn}(hr:Bw x.params)(h:Fr (Dt 5 (P4 e d) e) B U H v x.outs):P7 (XD e d) B U H (T6 x v) x:=by obtain⟨G,h1,h2,h3⟩:=h;exact⟨G,⟨v,rfl,hr,h1⟩,h2,h3⟩
theorem qv {k:Int}(h:k=1∨k=2):kn k=0:=by unfold kn;rw[if_pos h]
theorem qw {k:Int}(h:k=3∨k=4∨k=5∨k=6∨k=9):kn k=2:=by unfold kn;rw[if_neg zO,if_pos h]
theorem qx {k:Int}(h:k=7):kn k=1:=by unfold kn;rw[if_neg zO,if_neg zO,if_pos h]
theorem qy {k:Int}(h:k=8):kn k=3:=by unfold kn;rw[if_neg zO,if_neg zO,if_neg zO,if_pos h]
theorem qz {k:Int}(h1:¬k=1)(h2:¬k=2)(h3:¬k=3)(h4:¬k=4)(h5:¬k=5)(h6:¬k=6)(h7:¬k=7)(h8:¬k=8)(h9:¬k=9):kn k = -1:=by unfold kn;rw[if_neg zO,if_neg zO,if_neg zO,if_neg (by omega)]
theorem qA {k:Int}(h:k=3∨k=4∨k=5∨k=6∨k=7∨k=8∨k=9):1≤kn k∧kn k≤3:=by rcases h with rfl|rfl|rfl|rfl|rfl|rfl|rfl <;> decide
theorem Yb {d:Nat}(h:d≤8):Pa d≤100000:=by
 have:∀k:Fin 9,Pa k.val≤100000:=by decide
 exact this ⟨d,zO⟩
theorem TB.okc {p:List Fn}{vars funcs l0:Int}{ex:Ex}{pl:Bool}(h:TB p vars ex)(d:Nat):Rk p funcs vars pl d (l0+1) l0 ex:=by have h:=h.ok (funcs:=funcs) (pl:=pl) (l0:=l0+1) d;rwa [show l0+1-1=l0 from by omega]at h
theorem Rk.up1 {p:List Fn}{vars funcs l0 l1:Int}{ex:Ex}{pl:Bool}{d:Nat}(h:Rk p funcs vars pl d (l0-1+1) l1 ex):Rk p funcs vars pl d l0 l1 ex:=by rwa [show l0-1+1=l0 from by omega]at h
theorem UT.node1 {p:List Fn}{funcs vars:Int}{pl:Bool}{k num pick cnt:Int}{d i:Nat}{l0 l1:Int}{xs:List Ex}(h:UT p funcs vars pl k d l0 l1 xs i)(hd:1≤d)(hi:i≤4)(hl:1≤l0)
  (hp:pl=true→k≠6∧k≠8) (hw:Ih p funcs vars (.mk k num pick cnt xs)=true):Rk p funcs vars pl d (l0+1) l1 (.mk k num pick cnt xs) :=
 UT.node (by rwa [show l0+1-1=l0 from by omega]) hd hi zO hp hw
namespace Jx
variable [J:JR] {P:Program} {ops:Array Oper} {w0:World} {Q:Act→World→Prop}
theorem j1 {o:Oper}{os:List Oper}{ks:List Nat}{a:Act}{w:World}(h:_root_.Go.Proofs.YtemfgblmfahllaaGreat.LW P ops w0 (fun a w=>LW P ops w0 Q os ks a w) [o] [0] a w):LW P ops w0 Q (o::os) (0::ks) a w:=by simp only[_root_.Go.Proofs.YtemfgblmfahllaaGreat.LW]at h;simp only[LW];split;rename_i hw;rw[if_pos hw]at h;unfold _root_.Go.Proofs.YtemfgblmfahllaaGreat.Cb at h;unfold Cb;rw[if_pos (by decide)]at h;rw[if_pos (by decide)];obtain⟨v,h1,h2⟩:=h;exact⟨v,fun w' _=>h1 w' trivial,h2⟩;rename_i hw;rw[if_neg hw]at h;exact h
theorem bT:∀ {os:List Oper}{ks:List Nat}{a:Act}{w:World}(_:ks.all (fun k=>k == 0 || k == 3 || k == 4)=true)(_:_root_.Go.Proofs.YtemfgblmfahllaaGreat.LW P ops w0 Q os ks a w),LW P ops w0 Q os ks a w
 |[],_,_,_,_,h=>h
 |_::_,[],_,_,_,h=>h.elim
 |o::os,k::ks,a,w,hk,h=>by
  simp only[List.all_cons,z7]at hk
  simp only[_root_.Go.Proofs.YtemfgblmfahllaaGreat.LW]at h
  simp only[LW]
  split
  rename_i hw
  rw[if_pos hw]at h
  unfold _root_.Go.Proofs.YtemfgblmfahllaaGreat.Cb at h
  unfold Cb
  split at h
  rename_i h2
  rw[if_pos h2]
  have:k=0:=by
   have:=hk.1;simp only[Bool.or_eq_true,beq_iff_eq]at this;omega
  subst this;obtain⟨v,h1,h3⟩:=h;exact⟨v,fun w' _=>h1 w' trivial,bT hk.2 h3⟩;rename_i h2;rw[if_neg h2];split at h;rename_i h3;rw[if_pos h3];exact Oper.wp_mono (fun a w hh=>⟨J.ext hh.1,bT hk.2 hh.2⟩) h;rename_i h3;rw[if_neg h3];exact Oper.wp_mono (fun a w hh=>bT hk.2 hh) h;rename_i hw;rw[if_neg hw]at h;exact bT hk.2 h
end Jx
end
section
theorem Yc {α:Type}{l:List α}{k:Nat}{d:α}(h:k<l.length):l.getD k d∈l:=by rw[List.getD_eq_getElem?_getD,List.getElem?_eq_getElem h,Option.getD_some];exact List.getElem_mem h
theorem Yd {a:Int}(h:-9223372036854775808≤a∧a≤9223372036854775807):Bw a:=h
def Na (n:Nat):ByteArray:=⟨#[UInt8.ofNat (48+n)]⟩
def Pb:List ByteArray:=[⟨#[102]⟩,⟨#[103]⟩,⟨#[115,116,101,112]⟩,⟨#[104,50]⟩,⟨#[99]⟩]
theorem iX {n:Int}(h0:0≤n)(h1:n<10):(⟨#[UInt8.ofNat (IntKind.u8.wrap (((48:Nat):Int)+n)).toNat]⟩:ByteArray)=Na n.toNat:=by
 obtain⟨k,rfl⟩:∃k:Nat,n=k:=⟨n.toNat,zO⟩;have:∀k:Fin 10,(⟨#[UInt8.ofNat (IntKind.u8.wrap (((48:Nat):Int)+((k.val:Nat):Int))).toNat]⟩:ByteArray)=Na k.val:=by decide +kernel
 exact this ⟨k,zO⟩
theorem Ye (n:Nat):(Na n).size=1:=rfl
theorem X9:∀s∈Pb,s.size≤4:=by decide +kernel
theorem bU:∀s∈Pb,∀i:Fin 10,P0 (s++Na i.val)=true:=by decide +kernel
theorem bV:∀s∈Pb,∀t∈Pb,∀i j:Fin 10,i.val≠j.val→K6 (s++Na i.val) (t++Na j.val)=false:=by decide +kernel
section str
variable {P:Program} {ops:Array Oper} {w0:World} {Q:Act→World→Prop} {os:List Oper} {ks:List Nat} {N:Nat} {ρ:Nat→Value} {w:World}
 {d:Nat} {ty:TypeId} {pos:String} {aft:Array Edge} {g:Option (Nat×Bool)} {t e:TypeId}
theorem bW {st dt:TypeId}{x:Operand}{v:Value}{n:Int}{B U:Nat}(hs:P.underlying st=some (.slice e))(he:P.underlying e=some (.int .u8))(hd:P.underlying dt=some .string)(hx:Bk N ρ x=v)(hv:Fr (By rV e) B U w.heap v [.int .u8 n])
  (hu:Up ops N ρ ⟨some d,.convert st dt x,ty,pos,aft,g⟩) (h:LW P ops w0 Q os ks (mk N (Ch ρ d (.string ⟨#[UInt8.ofNat n.toNat]⟩))) w) :
  LW P ops w0 Q (⟨some d,.convert st dt x,ty,pos,aft,g⟩::os) (2::ks) (mk N ρ) w:=by
 obtain⟨F,hv,_,_⟩:=hv;rcases hv with⟨_,hc,_⟩|⟨us,b,cap,cur,F',hels,rfl,hg,q1,q2,q3,q4,rfl⟩;cases hc;obtain⟨rfl,rfl⟩:=Hf hels;refine D2 (by decide) rfl hu _ (fun w' hcl=>?_) h;have hcl:AI w w':=hcl;have hcb:w'.heap[b]? = w.heap[b]?:=hcl.heap (getElem?_lt hg);have hlc:=run_loadCells_list (P:=P) w' ⟨b,0,none⟩ [.int .u8 n] (fun j u hj=>by
  rw[GQ,BY];simp only[Cv,hcb,hg];have hj0:j=0:=by have:=(List.getElem?_eq_some_iff.1 hj).1;simpa using this
  subst hj0;have e1:cur.toList[0]? = some (.int .u8 n):=by
   have:(cur.toList.take 1)[0]? = some (.int .u8 n):=by rw[show cur.toList.take 1=[.int .u8 n]from q4];rfl
   rwa [List.getElem?_take,if_pos (by decide)]at this
  have e2:u=.int .u8 n:=by simpa using hj.symm
  rw[e2];simpa using e1)
 have hb:=run_bytesToString (P:=P) w' ⟨b,0,none⟩ 1 cap [n] (by simpa using hlc);have hr:=run_convert_bytes_string (P:=P) w' st dt e (some ⟨b,0,none⟩) 1 cap hs he hd;simp only[execOp,hx,zd,Sem.run_bind,hr,hb,Result.andThen_ok,Sem.run_pure];rfl
theorem bX {b:Nat}{z u0 u1 u2 u3:Value}(ht:P.underlying t=some (.slice e))(hi:TI P e 1 z b)(h0:u0.cells=#[u0])(h1:u1.cells=#[u1])(h2:u2.cells=#[u2])(h3:u3.cells=#[u3])(hz:z.cells=#[z]) :
  (Instr.buildSlice t 4 #[(0,u0),(1,u1),(2,u2),(3,u3)]).run P w=.ok (.slice (some ⟨w.heap.size,0,none⟩) 4 4) (w.alloc (.cells #[u0,u1,u2,u3] e)):=by
 obtain⟨i,q1,q2,q3,q4⟩:=hi.get;simp[Instr.buildSlice,run_underlying ht,sizeOf,typeInfo,zeroValue,q1,q2,q3,Instr.fill,newRow,h0,h1,h2,h3,hz,HS,List.range_succ]
theorem Yf {α:Type}{E:BL α}(hE:CA E){ys:List α}{b:Nat}{z u0 u1 u2 u3:Value}{x0 x1 x2 x3:Operand}(ht:P.underlying t=some (.slice e))(hi:TI P e 1 z b)(hz:z.cells=#[z])
  (hx0:Bk N ρ x0=u0) (hx1:Bk N ρ x1=u1) (hx2:Bk N ρ x2=u2) (hx3:Bk N ρ x3=u3) (hl:ys.length=4) (hels:els E w.heap [u0,u1,u2,u3] ys [])
  (hu:Up ops N ρ ⟨some d,.buildSlice t 4 #[(0,x0),(1,x1),(2,x2),(3,x3)],ty,pos,aft,g⟩)
  (h:∀v w1,AI w w1→w1.heap.size=w.heap.size+1→Fr (By E e) w.heap.size w1.heap.size w1.heap v ys→LW P ops w0 Q os ks (mk N (Ch ρ d v)) w1) :
  LW P ops w0 Q (⟨some d,.buildSlice t 4 #[(0,x0),(1,x1),(2,x2),(3,x3)],ty,pos,aft,g⟩::os) (3::ks) (mk N ρ) w:=by
 have hc:=hels.cells1 hE;have hr:=bX (P:=P) (w:=w) ht hi (hc u0 (by simp)).1 (hc u1 (by simp)).1 (hc u2 (by simp)).1 (hc u3 (by simp)).1 hz;have hrun:(execOp (Bk N ρ) ⟨some d,.buildSlice t 4 #[(0,x0),(1,x1),(2,x2),(3,x3)],ty,pos,aft,g⟩).run P w=.ok (.value (.slice (some ⟨w.heap.size,0,none⟩) 4 4)) (w.alloc (.cells #[u0,u1,u2,u3] e)):=by
  simp only[execOp,zc,zf,zh,Sem.run_bind,hx0,hx1,hx2,hx3,hr,Result.andThen_ok,Sem.run_pure]
 refine II rfl hu _ _ hrun (BM _ _)<|h _ _ (BM _ _) (by simp) ?_;have hn:=Gz (e:=e) (w:=w) hE (us:=[u0,u1,u2,u3]) (xs:=ys) (F:=[]) (cur:=#[u0,u1,u2,u3]) hels (by simp[maxLen]) (by rw[hl];rfl) (by rw[hl];simp);rw[hl]at hn;refine⟨_,hn,?_,fun c hc=>?_⟩;rw[List.nodup_cons];exact⟨fun hm=>(by cases hm),zk⟩;rcases ze.1 hc with rfl|hc;exact⟨A7 _,by simp⟩;cases hc
end str
theorem eN {H:Array Obj}{u0 u1 u2 u3:Value}(h0:u0.cells=#[u0]∧u0.oneCell'=true)(h1:u1.cells=#[u1]∧u1.oneCell'=true)(h2:u2.cells=#[u2]∧u2.oneCell'=true)(h3:u3.cells=#[u3]∧u3.oneCell'=true):els rV H [u0,u1,u2,u3] [u0,u1,u2,u3] [] :=
 Nu fun u hu=>by
  simp only[ze,z2,or_false]at hu
  rcases hu with rfl|rfl|rfl|rfl <;> assumption
theorem bY {p q:List Fn}{F v:Int}{e:Ex}(hF:F≤((p.length:Nat):Int)):Ih (p++q) F v e=Ih p F v e:=by by_cases h:Ge e.num 0 (F-1)=true;have h1:=C4.1 h;have h2:(p++q).getD e.num.toNat Fn.zero=p.getD e.num.toNat Fn.zero:=K5 zO;unfold Ih;rw[h2];unfold Ih;simp only[Bool.not_eq_true]at h;simp[h]
mutual
theorem TC {p q:List Fn}{F:Int}(hF:F≤((p.length:Nat):Int)):∀(e:Ex)(v:Int),wf (p++q) F e v=wf p F e v
 |.mk k n c d l,v=>by rw[wf,wf,bY hF,UU hF l]
theorem UU {p q:List Fn}{F:Int}(hF:F≤((p.length:Nat):Int)):∀(l:List Ex)(b:Bool)(i:Nat)(v:Int),UK (p++q) F b i l v=UK p F b i l v
 |[],_,_,_=>by rw[UK,UK]
 |e::l,b,i,v=>by rw[UK,UK,TC hF e,UU hF l]
end
structure NV (p:List Fn)(pl:Bool):Prop where
 len:p.length≤12
 par:∀k,k<p.length→1≤(p.getD k Fn.zero).params∧(p.getD k Fn.zero).params≤3
 outs:∀k,k<p.length→1≤(p.getD k Fn.zero).outs.length∧(p.getD k Fn.zero).outs.length≤3
 wf:∀k,k<p.length→∀j,j<(p.getD k Fn.zero).outs.length→wf p ((k:Nat):Int) ((p.getD k Fn.zero).outs.getD j Ex.zero) (p.getD k Fn.zero).params=true
 dp:∀k,k<p.length→Ex.deeps (p.getD k Fn.zero).outs≤6
 sz:∀k,k<p.length→Ex.sizes (p.getD k Fn.zero).outs≤400
 pl:pl=true→∀k,k<p.length→Td (p.getD k Fn.zero).outs=true
 nm:∀k,k<p.length→P0 (p.getD k Fn.zero).name=true
 nw:∀k,k<p.length→X7 p k=true
theorem NV.nil (pl:Bool):NV [] pl:=by constructor;simp;all_goals first|(intro _ k hk;simp at hk)|(intro k hk;simp at hk)
theorem NV.gpr {p:List Fn}{pl:Bool}(h:NV p pl):mJ p :=
 ⟨by have:=h.len;omega,fun k hk=>by have:=h.par k hk;omega,fun k hk=>by have:=h.outs k hk;omega⟩
theorem NV.snoc {p:List Fn}{pl:Bool}{f:Fn}(h:NV p pl)(hl:p.length≤11)(hp:1≤f.params∧f.params≤3)(ho:1≤f.outs.length∧f.outs.length≤3)
  (hw:∀j,j<f.outs.length→Go.Proofs.YtemfgblmfahllaaGreat.wf p ((p.length:Nat):Int) (f.outs.getD j Ex.zero) f.params=true) (hd:Ex.deeps f.outs≤6) (hs:Ex.sizes f.outs≤400) (hpl:pl=true→Td f.outs=true)
  (hn:P0 f.name=true) (hnw:∀k,k<p.length→K6 (p.getD k Fn.zero).name f.name=false):NV (p++[f]) pl:=by
 have e:∀k,k<(p++[f]).length→(k<p.length∧(p++[f]).getD k Fn.zero=p.getD k Fn.zero)∨(k=p.length∧(p++[f]).getD k Fn.zero=f):=fun k hk=>by
  rw[z4,zd]at hk;by_cases h:k<p.length;exact .inl ⟨h,K5 h⟩;exact .inr ⟨zO,KB zO⟩
 refine⟨by rw[z4,zd];omega,?_,?_,?_,?_,?_,?_,?_,?_⟩
 intro k hk;rcases e k hk with⟨h1,h2⟩|⟨h1,h2⟩ <;> rw[h2];exact h.par k h1;exact hp
 intro k hk;rcases e k hk with⟨h1,h2⟩|⟨h1,h2⟩ <;> rw[h2];exact h.outs k h1;exact ho
 intro k hk;rcases e k hk with⟨h1,h2⟩|⟨h1,h2⟩ <;> rw[h2]
 intro j hj;rw[TC (by omega)];exact h.wf k h1 j hj
 intro j hj;subst h1;rw[TC (by omega)];exact hw j hj
 intro k hk;rcases e k hk with⟨h1,h2⟩|⟨h1,h2⟩ <;> rw[h2];exact h.dp k h1;exact hd
 intro k hk;rcases e k hk with⟨h1,h2⟩|⟨h1,h2⟩ <;> rw[h2];exact h.sz k h1;exact hs
 intro hq k hk;rcases e k hk with⟨h1,h2⟩|⟨h1,h2⟩ <;> rw[h2];exact h.pl hq k h1;exact hpl hq
 intro k hk;rcases e k hk with⟨h1,h2⟩|⟨h1,h2⟩ <;> rw[h2];exact h.nm k h1;exact hn
 intro k hk;rcases e k hk with⟨h1,h2⟩|⟨h1,h2⟩;have:=h.nw k h1;unfold X7 at this ⊢;rwa [h2,List.take_append_of_le_length (by omega)];unfold X7;rw[h2,h1,List.take_left];simp only[Bool.not_eq_true',List.any_eq_false]
 intro g hg;obtain⟨i,hi,rfl⟩:=List.mem_iff_getElem.1 hg;have:=hnw i hi;rw[List.getD_eq_getElem?_getD,List.getElem?_eq_getElem hi,Option.getD_some]at this;simp[this]
theorem NV.ok {p:List Fn}{pl:Bool}(h:NV p pl):Fd p=true:=by unfold Fd;rw[z7];refine⟨A5 (by have:=h.len;omega),zm.2 fun k hk=>?_⟩;rw[List.mem_range]at hk;have h1:=h.par k hk;have h2:=h.outs k hk;have h3:=h.sz k hk;have h4:=h.dp k hk;unfold ME;rw[h.nm k hk,h.nw k hk,C4.2 zO,C4.2 zO,A5 h3];simp only[Bool.true_and,Bool.and_true];refine zm.2 fun j hj=>?_;rw[List.mem_range]at hj;have h5:=Nw hj;have h6:=Dl hj;unfold P9;rw[C4.2 zO,C4.2 zO,A5 zO,A5 zO,h.wf k hk j hj];rfl
structure Te (p:List Fn)(vars:Int)(pl:Bool)(xs:List Ex)(i:Nat):Prop where
 len:xs.length=i
 wf:∀j,j<i→wf p ((p.length:Nat):Int) (xs.getD j Ex.zero) vars=true
 dp:Ex.deeps xs≤6
 sz:Ex.sizes xs≤i*117
 pl:pl=true→Td xs=true
theorem Te.nil (p:List Fn)(vars:Int)(pl:Bool):Te p vars pl [] 0:=⟨rfl,fun j hj=>by omega,by rw[Ex.deeps];omega,by rw[Ex.sizes];omega,fun _=>by rw[Td]⟩
theorem Te.snoc {p:List Fn}{funcs vars:Int}{pl:Bool}{xs:List Ex}{i d:Nat}{l0 l1:Int}{x:Ex}(h:Te p vars pl xs i)(hf:funcs=((p.length:Nat):Int))(hd:d≤5)(hl:l0≤30)(hx:Rk p funcs vars pl d l0 l1 x):Te p vars pl (xs++[x]) (i+1):=by have hlen:=h.len;subst hf;refine⟨by simp[hlen],fun j hj=>?_,?_,?_,fun hp=>?_⟩;by_cases e:j=i;subst e;rw[KB hlen.symm];exact hx.wf;rw[K5 (by omega)];exact h.wf j zO;have h1:=h.dp;have h2:=hx.dp;rw[Kz];omega;have h1:=h.sz;have h2:=hx.sz;rw[Ky];omega;rw[S3,h.pl hp,hx.pl hp];rfl
def Dn (p:List Fn):Prop:=∀k,k<p.length→∃s∈Pb,(p.getD k Fn.zero).name=s++Na k
theorem Dn.nil:Dn []:=fun k hk=>by simp at hk
theorem Dn.snoc {p:List Fn}{f:Fn}{s:ByteArray}(h:Dn p)(hs:s∈Pb)(hf:f.name=s++Na p.length):Dn (p++[f]):=fun k hk=>by
 rw[z4,zd]at hk
 by_cases e:k<p.length
 rw[K5 e];exact h k e
 rw[KB zO,show k=p.length from by omega];exact⟨s,hs,hf⟩
theorem Te.fn {p:List Fn}{pl:Bool}{f:Fn}{s:ByteArray}{i:Nat}(h:NV p pl)(hd:Dn p)(hl:p.length≤9)(hp:1≤f.params∧f.params≤3)(hi:1≤i∧i≤3)(ho:Te p f.params pl f.outs i)
  (hs:s∈Pb) (hf:f.name=s++Na p.length):NV (p++[f]) pl∧Dn (p++[f]) :=
 ⟨h.snoc zO hp (by rw[ho.len];exact hi) (fun j hj=>ho.wf j (by rw[← ho.len];exact hj)) ho.dp (by have:=ho.sz;omega) ho.pl (by rw[hf];exact bU s hs ⟨p.length,zO⟩) (fun k hk=>by
  obtain⟨t,ht,e⟩:=hd k hk
  rw[e,hf]
  exact bV t ht s hs ⟨k,zO⟩ ⟨p.length,zO⟩ (by show k≠p.length;omega)),hd.snoc hs hf⟩
theorem Yg {x:ByteArray}(h:Value.string x∈[Value.string ⟨#[102]⟩,.string ⟨#[103]⟩,.string ⟨#[115,116,101,112]⟩,.string ⟨#[104,50]⟩]):x∈Pb:=by simp only[ze,z2,or_false,Value.string.injEq]at h;rcases h with h|h|h|h <;> subst h <;> simp[Pb]
theorem qB:J9 5=47770:=by decide
theorem qC:Pa 5=1365:=by decide
theorem qD:J9 4=11930:=by decide
theorem qE:Pa 4=341:=by decide
theorem Yh (e:TypeId):∀ {d:Nat}{H:Array Obj}{cs:List Value}{x:Ex}{F:List Nat},P4 e d H cs x F→P4 e (d+1) H cs x F
 |0,_,_,_,_,h=>h.elim
 |d+1,_,_,_,_,⟨v,h1,h2,h3⟩=>⟨v,h1,h2,h3.imp fun h=>Yh e h⟩
theorem iY (e:TypeId){d:Nat}{H:Array Obj}{cs:List Value}{x:Ex}{F:List Nat}(h:P4 e d H cs x F):∀ {d':Nat},d≤d'→P4 e d' H cs x F:=by
 intro d' hd
 induction hd with
 |refl=>exact h
 |step _ ih=>exact Yh e ih
theorem P7.le {e:TypeId}{d d' B U:Nat}{H:Array Obj}{cs:List Value}{x:Ex}(h:P7 (P4 e d) B U H cs x)(hd:d≤d'):P7 (P4 e d') B U H cs x:=by obtain⟨G,h1,h2,h3⟩:=h;exact⟨G,iY e h1 hd,h2,h3⟩
theorem Rk.npl {p:List Fn}{funcs vars l0 l1:Int}{ex:Ex}{pl:Bool}{d:Nat}(h:Rk p funcs vars pl d l0 l1 ex):Rk p funcs vars false d l0 l1 ex:=⟨h.wf,h.sz,h.dp,fun h=>absurd h (by decide),h.lo⟩
theorem NV.npl {p:List Fn}{pl:Bool}(h:NV p pl):NV p false:=⟨h.len,h.par,h.outs,h.wf,h.dp,h.sz,fun h=>absurd h (by decide),h.nm,h.nw⟩
section res
variable {P:Program} {N:Nat} {ρ:Nat→Value} {w:World}
theorem Yi:∀(l:List Nat),(((l.map ResultVar.tmp).mapM (m:=Sem) fun
  |.tmp t=>pure ((mk N ρ).tmps.getD t undef)
  |.cell a t=>do loadVar t (← asAddr ((mk N ρ).tmps.getD a undef)))).run P w=.ok (l.map fun t=>Bk N ρ (.tmp t)) w:=by
 intro l
 induction l with
 |nil=>rfl
 |cons t l ih =>
  simp only[zf,List.mapM_cons,Sem.run_bind,Sem.run_pure,Result.andThen_ok,JL]at ih ⊢;rw[ih];rfl
theorem Ee {fn:Func}{R:Ending→World→Prop}{k s b t0:Nat}{ts:List Nat}{ty:TypeId}{cs:List Value}(vs:List Value)(hr:fn.results=(ResultVar.cell k ty::((t0::ts).map ResultVar.tmp)).toArray)(ha:E0 P ty s=true)(hv:Bk N ρ (.tmp k)=.pointer (some ⟨b,0,none⟩))(hb:BX w.heap b cs)(hl:cs.length=s)
  (hvs:((t0::ts).map fun t=>Bk N ρ (.tmp t))=vs) (h:R (.returned (.tuple (.agg cs.toArray::vs).toArray)) w):bodyPost P fn R .ret (mk N ρ) w:=by
 subst hvs;refine⟨rfl,_,?_,h⟩;have hld:=If (P:=P) ha (LD.of_box hb) hl;have hg:(mk N ρ).tmps.getD k undef=.pointer (some ⟨b,0,none⟩):=by rw[JL,hv]
 have hi:(asAddr (.pointer (some ⟨b,0,none⟩))).run P w=.ok ⟨b,0,none⟩ w:=rfl;have key:=Yi (P:=P) (N:=N) (ρ:=ρ) (w:=w) (t0::ts);unfold results;rw[hr];simp only[List.mapM_toArray,Sem.run_bind,Sem.run_map];have hfull:(((ResultVar.cell k ty::((t0::ts).map ResultVar.tmp)).mapM (m:=Sem) fun
  |.tmp t=>pure ((mk N ρ).tmps.getD t undef)
  |.cell a t=>do loadVar t (← asAddr ((mk N ρ).tmps.getD a undef)))).run P w=.ok (.agg cs.toArray::((t0::ts).map fun t=>Bk N ρ (.tmp t))) w:=by
  rw[List.mapM_cons];simp only[Sem.run_bind,Sem.run_pure,hg,hi,hld,Result.andThen_ok];rw[key];rfl
 refine (congrArg (fun r=>(Result.andThen (Result.andThen r fun a w'=>Result.ok a.toArray w') fun a w'=>Result.ok (if h:a.size=1 then a[0]else Value.tuple a) w')) hfull).trans ?_;simp only[Result.andThen_ok];rfl
end res
end
section
set_option linter.unusedSectionVars false
namespace Jx
section
variable [J:JR] {P:Program} {ops:Array Oper} {md:Region.Mode} {kd bs:Nat→Nat} {w0:World} {Q:Act→World→Prop}
theorem Nb {Q':Act→World→Prop}(h:∀a w,Q a w→Q' a w):∀(l:List Nat)(a:Act)(w:World),LI P ops kd w0 Q l a w→LI P ops kd w0 Q' l a w
 |[],a,w,hh=>h a w hh
 |i::l,a,w,hh=>by
  simp only[LI]at hh ⊢
  cases hoi:ops[i]? with
  |none=>rw[hoi]at hh;exact hh.elim
  |some o =>
   rw[hoi]at hh
   simp only at hh ⊢
   split
   rename_i hw
   rw[if_pos hw]at hh
   exact hh.mono fun a w=>Nb h l a w
   rename_i hw
   rw[if_neg hw]at hh
   exact Nb h l _ _ hh
theorem NW (s:List Nat):∀(l:List Nat)(a:Act)(w:World),LI P ops kd w0 (LI P ops kd w0 Q s) l a w→LI P ops kd w0 Q (l++s) a w
 |[],a,w,hh=>hh
 |i::l,a,w,hh=>by
  simp only[LI,List.cons_append]at hh ⊢
  cases hoi:ops[i]? with
  |none=>rw[hoi]at hh;exact hh.elim
  |some o =>
   rw[hoi]at hh
   simp only at hh ⊢
   split
   rename_i hw
   rw[if_pos hw]at hh
   exact hh.mono fun a w=>NW s l a w
   rename_i hw
   rw[if_neg hw]at hh
   exact NW s l _ _ hh
theorem EO {Q':Act→World→Prop}(hQ:∀a w,Q a w→Q' a w):∀(l:List Nat)(os:List Oper)(ks:List Nat)(a:Act)(w:World),Mt ops kd l os ks→LW P ops w0 Q os ks a w→LI P ops kd w0 Q' l a w
 |[],[],_,a,w,_,h=>by simpa [LI]using hQ a w (by simpa [LW]using h)
 |x::l,o::os,k::ks,a,w,⟨h0,hk,hM⟩,h=>by
  have hr:∀a w,LW P ops w0 Q os ks a w→LI P ops kd w0 Q' l a w:=fun a w hh=>EO hQ l os ks a w hM hh
  simp only[LI,h0,LW]at h ⊢
  split
  rename_i hw
  rw[if_pos hw]at h
  rw[hk]
  exact h.mono hr
  rename_i hw
  rw[if_neg hw]at h
  exact hr _ _ h
 |[],_::_,_,_,_,h,_=>h.elim
 |_::_,[],_,_,_,h,_=>h.elim
 |_::_,_::_,[],_,_,h,_=>h.elim
structure TD (ops:Array Oper)(kd bs:Nat→Nat)(w0:World)(L0 S:List Nat)(n:Nat)(l:List Nat)(listed:Array Bool)(w:World):Prop where
 sub:l.Sublist L0
 len:l.length+S.length=n
 mem:∀i,i∈l++S↔listed.getD i true=false
 sz:listed.size=ops.size
 clo:LZ bs listed
 inv:Ro kd w0 w (l++S)
 nd:(l++S).Nodup
variable {L0:List Nat}
theorem bZ {l:List Nat}(hp:l.Pairwise (fun x y=>4≤kd x→kd y≠1)):Rp kd l:=by intro l1 i l2 hl hk j hj;subst hl;exact List.rel_of_pairwise_cons (List.pairwise_append.1 hp).2.1 hj hk
theorem NX (hsel:∀(j:Nat)(o:Oper) cs b,ops[j]? = some o→o.op≠.select cs b)(hS:Pm md ops bs)
  (hlex:∀j oj,ops[j]? = some oj→∀e∈oj.after,Region.binds md e=true→e.on<j) {s:List Nat} (hp:(L0++s).Pairwise (Fy md ops kd bs)) (h14:(L0++s).Pairwise (fun x y=>4≤kd x→kd y≠1))
  (n:Nat) (l:List Nat) (listed:Array Bool) (a:Act) (w:World) (hC:TD ops kd bs w0 L0 s n l listed w) (h:LI P ops kd w0 (LI P ops kd w0 Q s) l a w):wpAny P md ops (NQ Q) n listed a w :=
 GM hsel hS hlex n (l++s) listed a w (by rw[z4];exact hC.len) (hp.sublist (List.Sublist.append_right hC.sub s)) hC.nd hC.sz hC.mem hC.clo
  (bZ (h14.sublist (List.Sublist.append_right hC.sub s))) hC.inv (NW s l a w h)
theorem M9 (hsel:∀ (j:Nat) (o:Oper) cs b,ops[j]? = some o→o.op≠.select cs b) (hS:Pm md ops bs)
  (hlex:∀ j oj,ops[j]? = some oj→∀ e∈oj.after,Region.binds md e = true→e.on < j)
  {h1 h2:Nat} {S1 S2:List Nat} {Q1 Q2:Act→World→Prop} (hperm:(h1 :: S1).Perm (h2 :: S2)) (hk1:kd h1 = 3) (hk2:kd h2 = 3)
  (hl:∀ x∈L0,kd x≤2) (hL:L0.Pairwise (Fy md ops kd bs)) (hf1:∀ x∈L0,Fy md ops kd bs x h1) (hf2:∀ x∈L0,Fy md ops kd bs x h2)
  (hz:∀ z∈S1,z = h2∨(bs z).testBit h1 = true∨(bs z).testBit h2 = true)
  (hord:(L0++h1 :: S1).Pairwise (fun x y=>∀ ox,ops[x]? = some ox→∀ e∈ox.after,Region.binds md e = true→e.on≠y))
  (rec1:∀ n l listed a w,TD ops kd bs w0 L0 S1 n l listed w→LI P ops kd w0 Q1 l a w→wpAny P md ops (NQ Q) n listed a w)
  (rec2:∀ n l listed a w,TD ops kd bs w0 L0 S2 n l listed w→LI P ops kd w0 Q2 l a w→wpAny P md ops (NQ Q) n listed a w) :
  ∀ (n:Nat) (l:List Nat) (listed:Array Bool) (a:Act) (w:World),TD ops kd bs w0 L0 (h1 :: S1) n l listed w→LI P ops kd w0 (fun a w=>LI P ops kd w0 Q1 [h1] a w∧LI P ops kd w0 Q2 [h2] a w) l a w→wpAny P md ops (NQ Q) n listed a w
 | 0,l,listed,a,w,hC,h=>by have:=hC.len; simp at this
 | n + 1,l,listed,a,w,hC,h=>by
  have hm2:∀ i,i∈l++h1 :: S1↔i∈l++h2 :: S2:=fun i=>by
   simp only [zi]; rw [hperm.mem_iff]
  have hun_of:∀ i∈l++h1 :: S1,listed.getD i true = false:=fun i hi=>(hC.mem i).1 hi
  -- a place that makes memory is taken
  have heavy:∀ (x:Nat) (T:List Nat) (Qx:Act→World→Prop),kd x = 3→(h1 :: S1).Perm (x :: T)→(∀ y∈L0,Fy md ops kd bs y x)→LI P ops kd w0 Qx (l++[x]) a w →
    (∀ l' a' w' listed',TD ops kd bs w0 L0 T n l' listed' w'→LI P ops kd w0 Qx l' a' w'→wpAny P md ops (NQ Q) n listed' a' w') →
    ∀ (ox:Oper),ops[x]? = some ox→(∀ e∈ox.after,Region.binds md e = true→listed.getD e.on false = true)→wpOp P ops (NQ Q) x (wpAny P md ops (NQ Q) n (listed.setIfInBounds x true)) a w:=by
   intro x T Qx hkx hpx hfx hLx hrec ox hox hall;have hbits:=FM hS hC.clo hox hall;have hxm:x∈l++h1 :: S1:=z1 _ (hpx.mem_iff.2 (z0 ..));have hxu:=hun_of x hxm;have hfree:=Hd (kd:=kd) (l1:=l) hox (fun y hy=>(hfx y<|hC.sub.subset hy).1) (fun y hy=>hun_of y<|z8 _ hy) hbits;have hsz:=DC hxu;have hnd2:(l++x :: T).Nodup:=(List.Perm.append_left l hpx).nodup_iff.1 hC.nd;have hxl:x∉l++T:=by
    have h1:=List.nodup_append.1 hnd2
    intro hmem;rcases zi.1 hmem with hh | hh;exact h1.2.2 x hh x (z0 ..) rfl;exact (List.nodup_cons.1 h1.2.1).1 hh
   have hmT:∀ i,i∈l++x :: T↔listed.getD i true = false:=fun i=>by
    rw [← hC.mem i]; simp only [zi]; rw [hpx.mem_iff]
   have hcond:∀ w',(AI w w')→TD ops kd bs w0 L0 T n l (listed.setIfInBounds x true) w':=fun w' hE =>
    ⟨hC.sub,by have:=hC.len; have:=hpx.length_eq; simp at *; omega,JK hmT hxl hsz,by simpa using hC.sz,Ic hC.clo hbits,
     fun ⟨j,hj,hkj⟩=>(hC.inv ⟨j,by
      rcases zi.1 hj with hh | hh;exact z8 _ hh;exact z1 _ (hpx.mem_iff.2 (z3 _ hh)),hkj⟩).trans hE,
     hnd2.sublist (List.Sublist.append_left (List.sublist_cons_self _ _) _)⟩
   obtain ⟨g1,g2⟩:=Mz (Q:=Qx) hsel hox zO l [] a w hfree (by simpa using hLx);unfold wpOp;rw [hox];by_cases hw:Region.wanted ox (yielded ops a.tmps) = true;simp only [hw,if_true];exact .inl<|Oper.wp_mono (fun a' w' hK=>hrec l a' w' _ (hcond w'<|hK.1 hkx) (by simpa using hK.2))<|Ld<|g1 hw;simp only [hw,Bool.false_eq_true,if_false];exact hrec l _ w _ (hcond w<|AI.refl w) (by simpa using g2 (by simpa using hw))
  refine ⟨fun h0=>?_,fun i hi=>?_⟩;exfalso;have hready:∀ (x:Nat) (t:List Nat),l++h1 :: S1 = x :: t→False:=fun x t ht=>by
   have hs:(x :: t).Pairwise (fun x y=>∀ ox,ops[x]? = some ox→∀ e∈ox.after,Region.binds md e = true→e.on≠y):=ht ▸ hord.sublist (List.Sublist.append_right hC.sub _);have:=Ku (md:=md) (i:=x) (l:=t) hC.sz (fun y=>ht ▸ hC.mem y) hlex (fun y hy ox hox=>(List.pairwise_cons.1 hs).1 y hy ox hox);rw [h0] at this;cases this
  cases l with
  | nil=>exact hready _ _ rfl
  | cons x l=>exact hready x (l++h1 :: S1) rfl
  obtain ⟨hun,oi,hoi,hall⟩:=mem_ready.1 hi;have hmem:=(hC.mem i).2 hun;have hbits:=FM hS hC.clo hoi hall;by_cases hil:i∈l;obtain ⟨l1,l2,rfl⟩:=List.append_of_mem hil;have hpi:∀ x∈l1,Fy md ops kd bs x i:=fun x hx=>(List.pairwise_append.1 (hL.sublist hC.sub)).2.2 x hx i (z0 ..);have hfree:=Hd (kd:=kd) (l1:=l1) hoi (fun x hx=>(hpi x hx).1) (fun x hx=>hun_of x (by simp [hx])) hbits;have hk:kd i≤2:=hl i (hC.sub.subset (by simp));have hsub0:(l1++l2).Sublist (l1++i :: l2):=List.Sublist.append_left (List.sublist_cons_self _ _) _;have hnd1:(l1++i :: (l2++h1 :: S1)).Nodup:=by have:=hC.nd; rwa [List.append_assoc,List.cons_append] at this
  have hnot:i∉l1++(l2++h1 :: S1):=by
   have h1:=List.nodup_append.1 hnd1
   intro hmem;rcases zi.1 hmem with hh | hh;exact h1.2.2 i hh i (z0 ..) rfl;exact (List.nodup_cons.1 h1.2.1).1 hh
  have hm1:∀ x,x∈l1++i :: (l2++h1 :: S1)↔listed.getD x true = false:=fun x=>by
   have:=hC.mem x; rwa [List.append_assoc,List.cons_append] at this
  have hcond:TD ops kd bs w0 L0 (h1 :: S1) n (l1++l2) (listed.setIfInBounds i true) w :=
   ⟨hsub0.trans hC.sub,by have:=hC.len; simp at *; omega,fun x=>by rw [List.append_assoc]; exact JK hm1 hnot (DC hun) x,by simpa using hC.sz,Ic hC.clo hbits,
    fun ⟨j,hj,hkj⟩=>hC.inv ⟨j,by
     rcases zi.1 hj with hh | hh;exact z8 _<|hsub0.subset hh;exact z1 _ hh,hkj⟩,
    hC.nd.sublist (List.Sublist.append_right hsub0 _)⟩
  obtain ⟨v,hv,hL'⟩:=Kh hsel hoi hk l1 l2 a w hfree (fun h1=>hC.inv ⟨i,by simp,h1⟩) h;unfold wpOp;rw [hoi];have rec_:=fun a' hh=>M9 hsel hS hlex hperm hk1 hk2 hl hL hf1 hf2 hz hord rec1 rec2 n (l1++l2) (listed.setIfInBounds i true) a' w hcond hh;rcases hv with ⟨hw,hy⟩ | ⟨hw,rfl⟩;simp only [hw,if_true];exact .inl<|Le (hy w (Cl.self fun h1=>hC.inv ⟨i,by simp,h1⟩))<|rec_ _ hL';simp only [hw,Bool.false_eq_true,if_false];exact rec_ _ hL';have hiS:i∈h1 :: S1:=(zi.1 hmem).resolve_left hil;have h12:i = h1∨i = h2:=by
   rcases ze.1 hiS with hh | hh;exact .inl hh;rcases hz i hh with hh | hh | hh;exact .inr hh;have q1:=hbits h1 hh;have q2:=EH<|hun_of h1 (by simp);rw [q1] at q2; cases q2;have q1:=hbits h2 hh;have q2:=EH<|hun_of h2 ((hm2 h2).2 (by simp));rw [q1] at q2; cases q2
  rcases h12 with rfl | rfl;exact heavy i S1 Q1 hk1 (List.Perm.refl _) hf1 (NW [i] l a w<|Nb (fun _ _ hh=>hh.1) l a w h) (fun l' a' w' li hc hh=>rec1 n l' li a' w' hc hh) oi hoi hall;exact heavy i S2 Q2 hk2 hperm hf2 (NW [i] l a w<|Nb (fun _ _ hh=>hh.2) l a w h) (fun l' a' w' li hc hh=>rec2 n l' li a' w' hc hh) oi hoi hall
theorem Qp (x:Nat)(l:List Nat)(a:Act)(w:World)(hh:LI P ops kd w0 Q (x::l) a w):LI P ops kd w0 (LI P ops kd w0 Q l) [x] a w:=by
 simp only[LI]at hh ⊢;cases hoi:ops[x]? with
 |none=>rw[hoi]at hh;exact hh.elim
 |some o =>
  rw[hoi]at hh;simp only at hh ⊢;split;rename_i hw;rw[if_pos hw]at hh;exact hh.mono fun a w h=>h;rename_i hw;rw[if_neg hw]at hh;exact hh
end
def UV (ops:Array Oper)(x y:Nat):Bool:=match ops[x]? with|some ox=>ox.after.all fun e=>!Region.binds .any e || e.on != y|none=>true
def mK (os:List Oper)(ks:List Nat)(L0:List Nat)(h1 g1:Nat)(r1:List Nat)(g2:Nat)(r2:List Nat)(h2:Nat)(r3:List Nat):Bool :=
  let ops:=os.toArray
  let b:=(Region.before ops).toList
  Region.noSelect ops &&
  (os.zipIdx.all fun(o,j) =>
    (o.after.all fun e=>!Region.binds .any e || decide (e.on<j)) &&
    (let m:=o.after.foldl (fun s e=>if Region.binds .any e then s ||| 2 ^ e.on ||| b.getD e.on 0 else s) 0
     (b.getD j 0 == m))) &&
  (decide (ks.getD h1 0=3) && (decide (ks.getD h2 0=3) && (decide (ks.getD g1 0=3) && decide (ks.getD g2 0=3)))) &&
  (L0.all fun x=>decide (ks.getD x 0≤2)) &&
  VX (IU ops ks b) L0 &&
  (L0.all fun x=>IU ops ks b x h1 && (IU ops ks b x h2 && (IU ops ks b x g1 && IU ops ks b x g2))) &&
  ((h1::g1::r1).isPerm (h2::r3) && (g1::r1).isPerm (g2::r2)) &&
  ((g1::r1).all fun z=>decide (z=h2) || ((b.getD z 0).testBit h1 || (b.getD z 0).testBit h2)) &&
  (r1.all fun z=>decide (z=g2) || ((b.getD z 0).testBit g1 || (b.getD z 0).testBit g2)) &&
  (VX (UV ops) (L0++h1::g1::r1)) &&
  (VX (IU ops ks b) (L0++r1) && (VX (IU ops ks b) (L0++r2) && VX (IU ops ks b) (L0++r3))) &&
  (VX (fun x y=>!(decide (4≤ks.getD x 0)) || ks.getD y 0 != 1) (L0++r1) && (VX (fun x y=>!(decide (4≤ks.getD x 0)) || ks.getD y 0 != 1) (L0++r2) && VX (fun x y=>!(decide (4≤ks.getD x 0)) || ks.getD y 0 != 1) (L0++r3))) &&
  (decide ((L0++h1::g1::r1).length=os.length) && (decide (L0++h1::g1::r1).Nodup && ((L0++h1::g1::r1).all (fun x=>decide (x<os.length)) && (List.range os.length).all fun x=>(L0++h1::g1::r1).contains x)))
section
variable [J:JR] {P:Program}
theorem mL {id:Nat}{Q:Exit→Act→World→Prop}{a:Act}{w:World}(os:List Oper)(ks:List Nat)(L0:List Nat)(h1 g1:Nat)(r1:List Nat)(g2:Nat)(r2:List Nat)(h2:Nat)(r3:List Nat)
  (oL:List Oper) (kL:List Nat) (oh1 og1:Oper) (o1:List Oper) (k1:List Nat) (og2:Oper) (o2:List Oper) (k2:List Nat) (oh2:Oper) (o3:List Oper) (k3:List Nat) (hm:P.follows .mixedOrders=true) (hB:mK os ks L0 h1 g1 r1 g2 r2 h2 r3=true)
  (hML:Mt os.toArray (fun i=>ks.getD i 0) L0 oL kL) (hMh:Mt os.toArray (fun i=>ks.getD i 0) [h1] [oh1] [3]) (hM1:Mt os.toArray (fun i=>ks.getD i 0) (g1::r1) (og1::o1) (3::k1)) (hM2:Mt os.toArray (fun i=>ks.getD i 0) (g2::r2) (og2::o2) (3::k2)) (hM3:Mt os.toArray (fun i=>ks.getD i 0) (h2::r3) (oh2::o3) (3::k3))
  (h:LW P os.toArray w.drew (fun a' w'=>LW P os.toArray w.drew (fun a'' w''=>LW P os.toArray w.drew (fun a w=>Q .normal a w) (og1::o1) (3::k1) a'' w''∧LW P os.toArray w.drew (fun a w=>Q .normal a w) (og2::o2) (3::k2) a'' w'') [oh1] [3] a' w' ∧
   LW P os.toArray w.drew (fun a w=>Q .normal a w) (oh2::o3) (3::k3) a' w') oL kL a w.drew):(Code.region id os.toArray true).wp P Q a w:=by
 refine wp_region_any hm ?_;simp only[mK,z7,decide_eq_true_eq]at hB;obtain⟨⟨⟨⟨⟨⟨⟨⟨⟨⟨⟨⟨hsel,hpl⟩,hk1,hk2,hk3,hk4⟩,hl⟩,hpL⟩,hpx⟩,hpe1,hpe2⟩,hz1⟩,hz2⟩,hord⟩,hb1,hb2,hb3⟩,hn1,hn2,hn3⟩,hln,hnd,hlt,hct⟩:=hB;have hz:∀ {j:Nat} {o:Oper},os.toArray[j]? = some o→(o,j)∈os.zipIdx:=by
  intro j o ho;rw[List.mem_zipIdx_iff_getElem?];simpa using ho
 have hall:∀j oj,os.toArray[j]? = some oj→_:=fun j oj hj=>zm.1 hpl _ (hz hj);have hlex:∀j oj,os.toArray[j]? = some oj→∀e∈oj.after,Region.binds .any e=true→e.on<j:=by
  intro j oj hj e he hb;have h1:=(z7 _ _ ▸ hall j oj hj:_∧_).1;have h2:=(Array.all_eq_true_iff_forall_mem.1 h1) e he;simpa [hb]using h2
 have hS:Pm .any os.toArray (fun j=>(Region.before os.toArray).toList.getD j 0):=by
  intro j oj hj i hb;have h3:=(z7 _ _ ▸ hall j oj hj:_∧_).2;have h5:(Region.before os.toArray).toList.getD j 0=oj.after.foldl (fun s e=>if Region.binds .any e then s ||| 2 ^ e.on ||| (Region.before os.toArray).toList.getD e.on 0 else s) 0:=by simpa using h3
  dsimp only at hb;rw[h5,← Array.foldl_toList]at hb;rcases Id _ _ _ _ hb with hb|⟨e,he,hbb,hh⟩;simp at hb;exact⟨e,Array.mem_toList_iff.1 he,hbb,hh⟩
 have hmem:∀x,x∈L0++h1::g1::r1↔x<os.length:=fun x=>by
  constructor
  intro hx;exact of_decide_eq_true (zm.1 hlt x hx)
  intro hx;have:=zm.1 hct x (List.mem_range.2 hx);simpa using this
 have hse:=Region.noSelect_spec hsel;have P2:∀ {l:List Nat},VX (IU os.toArray ks (Region.before os.toArray).toList) l=true→l.Pairwise (Fy .any os.toArray (fun i=>ks.getD i 0) (fun j=>(Region.before os.toArray).toList.getD j 0)):=fun h=>Lg (fun x y hh=>GN hh) h;have N2:∀ {l:List Nat},VX (fun x y=>!(decide (4≤ks.getD x 0)) || ks.getD y 0 != 1) l=true→l.Pairwise (fun x y=>4≤ks.getD x 0→ks.getD y 0≠1):=fun h=>Lg (fun x y hxy h4=>by
  rcases Bool.or_eq_true_iff.1 hxy with hh|hh;simp only[Bool.not_eq_true',decide_eq_false_iff_not]at hh;exact absurd h4 hh;simpa using hh) h
 have hL2:∀x∈L0,ks.getD x 0≤2:=fun x hx=>of_decide_eq_true (zm.1 hl x hx);have hx4:∀x∈L0,_:=fun x hx=>zm.1 hpx x hx;simp only[z7]at hx4;have hordP:(L0++h1::g1::r1).Pairwise (fun x y=>∀ox,os.toArray[x]? = some ox→∀e∈ox.after,Region.binds .any e=true→e.on≠y):=Lg (fun x y hh ox hox e he hb=>by
  unfold UV at hh;rw[hox]at hh;have:=(Array.all_eq_true_iff_forall_mem.1 hh) e he;simpa [hb]using this) hord
 have hord2:(L0++g1::r1).Pairwise (fun x y=>∀ox,os.toArray[x]? = some ox→∀e∈ox.after,Region.binds .any e=true→e.on≠y):=hordP.sublist (List.Sublist.append_left (List.sublist_cons_self _ _) _);have zz1:∀z∈g1::r1,z=h2∨((Region.before os.toArray).toList.getD z 0).testBit h1=true∨((Region.before os.toArray).toList.getD z 0).testBit h2=true:=fun z hz=>by
  have:=zm.1 hz1 z hz;simpa only[Bool.or_eq_true,decide_eq_true_eq]using this
 have zz2:∀z∈r1,z=g2∨((Region.before os.toArray).toList.getD z 0).testBit g1=true∨((Region.before os.toArray).toList.getD z 0).testBit g2=true:=fun z hz=>by
  have:=zm.1 hz2 z hz;simpa only[Bool.or_eq_true,decide_eq_true_eq]using this
 have base1:=NX (P:=P) (w0:=w.drew) (Q:=fun a w=>Q .normal a w) hse hS hlex (P2 hb1)<|N2 hn1;have base2:=NX (P:=P) (w0:=w.drew) (Q:=fun a w=>Q .normal a w) hse hS hlex (P2 hb2)<|N2 hn2;have base3:=NX (P:=P) (w0:=w.drew) (Q:=fun a w=>Q .normal a w) hse hS hlex (P2 hb3)<|N2 hn3;have inner:=M9 (P:=P) (w0:=w.drew) (Q:=fun a w=>Q .normal a w) hse hS hlex (h1:=g1) (h2:=g2) (S1:=r1) (S2:=r2) (List.isPerm_iff.1 hpe2) hk3 hk4 hL2 (P2 hpL) (fun x hx=>GN (hx4 x hx).2.2.1) (fun x hx=>GN (hx4 x hx).2.2.2) zz2 hord2 base1 base2;have outer:=M9 (P:=P) (w0:=w.drew) (Q:=fun a w=>Q .normal a w) hse hS hlex (h1:=h1) (h2:=h2) (S1:=g1::r1) (S2:=r3) (List.isPerm_iff.1 hpe1) hk1 hk2 hL2 (P2 hpL) (fun x hx=>GN (hx4 x hx).1) (fun x hx=>GN (hx4 x hx).2.1) zz1 hordP inner base3;have key:=outer os.length L0 (Array.replicate os.length false) a w.drew ⟨List.Sublist.refl _,by rw[← hln,z4],fun x=>?_,by simp,?_,fun _=>AI.refl _,hnd⟩ ?_;have:=Kv _ _ _ _ key;simpa using this;rw[hmem];constructor
 intro hx;simp[hx]
 intro hh;rcases Nat.lt_or_ge x os.length with h'|h';exact h';simp[Array.getElem?_eq_none (show(Array.replicate os.length false).size≤x by simpa using h')]at hh
 intro i hi;rcases Nat.lt_or_ge i os.length with h'|h';simp[h']at hi;simp[Array.getElem?_eq_none (show(Array.replicate os.length false).size≤i by simpa using h')]at hi;refine EO (fun a w hh=>⟨?_,?_⟩) _ _ _ _ _ hML h;exact EO (fun a w hh=>⟨Qp _ _ _ _<|EO (fun _ _ h=>h) _ _ _ _ _ hM1 hh.1,Qp _ _ _ _<|EO (fun _ _ h=>h) _ _ _ _ _ hM2 hh.2⟩) _ _ _ _ _ hMh hh.1;exact Qp _ _ _ _<|EO (fun _ _ h=>h) _ _ _ _ _ hM3 hh.2
theorem s4 {ops:Array Oper}{w0:World}{Q:Act→World→Prop}{o:Oper}{os:List Oper}{ks:List Nat}{a:Act}{w:World}(h:_root_.Go.Proofs.YtemfgblmfahllaaGreat.LW P ops w0 (fun a' w'=>AI w w'∧LW P ops w0 Q os ks a' w') [o] [4] a w):LW P ops w0 Q (o::os) (3::ks) a w:=by simp only[_root_.Go.Proofs.YtemfgblmfahllaaGreat.LW]at h;simp only[LW];split;rename_i hw;rw[if_pos hw]at h;unfold _root_.Go.Proofs.YtemfgblmfahllaaGreat.Cb at h;unfold Cb;rw[if_neg (by decide),if_neg (by decide)]at h;rw[if_neg (by decide),if_pos rfl];exact h;rename_i hw;rw[if_neg hw]at h;exact h.2
theorem qF {ops:Array Oper}{w0:World}{Q:Act→World→Prop}{o:Oper}{os:List Oper}{ks:List Nat}{a:Act}{w:World}(h:_root_.Go.Proofs.YtemfgblmfahllaaGreat.LW P ops w0 (fun a' w'=>LW P ops w0 Q os ks a' w') [o] [3] a w):LW P ops w0 Q (o::os) (3::ks) a w:=by simp only[_root_.Go.Proofs.YtemfgblmfahllaaGreat.LW]at h;simp only[LW];split;rename_i hw;rw[if_pos hw]at h;unfold _root_.Go.Proofs.YtemfgblmfahllaaGreat.Cb at h;unfold Cb;rw[if_neg (by decide),if_pos rfl]at h;rw[if_neg (by decide),if_pos rfl];exact Oper.wp_mono (fun a w hh=>⟨J.ext hh.1,hh.2⟩) h;rename_i hw;rw[if_neg hw]at h;exact h
end
end Jx
end
section
structure AD where
 op:Int
 a:Int
 b:Int
 num:Int
def AD.zero:AD:=⟨0,0,0,0⟩
structure Ja where
 reg:Int
 z:Bool
def Ja.zero:Ja:=⟨0,false⟩
structure Tp where
 code:List AD
 grd:List Ja
 vals:List Int
def mM (x:AD):List Value:=[.int .i64 x.op,.int .i64 x.a,.int .i64 x.b,.int .i64 x.num]
def mN (x:Ja):List Value:=[.int .i64 x.reg,.bool x.z]
def TF (x:AD):Prop:=Bw x.op∧Bw x.a∧Bw x.b∧Bw x.num
def P1:BS AD:=fun _ cs x F=>cs=mM x∧TF x∧F=[]
def Pc:BS Ja:=fun _ cs x F=>cs=mN x∧Bw x.reg∧F=[]
theorem AX:Ct 4 P1 where
 len:=fun h=>by rw[h.1];rfl
 one:=fun h u hu=>by
  rw[h.1]at hu
  simp only[mM,ze,z2,or_false]at hu
  rcases hu with rfl|rfl|rfl|rfl <;> exact⟨rfl,rfl⟩
 lt:=fun h b hb=>by rw[h.2.2]at hb;cases hb
 stable:=fun h _=>h
theorem Bg:Ct 2 Pc where
 len:=fun h=>by rw[h.1];rfl
 one:=fun h u hu=>by
  rw[h.1]at hu
  simp only[mN,ze,z2,or_false]at hu
  rcases hu with rfl|rfl <;> exact⟨rfl,rfl⟩
 lt:=fun h b hb=>by rw[h.2.2]at hb;cases hb
 stable:=fun h _=>h
theorem TG {B U:Nat}{H:Array Obj}{x:AD}(h:TF x):P7 P1 B U H (mM x) x:=⟨[],⟨rfl,h,rfl⟩,zk,fun b hb=>by cases hb⟩
theorem Yj {B U:Nat}{H:Array Obj}{x:Ja}(h:Bw x.reg):P7 Pc B U H (mN x) x:=⟨[],⟨rfl,h,rfl⟩,zk,fun b hb=>by cases hb⟩
section ops
variable {P:Program} {ops:Array Oper} {w0:World} {Q:Act→World→Prop} {os:List Oper} {ks:List Nat} {N:Nat} {ρ:Nat→Value} {w:World}
 {d:Nat} {ty:TypeId} {pos:String} {aft:Array Edge} {g:Option (Nat×Bool)} {t e:TypeId} {z:Value} {b s:Nat}
theorem Ma {α:Type}{E:BS α}(hE:Ct s E){x y:Operand}{v a:Value}{xs:List α}{y0:α}{B T B' U':Nat}{F:List Nat}(ht:P.underlying t=some (.slice e))(hi:TI P e s z b)(hz:z.cells.size=s)(hs:0<s)(hx:Bk N ρ x=v)(hy:Bk N ρ y=a)(hv:Ow (Dt s E e) B T w.heap v xs F)
  (ha:Fr (Dt s E e) B' U' w.heap a [y0]) (hT:T≤B') (hB:B≤B') (hBw:B≤w.heap.size) (hbytes:(xs.length+1)*b≤140737488355328) (hmx:xs.length+1≤maxLen) (hu:Up ops N ρ ⟨some d,.call ⟨.builtin .append,#[x,y],#[t,t]⟩,ty,pos,aft,g⟩)
  (h:∀v1 w1 F1,AF F w w1→Ow (Dt s E e) B w1.heap.size w1.heap v1 (xs++[y0]) F1→(∀c∈F1,c∈F∨(B'≤c∧c<U')∨w.heap.size≤c)→LW P ops w0 Q os ks (mk N (Ch ρ d v1)) w1) :
  LW P ops w0 Q (⟨some d,.call ⟨.builtin .append,#[x,y],#[t,t]⟩,ty,pos,aft,g⟩::os) (4::ks) (mk N ρ) w:=by
 obtain⟨v1,w1,F0,r1,⟨F1,r2,r3,r4⟩,r5,r6⟩:=NF (P:=P) (ty:=ty) hE ht hi hz hs (S:=fun b=>b∈F) (T:=fun b=>B'≤b∧b<U') ⟨F,hv.own,hv.nodup,fun _ h=>h⟩ ha (fun b h1 h2=>by have:=hv.high b h1;omega) hbytes hmx;have hh:∀c∈F1,c∈F∨(B'≤c∧c<U')∨w.heap.size≤c:=fun c hc=>by
  rcases r4 c hc with h|h|h;exact .inl h;exact .inr<|.inl h;exact .inr<|.inr<|Nat.le_of_eq h.symm
 exact IV rfl hu v1 w1 (by simp only[execOp,resolve,invoke,builtin,zc,zf,zh,Sem.run_bind,Sem.run_pure,Result.andThen_ok,hx,hy,r1])
  (h v1 w1 F1 (r5.sub r6) ⟨r2,r3,fun c hc=>by
   rcases hh c hc with h|h|h;exact hv.low c h;omega;omega,fun c hc=>(Aj hE).lt r2 c hc⟩ hh)
theorem Gk {x y:Operand}{v a:Value}{xs ys:List Int}{B T:Nat}{F:List Nat}(ht:P.underlying t=some (.slice e))(hi:TI P e 1 z b)(hz:z.cells=#[z])(hx:Bk N ρ x=v)(hy:Bk N ρ y=a)(hv:Ow (By rI e) B T w.heap v xs F)
  (ha:Rd (B8 rI) w.heap a ys) (hB:B≤w.heap.size) (hbytes:(xs.length+ys.length)*b≤140737488355328) (hmx:xs.length+ys.length≤maxLen) (hu:Up ops N ρ ⟨some d,.call ⟨.builtin .append,#[x,y],#[t,t]⟩,ty,pos,aft,g⟩)
  (h:∀v1 w1 F1,AF F w w1→Ow (By rI e) B w1.heap.size w1.heap v1 (xs++ys) F1→(∀c∈F1,c∈F∨w.heap.size≤c)→LW P ops w0 Q os ks (mk N (Ch ρ d v1)) w1) :
  LW P ops w0 Q (⟨some d,.call ⟨.builtin .append,#[x,y],#[t,t]⟩,ty,pos,aft,g⟩::os) (4::ks) (mk N ρ) w:=by
 obtain⟨G,g1⟩:=ha;have hG:G.drop 1=[]:=by
  rcases g1 with⟨_,_,_,_,rfl⟩|⟨us,g,off,cap,cur,e',fr,G',hels,_,_,_,_,rfl⟩;rfl;exact Kx hels
 obtain⟨v',w',F',r1,r2,r3,r4,r5⟩:=Lh (P:=P) (ty:=ty) Ay ht hi hz hv.own hv.nodup g1 rfl hbytes hmx (fun c hc=>by rw[hG]at hc;cases hc) (by rw[hG];exact zk);have hh:∀c∈F',c∈F∨w.heap.size≤c:=fun c hc=>by
  rcases r4 c hc with h|h|h;exact .inl h;rw[hG]at h;cases h;exact .inr<|Nat.le_of_eq h.symm
 exact IV rfl hu v' w' (by simp only[execOp,resolve,invoke,builtin,zc,zf,zh,Sem.run_bind,Sem.run_pure,Result.andThen_ok,hx,hy,r1])
  (h v' w' F' (r5.sub fun c hc=>zj hc) ⟨r2,r3,fun c hc=>by
   rcases hh c hc with h|h;exact hv.low c h;omega,fun c hc=>(B3 Ay).lt r2 c hc⟩ hh)
theorem cA {x y:Operand} {v a u:Value} {xs:List Int} {r:Int} {S:List Nat} {B' U':Nat} (ht:P.underlying t = some (.slice e)) (hi:TI P e 1 z b) (hz:z.cells = #[z]) (hx:Bk N ρ x = EP v) (hy:Bk N ρ y = a)
  (hv:RN S (B8 rI) w.heap v xs) (ha:Fr (By rV e) B' U' w.heap a [u]) (hr:RN S rI w.heap u r) (hS:∀ c∈S,c < w.heap.size) (hbytes:(xs.length + 1) * b≤140737488355328) (hmx:xs.length + 1≤maxLen)
  (hu:Up ops N ρ ⟨some d,.call ⟨.builtin .append,#[x,y],#[t,t]⟩,ty,pos,aft,g⟩)
  (h:∀ v1 w1,AI w w1→RN S (B8 rI) w1.heap v1 (xs++[r])→Cx v1→LW P ops w0 Q os ks (mk N (Ch ρ d v1)) w1) :
  LW P ops w0 Q (⟨some d,.call ⟨.builtin .append,#[x,y],#[t,t]⟩,ty,pos,aft,g⟩ :: os) (4 :: ks) (mk N ρ) w:=by
 obtain ⟨G,g1',g2',g3'⟩:=ha;obtain ⟨K,k1,k2⟩:=hv;obtain ⟨R,r1,r2⟩:=hr;obtain ⟨i,h1,h2,h3,h4⟩:=hi.get;subst h4;have hone:=Ay.one r1;rcases g1' with ⟨_,hc,_⟩ | ⟨asq,ga,capa,cura,Fa,helsa,hav,hga,qa1,qa2,qa3,qa4,rfl⟩;cases hc
 ·obtain ⟨hq,hFa⟩:=Hf helsa;subst hq;subst hav;have hnews:∀ j q,[u][j]? = some q→w.cell? ((⟨ga,0,none⟩:Addr).add j) = some q:=by
   intro j q hj;rw [GQ,BY];simp only [Cv,hga];rw [← qa4,List.getElem?_take] at hj;split at hj;simpa using hj;cases hj
  have made:∀ (w1:World) (ous:List Value) (K0:List Nat) (rest:Nat),w1.heap = w.heap→w1.os = w.os→w1.tape = w.tape→w1.output = w.output→els rI w.heap ous xs K0→(∀ c∈K0,c∈K)→xs.length + 1 + rest≤maxLen →
    AI w (w1.alloc (.cells (ous.toArray++[u].toArray++Builtin.zeroCells z.cells rest) e))∧RN S (B8 rI) (w1.alloc (.cells (ous.toArray++[u].toArray++Builtin.zeroCells z.cells rest) e)).heap (.slice (some ⟨w.heap.size,0,none⟩) (xs.length + 1) (xs.length + 1 + rest)) (xs++[r]):=by
   intro w1 ous K0 rest hh ho htp hop hou hsub hmax;have hE:AI w (w1.alloc (.cells (ous.toArray++[u].toArray++Builtin.zeroCells z.cells rest) e)):=by
    refine ⟨ho,htp,hop,?_,fun k hk=>?_⟩;show w.heap.size≤(w1.heap.push _).size;rw [hh]; simp;have:=Below.heap_alloc w1 (.cells (ous.toArray++[u].toArray++Builtin.zeroCells z.cells rest) e) k (by rw [hh]; exact hk);rw [this,hh]
   refine ⟨hE,w.heap.size :: (K0++R),.inr ⟨ous++[u],w.heap.size,0,xs.length + 1 + rest,(ous.toArray++[u].toArray++Builtin.zeroCells z.cells rest),e,(0,0),K0++R,?_,by simp,?_,?_,by simp; omega,rfl⟩,?_⟩;refine els.stable Ay (hou.append (show els rI w.heap [u] [r] R from ⟨R,[],by simp,r1,rfl⟩)) fun c hc=>hE.heap ?_;exact (hou.append (show els rI w.heap [u] [r] R from ⟨R,[],by simp,r1,rfl⟩)).lt Ay c hc;have:=heap_alloc_new w1 (.cells (ous.toArray++[u].toArray++Builtin.zeroCells z.cells rest) e);rw [hh] at this; exact this;have hl:=hou.length;simp only [Array.toList_append,List.drop_zero];rw [show (xs++[r]).length = (ous++[u]).length from by simp [hl]];exact List.take_left
   intro c hc hm;rcases ze.1 hc with rfl | hc;have:=hS _ hm; omega;rcases zi.1 hc with hc | hc;exact k2 c (hsub c hc) hm;exact r2 c hc hm
  have hone1:[u].length = [u].length * i.size:=by rw [h3,Nat.mul_one]
  rcases k1 with ⟨a0,cap0,rfl,rfl,rfl⟩ | ⟨ous,gv,off,cap,cur,e',fr,K',hels,rfl,hg,hw,_,rfl⟩
  ·-- nothing so far
   cases a0 with
   | none =>
    have hrr:=run_append_nil (P:=P) w t ty e i z ht h1 h2 ⟨ga,0,none⟩ 1 capa [u] hone1 hnews (by decide) (by decide) (by simp at hbytes; omega);have hge:=grownCap_ge w 1 0 e;have hgm:=grownCap_le_maxLen w 1 0 e (by simpa using hmx);obtain ⟨q1,q2⟩:=made w.drew [] [] (grownCap w 1 0 e - 1) rfl rfl rfl rfl rfl (fun c hc=>by cases hc) (by simp; omega);refine IV rfl hu _ _ (by simp only [execOp,resolve,invoke,builtin,zc,zf,zh,Sem.run_bind,Sem.run_pure,Result.andThen_ok,hx,hy,EP]; rw [show [u].length = 1 from rfl,hrr]; rfl)<|h _ _ ?_ ?_ ?_;simpa using q1;have ea:(([]:List Int).length + 1 + (grownCap w 1 0 e - 1)) = grownCap w 1 0 e:=by simp; omega
    rw [ea] at q2;simpa using q2;exact hge
   | some a1 =>
    have hrr:=run_append_grow (P:=P) w t ty e i z ht h1 h2 a1 0 0 [] (by rw [h3]; rfl) (by intro j q hj; cases hj) ⟨ga,0,none⟩ 1 capa [u] hone1 hnews zO (by decide)<|growslice_fits zO (by simpa using hbytes);have hge:=grownCap_ge w (0 + 1) 0 e;have hgm:=grownCap_le_maxLen w (0 + 1) 0 e (by simpa using hmx);obtain ⟨q1,q2⟩:=made w.drew [] [] (grownCap w (0 + 1) 0 e - (0 + 1)) rfl rfl rfl rfl rfl (fun c hc=>by cases hc) (by show 0 + 1 + (grownCap w (0 + 1) 0 e - (0 + 1))≤maxLen; omega);refine IV rfl hu _ _ (by simp only [execOp,resolve,invoke,builtin,zc,zf,zh,Sem.run_bind,Sem.run_pure,Result.andThen_ok,hx,hy,EP]; rw [show [u].length = 1 from rfl,hrr]; rfl)<|h _ _ q1 ?_ ?_;rotate_left;exact hge;have ea:(([]:List Int).length + 1 + (grownCap w (0 + 1) 0 e - (0 + 1))) = grownCap w (0 + 1) 0 e:=by show 0 + 1 + (grownCap w (0 + 1) 0 e - (0 + 1)) = _; omega
    rw [ea] at q2;simpa using q2
  ·have holds:∀ j q,ous[j]? = some q→w.cell? ((⟨gv,off,none⟩:Addr).add j) = some q:=by
    intro j q hj;rw [GQ,BY];simp only [Cv,hg];rw [← hw,List.getElem?_take] at hj;split at hj;rw [List.getElem?_drop] at hj; simpa using hj;cases hj
   have hrr:=run_append_grow (P:=P) w t ty e i z ht h1 h2 ⟨gv,off,none⟩ xs.length xs.length ous (by rw [h3,hels.length]; omega) holds ⟨ga,0,none⟩ 1 capa [u] hone1 hnews zO (by simp only [maxLen] at hmx; omega)<|growslice_fits zO hbytes;have hge:=grownCap_ge w (xs.length + 1) xs.length e;have hgm:=grownCap_le_maxLen w (xs.length + 1) xs.length e hmx;obtain ⟨q1,q2⟩:=made w.drew ous K' (grownCap w (xs.length + 1) xs.length e - (xs.length + 1)) rfl rfl rfl rfl hels (fun c hc=>z3 _ hc) zO;refine IV rfl hu _ _ (by simp only [execOp,resolve,invoke,builtin,zc,zf,zh,Sem.run_bind,Sem.run_pure,Result.andThen_ok,hx,hy,EP]; rw [show [u].length = 1 from rfl,hrr]; rfl)<|h _ _ q1 ?_ ?_;rotate_left;exact hge;have ea:(xs.length + 1 + (grownCap w (xs.length + 1) xs.length e - (xs.length + 1))) = grownCap w (xs.length + 1) xs.length e:=by omega
   rw [ea] at q2;exact q2
end ops
def Cp (t1 t2 t3:TypeId)(S:List Nat)(g:Nat)(H:Array Obj)(vc vg vv:Value)(T:Tp):Prop :=
 ∃Fc Fg Fv,Ow (Dt 4 P1 t1) 0 H.size H vc T.code Fc∧Ow (Dt 2 Pc t2) 0 H.size H vg T.grd Fg∧Ow (By rI t3) 0 H.size H vv T.vals Fv ∧
  ((∀b∈Fc,b∉Fg)∧(∀b∈Fc,b∉Fv)∧(∀b∈Fg,b∉Fv))∧(g∉Fc∧g∉Fg∧g∉Fv)∧(∀b∈Fc,b∈S)∧(∀b∈Fg,b∈S)∧(∀b∈Fv,b∈S)
section rcm
variable {t1 t2 t3:TypeId} {S S':List Nat} {g:Nat} {w w':World} {vc vg vv:Value} {T:Tp}
theorem Ow.chgS {α:Type}{E:BL α}(hE:CA E){B:Nat}{v:Value}{x:α}{F G:List Nat}(h:Ow E B w.heap.size w.heap v x F)(c:AF G w w')(hG:∀b∈G,b∉F):Ow E B w'.heap.size w'.heap v x F:=(h.keep hE c hG).up c.size
theorem Cp.ext (h:Cp t1 t2 t3 S g w.heap vc vg vv T)(k:AI w w'):Cp t1 t2 t3 S g w'.heap vc vg vv T:=by obtain⟨Fc,Fg,Fv,h1,h2,h3,h4⟩:=h;exact⟨Fc,Fg,Fv,(h1.ext (Aj AX) k).up k.size,(h2.ext (Aj Bg) k).up k.size,(h3.ext (B3 Ay) k).up k.size,h4⟩
theorem Cp.chg (h:Cp t1 t2 t3 S g w.heap vc vg vv T)(k:AF [g] w w'):Cp t1 t2 t3 S g w'.heap vc vg vv T:=by
 obtain⟨Fc,Fg,Fv,h1,h2,h3,h4,h5,h6⟩:=h;exact⟨Fc,Fg,Fv,h1.chgS (Aj AX) k fun b hb hm=>by rw[A9 hb]at hm;exact h5.1 hm,h2.chgS (Aj Bg) k fun b hb hm=>by rw[A9 hb]at hm;exact h5.2.1 hm,
  h3.chgS (B3 Ay) k fun b hb hm=>by rw[A9 hb]at hm;exact h5.2.2 hm,h4,h5,h6⟩
theorem Cp.chgO {F:List Nat}(h:Cp t1 t2 t3 S g w.heap vc vg vv T)(k:AF F w w')(hF:∀b∈F,b∉S):Cp t1 t2 t3 S g w'.heap vc vg vv T:=by
 obtain⟨Fc,Fg,Fv,h1,h2,h3,h4,h5,h6⟩:=h;exact⟨Fc,Fg,Fv,h1.chgS (Aj AX) k fun b hb hm=>hF b hb (h6.1 b hm),h2.chgS (Aj Bg) k fun b hb hm=>hF b hb (h6.2.1 b hm),
  h3.chgS (B3 Ay) k fun b hb hm=>hF b hb (h6.2.2 b hm),h4,h5,h6⟩
theorem Cp.rdv (h:Cp t1 t2 t3 S g w.heap vc vg vv T):Rd (B8 rI) w.heap vv T.vals:=by obtain⟨Fc,Fg,Fv,h1,h2,h3,_⟩:=h;exact h3.fr.rd1
theorem Cp.slv (h:Cp t1 t2 t3 S g w.heap vc vg vv T):ES vv T.vals.length:=by obtain⟨Fc,Fg,Fv,h1,h2,h3,_⟩:=h;exact h3.fr.isSl
theorem Cp.slc (h:Cp t1 t2 t3 S g w.heap vc vg vv T):ES vc T.code.length:=by obtain⟨Fc,Fg,Fv,h1,h2,h3,_⟩:=h;exact h1.own.isSl
theorem Cp.slg (h:Cp t1 t2 t3 S g w.heap vc vg vv T):ES vg T.grd.length:=by obtain⟨Fc,Fg,Fv,h1,h2,h3,_⟩:=h;exact h2.own.isSl
end rcm
def Xo (t1 t2 t3:TypeId)(S:List Nat)(g:Nat)(H:Array Obj)(vp:Value)(ip:Int)(T:Tp)(s:Nat)(c:Int):Prop :=
 ∃vc vg vv,BX H g [vp,.int .i64 ip,vc,vg,.slice none 0 0,vv,.int .i64 ((s:Nat):Int),.int .i64 c]∧Cp t1 t2 t3 S g H vc vg vv T
theorem RN.stp {α:Type}{E:BL α}(hE:CA E){S S':List Nat}{w w':World}{v:Value}{x:α}(h:RN S E w.heap v x)(c:AF S w w')(hs:∀b∈S',b∈S∨w.heap.size≤b):RN S' E w'.heap v x:=by obtain⟨F,h1,h2⟩:=h;refine⟨F,hE.stable h1 fun b hb=>c.block b (hE.lt h1 b hb) (h2 b hb),fun b hb hm=>?_⟩;rcases hs b hm with hh|hh;exact h2 b hb hh;have:=hE.lt h1 b hb;omega
theorem AF.stp {S S':List Nat}{a b c:World}(h:AF S a b)(k:AF S' b c)(hs:∀x∈S',x∈S∨a.heap.size≤x):AF S a c :=
 ⟨k.os.trans h.os,k.tape.trans h.tape,k.output.trans h.output,A8 h.size k.size,fun i hi hm=>(k.block i (Nat.lt_of_lt_of_le hi h.size) fun hh=>by
  rcases hs i hh with h9|h9
  exact hm h9
  omega).trans (h.block i hi hm)⟩
theorem TH {S S' S'':List Nat}{n m:Nat}(h:∀b∈S',b∈S∨n≤b)(k:∀b∈S'',b∈S'∨m≤b)(hn:n≤m):∀b∈S'',b∈S∨n≤b:=fun b hb=>by
 rcases k b hb with hh|hh
 exact h b hh
 exact .inr zO
end
section
def Tp.put (T:Tp)(c:AD)(v:Int):Tp:=⟨T.code++[c],T.grd,T.vals++[v]⟩
def Tp.guard (T:Tp)(r:Int)(z:Bool):Tp:=⟨T.code,T.grd++[⟨r,z⟩],T.vals⟩
def Tp.at (T:Tp)(r:Int):Int:=T.vals.getD r.toNat 0
abbrev RI:=Int×Tp
abbrev RL:=List Int×Tp
structure Cg where
 one:Nat→Nat→List Int→Nat→Tp→Rs RI
 all:Nat→List Int→Nat→Tp→Rs RL
def EL (f:List Int→Nat→Tp→Rs RL):Nat→List Int→Nat→Tp→Rs RL
 |0,a,s,T=>.ok (a,T) s
 |k+1,a,s,T=>(EL f k a s T).bind fun x t=>f x.1 t x.2
def IR (k x y:Int):Int:=if k=3 then md (x+y)else if k=4 then md (x-y)else if k=5 then md (x*y)else if k=7 then md (0-x)else md (x*inv y)
def IK (k:Int)(xs:List Int):AD:=⟨k,xs.getD 0 0,if k=7 then 0 else xs.getD 1 0,0⟩
def TJ (k:Int)(xs:List Int)(t:Nat)(T:Tp):Rs RI :=
 if k≠3∧k≠4∧k≠5∧k≠7∧T.at (IK k xs).b=0 then .err 6
 else .ok (((T.vals.length:Nat):Int),T.put (IK k xs) (IR k (T.at (IK k xs).a) (T.at (IK k xs).b))) t
mutual
def ET (C:Cg):Ex→List Int→Nat→Tp→Rs RI
 |.mk k num pick cnt l,env,s,T =>
  if 3000≤s then .err 7
  else if k=1 then .ok (((T.vals.length:Nat):Int),T.put ⟨2,0,0,num⟩ num) (s+1)
  else if k=2 then .ok (env.getD num.toNat 0,T) (s+1)
  else if k=8 then(PG C l 0 env (s+1) T).bind fun x t=>if x.2.at x.1=0 then PG C l 1 env t (x.2.guard x.1 true)else PG C l 2 env t (x.2.guard x.1 false)
  else if k=9 then(PG C l 0 env (s+1) T).bind fun x t=>PG C l 1 (env++[x.1]) t x.2
  else(Fe C l env (s+1) T).bind fun xs t =>
   if k=10 then C.one num.toNat pick.toNat xs.1 t xs.2
   else if k=11 then(EL (C.all num.toNat) cnt.toNat xs.1 t xs.2).bind fun ys u=>.ok (ys.1.getD pick.toNat 0,ys.2) u
   else TJ k xs.1 t xs.2
def PG (C:Cg):List Ex→Nat→List Int→Nat→Tp→Rs RI
 |[],_,_,_,_=>.err 0
 |e::_,0,env,s,T=>ET C e env s T
 |_::l,j+1,env,s,T=>PG C l j env s T
def Fe (C:Cg):List Ex→List Int→Nat→Tp→Rs RL
 |[],_,s,T=>.ok ([],T) s
 |e::l,env,s,T=>(ET C e env s T).bind fun x t=>(Fe C l env t x.2).bind fun xs u=>.ok (x.1::xs.1,xs.2) u
end
theorem En (C:Cg)(env:List Int)(s:Nat)(T:Tp):∀(l:List Ex)(j:Nat),j<l.length→PG C l j env s T=ET C (l.getD j Ex.zero) env s T
 |[],j,h=>by simp at h
 |e::l,0,_=>by rw[PG];rfl
 |e::l,j+1,h=>by rw[PG,En C env s T l j (by simpa using h)];simp
theorem NY (C:Cg)(env:List Int)(e:Ex):∀(l:List Ex)(s:Nat)(T:Tp),Fe C (l++[e]) env s T=(Fe C l env s T).bind fun xs t=>(ET C e env t xs.2).bind fun x u=>.ok (xs.1++[x.1],x.2) u
 |[],s,T=>by
  rw[zl,Fe,Fe]
  simp only[Rs.bind_ok]
  cases ET C e env s T <;> simp only[Rs.bind_ok,Rs.bind_err,Fe] <;> rfl
 |a::l,s,T=>by
  rw[List.cons_append,Fe,Fe]
  cases ET C a env s T with
  |err c=>rfl
  |ok x t =>
   simp only[Rs.bind_ok]
   rw[NY C env e l t]
   simp only[Rs.bind_assoc]
   cases Fe C l env t x.2 with
   |err c=>rfl
   |ok xs u =>
    simp only[Rs.bind_ok]
    cases ET C e env u xs.2 <;> rfl
theorem Sa {C:Cg}{env:List Int}{s:Nat}{T:Tp}{l:List Ex}{k:Nat}(hk:k<l.length):Fe C (l.take (k+1)) env s T=(Fe C (l.take k) env s T).bind fun xs t=>(ET C (l.getD k Ex.zero) env t xs.2).bind fun x u=>.ok (xs.1++[x.1],x.2) u:=by rw[List.take_succ_eq_append_getElem hk,NY];simp[hk]
theorem EM (C:Cg)(e:Ex)(env:List Int)(s:Nat)(T:Tp):ET C e env s T =
  if 3000≤s then .err 7
  else if e.kind=1 then .ok (((T.vals.length:Nat):Int),T.put ⟨2,0,0,e.num⟩ e.num) (s+1)
  else if e.kind=2 then .ok (env.getD e.num.toNat 0,T) (s+1)
  else if e.kind=8 then(PG C e.kids 0 env (s+1) T).bind fun x t=>if x.2.at x.1=0 then PG C e.kids 1 env t (x.2.guard x.1 true)else PG C e.kids 2 env t (x.2.guard x.1 false)
  else if e.kind=9 then(PG C e.kids 0 env (s+1) T).bind fun x t=>PG C e.kids 1 (env++[x.1]) t x.2
  else(Fe C e.kids env (s+1) T).bind fun xs t =>
   if e.kind=10 then C.one e.num.toNat e.pick.toNat xs.1 t xs.2
   else if e.kind=11 then(EL (C.all e.num.toNat) e.count.toNat xs.1 t xs.2).bind fun ys u=>.ok (ys.1.getD e.pick.toNat 0,ys.2) u
   else TJ e.kind xs.1 t xs.2:=by cases e;rw[ET];rfl
def I2 (p:List Fn):Nat→Cg
 |0=>⟨fun _ _ _ _ _=>.err 0,fun _ _ _ _=>.err 0⟩
 |k+1=>⟨fun f j a s T=>if f=k then ET (I2 p k) ((p.getD k Fn.zero).outs.getD j Ex.zero) a s T else(I2 p k).one f j a s T,
   fun f a s T=>if f=k then Fe (I2 p k) (p.getD k Fn.zero).outs a s T else(I2 p k).all f a s T⟩
theorem Nc {p:List Fn}{f j:Nat}{a:List Int}{s:Nat}{T:Tp}:∀ {F:Nat},f<F→(I2 p F).one f j a s T=ET (I2 p f) ((p.getD f Fn.zero).outs.getD j Ex.zero) a s T
 |0,h=>by omega
 |F+1,h=>by
  show(if f=F then _ else _)=_
  split
  rename_i e;rw[e]
  exact Nc zO
theorem Lo {p:List Fn}{f:Nat}{a:List Int}{s:Nat}{T:Tp}:∀ {F:Nat},f<F→(I2 p F).all f a s T=Fe (I2 p f) (p.getD f Fn.zero).outs a s T
 |0,h=>by omega
 |F+1,h=>by
  show(if f=F then _ else _)=_
  split
  rename_i e;rw[e]
  exact Lo zO
section
variable {C:Cg} {e:Ex} {env:List Int} {s s1 s2:Nat} {c c1 c2:Int} {T T1 T2:Tp} {x y:Int} {xs ys:List Int}
theorem cB {α:Type}{r:Rs α}{x:α}(hc:c≠0):AK (go c r) x s c:=AK.mk_err (Ea hc r) hc
theorem Xa {x:RI}(hc:c=0)(hs:s=3000):AK (go c (ET C e env s T)) x s1 7:=by subst hc;rw[Do,EM,if_pos (by omega)];exact AK.mk_err rfl (by decide)
theorem iZ (hc:c=0)(hs:s+1≤3000)(hk:e.kind=1):AK (go c (ET C e env s T)) (((T.vals.length:Nat):Int),T.put ⟨2,0,0,e.num⟩ e.num) (s+1) c:=by subst hc;rw[Do,EM,if_neg zO,if_pos hk];exact AK.mk_ok rfl
theorem jA (hc:c=0)(hs:s+1≤3000)(hk:e.kind=2):AK (go c (ET C e env s T)) (env.getD e.num.toNat 0,T) (s+1) c:=by subst hc;rw[Do,EM,if_neg zO,if_neg zO,if_pos hk];exact AK.mk_ok rfl
theorem jB {z:RI}(hc:c=0)(hs:s+1≤3000)(hk:e.kind=8)(hl:e.kids.length=3)(h1:AK (go c (ET C (e.kids.getD 0 Ex.zero) env (s+1) T)) (x,T1) s1 c1)(hc1:c1≠0):AK (go c (ET C e env s T)) z s2 c1:=by subst hc;rw[Do]at h1;rw[Do,EM,if_neg zO,if_neg zO,if_neg zO,if_pos hk,En _ _ _ _ _ _ zO,h1.bindE hc1];exact AK.mk_err rfl hc1
theorem jC (hc:c=0)(hs:s+1≤3000)(hk:e.kind=8)(hl:e.kids.length=3)(h1:AK (go c (ET C (e.kids.getD 0 Ex.zero) env (s+1) T)) (x,T1) s1 c1)(hc1:c1=0)(hx:T1.at x=0)
  (h2:AK (go c1 (ET C (e.kids.getD 1 Ex.zero) env s1 (T1.guard x (decide (T1.at x=0))))) (y,T2) s2 c2):AK (go c (ET C e env s T)) (y,T2) s2 c2:=by
 subst hc;subst hc1;rw[Do]at h1 h2;rw[Do,EM,if_neg zO,if_neg zO,if_neg zO,if_pos hk,En _ _ _ _ _ _ zO,h1.bindO];dsimp only;rw[A5 hx]at h2;rw[if_pos hx,En _ _ _ _ _ _ (by omega)];exact h2
theorem jD (hc:c=0)(hs:s+1≤3000)(hk:e.kind=8)(hl:e.kids.length=3)(h1:AK (go c (ET C (e.kids.getD 0 Ex.zero) env (s+1) T)) (x,T1) s1 c1)(hc1:c1=0)(hx:¬T1.at x=0)
  (h2:AK (go c1 (ET C (e.kids.getD 2 Ex.zero) env s1 (T1.guard x (decide (T1.at x=0))))) (y,T2) s2 c2):AK (go c (ET C e env s T)) (y,T2) s2 c2:=by
 subst hc;subst hc1;rw[Do]at h1 h2;rw[Do,EM,if_neg zO,if_neg zO,if_neg zO,if_pos hk,En _ _ _ _ _ _ zO,h1.bindO];dsimp only;rw[A6 hx]at h2;rw[if_neg hx,En _ _ _ _ _ _ (by omega)];exact h2
theorem jE (hc:c=0)(hs:s+1≤3000)(hk:e.kind=9)(hl:e.kids.length=2)(h1:AK (go c (ET C (e.kids.getD 0 Ex.zero) env (s+1) T)) (x,T1) s1 c1)
  (h2:AK (go c1 (ET C (e.kids.getD 1 Ex.zero) (env++[x]) s1 T1)) (y,T2) s2 c2):AK (go c (ET C e env s T)) (y,T2) s2 c2:=by
 subst hc;rw[Do,EM,if_neg zO,if_neg zO,if_neg zO,if_neg zO,if_pos hk,En _ _ _ _ _ _ (by omega)];rw[Do]at h1;by_cases h0:c1=0;subst h0;rw[h1.bindO,En _ _ _ _ _ _ (by omega)];exact h2;rw[h1.bindE h0];rw[Ea h0]at h2;exact h2
theorem Lp (hs:s+1≤3000)(h1:e.kind≠1)(h2:e.kind≠2)(h8:e.kind≠8)(h9:e.kind≠9):ET C e env s T=(Fe C e.kids env (s+1) T).bind fun xs t =>
  if e.kind=10 then C.one e.num.toNat e.pick.toNat xs.1 t xs.2
   else if e.kind=11 then(EL (C.all e.num.toNat) e.count.toNat xs.1 t xs.2).bind fun ys u=>.ok (ys.1.getD e.pick.toNat 0,ys.2) u
   else TJ e.kind xs.1 t xs.2:=by
 rw[EM,if_neg zO,if_neg h1,if_neg h2,if_neg h8,if_neg h9]
theorem Yk {z:RI}(hc:c=0)(hs:s+1≤3000)(h1:e.kind≠1)(h2:e.kind≠2)(h8:e.kind≠8)(h9:e.kind≠9)(hr:AK (go c (Fe C e.kids env (s+1) T)) (xs,T1) s1 c1)(hc1:c1≠0):AK (go c (ET C e env s T)) z s2 c1:=by subst hc;rw[Do]at hr ⊢;rw[Lp hs h1 h2 h8 h9,hr.bindE hc1];exact AK.mk_err rfl hc1
theorem cC {p:List Fn}{F:Nat}(hc:c=0)(hs:s+1≤3000)(hk:e.kind=10)(hF:e.num.toNat<F)(hr:AK (go c (Fe (I2 p F) e.kids env (s+1) T)) (xs,T1) s1 c1)(hc1:c1=0)
  (h2:AK (go c1 (ET (I2 p e.num.toNat) ((p.getD e.num.toNat Fn.zero).outs.getD e.pick.toNat Ex.zero) xs s1 T1)) (y,T2) s2 c2):AK (go c (ET (I2 p F) e env s T)) (y,T2) s2 c2:=by
 subst hc;subst hc1;rw[Do]at hr h2 ⊢;rw[Lp hs zO zO zO zO,hr.bindO,if_pos hk,Nc hF];exact h2
theorem cD {p:List Fn}{F:Nat}(hc:c=0)(hs:s+1≤3000)(hk:e.kind=11)(hF:e.num.toNat<F)(hr:AK (go c (Fe (I2 p F) e.kids env (s+1) T)) (xs,T1) s1 c1)(hc1:c1=0)
  (h2:AK (EL (fun a t U=>Fe (I2 p e.num.toNat) (p.getD e.num.toNat Fn.zero).outs a t U) e.count.toNat xs s1 T1) (ys,T2) s2 c2):AK (go c (ET (I2 p F) e env s T)) (ys.getD e.pick.toNat 0,T2) s2 c2:=by
 subst hc;subst hc1;rw[Do]at hr ⊢;rw[Lp hs zO zO zO zO,hr.bindO,if_neg zO,if_pos hk];have hl:(I2 p F).all e.num.toNat=fun a t U=>Fe (I2 p e.num.toNat) (p.getD e.num.toNat Fn.zero).outs a t U:=funext fun a=>funext fun t=>funext fun U=>Lo hF;rw[hl];by_cases h0:c2=0;subst h0;rw[h2.bindO];exact AK.mk_ok rfl;rw[h2.bindE h0];exact AK.mk_err rfl h0
theorem mO {z:RI}(hc:c=0)(hs:s+1≤3000)(h1:e.kind≠1)(h2:e.kind≠2)(h8:e.kind≠8)(h9:e.kind≠9)(h10:e.kind≠10)(h11:e.kind≠11)(hr:AK (go c (Fe C e.kids env (s+1) T)) (xs,T1) s1 c1)(hc1:c1=0)
  (h:AK (go c1 (TJ e.kind xs s1 T1)) z s2 c2):AK (go c (ET C e env s T)) z s2 c2:=by
 subst hc;subst hc1;rw[Do]at hr h ⊢;rw[Lp hs h1 h2 h8 h9,hr.bindO,if_neg h10,if_neg h11];exact h
theorem NZ (C:Cg)(l:List Ex)(env:List Int)(s:Nat)(T:Tp)(c:Int):AK (go c (Fe C (l.take 0) env s T)) ([],T) s c:=by rw[List.take_zero,Fe];by_cases h:c=0;subst h;exact AK.mk_ok rfl;exact AK.mk_err (Ea h _) h
theorem cE {l:List Ex}{k:Nat}(hk:k<l.length)(h:AK (go c (Fe C (l.take k) env s T)) (xs,T1) s1 c1)(h2:AK (go c1 (ET C (l.getD k Ex.zero) env s1 T1)) (x,T2) s2 c2) :
  AK (go c (Fe C (l.take (k+1)) env s T)) (xs++[x],T2) s2 c2:=by
 by_cases hc:c=0;subst hc;rw[Do]at h ⊢;rw[Sa hk];by_cases h0:c1=0;subst h0;rw[Do]at h2;rw[h.bindO];by_cases h9:c2=0;subst h9;rw[h2.bindO];exact AK.mk_ok rfl;rw[h2.bindE h9];exact AK.mk_err rfl h9;rw[h.bindE h0];rw[Ea h0]at h2;have:=h2.1;exact AK.mk_err (by rw[this]) (this ▸ h0);rw[Ea hc]at h ⊢;have h3:=h.1;subst h3;rw[Ea hc]at h2;exact AK.mk_err (by rw[h2.1]) (h2.1 ▸ hc)
theorem jF {f:List Int→Nat→Tp→Rs RL}{k:Nat}(h:AK (EL f k xs s T) (ys,T1) s1 c1)(hc:c1=0){zsq:RL}(h2:AK (go c1 (f ys s1 T1)) zsq s2 c2):AK (EL f (k+1) xs s T) zsq s2 c2:=by subst hc;show AK ((EL f k xs s T).bind _) _ _ _;rw[h.bindO];rw[Do]at h2;exact h2
theorem Sb {f:List Int→Nat→Tp→Rs RL}{d:Int}:∀ {m k:Nat},EL f k xs s T=.err d→k≤m→EL f m xs s T=.err d
 |0,k,h,hk=>by
  have:k=0:=by omega
  subst this;exact h
 |m+1,k,h,hk=>by
  by_cases e:k=m+1
  subst e;exact h
  show(EL f m xs s T).bind _=_
  rw[Sb h (by omega)];rfl
theorem cF {f:List Int→Nat→Tp→Rs RL}{k m:Nat}{zsq:RL}(h:AK (EL f k xs s T) zsq s1 c1)(hk:k≤m)(hs:k=m∨c1≠0):AK (EL f m xs s T) zsq s1 c1:=by by_cases hc:c1=0;rcases hs with rfl|hh;exact h;exact absurd hc hh;exact AK.mk_err (Sb (h.err hc) hk) hc
end
def Hj (T:Tp)(s:Nat):Prop:=T.code.length=T.vals.length∧T.vals.length≤12+s∧T.grd.length≤s∧Bl T.vals=true
theorem Hj.put {T:Tp}{s:Nat}(h:Hj T s)(c:AD){v:Int}(hv:0≤v∧v<1000003):Hj (T.put c v) (s+1):=by obtain⟨h1,h2,h3,h4⟩:=h;unfold Tp.put;refine⟨by simp[h1],by simp;omega,by simp;omega,?_⟩;unfold Bl at h4 ⊢;rw[List.all_append,h4];simp[Dk.2 hv]
theorem Hj.guard {T:Tp}{s:Nat}(h:Hj T s)(r:Int)(z:Bool)(hg:T.grd.length+1≤s):Hj (T.guard r z) s:=by obtain⟨h1,h2,h3,h4⟩:=h;exact⟨h1,h2,by show(T.grd++[_]).length≤s;simp;omega,h4⟩
theorem Hj.up {T:Tp}{s s':Nat}(h:Hj T s)(hs:s≤s'):Hj T s':=⟨h.1,by have:=h.2.1;omega,by have:=h.2.2.1;omega,h.2.2.2⟩
theorem Hj.dn {T:Tp}{s s':Nat}(h:Hj T s)(hv:T.vals.length≤12+s')(hg:T.grd.length≤s'):Hj T s':=⟨h.1,hv,hg,h.2.2.2⟩
theorem Hj.ln {T:Tp}{s:Nat}(h:Hj T s)(hs:s≤3000):T.code.length≤4000∧T.vals.length≤4000:=by have:=h.1;have:=h.2.1;omega
abbrev H8 (k b:Int):Prop:=k≠3∧k≠4∧k≠5∧k≠7∧b=0
section
variable {k a b:Int}
theorem Yl (h:k=3):(if H8 k b then 0 else IR k a b)=md (a+b)∧(!decide (H8 k b))=true:=by subst h;exact⟨rfl,rfl⟩
theorem Ym (h:k=4):(if H8 k b then 0 else IR k a b)=md (a-b)∧(!decide (H8 k b))=true:=by subst h;exact⟨rfl,rfl⟩
theorem Yn (h:k=5):(if H8 k b then 0 else IR k a b)=md (a*b)∧(!decide (H8 k b))=true:=by subst h;exact⟨rfl,rfl⟩
theorem Yo (h:k=7):(if H8 k b then 0 else IR k a b)=md (0-a)∧(!decide (H8 k b))=true:=by subst h;exact⟨rfl,rfl⟩
theorem UW (h:k≠3∧k≠4∧k≠5∧k≠7)(hb:b=0):(if H8 k b then 0 else IR k a b)=0∧(!decide (H8 k b))=false:=by have hz:H8 k b:=⟨h.1,h.2.1,h.2.2.1,h.2.2.2,hb⟩;rw[if_pos hz,A5 hz];exact⟨rfl,rfl⟩
theorem Yp (h:k≠3∧k≠4∧k≠5∧k≠7)(hb:b≠0):(if H8 k b then 0 else IR k a b)=md (a*inv b)∧(!decide (H8 k b))=true:=by have hz:¬H8 k b:=fun h9=>hb h9.2.2.2.2;rw[if_neg hz,A6 hz];refine⟨?_,rfl⟩;unfold IR;rw[if_neg h.1,if_neg h.2.1,if_neg h.2.2.1,if_neg h.2.2.2]
theorem Lq (k a b:Int):0≤IR k a b∧IR k a b<1000003:=by unfold IR;split <;> (try split) <;> (try split) <;> (try split) <;> exact CU _
end
theorem Jb {k:Int}{xs:List Int}{T:Tp}{t:Nat}(h:¬H8 k (T.at (IK k xs).b)):TJ k xs t T=.ok (((T.vals.length:Nat):Int),T.put (IK k xs) (IR k (T.at (IK k xs).a) (T.at (IK k xs).b))) t:=if_neg h
theorem Qq {k:Int}{xs:List Int}{T:Tp}{t:Nat}(h:H8 k (T.at (IK k xs).b)):TJ k xs t T=.err 6:=if_pos h
theorem mP {α:Type}{r:Rs α}{x:α}{s:Nat}{c c1:Int}(h:AK (go c r) x s c1)(h1:c1=0):c=0:=by by_cases hc:c=0;exact hc;rw[Ea hc]at h;have:=h.1;omega
theorem UX (k a b:Int):0≤(if H8 k b then 0 else IR k a b)∧(if H8 k b then 0 else IR k a b)<1000003:=by have:=Lq k a b;split <;> omega
theorem mQ {Q:Prop} [Decidable Q] (h:(!(!decide Q))=true):Q:=by simpa using h
theorem qG {Q:Prop} [Decidable Q] (h:(!(!decide Q))=false):¬Q:=by simpa using h
theorem Hz {k:Int}{xs:List Int}(h:k≠7):IK k xs=⟨k,xs.getD 0 0,xs.getD 1 0,0⟩:=by unfold IK;rw[if_neg h]
theorem TK {k:Int}{xs:List Int}(h:k=7):IK k xs=⟨k,xs.getD 0 0,0,0⟩:=by unfold IK;rw[if_pos h]
theorem cG {k c:Int}{xs:List Int}{T:Tp}{s s2:Nat}{z:RI}(hc:c=0)(h7:k≠7)(hz:H8 k (T.vals.getD (xs.getD 1 0).toNat 0)):AK (go c (TJ k xs s T)) z s2 6:=by subst hc;rw[Do,Qq (by rw[Hz h7];exact hz)];exact AK.mk_err rfl (by decide)
theorem cH {k c:Int}{xs:List Int}{T:Tp}{s:Nat}(hc:c=0)(h7:k≠7)(hz:¬H8 k (T.vals.getD (xs.getD 1 0).toNat 0)) :
  AK (go c (TJ k xs s T)) (((T.vals.length:Nat):Int),T.put ⟨k,xs.getD 0 0,xs.getD 1 0,0⟩ (if H8 k (T.vals.getD (xs.getD 1 0).toNat 0)then 0 else IR k (T.vals.getD (xs.getD 0 0).toNat 0) (T.vals.getD (xs.getD 1 0).toNat 0))) s c:=by
 subst hc;rw[Do,Jb (by rw[Hz h7];exact hz),Hz h7,if_neg hz];exact AK.mk_ok rfl
theorem cI {k c:Int}{xs:List Int}{T:Tp}{s:Nat}{b:Int}(hc:c=0)(h7:k=7) :
  AK (go c (TJ k xs s T)) (((T.vals.length:Nat):Int),T.put ⟨k,xs.getD 0 0,0,0⟩ (if H8 k b then 0 else IR k (T.vals.getD (xs.getD 0 0).toNat 0) b)) s c:=by
 subst hc;subst h7;rw[Do,Jb (fun h=>h.2.2.2.1 rfl),TK rfl,if_neg (fun h:H8 7 b=>h.2.2.2.1 rfl)];exact AK.mk_ok rfl
theorem eO {k b:Int}(h:k=7):¬H8 k b:=fun h9=>h9.2.2.2.1 h
def H9 (T:Tp)(env:List Int):Prop:=∀k,k<env.length→0≤env.getD k 0∧env.getD k 0<((T.vals.length:Nat):Int)
theorem H9.mono {T T':Tp}{env:List Int}(h:H9 T env)(hl:T.vals.length≤T'.vals.length):H9 T' env:=fun k hk=>by have:=h k hk;omega
theorem H9.snoc {T:Tp}{env:List Int}{r:Int}(h:H9 T env)(hr:0≤r∧r<((T.vals.length:Nat):Int)):H9 T (env++[r]):=fun k hk=>by
 rw[z4,zd]at hk
 rw[lR]
 split
 exact hr
 exact h k zO
theorem H9.nil (T:Tp):H9 T []:=fun k hk=>absurd hk (Nat.not_lt_zero k)
theorem E2 {Q:Nat→Prop}:∀b∈([]:List Nat),Q b:=fun b hb=>(by cases hb)
theorem AF.drewL {F:List Nat}{a b:World}(h:AF F a b):AF F a.drew b:=⟨h.os,h.tape,h.output,h.size,h.block⟩
def Tf {α:Type}(S:List Nat)(B:Nat)(E:BL α)(H:Array Obj)(v:Value)(x:α):Prop:=∃F,E H v x F∧∀b∈F,b∉S∧B≤b
theorem Tf.rn {α:Type}{S:List Nat}{B:Nat}{E:BL α}{H:Array Obj}{v:Value}{x:α}(h:Tf S B E H v x):RN S E H v x:=by obtain⟨F,h1,h2⟩:=h;exact⟨F,h1,fun b hb=>(h2 b hb).1⟩
theorem Tf.upd {α:Type}{S F:List Nat}{B:Nat}{E:BL α}(hE:CA E){w w':World}{v:Value}{x:α}(h:Tf S B E w.heap v x)(c:AF F w w')(hF:∀b∈F,b∈S∨b<B):Tf S B E w'.heap v x:=by obtain⟨G,h1,h2⟩:=h;refine⟨G,hE.stable h1 fun b hb=>c.block b (hE.lt h1 b hb) fun hm=>?_,h2⟩;rcases hF b hm with hh|hh;exact (h2 b hb).1 hh;have:=(h2 b hb).2;omega
theorem Tf.of_ow {e:TypeId}{B T:Nat}{H:Array Obj}{v:Value}{xs:List Int}{F S:List Nat}(h:Ow (By rI e) B T H v xs F)(hS:∀b∈F,b∉S):Tf S B (B8 rI) H v xs:=⟨F,h.own.rd id,fun b hb=>⟨hS b hb,h.low b hb⟩⟩
structure Ft (S S':List Nat)(w w':World):Prop where
 sub:∀b∈S,b∈S'
 new:∀b∈S',b∈S∨w.heap.size≤b
 lt:∀b∈S',b<w'.heap.size
 chg:AF S w w'
section
variable {S S' S'':List Nat} {w w' w'':World} {g:Nat}
theorem Ft.refl (h:∀b∈S,b<w.heap.size):Ft S S w w:=⟨fun _ h=>h,fun _ h=>.inl h,h,AF.refl S w⟩
theorem Ft.trans (h:Ft S S' w w')(k:Ft S' S'' w' w''):Ft S S'' w w'' :=
 ⟨fun b hb=>k.sub b (h.sub b hb),TH h.new k.new h.chg.size,k.lt,h.chg.stp k.chg h.new⟩
theorem Ft.ext (h:Ft S S' w w')(k:AI w' w''):Ft S S' w w'':=⟨h.sub,h.new,fun b hb=>Nat.lt_of_lt_of_le (h.lt b hb) k.size,h.chg.ext k⟩
theorem Ft.drew (h:Ft S S' w w'):Ft S S' w w'.drew:=⟨h.sub,h.new,h.lt,h.chg.drew⟩
theorem Ft.of_drew (h:Ft S S' w.drew w'):Ft S S' w w':=⟨h.sub,h.new,h.lt,h.chg.of_drew⟩
theorem Ft.set (h:Ft S S' w w')(hg:g∈S)(k:AF [g] w' w''):Ft S S' w w'':=⟨h.sub,h.new,fun b hb=>Nat.lt_of_lt_of_le (h.lt b hb) k.size,h.chg.trans (k.sub (BD hg))⟩
theorem Ft.more {F:List Nat}(h:Ft S S' w w')(k:AF F w' w'')(hF:∀b∈F,b∈S):Ft S S' w w'':=⟨h.sub,h.new,fun b hb=>Nat.lt_of_lt_of_le (h.lt b hb) k.size,h.chg.trans (k.sub hF)⟩
theorem Ft.fresh {F:List Nat}(h:Ft S S' w w')(k:AF F w' w'')(hF:∀b∈F,w.heap.size≤b):Ft S S' w w'':=⟨h.sub,h.new,fun b hb=>Nat.lt_of_lt_of_le (h.lt b hb) k.size,h.chg.fresh k hF⟩
end
structure eP (T T':Tp)(s0 s1:Nat)(c1:Int):Prop where
 bnd:Hj T' s1
 num:s1≤3000∧(0≤c1∧c1≤9)∧T.vals.length≤T'.vals.length∧T'.vals.length+s0≤T.vals.length+s1∧T'.grd.length+s0≤T.grd.length+s1
@[simp] theorem Ff (T:Tp)(c:AD)(v:Int):(T.put c v).vals.length=T.vals.length+1:=by simp[Tp.put]
@[simp] theorem TL (T:Tp)(c:AD)(v:Int):(T.put c v).code.length=T.code.length+1:=by simp[Tp.put]
@[simp] theorem Yq (T:Tp)(c:AD)(v:Int):(T.put c v).grd=T.grd:=rfl
@[simp] theorem Lr (T:Tp)(r:Int)(z:Bool):(T.guard r z).vals=T.vals:=rfl
@[simp] theorem O0 (T:Tp)(r:Int)(z:Bool):(T.guard r z).grd.length=T.grd.length+1:=by simp[Tp.guard]
theorem RN.of_ow {e:TypeId}{B T:Nat}{H:Array Obj}{v:Value}{xs:List Int}{F S:List Nat}(h:Ow (By rI e) B T H v xs F)(hS:∀b∈F,b∉S):RN S (B8 rI) H v xs:=⟨F,h.own.rd id,hS⟩
theorem Cp.len {t1 t2 t3:TypeId}{S:List Nat}{g:Nat}{H:Array Obj}{vc vg vv:Value}{T:Tp}(h:Cp t1 t2 t3 S g H vc vg vv T):T.code.length≤maxLen∧T.grd.length≤maxLen∧T.vals.length≤maxLen:=by obtain⟨Fc,Fg,Fv,h1,h2,h3,_⟩:=h;exact⟨h1.own.lenle,h2.own.lenle,h3.own.lenle⟩
end
section
def IL (a:List Int):Nat→Tp
 |0=>⟨[],[],[]⟩
 |k+1=>(IL a k).put ⟨1,0,0,((k:Nat):Int)⟩ (a.getD k 0)
def Gu (k:Nat):List Int:=(List.range k).map fun i=>((i:Nat):Int)
@[simp] theorem Ef (k:Nat):(Gu k).length=k:=by simp[Gu]
theorem O1 (k:Nat):Gu (k+1)=Gu k++[((k:Nat):Int)]:=by simp[Gu,List.range_succ]
theorem Sc {k j:Nat}(h:j<k):(Gu k).getD j 0=((j:Nat):Int):=by unfold Gu;rw[Et (d:=0) (by simpa using h)];simp[h]
@[simp] theorem HA (a:List Int):∀k,(IL a k).vals.length=k
 |0=>rfl
 |k+1=>by show((IL a k).put _ _).vals.length=_;rw[Ff,HA a k]
@[simp] theorem Mb (a:List Int):∀k,(IL a k).code.length=k
 |0=>rfl
 |k+1=>by show((IL a k).put _ _).code.length=_;rw[TL,Mb a k]
theorem Yr (a:List Int):∀k,(IL a k).grd=[]
 |0=>rfl
 |k+1=>by show((IL a k).put _ _).grd=_;rw[Yq,Yr a k]
theorem Sd (a:List Int):∀k,k≤a.length→(IL a k).vals=a.take k
 |0,_=>rfl
 |k+1,h=>by
  show(IL a k).vals++[a.getD k 0]=_
  rw[Sd a k zO,CW 0 (by omega)]
theorem Ys {a:List Int}(hn:Bl a=true)(h:a.length≤12):Hj (IL a a.length) 0:=by refine⟨by simp,by simp;omega,by rw[Yr];simp,?_⟩;rw[Sd a _ (A7 _),List.take_length];exact hn
theorem Yt (a:List Int)(k:Nat):H9 (IL a k) (Gu k):=fun j hj=>by
 rw[Ef]at hj
 rw[Sc hj,HA];omega
def MK (p:List Fn)(f:Nat)(a:List Int):Rs RL:=Fe (I2 p f) (p.getD f Fn.zero).outs (Gu a.length) 0 (IL a a.length)
section rcm
variable {t1 t2 t3:TypeId} {S:List Nat} {g:Nat} {w w':World} {vc vg vv:Value} {T:Tp}
theorem Cp.nil:Cp t1 t2 t3 S g w.heap (.slice none 0 0) (.slice none 0 0) (.slice none 0 0) ⟨[],[],[]⟩ :=
 ⟨[],[],[],⟨.inl ⟨rfl,rfl,rfl⟩,zk,E2,E2⟩,⟨.inl ⟨rfl,rfl,rfl⟩,zk,E2,E2⟩,⟨.inl ⟨rfl,rfl,rfl⟩,zk,E2,E2⟩,
  ⟨E2,E2,E2⟩,⟨z2,z2,z2⟩,E2,E2,E2⟩
theorem AF.toExt {F:List Nat}(h:AF F w w')(hF:∀b∈F,w.heap.size≤b):AI w w':=⟨h.os,h.tape,h.output,h.size,fun k hk=>h.block k hk fun hm=>by have:=hF k hm;omega⟩
end rcm
def RG {α:Type}(T:Nat)(E:BL α)(H:Array Obj)(v:Value)(x:α):Prop:=∃F,E H v x F∧∀b∈F,T≤b
theorem Tf.rg {α:Type}{S:List Nat}{B T:Nat}{E:BL α}{H:Array Obj}{v:Value}{x:α}(h:Tf S B E H v x)(hT:T≤B):RG T E H v x:=by obtain⟨F,h1,h2⟩:=h;exact⟨F,h1,fun b hb=>A8 hT (h2 b hb).2⟩
theorem RG.rnG {α:Type}{T g:Nat}{E:BL α}{w:World}{v:Value}{x:α}(hE:CA E)(h:RG T E w.heap v x)(hg:g<T∨w.heap.size≤g):RN [g] E w.heap v x:=by obtain⟨F,h1,h2⟩:=h;refine⟨F,h1,fun b hb hm=>?_⟩;rw[A9 hm]at hb;have:=h2 g hb;have:=hE.lt h1 g hb;omega
theorem Cp.readsG {t1 t2 t3:TypeId}{S:List Nat}{g n:Nat}{w:World}{vc vg vv:Value}{T:Tp}(h:Cp t1 t2 t3 S g w.heap vc vg vv T)(hS:∀b∈S,n≤b):RG n (D7 4 P1) w.heap vc T.code∧RG n (D7 2 Pc) w.heap vg T.grd:=by obtain⟨Fc,Fg,Fv,h1,h2,h3,h4,h5,h6,h7,h8⟩:=h;exact⟨⟨Fc,h1.own.rd AX,fun b hb=>hS b (h6 b hb)⟩,⟨Fg,h2.own.rd Bg,fun b hb=>hS b (h7 b hb)⟩⟩
theorem AK.go0 {α:Type}{r:Rs α}{x:α}{s:Nat}{c:Int}(h:AK (go ((0:Nat):Int) r) x s c):AK r x s c:=h
theorem LD.part {H:Array Obj}{g k:Nat}{cs ds:List Value}(h:BX H g cs)(hl:k+ds.length≤cs.length)(hd:∀i,i<ds.length→ds.getD i undef=cs.getD (k+i) undef):LD H (.pointer (some ⟨g,k,none⟩)) ds:=by obtain⟨e,h⟩:=h;refine⟨g,k,rfl,fun i hi=>?_⟩;simp only[Cv,h];rw[hd i hi];simp[show k+i<cs.length by omega]
end
def Se (p:List Fn)(f:Int):Int:=if Fd p=true then(if 0≤f∧f≤((p.length:Nat):Int)-1 then 0 else 2)else 1
theorem eQ {p:List Fn}{f:Int}(h:Se p f=0):Fd p=true∧0≤f∧f<((p.length:Nat):Int):=by unfold Se at h;split at h;split at h;rename_i h1 h2;exact⟨h1,h2.1,zO⟩;omega;omega
theorem jG {n k:Nat}{s:Sr}(h:DP n s)(hk:k<n):M7 (s.getD k 0)=true:=by
 have hk':k<s.length:=by rw[h.1];exact hk
 have:=h.2;unfold Bl at this;have h2:=zm.1 this s[k]<|List.getElem_mem hk';rwa [show s.getD k 0=s[k]from by simp[hk']]
section
mutual
def K7:Ex→Int→Int
 |.mk _ _ _ _ l,x=>DX l (x-1)
def DX:List Ex→Int→Int
 |[],x=>x
 |e::l,x=>if 0≤x then DX l (K7 e x)else x
end
theorem cJ (e:Ex)(x:Int):K7 e x=DX e.kids (x-1):=by cases e;rw[K7];rfl
theorem O2 {l:List Ex}{x:Int}(h:x<0):DX l x=x:=by
 cases l with
 |nil=>rw[DX]
 |cons e l=>rw[DX,if_neg (by omega)]
mutual
theorem O3:∀(e:Ex)(x:Int),0≤x→(K7 e x=x-(e.size:Int)∧(e.size:Int)≤x)∨(K7 e x = -1∧x<(e.size:Int))
 |.mk k n q c l,x,h=>by
  rw[K7,Ex.size]
  by_cases h0:x=0
  subst h0
  right
  rw[O2 (by omega)]
  refine⟨zO,zO⟩
  rcases JV l (x-1) (by omega)with h1|h1
  left;omega
  right;omega
theorem JV:∀(l:List Ex)(x:Int),0≤x→(DX l x=x-(Ex.sizes l:Int)∧(Ex.sizes l:Int)≤x)∨(DX l x = -1∧x<(Ex.sizes l:Int))
 |[],x,h=>by rw[DX,Ex.sizes];left;omega
 |e::l,x,h=>by
  rw[DX,if_pos h,Ex.sizes]
  rcases O3 e x h with h1|h1
  rw[h1.1]
  rcases JV l (x-(e.size:Int)) (by omega)with h2|h2
  left;omega
  right;omega
  rw[h1.1,O2 (by omega)]
  right;omega
end
theorem PH (e:Ex):∀(l:List Ex)(x:Int),DX (l++[e]) x=if 0≤DX l x then K7 e (DX l x)else DX l x
 |[],x=>by
  rw[zl,DX,DX]
  split
  rw[DX]
  rfl
 |a::l,x=>by
  rw[List.cons_append,DX,DX]
  by_cases h:0≤x
  rw[if_pos h,if_pos h,PH e l]
  rw[if_neg h,if_neg h,if_neg h]
theorem PI {l:List Ex}{k:Nat}(hk:k<l.length){x:Int}(h:0≤DX (l.take k) x):DX (l.take (k+1)) x=K7 (l.getD k Ex.zero) (DX (l.take k) x):=by rw[List.take_succ_eq_append_getElem hk,PH,if_pos h];simp[hk]
theorem Sf:∀(l r:List Ex)(x:Int),DX l x<0→DX (l++r) x=DX l x
 |[],r,x,h=>by rw[DX]at h ⊢;rw[zl,O2 h]
 |a::l,r,x,h=>by
  rw[DX]at h ⊢
  rw[List.cons_append,DX]
  split
  rename_i h0;rw[if_pos h0]at h;exact Sf l r _ h
  rfl
theorem PJ {l:List Ex}{k:Nat}{x:Int}(h:DX (l.take k) x<0):DX l x=DX (l.take k) x:=by have:=Sf (l.take k) (l.drop k) x h;rwa [List.take_append_drop]at this
theorem Sg {e:Ex}{x:Int}(h:0≤x):-1≤K7 e x∧K7 e x≤x:=by rcases O3 e x h with h1|h1 <;> omega
theorem Yu {e:Ex}{x:Int}(h:0≤x):0≤K7 e x↔(e.size:Int)≤x:=by rcases O3 e x h with h1|h1 <;> omega
def Xp (k:Int):Int:=if k=1∨k=2 then 0 else if k=3∨k=4∨k=5∨k=6∨k=9 then 2 else if k=7 then 1 else if k=8 then 3 else -1
theorem Qr {p q:Prop} [Decidable p] [Decidable q] (h:p↔q):decide p=decide q:=decide_eq_decide.2 h
section
variable {p:List Fn} {F vars:Int} {e:Ex}
theorem Xb (h:Ih p F vars e=true)(h10:e.kind≠10)(h11:e.kind≠11):e.pick=0∧e.count=0∧Xp e.kind=((e.kids.length:Nat):Int)∧(e.kind≠1→e.kind≠2→e.num=0):=by unfold Ih EK at h;unfold Xp;split at h;rename_i h1;simp only[z7,decide_eq_true_eq]at h;rw[if_pos (by omega)];exact⟨h.1.1,h.1.2,zO,fun hh=>absurd h1 hh⟩;split at h;rename_i h1;simp only[z7,decide_eq_true_eq]at h;rw[if_pos (by omega)];exact⟨h.1.1,h.1.2,zO,fun _ hh=>absurd h1 hh⟩;split at h;simp only[z7,decide_eq_true_eq]at h;rw[if_neg zO,if_pos (by omega)];exact⟨h.1.1,h.1.2,zO,fun _ _=>h.2.1⟩;split at h;simp only[z7,decide_eq_true_eq]at h;rw[if_neg zO,if_neg zO,if_pos (by omega)];exact⟨h.1.1,h.1.2,zO,fun _ _=>h.2.1⟩;split at h;simp only[z7,decide_eq_true_eq]at h;rw[if_neg zO,if_neg zO,if_neg zO,if_pos (by omega)];exact⟨h.1.1,h.1.2,zO,fun _ _=>h.2.1⟩;split at h;omega;cases h
theorem jH (h10:e.kind≠10)(h11:e.kind≠11)(h:Xp e.kind≠((e.kids.length:Nat):Int)∨e.pick≠0∨e.count≠0):false=Ih p F vars e:=by
 cases hw:Ih p F vars e with
 |false=>rfl
 |true =>
  have:=Xb hw h10 h11;omega
theorem qH (hk:Xp e.kind=((e.kids.length:Nat):Int))(h1:e.kind=1)(hp:e.pick=0)(hc:e.count=0):M7 e.num=Ih p F vars e:=by
 have hl:e.kids.length=0:=by unfold Xp at hk;rw[if_pos (by omega)]at hk;omega
 unfold Ih EK;rw[if_pos h1,A5 hp,A5 hc,A5 hl];rfl
theorem qI (hk:Xp e.kind=((e.kids.length:Nat):Int))(h1:e.kind=2)(hp:e.pick=0)(hc:e.count=0):(decide (((0:Nat):Int)≤e.num) && decide (e.num≤vars-1))=Ih p F vars e:=by
 have hl:e.kids.length=0:=by unfold Xp at hk;rw[if_pos (by omega)]at hk;omega
 unfold Ih EK Ge;rw[if_neg zO,if_pos h1,A5 hp,A5 hc,A5 hl];rfl
theorem qJ (hk:Xp e.kind=((e.kids.length:Nat):Int))(h1:e.kind≠1)(h2:e.kind≠2)(h10:e.kind≠10)(h11:e.kind≠11)(hp:e.pick=0)(hc:e.count=0):decide (e.num=0)=Ih p F vars e:=by unfold Xp at hk;unfold Ih EK;rw[if_neg h1,if_neg h2,A5 hp,A5 hc];rw[if_neg (by omega)]at hk;split at hk;rename_i h3;rw[if_pos h3,A5 (show e.kids.length=2 by omega)];simp;rename_i h3;rw[if_neg h3];split at hk;rename_i h4;rw[if_pos h4,A5 (show e.kids.length=1 by omega)];simp;rename_i h4;rw[if_neg h4];split at hk;rename_i h5;rw[if_pos h5,A5 (show e.kids.length=3 by omega)];simp;omega
end
end
section
def MF (n:Nat)(C:Ca)(e:Ex)(env:List Sr)(s:Nat):Rs Sr:=(EX n C e.kids env s).bind fun xs t =>
 if e.kind=10 then C.one e.num.toNat e.pick.toNat xs t else(MD (C.all e.num.toNat) e.count.toNat xs t).bind fun ys u=>.ok (ys.getD e.pick.toNat []) u
section
variable {n:Nat} {C:Ca} {e:Ex} {env:List Sr} {s s1 s2:Nat} {c c1 c2:Int} {x y:Sr} {xs ys:List Sr}
theorem PK (hc:c=0)(hs:s+1≤3000)(hk:e.kind=10∨e.kind=11)(h:AK (go c (MF n C e env (s+1))) y s2 c2):AK (go c (DL n C e env s)) y s2 c2:=by
 subst hc;rw[Do]at h ⊢;rw[J6 hs zO zO zO (by omega)];unfold MF at h;cases hv:EX n C e.kids env (s+1)with
 |err d=>rw[hv]at h;exact h
 |ok zsq t =>
  rw[hv]at h;rw[Rs.bind_ok]at h ⊢;by_cases h10:e.kind=10;rw[if_pos h10]at h ⊢;exact h;rw[if_neg h10]at h;rw[if_neg h10,if_pos (by omega)];exact h
theorem Yw {α:Type}{r:Rs α}{v:α}(h:AK (go c r) v s1 c1)(hc:c≠0):c1=c:=by rw[Ea hc]at h;exact h.1
theorem jI (hl:e.kids.length=1)(h:AK (go c (DL n C (e.kids.getD 0 Ex.zero) env s)) x s1 c1):AK (go c (EX n C e.kids env s)) [x] s1 c1:=by have h1:=HZ (l:=e.kids) (k:=0) zO (I0 n C e.kids env s c) h;rwa [za (by omega)]at h1
theorem Mc (hl:e.kids.length=2)(h:AK (go c (DL n C (e.kids.getD 0 Ex.zero) env s)) x s1 c1)(h2:AK (go c1 (DL n C (e.kids.getD 1 Ex.zero) env s1)) y s2 c2):AK (go c (EX n C e.kids env s)) [x,y] s2 c2:=by have h1:=HZ (l:=e.kids) (k:=0) zO (I0 n C e.kids env s c) h;have h3:=HZ (l:=e.kids) (k:=1) zO h1 h2;rwa [za (by omega)]at h3
theorem Ik (hc:c=0)(hs:s+1≤3000)(hk:e.kind=3∨e.kind=4∨e.kind=5∨e.kind=6∨e.kind=7)(hr:AK (go c (EX n C e.kids env (s+1))) xs s1 c1)
  (h:c1=0→AK (Ri e.kind xs s1) y s1 c2) (h0:c1≠0→c2=c1):AK (go c (DL n C e env s)) y s1 c2:=by
 by_cases hc1:c1=0;exact BE hc hs zO zO zO zO zO zO hr hc1<|h hc1;rw[h0 hc1];exact DV hc hs zO zO zO zO hr hc1
theorem Yx {p:List Fn}{F:Nat}(hk:e.kind=10)(hF:e.num.toNat<F)(hr:AK (go c (EX n (Gt p n F) e.kids env s)) xs s1 c1)
  (h2:AK (go c1 (DL n (Gt p n e.num.toNat) ((p.getD e.num.toNat Fn.zero).outs.getD e.pick.toNat Ex.zero) xs s1)) y s2 c2):AK (go c (MF n (Gt p n F) e env s)) y s2 c2:=by
 by_cases hc:c=0;subst hc;rw[Do]at hr ⊢;unfold MF;by_cases hc1:c1=0;subst hc1;rw[hr.bindO,if_pos hk,Qn hF];rw[Do]at h2;exact h2;rw[hr.bindE hc1];rw[Ea hc1]at h2;exact h2;have e1:=Yw hr hc;subst e1;rw[Ea hc]at h2 ⊢;exact h2
theorem Yy {f:List Sr→Nat→Rs (List Sr)}{k:Nat}(h:AK (go c (MD f k xs s)) ys s1 c1){zsq:List Sr}(h2:AK (go c1 (f ys s1)) zsq s2 c2):AK (go c (MD f (k+1) xs s)) zsq s2 c2:=by by_cases hc:c=0;subst hc;rw[Do]at h ⊢;show AK ((MD f k xs s).bind f) _ _ _;by_cases hc1:c1=0;subst hc1;rw[h.bindO];rw[Do]at h2;exact h2;rw[h.bindE hc1];rw[Ea hc1]at h2;exact h2;have e1:=Yw h hc;subst e1;rw[Ea hc]at h2 ⊢;exact h2
theorem Yz {f:List Sr→Nat→Rs (List Sr)}(hc:0=0):AK (go c (MD f 0 xs s)) xs s c:=by by_cases h:c=0;subst h;exact⟨rfl,rfl,rfl⟩;exact AK.mk_err (Ea h _) h
theorem YB {p:List Fn}{F:Nat}(hk:e.kind≠10)(hF:e.num.toNat<F)(hr:AK (go c (EX n (Gt p n F) e.kids env s)) xs s1 c1)
  (h2:AK (go c1 (MD (fun a t=>EX n (Gt p n e.num.toNat) (p.getD e.num.toNat Fn.zero).outs a t) e.count.toNat xs s1)) ys s2 c2):AK (go c (MF n (Gt p n F) e env s)) (ys.getD e.pick.toNat []) s2 c2:=by
 have hl:(Gt p n F).all e.num.toNat=fun a t=>EX n (Gt p n e.num.toNat) (p.getD e.num.toNat Fn.zero).outs a t:=funext fun a=>funext fun t=>JT hF;by_cases hc:c=0;subst hc;rw[Do]at hr ⊢;unfold MF;by_cases hc1:c1=0;subst hc1;rw[hr.bindO,if_neg hk,hl];rw[Do]at h2;by_cases h0:c2=0;subst h0;rw[h2.bindO];exact AK.mk_ok rfl;rw[h2.bindE h0];exact AK.mk_err rfl h0;rw[hr.bindE hc1];rw[Ea hc1]at h2;exact AK.mk_err (by rw[h2.1]) (by rw[h2.1];exact hc1);have e1:=Yw hr hc;subst e1;rw[Ea hc]at h2 ⊢;exact AK.mk_err (by rw[h2.1]) (by rw[h2.1];exact hc)
end
end
section
def PL (p:List Fn)(f:Int):Bool:=Ge f 0 (((p.length:Nat):Int)-1) && (decide (1≤(p.getD f.toNat Fn.zero).params) && decide ((((p.getD f.toNat Fn.zero).outs.length:Nat):Int)=(p.getD f.toNat Fn.zero).params))
def UY (p:List Fn)(f:Int):Bool:=Fd p && PL p f
def G4 (p:List Fn)(f:Int)(l:List Sr):Int :=
 if Fd p=true then(if PL p f=true then(if l.all (fun s=>decide (((s.length:Nat):Int)=(p.getD f.toNat Fn.zero).params) && Bl s)=true then 0 else 2)else 2)else 1
theorem cK (p:List Fn)(f:Int)(l:List Sr):0≤G4 p f l∧G4 p f l≤2:=by unfold G4;split <;> (try split) <;> (try split) <;> omega
theorem Ls {p:List Fn}{f:Int}:PL p f=true↔(0≤f∧f≤((p.length:Nat):Int)-1)∧1≤(p.getD f.toNat Fn.zero).params∧(((p.getD f.toNat Fn.zero).outs.length:Nat):Int)=(p.getD f.toNat Fn.zero).params:=by unfold PL;rw[z7,z7,C4,decide_eq_true_eq,decide_eq_true_eq]
def GG (p:List Fn)(f:Nat)(s:Sr):Int:=Tx p 1 f (E7 s)
def Xq (p:List Fn)(f:Nat)(s:Sr):Sr:=(Ya p 1 f (E7 s)).map fun s=>s.getD 0 0
def Ej (p:List Fn)(f:Nat)(a:Sr):Nat→Sr
 |0=>a
 |k+1=>Xq p f (Ej p f a k)
def Dq (p:List Fn)(f:Nat)(a:Sr):Nat→Int
 |0=>0
 |k+1=>if Dq p f a k=0 then GG p f (Ej p f a k)else Dq p f a k
def mR (p:List Fn)(f:Nat)(a:Sr)(n:Nat):List Sr:=if Dq p f a n=0 then H7 (n+1) (Ej p f a)else []
theorem DE {a:Sr}(h:Bl a=true):CN 1 (E7 a):=by intro k hk;unfold E7 at hk ⊢;rw[zg]at hk;rw[List.getD_eq_getElem?_getD,List.getElem?_map,List.getElem?_eq_getElem hk];refine⟨rfl,?_⟩;unfold Bl at h ⊢;have:=zm.1 h _ (List.getElem_mem hk);simpa using this
theorem O4 {x:List Sr}{n:Nat}(h:CN (n+1) x):Bl (x.map fun s=>s.getD 0 0)=true:=by
 unfold Bl;rw[zm]
 intro y hy;obtain⟨s,hs,rfl⟩:=List.mem_map.1 hy;obtain⟨k,hk,rfl⟩:=List.mem_iff_getElem.1 hs;have h2:=h k hk;rw[IA hk]at h2;exact jG h2 zO
section
variable {p:List Fn} {f:Nat} {a s:Sr} {k n:Nat}
theorem Jc (h:Dq p f a k=0):Dq p f a (k+1)=GG p f (Ej p f a k):=if_pos h
theorem O5 (h:Dq p f a k≠0):∀ {n:Nat},k≤n→Dq p f a n = Dq p f a k
  | 0, hk => by have : k = 0 := by omega
                subst this; rfl
  | n + 1,hk=>by
    by_cases e:k = n + 1
    subst e; rfl
    have ih:=O5 h (n:=n) zO
    show (if Dq p f a n = 0 then _ else _) = _
    rw [if_neg (by rw [ih]; exact h)]; exact ih
theorem YC (h:Dq p f a n≠0):mR p f a n=[]:=if_neg h
theorem Sh (h:Dq p f a n=0):mR p f a n=H7 (n+1) (Ej p f a):=if_pos h
structure Xc (p:List Fn)(f:Nat)(s:Sr):Prop where
 code:0≤GG p f s∧GG p f s≤9
 len:GG p f s=0→(Xq p f s).length=(p.getD f Fn.zero).outs.length
 num:Bl (Xq p f s)=true
 non:GG p f s≠0→Xq p f s=[]
theorem Xc.mk' (h:eK p 1 f (E7 s)):Xc p f s :=
 ⟨h.code,fun h0=>by unfold Xq;rw[zg];exact h.len h0,O4 h.ser,fun h0=>by unfold Xq;rw[h.non h0];rfl⟩
structure eR (p:List Fn)(f:Nat)(a:Sr)(n:Nat):Prop where
 code:0≤Dq p f a n∧Dq p f a n≤9
 len:(mR p f a n).length≤n+1
 rows:∀k,((mR p f a n).getD k []).length≤a.length
theorem eR.err {c:Int}(h:Dq p f a n=c)(h0:c≠0)(hc:0≤c∧c≤9):eR p f a n:=⟨zO,by rw[YC (by omega)];simp,fun k=>by rw[YC (by omega)];simp⟩
theorem eR.ok (h:Dq p f a n=0)(hr:∀k,k≤n→(Ej p f a k).length=a.length):eR p f a n:=⟨zO,by rw[Sh h];simp[H7],fun k=>by
 rw[Sh h]
 by_cases hk:k<n+1
 rw[Dx _ hk,hr k (by omega)];exact A7 _
 rw[List.getD_eq_getElem?_getD,List.getElem?_eq_none (by simp[H7];omega)];simp⟩
end
end
section
section
variable {m n:Nat} {C C':Ca}
theorem PM:∀ {l:List Ex}{e:Ex},e∈l→e.size≤Ex.sizes l
 |[],_,h=>by cases h
 |a::l,e,h=>by
  rw[Ex.sizes]
  rcases ze.1 h with rfl|h
  omega
  have:=PM h;omega
end
end
def jJ (n:Nat)(r:Rs Sr):Prop:=match r with
 |.ok x s=>DP n x∧s≤3000
 |.err c=>c=6∨c=7
def qm (n m:Nat)(r:Rs (List Sr)):Prop:=match r with
 |.ok xs s=>xs.length=m∧CN n xs∧s≤3000
 |.err c=>c=6∨c=7
structure qK (p:List Fn)(n F:Nat)(C:Ca):Prop where
 one:∀f j xs t,f<F→j<(p.getD f Fn.zero).outs.length→CN n xs→((xs.length:Nat):Int)=(p.getD f Fn.zero).params→t≤3000→jJ n (C.one f j xs t)
 all:∀f xs t,f<F→CN n xs→((xs.length:Nat):Int)=(p.getD f Fn.zero).params→t≤3000→qm n (p.getD f Fn.zero).outs.length (C.all f xs t)
theorem CN.nil (n:Nat):CN n []:=fun k hk=>by simp at hk
theorem CN.cons {n:Nat}{x:Sr}{xs:List Sr}(hx:DP n x)(h:CN n xs):CN n (x::xs):=by
 intro k hk;cases k with
 |zero=>exact hx
 |succ k=>exact h k (by simpa using hk)
theorem YD {n:Nat}{C:Ca}{env:List Sr}:∀(l:List Ex),(∀e∈l,∀s,s≤3000→jJ n (DL n C e env s))→∀s,s≤3000→qm n l.length (EX n C l env s)
 |[],_,s,hs=>by rw[EX];exact⟨rfl,CN.nil n,hs⟩
 |e::l,h,s,hs=>by
  rw[EX]
  have h1:=h e (z0 ..) s hs
  cases h2:DL n C e env s with
  |err c=>rw[h2]at h1;exact h1
  |ok x t =>
   rw[h2]at h1
   have h3:=YD l (fun e he=>h e<|z3 _ he) t h1.2
   rw[Rs.bind_ok]
   cases h4:EX n C l env t with
   |err c=>rw[h4]at h3;exact h3
   |ok xs u=>rw[h4]at h3;exact⟨by simp[h3.1],CN.cons h1.1 h3.2.1,h3.2.2⟩
theorem eS {p:List Fn}{n F f:Nat}{C:Ca}(hC:qK p n F C)(hf:f<F)(ho:(((p.getD f Fn.zero).outs.length:Nat):Int)=(p.getD f Fn.zero).params):∀(k:Nat)(xs:List Sr)(t:Nat),CN n xs→xs.length=(p.getD f Fn.zero).outs.length→t≤3000→qm n (p.getD f Fn.zero).outs.length (MD (C.all f) k xs t)
 |0,xs,t,h1,h2,h3=>⟨h2,h1,h3⟩
 |k+1,xs,t,h1,h2,h3=>by
  have h:=eS hC hf ho k xs t h1 h2 h3
  rw[MD]
  cases h4:MD (C.all f) k xs t with
  |err c=>rw[h4]at h;exact h
  |ok ys u=>rw[h4]at h;rw[Rs.bind_ok];exact hC.all f ys u hf h.2.1 (by rw[h.1];exact ho) h.2.2
theorem mS {n:Nat}{k:Int}{xs:List Sr}{t:Nat}(hx:CN n xs)(h0:0<xs.length)(ht:t≤3000):jJ n (Ri k xs t):=by have h1:=(hx 0 h0).1;unfold Ri;split;exact⟨⟨by rw[HX];exact h1,NI _ _⟩,ht⟩;split;exact⟨⟨by rw[J4];exact h1,NJ _ _⟩,ht⟩;split;exact⟨⟨by rw[GU];exact h1,J2 _ _⟩,ht⟩;split;exact⟨⟨by rw[J3];exact h1,HY _ _⟩,ht⟩;split;exact .inl rfl;exact⟨⟨by rw[Eu];exact h1,HW _ _⟩,ht⟩
theorem YE {p:List Fn}{n F:Nat}{C:Ca}(hC:qK p n F C):∀(z:Nat)(e:Ex),e.size≤z→∀(env:List Sr)(s:Nat),wf p ((F:Nat):Int) e ((env.length:Nat):Int)=true→CN n env→s≤3000→jJ n (DL n C e env s)
 |0,e,h,_,_,_,_,_=>by have:=DT e;omega
 |z+1,e,h,env,s,hw,he,hs=>by
  obtain⟨w1,w2,w3,w4,w5,w6,w7,w8⟩:=DM (Dy hw)
  have hz:∀j,j<e.kids.length→(e.kids.getD j Ex.zero).size≤z:=fun j hj=>by
   have h2:e.kids.getD j Ex.zero∈e.kids:=by rw[IA hj];exact List.getElem_mem hj
   have:=DT e;have:=PM h2;omega
  have hk:∀j,j<e.kids.length→¬(e.kind=9∧j=1)→∀t,t≤3000→jJ n (Rj n C e.kids j env t):=fun j hj hn t ht=>by
   rw[FD _ _ _ _ _ _ hj]
   exact YE hC z _ (hz j hj) env t (CI hw hj hn) he ht
  rw[Ij]
  split
  exact .inr rfl
  rename_i hs3
  split
  rename_i h1;exact⟨GE (Dk.2 (w8 h1)),zO⟩
  split
  rename_i h1 h2;exact⟨he _ (by have:=w2 h2;omega),zO⟩
  split
  rename_i h1 h2 h8
  have h3:=w5 h8
  have hc:=hk 0 zO zO (s+1) zO
  cases h4:Rj n C e.kids 0 env (s+1)with
  |err c=>rw[h4]at hc;exact hc
  |ok x t =>
   rw[h4]at hc;rw[Rs.bind_ok]
   split
   exact hk 1 zO zO t hc.2
   exact hk 2 zO zO t hc.2
  split
  rename_i h1 h2 h8 h9
  have h3:=w3 zO
  have hc:=hk 0 zO zO (s+1) zO
  cases h4:Rj n C e.kids 0 env (s+1)with
  |err c=>rw[h4]at hc;exact hc
  |ok x t =>
   rw[h4]at hc;rw[Rs.bind_ok,FD _ _ _ _ _ _ (show 1<e.kids.length by omega)]
   refine YE hC z _ (hz 1 zO) (env++[x]) t ?_ (he.snoc hc.1) hc.2
   have:=J5 hw zO h9
   rw[z4,zd];exact this
  rename_i h1 h2 h8 h9
  have hc:=YD (n:=n) (C:=C) (env:=env) e.kids (fun x hx t ht=>by
   obtain⟨j,hj,rfl⟩:=List.mem_iff_getElem.1 hx
   have:=hk j hj zO t ht
   rwa [FD _ _ _ _ _ _ hj,IA hj]at this) (s+1) zO
  cases h4:EX n C e.kids env (s+1)with
  |err c=>rw[h4]at hc;exact hc
  |ok xs t =>
   rw[h4]at hc;rw[Rs.bind_ok]
   obtain⟨c1,c2,c3⟩:=hc
   split
   rename_i h10
   have h6:=w6<|.inl h10
   exact hC.one _ _ xs t zO zO c2 (by rw[c1];exact h6.2.2.1) c3
   split
   rename_i h11
   have h6:=w6 (.inr h11);have h7:=w7 h11
   have hl:=eS hC (f:=e.num.toNat) zO h7.1 e.count.toNat xs t c2 zO c3
   cases h5:MD (C.all e.num.toNat) e.count.toNat xs t with
   |err c=>rw[h5]at hl;exact hl
   |ok ys u=>rw[h5]at hl;exact⟨hl.2.1 _ (by rw[hl.1];omega),hl.2.2⟩
   refine mS c2 ?_ c3
   rw[c1]
   by_cases h7:e.kind=7
   rw[w4 h7];decide
   rw[w3 (by omega)];decide
theorem YF {p:List Fn}(hv:Hs p)(n:Nat):∀F,F≤p.length→qK p n F (Gt p n F)
 |0,_=>⟨fun f j xs t h=>by omega,fun f xs t h=>by omega⟩
 |F+1,hF=>by
  have ih:=YF hv n F zO
  have hO:∀j xs t,j<(p.getD F Fn.zero).outs.length→CN n xs→((xs.length:Nat):Int)=(p.getD F Fn.zero).params→t≤3000→jJ n (DL n (Gt p n F) ((p.getD F Fn.zero).outs.getD j Ex.zero) xs t):=fun j xs t h2 h3 h4 h5 =>
   YE ih _ _ (A7 _) xs t (by rw[h4];exact hv.wf F zO j h2) h3 h5
  refine⟨fun f j xs t h1 h2 h3 h4 h5=>?_,fun f xs t h1 h3 h4 h5=>?_⟩
  show jJ n (if f=F then _ else _)
  split
  rename_i e;subst e;exact hO j xs t h2 h3 h4 h5
  exact ih.one f j xs t zO h2 h3 h4 h5
  show qm n _ (if f=F then _ else _)
  split
  rename_i e;subst e
  refine YD _ (fun e he s hs=>?_) t h5
  obtain⟨j,hj,rfl⟩:=List.mem_iff_getElem.1 he
  have:=hO j xs s hj h3 h4 hs
  rwa [IA hj]at this
  exact ih.all f xs t zO h3 h4 h5
theorem qL {p:List Fn}(hv:Hs p){n f:Nat}{a:List Sr}(hf:f<p.length)(ha:CN n a)(hl:((a.length:Nat):Int)=(p.getD f Fn.zero).params):eK p n f a:=by
 have h:=(YF hv n (f+1) zO).all f a 0 zO ha hl zO;rw[JT (by omega)]at h;have e:ev p n f a=EX n (Gt p n f) (p.getD f Fn.zero).outs a 0:=rfl;rw[← e]at h;cases h2:ev p n f a with
 |err c =>
  rw[h2]at h;have h:c=6∨c=7:=h;exact⟨by rw[Ln h2];omega,by rw[UR h2];omega,fun hh=>by rw[Ln h2]at hh;omega,by rw[S0 h2];exact CN.nil n,fun _=>S0 h2⟩
 |ok xs s =>
  rw[h2]at h;have h:xs.length=_∧CN n xs∧s≤3000:=h;exact⟨by rw[NT h2];omega,by rw[UQ h2];exact h.2.2,fun _=>by rw[NS h2];exact h.1,by rw[NS h2];exact h.2.1,fun hh=>absurd (NT h2) hh⟩
def ag (k:Nat)(y z:List Sr):Prop:=y.length=z.length∧∀i j,j<k→(y.getD i []).getD j 0=(z.getD i []).getD j 0
theorem qM {a b:Sr}(hl:a.length=b.length)(h:∀j,j<a.length→a.getD j 0=b.getD j 0):a=b :=
 List.ext_getElem hl fun j h1 h2=>by have:=h j h1;rwa [IA h1,IA h2]at this
theorem qN {y z:List Sr}(hl:y.length=z.length)(h:∀j,j<y.length→y.getD j []=z.getD j []):y=z :=
 List.ext_getElem hl fun j h1 h2=>by have:=h j h1;rwa [IA h1,IA h2]at this
theorem YG {α:Type}{E:BL α}{H:Array Obj}:∀ {us:List Value}{xs:List α}{F:List Nat}(k:Nat),els E H us xs F→∃G,els E H (us.take k) (xs.take k) G∧∀b∈G,b∈F:=by
 intro us
 induction us with
 |nil=>intro xs F k h;cases xs with
  |nil=>exact⟨F,by simpa using h,fun b hb=>hb⟩
  |cons=>exact h.elim
 |cons u us ih =>
  intro xs F k h;cases xs with
  |nil=>exact h.elim
  |cons x xs =>
   cases k with
   |zero=>exact⟨[],rfl,fun b hb=>by cases hb⟩
   |succ k =>
    obtain⟨A,C,rfl,p1,p2⟩:=h;obtain⟨G,g1,g2⟩:=ih k p2;exact⟨A++G,⟨A,G,rfl,p1,g1⟩,fun b hb=>by
     rcases zi.1 hb with hb|hb;exact z8 _ hb;exact z1 _ (g2 b hb)⟩
theorem Rd.pref {α:Type}{E:BL α}{H:Array Obj}{v:Value}{xs:List α}{k:Nat}(h:Rd (B8 E) H v xs)(hk:k≤xs.length):Rd (B8 E) H (MB v k) (xs.take k):=by
 obtain⟨F,h⟩:=h;rcases h with⟨a,cap,rfl,rfl,rfl⟩|⟨us,g,off,cap,cur,e,fr,F',hels,rfl,hg,h1,h2,rfl⟩;have:k=0:=by simpa using hk
 subst this;exact⟨[],.inl ⟨a,cap,rfl,by simp,rfl⟩⟩;obtain⟨G,g1,_⟩:=YG k hels;have hl:(xs.take k).length=k:=by rw[List.length_take];omega
 refine⟨g::G,.inr ⟨us.take k,g,off,cap,cur,e,fr,G,g1,by rw[hl];rfl,hg,?_,by rw[hl];omega,rfl⟩⟩;rw[hl,← h1,List.take_take,Nat.min_eq_left hk]
theorem YH {s:ByteArray}(h:P0 s=true):s.size≤12:=by unfold P0 at h;simp only[z7,decide_eq_true_eq]at h;exact h.1.2
theorem NV.szp {p:List Fn}{pl:Bool}(h:NV p pl):Ty p:=fun k hk=>⟨by have:=h.sz k hk;omega,by have:=h.outs k hk;omega,by have:=YH (h.nm k hk);omega⟩
theorem TM {n:Int}(h:0≤n):Value.int .i64 n=.int .i64 ((n.toNat:Nat):Int):=by rw[Int.toNat_of_nonneg h]
theorem mT {a b:Sr}{k:Nat}(h:k<a.length):(Dm a b).getD k 0=md (a.getD k 0+b.getD k 0):=Dx 0 h
theorem mU {a b:Sr}{k:Nat}(h:k<a.length):(Ii a b).getD k 0=md (a.getD k 0-b.getD k 0):=Dx 0 h
theorem mV {a:Sr}{y:Int}{k:Nat}(h:k<a.length):(E6 a y).getD k 0=md (a.getD k 0*y):=Dx 0 h
theorem Si {a b:Sr}(h:0<a.length):(D9 a b).getD 0 0=md (0+a.getD 0 0*b.getD 0 0):=Dx 0 h
theorem YI {a b:Sr}(h:0<a.length):(Da a b).getD 0 0=md (a.getD 0 0*inv (b.getD 0 0)):=UO h
theorem cL {n:Nat}{c:Int}(h:0<n):(JS n c).getD 0 0=c:=by obtain⟨n,rfl⟩:∃k,n=k+1:=⟨n-1,zO⟩;unfold JS;rw[List.replicate_succ];rfl
section
section ops
variable {P:Program} {ops:Array Oper} {w0:World} {Q:Act→World→Prop} {os:List Oper} {ks:List Nat} {N:Nat} {ρ:Nat→Value} {w:World}
 {d:Nat} {ty:TypeId} {pos:String} {aft:Array Edge} {g:Option (Nat×Bool)} {t e:TypeId} {z:Value} {b s:Nat} {α:Type} {E:BS α}
theorem TN (hE:Ct s E)(ht:P.underlying t=some (.slice e))(hi:TI P e s z b)(hu:Up ops N ρ ⟨some d,.buildSlice t 0 #[],ty,pos,aft,g⟩)
  (h:∀v w1,AI w w1→w1.heap.size=w.heap.size+1→Fr (Dt s E e) w.heap.size w1.heap.size w1.heap v ([]:List α)→LW P ops w0 Q os ks (mk N (Ch ρ d v)) w1) :
  LW P ops w0 Q (⟨some d,.buildSlice t 0 #[],ty,pos,aft,g⟩::os) (3::ks) (mk N ρ) w:=by
 have hr:=Uq (P:=P) (w:=w) ht hi;have hrun:(execOp (Bk N ρ) ⟨some d,.buildSlice t 0 #[],ty,pos,aft,g⟩).run P w=.ok (.value (.slice (some ⟨w.heap.size,0,none⟩) 0 0)) (w.alloc (.cells #[] e)):=by
  simp only[execOp,zc,zh,Sem.run_bind,hr,Result.andThen_ok,Sem.run_pure]
 refine II rfl hu _ _ hrun (BM _ _)<|h _ _ (BM _ _) (by simp) ?_;have hn:=N5 (e:=e) (w:=w) hE (css:=[]) (xs:=([]:List α)) (F:=[]) (cur:=#[]) (cap:=0) rfl (by simp) (by simp[maxLen]) (by simp) (by simp);refine⟨_,hn,by simp,fun c hc=>?_⟩;have hlt:=(Aj hE).lt hn c hc;refine⟨?_,hlt⟩;rcases ze.1 hc with rfl|hc;exact A7 _;cases hc
end ops
theorem YJ {p:List Fn}(hv:Hs p){n f:Nat}{a:List Sr}(hf:f<p.length)(ha:CN n a)(hl:((a.length:Nat):Int)=(p.getD f Fn.zero).params) :
  (∃x s,ev p n f a=.ok x s∧x.length=(p.getD f Fn.zero).outs.length∧CN n x)∨ev p n f a=.err 6∨ev p n f a=.err 7:=by
 have h:=(YF hv n (f+1) zO).all f a 0 zO ha hl zO;rw[JT (by omega)]at h;have e:ev p n f a=EX n (Gt p n f) (p.getD f Fn.zero).outs a 0:=rfl;rw[← e]at h;cases h2:ev p n f a with
 |err c =>
  rw[h2]at h;have h:c=6∨c=7:=h;rcases h with rfl|rfl;exact .inr<|.inl rfl;exact .inr<|.inr rfl
 |ok xs s =>
  rw[h2]at h;have h:xs.length=_∧CN n xs∧s≤3000:=h;exact .inl ⟨xs,s,rfl,h.1,h.2.1⟩
end
def PN (a d:List Int)(n:Nat):List Sr:=H7 a.length fun i=>(JS n (a.getD i 0)).set 1 (d.getD i 0)
@[simp] theorem Lt (a d:List Int)(n:Nat):(PN a d n).length=a.length:=by simp[PN]
theorem TO {a d:List Int}{n k:Nat}(h:k<a.length):(PN a d n).getD k []=(JS n (a.getD k 0)).set 1 (d.getD k 0):=Dx [] h
theorem Lu {a d:List Int}{n:Nat}(ha:Bl a=true)(hd:Bl d=true):CN n (PN a d n):=fun k hk=>by
 rw[Lt]at hk
 rw[TO hk]
 refine⟨by rw[z6,FP],?_⟩
 have h1:=GE (n:=n)<|Dk.2<|D8 ha k
 unfold Bl
 rw[zm]
 intro y hy
 rcases List.mem_or_eq_of_mem_set hy with hy|rfl
 have:=h1.2;unfold Bl at this;exact zm.1 this y hy
 exact Dk.2<|D8 hd k
theorem YK (n j:Nat):(List.replicate n (0:Int)).getD j 0=0:=by rw[List.getD_eq_getElem?_getD,List.getElem?_replicate];split <;> rfl
theorem mW {a d:List Int}{i:Nat}(h:i<a.length):((PN a d 2).getD i []).getD 0 0=a.getD i 0:=by rw[TO h];rfl
section
section str
variable {P:Program} {ops:Array Oper} {w0:World} {Q:Act→World→Prop} {os:List Oper} {ks:List Nat} {N:Nat} {ρ:Nat→Value} {w:World}
 {d:Nat} {ty:TypeId} {pos:String} {aft:Array Edge} {g:Option (Nat×Bool)} {t e:TypeId}
theorem eT {α:Type}{E:BL α}(hE:CA E){ys:List α}{b:Nat}{z u0 u1:Value}{x0 x1:Operand}(ht:P.underlying t=some (.slice e))(hi:TI P e 1 z b)(hz:z.cells=#[z])
  (hx0:Bk N ρ x0=u0) (hx1:Bk N ρ x1=u1) (hl:ys.length=2) (hels:els E w.heap [u0,u1] ys [])
  (hu:Up ops N ρ ⟨some d,.buildSlice t 2 #[(0,x0),(1,x1)],ty,pos,aft,g⟩)
  (h:∀v w1,AI w w1→w1.heap.size=w.heap.size+1→Fr (By E e) w.heap.size w1.heap.size w1.heap v ys→LW P ops w0 Q os ks (mk N (Ch ρ d v)) w1) :
  LW P ops w0 Q (⟨some d,.buildSlice t 2 #[(0,x0),(1,x1)],ty,pos,aft,g⟩::os) (3::ks) (mk N ρ) w:=by
 have hc:=hels.cells1 hE;have hr:=aT (P:=P) (w:=w) ht hi (hc u0 (by simp)).1 (hc u1 (by simp)).1 hz;have hrun:(execOp (Bk N ρ) ⟨some d,.buildSlice t 2 #[(0,x0),(1,x1)],ty,pos,aft,g⟩).run P w=.ok (.value (.slice (some ⟨w.heap.size,0,none⟩) 2 2)) (w.alloc (.cells #[u0,u1] e)):=by
  simp only[execOp,zc,zf,zh,Sem.run_bind,hx0,hx1,hr,Result.andThen_ok,Sem.run_pure]
 refine II rfl hu _ _ hrun (BM _ _)<|h _ _ (BM _ _) (by simp) ?_;have hn:=Gz (e:=e) (w:=w) hE (us:=[u0,u1]) (xs:=ys) (F:=[]) (cur:=#[u0,u1]) hels (by simp[maxLen]) (by rw[hl];rfl) (by rw[hl];simp);rw[hl]at hn;refine⟨_,hn,?_,fun c hc=>?_⟩;rw[List.nodup_cons];exact⟨fun hm=>(by cases hm),zk⟩;rcases ze.1 hc with rfl|hc;exact⟨A7 _,by simp⟩;cases hc
theorem jK {x:Operand}{u:Value}(hx:Bk N ρ x=u)(hc:u.cells=#[u])(hu:Up ops N ρ ⟨some d,.box t x,ty,pos,aft,g⟩)
  (h:∀w1,AI w w1→w1.heap.size=w.heap.size+1→BX w1.heap w.heap.size [u]→LW P ops w0 Q os ks (mk N (Ch ρ d (.pointer (some ⟨w.heap.size,0,none⟩)))) w1) :
  LW P ops w0 Q (⟨some d,.box t x,ty,pos,aft,g⟩::os) (3::ks) (mk N ρ) w:=by
 have hrun:(execOp (Bk N ρ) ⟨some d,.box t x,ty,pos,aft,g⟩).run P w=.ok (.value (.pointer (some ⟨w.heap.size,0,none⟩))) (w.alloc (.cells #[u] t)):=by
  simp[execOp,Instr.box,newVar,newRow,hx,hc]
 refine II rfl hu _ _ hrun (BM _ _)<|h _ (BM _ _) (by simp) ⟨t,?_⟩;have:=heap_alloc_new w (.cells #[u] t);simpa using this
end str
theorem mX {H:Array Obj}{a b:Int}(h0:-9223372036854775808≤a∧a≤9223372036854775807)(h1:-9223372036854775808≤b∧b≤9223372036854775807):els rI H [.int .i64 a,.int .i64 b] [a,b] [] :=
 ⟨[],[],rfl,⟨rfl,rfl,h0⟩,[],[],rfl,⟨rfl,rfl,h1⟩,rfl⟩
end
def dl (i:Nat)(j:Nat):Int:=if i=j then 1 else 0
structure TP (m:Nat)(a:List Int)(X:List Sr):Prop where
 len:X.length=a.length
 ser:∀i,i<a.length→DP m (X.getD i [])
 at0:∀i,i<a.length→(X.getD i []).getD 0 0=a.getD i 0
section
theorem Sj {α:Type}{P:List α→Prop}(h0:P [])(h1:∀l c,P l→P (l++[c]))(l:List α):P l:=by
 have h:∀l:List α,P l.reverse:=fun l=>by
  induction l with
  |nil=>exact h0
  |cons c l ih=>rw[List.reverse_cons];exact h1 _ _ ih
 have:=h l.reverse;rwa [List.reverse_reverse]at this
def Ha (m:Nat)(A R:List Sr)(c:AD):Sr :=
 if c.op=1 then A.getD c.num.toNat []else if c.op=3 then Dm (R.getD c.a.toNat []) (R.getD c.b.toNat [])else if c.op=4 then Ii (R.getD c.a.toNat []) (R.getD c.b.toNat [])
 else if c.op=5 then D9 (R.getD c.a.toNat []) (R.getD c.b.toNat [])else if c.op=7 then E6 (R.getD c.a.toNat []) 1000002
 else if c.op=6 then Da (R.getD c.a.toNat []) (R.getD c.b.toNat [])else JS m c.num
def CD (m:Nat)(A:List Sr)(cs:List AD):List Sr:=cs.foldl (fun R c=>R++[Ha m A R c]) []
section
variable {m:Nat} {A:List Sr}
theorem I3 (cs:List AD)(c:AD):CD m A (cs++[c])=CD m A cs++[Ha m A (CD m A cs) c]:=by unfold CD;rw[List.foldl_append];rfl
@[simp] theorem Cy (cs:List AD):(CD m A cs).length=cs.length:=by
 induction cs using Sj with
 |h0=>rfl
 |h1 l c ih=>rw[I3,z4,ih,z4];rfl
theorem Sk (cs l:List AD){k:Nat}(hk:k<cs.length):(CD m A (cs++l)).getD k []=(CD m A cs).getD k []:=by
 induction l using Sj with
 |h0=>rw[List.append_nil]
 |h1 l c ih=>rw[← List.append_assoc,I3,K5 (by rw[Cy,z4];omega),ih]
theorem PO (cs:List AD)(c:AD):(CD m A (cs++[c])).getD cs.length []=Ha m A (CD m A cs) c:=by rw[I3,KB (by rw[Cy])]
end
def ED (ni k:Nat)(c:AD):Prop :=
 (c.op=1∧c.a=0∧c.b=0∧0≤c.num∧c.num<((ni:Nat):Int))∨(c.op=2∧c.a=0∧c.b=0∧0≤c.num∧c.num<1000003) ∨
 ((c.op=3∨c.op=4∨c.op=5∨c.op=6)∧(0≤c.a∧c.a<((k:Nat):Int))∧(0≤c.b∧c.b<((k:Nat):Int))∧c.num=0)∨(c.op=7∧(0≤c.a∧c.a<((k:Nat):Int))∧c.b=0∧c.num=0)
theorem ED.bin {ni k:Nat}{op a b:Int}(h:op=3∨op=4∨op=5∨op=6)(ha:0≤a∧a<((k:Nat):Int))(hb:0≤b∧b<((k:Nat):Int)):ED ni k ⟨op,a,b,0⟩:=.inr (.inr (.inl ⟨h,ha,hb,rfl⟩))
theorem ED.neg {ni k:Nat}{a:Int}(ha:0≤a∧a<((k:Nat):Int)):ED ni k ⟨7,a,0,0⟩:=.inr (.inr (.inr ⟨rfl,ha,rfl,rfl⟩))
structure IM (m:Nat)(A:List Sr)(T:Tp):Prop where
 cl:T.code.length=T.vals.length
 ser:∀k,k<T.code.length→DP m ((CD m A T.code).getD k [])∧((CD m A T.code).getD k []).getD 0 0=T.vals.getD k 0
 form:∀k,k<T.code.length→ED A.length k (T.code.getD k AD.zero)
 dv:∀k,k<T.code.length→(T.code.getD k AD.zero).op=6→T.at (T.code.getD k AD.zero).b≠0
 gd:∀k,k<T.grd.length→(0≤(T.grd.getD k Ja.zero).reg∧(T.grd.getD k Ja.zero).reg<((T.vals.length:Nat):Int))∧(T.grd.getD k Ja.zero).z=decide (T.at (T.grd.getD k Ja.zero).reg=0)
def TE (T T':Tp):Prop:=(∃l,T'.code=T.code++l)∧∃l,T'.vals=T.vals++l
theorem TE.refl (T:Tp):TE T T:=⟨⟨[],by simp⟩,[],by simp⟩
theorem TE.trans {T T' T'':Tp}(h:TE T T')(k:TE T' T''):TE T T'':=by obtain⟨⟨l,h1⟩,l2,h2⟩:=h;obtain⟨⟨l3,h3⟩,l4,h4⟩:=k;exact⟨⟨l++l3,by rw[h3,h1,List.append_assoc]⟩,l2++l4,by rw[h4,h2,List.append_assoc]⟩
theorem TE.put (T:Tp)(c:AD)(v:Int):TE T (T.put c v):=⟨⟨[c],rfl⟩,[v],rfl⟩
theorem TE.guard (T:Tp)(r:Int)(z:Bool):TE T (T.guard r z):=⟨⟨[],by simp[Tp.guard]⟩,[],by simp[Tp.guard]⟩
section
variable {m:Nat} {A:List Sr} {T T':Tp}
theorem TE.reg (h:TE T T'){k:Nat}(hk:k<T.code.length):(CD m A T'.code).getD k []=(CD m A T.code).getD k []:=by obtain⟨⟨l,h1⟩,_⟩:=h;rw[h1,Sk _ _ hk]
theorem TE.at (h:TE T T'){r:Int}(hr:0≤r∧r<((T.vals.length:Nat):Int)):T'.at r=T.at r:=by obtain⟨_,l,h1⟩:=h;unfold Tp.at;rw[h1,K5 (by omega)]
theorem TE.len (h:TE T T'):T.code.length≤T'.code.length∧T.vals.length≤T'.vals.length:=by obtain⟨⟨l,h1⟩,l2,h2⟩:=h;rw[h1,h2,z4,z4];omega
def Rl (m:Nat)(A:List Sr)(T:Tp)(r:Int)(z:Sr):Prop:=(0≤r∧r<((T.vals.length:Nat):Int))∧z=(CD m A T.code).getD r.toNat []
def PP (m:Nat)(A:List Sr)(n:Nat)(T:Tp)(rs:List Int)(zsq:List Sr):Prop:=rs.length=n∧zsq.length=n∧∀i,i<n→Rl m A T (rs.getD i 0) (zsq.getD i [])
theorem Rl.mono {r:Int}{z:Sr}(hc:T.code.length=T.vals.length)(h:Rl m A T r z)(k:TE T T'):Rl m A T' r z:=by have:=k.len;exact⟨by have:=h.1;omega,by rw[k.reg (by have:=h.1;omega)];exact h.2⟩
theorem PP.mono {n:Nat}{rs:List Int}{zsq:List Sr}(hc:T.code.length=T.vals.length)(h:PP m A n T rs zsq)(k:TE T T'):PP m A n T' rs zsq:=⟨h.1,h.2.1,fun i hi=>(h.2.2 i hi).mono hc k⟩
theorem PP.snoc {n:Nat}{rs:List Int}{zsq:List Sr}{r:Int}{z:Sr}(h:PP m A n T rs zsq)(h1:Rl m A T r z):PP m A (n+1) T (rs++[r]) (zsq++[z]):=by refine⟨by simp[h.1],by simp[h.2.1],fun i hi=>?_⟩;by_cases e:i=n;rw[KB (by rw[h.1];exact e),KB (by rw[h.2.1];exact e)];exact h1;rw[K5 (by rw[h.1];omega),K5 (by rw[h.2.1];omega)];exact h.2.2 i zO
theorem Rl.at (hI:IM m A T){r:Int}{z:Sr}(h:Rl m A T r z):DP m z∧z.getD 0 0=T.at r:=by have:=hI.ser r.toNat (by rw[hI.cl];have:=h.1;omega);rw[h.2];exact this
def JW {α β:Type}(m:Nat)(A:List Sr)(T:Tp)(R:Tp→α→β→Prop)(r:Rs (α×Tp))(rz:Rs β):Prop:=match r with
 |.ok x t=>∃z,rz=.ok z t∧IM m A x.2∧TE T x.2∧R x.2 x.1 z
 |.err c=>rz=.err c
theorem JW.bind {α β α' β':Type}{R:Tp→α→β→Prop}{R':Tp→α'→β'→Prop}{r:Rs (α×Tp)}{rz:Rs β}{g:α×Tp→Nat→Rs (α'×Tp)}{gz:β→Nat→Rs β'}(h:JW m A T R r rz)
  (hg:∀x T' z t,IM m A T'→TE T T'→R T' x z→JW m A T' R' (g (x,T') t) (gz z t)):JW m A T R' (r.bind g) (rz.bind gz):=by
 cases r with
 |err c=>have h9:rz=.err c:=h;subst h9;exact rfl
 |ok x t =>
  obtain⟨z,h1,h2,h3,h4⟩:=h;subst h1;have h5:=hg x.1 x.2 z t h2 h3 h4;rw[Rs.bind_ok,Rs.bind_ok];cases hr:g x t with
  |err c=>rw[hr]at h5;exact h5
  |ok y u =>
   rw[hr]at h5;obtain⟨v,q1,q2,q3,q4⟩:=h5;exact⟨v,q1,q2,h3.trans q3,q4⟩
theorem JW.ret {α β:Type}{R:Tp→α→β→Prop}{x:α}{z:β}{t:Nat}(hI:IM m A T')(hE:TE T T')(h:R T' x z):JW m A T R (.ok (x,T') t) (.ok z t):=⟨z,rfl,hI,hE,h⟩
theorem IM.put (h:IM m A T){c:AD}{v:Int}(hs:DP m (Ha m A (CD m A T.code) c))(hv:(Ha m A (CD m A T.code) c).getD 0 0=v)(hf:ED A.length T.code.length c)(hd:c.op=6→T.at c.b≠0):IM m A (T.put c v):=by
 have hE:=TE.put T c v;have hcl:=h.cl;have key:∀k,k<(T.put c v).code.length→k<T.code.length∨k=T.code.length:=fun k hk=>by rw[TL]at hk;omega
 have cg:∀k,k<T.code.length→(T.put c v).code.getD k AD.zero=T.code.getD k AD.zero:=fun k hk=>K5 hk;have cn:(T.put c v).code.getD T.code.length AD.zero=c:=KB rfl;refine⟨by rw[TL,Ff,hcl],fun k hk=>?_,fun k hk=>?_,fun k hk h6=>?_,fun k hk=>?_⟩;rcases key k hk with hk|rfl;rw[hE.reg hk,show(T.put c v).vals.getD k 0=T.vals.getD k 0 from K5 (by omega)];exact h.ser k hk;rw[show(CD m A (T.put c v).code).getD T.code.length []=_ from PO _ _,show(T.put c v).vals.getD T.code.length 0=v from KB hcl];exact⟨hs,hv⟩;rcases key k hk with hk|rfl;rw[cg k hk];exact h.form k hk;rw[cn];exact hf;rcases key k hk with hk|rfl;rw[cg k hk]at h6 ⊢;have:=h.form k hk;unfold ED at this;rw[hE.at (by omega)];exact h.dv k hk h6;rw[cn]at h6 ⊢;unfold ED at hf;rw[hE.at (by omega)];exact hd h6;have:=h.gd k hk;rw[Yq]at hk ⊢;refine⟨by rw[Ff];omega,?_⟩;rw[hE.at this.1];exact this.2
theorem IM.guard (h:IM m A T){r:Int}(hr:0≤r∧r<((T.vals.length:Nat):Int)):IM m A (T.guard r (decide (T.at r=0))):=by refine⟨h.cl,h.ser,h.form,h.dv,fun k hk=>?_⟩;rw[O0]at hk;by_cases e:k<T.grd.length;rw[show(T.guard r (decide (T.at r=0))).grd.getD k Ja.zero=T.grd.getD k Ja.zero from K5 e];exact h.gd k e;rw[show(T.guard r (decide (T.at r=0))).grd.getD k Ja.zero=⟨r,decide (T.at r=0)⟩from KB (by omega)];exact⟨hr,rfl⟩
theorem JW.put {R:Tp→Int→Sr→Prop}{c:AD}{v:Int}{z:Sr}{t:Nat}(h:IM m A T)(hz:Ha m A (CD m A T.code) c=z)(hs:DP m z)(hv:z.getD 0 0=v)(hf:ED A.length T.code.length c)(hd:c.op=6→T.at c.b≠0)
  (hR:∀T' r z,Rl m A T' r z→R T' r z):JW m A T R (.ok (((T.vals.length:Nat):Int),T.put c v) t) (.ok z t):=by
 subst hz;refine JW.ret (h.put hs hv hf hd) (TE.put T c v)<|hR _ _ _ ⟨by rw[Ff];omega,?_⟩;rw[Int.toNat_natCast,← h.cl];exact(PO _ _).symm
theorem mY (hm:1≤m)(h:IM m A T){k:Int}{n t:Nat}{rs:List Int}{zsq:List Sr}(hr:PP m A n T rs zsq)(hk:3≤k∧k≤7)(h1:k=7→1≤n)(h2:k≠7→2≤n):JW m A T (Rl m A) (TJ k rs t T) (Ri k zsq t):=by
 have hn1:1≤n:=by by_cases e:k=7;exact h1 e;have:=h2 e;omega
 have ha:=hr.2.2 0 zO;have hA:=ha.at h;have hal:=hA.1.1;have hac:=ha.1;have hcl:=h.cl;have fin:∀T' r z,Rl m A T' r z→Rl m A T' r z:=fun _ _ _ h=>h;by_cases k7:k=7;subst k7;rw[Jb (eO rfl),TK rfl];refine JW.put h ?_ ⟨(J3 _ _).trans hal,HY _ _⟩ ?_ (ED.neg zO) (fun h6=>absurd (show(7:Int)=6 from h6) (by decide)) fin;rw[ha.2];rfl;rw[mV zO,hA.2];show md (T.at (rs.getD 0 0)*1000002)=md (0-T.at (rs.getD 0 0));unfold md;omega;have hb:=hr.2.2 1<|h2 k7;have hB:=hb.at h;have hbl:=hB.1.1;have hbc:=hb.1;by_cases k3:k=3;subst k3;rw[Jb (fun h=>h.1 rfl),Hz (by decide)];refine JW.put h ?_ ⟨(HX _ _).trans hal,NI _ _⟩ ?_ (ED.bin (.inl rfl) zO zO) (fun h6=>absurd (show(3:Int)=6 from h6) (by decide)) fin;rw[ha.2,hb.2];rfl;rw[mT zO,hA.2,hB.2];rfl;by_cases k4:k=4;subst k4;rw[Jb (fun h=>h.2.1 rfl),Hz (by decide)];refine JW.put h ?_ ⟨(J4 _ _).trans hal,NJ _ _⟩ ?_ (ED.bin (.inr<|.inl rfl) zO zO) (fun h6=>absurd (show(4:Int)=6 from h6) (by decide)) fin;rw[ha.2,hb.2];rfl;rw[mU zO,hA.2,hB.2];rfl;by_cases k5:k=5;subst k5;rw[Jb (fun h=>h.2.2.1 rfl),Hz (by decide)];refine JW.put h ?_ ⟨(GU _ _).trans hal,J2 _ _⟩ ?_ (ED.bin (.inr<|.inr<|.inl rfl) zO zO) (fun h6=>absurd (show(5:Int)=6 from h6) (by decide)) fin;rw[ha.2,hb.2];rfl;rw[Si zO,hA.2,hB.2,Int.zero_add];rfl;have k6:k=6:=by omega
 subst k6;by_cases hz:T.at (rs.getD 1 0)=0;rw[Qq (by rw[Hz (by decide)];exact⟨by decide,by decide,by decide,by decide,hz⟩)];show Ri 6 zsq t=.err 6;show(if (zsq.getD 1 []).getD 0 0=0 then _ else _)=_;rw[if_pos (by rw[hB.2];exact hz)];rw[Jb (by rw[Hz (by decide)];exact fun h9=>hz h9.2.2.2.2),Hz (by decide)];have e:Ri 6 zsq t=.ok (Da (zsq.getD 0 []) (zsq.getD 1 [])) t:=by
  show(if (zsq.getD 1 []).getD 0 0=0 then _ else _)=_;rw[if_neg (by rw[hB.2];exact hz)]
 rw[e];refine JW.put h ?_ ⟨(Eu _ _).trans hal,HW _ _⟩ ?_ (ED.bin (.inr<|.inr<|.inr rfl) zO zO) (fun _=>hz) fin;rw[ha.2,hb.2];rfl;rw[YI zO,hA.2,hB.2];rfl
end
structure qO (m:Nat)(A:List Sr)(p:List Fn)(F:Nat)(G:Cg)(C:Ca):Prop where
 one:∀f j n T rs zsq t,f<F→j<(p.getD f Fn.zero).outs.length→IM m A T→PP m A n T rs zsq→((n:Nat):Int)=(p.getD f Fn.zero).params→JW m A T (Rl m A) (G.one f j rs t T) (C.one f j zsq t)
 all:∀f n T rs zsq t,f<F→IM m A T→PP m A n T rs zsq→((n:Nat):Int)=(p.getD f Fn.zero).params→JW m A T (PP m A (p.getD f Fn.zero).outs.length) (G.all f rs t T) (C.all f zsq t)
section
variable {m:Nat} {A:List Sr} {p:List Fn}
theorem YL {G:Cg}{C:Ca}{env:List Int}{ez:List Sr}{n:Nat}:∀(l:List Ex),(∀e∈l,∀s T,IM m A T→PP m A n T env ez→JW m A T (Rl m A) (ET G e env s T) (DL m C e ez s))→∀s T,IM m A T→PP m A n T env ez→JW m A T (PP m A l.length) (Fe G l env s T) (EX m C l ez s)
 |[],_,s,T,hI,he=>by
  rw[Fe,EX]
  exact JW.ret hI (TE.refl T) ⟨rfl,rfl,fun i hi=>absurd hi<|Nat.not_lt_zero i⟩
 |e::l,h,s,T,hI,he=>by
  rw[Fe,EX]
  refine (h e (by simp) s T hI he).bind fun x T1 z t h1 h2 h3=>?_
  refine (YL l (fun e' he'=>h e' (by simp[he'])) t T1 h1<|he.mono hI.cl h2).bind fun xs T2 zsq u q1 q2 q3=>?_
  refine JW.ret q1 (TE.refl T2) ⟨by simp[q3.1],by simp[q3.2.1],fun i hi=>?_⟩
  cases i with
  |zero=>exact h3.mono h1.cl q2
  |succ i=>exact q3.2.2 i (by simpa using hi)
theorem YM {F f:Nat}{G:Cg}{C:Ca}(hC:qO m A p F G C)(hf:f<F)(ho:(((p.getD f Fn.zero).outs.length:Nat):Int)=(p.getD f Fn.zero).params):∀(c:Nat)(rs:List Int)(zsq:List Sr)(t:Nat)(T:Tp),IM m A T→PP m A (p.getD f Fn.zero).outs.length T rs zsq →
  JW m A T (PP m A (p.getD f Fn.zero).outs.length) (EL (G.all f) c rs t T) (MD (C.all f) c zsq t)
 |0,rs,zsq,t,T,hI,h=>JW.ret hI (TE.refl T) h
 |c+1,rs,zsq,t,T,hI,h=>(YM hC hf ho c rs zsq t T hI h).bind fun x T1 z u h1 h2 h3=>hC.all f _ T1 x z u hf h1 h3 ho
theorem YN (hm:1≤m){F:Nat}{G:Cg}{C:Ca}(hC:qO m A p F G C):∀(z:Nat)(e:Ex),e.size≤z→∀(n:Nat)(env:List Int)(ez:List Sr)(s:Nat)(T:Tp),wf p ((F:Nat):Int) e ((n:Nat):Int)=true→IM m A T→PP m A n T env ez →
  JW m A T (Rl m A) (ET G e env s T) (DL m C e ez s)
 |0,e,h,_,_,_,_,_,_,_,_=>by have:=DT e;omega
 |z+1,e,h,n,env,ez,s,T,hw,hI,he=>by
  obtain⟨w1,w2,w3,w4,w5,w6,w7,w8⟩:=DM (Dy hw)
  have hz:∀j,j<e.kids.length→(e.kids.getD j Ex.zero).size≤z:=fun j hj=>by
   have:=DT e;have:=Nw hj;omega
  have hk:∀j,j<e.kids.length→¬(e.kind=9∧j=1)→∀t T',IM m A T'→PP m A n T' env ez→JW m A T' (Rl m A) (PG G e.kids j env t T') (Rj m C e.kids j ez t):=fun j hj hn t T' h1 h2=>by
   rw[En _ _ _ _ _ _ hj,FD _ _ _ _ _ _ hj]
   exact YN hm hC z _ (hz j hj) n env ez t T' (CI hw hj hn) h1 h2
  rw[EM,Ij]
  by_cases hs3:3000≤s
  rw[if_pos hs3,if_pos hs3];exact rfl
  rw[if_neg hs3,if_neg hs3]
  by_cases k1:e.kind=1
  rw[if_pos k1,if_pos k1]
  have:=w8 k1
  exact JW.put hI rfl (GE<|Dk.2 this) (cL hm) (.inr<|.inl ⟨rfl,rfl,rfl,this⟩) (fun h6=>absurd (show(2:Int)=6 from h6) (by decide)) fun _ _ _ h=>h
  rw[if_neg k1,if_neg k1]
  by_cases k2:e.kind=2
  rw[if_pos k2,if_pos k2]
  exact JW.ret hI (TE.refl T)<|he.2.2 _ (by have:=w2 k2;omega)
  rw[if_neg k2,if_neg k2]
  by_cases k8:e.kind=8
  rw[if_pos k8,if_pos k8]
  have h3:=w5 k8
  refine (hk 0 zO zO (s+1) T hI he).bind fun x T1 y t h1 h2 hx=>?_
  have hq:=(hx.at h1).2
  have he1:=he.mono hI.cl h2
  dsimp only
  have fin:∀ {r:Rs RI} {rz:Rs Sr} {b:Bool},JW m A (T1.guard x b) (Rl m A) r rz→JW m A T1 (Rl m A) r rz:=fun {r rz b} hh=>by
   cases r with
   |err c=>exact hh
   |ok v u=>obtain⟨q,a1,a2,a3,a4⟩:=hh;exact⟨q,a1,a2,(TE.guard T1 x b).trans a3,a4⟩
  have hg:=h1.guard hx.1
  by_cases h0:T1.at x=0
  rw[if_pos h0,if_pos (by rw[hq];exact h0)]
  rw[A5 h0]at hg
  exact fin<|hk 1 zO zO t _ hg<|he1.mono h1.cl<|TE.guard T1 x true
  rw[if_neg h0,if_neg (by rw[hq];exact h0)]
  rw[A6 h0]at hg
  exact fin<|hk 2 zO zO t _ hg<|he1.mono h1.cl<|TE.guard T1 x false
  rw[if_neg k8,if_neg k8]
  by_cases k9:e.kind=9
  rw[if_pos k9,if_pos k9]
  have h3:=w3 zO
  refine (hk 0 zO zO (s+1) T hI he).bind fun x T1 y t h1 h2 hx=>?_
  dsimp only
  rw[En _ _ _ _ _ _ (show 1<e.kids.length by omega),FD _ _ _ _ _ _ (show 1<e.kids.length by omega)]
  refine YN hm hC z _ (hz 1 zO) (n+1) (env++[x]) (ez++[y]) t T1 ?_ h1<|(he.mono hI.cl h2).snoc hx
  have:=J5 hw zO k9
  rw[Int.natCast_add];exact this
  rw[if_neg k9,if_neg k9]
  have hc:=YL (G:=G) (C:=C) (env:=env) (ez:=ez) (n:=n) e.kids (fun x hx t T' h1 h2=>by
   obtain⟨j,hj,rfl⟩:=List.mem_iff_getElem.1 hx
   have:=hk j hj zO t T' h1 h2
   rw[En _ _ _ _ _ _ hj,FD _ _ _ _ _ _ hj,IA hj]at this
   exact this) (s+1) T hI he
  refine hc.bind fun xs T1 zsq t h1 h2 hx=>?_
  dsimp only
  by_cases k10:e.kind=10
  rw[if_pos k10,if_pos k10]
  have h6:=w6<|.inl k10
  exact hC.one _ _ _ T1 xs zsq t zO zO h1 hx (by exact h6.2.2.1)
  rw[if_neg k10,if_neg k10]
  by_cases k11:e.kind=11
  rw[if_pos k11,if_pos k11]
  have h6:=w6 (.inr k11);have h7:=w7 k11
  have hl:e.kids.length=(p.getD e.num.toNat Fn.zero).outs.length:=by omega
  rw[hl]at hx
  refine (YM hC (f:=e.num.toNat) zO h7.1 e.count.toNat xs zsq t T1 h1 hx).bind fun ys T2 ws u q1 q2 q3=>?_
  exact JW.ret q1 (TE.refl T2)<|q3.2.2 _ zO
  rw[if_neg k11,if_neg k11]
  exact mY hm h1 hx zO (fun h7=>by rw[w4 h7];decide) fun h7=>by rw[w3 (by omega)];decide
theorem eU (hm:1≤m)(hv:Hs p):∀F,F≤p.length→qO m A p F (I2 p F) (Gt p m F)
 |0,_=>⟨fun f j n T rs zsq t h=>by omega,fun f n T rs zsq t h=>by omega⟩
 |F+1,hF=>by
  have ih:=eU hm hv F zO
  have hO:∀j n T rs zsq t,j<(p.getD F Fn.zero).outs.length→IM m A T→PP m A n T rs zsq→((n:Nat):Int)=(p.getD F Fn.zero).params→JW m A T (Rl m A) (ET (I2 p F) ((p.getD F Fn.zero).outs.getD j Ex.zero) rs t T) (DL m (Gt p m F) ((p.getD F Fn.zero).outs.getD j Ex.zero) zsq t):=fun j n T rs zsq t h2 h1 h3 h4 =>
   YN hm ih _ _ (A7 _) n rs zsq t T (by rw[h4];exact hv.wf F zO j h2) h1 h3
  refine⟨fun f j n T rs zsq t h1 h2 h0 h3 h4=>?_,fun f n T rs zsq t h1 h0 h3 h4=>?_⟩
  show JW m A T _ (if f=F then _ else _) (if f=F then _ else _)
  by_cases e:f=F
  subst e;rw[if_pos rfl,if_pos rfl];exact hO j n T rs zsq t h2 h0 h3 h4
  rw[if_neg e,if_neg e];exact ih.one f j n T rs zsq t zO h2 h0 h3 h4
  show JW m A T _ (if f=F then _ else _) (if f=F then _ else _)
  by_cases e:f=F
  subst e;rw[if_pos rfl,if_pos rfl]
  refine YL (n:=n) _ (fun e he s T' h5 h6=>?_) t T h0 h3
  obtain⟨j,hj,rfl⟩:=List.mem_iff_getElem.1 he
  have:=hO j n T' rs zsq s hj h5 h6 h4
  rwa [IA hj]at this
  rw[if_neg e,if_neg e];exact ih.all f n T rs zsq t zO h0 h3 h4
theorem eV {a:List Int}(hn:Bl a=true)(hA:TP m a A):∀k,k≤a.length→IM m A (IL a k)
 |0,_=>⟨rfl,fun k hk=>absurd hk (Nat.not_lt_zero k),fun k hk=>absurd hk (Nat.not_lt_zero k),fun k hk=>absurd hk (Nat.not_lt_zero k),fun k hk=>absurd hk (Nat.not_lt_zero k)⟩
 |k+1,h=>by
  have e:Ha m A (CD m A (IL a k).code) ⟨1,0,0,((k:Nat):Int)⟩=A.getD k []:=by
   show A.getD (((k:Nat):Int)).toNat []=_;rw[Int.toNat_natCast]
  refine (eV hn hA k zO).put ?_ ?_ (.inl ⟨rfl,rfl,rfl,Int.natCast_nonneg k,by rw[hA.len];exact Int.ofNat_lt.2 h⟩) fun h6=>absurd (show(1:Int)=6 from h6) (by decide);rw[e];exact hA.ser k h;rw[e];exact hA.at0 k h
theorem mZ {a:List Int}(hA:TP m a A):PP m A a.length (IL a a.length) (Gu a.length) A:=by
 have hr:∀k,k≤a.length→∀j,j<k→(CD m A (IL a k).code).getD j []=A.getD j []:=fun k=>by
  induction k with
  |zero=>exact fun _ j hj=>absurd hj (Nat.not_lt_zero j)
  |succ k ih =>
   intro hk j hj;show(CD m A ((IL a k).code++[_])).getD j []=_;rw[I3];by_cases e:j=k;rw[KB (by rw[Cy,Mb];exact e),e];show A.getD (((k:Nat):Int)).toNat []=_;rw[Int.toNat_natCast];rw[K5 (by rw[Cy,Mb];omega)];exact ih zO j zO
 refine⟨Ef _,hA.len,fun i hi=>?_⟩;rw[Sc hi];exact⟨by rw[HA];omega,by rw[Int.toNat_natCast,hr _ (A7 _) i hi]⟩
theorem UZ {a:List Int}{f:Nat}(hm:1≤m)(hv:Hs p)(hf:f<p.length)(hn:Bl a=true)(hA:TP m a A)(hl:((a.length:Nat):Int)=(p.getD f Fn.zero).params) :
  JW m A (IL a a.length) (PP m A (p.getD f Fn.zero).outs.length) (MK p f a) (ev p m f A):=by
 have h:=(eU (A:=A) hm hv (f+1) zO).all f a.length (IL a a.length) (Gu a.length) A 0 zO (eV hn hA _<|A7 _) (mZ hA) hl;rw[Lo (show f<f+1 by omega),JT (show f<f+1 by omega)]at h;exact h
theorem O6 {a:List Int}{f:Nat}(hm:1≤m)(hv:Hs p)(hf:f<p.length)(hn:Bl a=true)(hA:TP m a A)(hl:((a.length:Nat):Int)=(p.getD f Fn.zero).params){xs:List Int}{T:Tp}{s:Nat}{c:Int}(h:AK (MK p f a) (xs,T) s c):Tx p m f A=c:=by
 have hT:=UZ hm hv hf hn hA hl;cases hr:MK p f a with
 |err d =>
  rw[hr]at h hT;have h9:ev p m f A=.err d:=hT;rw[Ln h9];exact h.1.symm
 |ok x t =>
  rw[hr]at h hT;obtain⟨z,h1,_⟩:=hT;rw[NT h1];exact h.2.2.symm
theorem YO {a:List Int}{f:Nat}(hm:1≤m)(hv:Hs p)(hf:f<p.length)(hn:Bl a=true)(hA:TP m a A)(hl:((a.length:Nat):Int)=(p.getD f Fn.zero).params){xs:List Int}{T:Tp}{s:Nat}{c:Int}(h:AK (MK p f a) (xs,T) s c)(hc:c=0) :
  IM m A T∧Ya p m f A=xs.map fun r=>(CD m A T.code).getD r.toNat []:=by
 have hT:=UZ hm hv hf hn hA hl;subst hc;have hr:=h.ok;rw[hr]at hT;obtain⟨z,h1,h2,h3,h4⟩:=hT;refine⟨h2,?_⟩;rw[NS h1];refine qN (by rw[h4.2.1,zg,h4.1]) fun i hi=>?_;rw[h4.2.1]at hi;rw[Et (d:=0) (by rw[h4.1];exact hi)];exact (h4.2.2 i hi).2
end
end
section
def ML (m:Nat)(A:List Sr)(cs:List AD)(k:Nat):Prop:=∀j,j<k→(cs.getD j AD.zero).op=6→((CD m A (cs.take j)).getD (cs.getD j AD.zero).b.toNat []).getD 0 0≠0
section
variable {m k:Nat} {A R:List Sr} {cs:List AD} {c:AD}
theorem CO (hk:k<cs.length):CD m A (cs.take (k+1))=CD m A (cs.take k)++[Ha m A (CD m A (cs.take k)) (cs.getD k AD.zero)]:=by rw[CW AD.zero hk,I3]
theorem Qs (h:c.op=1):Ha m A R c=A.getD c.num.toNat []:=if_pos h
theorem O7 (h:c.op=3):Ha m A R c=Dm (R.getD c.a.toNat []) (R.getD c.b.toNat []):=by unfold Ha;rw[if_neg zO,if_pos h]
theorem O8 (h:c.op=4):Ha m A R c=Ii (R.getD c.a.toNat []) (R.getD c.b.toNat []):=by unfold Ha;rw[if_neg zO,if_neg zO,if_pos h]
theorem O9 (h:c.op=5):Ha m A R c=D9 (R.getD c.a.toNat []) (R.getD c.b.toNat []):=by unfold Ha;rw[if_neg zO,if_neg zO,if_neg zO,if_pos h]
theorem Oa (h:c.op=7):Ha m A R c=E6 (R.getD c.a.toNat []) 1000002:=by unfold Ha;rw[if_neg zO,if_neg zO,if_neg zO,if_neg zO,if_pos h]
theorem Ob (h:c.op=6):Ha m A R c=Da (R.getD c.a.toNat []) (R.getD c.b.toNat []):=by unfold Ha;rw[if_neg zO,if_neg zO,if_neg zO,if_neg zO,if_neg zO,if_pos h]
theorem Oc (h:c.op≠1∧c.op≠3∧c.op≠4∧c.op≠5∧c.op≠7∧c.op≠6):Ha m A R c=JS m c.num:=by unfold Ha;rw[if_neg h.1,if_neg h.2.1,if_neg h.2.2.1,if_neg h.2.2.2.1,if_neg h.2.2.2.2.1,if_neg h.2.2.2.2.2]
theorem YP (hA:CN m A)(hR:CN m R)(hl:R.length=k)(h:ED A.length k c):DP m (Ha m A R c):=by have hg:∀x:Int,0≤x→x<((k:Nat):Int)→DP m (R.getD x.toNat []):=fun x h0 h1=>hR _ zO;rcases h with⟨h1,_,_,h2,h3⟩|⟨h1,_,_,h2,h3⟩|⟨h1,h2,h3,_⟩|⟨h1,h2,_⟩;rw[Qs h1];exact hA _ zO;rw[Oc (by omega)];exact GE (Dk.2 ⟨h2,h3⟩);have ha:=hg c.a h2.1 h2.2;rcases h1 with h1|h1|h1|h1;rw[O7 h1];exact I1 ha;rw[O8 h1];exact NO ha;rw[O9 h1];exact J7 ha;rw[Ob h1];exact J8 ha;rw[Oa h1];exact NP (hg c.a h2.1 h2.2)
theorem V0 (h:CN m (CD m A (cs.take k)))(hA:CN m A)(hf:ED A.length k (cs.getD k AD.zero))(hk:k<cs.length):CN m (CD m A (cs.take (k+1))):=by rw[CO hk];exact CN.snoc h<|YP hA h (by rw[Cy,List.length_take];omega) hf
theorem jL:ML m A cs 0:=fun j hj=>absurd hj (Nat.not_lt_zero j)
theorem cM (h:ML m A cs k)(hk:(cs.getD k AD.zero).op≠6):ML m A cs (k+1):=fun j hj h6=>by
 by_cases e:j=k
 subst e;exact absurd h6 hk
 exact h j zO h6
theorem cN (h:ML m A cs k)(hk:((CD m A (cs.take k)).getD (cs.getD k AD.zero).b.toNat []).getD 0 0≠0):ML m A cs (k+1):=fun j hj h6=>by
 by_cases e:j=k
 subst e;exact hk
 exact h j zO h6
theorem YQ {n:Nat}(hk:k<n)(h6:(cs.getD k AD.zero).op=6)(hz:((CD m A (cs.take k)).getD (cs.getD k AD.zero).b.toNat []).getD 0 0=0):¬ML m A cs n:=fun h=>h k hk h6 hz
end
theorem IM.nz {m:Nat}{A:List Sr}{T:Tp}(h:IM m A T):ML m A T.code T.code.length:=fun j hj h6=>by
 have hf:=h.form j hj
 have hd:=h.dv j hj h6
 unfold ED at hf
 have hb:(T.code.getD j AD.zero).b.toNat<j:=by omega
 have hs:=(h.ser (T.code.getD j AD.zero).b.toNat zO).2
 have e:(CD m A (T.code.take j)).getD (T.code.getD j AD.zero).b.toNat []=(CD m A T.code).getD (T.code.getD j AD.zero).b.toNat []:=by
  have h9:=Sk (m:=m) (A:=A) (T.code.take j) (T.code.drop j) (k:=(T.code.getD j AD.zero).b.toNat) (by rw[List.length_take];omega);rw[List.take_append_drop]at h9;exact h9.symm
 rw[e,hs];exact hd
section io
variable {ni k:Nat} {c:AD}
theorem ED.i1 (h:ED ni k c)(h1:c.op=1):(0≤c.num∧c.num<((ni:Nat):Int)):=by unfold ED at h;omega
theorem ED.i2 (h:ED ni k c)(h1:3≤c.op∧c.op≤6):(0≤c.a∧c.a<((k:Nat):Int))∧(0≤c.b∧c.b<((k:Nat):Int)):=by unfold ED at h;omega
theorem ED.i7 (h:ED ni k c)(h1:c.op=7):(0≤c.a∧c.a<((k:Nat):Int)):=by unfold ED at h;omega
theorem ED.i0 (h:ED ni k c):1≤c.op∧c.op≤7:=by unfold ED at h;omega
end io
theorem Jd {S:List Nat}{H:Array Obj}{cs:List Value}{x:AD}(h:RN S P1 H cs x):cs=mM x∧TF x:=by obtain⟨F,h,_⟩:=h;exact⟨h.1,h.2.1⟩
theorem YS {S:List Nat}{H:Array Obj}{cs:List Value}{x:Ja}(h:RN S Pc H cs x):cs=mN x∧Bw x.reg:=by obtain⟨F,h,_⟩:=h;exact⟨h.1,h.2.1⟩
def qP (m:Nat)(A:List Sr)(cs:List AD)(c:Int):Prop:=(c=0∧ML m A cs cs.length)∨(c=6∧¬ML m A cs cs.length)
end
section
def Gf (B:List Sr)(r:Int)(s:Sr):List Sr:=B.set r.toNat (Dm (B.getD r.toNat []) s)
def Pd (cs:List AD)(R:List Sr)(k:Nat)(B:List Sr):List Sr :=
 if (cs.getD k AD.zero).op=3 then Gf (Gf B (cs.getD k AD.zero).a (B.getD k [])) (cs.getD k AD.zero).b (B.getD k [])
 else if (cs.getD k AD.zero).op=4 then Gf (Gf B (cs.getD k AD.zero).a (B.getD k [])) (cs.getD k AD.zero).b (E6 (B.getD k []) 1000002)
 else if (cs.getD k AD.zero).op=5 then Gf (Gf B (cs.getD k AD.zero).a (D9 (B.getD k []) (R.getD (cs.getD k AD.zero).b.toNat []))) (cs.getD k AD.zero).b (D9 (B.getD k []) (R.getD (cs.getD k AD.zero).a.toNat []))
 else if (cs.getD k AD.zero).op=6 then Gf (Gf B (cs.getD k AD.zero).a (Da (B.getD k []) (R.getD (cs.getD k AD.zero).b.toNat []))) (cs.getD k AD.zero).b (E6 (D9 (Da (B.getD k []) (R.getD (cs.getD k AD.zero).b.toNat [])) (R.getD k [])) 1000002)
 else if (cs.getD k AD.zero).op=7 then Gf B (cs.getD k AD.zero).a (E6 (B.getD k []) 1000002)else B
def Xr (cs:List AD)(R:List Sr):Nat→List Sr→List Sr
 |0,B=>B
 |k+1,B=>Xr cs R k (Pd cs R k B)
def Rm (os:List Int)(ws:List Int):Nat→List Sr→List Sr
 |0,B=>B
 |k+1,B=>(Rm os ws k B).set (os.getD k 0).toNat (((Rm os ws k B).getD (os.getD k 0).toNat []).set 0 (md (((Rm os ws k B).getD (os.getD k 0).toNat []).getD 0 0+ws.getD k 0)))
def Od (R:List Sr):List Sr:=R.map fun s=>List.replicate s.length 0
def K8 (cs:List AD)(R:List Sr)(os ws:List Int):List Sr:=Xr cs R cs.length (Rm os ws os.length (Od R))
section
variable {m:Nat} {cs:List AD} {R B:List Sr} {os ws:List Int}
theorem JX (h:CN m R):CN m (Od R):=fun k hk=>by
 have hk':k<R.length:=by unfold Od at hk;simpa using hk
 have e:(Od R).getD k []=List.replicate (R.getD k []).length 0:=by unfold Od;simp[List.getD_eq_getElem?_getD,List.getElem?_map,hk']
 rw[e]
 exact⟨by rw[z5];exact(h k hk').1,NK _⟩
@[simp] theorem Eg:(Od R).length=R.length:=by simp[Od]
@[simp] theorem EE (k:Nat):(Rm os ws k B).length=B.length:=by
 induction k with
 |zero=>rfl
 |succ k ih=>show((Rm os ws k B).set _ _).length=_;rw[z6,ih]
theorem CN.set {k:Nat}{s:Sr}(h:CN m B)(hs:DP m s):CN m (B.set k s):=fun j hj=>by
 rw[z6]at hj
 by_cases e:j=k
 rw[e,GT _ _ _ _ _ zO,if_pos rfl];exact hs
 rw[show(B.set k s).getD j []=B.getD j []from by rw[List.getD_eq_getElem?_getD,List.getElem?_set_ne (fun h=>e h.symm),← List.getD_eq_getElem?_getD]];exact h j hj
theorem Md {s:Sr}{y:Int}(h:Bl s=true)(hy:0≤y∧y<1000003):Bl (s.set 0 y)=true:=by
 cases s with
 |nil=>rfl
 |cons x s =>
  rw[List.set_cons_zero];unfold Bl at h ⊢;rw[List.all_cons]at h ⊢;have:=Bool.and_eq_true_iff.1 h;rw[this.2,Bool.and_true];exact Dk.2 hy
theorem Il (h:CN m B)(ho:∀k,k<os.length→(os.getD k 0).toNat<B.length):∀k,k≤os.length→CN m (Rm os ws k B)
 |0,_=>h
 |k+1,hk=>by
  have ih:=Il h ho k zO
  have h9:=ih (os.getD k 0).toNat (by rw[EE];exact ho k zO)
  exact ih.set ⟨by rw[z6];exact h9.1,Md h9.2<|CU _⟩
@[simp] theorem CE {r:Int}{s:Sr}:(Gf B r s).length=B.length:=by unfold Gf;rw[z6]
theorem Dd {r:Int}{s:Sr}(h:CN m B)(hr:r.toNat<B.length):CN m (Gf B r s):=h.set (I1 (h _ hr))
theorem Qt (k:Nat):(Pd cs R k B).length=B.length:=by unfold Pd;split;rw[CE,CE];split;rw[CE,CE];split;rw[CE,CE];split;rw[CE,CE];split;rw[CE];rfl
theorem Fh {ni k:Nat}(h:CN m B)(hk:k≤B.length)(hf:ED ni k (cs.getD k AD.zero)):CN m (Pd cs R k B):=by have h2:=fun h9=>hf.i2 h9;have h7:=fun h9=>hf.i7 h9;unfold Pd;split;have:=h2 (by omega);exact Dd (Dd h zO) (by rw[CE];omega);split;have:=h2 (by omega);exact Dd (Dd h zO) (by rw[CE];omega);split;have:=h2 (by omega);exact Dd (Dd h zO) (by rw[CE];omega);split;have:=h2 (by omega);exact Dd (Dd h zO) (by rw[CE];omega);split;have:=h7 (by omega);exact Dd h zO;exact h
theorem V1:∀(n:Nat)(B:List Sr),(Xr cs R n B).length=B.length
 |0,_=>rfl
 |n+1,B=>by show(Xr cs R n _).length=_;rw[V1 n,Qt]
theorem V2 {ni:Nat}(hf:∀k,k<cs.length→ED ni k (cs.getD k AD.zero)):∀(n:Nat)(B:List Sr),n≤cs.length→n≤B.length→CN m B→CN m (Xr cs R n B)
 |0,_,_,_,h=>h
 |n+1,B,hn,hb,h=>V2 hf n _ zO (by rw[Qt];omega) (Fh h zO (hf n zO))
theorem PQ {k:Nat}(h:(cs.getD k AD.zero).op=3):Pd cs R k B=Gf (Gf B (cs.getD k AD.zero).a (B.getD k [])) (cs.getD k AD.zero).b (B.getD k []):=if_pos h
theorem Sl {k:Nat}(h:(cs.getD k AD.zero).op=4):Pd cs R k B=Gf (Gf B (cs.getD k AD.zero).a (B.getD k [])) (cs.getD k AD.zero).b (E6 (B.getD k []) 1000002):=by unfold Pd;rw[if_neg zO,if_pos h]
theorem PR {k:Nat}(h:(cs.getD k AD.zero).op=5):Pd cs R k B=Gf (Gf B (cs.getD k AD.zero).a (D9 (B.getD k []) (R.getD (cs.getD k AD.zero).b.toNat []))) (cs.getD k AD.zero).b (D9 (B.getD k []) (R.getD (cs.getD k AD.zero).a.toNat [])):=by unfold Pd;rw[if_neg zO,if_neg zO,if_pos h]
theorem Sm {k:Nat}(h:(cs.getD k AD.zero).op=6):Pd cs R k B=Gf (Gf B (cs.getD k AD.zero).a (Da (B.getD k []) (R.getD (cs.getD k AD.zero).b.toNat []))) (cs.getD k AD.zero).b (E6 (D9 (Da (B.getD k []) (R.getD (cs.getD k AD.zero).b.toNat [])) (R.getD k [])) 1000002):=by unfold Pd;rw[if_neg zO,if_neg zO,if_neg zO,if_pos h]
theorem Sn {k:Nat}(h:(cs.getD k AD.zero).op=7):Pd cs R k B=Gf B (cs.getD k AD.zero).a (E6 (B.getD k []) 1000002):=by unfold Pd;rw[if_neg zO,if_neg zO,if_neg zO,if_neg zO,if_pos h]
theorem V3 {k:Nat}(h:(cs.getD k AD.zero).op<3∨7<(cs.getD k AD.zero).op):Pd cs R k B=B:=by unfold Pd;rw[if_neg zO,if_neg zO,if_neg zO,if_neg zO,if_neg (by omega)]
theorem DQ {n k:Nat}{D B':List Sr}(h:Xr cs R n B=D)(hn:n=k+1)(hi:Pd cs R k B=B'):Xr cs R k B'=D:=by subst hn;rw[← hi];exact h
end
theorem Qu {e:TypeId}{H:Array Obj}{v:Value}{us:List Value}{F:List Nat}(h:By rV e H v us F)(hl:0<us.length):∃g cap,F=[g]∧v=.slice (some ⟨g,0,none⟩) us.length cap∧∀k,k<us.length→IJ H (BJ v k 1)=some (us.getD k undef):=by
 rcases h with⟨_,rfl,_⟩|⟨vs,g,cap,cur,F',hels,rfl,hg,r1,r2,r3,r4,rfl⟩;simp at hl;obtain⟨rfl,rfl⟩:=Hf hels;refine⟨g,cap,rfl,rfl,fun k hk=>?_⟩;have hu:vs[k]? = some (vs.getD k undef):=by simp[List.getD_eq_getElem?_getD,hk]
 rw[He];simp only[IJ,Cv,hg,Nat.zero_add];rw[← r4,List.getElem?_take,if_pos hk]at hu;rw[r4]at hu;simpa using hu
section
variable {e:TypeId} {B:Nat} {w w':World} {v:Value} {xs:List (List Int)} {us:List Value} {F:List Nat}
theorem Gc.getF {S:List Nat}{H:Array Obj}(h:Gc e S B H v xs us F){k:Nat}(hk:k<xs.length):∃u,IJ H (BJ v k 1)=some u∧RN (S++F) (B8 rI) H u (xs.getD k []):=by obtain⟨g,cap,_,_,h3⟩:=Qu h.own (by rw[h.len];omega);exact⟨_,h3 k (by rw[h.len];exact hk),h.els k hk⟩
theorem Gc.ofFr {S:List Nat}{e1:TypeId}{U:Nat}{H:Array Obj}(h:Fr (By (By rI e1) e) B U H v xs)(hS:∀b∈S,b<B):∃us F,Gc e S B H v xs us F∧∀b∈F,b<U:=by
 obtain⟨F,h1,h2,h3⟩:=h;rcases h1 with⟨rfl,rfl,rfl⟩|⟨us,g,cap,cur,F',hels,rfl,hg,r1,r2,r3,r4,rfl⟩;exact⟨[],[],⟨.inl ⟨rfl,rfl,rfl⟩,zk,(fun b hb=>absurd hb z2),rfl,(fun k hk=>absurd hk (Nat.not_lt_zero k))⟩,(fun b hb=>absurd hb z2)⟩;have hl:=hels.length;have hn:=List.nodup_cons.1 h2;refine⟨us,[g],⟨.inr ⟨us,g,cap,cur,[],Nu (hels.cells1 o1),by rw[hl],hg,zO,r2,r3,by rw[hl];exact r4,rfl⟩,by simp,fun b hb=>?_,hl,fun k hk=>?_⟩,fun b hb=>?_⟩;have:=h3 b (by rw[A9 hb];exact z0 ..);omega;obtain⟨u,G,hu,q1,q2,q3,_⟩:=hels.at_ (k:=k) [] hk hn.2;have e1:us.getD k undef=u:=by simp[List.getD_eq_getElem?_getD,hu]
 rw[e1];exact⟨G,q1.rd id,fun b hb hm=>by
  have hb':=q3 b hb;rcases zi.1 hm with hm|hm;have h8:=hS b hm;have h9:=(h3 b<|z3 _ hb').1;omega;rw[A9 hm]at hb';exact hn.1 hb'⟩
 exact (h3 b (by rw[A9 hb];exact z0 ..)).2
end
section ops
variable {P:Program} {ops:Array Oper} {w0:World} {Q:Act→World→Prop} {os:List Oper} {ks:List Nat} {N:Nat} {ρ:Nat→Value} {w:World}
 {d:Nat} {ty:TypeId} {pos:String} {aft:Array Edge} {g:Option (Nat×Bool)} {t e:TypeId} {z:Value} {b:Nat}
theorem Fi {S:List Nat}{st:TypeId}{x y:Operand}{v u:Value}{xs:List (List Int)}{r:List Int}{us:List Value}{F:List Nat}{B j:Nat}(hst:(P.info? st).map (·.size)=some 1)(hx:Bk N ρ x=BJ v j 1)(hy:Bk N ρ y=u)
  (hv:Gc e S B w.heap v xs us F) (hr:RN (S++F) (B8 rI) w.heap u r) (hj:j<xs.length) (hu:Up ops N ρ ⟨none,.store st x y,ty,pos,aft,g⟩)
  (h:∀w1,AF F w w1→w1.heap.size=w.heap.size→Gc e S B w1.heap v (xs.set j r) (us.set j u) F→LW P ops w0 Q os ks (mk N ρ) w1) :
  LW P ops w0 Q (⟨none,.store st x y,ty,pos,aft,g⟩::os) (4::ks) (mk N ρ) w:=by
 obtain⟨g0,cap,hF,hvv,_⟩:=Qu hv.own (by rw[hv.len];omega);have hone:=hr.one1 g1;obtain⟨w1,F',q1,q2,q3,q4,q5,q6⟩:=Ut (P:=P) BQ hst hv.own hv.nd (by rw[hv.len];exact hj) (u:=u) (y:=u) (G:=[]) ⟨rfl,rfl,hone.1,hone.2⟩ zk (fun b hb=>by cases hb);obtain⟨g2,cap2,hF2,hvv2,_⟩:=Qu q2 (by rw[z6,hv.len];omega);have hg:g2=g0:=by
  rw[hvv]at hvv2
  injection hvv2 with h1 _ _
  injection h1 with h1
  injection h1 with h1 _ _;exact h1.symm
 have hFF:F'=F:=by rw[hF2,hF,hg]
 subst hFF;have hc:AF F' w w1:=q5.sub fun x hx=>zj hx;refine Q4 rfl hu w1 (EI hx hy q1)<|h w1 hc q6 ⟨q2,hv.nd,hv.low,by rw[z6,z6];exact hv.len,fun k hk=>?_⟩;rw[z6]at hk;have hku:k<us.length:=by rw[hv.len];exact hk
 rw[GT _ _ _ _ _ (by rw[hv.len];exact hj),GT _ _ _ _ _ hj];have hcS:AF (S++F') w w1:=hc.sub fun b hb=>z1 _ hb;by_cases ek:k=j;rw[if_pos ek,if_pos ek];exact hr.chg g1 hcS;rw[if_neg ek,if_neg ek];exact (hv.els k hk).chg g1 hcS
theorem cO {st e':TypeId}{x y:Operand}{v u:Value}{n:Int}{xs:List (List Int)}{B T r j:Nat}{F:List Nat}(hst:(P.info? st).map (·.size)=some 1)(hx:Bk N ρ x=BJ u j 1)(hy:Bk N ρ y=.int .i64 n)(hn:-9223372036854775808≤n∧n≤9223372036854775807)
  (hv:Ow (By (By rI e) e') B T w.heap v xs F) (hr:r<xs.length) (hl:IJ w.heap (BJ v r 1)=some u) (hj:j<(xs.getD r []).length) (hu:Up ops N ρ ⟨none,.store st x y,ty,pos,aft,g⟩)
  (h:∀w1 G,AF G w w1→w1.heap.size=w.heap.size→(∀c∈G,c∈F)→Ow (By (By rI e) e') B T w1.heap v (xs.set r ((xs.getD r []).set j n)) F→LW P ops w0 Q os ks (mk N ρ) w1) :
  LW P ops w0 Q (⟨none,.store st x y,ty,pos,aft,g⟩::os) (4::ks) (mk N ρ) w:=by
 obtain⟨hown,hnd,hlow,hhigh⟩:=hv;rcases hown with⟨_,rfl,_⟩|⟨us,g0,cap,cur,F',hels,rfl,hg,r1,r2,r3,r4,rfl⟩;simp at hr;have hc:=List.nodup_cons.1 hnd;obtain⟨u',G,q0,q1,q2,q3,q4⟩:=hels.at_ (k:=r) [] hr hc.2;have hlen:=hels.length;have hu':u'=u:=by
  rw[He]at hl;simp only[IJ,Cv,hg,Nat.zero_add]at hl;rw[← r4,List.getElem?_take,if_pos hr]at q0;have:some u'=some u:=by rw[← q0,← hl];simp
  exact Option.some.inj this
 subst hu';obtain⟨w1,p1,p2,p3,p4⟩:=Rr (P:=P) hst q1 q2 hj hn;have hgG:g0∉G:=fun hm=>hc.1 (q3 g0 hm);refine Q4 rfl hu w1 (EI hx hy p1)<|h w1 G p3 p4 (fun c hm=>z3 _<|q3 c hm) ⟨.inr ⟨us,g0,cap,cur,F',?_,by rw[z6],?_,by rw[z6];exact r1,r2,r3,by rw[z6];exact r4,rfl⟩,hnd,hlow,hhigh⟩;exact q4 (fun hE hC=>o1.stable hE fun b hb=>p3.block b (o1.lt hE b hb) (hC b hb).2) p2;have hlt:g0<w.heap.size:=(Array.getElem?_eq_some_iff.1 hg).1;rw[p3.block g0 hlt hgG];exact hg
end ops
section
variable {e1 e:TypeId} {B T:Nat} {w:World} {v:Value} {xs:List (List Int)} {F:List Nat}
theorem Ow.rowO (h:Ow (By (By rI e1) e) B T w.heap v xs F){k:Nat}(hk:k<xs.length):∃u,IJ w.heap (BJ v k 1)=some u∧Rd (B8 rI) w.heap u (xs.getD k []):=by obtain⟨u,G,q0,q1,_⟩:=h.fr.row o1 [] hk;exact⟨u,q0,G,q1.rd id⟩
theorem Ow.slO {H:Array Obj}(h:Ow (By (By rI e1) e) B T H v xs F):ES v xs.length:=(By.rd id h.own:B8 (By rI e1) H v xs F).isSl
theorem Gc.ofOw {S:List Nat}(h:Ow (By (By rI e1) e) B T w.heap v xs F)(hS:∀b∈S,b<B):∃us F',Gc e S B w.heap v xs us F'∧∀b∈F',b∈F:=by
 obtain⟨h1,h2,h3,h4⟩:=h;rcases h1 with⟨rfl,rfl,rfl⟩|⟨us,g,cap,cur,F',hels,rfl,hg,r1,r2,r3,r4,rfl⟩;exact⟨[],[],⟨.inl ⟨rfl,rfl,rfl⟩,zk,(fun b hb=>absurd hb z2),rfl,(fun k hk=>absurd hk (Nat.not_lt_zero k))⟩,(fun b hb=>absurd hb z2)⟩;have hl:=hels.length;have hn:=List.nodup_cons.1 h2;refine⟨us,[g],⟨.inr ⟨us,g,cap,cur,[],Nu (hels.cells1 o1),by rw[hl],hg,zO,r2,r3,by rw[hl];exact r4,rfl⟩,by simp,fun b hb=>?_,hl,fun k hk=>?_⟩,fun b hb=>?_⟩;exact h3 b (by rw[A9 hb];exact z0 ..);obtain⟨u,G,hu,q1,q2,q3,_⟩:=hels.at_ (k:=k) [] hk hn.2;have e1:us.getD k undef=u:=by simp[List.getD_eq_getElem?_getD,hu]
 rw[e1];exact⟨G,q1.rd id,fun b hb hm=>by
  have hb':=q3 b hb;rcases zi.1 hm with hm|hm;have h8:=hS b hm;have h9:=h3 b<|z3 _ hb';omega;rw[A9 hm]at hb';exact hn.1 hb'⟩
 rw[A9 hb];exact z0 ..
end
theorem YT {R:List Sr}{k:Nat}(hk:k<R.length):Od (R.take k)++[List.replicate (R.getD k []).length 0]=Od (R.take (k+1)):=by unfold Od;rw[CW [] hk,List.map_append];rfl
end
section
def Xd (cs:List AD)(L:List Sr):Nat→List Sr→List Sr
 |0,B=>B
 |k+1,B=>if (cs.getD k AD.zero).op=1 then Gf (Xd cs L k B) (cs.getD k AD.zero).num (L.getD k [])else Xd cs L k B
def cP (ni m:Nat)(cs:List AD)(L:List Sr):List Sr:=Xd cs L cs.length (List.replicate ni (List.replicate m 0))
section
variable {m ni:Nat} {cs:List AD} {L B:List Sr}
theorem Oe {k:Nat}(h:(cs.getD k AD.zero).op=1):Xd cs L (k+1) B=Gf (Xd cs L k B) (cs.getD k AD.zero).num (L.getD k []):=if_pos h
theorem Of {k:Nat}(h:(cs.getD k AD.zero).op≠1):Xd cs L (k+1) B=Xd cs L k B:=if_neg h
@[simp] theorem JY (k:Nat):(Xd cs L k B).length=B.length:=by
 induction k with
 |zero=>rfl
 |succ k ih =>
  by_cases h:(cs.getD k AD.zero).op=1;rw[Oe h,CE,ih];rw[Of h,ih]
theorem Lv (m ni:Nat):CN m (List.replicate ni (List.replicate m 0)):=fun k hk=>by
 rw[z5]at hk
 have e:(List.replicate ni (List.replicate m (0:Int))).getD k []=List.replicate m 0:=by simp[List.getD_eq_getElem?_getD,hk]
 rw[e]
 exact⟨z5,NK _⟩
theorem Nd (hf:∀k,k<cs.length→ED B.length k (cs.getD k AD.zero))(h:CN m B):∀k,k≤cs.length→CN m (Xd cs L k B)
 |0,_=>h
 |k+1,hk=>by
  have ih:=Nd hf h k zO
  by_cases h1:(cs.getD k AD.zero).op=1
  rw[Oe h1]
  have:=(hf k zO).i1 h1
  exact Dd ih (by rw[JY];omega)
  rw[Of h1];exact ih
theorem V4 (hf:∀k,k<cs.length→ED ni k (cs.getD k AD.zero)):CN m (cP ni m cs L):=Nd (fun k hk=>by rw[z5];exact hf k hk) (Lv m ni) _ (A7 _)
@[simp] theorem V5:(cP ni m cs L).length=ni:=by unfold cP;rw[JY,z5]
end
end
section
def G5 (A:List Sr):List Int:=A.map fun s=>s.getD 0 0
section
variable {m:Nat} {A:List Sr} {T:Tp} {xs:List Int}
@[simp] theorem G6:(G5 A).length=A.length:=by simp[G5]
theorem Xe (h:CN m A):TP m (G5 A) A:=⟨G6.symm,fun i hi=>h i (by rw[G6]at hi;exact hi),fun i hi=>by
 rw[G6]at hi
 unfold G5
 rw[Et (d:=[]) hi]⟩
theorem IM.regs (h:IM m A T):CN m (CD m A T.code):=fun k hk=>(h.ser k (by rw[Cy]at hk;exact hk)).1
theorem IM.outs (h:IM m A T)(hE:H9 T xs):∀k,k<xs.length→0≤xs.getD k 0∧xs.getD k 0<((T.code.length:Nat):Int):=fun k hk=>by have:=hE k hk;have:=h.cl;omega
theorem IM.adj (h:IM m A T)(hE:H9 T xs){ws:List Int}:CN m (K8 T.code (Go.Proofs.YtemfgblmfahllaaGreat.CD m A T.code) xs ws):=by have ho:=h.outs hE;refine V2 (ni:=A.length) h.form _ _ (A7 _) (by rw[EE,Eg,Cy];exact A7 _)<|Il (JX h.regs) (fun q hq=>?_) _<|A7 _;have:=ho q hq;rw[Eg,Cy];omega
theorem So {cs:List AD}{R:List Sr}{os ws:List Int}:(K8 cs R os ws).length=R.length:=by unfold K8;rw[V1,EE,Eg]
end
end
def su (n:Nat):Sr:=(List.replicate n 0).set 1 1
def sw (y:List Sr):List Sr:=su (y.getD 0 []).length::y
@[simp] theorem qn {y:List Sr}:(sw y).length=y.length+1:=rfl
section
section
variable {m:Nat} {a b c:Sr}
theorem V6 (ha:DP m a){k:Nat}(hk:k<m):(Dm a b).getD k 0=md (a.getD k 0+b.getD k 0):=by unfold Dm;exact Dx _ (by rw[ha.1];exact hk)
theorem V7 (ha:DP m a){y:Int}{k:Nat}(hk:k<m):(E6 a y).getD k 0=md (a.getD k 0*y):=by unfold E6;exact Dx _ (by rw[ha.1];exact hk)
end
end
section
structure HH (m m':Nat)(B B':List Sr):Prop where
 s:CN m B
 s':CN m' B'
 l:B.length=B'.length
 h:∀k,(B.getD k []).getD 0 0=(B'.getD k []).getD 0 0
section
variable {m m' ni k i:Nat} {B B' R R':List Sr} {s s':Sr} {cs:List AD} {r:Int} {os ws:List Int}
theorem V8 (l:List Sr)(i:Nat)(x:Sr)(j:Nat):(l.set i x).getD j []=if j=i∧i<l.length then x else l.getD j []:=by by_cases h:i<l.length;rw[GT _ _ _ _ _ h];by_cases e:j=i;rw[if_pos e,if_pos ⟨e,h⟩];rw[if_neg e,if_neg fun h=>e h.1];rw[List.set_eq_of_length_le zO,if_neg fun h9=>h h9.2]
theorem HH.set (h:HH m m' B B')(hs:DP m s)(hs':DP m' s')(e:s.getD 0 0=s'.getD 0 0):HH m m' (B.set i s) (B'.set i s'):=by refine⟨h.s.set hs,h.s'.set hs',by rw[z6,z6,h.l],fun k=>?_⟩;rw[V8,V8,h.l];split;exact e;exact h.h k
theorem HH.adP (hm:1≤m)(hm':1≤m')(h:HH m m' B B')(hr:r.toNat<B.length)(e:s.getD 0 0=s'.getD 0 0):HH m m' (Gf B r s) (Go.Proofs.YtemfgblmfahllaaGreat.Gf B' r s'):=by have h1:=h.s r.toNat hr;have h2:=h.s' r.toNat (by rw[← h.l];exact hr);refine h.set (I1 h1) (I1 h2) ?_;rw[V6 h1 zO,V6 h2 zO,h.h,e]
theorem HH.adI (hm:1≤m)(hm':1≤m')(h:HH m m' B B')(hR:HH m m' R R')(hk:k<B.length)(hf:ED ni k (cs.getD k AD.zero)):HH m m' (Pd cs R k B) (Go.Proofs.YtemfgblmfahllaaGreat.Pd cs R' k B'):=by
 have b2:=fun h=>hf.i2 h;have b7:=fun h=>hf.i7 h;have h1:=h.s k hk;have h2:=h.s' k (by rw[← h.l];exact hk);have hp:∀q,(D9 (B.getD k []) (R.getD q [])).getD 0 0=(D9 (B'.getD k []) (R'.getD q [])).getD 0 0:=fun q=>by
  rw[Si (by rw[h1.1];omega),Si (by rw[h2.1];omega),h.h,hR.h]
 have hq:∀q,(Da (B.getD k []) (R.getD q [])).getD 0 0=(Da (B'.getD k []) (R'.getD q [])).getD 0 0:=fun q=>by
  rw[YI (by rw[h1.1];omega),YI (by rw[h2.1];omega),h.h,hR.h]
 have hn:∀ {s s':Sr},DP m s→DP m' s'→s.getD 0 0=s'.getD 0 0→(E6 s 1000002).getD 0 0=(E6 s' 1000002).getD 0 0:=fun hs hs' e=>by
  rw[V7 hs zO,V7 hs' zO,e]
 by_cases h3:(cs.getD k AD.zero).op=3;rw[PQ h3,PQ h3];have:=b2 zO;exact (h.adP hm hm' zO<|h.h k).adP hm hm' (by rw[CE];omega)<|h.h k;by_cases h4:(cs.getD k AD.zero).op=4;rw[Sl h4,Sl h4];have:=b2 zO;exact (h.adP hm hm' zO<|h.h k).adP hm hm' (by rw[CE];omega)<|hn h1 h2<|h.h k;by_cases h5:(cs.getD k AD.zero).op=5;rw[PR h5,PR h5];have:=b2 zO;exact (h.adP hm hm' zO<|hp _).adP hm hm' (by rw[CE];omega)<|hp _;by_cases h6:(cs.getD k AD.zero).op=6;rw[Sm h6,Sm h6];have:=b2 zO;refine (h.adP hm hm' zO<|hq _).adP hm hm' (by rw[CE];omega)<|hn (J7<|J8 h1) (J7<|J8 h2) ?_;rw[Si (by rw[Eu,h1.1];omega),Si (by rw[Eu,h2.1];omega),hq,hR.h];by_cases h7:(cs.getD k AD.zero).op=7;rw[Sn h7,Sn h7];have:=b7 h7;exact h.adP hm hm' zO<|hn h1 h2<|h.h k;have:(cs.getD k AD.zero).op<3∨7<(cs.getD k AD.zero).op:=by omega
 rw[V3 this,V3 this];exact h
theorem HH.adA (hm:1≤m)(hm':1≤m')(hR:HH m m' R R')(hf:∀k,k<cs.length→ED ni k (cs.getD k AD.zero)):∀(n:Nat)(B B':List Sr),n≤cs.length→n≤B.length→HH m m' B B'→HH m m' (Xr cs R n B) (Go.Proofs.YtemfgblmfahllaaGreat.Xr cs R' n B')
 |0,_,_,_,_,h=>h
 |n+1,B,B',hn,hb,h=>HH.adA hm hm' hR hf n _ _ zO (by rw[Qt];omega) (h.adI hm hm' hR zO (hf n zO))
theorem HH.wgt (hm:1≤m)(hm':1≤m')(h:HH m m' B B')(ho:∀k,k<os.length→(os.getD k 0).toNat<B.length):∀k,k≤os.length→HH m m' (Rm os ws k B) (Go.Proofs.YtemfgblmfahllaaGreat.Rm os ws k B')
 |0,_=>h
 |k+1,hk=>by
  have ih:=HH.wgt hm hm' h ho k zO
  have h1:=ih.s (os.getD k 0).toNat (by rw[EE];exact ho k zO)
  have h2:=ih.s' (os.getD k 0).toNat (by rw[EE,← h.l];exact ho k zO)
  refine ih.set ⟨by rw[z6];exact h1.1,Md h1.2<|CU _⟩ ⟨by rw[z6];exact h2.1,Md h2.2<|CU _⟩ ?_
  rw[GT _ _ _ _ _ (by rw[h1.1];omega),GT _ _ _ _ _ (by rw[h2.1];omega),if_pos rfl,if_pos rfl,ih.h]
theorem eW (k:Nat):((Od R).getD k []).getD 0 0=0:=by by_cases h:k<R.length;rw[show(Od R).getD k []=List.replicate (R.getD k []).length 0 from by unfold Od;rw[Et (d:=[]) h]];exact YK _ 0;rw[show(Od R).getD k []=[]from by rw[List.getD_eq_getElem?_getD,List.getElem?_eq_none (by rw[Eg];omega)];rfl];rfl
theorem HH.zrs (h:HH m m' R R'):HH m m' (Od R) (Go.Proofs.YtemfgblmfahllaaGreat.Od R'):=⟨JX h.s,JX h.s',by rw[Eg,Eg,h.l],fun k=>by rw[eW,eW]⟩
theorem HH.byN {L L':List Sr}(hm:1≤m)(hm':1≤m')(hL:HH m m' L L')(h:HH m m' B B')(hf:∀k,k<cs.length→ED B.length k (cs.getD k AD.zero)):∀k,k≤cs.length→HH m m' (Xd cs L k B) (Go.Proofs.YtemfgblmfahllaaGreat.Xd cs L' k B')
 |0,_=>h
 |k+1,hk=>by
  have ih:=HH.byN hm hm' hL h hf k zO
  by_cases h1:(cs.getD k AD.zero).op=1
  rw[Oe h1,Oe h1]
  have:=(hf k zO).i1 h1
  exact ih.adP hm hm' (by rw[JY];omega)<|hL.h k
  rw[Of h1,Of h1];exact ih
theorem HH.rep (m m' ni:Nat):HH m m' (List.replicate ni (List.replicate m 0)) (List.replicate ni (List.replicate m' 0)):=by refine⟨Lv _ _,Lv _ _,by simp,fun k=>?_⟩;by_cases h:k<ni;rw[show(List.replicate ni (List.replicate m (0:Int))).getD k []=List.replicate m 0 from by simp[List.getD_eq_getElem?_getD,h],show(List.replicate ni (List.replicate m' (0:Int))).getD k []=List.replicate m' 0 from by simp[List.getD_eq_getElem?_getD,h],YK,YK];rw[show(List.replicate ni (List.replicate m (0:Int))).getD k []=[]from by simp[List.getD_eq_getElem?_getD,h],show(List.replicate ni (List.replicate m' (0:Int))).getD k []=[]from by simp[List.getD_eq_getElem?_getD,h]]
end
section
variable {p:List Fn} {f m r N i j s:Nat} {a:List Int} {A A':List Sr} {xs:List Int} {T:Tp}
structure Sp (p:List Fn)(f:Nat)(a:List Int)(xs:List Int)(T:Tp):Prop where
 v:Hs p
 lt:f<p.length
 l:((a.length:Nat):Int)=(p.getD f Fn.zero).params
 n:Bl a=true
 r:∃s,AK (MK p f a) (xs,T) s 0
theorem JZ (hA:CN m A)(h:G5 A=a):TP m a A:=by rw[← h];exact Xe hA
theorem Sp.tp (h:Sp p f a xs T)(hm:1≤m)(hA:CN m A)(hf:G5 A=a):IM m A T∧(Ya p m f A=xs.map fun r=>(CD m A T.code).getD r.toNat [])∧Tx p m f A=0:=by obtain⟨s,hs⟩:=h.r;have h1:=YO hm h.v h.lt h.n (JZ hA hf) h.l hs rfl;exact⟨h1.1,h1.2,O6 hm h.v h.lt h.n (JZ hA hf) h.l hs⟩
theorem G7 (a:List Int):G5 (E7 a)=a:=by unfold G5 E7;rw[List.map_map];exact List.map_id'' (fun _=>rfl) a
theorem Sp.en (h:Sp p f a xs T):xs.length=(p.getD f Fn.zero).outs.length∧H9 T xs:=by obtain⟨s,hs⟩:=h.r;have hT:=UZ (A7 1) h.v h.lt h.n (JZ (DE h.n)<|G7 a) h.l;rw[hs.ok]at hT;obtain⟨z,h1,h2,h3,h4⟩:=hT;exact⟨h4.1,fun k hk=>(h4.2.2 k (by rw[h4.1]at hk;exact hk)).1⟩
theorem Nf (a d:List Int):G5 (PN a d 2)=a:=by refine List.ext_getElem (by simp) fun k h1 h2=>?_;rw[← IA (d:=(0:Int)) h1,← IA (d:=(0:Int)) h2];unfold G5;rw[Et (d:=[]) (by rw[Lt];exact h2),mW h2]
end
end
def TQ (p:List Fn)(f:Nat)(a:List Int):RL:=match MK p f a with
 |.ok x _=>x
 |.err _=>([],⟨[],[],[]⟩)
theorem cQ {p:List Fn}{f:Nat}{a:List Int}{x:RL}{s:Nat}(h:AK (MK p f a) x s 0):TQ p f a=x:=by unfold TQ;rw[h.ok]
section
section
variable {p:List Fn} {f k o i m q:Nat} {a d:List Int} {y Y:List Sr} {xs:List Int} {T:Tp} {nx:Nat→List Sr→List Int}
theorem YU (hv:Hs p)(hf:f<p.length)(hl:((a.length:Nat):Int)=(p.getD f Fn.zero).params)(hn:Bl a=true)(h0:GG p f a=0):∃xs T,Sp p f a xs T:=by
 cases hr:MK p f a with
 |ok x s=>exact⟨x.1,x.2,hv,hf,hl,hn,s,by rw[hr];exact AK.mk_ok rfl⟩
 |err c =>
  have hT:=UZ (A7 1) hv hf hn (JZ (DE hn)<|G7 a) hl;rw[hr]at hT;have h9:ev p 1 f (E7 a)=.err c:=hT;have h8:GG p f a=c:=Ln h9;rcases YJ hv hf (DE hn) (by unfold E7;rw[zg];exact hl)with⟨z,t,h1,_⟩|h1|h1;rw[h1]at h9;cases h9;rw[h1]at h9;cases h9;omega;rw[h1]at h9;cases h9;omega
end
end
section
def YV (m:Nat)(T:Tp)(xs ws:List Int)(A:List Sr):List Sr:=cP A.length m T.code (K8 T.code (CD m A T.code) xs ws)
section
variable {p:List Fn} {f m m' i:Nat} {a d:List Int} {A A':List Sr} {xs ws:List Int} {T:Tp}
@[simp] theorem K1:(YV m T xs ws A).length=A.length:=V5
theorem YW (hm:1≤m)(hm':1≤m')(h:IM m A T)(h':IM m' A' T)(hl:A.length=A'.length)(hE:H9 T xs)(ws:List Int):HH m m' (YV m T xs ws A) (YV m' T xs ws A'):=by
 have hR:HH m m' (CD m A T.code) (CD m' A' T.code):=⟨h.regs,h'.regs,by rw[Cy,Cy],fun k=>by
  by_cases hk:k<T.code.length;rw[(h.ser k hk).2,(h'.ser k hk).2];rw[show(CD m A T.code).getD k []=[]from by rw[List.getD_eq_getElem?_getD,List.getElem?_eq_none (by rw[Cy];omega)];rfl,show(CD m' A' T.code).getD k []=[]from by rw[List.getD_eq_getElem?_getD,List.getElem?_eq_none (by rw[Cy];omega)];rfl]⟩
 have hx:=h.outs hE;unfold YV cP;rw[← hl];refine HH.byN hm hm' ?_ (HH.rep m m' _) (fun k hk=>by rw[z5];exact h.form k hk) _<|A7 _;unfold K8;refine HH.adA hm hm' hR h.form _ _ _ (A7 _) (by rw[EE,Eg,Cy];exact A7 _)<|hR.zrs.wgt hm hm' (fun q hq=>?_) _<|A7 _;rw[Eg,Cy];have:=hx q hq;omega
theorem Sp.bk_ser (h:Sp p f a xs T)(hm:1≤m)(hA:CN m A)(hf:G5 A=a)(ws:List Int):CN m (YV m T xs ws A):=by unfold YV;exact V4 (h.tp hm hA hf).1.form
end
end
section
def Xf:List ByteArray:=[⟨#[114]⟩,⟨#[108,111,111,112]⟩]
theorem jM:∀t∈Xf,P0 t=true:=by decide +kernel
theorem jN:∀s∈Pb,∀t∈Xf,∀i:Fin 10,K6 (s++Na i.val) t=false:=by decide +kernel
theorem Te.rnd {p:List Fn}{pl:Bool}{f:Fn}{i:Nat}(h:NV p pl)(hd:Dn p)(hl:p.length≤9)(hp:1≤f.params∧f.params≤3)(hi:1≤i∧i≤3)(ho:Te p f.params pl f.outs i)
  (hf:f.name∈Xf):NV (p++[f]) pl :=
 h.snoc zO hp (by rw[ho.len];exact hi) (fun j hj=>ho.wf j (by rw[← ho.len];exact hj)) ho.dp (by have:=ho.sz;omega) ho.pl (jM _ hf) (fun k hk=>by
  obtain⟨t,ht,e⟩:=hd k hk
  rw[e]
  exact jN t ht _ hf ⟨k,zO⟩)
theorem cR {x:ByteArray}(h:Value.string x∈[Value.string ⟨#[114]⟩,.string ⟨#[114]⟩,.string ⟨#[114]⟩,.string ⟨#[108,111,111,112]⟩]):x∈Xf:=by simp only[ze,z2,or_false,Value.string.injEq]at h;unfold Xf;rcases h with rfl|rfl|rfl|rfl <;> simp
structure cS (p:List Fn)(f:Int)(a b:List Int):Prop where
 dr:NV p false
 len:1≤p.length∧p.length≤12
 fe:f=((p.length:Nat):Int)-1
 sq:(((p.getD f.toNat Fn.zero).outs.length:Nat):Int)=(p.getD f.toNat Fn.zero).params
 par:1≤(p.getD f.toNat Fn.zero).params∧(p.getD f.toNat Fn.zero).params≤3
 la:((a.length:Nat):Int)=(p.getD f.toNat Fn.zero).params∧Bl a=true
 lb:((b.length:Nat):Int)=(p.getD f.toNat Fn.zero).params∧Bl b=true
theorem cS.mk' {p:List Fn}{g:Fn}{f:Int}{i:Nat}{a b:List Int}(h:NV p false)(hd:Dn p)(hl:p.length≤9)(hp:1≤g.params∧g.params≤3)(ho:Te p g.params false g.outs i)(hi:((i:Nat):Int)=g.params)(hn:g.name∈Xf)
  (hf:f=((p.length:Nat):Int)) (hla:((a.length:Nat):Int)=g.params∧Bl a=true) (hlb:((b.length:Nat):Int)=g.params∧Bl b=true):cS (p++[g]) f a b:=by
 have h1:=ho.rnd h hd hl hp zO hn;have e:(p++[g]).getD f.toNat Fn.zero=g:=KB zO;refine⟨h1,by rw[z4,zd];omega,by rw[z4,zd];omega,?_,?_,?_,?_⟩;rw[e,ho.len];exact hi;rw[e];exact hp;rw[e];exact hla;rw[e];exact hlb
def Sq (p:List Fn)(f:Nat)(s ws:List Int):List Int:=G5 (YV 1 (TQ p f s).2 (TQ p f s).1 ws (E7 s))
def cT (p:List Fn)(f:Nat)(a:List Int):Nat→List Int→List Int
 |0,ws=>ws
 |n+1,ws=>cT p f a n (Sq p f (Ej p f a n) ws)
structure Ss (p:List Fn)(f:Nat)(a:List Int)(n:Nat):Prop where
 v:Hs p
 lt:f<p.length
 sq:(((p.getD f Fn.zero).outs.length:Nat):Int)=(p.getD f Fn.zero).params
 l:((a.length:Nat):Int)=(p.getD f Fn.zero).params
 na:Bl a=true
 k:Dq p f a n=0
section
variable {p:List Fn} {f n k m:Nat} {a s ws us d xs:List Int} {T:Tp} {A:List Sr}
theorem Qv (h:Dq p f a n=0)(hk:k≤n):Dq p f a k=0:=by by_cases h0:Dq p f a k=0;exact h0;rw[O5 h0 hk]at h;exact h
theorem Ss.low (h:Ss p f a n)(hk:k≤n):Ss p f a k:=⟨h.v,h.lt,h.sq,h.l,h.na,Qv h.k hk⟩
theorem nc (hv:Hs p)(hf:f<p.length)(hl:((s.length:Nat):Int)=(p.getD f Fn.zero).params)(hn:Bl s=true):Xc p f s:=Xc.mk' (qL hv hf (DE hn) (by unfold E7;rw[zg];exact hl))
theorem Ss.st:∀ {n:Nat},Ss p f a n→(Ej p f a n).length=a.length∧Bl (Ej p f a n)=true
 |0,h=>⟨rfl,h.na⟩
 |n+1,h=>by
  have h0:=h.low<|Nat.le_succ n
  have ih:=h0.st
  have hN:=nc h.v h.lt (s:=Ej p f a n) (by rw[ih.1];exact h.l) ih.2
  have hz:GG p f (Ej p f a n)=0:=by rw[← Jc h0.k];exact h.k
  have:=hN.len hz
  have:=h.sq;have:=h.l
  exact⟨by show(Xq p f (Ej p f a n)).length=_;omega,hN.num⟩
theorem Ss.nx (h:Ss p f a n)(hk:k<n):GG p f (Ej p f a k)=0:=by rw[← Jc (Qv h.k (Nat.le_of_lt hk))];exact Qv h.k hk
theorem Ss.rc (h:Ss p f a n)(hk:k<n):∃xs T,Sp p f (Ej p f a k) xs T:=by have h1:=(h.low<|Nat.le_of_lt hk).st;exact YU h.v h.lt (by rw[h1.1];exact h.l) h1.2<|h.nx hk
theorem Sp.bkR (h:Sp p f s xs T)(hm:1≤m)(hA:CN m A)(hf:G5 A=s):G5 (YV m T xs ws A)=Go.Proofs.YtemfgblmfahllaaGreat.Sq p f s ws:=by
 obtain⟨q,hq⟩:=h.r;have hl:A.length=s.length:=by rw[← hf,G6]
 have hh:=YW hm (A7 1) (h.tp hm hA hf).1 (h.tp (A7 1) (DE h.n)<|G7 s).1 (by rw[G3,hl]) h.en.2 ws;unfold Go.Proofs.YtemfgblmfahllaaGreat.Sq;rw[cQ hq];refine qM (by rw[G6,G6,K1,K1,G3,hl]) fun j hj=>?_;rw[G6,K1]at hj;unfold G5;rw[Et (d:=[]) (by rw[K1];exact hj),Et (d:=[]) (by rw[K1,G3];omega)];exact hh.h j
theorem Lw:(Sq p f s ws).length=s.length:=by unfold Sq;rw[G6,K1,G3]
theorem Sp.bkR_num (h:Sp p f s xs T):Bl (Go.Proofs.YtemfgblmfahllaaGreat.Sq p f s ws)=true:=by rw[← h.bkR (A7 1) (DE h.n) (G7 s)];exact O4 (n:=0)<|h.bk_ser (A7 1) (DE h.n) (G7 s) ws
end
end
section
structure ne (ni:Nat)(T:Tp)(o:List Int):Prop where
 nb:ni≤12
 cl:T.code.length≤3200
 gl:T.grd.length≤3200
 form:∀k,k<T.code.length→ED ni k (T.code.getD k AD.zero)
 gd:∀k,k<T.grd.length→0≤(T.grd.getD k Ja.zero).reg∧(T.grd.getD k Ja.zero).reg<((T.code.length:Nat):Int)
 ol:1≤o.length∧o.length≤12
 out:∀k,k<o.length→0≤o.getD k 0∧o.getD k 0<((T.code.length:Nat):Int)
theorem ne.pos {ni:Nat}{T:Tp}{o:List Int}(h:ne ni T o):0<T.code.length:=by have:=h.out 0 (by have:=h.ol;omega);omega
theorem ne.any {ni:Nat}{T:Tp}{o:List Int}(h:ne ni T o):(o.any fun x=>!(decide (0≤x) && decide (x≤((T.code.length:Nat):Int)-1)))=false:=by
 rw[List.any_eq_false]
 intro x hx;obtain⟨j,hj,rfl⟩:=List.mem_iff_getElem.1 hx;have h9:=h.out j hj;rw[List.getD_eq_getElem?_getD,List.getElem?_eq_getElem hj,Option.getD_some]at h9;rw[A5 h9.1,A5 (show o[j]≤((T.code.length:Nat):Int)-1 by omega)];decide
structure St (a:List Int)(T:Tp)(o:List Int):Prop where
 k:ne a.length T o
 n:Bl a=true
 e:H9 T o
 i:∀d,Bl d=true→IM 2 (PN a d 2) T
section
variable {p:List Fn} {f:Nat} {a d xs ws:List Int} {T:Tp} {s:Nat}
theorem Sp.tpr (h:Sp p f a xs T)(hB:Hj T s)(hs:s≤3000):St a T xs:=by have hi:∀d,Bl d=true→IM 2 (PN a d 2) T:=fun d hd=>(h.tp (m:=2) (by decide) (Lu h.n hd) (Nf _ _)).1;have h0:=hi _<|NK a.length;obtain⟨b1,b2,b3,b4⟩:=hB;have hp:=h.v.par f h.lt;have ho:=h.v.outs f h.lt;have hl:=h.l;have he:=h.en;refine⟨⟨zO,zO,zO,fun k hk=>?_,fun k hk=>?_,by rw[he.1];exact ho,h0.outs he.2⟩,h.n,he.2,hi⟩;have:=h0.form k hk;rwa [Lt]at this;have:=(h0.gd k hk).1;omega
theorem cU {k:Nat}(hk:k<a.length):(PN a d 2).getD k []=[a.getD k 0,d.getD k 0]:=by rw[TO hk];rfl
theorem St.reg (h:St a T xs)(hd:Bl d=true):CN 2 (CD 2 (PN a d 2) T.code):=(h.i d hd).regs
theorem St.adj (h:St a T xs)(hd:Bl d=true):CN 2 (K8 T.code (CD 2 (PN a d 2) T.code) xs ws):=(h.i d hd).adj h.e
theorem St.nz (h:St a T xs)(hd:Bl d=true):ML 2 (PN a d 2) T.code T.code.length:=(h.i d hd).nz
end
section ops
variable {P:Program} {ops:Array Oper} {w0:World} {Q:Act→World→Prop} {os:List Oper} {ks:List Nat} {N:Nat} {ρ:Nat→Value} {w:World}
 {d:Nat} {ty:TypeId} {pos:String} {aft:Array Edge} {g:Option (Nat×Bool)} {t e:TypeId} {z:Value} {b:Nat}
theorem Qw {y0 y1:Operand}{u0 u1:Value}{x0 x1:List Int}(ht:P.underlying t=some (.slice e))(hi:TI P e 1 z b)(hz:z.cells=#[z])
  (h0:Bk N ρ y0=u0) (h1:Bk N ρ y1=u1) (r0:RN [] (B8 rI) w.heap u0 x0) (r1:RN [] (B8 rI) w.heap u1 x1)
  (hu:Up ops N ρ ⟨some d,.buildSlice t 2 #[(0,y0),(1,y1)],ty,pos,aft,g⟩)
  (h:∀v w1,AI w w1→w1.heap.size=w.heap.size+1→RN [] (B8 (B8 rI)) w1.heap v [x0,x1]→Cx v→LW P ops w0 Q os ks (mk N (Ch ρ d v)) w1) :
  LW P ops w0 Q (⟨some d,.buildSlice t 2 #[(0,y0),(1,y1)],ty,pos,aft,g⟩::os) (3::ks) (mk N ρ) w:=by
 have c0:=r0.one1 g1;have c1:=r1.one1 g1;refine eT (ys:=[u0,u1]) BQ ht hi hz h0 h1 rfl (Nu fun u hu=>?_) hu fun v w1 hE hs hF=>?_;simp only[ze,z2,or_false]at hu;rcases hu with rfl|rfl;exact c0;exact c1;have hcap:=hF.cap;obtain⟨F,f1,f2,f3⟩:=hF;have hB:Gc e [] w.heap.size w1.heap v [x0,x1] [u0,u1] F:=by
  refine⟨f1,f2,fun b hb=>(f3 b hb).1,rfl,fun k hk=>?_⟩;have key:∀ {v0:Value} {x:List Int},RN [] (B8 rI) w.heap v0 x→RN ([]++F) (B8 rI) w1.heap v0 x:=by
   rintro v0 x ⟨K,k1,k2⟩;have hlt:=g1.lt k1;exact⟨K,g1.stable k1 fun c hc=>hE.heap (hlt c hc),fun c hc hm=>by have:=hlt c hc;have:=f3 c (by simpa using hm);omega⟩
  match k with
  |0=>exact key r0
  |1=>exact key r1
  |k+2=>simp at hk;omega
 exact h v w1 hE hs (hB.done fun b hb=>absurd hb z2) hcap
end ops
end
section
def Dv (p:List Fn)(f:Int)(a ws:List Int)(n:Int):Int:=if G4 p f [a,ws]=0 then(if Ge n 0 40=true then 0 else 2)else G4 p f [a,ws]
def Me (p:List Fn)(f:Int)(a ws:List Int)(n:Int):Int:=if Dv p f a ws n=0 then Dq p f.toNat a n.toNat else Dv p f a ws n
def YX (p:List Fn)(f:Int)(a ws:List Int)(n:Int):List Int:=if Me p f a ws n=0 then cT p f.toNat a n.toNat ws else []
section
variable {p:List Fn} {f n:Int} {a ws:List Int}
theorem Lx:0≤Dv p f a ws n∧Dv p f a ws n≤2:=by have:=cK p f [a,ws];unfold Dv;split <;> (try split) <;> omega
theorem Fj (h:G4 p f [a,ws]≠0):Dv p f a ws n=G4 p f [a,ws]:=if_neg h
theorem Gl (h:G4 p f [a,ws]=0)(h2:Ge n 0 40=false):Dv p f a ws n=2:=by unfold Dv;rw[if_pos h,h2];rfl
theorem KH (h:G4 p f [a,ws]=0)(h2:Ge n 0 40=true):Dv p f a ws n=0:=by unfold Dv;rw[if_pos h,h2];rfl
theorem HB (h:Dv p f a ws n≠0):Me p f a ws n=Dv p f a ws n:=if_neg h
theorem Je (h:Dv p f a ws n=0):Me p f a ws n=Dq p f.toNat a n.toNat:=if_pos h
theorem HC (h:Me p f a ws n≠0):YX p f a ws n=[]:=if_neg h
theorem Qy (h:Me p f a ws n=0):YX p f a ws n=cT p f.toNat a n.toNat ws:=if_pos h
theorem Su (h:G4 p f [a,ws]=0):Fd p=true∧(0≤f∧f<((p.length:Nat):Int))∧(1≤(p.getD f.toNat Fn.zero).params∧(((p.getD f.toNat Fn.zero).outs.length:Nat):Int)=(p.getD f.toNat Fn.zero).params) ∧
  (((a.length:Nat):Int)=(p.getD f.toNat Fn.zero).params∧Bl a=true)∧(((ws.length:Nat):Int)=(p.getD f.toNat Fn.zero).params∧Bl ws=true):=by
 unfold G4 at h;split at h;rename_i h3;split at h;rename_i h4;split at h;rename_i h5;rw[Ls]at h4;simp only[List.all_cons,List.all_nil,Bool.and_true,z7,decide_eq_true_eq]at h5;exact⟨h3,⟨h4.1.1,zO⟩,⟨h4.2.1,h4.2.2⟩,⟨h5.1.1,h5.1.2⟩,⟨h5.2.1,h5.2.2⟩⟩;omega;omega;omega
theorem nf (h1:Fd p=true)(h2:0≤f∧f<((p.length:Nat):Int))(h3:1≤(p.getD f.toNat Fn.zero).params∧(((p.getD f.toNat Fn.zero).outs.length:Nat):Int)=(p.getD f.toNat Fn.zero).params)
  (h4:((a.length:Nat):Int)=(p.getD f.toNat Fn.zero).params∧Bl a=true) (h5:((ws.length:Nat):Int)=(p.getD f.toNat Fn.zero).params∧Bl ws=true):G4 p f [a,ws]=0∧G4 p f [a]=0:=by
 have hr:PL p f=true:=Ls.2 ⟨⟨h2.1,zO⟩,h3.1,h3.2⟩;unfold G4;rw[if_pos h1,if_pos h1,if_pos hr,if_pos hr];exact⟨if_pos (by rw[List.all_cons,List.all_cons,List.all_nil,A5 h4.1,A5 h5.1,h4.2,h5.2];rfl),if_pos (by rw[List.all_cons,List.all_nil,A5 h4.1,h4.2];rfl)⟩
theorem Og (h:Dv p f a ws n=0):G4 p f [a,ws]=0∧(0≤n∧n≤40):=by
 by_cases h1:G4 p f [a,ws]=0;cases h2:Ge n 0 40 with
 |true=>exact⟨h1,C4.1 h2⟩
 |false=>rw[Gl h1 h2]at h;omega
 rw[Fj h1]at h;exact absurd h h1
end
def Oh (v:Value)(k:Nat):Value:=match v with
 |.slice a n c=>.slice (if c=k then a else a.map (·.add k)) (n-k) (c-k)
 |v=>v
section ops
variable {P:Program} {ops:Array Oper} {w0:World} {Q:Act→World→Prop} {os:List Oper} {ks:List Nat} {N:Nat} {ρ:Nat→Value} {w:World}
 {d:Nat} {ty:TypeId} {pos:String} {aft:Array Edge} {g:Option (Nat×Bool)} {t e:TypeId} {z:Value} {b:Nat}
theorem jO {x y:Operand}{v z:Value}{n b k:Nat}(ht:P.underlying t=some (.slice e))(hi:TI P e 1 z b)(hx:Bk N ρ x=v)(hs:ES v n)(hc:Cx v)(hy:Bk N ρ y=.int .i64 (k:Int))(hk:k≤n)(hu:Up ops N ρ ⟨some d,.slice t x (some y) none none,ty,pos,aft,g⟩)
  (h:LW P ops w0 Q os ks (mk N (Ch ρ d (Oh v k))) w):LW P ops w0 Q (⟨some d,.slice t x (some y) none none,ty,pos,aft,g⟩::os) (0::ks) (mk N ρ) w:=by
 obtain⟨a,cap,rfl,_⟩:=hs;obtain⟨inf,h1,_,h3,_⟩:=hi.get;refine D2 (by decide) rfl hu _ (fun w' _=>?_) h;have hl:n≤cap:=hc;have e1:((0:Int)≤(k:Int)):=by omega
 by_cases hc1:cap=k;subst hc1;have:n=cap:=by omega
 subst this;simp[execOp,hx,hy,Instr.sliceAt,Instr.slice,Instr.sliceBounds,Instr.sliceBound,asIntOf,run_underlying ht,sizeOf,typeInfo,h1,h3,Oh];have e2:cap-k≠0:=by omega
 have e3:¬cap≤k:=by omega
 simp[execOp,hx,hy,Instr.sliceAt,Instr.slice,Instr.sliceBounds,Instr.sliceBound,asIntOf,run_underlying ht,sizeOf,typeInfo,h1,h3,Oh,hk,hl,hc1,e2,e3];try (intro h9;omega)
end ops
end
section
def qo (p:List Fn)(f:Nat)(a ws:List Int):List Int:=if GG p f a=0 then Sq p f a ws else []
theorem V9 {p:List Fn}{f:Nat}{a ws:List Int}(h:GG p f a=0):qo p f a ws=Sq p f a ws:=if_pos h
theorem eX {p:List Fn}{f:Nat}{a ws:List Int}(h:GG p f a≠0):qo p f a ws=[]:=if_neg h
def La (p:List Fn)(f:Nat)(a:List Int):List Av→Cn→List Int→Int×List Int
 |[],_,L=>(0,L)
 |x::l,c,L =>
  if x.kind=1 then(if Dq p f a (c.at_+x.arg).toNat=0 then La p f a l (CC c x) L else(Dq p f a (c.at_+x.arg).toNat,[]))
  else if x.kind=4 then(if Dq p f a (c.at_.toNat+1)=0 then La p f a l (CC c x) (Sq p f (Ej p f a c.at_.toNat) L)else(Dq p f a (c.at_.toNat+1),[]))
  else La p f a l (CC c x) L
def Rn (p:List Fn)(f:Nat)(a:List Int)(sl:List Int):List (List Int):=sl.map fun s=>if 0≤s then Ej p f a s.toNat else []
structure lM (p:List Fn)(f:Nat)(a:List Int)(c:Cn):Prop where
 at_:Dq p f a c.at_.toNat=0
 sl:∀s∈c.slots,0≤s→Dq p f a s.toNat=0
section
variable {p:List Fn} {f:Nat} {a L:List Int} {l:List Av} {c:Cn} {x:Av} {i j k m:Nat} {n:Int}
theorem Ng (sl:List Int):(Rn p f a sl).length=sl.length:=by unfold Rn;rw[zg]
theorem Va {sl:List Int}{q:Nat}{s:Int}(hs:0≤s):Rn p f a (sl.set q s)=(Rn p f a sl).set q (Ej p f a s.toNat):=by unfold Rn;rw[List.map_set,if_pos hs]
theorem Vb {sl:List Int}{q:Nat}(hq:q<sl.length)(h:0≤sl.getD q 0):(Rn p f a sl).getD q []=Ej p f a (sl.getD q 0).toNat:=by
 have e:sl.getD q 0=sl[q]:=by simp[List.getD_eq_getElem?_getD,hq]
 rw[e]at h ⊢;unfold Rn;simp[List.getD_eq_getElem?_getD,hq,h]
theorem Nh (k:Nat):Rn p f a (List.replicate k (-1))=List.replicate k []:=by unfold Rn;rw[List.map_replicate];rfl
theorem Vc (n:Int)(k:Nat):lM p f a (FN n k):=⟨rfl,fun s hs h=>by
 have:=(List.mem_replicate.1 hs).2
 omega⟩
theorem YY (h:Dq p f a m≠0):∀d:Nat,Dq p f a (m+d)=Dq p f a m
 |0=>rfl
 |d+1=>by
  have ih:=YY h d
  rw[← Nat.add_assoc]
  show(if Dq p f a (m+d)=0 then _ else _)=_
  rw[if_neg (by rw[ih];exact h),ih]
theorem Qz (h:Dq p f a m≠0)(hk:m≤k):Dq p f a k=Dq p f a m:=by have:=YY h (k-m);rwa [show m+(k-m)=k from by omega]at this
theorem jP (h:Dq p f a k=0)(hk:m≤k):Dq p f a m=0:=by by_cases h0:Dq p f a m=0;exact h0;rw[Qz h0 hk]at h;exact absurd h h0
theorem HD (h:Dq p f a m=0):Dq p f a (m+1)=GG p f (Ej p f a m):=by show(if Dq p f a m=0 then _ else _)=_;rw[if_pos h]
theorem lM.act (h:lM p f a c)(hx:Gd x)(hp:Cw c x=true)(hk:T7 n c)(h1:x.kind=1→Dq p f a (c.at_+x.arg).toNat=0):lM p f a (CC c x):=by
 obtain⟨q1,q2⟩:=h;have b1:=hk.at0;have b2:=hk.l0;by_cases k1:x.kind=1;rw[← NB k1];exact⟨h1 k1,q2⟩;by_cases k2:x.kind=2;rw[← NC k2];refine⟨q1,fun s hs h0=>?_⟩;rcases List.mem_or_eq_of_mem_set hs with hs|rfl;exact q2 s hs h0;exact q1;by_cases k3:x.kind=3;rw[← ND k3];have hl:=PC hp<|.inr k3;rw[XQ k3,z7]at hp;have h0:=of_decide_eq_true hp.2;unfold Gd at hx;have e:c.slots.getD x.arg.toNat 0=c.slots[x.arg.toNat]'(by omega):=by simp[List.getD_eq_getElem?_getD,(by omega:x.arg.toNat<c.slots.length)]
 exact⟨q2 _ (by rw[e];exact List.getElem_mem _) h0,q2⟩;have k4:x.kind=4:=by unfold Gd at hx;omega
 rw[← NE k4];exact⟨q1,q2⟩
theorem Ly (hi:i<l.length):La p f a (l.drop i) c L=(let x:=l.getD i Av.zero
  if x.kind=1 then(if Dq p f a (c.at_+x.arg).toNat=0 then La p f a (l.drop (i+1)) (CC c x) L else(Dq p f a (c.at_+x.arg).toNat,[]))
  else if x.kind=4 then(if Dq p f a (c.at_.toNat+1)=0 then La p f a (l.drop (i+1)) (CC c x) (Sq p f (Ej p f a c.at_.toNat) L)else(Dq p f a (c.at_.toNat+1),[]))
  else La p f a (l.drop (i+1)) (CC c x) L):=by
 rw[List.drop_eq_getElem_cons hi];have e:l[i]=l.getD i Av.zero:=by simp[List.getD_eq_getElem?_getD,hi]
 rw[e];rfl
theorem ng (hi:i<l.length)(h:(l.getD i Av.zero).kind=1)(hk:Dq p f a (c.at_+(l.getD i Av.zero).arg).toNat=0):La p f a (l.drop i) c L=La p f a (l.drop (i+1)) (CC c (l.getD i Av.zero)) L:=by rw[Ly hi];show(if _ then _ else _)=_;rw[if_pos h,if_pos hk]
theorem eY (hi:i<l.length)(h:(l.getD i Av.zero).kind=1)(hk:Dq p f a (c.at_+(l.getD i Av.zero).arg).toNat≠0):La p f a (l.drop i) c L=(Dq p f a (c.at_+(l.getD i Av.zero).arg).toNat,[]):=by rw[Ly hi];show(if _ then _ else _)=_;rw[if_pos h,if_neg hk]
theorem jQ (hi:i<l.length)(h:(l.getD i Av.zero).kind=4)(hk:Dq p f a (c.at_.toNat+1)=0):La p f a (l.drop i) c L=La p f a (l.drop (i+1)) (CC c (l.getD i Av.zero)) (Sq p f (Ej p f a c.at_.toNat) L):=by rw[Ly hi];show(if _ then _ else _)=_;rw[if_neg zO,if_pos h,if_pos hk]
theorem eZ (hi:i<l.length)(h:(l.getD i Av.zero).kind=4)(hk:Dq p f a (c.at_.toNat+1)≠0):La p f a (l.drop i) c L=(Dq p f a (c.at_.toNat+1),[]):=by rw[Ly hi];show(if _ then _ else _)=_;rw[if_neg zO,if_pos h,if_neg hk]
theorem nh (hi:i<l.length)(h:(l.getD i Av.zero).kind≠1)(h4:(l.getD i Av.zero).kind≠4):La p f a (l.drop i) c L=La p f a (l.drop (i+1)) (CC c (l.getD i Av.zero)) L:=by rw[Ly hi];show(if _ then _ else _)=_;rw[if_neg h,if_neg h4]
theorem YZ (hi:l.length≤i):La p f a (l.drop i) c L=(0,L):=by rw[List.drop_eq_nil_of_le hi];rfl
theorem QA (q:Int):∀l:List Av,C3 q l≤((l.length:Nat):Int)
 |[]=>Int.le_refl _
 |a::l=>by
  have:=QA q l
  show(if a.kind=q then 1 else 0)+C3 q l≤_
  simp only[z9]
  split <;> omega
end
def MM (S:List Nat)(e:TypeId):BL (List Int):=fun H v xs F=>By rI e H v xs F∧∀b∈F,b∉S
theorem CP {S:List Nat}{e:TypeId}:CA (MM S e) where
 cells:=fun h=>(B3 Ay).cells h.1
 one:=fun h=>(B3 Ay).one h.1
 lt:=fun h=>(B3 Ay).lt h.1
 stable:=fun h hb=>⟨(B3 Ay).stable h.1 hb,h.2⟩
section frx
variable {S:List Nat} {e:TypeId} {B U:Nat} {v:Value} {xs:List Int}
theorem TR {H:Array Obj}(h:Fr (MM S e) B U H v xs):Fr (By rI e) B U H v xs:=by obtain⟨F,h1,h2,h3⟩:=h;exact⟨F,h1.1,h2,h3⟩
theorem QB {H:Array Obj}(h:Fr (By rI e) B U H v xs)(hS:∀b∈S,b<B∨U≤b):Fr (MM S e) B U H v xs:=by obtain⟨F,h1,h2,h3⟩:=h;exact⟨F,⟨h1,fun b hb hm=>by have:=hS b hm;have:=h3 b hb;omega⟩,h2,h3⟩
theorem cV {w w':World}(h:Fr (MM S e) B U w.heap v xs)(c:AF S w w'):Fr (MM S e) B U w'.heap v xs:=by obtain⟨F,h1,h2,h3⟩:=h;exact⟨F,CP.stable h1 fun b hb=>c.block b (CP.lt h1 b hb) (h1.2 b hb),h2,h3⟩
theorem Lz {H:Array Obj}(h:Fr (By rI e) B U H v xs)(hS:∀b∈S,b<B∨U≤b):RN S (B8 rI) H v xs:=by obtain⟨F,h1,_,h3⟩:=h;exact⟨F,h1.rd id,fun b hb hm=>by have:=h3 b hb;have:=hS b hm;omega⟩
theorem jR {H:Array Obj}(h:Fr (MM S e) B U H v xs):Rd (B8 rI) H v xs:=(TR h).rd1
end frx
theorem RN.of_frA {S:List Nat}{e:TypeId}{B U:Nat}{H:Array Obj}{v:Value}{xs:List Av}(h:Fr (Dt 2 Kj e) B U H v xs)(hS:∀b∈S,b<B∨U≤b):RN S (D7 2 Kj) H v xs:=by obtain⟨F,h1,_,h3⟩:=h;exact⟨F,h1.rd AA,fun b hb hm=>by have:=h3 b hb;have:=hS b hm;omega⟩
section res
variable {P:Program} {N:Nat} {ρ:Nat→Value} {w:World}
theorem C8 {fn:Func}{R:Ending→World→Prop}{k s b t0 t1:Nat}{ty:TypeId}{cs:List Value}(v0 v1:Value)(hr:fn.results=#[ResultVar.tmp t0,ResultVar.cell k ty,ResultVar.tmp t1])(ha:E0 P ty s=true)(hv:Bk N ρ (.tmp k)=.pointer (some ⟨b,0,none⟩))(hb:BX w.heap b cs)(hl:cs.length=s)
  (h0:Bk N ρ (.tmp t0)=v0) (h1:Bk N ρ (.tmp t1)=v1) (h:R (.returned (.tuple #[v0,.agg cs.toArray,v1])) w):bodyPost P fn R .ret (mk N ρ) w:=by
 subst h0 h1;refine⟨rfl,_,?_,h⟩;have hld:=If (P:=P) ha (LD.of_box hb) hl;have hg:(mk N ρ).tmps.getD k undef=.pointer (some ⟨b,0,none⟩):=by rw[JL,hv]
 have hi:(asAddr (.pointer (some ⟨b,0,none⟩))).run P w=.ok ⟨b,0,none⟩ w:=rfl;unfold results;rw[hr];simp only[List.mapM_toArray,Sem.run_bind,Sem.run_map];have hfull:(([ResultVar.tmp t0,ResultVar.cell k ty,ResultVar.tmp t1].mapM (m:=Sem) fun
  |.tmp t=>pure ((mk N ρ).tmps.getD t undef)
  |.cell a t=>do loadVar t (← asAddr ((mk N ρ).tmps.getD a undef)))).run P w=.ok [Bk N ρ (.tmp t0),.agg cs.toArray,Bk N ρ (.tmp t1)] w:=by
  simp only[List.mapM_cons,List.mapM_nil,Sem.run_bind,Sem.run_pure,Result.andThen_ok,JL,hv];rw[hi];simp only[Result.andThen_ok];rw[hld];rfl
 refine (congrArg (fun r=>(Result.andThen (Result.andThen r fun a w'=>Result.ok a.toArray w') fun a w'=>Result.ok (if h:a.size=1 then a[0]else Value.tuple a) w')) hfull).trans ?_;simp only[Result.andThen_ok];rfl
end res
def LY (p:List Fn)(f:Int)(a ws:List Int)(l:List Av)(k:Int):Int :=
 if Fd p=true∧Dj l=true then(if Dv p f a ws (C3 4 l)=0 then(if 0≤k∧k≤8 then 0 else 2)else Dv p f a ws (C3 4 l))else 1
def jS (p:List Fn)(f:Int)(a ws:List Int)(l:List Av)(k:Int):Int :=
 if LY p f a ws l k=0 then Tc l (C3 4 l).toNat k.toNat else LY p f a ws l k
def MG (p:List Fn)(f:Int)(a ws:List Int)(l:List Av)(k:Int):Int×List Int:=La p f.toNat a l (FN (((C3 4 l).toNat:Nat):Int) k.toNat) ws
def GH (p:List Fn)(f:Int)(a ws:List Int)(l:List Av)(k:Int):Int :=
 if jS p f a ws l k=0 then(MG p f a ws l k).1 else jS p f a ws l k
def f0 (p:List Fn)(f:Int)(a ws:List Int)(l:List Av)(k:Int):List Int:=if GH p f a ws l k=0 then(MG p f a ws l k).2 else []
def Gv (p:List Fn)(f:Int)(a ws:List Int)(l:List Av)(k:Int):Us:=if GH p f a ws l k=0 then LX l (List.replicate (C3 4 l).toNat 1) k.toNat else Us.zero
section
variable {p:List Fn} {f k:Int} {a ws:List Int} {l:List Av}
theorem Vd (h:¬(Fd p=true∧Dj l=true)):LY p f a ws l k=1:=if_neg h
theorem Ve (h:Fd p=true∧Dj l=true)(h1:Dv p f a ws (C3 4 l)=0)(h2:0≤k∧k≤8):LY p f a ws l k=0:=by unfold LY;rw[if_pos h,if_pos h1,if_pos h2]
theorem Oi (h:Fd p=true∧Dj l=true)(h1:Dv p f a ws (C3 4 l)=0)(h2:¬(0≤k∧k≤8)):LY p f a ws l k=2:=by unfold LY;rw[if_pos h,if_pos h1,if_neg h2]
theorem Sv (h:Fd p=true∧Dj l=true)(h1:Dv p f a ws (C3 4 l)≠0):LY p f a ws l k=Dv p f a ws (C3 4 l):=by unfold LY;rw[if_pos h,if_neg h1]
theorem f4 {n k:Nat}(h:Tc l n k=0):GB l (FN ((n:Nat):Int) k) 0 = -1:=by by_cases h9:GB l (FN ((n:Nat):Int) k) 0 = -1;exact h9;rw[RE h9]at h;cases h
theorem QC (h:Fd p=true∧Dj l=true)(h1:G4 p f [a,ws]≠0):LY p f a ws l k=G4 p f [a,ws]:=by have e:Dv p f a ws (C3 4 l)=G4 p f [a,ws]:=Fj h1;rw[Sv h (by rw[e];exact h1),e]
theorem Oj (h:Fd p=true∧Dj l=true)(h1:G4 p f [a,ws]=0)(h2:¬(0≤k∧k≤8)∨¬(0≤C3 4 l∧C3 4 l≤40)):LY p f a ws l k=2:=by
 cases hb:Ge (C3 4 l) 0 40 with
 |true =>
  have h3:=C4.1 hb;exact Oi h (KH h1 hb) (h2.elim id fun h9=>absurd h3 h9)
 |false =>
  have e:Dv p f a ws (C3 4 l)=2:=Gl h1 hb;rw[Sv h (by rw[e];omega),e]
theorem IB (h:LY p f a ws l k≠0):GH p f a ws l k=LY p f a ws l k:=by have hB:jS p f a ws l k=LY p f a ws l k:=if_neg h;unfold GH;rw[if_neg (by rw[hB];exact h),hB]
theorem Vf (h:LY p f a ws l k=0)(h4:GB l (FN (((C3 4 l).toNat:Nat):Int) k.toNat) 0≠-1):GH p f a ws l k=4:=by
 have hB:jS p f a ws l k=4:=by unfold jS;rw[if_pos h,RE h4]
 unfold GH;rw[hB];rfl
theorem MH (h:LY p f a ws l k=0)(h4:GB l (FN (((C3 4 l).toNat:Nat):Int) k.toNat) 0 = -1):GH p f a ws l k=(MG p f a ws l k).1:=by
 have hB:jS p f a ws l k=0:=by unfold jS;rw[if_pos h,RD h4]
 unfold GH;rw[if_pos hB]
theorem Hk (h:GH p f a ws l k≠0):f0 p f a ws l k=[]:=if_neg h
theorem Hl (h:GH p f a ws l k=0):f0 p f a ws l k=(MG p f a ws l k).2:=if_pos h
theorem f5 (h:GH p f a ws l k≠0):Gv p f a ws l k=Us.zero:=if_neg h
theorem Z0 (h:GH p f a ws l k=0):Gv p f a ws l k=LX l (List.replicate (C3 4 l).toNat 1) k.toNat:=if_pos h
theorem f7 {n k:Nat}(h:X3 l n k=true):GB l (FN ((n:Nat):Int) k) 0≠-1:=by
 unfold X3 at h
 intro h9;rw[h9]at h;cases h
theorem f8 {n k:Nat}(h:X3 l n k=false):GB l (FN ((n:Nat):Int) k) 0 = -1:=by unfold X3 at h;by_cases h9:GB l (FN ((n:Nat):Int) k) 0 = -1;exact h9;rw[A6 h9]at h;cases h
theorem Ok (n:Nat):∀i,0≤(List.replicate n (1:Int)).getD i 0∧(List.replicate n (1:Int)).getD i 0≤1000:=fun i=>by
 simp only[List.getD_eq_getElem?_getD,List.getElem?_replicate]
 split <;> simp
end
end
section
def Sw (w:List Int):Bool:=decide (w.length≤40) && !w.any fun x=>!(decide (0≤x) && decide (x≤1000))
def Tg (l:List Av)(w:List Int)(k:Int):Int:=if Dj l=true∧Sw w=true then(if 0≤k∧k≤8 then Tc l w.length k.toNat else 2)else 1
def PS (l:List Av)(w:List Int)(k:Int):Us:=if Tg l w k=0 then LX l w k.toNat else Us.zero
section
variable {l:List Av} {w:List Int} {k:Int}
theorem Vg:Sw w=true↔w.length≤40∧∀i,0≤w.getD i 0∧w.getD i 0≤1000:=by
 unfold Sw;rw[z7,decide_eq_true_eq];refine and_congr_right fun _=>?_;rw[Bool.not_eq_true',← Bool.not_eq_true,List.any_eq_true];constructor
 intro h i;by_cases hi:i<w.length;have e:w.getD i 0=w[i]:=by simp[List.getD_eq_getElem?_getD,hi]
 cases hh:(decide (0≤w.getD i 0) && decide (w.getD i 0≤1000))with
 |true =>
  rw[z7]at hh;exact⟨of_decide_eq_true hh.1,of_decide_eq_true hh.2⟩
 |false=>exact absurd ⟨w.getD i 0,by rw[e];exact List.getElem_mem hi,by rw[hh];rfl⟩ h
 have e:w.getD i 0=0:=by simp[List.getD_eq_getElem?_getD,hi]
 rw[e];omega;rintro h ⟨x,hx,hy⟩;obtain⟨i,hi,rfl⟩:=List.mem_iff_getElem.1 hx;have h2:=h i;rw[show w.getD i 0=w[i]from by simp[List.getD_eq_getElem?_getD,hi]]at h2;rw[A5 h2.1,A5 h2.2]at hy;cases hy
theorem Vh (h:¬w.length≤40):false=Sw w:=by unfold Sw;rw[A6 h];rfl
theorem Vi (h:w.length≤40):(!w.any fun x=>!(decide (0≤x) && decide (x≤1000)))=Sw w:=by unfold Sw;rw[A5 h,Bool.true_and]
theorem f9 (h:¬(Dj l=true∧Sw w=true)):Tg l w k=1:=if_neg h
theorem nj (h:Dj l=true∧Sw w=true)(h2:¬(0≤k∧k≤8)):Tg l w k=2:=by unfold Tg;rw[if_pos h,if_neg h2]
theorem Z1 (h:Dj l=true∧Sw w=true)(h2:0≤k∧k≤8):Tg l w k=Tc l w.length k.toNat:=by unfold Tg;rw[if_pos h,if_pos h2]
theorem nk (h:Tg l w k≠0):PS l w k=Us.zero:=if_neg h
theorem fa (h:Dj l=true∧Sw w=true)(h2:0≤k∧k≤8):PS l w k=LX l w k.toNat:=by unfold PS;by_cases h3:Tg l w k=0;rw[if_pos h3];rw[if_neg h3,eG (by rw[← Z1 h h2];exact h3)]
theorem Vj (n:Nat)(h:n≤40):Sw (List.replicate n 1)=true:=Vg.2 ⟨by simpa using h,fun i=>by
 simp only[List.getD_eq_getElem?_getD,List.getElem?_replicate]
 split <;> simp⟩
end
end
section
def fc (sd b:Int):Int:=(sd*6364136223846793005+b+1442695040888963407) % 18446744073709551616
def Z2 (cs:List UInt8)(n:Nat):Int:=if n<cs.length then(((cs.getD n 0).toNat:Nat):Int)else 0
def Ni (cs:List UInt8):Nat→Int
 |0=>0
 |n+1=>fc (Ni cs n) (Z2 cs n)
def IS (cs:List UInt8)(n:Nat):Int:=if n<cs.length then Z2 cs n else(Ni cs (n+1) / 1099511627776) % 256
theorem cW (cs:List UInt8)(n:Nat):0≤Z2 cs n∧Z2 cs n≤255:=by unfold Z2;split;have:=(cs.getD n 0).toNat_lt;omega;omega
theorem Hm (cs:List UInt8)(n:Nat):0≤IS cs n∧IS cs n≤255:=by unfold IS;split;exact cW cs n;omega
theorem cX (cs:List UInt8)(n:Nat):0≤Ni cs n∧Ni cs n<18446744073709551616:=by
 cases n with
 |zero=>exact⟨Int.le_refl 0,by show(0:Int)<_;decide⟩
 |succ n=>show 0≤fc _ _∧fc _ _<_;unfold fc;omega
def aj:Nat→Int
 |0=>6364136223846793005 % 281474976710656
 |j+1=>(aj j*aj j) % 281474976710656
def cj:Nat→Int
 |0=>1442695040888963407 % 281474976710656
 |j+1=>(cj j*(aj j+1)) % 281474976710656
theorem qQ:aj 47=1:=by decide +kernel
theorem qR:cj 47=140737488355328:=by decide +kernel
theorem nl (x m:Int):∃q,x % m=x+m*q:=⟨-(x / m),by rw[Int.emod_def,Int.mul_neg];rfl⟩
theorem qS (cs:List UInt8):∀(j n:Nat),cs.length≤n→∃q:Int,Ni cs (n+2 ^ j)=aj j*Ni cs n+cj j+281474976710656*q
 |0,n,h=>by
  show ∃q:Int,fc _ _=_
  unfold fc Z2
  rw[if_neg (by omega)]
  obtain⟨q,hq⟩:=nl (Ni cs n*6364136223846793005+0+1442695040888963407) 18446744073709551616
  obtain⟨q1,h1⟩:=nl 6364136223846793005 281474976710656
  obtain⟨q2,h2⟩:=nl 1442695040888963407 281474976710656
  rw[hq]
  unfold aj cj
  rw[h1,h2]
  refine⟨65536*q-q1*Ni cs n-q2,?_⟩
  grind
 |j+1,n,h=>by
  obtain⟨q,hq⟩:=qS cs j n h
  obtain⟨r,hr⟩:=qS cs j (n+2 ^ j) (A8 h (Nat.le_add_right ..))
  rw[show n+2 ^ (j+1)=n+2 ^ j+2 ^ j from by rw[Nat.pow_succ];omega,hr,hq]
  show ∃q:Int,_=(aj j*aj j) % 281474976710656*Ni cs n+(cj j*(aj j+1)) % 281474976710656+281474976710656*q
  obtain⟨q1,h1⟩:=nl (aj j*aj j) 281474976710656
  obtain⟨q2,h2⟩:=nl (cj j*(aj j+1)) 281474976710656
  rw[h1,h2]
  refine⟨aj j*q+r-q1*Ni cs n-q2,?_⟩
  grind
theorem np (cs:List UInt8){n m:Nat}(h:cs.length≤n)(hm:m=n+140737488355328):∃q:Int,Ni cs m=Ni cs n+140737488355328+281474976710656*q:=by obtain⟨q,hq⟩:=qS cs 47 n h;rw[show n+2 ^ 47=m from by rw[hm],qQ,qR,Int.one_mul]at hq;exact⟨q,hq⟩
theorem QD {cs:List UInt8}{n m:Nat}(h:cs.length≤n)(hm:m=n+1):IS cs n=(Ni cs m / 1099511627776) % 256:=by unfold IS;rw[if_neg zO,hm]
theorem Vk (cs:List UInt8){n m:Nat}(h:cs.length≤n)(hm:m=n+140737488355328):IS cs m=(IS cs n+128) % 256:=by obtain⟨m1,h1⟩:∃m1,m1=m+1:=⟨_,rfl⟩;obtain⟨n1,h2⟩:∃n1,n1=n+1:=⟨_,rfl⟩;rw[QD zO h1,QD h h2];obtain⟨q,hq⟩:=np cs (n:=n1) (m:=m1) zO zO;rw[hq];omega
theorem nr {cs:List UInt8}{p q:Nat}(hp:cs.length≤p)(hq:q=p+140737488355328)(h:IS cs p % 5=0):IS cs q % 5≠0:=by have hb:=Hm cs p;have e:=Vk cs hp hq;omega
theorem ns {cs:List UInt8}{p q:Nat}(hp:cs.length≤p)(hq:q=p+422212465065984)(h:IS cs p % 5=0):IS cs q % 5≠0:=by have hb:=Hm cs p;obtain⟨a,ha⟩:∃a,a=p+140737488355328:=⟨_,rfl⟩;obtain⟨b,hb⟩:∃b,b=a+140737488355328:=⟨_,rfl⟩;have e1:=Vk cs hp ha;have e2:=Vk cs zO hb;have e3:=Vk cs (n:=b) (m:=q) zO zO;omega
theorem sx {cs:List UInt8}{n:Nat}(hc:cs.length≤5000)(h:IS cs (n+5000*2) % 5=0):∃j,j<140737488360329∧IS cs (n+j*2) % 5≠0:=by obtain⟨j,hj⟩:∃j:Nat,j=70368744182664:=⟨_,rfl⟩;exact⟨j,zO,nr (p:=n+5000*2) zO zO h⟩
theorem sy {cs:List UInt8}{n:Nat}(hc:cs.length≤5000)(h:IS cs (n+5000*3) % 5=0):∃j,j<140737488360329∧IS cs (n+j*3) % 5≠0:=by obtain⟨j,hj⟩:∃j:Nat,j=140737488360328:=⟨_,rfl⟩;exact⟨j,zO,ns (p:=n+5000*3) zO zO h⟩
theorem Sx (cs:List UInt8)(n:Nat){k:Nat}(hk:k=2∨k=3)(hc:cs.length≤5000):∃j,j<140737488360329∧IS cs (n+j*k) % 5≠0:=by by_cases h:IS cs (n+5000*k) % 5=0;rcases hk with rfl|rfl;exact sx hc h;exact sy hc h;exact⟨5000,zO,h⟩
theorem Mf {cs:List UInt8}{m t k len:Nat}(hk:k=2∨k=3)(hc:cs.length≤5000)(hj:∃j,j<t∧IS cs (m+j*k+(k-1)) % 5≠0)(ht:t≤140737488360329)
  {m' len':Nat} (h4:len'≤400) (h:len<len'∨(len'=len∧m'=m+k∧IS cs (m+(k-1)) % 5=0)) :
  ∃t',(∃j,j<t'∧IS cs (m'+j*k+(k-1)) % 5≠0)∧t'≤140737488360329∧(400-len')*281474976710656+t'<(400-len)*281474976710656+t:=by
 rcases h with h|⟨rfl,rfl,h⟩;obtain⟨j,h1,h2⟩:=Sx cs (m'+(k-1)) hk hc;refine⟨140737488360329,⟨j,h1,?_⟩,A7 _,zO⟩;rw[show m'+j*k+(k-1)=m'+(k-1)+j*k from by omega];exact h2;obtain⟨j,h1,h2⟩:=hj;cases j with
 |zero=>exact absurd (by simpa using h) h2
 |succ j =>
  refine⟨t-1,⟨j,zO,?_⟩,zO,zO⟩;rw[show m+k+j*k+(k-1)=m+(j+1)*k+(k-1)from by rw[Nat.succ_mul];omega];exact h2
def Ib (H:Array Obj)(g:Nat)(v:Value)(cs:List UInt8)(n:Nat):Prop:=BX H g [v,.int .i64 ((n:Nat):Int),.int .u64 (Ni cs n)]∧∃F,B8 rU H v cs F∧∀b∈F,b<g
section
variable {H:Array Obj} {w w':World} {g n n':Nat} {v:Value} {cs:List UInt8} {G:List Nat}
theorem Ib.src (h:Ib H g v cs n):FZ H g v cs n:=⟨_,h.1,h.2⟩
theorem Ib.lt (h:Ib H g v cs n):g<H.size:=h.1.lt
theorem Ib.ext (h:Ib w.heap g v cs n)(k:AI w w'):Ib w'.heap g v cs n:=by obtain⟨h,F,h1,h2⟩:=h;exact⟨h.ext k,F,Dr.stable h1 fun b hb=>k.heap (Dr.lt h1 b hb),h2⟩
theorem Ib.chg (h:Ib w.heap g v cs n)(k:AF G w w')(hG:∀b∈G,g<b):Ib w'.heap g v cs n:=by obtain⟨h,F,h1,h2⟩:=h;exact⟨h.chg k fun hm=>by have:=hG g hm;omega,F,Dr.stable h1 fun b hb=>k.block b (Dr.lt h1 b hb) fun hm=>by have:=hG b hm;have:=h2 b hb;omega,h2⟩
theorem Ib.parts (h:Ib w.heap g v cs n):∃sd:Int,BX w.heap g [v,.int .i64 ((n:Nat):Int),.int .u64 sd]∧(sd=Ni cs n∧∀w',AF [g] w w'→Rd (B8 rU) w'.heap v cs):=by refine⟨_,h.1,rfl,fun w' k=>?_⟩;obtain⟨sd,hb,hr⟩:=h.src.parts;exact hr w' k
theorem Ib.close {sd:Int}(h:Ib w.heap g v cs n)(k:AF [g] w w')(hb:BX w'.heap g [v,.int .i64 ((n':Nat):Int),.int .u64 sd])(hs:sd=Ni cs n'):Ib w'.heap g v cs n':=by obtain⟨sd1,_,F,h1,h2⟩:=h.src.close k hb;exact⟨hs ▸ hb,F,h1,h2⟩
theorem Ib.new (h:Rd (B8 rU) w.heap v cs)(k:AI w w')(hb:BX w'.heap g [v,.int .i64 0,.int .u64 0])(hg:w.heap.size≤g):Ib w'.heap g v cs 0:=by obtain⟨sd,_,F,h1,h2⟩:=FZ.new h k hb hg;exact⟨hb,F,h1,h2⟩
end
theorem Z3 {a:Int}(h:0≤a)(h2:a<18446744073709551616):GA .u64 a 255=a % 256:=by
 have e:(BitVec.ofInt 64 a &&& BitVec.ofInt 64 255).toNat=a.toNat % 256:=by
  rw[BitVec.toNat_and,BitVec.toNat_ofInt,show(BitVec.ofInt 64 255).toNat=2 ^ 8-1 from by decide,Nat.and_two_pow_sub_one_eq_mod];congr 1;omega
 unfold GA;show IntKind.u64.wrap ((BitVec.ofInt 64 a &&& BitVec.ofInt 64 255).toNat:Int)=_;rw[e,IntWalk.u64_in _ (by omega)];omega
theorem wU (x:Int):IntKind.u64.wrap x=x % 18446744073709551616:=by unfold IntKind.wrap;simp[IntKind.bits,IntKind.signed]
section
variable {cs:List UInt8} {n0:Nat} {sd:Int}
theorem Sy {b:Int}(hsd:sd=Ni cs n0)(hb:b=Z2 cs n0):IntKind.u64.wrap ((IntKind.u64.wrap ((IntKind.u64.wrap (sd*6364136223846793005))+(IntKind.u64.wrap b)))+1442695040888963407)=Ni cs (n0+1):=by show _=fc (Ni cs n0) (Z2 cs n0);unfold fc;rw[wU,wU,wU,wU,hsd,hb];omega
theorem jT (hsd:sd=Ni cs n0)(h:n0<cs.length):IntKind.u64.wrap ((IntKind.u64.wrap ((IntKind.u64.wrap (sd*6364136223846793005))+(IntKind.u64.wrap (((cs.getD n0 0).toNat:Int)))))+1442695040888963407)=Ni cs (n0+1) :=
 Sy hsd (by unfold Z2;rw[if_pos h])
theorem Vl (hsd:sd=Ni cs n0)(h:cs.length≤n0):IntKind.u64.wrap ((IntKind.u64.wrap ((IntKind.u64.wrap (sd*6364136223846793005))+(IntKind.u64.wrap (((0:Nat):Int)))))+1442695040888963407)=Ni cs (n0+1) :=
 Sy hsd (by unfold Z2;rw[if_neg (by omega)];rfl)
theorem jU (h:n0<cs.length):((cs.getD n0 0).toNat:Int)=IS cs n0:=by unfold IS Z2;rw[if_pos h,if_pos h]
theorem cY (hsd:sd=Ni cs n0)(h:cs.length≤n0):GA .u64 ((IntKind.u64.wrap ((IntKind.u64.wrap ((IntKind.u64.wrap (sd*6364136223846793005))+(IntKind.u64.wrap (((0:Nat):Int)))))+1442695040888963407)).fdiv (2 ^ (min (40:Int).toNat (IntKind.u64).bits))) 255=IS cs n0:=by rw[Vl hsd h,QD h rfl,show(2:Int) ^ (min (40:Int).toNat (IntKind.u64).bits)=1099511627776 from by decide,Int.fdiv_eq_ediv_of_nonneg _ (by omega)];have:=cX cs (n0+1);exact Z3 zO zO
end
theorem cZ {us:List Int}{k:Nat}(h:k<us.length):us.getD k 0∈us:=by rw[List.getD_eq_getElem?_getD,List.getElem?_eq_getElem h];exact List.getElem_mem h
def Th (cs:List UInt8)(n:Nat)(k:Int):Int:=if k≤1 then 0 else if k≤200 then IS cs n % k else(IS cs n*256+IS cs (n+1)) % k
def Vm (n:Nat)(k:Int):Nat:=if k≤1 then n else if k≤200 then n+1 else n+2
section
variable {cs:List UInt8} {n0 n1:Nat} {k x y:Int} {b:Bool}
theorem qT (h:k≤1):((0:Nat):Int)=Th cs n0 k∧n0=Vm n0 k:=by unfold Th Vm;rw[if_pos h,if_pos h];exact⟨rfl,rfl⟩
theorem qU (h:¬k≤1)(h2:¬200<k)(hx:x=IS cs n0∧n1=n0+1):x % k=Th cs n0 k∧n1=Vm n0 k:=by unfold Th Vm;rw[if_neg h,if_neg h,if_pos zO,if_pos zO,hx.1];exact⟨rfl,hx.2⟩
theorem qV {n2:Nat}(h:¬k≤1)(h2:200<k)(hx:x=IS cs n0∧n1=n0+1)(hy:y=IS cs n1∧n2=n1+1):(x*((256:Nat):Int)+y) % k=Th cs n0 k∧n2=Vm n0 k:=by unfold Th Vm;rw[if_neg h,if_neg h,if_neg zO,if_neg zO,hx.1,hy.1,hy.2,hx.2];exact⟨rfl,rfl⟩
theorem jV {m k:Nat}(hk:k=2∨k=3)(hc:cs.length≤5000):∃j,j<140737488360329∧IS cs (m+j*k+(k-1)) % 5≠0:=by obtain⟨j,h1,h2⟩:=Sx cs (m+(k-1)) hk hc;refine⟨j,h1,?_⟩;rw[show m+j*k+(k-1)=m+(k-1)+j*k from by omega];exact h2
theorem Vn (cs:List UInt8)(n:Nat)(k:Int):0≤Th cs n k∧(1≤k→Th cs n k<k):=by unfold Th;split;omega;split <;> exact⟨Int.emod_nonneg _ zO,fun _=>Int.emod_lt_of_pos _ zO⟩
theorem De (h:x=Th cs n0 k∧n1=Vm n0 k):(k≤1∧n1=n0∧x=0)∨(2≤k∧n0+1≤n1∧(n1=n0+1∨200<k∧n1=n0+2)∧0≤x∧x<k):=by obtain⟨rfl,rfl⟩:=h;have hr:=Vn cs n0 k;unfold Vm;by_cases h:k≤1;rw[if_pos h];exact .inl ⟨h,rfl,by unfold Th;rw[if_pos h]⟩;rw[if_neg h];by_cases h2:k≤200;rw[if_pos h2];exact .inr ⟨zO,zO,.inl rfl,hr.1,hr.2 zO⟩;rw[if_neg h2];exact .inr ⟨zO,zO,.inr ⟨zO,rfl⟩,hr.1,hr.2 zO⟩
theorem KI (h:b=decide (Th cs n0 k=0)∧n1=Vm n0 k)(hk:2≤k∧k≤200):n1=n0+1:=by rw[h.2];unfold Vm;rw[if_neg zO,if_pos hk.2]
theorem jW (h:b=decide (Th cs n0 k=0)∧n1=Vm n0 k)(hk:2≤k∧k≤200)(hb:b=true):IS cs n0 % k=0:=by have h1:=of_decide_eq_true<|h.1.symm.trans hb;unfold Th at h1;rwa [if_neg zO,if_pos hk.2]at h1
end
end
section
def PT (z:Cn)(l:List Av)(a:Av)(z':Cn)(l':List Av):Prop:=(Ie a=true∧Cw z a=true∧z'=CC z a∧l'=l++[a])∨((Ie a && Cw z a)=false∧z'=z∧l'=l)
structure fd (n:Int)(sl:Nat)(z:Cn):Prop where
 k:T7 n z
 len:z.slots.length=sl
 h0:1≤sl→z.slots.getD 0 0=0
structure dA (z:Cn)(l:List Av)(z':Cn)(l':List Av):Prop where
 le:l.length≤l'.length
 same:l'.length=l.length→z'=z∧l'=l
section
variable {n:Int} {sl:Nat} {z z' z1q:Cn} {l l' l1:List Av} {a:Av}
theorem dA.refl:dA z l z l:=⟨A7 _,fun _=>⟨rfl,rfl⟩⟩
theorem Fk (h:PT z l a z' l'):l'.length≤l.length+1∧dA z l z' l':=by rcases h with⟨_,_,rfl,rfl⟩|⟨_,rfl,rfl⟩;rw[z4];exact⟨A7 _,⟨by rw[z4];exact Nat.le_add_right ..,fun e=>by rw[z4]at e;have:[a].length=1:=rfl;omega⟩⟩;exact⟨Nat.le_succ _,dA.refl⟩
theorem FE (h:PT z l a z' l')(hl:∀x∈l,Ie x=true):∀x∈l',Ie x=true:=by
 rcases h with⟨h1,_,rfl,rfl⟩|⟨_,rfl,rfl⟩
 intro x hx;rcases zi.1 hx with hx|hx;exact hl x hx;rw[A9 hx];exact h1;exact hl
theorem QE (h:PT z l a z' l')(h1:Gd a)(h2:Cw z a=true):z'=CC z a∧l'.length=l.length+1:=by rcases h with⟨_,_,rfl,rfl⟩|⟨h3,rfl,rfl⟩;exact⟨rfl,by rw[z4];rfl⟩;rw[EC.2 h1,h2]at h3;cases h3
theorem ff (h:PT z l a z' l')(h1:¬(Gd a∧Cw z a=true)):z'=z∧l'=l:=by rcases h with⟨h2,h3,_⟩|⟨_,rfl,rfl⟩;exact absurd ⟨EC.1 h2,h3⟩ h1;exact⟨rfl,rfl⟩
theorem Z4 (h:PT z l a z' l')(hk:T7 n z):T7 n z':=by rcases h with⟨h1,h2,rfl,rfl⟩|⟨_,rfl,rfl⟩;exact hk.act (EC.1 h1) h2;exact hk
theorem fg (h:PT z l a z' l'):z'.slots.length=z.slots.length:=by rcases h with⟨_,_,rfl,rfl⟩|⟨_,rfl,rfl⟩;exact Qb;rfl
theorem Xg (h:PT z l a z' l')(hz:fd n sl z)(ha:a.kind=2→a.arg≠0):fd n sl z':=by
 refine⟨Z4 h hz.k,(fg h).trans hz.len,fun h1=>?_⟩;have h0:=hz.h0 h1;rcases h with⟨h2,_,rfl,rfl⟩|⟨_,rfl,rfl⟩;have hv:=EC.1 h2;unfold CC;split;exact h0;split;rename_i h4;have h5:=ha h4;unfold Gd at hv;have h6:a.arg.toNat≠0:=by omega
 show(z.slots.set a.arg.toNat z.at_).getD 0 0=0;rw[List.getD_eq_getElem?_getD,List.getElem?_set,if_neg h6,← List.getD_eq_getElem?_getD];exact h0;split <;> exact h0;exact h0
theorem nt (h:PT (FN n sl) l ⟨2,0⟩ z' l')(hn:0≤n):fd n sl z'∧z'.at_=0∧z'.left=n:=by have hk:=Z4 h<|Ny hn sl;have hl:=fg h;rcases h with⟨h2,h3,rfl,rfl⟩|⟨h3,rfl,rfl⟩;refine⟨⟨hk,hl.trans (by simp[FN]),fun h1=>?_⟩,rfl,rfl⟩;show((List.replicate sl (-1:Int)).set 0 0).getD 0 0=0;rw[List.getD_eq_getElem?_getD,List.getElem?_set];simp only[z5];rw[if_pos (show 0<sl from h1)];rfl;refine⟨⟨hk,hl.trans (by simp[FN]),fun h1=>?_⟩,rfl,rfl⟩;rw[show Ie (⟨2,0⟩:Av)=true from by decide,Bool.true_and]at h3;unfold Cw at h3;simp[FN]at h3;omega
theorem fh (h:PT z l a z' l')(hk:a.kind=3):z'.left=z.left∧z'.slots=z.slots:=by rcases h with⟨_,_,rfl,rfl⟩|⟨_,rfl,rfl⟩;unfold CC;rw[if_neg zO,if_neg zO,if_pos hk];exact⟨rfl,rfl⟩;exact⟨rfl,rfl⟩
theorem Z5 (h:PT z l a z' l')(hk:a.kind=3)(ha:a.arg=0)(hz:fd n sl z)(h1:1≤sl):z'.at_=0∧l'.length=l.length+1:=by
 have h0:=hz.h0 h1;have hl:=hz.len;have hp:Cw z a=true:=by
  unfold Cw;rw[if_neg zO,if_neg zO,if_pos hk,ha,z7,decide_eq_true_eq,decide_eq_true_eq];exact⟨zO,by show 0≤z.slots.getD 0 0;omega⟩
 obtain⟨rfl,h4⟩:=QE h (by unfold Gd;omega) hp;refine⟨?_,h4⟩;unfold CC;rw[if_neg zO,if_neg zO,if_pos hk,ha];exact h0
theorem jX (h:PT z l a z' l')(hk:a.kind=3)(hl:z.slots.length=0):z'=z∧l'=l:=by refine ff h fun⟨h1,h2⟩=>?_;unfold Cw at h2;rw[if_neg zO,if_neg zO,if_pos hk,z7,decide_eq_true_eq]at h2;unfold Gd at h1;omega
theorem nu (h:PT z l a z' l')(hk:a.kind=2):z'.left=z.left∧z'.at_=z.at_:=by rcases h with⟨_,_,rfl,rfl⟩|⟨_,rfl,rfl⟩;unfold CC;rw[if_neg zO,if_pos hk];exact⟨rfl,rfl⟩;exact⟨rfl,rfl⟩
theorem jY (h:PT z l a z' l')(hk:a.kind=2)(hz:fd n sl z)(h1:0≤a.arg)(h2:a.arg<((sl:Nat):Int))(h8:sl≤8):l'.length=l.length+1:=by have hl:=hz.len;refine (QE h (by unfold Gd;omega) ?_).2;unfold Cw;rw[if_neg zO,if_pos hk,decide_eq_true_eq];omega
theorem Z6 (h:PT z l a z' l')(hk:a.kind=1):z'.left=z.left∧z'.slots=z.slots∧(z.at_<z.left→z'.at_<z'.left):=by rcases h with⟨_,h2,rfl,rfl⟩|⟨_,rfl,rfl⟩;unfold Cw at h2;rw[if_pos hk,decide_eq_true_eq]at h2;unfold CC;rw[if_pos hk];exact⟨rfl,rfl,fun _=>h2⟩;exact⟨rfl,rfl,id⟩
theorem Z7 (h:PT z l a z' l')(hk:a.kind=1)(h1:1≤a.arg)(h2:z.at_+a.arg<z.left)(h4:a.arg≤40):z'.at_=z.at_+a.arg∧l'.length=l.length+1:=by obtain⟨rfl,h5⟩:=QE h (by unfold Gd;omega) (by unfold Cw;rw[if_pos hk,decide_eq_true_eq];exact h2);refine⟨?_,h5⟩;unfold CC;rw[if_pos hk]
theorem jZ (h:PT z l a z' l')(hk:a.kind=1)(h1:a.arg<1∨z.left≤z.at_+a.arg):z'=z∧l'=l:=by refine ff h fun⟨h2,h3⟩=>?_;unfold Cw at h3;rw[if_pos hk,decide_eq_true_eq]at h3;unfold Gd at h2;omega
theorem fi (h:PT z l a z' l')(hk:a.kind=4)(ha:a.arg=0)(h1:z.at_=z.left-1):z'.left=z.at_∧z'.at_=z.at_∧z'.slots=z.slots∧l'.length=l.length+1:=by
 obtain⟨rfl,h5⟩:=QE h (by unfold Gd;omega) (by unfold Cw;rw[if_neg zO,if_neg zO,if_neg zO,decide_eq_true_eq];exact h1);have e:CC z a=⟨z.at_,z.at_,z.slots⟩:=by unfold CC;rw[if_neg zO,if_neg zO,if_neg (by omega)]
 rw[e];exact⟨rfl,rfl,rfl,h5⟩
theorem kA {z2q:Cn}{l2:List Av}{a2:Av}(h:PT z l a z1q l1)(h2:PT z1q l1 a2 z2q l2)(hk:a.kind=1)(hk2:a2.kind=4)(ha:a.arg=z.left-1-z.at_)(ha2:a2.arg=0)(hlt:z.at_<z.left)(h0:0≤z.at_)(h40:z.left≤40) :
  l.length<l2.length∧z2q.left=z.left-1∧z2q.at_=z.left-1:=by
 have hq:=(Fk h).2.le;by_cases h1:z.at_=z.left-1;obtain⟨rfl,rfl⟩:=jZ h hk zO;obtain⟨b1,b2,_,b3⟩:=fi h2 hk2 ha2 h1;omega;obtain⟨c1,c2⟩:=Z7 h hk zO zO zO;have c3:=(Z6 h hk).1;obtain⟨b1,b2,_,b3⟩:=fi h2 hk2 ha2 zO;omega
end
end
section
theorem Z8 {H:Array Obj}:∀ {us:List Value}{xs:List Int}{F:List Nat},els rI H us xs F→us=xs.map (Value.int .i64)∧(∀x∈xs,Bw x)∧F=[]
 |[],[],F,h=>⟨rfl,(fun x hx=>by cases hx),h⟩
 |[],_::_,_,h=>h.elim
 |_::_,[],_,h=>h.elim
 |u::us,x::xs,F,h=>by
  obtain⟨A,C,rfl,⟨rfl,rfl,h1,h2⟩,p2⟩:=h
  obtain⟨q1,q2,q3⟩:=Z8 p2
  subst q1 q3
  refine⟨rfl,fun y hy=>?_,rfl⟩
  rcases ze.1 hy with rfl|hy
  exact⟨h1,h2⟩
  exact q2 y hy
theorem Z9 {H:Array Obj}:∀ {xs:List Int},(∀x∈xs,Bw x)→els rI H (xs.map (Value.int .i64)) xs []
 |[],_=>rfl
 |x::xs,h=>⟨[],[],rfl,⟨rfl,rfl,(h x (z0 ..)).1,(h x (z0 ..)).2⟩,Z9 fun y hy=>h y (z3 _ hy)⟩
def Vo (xs:List Int)(m:Nat)(ys:List Int):List Int:=xs.take m++ys.take (min ys.length (xs.length-m))++xs.drop (m+min ys.length (xs.length-m))
theorem QF {xs ys:List Int}{m:Nat}(hm:m≤xs.length):(Vo xs m ys).length=xs.length:=by unfold Vo;simp only[z4,List.length_take,List.length_drop];omega
section
variable {P:Program} {w:World} {t e e0 ty:TypeId} {v vs:Value} {xs ys:List Int} {m B U:Nat}
theorem Xh (ht:P.underlying t=some (.slice e))(hi:(P.info? e).map (·.size)=some 1)(hv:Fr (By rI e0) B U w.heap v xs)(hm:m≤xs.length)(hs:Rd (B8 rI) w.heap vs ys) :
  ∃w1 F,(Builtin.copy_ #[t,t] ty #[Oh v m,vs]).run P w=.ok (goInt ((min ys.length (xs.length-m):Nat):Int)) w1∧AF F w w1∧w1.heap.size=w.heap.size∧(∀c∈F,B≤c∧c<U)∧Fr (By rI e0) B U w1.heap v (Vo xs m ys):=by
 obtain⟨sa,sc,hvs,_⟩:=hs.isSl;by_cases hK:min ys.length (xs.length-m)=0;have hxs:Vo xs m ys=xs:=by
  unfold Vo;rw[hK];simp
 refine⟨w,[],?_,AF.refl _ _,rfl,(fun c hc=>by cases hc),by rw[hxs];exact hv⟩;obtain⟨da,dc,hd,_⟩:=hv.isSl;subst hvs hd;obtain⟨i,hq,hi1⟩:=Option.map_eq_some_iff.1 hi;have hmin:Nat.min ys.length (xs.length-m)=0:=hK;have hmin2:ys.length.min (xs.length-m)=0:=hK;unfold Oh;cases sa with
 |none=>cases hda:(if dc=m then da else da.map (·.add m)) <;> simp[Builtin.copy_,run_underlying ht,Builtin.lenOf,Builtin.firstCells,sizeOf,typeInfo,hq,hi1,storeCells,hmin,hK,hda]
 |some a =>
  have hl0:=run_loadCells_list (P:=P) w a [] (by simp);simp only[zb]at hl0;cases hda:(if dc=m then da else da.map (·.add m)) <;> simp[Builtin.copy_,run_underlying ht,Builtin.lenOf,Builtin.firstCells,sizeOf,typeInfo,hq,hi1,storeCells,hmin,hK,hda,hl0]
 obtain⟨F,h1,h2,h3⟩:=hv;rcases h1 with⟨rfl,rfl,rfl⟩|⟨us,g,cap,cur,F',hels,rfl,hg,r1,r2,r3,r4,rfl⟩;exact absurd (by simp) hK;obtain⟨e1,e2,rfl⟩:=Z8 hels;subst e1;have hcm:¬cap=m:=by omega
 have hsuf:Oh (.slice (some ⟨g,0,none⟩) xs.length cap) m=.slice (some ⟨g,m,none⟩) (xs.length-m) (cap-m):=by
  unfold Oh;simp[hcm,Addr.add];try (intro h;exact h.symm)
 have hyn:0<ys.length:=by omega
 subst hvs;cases sa with
 |none =>
  have h9:=(hs.getI (k:=0) hyn).1;cases h9
 |some a =>
  have hcl:∀j (x:Value),((ys.take (min ys.length (xs.length-m))).map (Value.int .i64))[j]? = some x→w.cell? (a.add j)=some x:=by
   intro j x hx;have hj:j<min ys.length (xs.length-m):=by
    have:=(List.getElem?_eq_some_iff.1 hx).1;simp only[zg,List.length_take]at this;omega
   have h9:=(hs.getI (k:=j) zO).1;rw[List.getElem?_map,List.getElem?_take_of_lt hj,List.getElem?_eq_getElem (by omega:j<ys.length)]at hx;have hx2:x=.int .i64 (ys.getD j 0):=by
    simp only[Option.map_some,Option.some.injEq]at hx;rw[← hx];simp[List.getD_eq_getElem?_getD,(by omega:j<ys.length)]
   rw[hx2,← h9];obtain⟨ag,ao,af⟩:=a;cases af with
   |none =>
    have hadd:(⟨ag,ao,none⟩:Addr).add j=⟨ag,ao+j,none⟩:=by unfold Addr.add;split <;> simp_all
    rw[hadd,BY,He];rfl
   |some q =>
    exfalso;obtain⟨F9,⟨a9,cap9,hv9,hy9,_⟩|⟨us9,g9,off9,cap9,cur9,e9,fr9,F9',_,hv9,_⟩⟩:=hs;rw[hy9]at hyn;cases hyn
    injection hv9 with hv9 _ _
    injection hv9 with hv9
    injection hv9 with _ _ hv9;cases hv9
  have hrun:=run_copy_row (P:=P) (ty:=ty) w t t e g m (xs.length-m) (cap-m) a ys.length sc cur e0 ((ys.take (min ys.length (xs.length-m))).map (Value.int .i64)) ht hi hg (by
   simp only[zg,List.length_take];show min (min _ _) _=min _ _;omega) hcl (by simp only[zg,List.length_take];omega) (by
   intro v hv;obtain⟨x,_,rfl⟩:=List.mem_map.1 hv;rfl)
  have hln:((ys.take (min ys.length (xs.length-m))).map (Value.int .i64)).length=min ys.length (xs.length-m):=by
   simp only[zg,List.length_take];omega
  rw[hln]at hrun;have hi64:∀x∈Vo xs m ys,Bw x:=by
   intro x hx;unfold Vo at hx;rcases zi.1 hx with hx|hx;rcases zi.1 hx with hx|hx;exact e2 x<|zj hx;obtain⟨j,hj,rfl⟩:=List.mem_iff_getElem.1 (zj hx);have:=(hs.getI (k:=j) hj).2;simpa [List.getD_eq_getElem?_getD,hj]using this;exact e2 x<|List.mem_of_mem_drop hx
  rw[← hsuf]at hrun;refine⟨_,[g],hrun,⟨rfl,rfl,rfl,by simp,fun k _ hk=>setRow_other w g k _ (by simpa using hk)⟩,by simp,fun c hc=>h3 c (by rw[A9 hc];exact z0 ..),⟨[g],.inr ⟨(Vo xs m ys).map (Value.int .i64),g,cap,_,[],Z9 hi64,by rw[QF hm],setRow_heap w g cur _ e0 _ hg,by rw[QF hm];exact r1,r2,?_,?_,rfl⟩,h2,h3⟩⟩;simp only[List.size_toArray,z4,hln,List.length_take,List.length_drop,Array.length_toList];omega;rw[QF hm];show((cur.toList.take m++(ys.take (min ys.length (xs.length-m))).map (Value.int .i64))++cur.toList.drop (m+min ys.length (xs.length-m))).take xs.length=_;have hcx:∀k,k≤xs.length→cur.toList.take k=(xs.map (Value.int .i64)).take k:=fun k hk=>by
   rw[← r4,List.take_take,Nat.min_eq_left hk]
  rw[List.take_append,za (by simp only[z4,hln,List.length_take,Array.length_toList];omega)];unfold Vo;rw[List.map_append,List.map_append,List.map_take,hcx m hm];refine congr (congrArg _ (by rw[List.map_take])) ?_;rw[List.map_drop,← r4,List.drop_take];refine congrArg (fun q=>List.take q _) ?_;simp only[z4,hln,List.length_take,zg,Array.length_toList];omega
variable {ops:Array Oper} {w0:World} {Q:Act→World→Prop} {os:List Oper} {ks:List Nat} {N:Nat} {ρ:Nat→Value} {d:Nat} {pos:String} {aft:Array Edge} {g:Option (Nat × Bool)} {z:Value} {b:Nat}
theorem Vp {x y:Operand}{u:Value}{zsq:List Int}{k:Nat}(hue:u=Oh v m)(hk:k=min ys.length (xs.length-m))(hzs:Vo xs m ys=zsq)(ht:P.underlying t=some (.slice e))(hi:TI P e 1 z b)(hx:Bk N ρ x=u)(hy:Bk N ρ y=vs)(hv:Fr (By rI e0) B U w.heap v xs)(hm:m≤xs.length)(hs:Rd (B8 rI) w.heap vs ys)
  (hu:Up ops N ρ ⟨some d,.call ⟨.builtin .copy,#[x,y],#[t,t]⟩,ty,pos,aft,g⟩)
  (h:∀w1 F,AF F w w1→w1.heap.size=w.heap.size→(∀c∈F,B≤c∧c<U)→Fr (By rI e0) B U w1.heap v zsq→LW P ops w0 Q os ks (mk N (Ch ρ d (.int .i64 ((k:Nat):Int)))) w1) :
  LW P ops w0 Q (⟨some d,.call ⟨.builtin .copy,#[x,y],#[t,t]⟩,ty,pos,aft,g⟩::os) (4::ks) (mk N ρ) w:=by
 subst hue hk hzs;obtain⟨i,h1,_,h3,_⟩:=hi.get;obtain⟨w1,F,r1,r2,r3,r4,r5⟩:=Xh (P:=P) (ty:=ty) ht (by rw[h1];simp[h3]) hv hm hs;exact IV rfl hu _ w1 (by simp only[execOp,resolve,invoke,builtin,zc,zf,zh,Sem.run_bind,Sem.run_pure,Result.andThen_ok,hx,hy,r1];rfl)<|h w1 F r2 r3 r4 r5
theorem kB {a:Option Addr}{n c:Nat}:Oh (.slice a n c) 0=.slice a n c:=by unfold Oh;cases a <;> simp[M3]
theorem nv {x:Int}(h0:0≤x)(h1:x≤9223372036854775807):IntKind.u64.wrap x=x:=by rw[IntKind.wrap_u64];omega
def Sz (n m:Nat)(x:Int):List Int:=List.replicate m x++List.replicate (n-m) 0
theorem LA {n m:Nat}{x:Int}(h:m≤n):(Sz n m x).length=n:=by unfold Sz;simp;omega
theorem ny {n:Nat}{a:List Int}(h:a.length=1):Vo (List.replicate n 0) 0 a=Sz n (min 1 n) (a.getD 0 0):=by
 match a,h with
 |[x],_ =>
  unfold Vo Sz;cases n with
  |zero=>rfl
  |succ n =>
   have e1:min 1 (n+1)=1:=by omega
   simp[e1]
theorem nA {n m:Nat}{x:Int}(h:m≤n):Vo (Sz n m x) m ((Sz n m x).take m)=Sz n (m+min m (n-m)) x:=by
 have e1:(Sz n m x).take m=List.replicate m x:=by unfold Sz;simp
 have e2:(Sz n m x).length=n:=LA h;unfold Vo;rw[e1,e2,z5,List.take_replicate];unfold Sz;rw[List.drop_append];simp only[z5,List.drop_replicate];rw[show m-(m+min m (n-m))=0 from by omega,List.replicate_zero,zl,← List.replicate_append_replicate (n:=m),show min (min m (n-m)) m=min m (n-m)from by omega,show n-m-(m+min m (n-m)-m)=n-(m+min m (n-m))from by omega]
theorem nB {n:Nat}{x:Int}:Sz n n x=List.replicate n x:=by unfold Sz;simp
end
end
section
def fj (g:Nat)(Fs:List Nat)(B U:Nat):List Nat:=ZR g Fs++List.range' B (U-B)
section
variable {g b B U:Nat} {Fs F:List Nat} {w w1 w2:World} {a:Av} {H:Array Obj}
theorem Cf:b∈fj g Fs B U↔b∈ZR g Fs∨(B≤b∧b<U):=by unfold fj;rw[zi,List.mem_range'_1];refine or_congr .rfl ⟨fun⟨h1,h2⟩=>?_,fun⟨h1,h2⟩=>?_⟩ <;> omega
theorem nC (h:AF (fj g Fs B U) w w1)(k:AF (ZR g Fs) w1 w2):AF (fj g Fs B U) w w2:=h.trans (k.sub fun x hx=>Cf.2 (.inl hx))
theorem nD (h:AF (fj g Fs B U) w w1)(k:AF F w1 w2)(hF:∀c∈F,B≤c∧c<U):AF (fj g Fs B U) w w2:=h.trans (k.sub fun x hx=>Cf.2 (.inr (hF x hx)))
theorem kC (h:mC a):P7 Kj B U H (mz a) a:=⟨[],⟨rfl,h,rfl⟩,zk,fun b hb=>by cases hb⟩
end
end
end Go.Proofs.YtemfgblmfahllaaGreat
