/- Gd, Ge, Gu, Nf, Ng, Nh, Ni, Nj, Nk, Nl, Gf, Gg, Gk, Gh, Gl, Ki, Kj, Hs, Gv, Kl, Km, Kn, Ko, Kp, Go, Gp, Hv, Kq, Kx, Ky, Kr, T, Sa, Sb, Sf, Sk: texts of this claim, joined; what the claim does not come to is left out. -/
import Derived.Test.YtlbefjfhfodnlaaGreatDoorQA1
import Derived.Test.YtlbefjfhfodnlaaGreatDoorProg
import Derived.Shelf.LaySoft
import Derived.Shelf.Strconv.Itoa4
import Derived.Ground.NamesProg
set_option linter.unusedVariables false
set_option linter.unusedSimpArgs false
namespace Go.Proofs.YtlbefjfhfodnlaaGreatDoor
open Go Go.RowKit
section
mutual
def UY:Ex→Bool
 |.mk k _ _ _ l=>(decide (k≠6) && decide (k≠8)) && Ni l
def Ni:List Ex→Bool
 |[]=>true
 |e::l=>UY e && Ni l
end
theorem Nv (k n q c:Int)(l:List Ex):UY (.mk k n q c l)=((decide (k≠6) && decide (k≠8)) && Ni l):=by rw[UY]
theorem MQ (l:List Ex)(e:Ex):Ni (l++[e])=(Ni l && UY e):=by
 induction l with
 |nil=>rw[zl,Ni,Ni];simp[Ni]
 |cons a l ih=>rw[List.cons_append,Ni,Ni,ih,Bool.and_assoc]
def LK:Nat→Int
 |0=>1
 |d+1=>1+4*LK d
def HG:Nat→Nat
 |0=>30
 |d+1=>50+4*HG d
def Uh:Nat→Int→Int
 |0,_=>0
 |n+1,k=>Uh n k+k
def Pl:Nat→Nat→Nat
 |0,_=>0
 |n+1,k=>Pl n k+k
theorem HH:∀d,1≤LK d
 |0=>by decide
 |d+1=>by have:=HH d;show 1≤1+4*LK d;omega
theorem Tb {d:Nat}(h:1≤d):LK d=1+4*LK (d-1):=by obtain⟨d,rfl⟩:∃k,d=k+1:=⟨d-1,zO⟩;rfl
theorem Vc {d:Nat}(h:1≤d):HG d=50+4*HG (d-1):=by obtain⟨d,rfl⟩:∃k,d=k+1:=⟨d-1,zO⟩;rfl
theorem Nw:∀d,30≤HG d
 |0=>by decide
 |d+1=>by show 30≤50+4*HG d;omega
theorem MR {i:Nat}{k:Int}(hk:0≤k)(hi:i≤4):0≤Uh i k∧Uh i k≤4*k:=by rcases i with _|_|_|_|_|i;all_goals first|(exfalso;omega)|(simp only[Uh];omega)
theorem LL {i k:Nat}(hi:i≤4):Pl i k≤4*k:=by rcases i with _|_|_|_|_|i;all_goals first|(exfalso;omega)|(simp only[Pl];omega)
structure Oh (p:List Fn)(funcs vars:Int)(pl:Bool)(d:Nat)(l0 l1:Int)(ex:Ex):Prop where
 wf:wf p funcs ex vars=true
 sz:(ex.size:Int)+4*max l1 1≤1+4*max l0 1
 dp:ex.deep≤d+1
 pl:pl=true→UY ex=true
 lo:l0-LK d≤l1∧l1≤l0-1
structure Nx (p:List Fn)(vars:Int)(ex:Ex):Prop where
 wf:∀funcs,wf p funcs ex vars=true
 sz:ex.size=1
 dp:ex.deep=1
 pl:UY ex=true
structure Vd (p:List Fn):Prop where
 len:p.length≤1000
 par:∀k,k<p.length→0≤(p.getD k Fn.zero).params∧(p.getD k Fn.zero).params≤4
 outs:∀k,k<p.length→1≤(p.getD k Fn.zero).outs.length∧(p.getD k Fn.zero).outs.length≤12
theorem Nx.num {p:List Fn}{vars n:Int}(h:0≤n∧n<1000003):Nx p vars (.mk 1 n 0 0 []) :=
 ⟨fun funcs=>by
  rw[M7 rfl];unfold Gy Dy
  simp[Ex.kind,Ex.pick,Ex.count,Ex.kids,Ex.num,Dt];omega,by rw[Ex.size,Ex.sizes],by rw[Ex.deep,Ex.deeps],by rw[Nv];rfl⟩
theorem Nx.var {p:List Fn}{vars n:Int}(h:0≤n∧n<vars):Nx p vars (.mk 2 n 0 0 []) :=
 ⟨fun funcs=>by
  rw[M7 rfl];unfold Gy Dy
  simp[Ex.kind,Ex.pick,Ex.count,Ex.kids,Ex.num,Cw];omega,by rw[Ex.size,Ex.sizes],by rw[Ex.deep,Ex.deeps],by rw[Nv];rfl⟩
theorem Nx.ok {p:List Fn}{vars funcs l0:Int}{ex:Ex}{pl:Bool}(h:Nx p vars ex)(d:Nat):Oh p funcs vars pl d l0 (l0-1) ex:=by have:=HH d;exact⟨h.wf funcs,by rw[h.sz];omega,by rw[h.dp];omega,fun _=>h.pl,zO⟩
def kn (k:Int):Int:=if k=1∨k=2 then 0 else if k=3∨k=4∨k=5∨k=6∨k=9 then 2 else if k=7 then 1 else if k=8 then 3 else -1
structure Oi (p:List Fn)(funcs vars:Int)(pl:Bool)(k:Int)(d:Nat)(l0 l1:Int)(xs:List Ex)(i:Nat):Prop where
 len:xs.length=i
 wf:∀j,j<i→wf p funcs (xs.getD j Ex.zero) (if k=9∧j=1 then vars+1 else vars)=true
 sz:(Ex.sizes xs:Int)+4*max l1 1≤i+4*max l0 1
 dp:Ex.deeps xs≤d
 pl:pl=true→Ni xs=true
 lo:l0-Uh i (LK (d-1))≤l1∧l1≤l0
theorem Oi.nil (p:List Fn)(funcs vars:Int)(pl:Bool)(k:Int)(d:Nat)(l0:Int):Oi p funcs vars pl k d l0 l0 [] 0 :=
 ⟨rfl,fun j hj=>by omega,by rw[Ex.sizes];omega,by rw[Ex.deeps];omega,fun _=>by rw[Ni],by show l0-0≤l0∧l0≤l0;omega⟩
theorem Oi.snoc {p:List Fn}{funcs vars own:Int}{pl:Bool}{k:Int}{d:Nat}{l0 l1 l2:Int}{xs:List Ex}{i:Nat}{x:Ex}(h:Oi p funcs vars pl k d l0 l1 xs i)(hd:1≤d)
  (ho:own=if k=9∧i=1 then vars+1 else vars) (hx:Oh p funcs own pl (d-1) l1 l2 x):Oi p funcs vars pl k d l0 l2 (xs++[x]) (i+1):=by
 have hlen:=h.len;refine⟨by simp[hlen],fun j hj=>?_,?_,?_,fun hp=>?_,?_⟩;by_cases e:j=i;subst e;rw[← hlen,J6 rfl,hlen,← ho];exact hx.wf;rw[GD (by omega)];exact h.wf j zO;have h1:=h.sz;have h2:=hx.sz;rw[Ij];omega;have h1:=h.dp;have h2:=hx.dp;rw[Ik];omega;rw[MQ,h.pl hp,hx.pl hp];rfl;have h1:=h.lo;have h2:=hx.lo;have h3:Uh (i+1) (LK (d-1))=Uh i (LK (d-1))+LK (d-1):=rfl;omega
theorem Oi.node {p:List Fn}{funcs vars:Int}{pl:Bool}{k num pick cnt:Int}{d i:Nat}{l0 l1:Int}{xs:List Ex}(h:Oi p funcs vars pl k d (l0-1) l1 xs i)(hd:1≤d)(hi:i≤4)(hl:2≤l0)
  (hp:pl=true→k≠6∧k≠8) (hw:Gy p funcs vars (.mk k num pick cnt xs)=true):Oh p funcs vars pl d l0 l1 (.mk k num pick cnt xs):=by
 have hn:=Tb hd;have ht:=MR (k:=LK (d-1)) (by have:=HH (d-1);omega) hi;have h1:=h.lo;have h2:=h.sz;refine⟨(M8 hw fun j hj=>?_).symm,?_,?_,fun hq=>?_,zO⟩;exact h.wf j (by rw[← h.len];exact hj);rw[Ex.size];omega;rw[Ex.deep];have:=h.dp;omega;rw[Nv,h.pl hq,A5 (hp hq).1,A5 (hp hq).2];rfl
theorem Ui {p:List Fn}{funcs vars k:Int}{xs:List Ex}(hk:k=3∨k=4∨k=5∨k=6∨k=7∨k=8∨k=9)(hl:((xs.length:Nat):Int)=kn k):Gy p funcs vars (.mk k 0 0 0 xs)=true:=by
 have h2:k=3∨k=4∨k=5∨k=6∨k=9→xs.length=2:=fun h=>by
  have:kn k=2:=by unfold kn;rw[if_neg zO,if_pos (by omega)]
  omega
 have h1:k=7→xs.length=1:=fun h=>by
  have:kn k=1:=by unfold kn;rw[if_neg zO,if_neg zO,if_pos h]
  omega
 have h3:k=8→xs.length=3:=fun h=>by
  have:kn k=3:=by unfold kn;rw[if_neg zO,if_neg zO,if_neg zO,if_pos h]
  omega
 unfold Gy Dy;rcases hk with rfl|rfl|rfl|rfl|rfl|rfl|rfl;simp[Ex.kind,Ex.pick,Ex.count,Ex.kids,Ex.num,h2];simp[Ex.kind,Ex.pick,Ex.count,Ex.kids,Ex.num,h2];simp[Ex.kind,Ex.pick,Ex.count,Ex.kids,Ex.num,h2];simp[Ex.kind,Ex.pick,Ex.count,Ex.kids,Ex.num,h2];simp[Ex.kind,Ex.pick,Ex.count,Ex.kids,Ex.num,h1];simp[Ex.kind,Ex.pick,Ex.count,Ex.kids,Ex.num,h3];simp[Ex.kind,Ex.pick,Ex.count,Ex.kids,Ex.num,h2]
theorem Uj {p:List Fn}{funcs vars k num pick cnt:Int}{xs:List Ex}(hk:(k=10∧cnt=0)∨(k=11∧((p.getD num.toNat Fn.zero).outs.length:Int)=(p.getD num.toNat Fn.zero).params∧0≤cnt∧cnt≤8))
  (hn:0≤num∧num<funcs) (hl:((xs.length:Nat):Int)=(p.getD num.toNat Fn.zero).params) (hq:0≤pick∧pick<((p.getD num.toNat Fn.zero).outs.length:Int)):Gy p funcs vars (.mk k num pick cnt xs)=true:=by
 have h1:Ha num 0 (funcs-1)=true:=Cw.2 zO;have h2:Ha pick 0 (((p.getD num.toNat Fn.zero).outs.length:Int)-1)=true:=Cw.2 zO;have h6:decide ((xs.length:Int)=(p.getD num.toNat Fn.zero).params)=true:=A5 hl;unfold Gy;rcases hk with⟨rfl,rfl⟩|⟨rfl,h3,h4⟩;show(Ha num 0 (funcs-1) && (decide ((xs.length:Int)=(p.getD num.toNat Fn.zero).params) && (Ha pick 0 (((p.getD num.toNat Fn.zero).outs.length:Int)-1) && decide ((0:Int)=0))))=true;rw[h1,h2,h6];rfl;have h5:Ha cnt 0 8=true:=Cw.2 h4;show(Ha num 0 (funcs-1) && (decide ((xs.length:Int)=(p.getD num.toNat Fn.zero).params) && (Ha pick 0 (((p.getD num.toNat Fn.zero).outs.length:Int)-1) && (decide (((p.getD num.toNat Fn.zero).outs.length:Int)=(p.getD num.toNat Fn.zero).params) && Ha cnt 0 8))))=true;rw[h1,h2,h5,h6,A5 h3];rfl
theorem B5 {a b c k:Int}{l:List Ex}(h1:-9223372036854775808≤a∧a≤9223372036854775807)(h2:-9223372036854775808≤b∧b≤9223372036854775807)(h3:-9223372036854775808≤c∧c≤9223372036854775807)(h4:-9223372036854775808≤k∧k≤9223372036854775807):E6 (.mk a b c k l):=⟨h1,h2,h3,h4⟩
theorem DU {a b c:Nat}(h:c∈[a,b]):c=a∨c=b:=by simpa using h
theorem FZ {a b:Nat}:∀x∈[a],x∈[a,b]:=fun x hx=>by rw[A9 hx];exact z0 ..
theorem Uk {a b:Nat}:∀x∈[b],x∈[a,b]:=fun x hx=>by rw[A9 hx];exact z3 _ (z0 ..)
theorem AG.new2 {F:List Nat}{g g':Nat}{a b c:World}(h:AG F a b)(k:AG [g,g'] b c)(hg:g∈F)(hg':a.heap.size≤g'):AG F a c :=
 ⟨k.os.trans h.os,k.tape.trans h.tape,k.output.trans h.output,A8 h.size k.size,fun i hi hm=>(k.block i (Nat.lt_of_lt_of_le hi h.size) fun hq=>by
  rcases DU hq with rfl|rfl
  exact hm hg
  omega).trans (h.block i hi hm)⟩
theorem RN.of_frF2 {e e':TypeId}{d B U:Nat}{H:Array Obj}{v:Value}{S:List Nat}{xs:List Fn}(h:Fr (BO 3 (J8 e d) e') B U H v xs)(hS:∀b∈S,b<B∨U≤b):RP S d H v xs:=by obtain⟨F,h,_,hF⟩:=h;exact⟨F,(h.rd (AE e d)).imp fun h=>PL e h,fun b hb hm=>by have:=hF b hb;have:=hS b hm;omega⟩
theorem Ce.mk1 {e:TypeId}{d B U:Nat}{H:Array Obj}{v:Value}{x:Ex}(hd:1≤d)(hr:E6 x)(h:Fr (BO 5 (C2 e (d-1)) e) B U H v x.kids):Ce (C2 e d) B U H (C3 x v) x:=by obtain⟨d,rfl⟩:∃k,d=k+1:=⟨d-1,zO⟩;obtain⟨G,h1,h2,h3⟩:=h;exact⟨G,⟨v,rfl,hr,h1⟩,h2,h3⟩
theorem Ce.mkF {e:TypeId}{d B U:Nat}{H:Array Obj}{v:Value}{x:Fn}(hr:CD x.params)(h:Fr (BO 5 (C2 e d) e) B U H v x.outs):Ce (J8 e d) B U H (Ge x v) x:=by obtain⟨G,h1,h2,h3⟩:=h;exact⟨G,⟨v,rfl,hr,h1⟩,h2,h3⟩
theorem XN {k:Int}(h:k=1∨k=2):kn k=0:=by unfold kn;rw[if_pos h]
theorem XO {k:Int}(h:k=3∨k=4∨k=5∨k=6∨k=9):kn k=2:=by unfold kn;rw[if_neg zO,if_pos h]
theorem XP {k:Int}(h:k=7):kn k=1:=by unfold kn;rw[if_neg zO,if_neg zO,if_pos h]
theorem XQ {k:Int}(h:k=8):kn k=3:=by unfold kn;rw[if_neg zO,if_neg zO,if_neg zO,if_pos h]
theorem XR {k:Int}(h1:¬k=1)(h2:¬k=2)(h3:¬k=3)(h4:¬k=4)(h5:¬k=5)(h6:¬k=6)(h7:¬k=7)(h8:¬k=8)(h9:¬k=9):kn k = -1:=by unfold kn;rw[if_neg zO,if_neg zO,if_neg zO,if_neg (by omega)]
theorem XT {k:Int}(h:k=3∨k=4∨k=5∨k=6∨k=7∨k=8∨k=9):1≤kn k∧kn k≤3:=by rcases h with rfl|rfl|rfl|rfl|rfl|rfl|rfl <;> decide
theorem Qm {d:Nat}(h:d≤8):LK d≤100000:=by
 have:∀k:Fin 9,LK k.val≤100000:=by decide
 exact this ⟨d,zO⟩
theorem Nx.okc {p:List Fn}{vars funcs l0:Int}{ex:Ex}{pl:Bool}(h:Nx p vars ex)(d:Nat):Oh p funcs vars pl d (l0+1) l0 ex:=by have h:=h.ok (funcs:=funcs) (pl:=pl) (l0:=l0+1) d;rwa [show l0+1-1=l0 from by omega]at h
theorem Oh.up1 {p:List Fn}{vars funcs l0 l1:Int}{ex:Ex}{pl:Bool}{d:Nat}(h:Oh p funcs vars pl d (l0-1+1) l1 ex):Oh p funcs vars pl d l0 l1 ex:=by rwa [show l0-1+1=l0 from by omega]at h
theorem Oi.node1 {p:List Fn}{funcs vars:Int}{pl:Bool}{k num pick cnt:Int}{d i:Nat}{l0 l1:Int}{xs:List Ex}(h:Oi p funcs vars pl k d l0 l1 xs i)(hd:1≤d)(hi:i≤4)(hl:1≤l0)
  (hp:pl=true→k≠6∧k≠8) (hw:Gy p funcs vars (.mk k num pick cnt xs)=true):Oh p funcs vars pl d (l0+1) l1 (.mk k num pick cnt xs) :=
 Oi.node (by rwa [show l0+1-1=l0 from by omega]) hd hi zO hp hw
namespace Jx
variable [J:JR] {P:Program} {ops:Array Oper} {w0:World} {Q:Act→World→Prop}
theorem j1 {o:Oper}{os:List Oper}{ks:List Nat}{a:Act}{w:World}(h:_root_.Go.Proofs.YtlbefjfhfodnlaaGreatDoor.LW P ops w0 (fun a w=>LW P ops w0 Q os ks a w) [o] [0] a w):LW P ops w0 Q (o::os) (0::ks) a w:=by simp only[_root_.Go.Proofs.YtlbefjfhfodnlaaGreatDoor.LW]at h;simp only[LW];split;rename_i hw;rw[if_pos hw]at h;unfold _root_.Go.Proofs.YtlbefjfhfodnlaaGreatDoor.Bs at h;unfold Bs;rw[if_pos (by decide)]at h;rw[if_pos (by decide)];obtain⟨v,h1,h2⟩:=h;exact⟨v,fun w' _=>h1 w' trivial,h2⟩;rename_i hw;rw[if_neg hw]at h;exact h
theorem Ss:∀ {os:List Oper}{ks:List Nat}{a:Act}{w:World}(_:ks.all (fun k=>k == 0 || k == 3 || k == 4)=true)(_:_root_.Go.Proofs.YtlbefjfhfodnlaaGreatDoor.LW P ops w0 Q os ks a w),LW P ops w0 Q os ks a w
 |[],_,_,_,_,h=>h
 |_::_,[],_,_,_,h=>h.elim
 |o::os,k::ks,a,w,hk,h=>by
  simp only[List.all_cons,z7]at hk
  simp only[_root_.Go.Proofs.YtlbefjfhfodnlaaGreatDoor.LW]at h
  simp only[LW]
  split
  rename_i hw
  rw[if_pos hw]at h
  unfold _root_.Go.Proofs.YtlbefjfhfodnlaaGreatDoor.Bs at h
  unfold Bs
  split at h
  rename_i h2
  rw[if_pos h2]
  have:k=0:=by
   have:=hk.1;simp only[Bool.or_eq_true,beq_iff_eq]at this;omega
  subst this;obtain⟨v,h1,h3⟩:=h;exact⟨v,fun w' _=>h1 w' trivial,Ss hk.2 h3⟩;rename_i h2;rw[if_neg h2];split at h;rename_i h3;rw[if_pos h3];exact Oper.wp_mono (fun a w hh=>⟨J.ext hh.1,Ss hk.2 hh.2⟩) h;rename_i h3;rw[if_neg h3];exact Oper.wp_mono (fun a w hh=>Ss hk.2 hh) h;rename_i hw;rw[if_neg hw]at h;exact Ss hk.2 h
end Jx
end
section
theorem Qn {α:Type}{l:List α}{k:Nat}{d:α}(h:k<l.length):l.getD k d∈l:=by rw[List.getD_eq_getElem?_getD,List.getElem?_eq_getElem h,Option.getD_some];exact List.getElem_mem h
theorem Kn {a:Int}(h:-9223372036854775808≤a∧a≤9223372036854775807):CD a:=h
def HI (n:Nat):ByteArray:=⟨#[UInt8.ofNat (48+n)]⟩
def Mb:List ByteArray:=[⟨#[102]⟩,⟨#[103]⟩,⟨#[115,116,101,112]⟩,⟨#[104,50]⟩,⟨#[99]⟩]
theorem Ny {n:Int}(h0:0≤n)(h1:n<10):(⟨#[UInt8.ofNat (IntKind.u8.wrap (((48:Nat):Int)+n)).toNat]⟩:ByteArray)=HI n.toNat:=by
 obtain⟨k,rfl⟩:∃k:Nat,n=k:=⟨n.toNat,zO⟩;have:∀k:Fin 10,(⟨#[UInt8.ofNat (IntKind.u8.wrap (((48:Nat):Int)+((k.val:Nat):Int))).toNat]⟩:ByteArray)=HI k.val:=by decide +kernel
 exact this ⟨k,zO⟩
theorem Ko (n:Nat):(HI n).size=1:=rfl
theorem Pm:∀s∈Mb,s.size≤4:=by decide +kernel
theorem St:∀s∈Mb,∀i:Fin 10,JZ (s++HI i.val)=true:=by decide +kernel
theorem Su:∀s∈Mb,∀t∈Mb,∀i j:Fin 10,i.val≠j.val→DL (s++HI i.val) (t++HI j.val)=false:=by decide +kernel
section str
variable {P:Program} {ops:Array Oper} {w0:World} {Q:Act→World→Prop} {os:List Oper} {ks:List Nat} {N:Nat} {ρ:Nat→Value} {w:World}
 {d:Nat} {ty:TypeId} {pos:String} {aft:Array Edge} {g:Option (Nat×Bool)} {t e:TypeId}
theorem Oj {st dt:TypeId}{x:Operand}{v:Value}{n:Int}{B U:Nat}(hs:P.underlying st=some (.slice e))(he:P.underlying e=some (.int .u8))(hd:P.underlying dt=some .string)(hx:Bw N ρ x=v)(hv:Fr (BH rV e) B U w.heap v [.int .u8 n])
  (hu:Up ops N ρ ⟨some d,.convert st dt x,ty,pos,aft,g⟩) (h:LW P ops w0 Q os ks (mk N (CE ρ d (.string ⟨#[UInt8.ofNat n.toNat]⟩))) w) :
  LW P ops w0 Q (⟨some d,.convert st dt x,ty,pos,aft,g⟩::os) (2::ks) (mk N ρ) w:=by
 obtain⟨F,hv,_,_⟩:=hv;rcases hv with⟨_,hc,_⟩|⟨us,b,cap,cur,F',hels,rfl,hg,q1,q2,q3,q4,rfl⟩;cases hc;obtain⟨rfl,rfl⟩:=GF hels;refine CN (by decide) rfl hu _ (fun w' hcl=>?_) h;have hcl:AB w w':=hcl;have hcb:w'.heap[b]? = w.heap[b]?:=hcl.heap (getElem?_lt hg);have hlc:=run_loadCells_list (P:=P) w' ⟨b,0,none⟩ [.int .u8 n] (fun j u hj=>by
  rw[EY,BQ];simp only[Cr,hcb,hg];have hj0:j=0:=by have:=(List.getElem?_eq_some_iff.1 hj).1;simpa using this
  subst hj0;have e1:cur.toList[0]? = some (.int .u8 n):=by
   have:(cur.toList.take 1)[0]? = some (.int .u8 n):=by rw[show cur.toList.take 1=[.int .u8 n]from q4];rfl
   rwa [List.getElem?_take,if_pos (by decide)]at this
  have e2:u=.int .u8 n:=by simpa using hj.symm
  rw[e2];simpa using e1)
 have hb:=run_bytesToString (P:=P) w' ⟨b,0,none⟩ 1 cap [n] (by simpa using hlc);have hr:=run_convert_bytes_string (P:=P) w' st dt e (some ⟨b,0,none⟩) 1 cap hs he hd;simp only[execOp,hx,zd,Sem.run_bind,hr,hb,Result.andThen_ok,Sem.run_pure];rfl
theorem Sv {b:Nat}{z u0 u1 u2 u3:Value}(ht:P.underlying t=some (.slice e))(hi:TI P e 1 z b)(h0:u0.cells=#[u0])(h1:u1.cells=#[u1])(h2:u2.cells=#[u2])(h3:u3.cells=#[u3])(hz:z.cells=#[z]) :
  (Instr.buildSlice t 4 #[(0,u0),(1,u1),(2,u2),(3,u3)]).run P w=.ok (.slice (some ⟨w.heap.size,0,none⟩) 4 4) (w.alloc (.cells #[u0,u1,u2,u3] e)):=by
 obtain⟨i,q1,q2,q3,q4⟩:=hi.get;simp[Instr.buildSlice,run_underlying ht,sizeOf,typeInfo,zeroValue,q1,q2,q3,Instr.fill,newRow,h0,h1,h2,h3,hz,Hk,List.range_succ]
theorem Ul {α:Type}{E:BM α}(hE:Cs E){ys:List α}{b:Nat}{z u0 u1 u2 u3:Value}{x0 x1 x2 x3:Operand}(ht:P.underlying t=some (.slice e))(hi:TI P e 1 z b)(hz:z.cells=#[z])
  (hx0:Bw N ρ x0=u0) (hx1:Bw N ρ x1=u1) (hx2:Bw N ρ x2=u2) (hx3:Bw N ρ x3=u3) (hl:ys.length=4) (hels:els E w.heap [u0,u1,u2,u3] ys [])
  (hu:Up ops N ρ ⟨some d,.buildSlice t 4 #[(0,x0),(1,x1),(2,x2),(3,x3)],ty,pos,aft,g⟩)
  (h:∀v w1,AB w w1→w1.heap.size=w.heap.size+1→Fr (BH E e) w.heap.size w1.heap.size w1.heap v ys→LW P ops w0 Q os ks (mk N (CE ρ d v)) w1) :
  LW P ops w0 Q (⟨some d,.buildSlice t 4 #[(0,x0),(1,x1),(2,x2),(3,x3)],ty,pos,aft,g⟩::os) (3::ks) (mk N ρ) w:=by
 have hc:=hels.cells1 hE;have hr:=Sv (P:=P) (w:=w) ht hi (hc u0 (by simp)).1 (hc u1 (by simp)).1 (hc u2 (by simp)).1 (hc u3 (by simp)).1 hz;have hrun:(execOp (Bw N ρ) ⟨some d,.buildSlice t 4 #[(0,x0),(1,x1),(2,x2),(3,x3)],ty,pos,aft,g⟩).run P w=.ok (.value (.slice (some ⟨w.heap.size,0,none⟩) 4 4)) (w.alloc (.cells #[u0,u1,u2,u3] e)):=by
  simp only[execOp,zc,zf,zh,Sem.run_bind,hx0,hx1,hx2,hx3,hr,Result.andThen_ok,Sem.run_pure]
 refine GA rfl hu _ _ hrun (BI _ _)<|h _ _ (BI _ _) (by simp) ?_;have hn:=HF (e:=e) (w:=w) hE (us:=[u0,u1,u2,u3]) (xs:=ys) (F:=[]) (cur:=#[u0,u1,u2,u3]) hels (by simp[maxLen]) (by rw[hl];rfl) (by rw[hl];simp);rw[hl]at hn;refine⟨_,hn,?_,fun c hc=>?_⟩;rw[List.nodup_cons];exact⟨fun hm=>(by cases hm),zk⟩;rcases ze.1 hc with rfl|hc;exact⟨A7 _,by simp⟩;cases hc
end str
theorem Ve {H:Array Obj}{u0 u1 u2 u3:Value}(h0:u0.cells=#[u0]∧u0.oneCell'=true)(h1:u1.cells=#[u1]∧u1.oneCell'=true)(h2:u2.cells=#[u2]∧u2.oneCell'=true)(h3:u3.cells=#[u3]∧u3.oneCell'=true):els rV H [u0,u1,u2,u3] [u0,u1,u2,u3] [] :=
 PC fun u hu=>by
  simp only[ze,z2,or_false]at hu
  rcases hu with rfl|rfl|rfl|rfl <;> assumption
theorem Sw {p q:List Fn}{F v:Int}{e:Ex}(hF:F≤((p.length:Nat):Int)):Gy (p++q) F v e=Gy p F v e:=by by_cases h:Ha e.num 0 (F-1)=true;have h1:=Cw.1 h;have h2:(p++q).getD e.num.toNat Fn.zero=p.getD e.num.toNat Fn.zero:=GD zO;unfold Gy;rw[h2];unfold Gy;simp only[Bool.not_eq_true]at h;simp[h]
mutual
theorem Nz {p q:List Fn}{F:Int}(hF:F≤((p.length:Nat):Int)):∀(e:Ex)(v:Int),wf (p++q) F e v=wf p F e v
 |.mk k n c d l,v=>by rw[wf,wf,Sw hF,Ok hF l]
theorem Ok {p q:List Fn}{F:Int}(hF:F≤((p.length:Nat):Int)):∀(l:List Ex)(b:Bool)(i:Nat)(v:Int),O9 (p++q) F b i l v=O9 p F b i l v
 |[],_,_,_=>by rw[O9,O9]
 |e::l,b,i,v=>by rw[O9,O9,Nz hF e,Ok hF l]
end
structure LM (p:List Fn)(pl:Bool):Prop where
 len:p.length≤12
 par:∀k,k<p.length→1≤(p.getD k Fn.zero).params∧(p.getD k Fn.zero).params≤3
 outs:∀k,k<p.length→1≤(p.getD k Fn.zero).outs.length∧(p.getD k Fn.zero).outs.length≤3
 wf:∀k,k<p.length→∀j,j<(p.getD k Fn.zero).outs.length→wf p ((k:Nat):Int) ((p.getD k Fn.zero).outs.getD j Ex.zero) (p.getD k Fn.zero).params=true
 dp:∀k,k<p.length→Ex.deeps (p.getD k Fn.zero).outs≤6
 sz:∀k,k<p.length→Ex.sizes (p.getD k Fn.zero).outs≤400
 pl:pl=true→∀k,k<p.length→Ni (p.getD k Fn.zero).outs=true
 nm:∀k,k<p.length→JZ (p.getD k Fn.zero).name=true
 nw:∀k,k<p.length→Pk p k=true
theorem LM.nil (pl:Bool):LM [] pl:=by constructor;simp;all_goals first|(intro _ k hk;simp at hk)|(intro k hk;simp at hk)
theorem LM.gpr {p:List Fn}{pl:Bool}(h:LM p pl):Vd p :=
 ⟨by have:=h.len;omega,fun k hk=>by have:=h.par k hk;omega,fun k hk=>by have:=h.outs k hk;omega⟩
theorem LM.snoc {p:List Fn}{pl:Bool}{f:Fn}(h:LM p pl)(hl:p.length≤11)(hp:1≤f.params∧f.params≤3)(ho:1≤f.outs.length∧f.outs.length≤3)
  (hw:∀j,j<f.outs.length→Go.Proofs.YtlbefjfhfodnlaaGreatDoor.wf p ((p.length:Nat):Int) (f.outs.getD j Ex.zero) f.params=true) (hd:Ex.deeps f.outs≤6) (hs:Ex.sizes f.outs≤400) (hpl:pl=true→Ni f.outs=true)
  (hn:JZ f.name=true) (hnw:∀k,k<p.length→DL (p.getD k Fn.zero).name f.name=false):LM (p++[f]) pl:=by
 have e:∀k,k<(p++[f]).length→(k<p.length∧(p++[f]).getD k Fn.zero=p.getD k Fn.zero)∨(k=p.length∧(p++[f]).getD k Fn.zero=f):=fun k hk=>by
  rw[z4,zd]at hk;by_cases h:k<p.length;exact .inl ⟨h,GD h⟩;exact .inr ⟨zO,J6 zO⟩
 refine⟨by rw[z4,zd];omega,?_,?_,?_,?_,?_,?_,?_,?_⟩
 intro k hk;rcases e k hk with⟨h1,h2⟩|⟨h1,h2⟩ <;> rw[h2];exact h.par k h1;exact hp
 intro k hk;rcases e k hk with⟨h1,h2⟩|⟨h1,h2⟩ <;> rw[h2];exact h.outs k h1;exact ho
 intro k hk;rcases e k hk with⟨h1,h2⟩|⟨h1,h2⟩ <;> rw[h2]
 intro j hj;rw[Nz (by omega)];exact h.wf k h1 j hj
 intro j hj;subst h1;rw[Nz (by omega)];exact hw j hj
 intro k hk;rcases e k hk with⟨h1,h2⟩|⟨h1,h2⟩ <;> rw[h2];exact h.dp k h1;exact hd
 intro k hk;rcases e k hk with⟨h1,h2⟩|⟨h1,h2⟩ <;> rw[h2];exact h.sz k h1;exact hs
 intro hq k hk;rcases e k hk with⟨h1,h2⟩|⟨h1,h2⟩ <;> rw[h2];exact h.pl hq k h1;exact hpl hq
 intro k hk;rcases e k hk with⟨h1,h2⟩|⟨h1,h2⟩ <;> rw[h2];exact h.nm k h1;exact hn
 intro k hk;rcases e k hk with⟨h1,h2⟩|⟨h1,h2⟩;have:=h.nw k h1;unfold Pk at this ⊢;rwa [h2,List.take_append_of_le_length (by omega)];unfold Pk;rw[h2,h1,List.take_left];simp only[Bool.not_eq_true',List.any_eq_false]
 intro g hg;obtain⟨i,hi,rfl⟩:=List.mem_iff_getElem.1 hg;have:=hnw i hi;rw[List.getD_eq_getElem?_getD,List.getElem?_eq_getElem hi,Option.getD_some]at this;simp[this]
structure Qo (p:List Fn)(vars:Int)(pl:Bool)(xs:List Ex)(i:Nat):Prop where
 len:xs.length=i
 wf:∀j,j<i→wf p ((p.length:Nat):Int) (xs.getD j Ex.zero) vars=true
 dp:Ex.deeps xs≤6
 sz:Ex.sizes xs≤i*117
 pl:pl=true→Ni xs=true
theorem Qo.nil (p:List Fn)(vars:Int)(pl:Bool):Qo p vars pl [] 0:=⟨rfl,fun j hj=>by omega,by rw[Ex.deeps];omega,by rw[Ex.sizes];omega,fun _=>by rw[Ni]⟩
theorem Qo.snoc {p:List Fn}{funcs vars:Int}{pl:Bool}{xs:List Ex}{i d:Nat}{l0 l1:Int}{x:Ex}(h:Qo p vars pl xs i)(hf:funcs=((p.length:Nat):Int))(hd:d≤5)(hl:l0≤30)(hx:Oh p funcs vars pl d l0 l1 x):Qo p vars pl (xs++[x]) (i+1):=by have hlen:=h.len;subst hf;refine⟨by simp[hlen],fun j hj=>?_,?_,?_,fun hp=>?_⟩;by_cases e:j=i;subst e;rw[J6 hlen.symm];exact hx.wf;rw[GD (by omega)];exact h.wf j zO;have h1:=h.dp;have h2:=hx.dp;rw[Ik];omega;have h1:=h.sz;have h2:=hx.sz;rw[Ij];omega;rw[MQ,h.pl hp,hx.pl hp];rfl
def Dn (p:List Fn):Prop:=∀k,k<p.length→∃s∈Mb,(p.getD k Fn.zero).name=s++HI k
theorem Dn.nil:Dn []:=fun k hk=>by simp at hk
theorem Dn.snoc {p:List Fn}{f:Fn}{s:ByteArray}(h:Dn p)(hs:s∈Mb)(hf:f.name=s++HI p.length):Dn (p++[f]):=fun k hk=>by
 rw[z4,zd]at hk
 by_cases e:k<p.length
 rw[GD e];exact h k e
 rw[J6 zO,show k=p.length from by omega];exact⟨s,hs,hf⟩
theorem Qo.fn {p:List Fn}{pl:Bool}{f:Fn}{s:ByteArray}{i:Nat}(h:LM p pl)(hd:Dn p)(hl:p.length≤9)(hp:1≤f.params∧f.params≤3)(hi:1≤i∧i≤3)(ho:Qo p f.params pl f.outs i)
  (hs:s∈Mb) (hf:f.name=s++HI p.length):LM (p++[f]) pl∧Dn (p++[f]) :=
 ⟨h.snoc zO hp (by rw[ho.len];exact hi) (fun j hj=>ho.wf j (by rw[← ho.len];exact hj)) ho.dp (by have:=ho.sz;omega) ho.pl (by rw[hf];exact St s hs ⟨p.length,zO⟩) (fun k hk=>by
  obtain⟨t,ht,e⟩:=hd k hk
  rw[e,hf]
  exact Su t ht s hs ⟨k,zO⟩ ⟨p.length,zO⟩ (by show k≠p.length;omega)),hd.snoc hs hf⟩
theorem Qp {x:ByteArray}(h:Value.string x∈[Value.string ⟨#[102]⟩,.string ⟨#[103]⟩,.string ⟨#[115,116,101,112]⟩,.string ⟨#[104,50]⟩]):x∈Mb:=by simp only[ze,z2,or_false,Value.string.injEq]at h;rcases h with h|h|h|h <;> subst h <;> simp[Mb]
theorem XU:HG 5=47770:=by decide
theorem XV:LK 5=1365:=by decide
theorem Qq (e:TypeId):∀ {d:Nat}{H:Array Obj}{cs:List Value}{x:Ex}{F:List Nat},C2 e d H cs x F→C2 e (d+1) H cs x F
 |0,_,_,_,_,h=>h.elim
 |d+1,_,_,_,_,⟨v,h1,h2,h3⟩=>⟨v,h1,h2,h3.imp fun h=>Qq e h⟩
theorem Mc (e:TypeId){d:Nat}{H:Array Obj}{cs:List Value}{x:Ex}{F:List Nat}(h:C2 e d H cs x F):∀ {d':Nat},d≤d'→C2 e d' H cs x F:=by
 intro d' hd
 induction hd with
 |refl=>exact h
 |step _ ih=>exact Qq e ih
theorem Ce.le {e:TypeId}{d d' B U:Nat}{H:Array Obj}{cs:List Value}{x:Ex}(h:Ce (C2 e d) B U H cs x)(hd:d≤d'):Ce (C2 e d') B U H cs x:=by obtain⟨G,h1,h2,h3⟩:=h;exact⟨G,Mc e h1 hd,h2,h3⟩
theorem LM.npl {p:List Fn}{pl:Bool}(h:LM p pl):LM p false:=⟨h.len,h.par,h.outs,h.wf,h.dp,h.sz,fun h=>absurd h (by decide),h.nm,h.nw⟩
section res
variable {P:Program} {N:Nat} {ρ:Nat→Value} {w:World}
theorem Qr:∀(l:List Nat),(((l.map ResultVar.tmp).mapM (m:=Sem) fun
  |.tmp t=>pure ((mk N ρ).tmps.getD t undef)
  |.cell a t=>do loadVar t (← asAddr ((mk N ρ).tmps.getD a undef)))).run P w=.ok (l.map fun t=>Bw N ρ (.tmp t)) w:=by
 intro l
 induction l with
 |nil=>rfl
 |cons t l ih =>
  simp only[zf,List.mapM_cons,Sem.run_bind,Sem.run_pure,Result.andThen_ok,JN]at ih ⊢;rw[ih];rfl
theorem DI {fn:Func}{R:Ending→World→Prop}{k s b t0:Nat}{ts:List Nat}{ty:TypeId}{cs:List Value}(vs:List Value)(hr:fn.results=(ResultVar.cell k ty::((t0::ts).map ResultVar.tmp)).toArray)(ha:EU P ty s=true)(hv:Bw N ρ (.tmp k)=.pointer (some ⟨b,0,none⟩))(hb:BX w.heap b cs)(hl:cs.length=s)
  (hvs:((t0::ts).map fun t=>Bw N ρ (.tmp t))=vs) (h:R (.returned (.tuple (.agg cs.toArray::vs).toArray)) w):bodyPost P fn R .ret (mk N ρ) w:=by
 subst hvs;refine⟨rfl,_,?_,h⟩;have hld:=II (P:=P) ha (LD.of_box hb) hl;have hg:(mk N ρ).tmps.getD k undef=.pointer (some ⟨b,0,none⟩):=by rw[JN,hv]
 have hi:(asAddr (.pointer (some ⟨b,0,none⟩))).run P w=.ok ⟨b,0,none⟩ w:=rfl;have key:=Qr (P:=P) (N:=N) (ρ:=ρ) (w:=w) (t0::ts);unfold results;rw[hr];simp only[List.mapM_toArray,Sem.run_bind,Sem.run_map];have hfull:(((ResultVar.cell k ty::((t0::ts).map ResultVar.tmp)).mapM (m:=Sem) fun
  |.tmp t=>pure ((mk N ρ).tmps.getD t undef)
  |.cell a t=>do loadVar t (← asAddr ((mk N ρ).tmps.getD a undef)))).run P w=.ok (.agg cs.toArray::((t0::ts).map fun t=>Bw N ρ (.tmp t))) w:=by
  rw[List.mapM_cons];simp only[Sem.run_bind,Sem.run_pure,hg,hi,hld,Result.andThen_ok];rw[key];rfl
 refine (congrArg (fun r=>(Result.andThen (Result.andThen r fun a w'=>Result.ok a.toArray w') fun a w'=>Result.ok (if h:a.size=1 then a[0]else Value.tuple a) w')) hfull).trans ?_;simp only[Result.andThen_ok];rfl
end res
end
section
set_option linter.unusedSectionVars false
namespace Jx
section
variable [J:JR] {P:Program} {ops:Array Oper} {md:Region.Mode} {kd bs:Nat→Nat} {w0:World} {Q:Act→World→Prop}
theorem HJ {Q':Act→World→Prop}(h:∀a w,Q a w→Q' a w):∀(l:List Nat)(a:Act)(w:World),LI P ops kd w0 Q l a w→LI P ops kd w0 Q' l a w
 |[],a,w,hh=>h a w hh
 |i::l,a,w,hh=>by
  simp only[LI]at hh ⊢
  cases hoi:ops[i]? with
  |none=>rw[hoi]at hh;exact hh.elim
  |some o =>
   rw[hoi]at hh
   simp only at hh ⊢
   split
   rename_i hw
   rw[if_pos hw]at hh
   exact hh.mono fun a w=>HJ h l a w
   rename_i hw
   rw[if_neg hw]at hh
   exact HJ h l _ _ hh
theorem Ja (s:List Nat):∀(l:List Nat)(a:Act)(w:World),LI P ops kd w0 (LI P ops kd w0 Q s) l a w→LI P ops kd w0 Q (l++s) a w
 |[],a,w,hh=>hh
 |i::l,a,w,hh=>by
  simp only[LI,List.cons_append]at hh ⊢
  cases hoi:ops[i]? with
  |none=>rw[hoi]at hh;exact hh.elim
  |some o =>
   rw[hoi]at hh
   simp only at hh ⊢
   split
   rename_i hw
   rw[if_pos hw]at hh
   exact hh.mono fun a w=>Ja s l a w
   rename_i hw
   rw[if_neg hw]at hh
   exact Ja s l _ _ hh
theorem DH {Q':Act→World→Prop}(hQ:∀a w,Q a w→Q' a w):∀(l:List Nat)(os:List Oper)(ks:List Nat)(a:Act)(w:World),Mt ops kd l os ks→LW P ops w0 Q os ks a w→LI P ops kd w0 Q' l a w
 |[],[],_,a,w,_,h=>by simpa [LI]using hQ a w (by simpa [LW]using h)
 |x::l,o::os,k::ks,a,w,⟨h0,hk,hM⟩,h=>by
  have hr:∀a w,LW P ops w0 Q os ks a w→LI P ops kd w0 Q' l a w:=fun a w hh=>DH hQ l os ks a w hM hh
  simp only[LI,h0,LW]at h ⊢
  split
  rename_i hw
  rw[if_pos hw]at h
  rw[hk]
  exact h.mono hr
  rename_i hw
  rw[if_neg hw]at h
  exact hr _ _ h
 |[],_::_,_,_,_,h,_=>h.elim
 |_::_,[],_,_,_,h,_=>h.elim
 |_::_,_::_,[],_,_,h,_=>h.elim
structure Jb (ops:Array Oper)(kd bs:Nat→Nat)(w0:World)(L0 S:List Nat)(n:Nat)(l:List Nat)(listed:Array Bool)(w:World):Prop where
 sub:l.Sublist L0
 len:l.length+S.length=n
 mem:∀i,i∈l++S↔listed.getD i true=false
 sz:listed.size=ops.size
 clo:Ig bs listed
 inv:Mx kd w0 w (l++S)
 nd:(l++S).Nodup
variable {L0:List Nat}
theorem Sx {l:List Nat}(hp:l.Pairwise (fun x y=>4≤kd x→kd y≠1)):My kd l:=by intro l1 i l2 hl hk j hj;subst hl;exact List.rel_of_pairwise_cons (List.pairwise_append.1 hp).2.1 hj hk
theorem IM (hsel:∀(j:Nat)(o:Oper) cs b,ops[j]? = some o→o.op≠.select cs b)(hS:He md ops bs)
  (hlex:∀j oj,ops[j]? = some oj→∀e∈oj.after,Region.binds md e=true→e.on<j) {s:List Nat} (hp:(L0++s).Pairwise (Dl md ops kd bs)) (h14:(L0++s).Pairwise (fun x y=>4≤kd x→kd y≠1))
  (n:Nat) (l:List Nat) (listed:Array Bool) (a:Act) (w:World) (hC:Jb ops kd bs w0 L0 s n l listed w) (h:LI P ops kd w0 (LI P ops kd w0 Q s) l a w):wpAny P md ops (NQ Q) n listed a w :=
 Fm hsel hS hlex n (l++s) listed a w (by rw[z4];exact hC.len) (hp.sublist (List.Sublist.append_right hC.sub s)) hC.nd hC.sz hC.mem hC.clo
  (Sx (h14.sublist (List.Sublist.append_right hC.sub s))) hC.inv (Ja s l a w h)
theorem HK (hsel:∀ (j:Nat) (o:Oper) cs b,ops[j]? = some o→o.op≠.select cs b) (hS:He md ops bs)
  (hlex:∀ j oj,ops[j]? = some oj→∀ e∈oj.after,Region.binds md e = true→e.on < j)
  {h1 h2:Nat} {S1 S2:List Nat} {Q1 Q2:Act→World→Prop} (hperm:(h1 :: S1).Perm (h2 :: S2)) (hk1:kd h1 = 3) (hk2:kd h2 = 3)
  (hl:∀ x∈L0,kd x≤2) (hL:L0.Pairwise (Dl md ops kd bs)) (hf1:∀ x∈L0,Dl md ops kd bs x h1) (hf2:∀ x∈L0,Dl md ops kd bs x h2)
  (hz:∀ z∈S1,z = h2∨(bs z).testBit h1 = true∨(bs z).testBit h2 = true)
  (hord:(L0++h1 :: S1).Pairwise (fun x y=>∀ ox,ops[x]? = some ox→∀ e∈ox.after,Region.binds md e = true→e.on≠y))
  (rec1:∀ n l listed a w,Jb ops kd bs w0 L0 S1 n l listed w→LI P ops kd w0 Q1 l a w→wpAny P md ops (NQ Q) n listed a w)
  (rec2:∀ n l listed a w,Jb ops kd bs w0 L0 S2 n l listed w→LI P ops kd w0 Q2 l a w→wpAny P md ops (NQ Q) n listed a w) :
  ∀ (n:Nat) (l:List Nat) (listed:Array Bool) (a:Act) (w:World),Jb ops kd bs w0 L0 (h1 :: S1) n l listed w→LI P ops kd w0 (fun a w=>LI P ops kd w0 Q1 [h1] a w∧LI P ops kd w0 Q2 [h2] a w) l a w→wpAny P md ops (NQ Q) n listed a w
 | 0,l,listed,a,w,hC,h=>by have:=hC.len; simp at this
 | n + 1,l,listed,a,w,hC,h=>by
  have hm2:∀ i,i∈l++h1 :: S1↔i∈l++h2 :: S2:=fun i=>by
   simp only [zi]; rw [hperm.mem_iff]
  have hun_of:∀ i∈l++h1 :: S1,listed.getD i true = false:=fun i hi=>(hC.mem i).1 hi
  -- a place that makes memory is taken
  have heavy:∀ (x:Nat) (T:List Nat) (Qx:Act→World→Prop),kd x = 3→(h1 :: S1).Perm (x :: T)→(∀ y∈L0,Dl md ops kd bs y x)→LI P ops kd w0 Qx (l++[x]) a w →
    (∀ l' a' w' listed',Jb ops kd bs w0 L0 T n l' listed' w'→LI P ops kd w0 Qx l' a' w'→wpAny P md ops (NQ Q) n listed' a' w') →
    ∀ (ox:Oper),ops[x]? = some ox→(∀ e∈ox.after,Region.binds md e = true→listed.getD e.on false = true)→wpOp P ops (NQ Q) x (wpAny P md ops (NQ Q) n (listed.setIfInBounds x true)) a w:=by
   intro x T Qx hkx hpx hfx hLx hrec ox hox hall;have hbits:=CX hS hC.clo hox hall;have hxm:x∈l++h1 :: S1:=z1 _ (hpx.mem_iff.2 (z0 ..));have hxu:=hun_of x hxm;have hfree:=E3 (kd:=kd) (l1:=l) hox (fun y hy=>(hfx y<|hC.sub.subset hy).1) (fun y hy=>hun_of y<|z8 _ hy) hbits;have hsz:=BN hxu;have hnd2:(l++x :: T).Nodup:=(List.Perm.append_left l hpx).nodup_iff.1 hC.nd;have hxl:x∉l++T:=by
    have h1:=List.nodup_append.1 hnd2
    intro hmem;rcases zi.1 hmem with hh | hh;exact h1.2.2 x hh x (z0 ..) rfl;exact (List.nodup_cons.1 h1.2.1).1 hh
   have hmT:∀ i,i∈l++x :: T↔listed.getD i true = false:=fun i=>by
    rw [← hC.mem i]; simp only [zi]; rw [hpx.mem_iff]
   have hcond:∀ w',(AB w w')→Jb ops kd bs w0 L0 T n l (listed.setIfInBounds x true) w':=fun w' hE =>
    ⟨hC.sub,by have:=hC.len; have:=hpx.length_eq; simp at *; omega,ED hmT hxl hsz,by simpa using hC.sz,DY hC.clo hbits,
     fun ⟨j,hj,hkj⟩=>(hC.inv ⟨j,by
      rcases zi.1 hj with hh | hh;exact z8 _ hh;exact z1 _ (hpx.mem_iff.2 (z3 _ hh)),hkj⟩).trans hE,
     hnd2.sublist (List.Sublist.append_left (List.sublist_cons_self _ _) _)⟩
   obtain ⟨g1,g2⟩:=IF (Q:=Qx) hsel hox zO l [] a w hfree (by simpa using hLx);unfold wpOp;rw [hox];by_cases hw:Region.wanted ox (yielded ops a.tmps) = true;simp only [hw,if_true];exact .inl<|Oper.wp_mono (fun a' w' hK=>hrec l a' w' _ (hcond w'<|hK.1 hkx) (by simpa using hK.2))<|FJ<|g1 hw;simp only [hw,Bool.false_eq_true,if_false];exact hrec l _ w _ (hcond w<|AB.refl w) (by simpa using g2 (by simpa using hw))
  refine ⟨fun h0=>?_,fun i hi=>?_⟩;exfalso;have hready:∀ (x:Nat) (t:List Nat),l++h1 :: S1 = x :: t→False:=fun x t ht=>by
   have hs:(x :: t).Pairwise (fun x y=>∀ ox,ops[x]? = some ox→∀ e∈ox.after,Region.binds md e = true→e.on≠y):=ht ▸ hord.sublist (List.Sublist.append_right hC.sub _);have:=Fs (md:=md) (i:=x) (l:=t) hC.sz (fun y=>ht ▸ hC.mem y) hlex (fun y hy ox hox=>(List.pairwise_cons.1 hs).1 y hy ox hox);rw [h0] at this;cases this
  cases l with
  | nil=>exact hready _ _ rfl
  | cons x l=>exact hready x (l++h1 :: S1) rfl
  obtain ⟨hun,oi,hoi,hall⟩:=mem_ready.1 hi;have hmem:=(hC.mem i).2 hun;have hbits:=CX hS hC.clo hoi hall;by_cases hil:i∈l;obtain ⟨l1,l2,rfl⟩:=List.append_of_mem hil;have hpi:∀ x∈l1,Dl md ops kd bs x i:=fun x hx=>(List.pairwise_append.1 (hL.sublist hC.sub)).2.2 x hx i (z0 ..);have hfree:=E3 (kd:=kd) (l1:=l1) hoi (fun x hx=>(hpi x hx).1) (fun x hx=>hun_of x (by simp [hx])) hbits;have hk:kd i≤2:=hl i (hC.sub.subset (by simp));have hsub0:(l1++l2).Sublist (l1++i :: l2):=List.Sublist.append_left (List.sublist_cons_self _ _) _;have hnd1:(l1++i :: (l2++h1 :: S1)).Nodup:=by have:=hC.nd; rwa [List.append_assoc,List.cons_append] at this
  have hnot:i∉l1++(l2++h1 :: S1):=by
   have h1:=List.nodup_append.1 hnd1
   intro hmem;rcases zi.1 hmem with hh | hh;exact h1.2.2 i hh i (z0 ..) rfl;exact (List.nodup_cons.1 h1.2.1).1 hh
  have hm1:∀ x,x∈l1++i :: (l2++h1 :: S1)↔listed.getD x true = false:=fun x=>by
   have:=hC.mem x; rwa [List.append_assoc,List.cons_append] at this
  have hcond:Jb ops kd bs w0 L0 (h1 :: S1) n (l1++l2) (listed.setIfInBounds i true) w :=
   ⟨hsub0.trans hC.sub,by have:=hC.len; simp at *; omega,fun x=>by rw [List.append_assoc]; exact ED hm1 hnot (BN hun) x,by simpa using hC.sz,DY hC.clo hbits,
    fun ⟨j,hj,hkj⟩=>hC.inv ⟨j,by
     rcases zi.1 hj with hh | hh;exact z8 _<|hsub0.subset hh;exact z1 _ hh,hkj⟩,
    hC.nd.sublist (List.Sublist.append_right hsub0 _)⟩
  obtain ⟨v,hv,hL'⟩:=Hf hsel hoi hk l1 l2 a w hfree (fun h1=>hC.inv ⟨i,by simp,h1⟩) h;unfold wpOp;rw [hoi];have rec_:=fun a' hh=>HK hsel hS hlex hperm hk1 hk2 hl hL hf1 hf2 hz hord rec1 rec2 n (l1++l2) (listed.setIfInBounds i true) a' w hcond hh;rcases hv with ⟨hw,hy⟩ | ⟨hw,rfl⟩;simp only [hw,if_true];exact .inl<|Gf (hy w (Cl.self fun h1=>hC.inv ⟨i,by simp,h1⟩))<|rec_ _ hL';simp only [hw,Bool.false_eq_true,if_false];exact rec_ _ hL';have hiS:i∈h1 :: S1:=(zi.1 hmem).resolve_left hil;have h12:i = h1∨i = h2:=by
   rcases ze.1 hiS with hh | hh;exact .inl hh;rcases hz i hh with hh | hh | hh;exact .inr hh;have q1:=hbits h1 hh;have q2:=CF<|hun_of h1 (by simp);rw [q1] at q2; cases q2;have q1:=hbits h2 hh;have q2:=CF<|hun_of h2 ((hm2 h2).2 (by simp));rw [q1] at q2; cases q2
  rcases h12 with rfl | rfl;exact heavy i S1 Q1 hk1 (List.Perm.refl _) hf1 (Ja [i] l a w<|HJ (fun _ _ hh=>hh.1) l a w h) (fun l' a' w' li hc hh=>rec1 n l' li a' w' hc hh) oi hoi hall;exact heavy i S2 Q2 hk2 hperm hf2 (Ja [i] l a w<|HJ (fun _ _ hh=>hh.2) l a w h) (fun l' a' w' li hc hh=>rec2 n l' li a' w' hc hh) oi hoi hall
theorem Md (x:Nat)(l:List Nat)(a:Act)(w:World)(hh:LI P ops kd w0 Q (x::l) a w):LI P ops kd w0 (LI P ops kd w0 Q l) [x] a w:=by
 simp only[LI]at hh ⊢;cases hoi:ops[x]? with
 |none=>rw[hoi]at hh;exact hh.elim
 |some o =>
  rw[hoi]at hh;simp only at hh ⊢;split;rename_i hw;rw[if_pos hw]at hh;exact hh.mono fun a w h=>h;rename_i hw;rw[if_neg hw]at hh;exact hh
end
def HL (ops:Array Oper)(x y:Nat):Bool:=match ops[x]? with|some ox=>ox.after.all fun e=>!Region.binds .any e || e.on != y|none=>true
def Vf (os:List Oper)(ks:List Nat)(L0:List Nat)(h1 g1:Nat)(r1:List Nat)(g2:Nat)(r2:List Nat)(h2:Nat)(r3:List Nat):Bool :=
  let ops:=os.toArray
  let b:=(Region.before ops).toList
  Region.noSelect ops &&
  (os.zipIdx.all fun(o,j) =>
    (o.after.all fun e=>!Region.binds .any e || decide (e.on<j)) &&
    (let m:=o.after.foldl (fun s e=>if Region.binds .any e then s ||| 2 ^ e.on ||| b.getD e.on 0 else s) 0
     (b.getD j 0 == m))) &&
  (decide (ks.getD h1 0=3) && (decide (ks.getD h2 0=3) && (decide (ks.getD g1 0=3) && decide (ks.getD g2 0=3)))) &&
  (L0.all fun x=>decide (ks.getD x 0≤2)) &&
  Mw (Fg ops ks b) L0 &&
  (L0.all fun x=>Fg ops ks b x h1 && (Fg ops ks b x h2 && (Fg ops ks b x g1 && Fg ops ks b x g2))) &&
  ((h1::g1::r1).isPerm (h2::r3) && (g1::r1).isPerm (g2::r2)) &&
  ((g1::r1).all fun z=>decide (z=h2) || ((b.getD z 0).testBit h1 || (b.getD z 0).testBit h2)) &&
  (r1.all fun z=>decide (z=g2) || ((b.getD z 0).testBit g1 || (b.getD z 0).testBit g2)) &&
  (Mw (HL ops) (L0++h1::g1::r1)) &&
  (Mw (Fg ops ks b) (L0++r1) && (Mw (Fg ops ks b) (L0++r2) && Mw (Fg ops ks b) (L0++r3))) &&
  (Mw (fun x y=>!(decide (4≤ks.getD x 0)) || ks.getD y 0 != 1) (L0++r1) && (Mw (fun x y=>!(decide (4≤ks.getD x 0)) || ks.getD y 0 != 1) (L0++r2) && Mw (fun x y=>!(decide (4≤ks.getD x 0)) || ks.getD y 0 != 1) (L0++r3))) &&
  (decide ((L0++h1::g1::r1).length=os.length) && (decide (L0++h1::g1::r1).Nodup && ((L0++h1::g1::r1).all (fun x=>decide (x<os.length)) && (List.range os.length).all fun x=>(L0++h1::g1::r1).contains x)))
section
variable [J:JR] {P:Program}
theorem Vg {id:Nat}{Q:Exit→Act→World→Prop}{a:Act}{w:World}(os:List Oper)(ks:List Nat)(L0:List Nat)(h1 g1:Nat)(r1:List Nat)(g2:Nat)(r2:List Nat)(h2:Nat)(r3:List Nat)
  (oL:List Oper) (kL:List Nat) (oh1 og1:Oper) (o1:List Oper) (k1:List Nat) (og2:Oper) (o2:List Oper) (k2:List Nat) (oh2:Oper) (o3:List Oper) (k3:List Nat) (hm:P.follows .mixedOrders=true) (hB:Vf os ks L0 h1 g1 r1 g2 r2 h2 r3=true)
  (hML:Mt os.toArray (fun i=>ks.getD i 0) L0 oL kL) (hMh:Mt os.toArray (fun i=>ks.getD i 0) [h1] [oh1] [3]) (hM1:Mt os.toArray (fun i=>ks.getD i 0) (g1::r1) (og1::o1) (3::k1)) (hM2:Mt os.toArray (fun i=>ks.getD i 0) (g2::r2) (og2::o2) (3::k2)) (hM3:Mt os.toArray (fun i=>ks.getD i 0) (h2::r3) (oh2::o3) (3::k3))
  (h:LW P os.toArray w.drew (fun a' w'=>LW P os.toArray w.drew (fun a'' w''=>LW P os.toArray w.drew (fun a w=>Q .normal a w) (og1::o1) (3::k1) a'' w''∧LW P os.toArray w.drew (fun a w=>Q .normal a w) (og2::o2) (3::k2) a'' w'') [oh1] [3] a' w' ∧
   LW P os.toArray w.drew (fun a w=>Q .normal a w) (oh2::o3) (3::k3) a' w') oL kL a w.drew):(Code.region id os.toArray true).wp P Q a w:=by
 refine wp_region_any hm ?_;simp only[Vf,z7,decide_eq_true_eq]at hB;obtain⟨⟨⟨⟨⟨⟨⟨⟨⟨⟨⟨⟨hsel,hpl⟩,hk1,hk2,hk3,hk4⟩,hl⟩,hpL⟩,hpx⟩,hpe1,hpe2⟩,hz1⟩,hz2⟩,hord⟩,hb1,hb2,hb3⟩,hn1,hn2,hn3⟩,hln,hnd,hlt,hct⟩:=hB;have hz:∀ {j:Nat} {o:Oper},os.toArray[j]? = some o→(o,j)∈os.zipIdx:=by
  intro j o ho;rw[List.mem_zipIdx_iff_getElem?];simpa using ho
 have hall:∀j oj,os.toArray[j]? = some oj→_:=fun j oj hj=>zm.1 hpl _ (hz hj);have hlex:∀j oj,os.toArray[j]? = some oj→∀e∈oj.after,Region.binds .any e=true→e.on<j:=by
  intro j oj hj e he hb;have h1:=(z7 _ _ ▸ hall j oj hj:_∧_).1;have h2:=(Array.all_eq_true_iff_forall_mem.1 h1) e he;simpa [hb]using h2
 have hS:He .any os.toArray (fun j=>(Region.before os.toArray).toList.getD j 0):=by
  intro j oj hj i hb;have h3:=(z7 _ _ ▸ hall j oj hj:_∧_).2;have h5:(Region.before os.toArray).toList.getD j 0=oj.after.foldl (fun s e=>if Region.binds .any e then s ||| 2 ^ e.on ||| (Region.before os.toArray).toList.getD e.on 0 else s) 0:=by simpa using h3
  dsimp only at hb;rw[h5,← Array.foldl_toList]at hb;rcases EE _ _ _ _ hb with hb|⟨e,he,hbb,hh⟩;simp at hb;exact⟨e,Array.mem_toList_iff.1 he,hbb,hh⟩
 have hmem:∀x,x∈L0++h1::g1::r1↔x<os.length:=fun x=>by
  constructor
  intro hx;exact of_decide_eq_true (zm.1 hlt x hx)
  intro hx;have:=zm.1 hct x (List.mem_range.2 hx);simpa using this
 have hse:=Region.noSelect_spec hsel;have P2:∀ {l:List Nat},Mw (Fg os.toArray ks (Region.before os.toArray).toList) l=true→l.Pairwise (Dl .any os.toArray (fun i=>ks.getD i 0) (fun j=>(Region.before os.toArray).toList.getD j 0)):=fun h=>E9 (fun x y hh=>CY hh) h;have N2:∀ {l:List Nat},Mw (fun x y=>!(decide (4≤ks.getD x 0)) || ks.getD y 0 != 1) l=true→l.Pairwise (fun x y=>4≤ks.getD x 0→ks.getD y 0≠1):=fun h=>E9 (fun x y hxy h4=>by
  rcases Bool.or_eq_true_iff.1 hxy with hh|hh;simp only[Bool.not_eq_true',decide_eq_false_iff_not]at hh;exact absurd h4 hh;simpa using hh) h
 have hL2:∀x∈L0,ks.getD x 0≤2:=fun x hx=>of_decide_eq_true (zm.1 hl x hx);have hx4:∀x∈L0,_:=fun x hx=>zm.1 hpx x hx;simp only[z7]at hx4;have hordP:(L0++h1::g1::r1).Pairwise (fun x y=>∀ox,os.toArray[x]? = some ox→∀e∈ox.after,Region.binds .any e=true→e.on≠y):=E9 (fun x y hh ox hox e he hb=>by
  unfold HL at hh;rw[hox]at hh;have:=(Array.all_eq_true_iff_forall_mem.1 hh) e he;simpa [hb]using this) hord
 have hord2:(L0++g1::r1).Pairwise (fun x y=>∀ox,os.toArray[x]? = some ox→∀e∈ox.after,Region.binds .any e=true→e.on≠y):=hordP.sublist (List.Sublist.append_left (List.sublist_cons_self _ _) _);have zz1:∀z∈g1::r1,z=h2∨((Region.before os.toArray).toList.getD z 0).testBit h1=true∨((Region.before os.toArray).toList.getD z 0).testBit h2=true:=fun z hz=>by
  have:=zm.1 hz1 z hz;simpa only[Bool.or_eq_true,decide_eq_true_eq]using this
 have zz2:∀z∈r1,z=g2∨((Region.before os.toArray).toList.getD z 0).testBit g1=true∨((Region.before os.toArray).toList.getD z 0).testBit g2=true:=fun z hz=>by
  have:=zm.1 hz2 z hz;simpa only[Bool.or_eq_true,decide_eq_true_eq]using this
 have base1:=IM (P:=P) (w0:=w.drew) (Q:=fun a w=>Q .normal a w) hse hS hlex (P2 hb1)<|N2 hn1;have base2:=IM (P:=P) (w0:=w.drew) (Q:=fun a w=>Q .normal a w) hse hS hlex (P2 hb2)<|N2 hn2;have base3:=IM (P:=P) (w0:=w.drew) (Q:=fun a w=>Q .normal a w) hse hS hlex (P2 hb3)<|N2 hn3;have inner:=HK (P:=P) (w0:=w.drew) (Q:=fun a w=>Q .normal a w) hse hS hlex (h1:=g1) (h2:=g2) (S1:=r1) (S2:=r2) (List.isPerm_iff.1 hpe2) hk3 hk4 hL2 (P2 hpL) (fun x hx=>CY (hx4 x hx).2.2.1) (fun x hx=>CY (hx4 x hx).2.2.2) zz2 hord2 base1 base2;have outer:=HK (P:=P) (w0:=w.drew) (Q:=fun a w=>Q .normal a w) hse hS hlex (h1:=h1) (h2:=h2) (S1:=g1::r1) (S2:=r3) (List.isPerm_iff.1 hpe1) hk1 hk2 hL2 (P2 hpL) (fun x hx=>CY (hx4 x hx).1) (fun x hx=>CY (hx4 x hx).2.1) zz1 hordP inner base3;have key:=outer os.length L0 (Array.replicate os.length false) a w.drew ⟨List.Sublist.refl _,by rw[← hln,z4],fun x=>?_,by simp,?_,fun _=>AB.refl _,hnd⟩ ?_;have:=Ft _ _ _ _ key;simpa using this;rw[hmem];constructor
 intro hx;simp[hx]
 intro hh;rcases Nat.lt_or_ge x os.length with h'|h';exact h';simp[Array.getElem?_eq_none (show(Array.replicate os.length false).size≤x by simpa using h')]at hh
 intro i hi;rcases Nat.lt_or_ge i os.length with h'|h';simp[h']at hi;simp[Array.getElem?_eq_none (show(Array.replicate os.length false).size≤i by simpa using h')]at hi;refine DH (fun a w hh=>⟨?_,?_⟩) _ _ _ _ _ hML h;exact DH (fun a w hh=>⟨Md _ _ _ _<|DH (fun _ _ h=>h) _ _ _ _ _ hM1 hh.1,Md _ _ _ _<|DH (fun _ _ h=>h) _ _ _ _ _ hM2 hh.2⟩) _ _ _ _ _ hMh hh.1;exact Md _ _ _ _<|DH (fun _ _ h=>h) _ _ _ _ _ hM3 hh.2
theorem YZ {ops:Array Oper}{w0:World}{Q:Act→World→Prop}{o:Oper}{os:List Oper}{ks:List Nat}{a:Act}{w:World}(h:_root_.Go.Proofs.YtlbefjfhfodnlaaGreatDoor.LW P ops w0 (fun a' w'=>AB w w'∧LW P ops w0 Q os ks a' w') [o] [4] a w):LW P ops w0 Q (o::os) (3::ks) a w:=by simp only[_root_.Go.Proofs.YtlbefjfhfodnlaaGreatDoor.LW]at h;simp only[LW];split;rename_i hw;rw[if_pos hw]at h;unfold _root_.Go.Proofs.YtlbefjfhfodnlaaGreatDoor.Bs at h;unfold Bs;rw[if_neg (by decide),if_neg (by decide)]at h;rw[if_neg (by decide),if_pos rfl];exact h;rename_i hw;rw[if_neg hw]at h;exact h.2
theorem XW {ops:Array Oper}{w0:World}{Q:Act→World→Prop}{o:Oper}{os:List Oper}{ks:List Nat}{a:Act}{w:World}(h:_root_.Go.Proofs.YtlbefjfhfodnlaaGreatDoor.LW P ops w0 (fun a' w'=>LW P ops w0 Q os ks a' w') [o] [3] a w):LW P ops w0 Q (o::os) (3::ks) a w:=by simp only[_root_.Go.Proofs.YtlbefjfhfodnlaaGreatDoor.LW]at h;simp only[LW];split;rename_i hw;rw[if_pos hw]at h;unfold _root_.Go.Proofs.YtlbefjfhfodnlaaGreatDoor.Bs at h;unfold Bs;rw[if_neg (by decide),if_pos rfl]at h;rw[if_neg (by decide),if_pos rfl];exact Oper.wp_mono (fun a w hh=>⟨J.ext hh.1,hh.2⟩) h;rename_i hw;rw[if_neg hw]at h;exact h
end
end Jx
end
def Fy (p:List Fn)(f:Int):Int:=if DW p=true then(if 0≤f∧f≤((p.length:Nat):Int)-1 then 0 else 2)else 1
theorem MS {p:List Fn}{f:Int}(h:Fy p f=0):DW p=true∧0≤f∧f<((p.length:Nat):Int):=by unfold Fy at h;split at h;split at h;rename_i h1 h2;exact⟨h1,h2.1,zO⟩;omega;omega
theorem Um {n k:Nat}{s:Sr}(h:Ee n s)(hk:k<n):I8 (s.getD k 0)=true:=by
 have hk':k<s.length:=by rw[h.1];exact hk
 have:=h.2;unfold BA at this;have h2:=zm.1 this s[k]<|List.getElem_mem hk';rwa [show s.getD k 0=s[k]from by simp[hk']]
section
mutual
def I1:Ex→Int→Int
 |.mk _ _ _ _ l,x=>Dm l (x-1)
def Dm:List Ex→Int→Int
 |[],x=>x
 |e::l,x=>if 0≤x then Dm l (I1 e x)else x
end
theorem Sy (e:Ex)(x:Int):I1 e x=Dm e.kids (x-1):=by cases e;rw[I1];rfl
theorem Kp {l:List Ex}{x:Int}(h:x<0):Dm l x=x:=by
 cases l with
 |nil=>rw[Dm]
 |cons e l=>rw[Dm,if_neg (by omega)]
mutual
theorem Kq:∀(e:Ex)(x:Int),0≤x→(I1 e x=x-(e.size:Int)∧(e.size:Int)≤x)∨(I1 e x = -1∧x<(e.size:Int))
 |.mk k n q c l,x,h=>by
  rw[I1,Ex.size]
  by_cases h0:x=0
  subst h0
  right
  rw[Kp (by omega)]
  refine⟨zO,zO⟩
  rcases HM l (x-1) (by omega)with h1|h1
  left;omega
  right;omega
theorem HM:∀(l:List Ex)(x:Int),0≤x→(Dm l x=x-(Ex.sizes l:Int)∧(Ex.sizes l:Int)≤x)∨(Dm l x = -1∧x<(Ex.sizes l:Int))
 |[],x,h=>by rw[Dm,Ex.sizes];left;omega
 |e::l,x,h=>by
  rw[Dm,if_pos h,Ex.sizes]
  rcases Kq e x h with h1|h1
  rw[h1.1]
  rcases HM l (x-(e.size:Int)) (by omega)with h2|h2
  left;omega
  right;omega
  rw[h1.1,Kp (by omega)]
  right;omega
end
theorem LN (e:Ex):∀(l:List Ex)(x:Int),Dm (l++[e]) x=if 0≤Dm l x then I1 e (Dm l x)else Dm l x
 |[],x=>by
  rw[zl,Dm,Dm]
  split
  rw[Dm]
  rfl
 |a::l,x=>by
  rw[List.cons_append,Dm,Dm]
  by_cases h:0≤x
  rw[if_pos h,if_pos h,LN e l]
  rw[if_neg h,if_neg h,if_neg h]
theorem LO {l:List Ex}{k:Nat}(hk:k<l.length){x:Int}(h:0≤Dm (l.take k) x):Dm (l.take (k+1)) x=I1 (l.getD k Ex.zero) (Dm (l.take k) x):=by rw[List.take_succ_eq_append_getElem hk,LN,if_pos h];simp[hk]
theorem MT:∀(l r:List Ex)(x:Int),Dm l x<0→Dm (l++r) x=Dm l x
 |[],r,x,h=>by rw[Dm]at h ⊢;rw[zl,Kp h]
 |a::l,r,x,h=>by
  rw[Dm]at h ⊢
  rw[List.cons_append,Dm]
  split
  rename_i h0;rw[if_pos h0]at h;exact MT l r _ h
  rfl
theorem LP {l:List Ex}{k:Nat}{x:Int}(h:Dm (l.take k) x<0):Dm l x=Dm (l.take k) x:=by have:=MT (l.take k) (l.drop k) x h;rwa [List.take_append_drop]at this
theorem MU {e:Ex}{x:Int}(h:0≤x):-1≤I1 e x∧I1 e x≤x:=by rcases Kq e x h with h1|h1 <;> omega
theorem Qt {e:Ex}{x:Int}(h:0≤x):0≤I1 e x↔(e.size:Int)≤x:=by rcases Kq e x h with h1|h1 <;> omega
def Pn (k:Int):Int:=if k=1∨k=2 then 0 else if k=3∨k=4∨k=5∨k=6∨k=9 then 2 else if k=7 then 1 else if k=8 then 3 else -1
theorem Me {p q:Prop} [Decidable p] [Decidable q] (h:p↔q):decide p=decide q:=decide_eq_decide.2 h
section
variable {p:List Fn} {F vars:Int} {e:Ex}
theorem Po (h:Gy p F vars e=true)(h10:e.kind≠10)(h11:e.kind≠11):e.pick=0∧e.count=0∧Pn e.kind=((e.kids.length:Nat):Int)∧(e.kind≠1→e.kind≠2→e.num=0):=by unfold Gy Dy at h;unfold Pn;split at h;rename_i h1;simp only[z7,decide_eq_true_eq]at h;rw[if_pos (by omega)];exact⟨h.1.1,h.1.2,zO,fun hh=>absurd h1 hh⟩;split at h;rename_i h1;simp only[z7,decide_eq_true_eq]at h;rw[if_pos (by omega)];exact⟨h.1.1,h.1.2,zO,fun _ hh=>absurd h1 hh⟩;split at h;simp only[z7,decide_eq_true_eq]at h;rw[if_neg zO,if_pos (by omega)];exact⟨h.1.1,h.1.2,zO,fun _ _=>h.2.1⟩;split at h;simp only[z7,decide_eq_true_eq]at h;rw[if_neg zO,if_neg zO,if_pos (by omega)];exact⟨h.1.1,h.1.2,zO,fun _ _=>h.2.1⟩;split at h;simp only[z7,decide_eq_true_eq]at h;rw[if_neg zO,if_neg zO,if_neg zO,if_pos (by omega)];exact⟨h.1.1,h.1.2,zO,fun _ _=>h.2.1⟩;split at h;omega;cases h
theorem Un (h10:e.kind≠10)(h11:e.kind≠11)(h:Pn e.kind≠((e.kids.length:Nat):Int)∨e.pick≠0∨e.count≠0):false=Gy p F vars e:=by
 cases hw:Gy p F vars e with
 |false=>rfl
 |true =>
  have:=Po hw h10 h11;omega
theorem XX (hk:Pn e.kind=((e.kids.length:Nat):Int))(h1:e.kind=1)(hp:e.pick=0)(hc:e.count=0):I8 e.num=Gy p F vars e:=by
 have hl:e.kids.length=0:=by unfold Pn at hk;rw[if_pos (by omega)]at hk;omega
 unfold Gy Dy;rw[if_pos h1,A5 hp,A5 hc,A5 hl];rfl
theorem XY (hk:Pn e.kind=((e.kids.length:Nat):Int))(h1:e.kind=2)(hp:e.pick=0)(hc:e.count=0):(decide (((0:Nat):Int)≤e.num) && decide (e.num≤vars-1))=Gy p F vars e:=by
 have hl:e.kids.length=0:=by unfold Pn at hk;rw[if_pos (by omega)]at hk;omega
 unfold Gy Dy Ha;rw[if_neg zO,if_pos h1,A5 hp,A5 hc,A5 hl];rfl
theorem XZ (hk:Pn e.kind=((e.kids.length:Nat):Int))(h1:e.kind≠1)(h2:e.kind≠2)(h10:e.kind≠10)(h11:e.kind≠11)(hp:e.pick=0)(hc:e.count=0):decide (e.num=0)=Gy p F vars e:=by unfold Pn at hk;unfold Gy Dy;rw[if_neg h1,if_neg h2,A5 hp,A5 hc];rw[if_neg (by omega)]at hk;split at hk;rename_i h3;rw[if_pos h3,A5 (show e.kids.length=2 by omega)];simp;rename_i h3;rw[if_neg h3];split at hk;rename_i h4;rw[if_pos h4,A5 (show e.kids.length=1 by omega)];simp;rename_i h4;rw[if_neg h4];split at hk;rename_i h5;rw[if_pos h5,A5 (show e.kids.length=3 by omega)];simp;omega
end
end
section
def Jt (n:Nat)(C:Ca)(e:Ex)(env:List Sr)(s:Nat):Rs Sr:=(Cf n C e.kids env s).bind fun xs t =>
 if e.kind=10 then C.one e.num.toNat e.pick.toNat xs t else(EZ (C.all e.num.toNat) e.count.toNat xs t).bind fun ys u=>.ok (ys.getD e.pick.toNat []) u
section
variable {n:Nat} {C:Ca} {e:Ex} {env:List Sr} {s s1 s2:Nat} {c c1 c2:Int} {x y:Sr} {xs ys:List Sr}
theorem LQ (hc:c=0)(hs:s+1≤3000)(hk:e.kind=10∨e.kind=11)(h:B2 (go c (Jt n C e env (s+1))) y s2 c2):B2 (go c (BP n C e env s)) y s2 c2:=by
 subst hc;rw[Fw]at h ⊢;rw[Ho hs zO zO zO (by omega)];unfold Jt at h;cases hv:Cf n C e.kids env (s+1)with
 |err d=>rw[hv]at h;exact h
 |ok zsq t =>
  rw[hv]at h;rw[Rs.bind_ok]at h ⊢;by_cases h10:e.kind=10;rw[if_pos h10]at h ⊢;exact h;rw[if_neg h10]at h;rw[if_neg h10,if_pos (by omega)];exact h
theorem Qu {α:Type}{r:Rs α}{v:α}(h:B2 (go c r) v s1 c1)(hc:c≠0):c1=c:=by rw[Fi hc]at h;exact h.1
theorem Uo (hl:e.kids.length=1)(h:B2 (go c (BP n C (e.kids.getD 0 Ex.zero) env s)) x s1 c1):B2 (go c (Cf n C e.kids env s)) [x] s1 c1:=by have h1:=Gk (l:=e.kids) (k:=0) zO (Gl n C e.kids env s c) h;rwa [za (by omega)]at h1
theorem Jc (hl:e.kids.length=2)(h:B2 (go c (BP n C (e.kids.getD 0 Ex.zero) env s)) x s1 c1)(h2:B2 (go c1 (BP n C (e.kids.getD 1 Ex.zero) env s1)) y s2 c2):B2 (go c (Cf n C e.kids env s)) [x,y] s2 c2:=by have h1:=Gk (l:=e.kids) (k:=0) zO (Gl n C e.kids env s c) h;have h3:=Gk (l:=e.kids) (k:=1) zO h1 h2;rwa [za (by omega)]at h3
theorem GH (hc:c=0)(hs:s+1≤3000)(hk:e.kind=3∨e.kind=4∨e.kind=5∨e.kind=6∨e.kind=7)(hr:B2 (go c (Cf n C e.kids env (s+1))) xs s1 c1)
  (h:c1=0→B2 (I0 e.kind xs s1) y s1 c2) (h0:c1≠0→c2=c1):B2 (go c (BP n C e env s)) y s1 c2:=by
 by_cases hc1:c1=0;exact Bm hc hs zO zO zO zO zO zO hr hc1<|h hc1;rw[h0 hc1];exact Dk hc hs zO zO zO zO hr hc1
theorem Qv {p:List Fn}{F:Nat}(hk:e.kind=10)(hF:e.num.toNat<F)(hr:B2 (go c (Cf n (Cj p n F) e.kids env s)) xs s1 c1)
  (h2:B2 (go c1 (BP n (Cj p n e.num.toNat) ((p.getD e.num.toNat Fn.zero).outs.getD e.pick.toNat Ex.zero) xs s1)) y s2 c2):B2 (go c (Jt n (Cj p n F) e env s)) y s2 c2:=by
 by_cases hc:c=0;subst hc;rw[Fw]at hr ⊢;unfold Jt;by_cases hc1:c1=0;subst hc1;rw[hr.bindO,if_pos hk,GG hF];rw[Fw]at h2;exact h2;rw[hr.bindE hc1];rw[Fi hc1]at h2;exact h2;have e1:=Qu hr hc;subst e1;rw[Fi hc]at h2 ⊢;exact h2
theorem Qw {f:List Sr→Nat→Rs (List Sr)}{k:Nat}(h:B2 (go c (EZ f k xs s)) ys s1 c1){zsq:List Sr}(h2:B2 (go c1 (f ys s1)) zsq s2 c2):B2 (go c (EZ f (k+1) xs s)) zsq s2 c2:=by by_cases hc:c=0;subst hc;rw[Fw]at h ⊢;show B2 ((EZ f k xs s).bind f) _ _ _;by_cases hc1:c1=0;subst hc1;rw[h.bindO];rw[Fw]at h2;exact h2;rw[h.bindE hc1];rw[Fi hc1]at h2;exact h2;have e1:=Qu h hc;subst e1;rw[Fi hc]at h2 ⊢;exact h2
theorem Qy {f:List Sr→Nat→Rs (List Sr)}(hc:0=0):B2 (go c (EZ f 0 xs s)) xs s c:=by by_cases h:c=0;subst h;exact⟨rfl,rfl,rfl⟩;exact B2.mk_err (Fi h _) h
theorem Qz {p:List Fn}{F:Nat}(hk:e.kind≠10)(hF:e.num.toNat<F)(hr:B2 (go c (Cf n (Cj p n F) e.kids env s)) xs s1 c1)
  (h2:B2 (go c1 (EZ (fun a t=>Cf n (Cj p n e.num.toNat) (p.getD e.num.toNat Fn.zero).outs a t) e.count.toNat xs s1)) ys s2 c2):B2 (go c (Jt n (Cj p n F) e env s)) (ys.getD e.pick.toNat []) s2 c2:=by
 have hl:(Cj p n F).all e.num.toNat=fun a t=>Cf n (Cj p n e.num.toNat) (p.getD e.num.toNat Fn.zero).outs a t:=funext fun a=>funext fun t=>FK hF;by_cases hc:c=0;subst hc;rw[Fw]at hr ⊢;unfold Jt;by_cases hc1:c1=0;subst hc1;rw[hr.bindO,if_neg hk,hl];rw[Fw]at h2;by_cases h0:c2=0;subst h0;rw[h2.bindO];exact B2.mk_ok rfl;rw[h2.bindE h0];exact B2.mk_err rfl h0;rw[hr.bindE hc1];rw[Fi hc1]at h2;exact B2.mk_err (by rw[h2.1]) (by rw[h2.1];exact hc1);have e1:=Qu hr hc;subst e1;rw[Fi hc]at h2 ⊢;exact B2.mk_err (by rw[h2.1]) (by rw[h2.1];exact hc)
end
end
section
def J2 (p:List Fn)(f:Nat)(s:Sr):Int:=FY p 1 f (C0 s)
def Ol (p:List Fn)(f:Nat)(s:Sr):Sr:=(Kl p 1 f (C0 s)).map fun s=>s.getD 0 0
theorem Hq {a:Sr}(h:BA a=true):Fo 1 (C0 a):=by intro k hk;unfold C0 at hk ⊢;rw[zg]at hk;rw[List.getD_eq_getElem?_getD,List.getElem?_map,List.getElem?_eq_getElem hk];refine⟨rfl,?_⟩;unfold BA at h ⊢;have:=zm.1 h _ (List.getElem_mem hk);simpa using this
theorem NA {x:List Sr}{n:Nat}(h:Fo (n+1) x):BA (x.map fun s=>s.getD 0 0)=true:=by
 unfold BA;rw[zm]
 intro y hy;obtain⟨s,hs,rfl⟩:=List.mem_map.1 hy;obtain⟨k,hk,rfl⟩:=List.mem_iff_getElem.1 hs;have h2:=h k hk;rw[GQ hk]at h2;exact Um h2 zO
section
variable {p:List Fn} {f:Nat} {a s:Sr} {k n:Nat}
structure XF (p:List Fn)(f:Nat)(s:Sr):Prop where
 code:0≤J2 p f s∧J2 p f s≤9
 len:J2 p f s=0→(Ol p f s).length=(p.getD f Fn.zero).outs.length
 num:BA (Ol p f s)=true
 non:J2 p f s≠0→Ol p f s=[]
theorem XF.mk' (h:Of p 1 f (C0 s)):XF p f s :=
 ⟨h.code,fun h0=>by unfold Ol;rw[zg];exact h.len h0,NA h.ser,fun h0=>by unfold Ol;rw[h.non h0];rfl⟩
end
end
theorem Cu:∀(l:List Ex)(k:Nat),Ex.sizes (l.take k)+(l.length-k)≤Ex.sizes l
 |[],k=>by simp[Ex.sizes]
 |e::l,0=>by
  have h:=Cu l 0
  have:=Bg e
  rw[List.take_zero]at h ⊢
  rw[Ex.sizes]at h ⊢
  rw[z9,Ex.sizes];omega
 |e::l,k+1=>by
  have h:=Cu l k
  rw[List.take_succ_cons,Ex.sizes,Ex.sizes,z9];omega
section
def Rs.map {α β:Type}(f:α→β)(r:Rs α):Rs β:=match r with
 |.ok x s=>.ok (f x) s
 |.err c=>.err c
abbrev DF (m:Nat)(x:Sr):Sr:=x.take m
theorem DX {m k:Nat}(x:Sr)(h:k<m):(DF m x).getD k 0=x.getD k 0:=by simp only[DF,List.getD_eq_getElem?_getD,List.getElem?_take,if_pos h]
theorem K1 {m:Nat}(l:Nat)(f g:Nat→Int)(h:∀k,k<m→f k=g k):DE (min m l) f=DF m (DE l g):=by unfold DE DF;rw[← List.map_take,List.take_range];exact List.map_congr_left fun k hk=>h k (by have:=List.mem_range.1 hk;omega)
section
variable {m:Nat} (a b:Sr)
theorem IN:(DF m a).length=min m a.length:=List.length_take ..
theorem QA:Ew (DF m a) (DF m b)=DF m (Ew a b):=by unfold Ew;rw[IN];exact K1 _ _ _ fun k hk=>by rw[DX a hk,DX b hk]
theorem QB:Fk (DF m a) (DF m b)=DF m (Fk a b):=by unfold Fk;rw[IN];exact K1 _ _ _ fun k hk=>by rw[DX a hk,DX b hk]
theorem QC (y:Int):EV (DF m a) y=DF m (EV a y):=by unfold EV;rw[IN];exact K1 _ _ _ fun k hk=>by rw[DX a hk]
theorem Om {k:Nat}(hk:k<m):∀i,i≤k+1→MI (DF m a) (DF m b) k i=MI a b k i
 |0,_=>rfl
 |i+1,h=>by
  show md (MI (DF m a) (DF m b) k i+(DF m a).getD i 0*(DF m b).getD (k-i) 0)=md (MI a b k i+a.getD i 0*b.getD (k-i) 0)
  rw[Om hk i zO,DX a zO,DX b (by omega)]
theorem QD:DM (DF m a) (DF m b)=DF m (DM a b):=by unfold DM;rw[IN];exact K1 _ _ _ fun k hk=>Om a b hk (k+1)<|A7 _
theorem On (o:Sr){k:Nat}(hk:k<m):∀i,i≤k→Nu (DF m a) (DF m b) o k i=Nu a b o k i
 |0,_=>DX a hk
 |i+1,h=>by
  show md (Nu (DF m a) (DF m b) o k i-o.getD i 0*(DF m b).getD (k-i) 0)=md (Nu a b o k i-o.getD i 0*b.getD (k-i) 0)
  rw[On o hk i zO,DX b (by omega)]
theorem Oo (hm:1≤m):∀k,k≤m→In (DF m a) (DF m b) k=In a b k
 |0,_=>rfl
 |k+1,h=>by
  rw[In,In,Oo hm k zO,On a b _ zO k (A7 _),DX b (by omega)]
theorem MV:∀ (k j:Nat),j≤k→(In a b k).take j = In a b j
  | 0, j, h => by have : j = 0 := by omega
                  subst this; rfl
  | k + 1,j,h=>by
    by_cases e:j = k + 1
    subst e; rw [za (by rw [DV]; exact A7 _)]
    rw [In,List.take_append_of_le_length (by rw [DV]; omega)]; exact MV k j zO
theorem QE (hm:1≤m):D9 (DF m a) (DF m b)=DF m (D9 a b):=by unfold D9;rw[IN,Oo a b hm _ (by omega)];show _=(In a b a.length).take m;by_cases h:m≤a.length;rw[MV a b _ _ h,Nat.min_eq_left h];rw[za (by rw[DV];omega),Nat.min_eq_right (by omega)]
end
theorem Sz {m n:Nat}(x:Int)(h:m≤n):cst m x=DF m (cst n x):=by unfold cst DF;rw[List.take_set,List.take_replicate,Nat.min_eq_left h]
theorem K2 {m:Nat}(env:List Sr)(k:Nat):(env.map (DF m)).getD k []=DF m (env.getD k []):=by simp only[List.getD_eq_getElem?_getD,List.getElem?_map];cases env[k]? <;> simp[DF]
structure Y2 (m:Nat)(C C':Ca):Prop where
 one:∀f j xs t,C'.one f j (xs.map (DF m)) t=(C.one f j xs t).map (DF m)
 all:∀f xs t,C'.all f (xs.map (DF m)) t=(C.all f xs t).map (List.map (DF m))
theorem SA {m:Nat}(hm:1≤m)(k:Int)(xs:List Sr)(t:Nat):I0 k (xs.map (DF m)) t=(I0 k xs t).map (DF m):=by unfold I0;rw[K2,K2];split;rw[QA];rfl;split;rw[QB];rfl;split;rw[QD];rfl;split;rw[QC];rfl;rw[DX _ (by omega)];split;rfl;rw[QE _ _ hm];rfl
section
variable {m n:Nat} {C C':Ca}
theorem Oq (hC:Y2 m C C')(f:Nat):∀(k:Nat)(xs:List Sr)(t:Nat),EZ (C'.all f) k (xs.map (DF m)) t=(EZ (C.all f) k xs t).map (List.map (DF m))
 |0,xs,t=>rfl
 |k+1,xs,t=>by
  rw[EZ,EZ,Oq hC f k xs t]
  cases EZ (C.all f) k xs t with
  |err c=>rfl
  |ok ys u=>exact hC.all f ys u
theorem K3:∀(l:List Ex),(∀e∈l,∀env s,BP m C' e (env.map (DF m)) s=(BP n C e env s).map (DF m))→∀env s,Cf m C' l (env.map (DF m)) s=(Cf n C l env s).map (List.map (DF m))
 |[],_,env,s=>by rw[Cf,Cf];rfl
 |e::l,h,env,s=>by
  rw[Cf,Cf,h e (z0 ..)]
  cases BP n C e env s with
  |err c=>rfl
  |ok x t =>
   show(Cf m C' l (env.map (DF m)) t).bind _=_
   rw[K3 l (fun e he=>h e (z3 _ he)) env t]
   simp only[Rs.bind_ok]
   cases Cf n C l env t <;> rfl
theorem HN:∀(l:List Ex)(j:Nat),(∀e∈l,∀env s,BP m C' e (env.map (DF m)) s=(BP n C e env s).map (DF m))→∀env s,EB m C' l j (env.map (DF m)) s=(EB n C l j env s).map (DF m)
 |[],j,_,env,s=>by rw[EB,EB];rfl
 |e::l,0,h,env,s=>by rw[EB,EB];exact h e (z0 ..) env s
 |e::l,j+1,h,env,s=>by rw[EB,EB];exact HN l j (fun e he=>h e (z3 _ he)) env s
theorem Jd:∀ {l:List Ex}{e:Ex},e∈l→e.size≤Ex.sizes l
 |[],_,h=>by cases h
 |a::l,e,h=>by
  rw[Ex.sizes]
  rcases ze.1 h with rfl|h
  omega
  have:=Jd h;omega
theorem K4 (hm:1≤m)(hmn:m≤n)(hC:Y2 m C C'):∀(z:Nat)(e:Ex),e.size≤z→∀env s,BP m C' e (env.map (DF m)) s=(BP n C e env s).map (DF m)
 |0,e,h,_,_=>by have:=Bg e;omega
 |z+1,e,h,env,s=>by
  have hk:∀x∈e.kids,∀env s,BP m C' x (env.map (DF m)) s=(BP n C x env s).map (DF m):=fun x hx=>K4 hm hmn hC z x (by have:=Bg e;have:=Jd hx;omega)
  rw[CP,CP]
  split
  rfl
  split
  rw[Sz _ hmn];rfl
  split
  rw[K2];rfl
  split
  rw[HN _ 0 hk]
  cases EB n C e.kids 0 env (s+1)with
  |err c=>rfl
  |ok x t =>
   show(if (DF m x).getD 0 0=0 then _ else _)=((if x.getD 0 0=0 then _ else _:Rs Sr)).map (DF m)
   rw[DX _ (by omega)]
   split
   exact HN _ 1 hk env t
   exact HN _ 2 hk env t
  split
  rw[HN _ 0 hk]
  cases EB n C e.kids 0 env (s+1)with
  |err c=>rfl
  |ok x t =>
   show EB m C' e.kids 1 (env.map (DF m)++[DF m x]) t=(EB n C e.kids 1 (env++[x]) t).map (DF m)
   rw[← HN _ 1 hk,List.map_append];rfl
  rw[K3 _ hk]
  cases Cf n C e.kids env (s+1)with
  |err c=>rfl
  |ok xs t =>
   show(if e.kind=10 then _ else _)=((if e.kind=10 then _ else _:Rs Sr)).map (DF m)
   split
   exact hC.one _ _ _ _
   split
   rw[Oq hC]
   cases EZ (C.all e.num.toNat) e.count.toNat xs t with
   |err c=>rfl
   |ok ys u=>show Rs.ok _ _=Rs.ok _ _;rw[K2]
   exact SA hm _ _ _
theorem Or (p:List Fn)(hm:1≤m)(hmn:m≤n):∀F,Y2 m (Cj p n F) (Cj p m F)
 |0=>⟨fun _ _ _ _=>rfl,fun _ _ _=>rfl⟩
 |F+1=>by
  have ih:=Or p hm hmn F
  refine⟨fun f j xs t=>?_,fun f xs t=>?_⟩
  show(if f=F then _ else _)=((if f=F then _ else _:Rs Sr)).map (DF m)
  split
  exact K4 hm hmn ih _ _ (A7 _) _ _
  exact ih.one f j xs t
  show(if f=F then _ else _)=((if f=F then _ else _:Rs (List Sr))).map (List.map (DF m))
  split
  exact K3 _ (fun e _=>K4 hm hmn ih _ e<|A7 _) _ _
  exact ih.all f xs t
end
theorem Uq (p:List Fn){m n:Nat}(hm:1≤m)(hmn:m≤n)(f:Nat)(a:List Sr):ev p m f (a.map (DF m))=(ev p n f a).map (List.map (DF m)) :=
 K3 _ (fun e _=>K4 hm hmn (Or p hm hmn f) _ e (A7 _)) _ _
theorem SB (p:List Fn){m n:Nat}(hm:1≤m)(hmn:m≤n)(f:Nat)(a:List Sr):FY p m f (a.map (DF m))=FY p n f a:=by unfold FY;rw[Uq p hm hmn];cases ev p n f a <;> rfl
end
def Ur (n:Nat)(r:Rs Sr):Prop:=match r with
 |.ok x s=>Ee n x∧s≤3000
 |.err c=>c=6∨c=7
def XG (n m:Nat)(r:Rs (List Sr)):Prop:=match r with
 |.ok xs s=>xs.length=m∧Fo n xs∧s≤3000
 |.err c=>c=6∨c=7
structure Y3 (p:List Fn)(n F:Nat)(C:Ca):Prop where
 one:∀f j xs t,f<F→j<(p.getD f Fn.zero).outs.length→Fo n xs→((xs.length:Nat):Int)=(p.getD f Fn.zero).params→t≤3000→Ur n (C.one f j xs t)
 all:∀f xs t,f<F→Fo n xs→((xs.length:Nat):Int)=(p.getD f Fn.zero).params→t≤3000→XG n (p.getD f Fn.zero).outs.length (C.all f xs t)
theorem Fo.nil (n:Nat):Fo n []:=fun k hk=>by simp at hk
theorem Fo.cons {n:Nat}{x:Sr}{xs:List Sr}(hx:Ee n x)(h:Fo n xs):Fo n (x::xs):=by
 intro k hk;cases k with
 |zero=>exact hx
 |succ k=>exact h k (by simpa using hk)
theorem QF {n:Nat}{C:Ca}{env:List Sr}:∀(l:List Ex),(∀e∈l,∀s,s≤3000→Ur n (BP n C e env s))→∀s,s≤3000→XG n l.length (Cf n C l env s)
 |[],_,s,hs=>by rw[Cf];exact⟨rfl,Fo.nil n,hs⟩
 |e::l,h,s,hs=>by
  rw[Cf]
  have h1:=h e (z0 ..) s hs
  cases h2:BP n C e env s with
  |err c=>rw[h2]at h1;exact h1
  |ok x t =>
   rw[h2]at h1
   have h3:=QF l (fun e he=>h e<|z3 _ he) t h1.2
   rw[Rs.bind_ok]
   cases h4:Cf n C l env t with
   |err c=>rw[h4]at h3;exact h3
   |ok xs u=>rw[h4]at h3;exact⟨by simp[h3.1],Fo.cons h1.1 h3.2.1,h3.2.2⟩
theorem Tc {p:List Fn}{n F f:Nat}{C:Ca}(hC:Y3 p n F C)(hf:f<F)(ho:(((p.getD f Fn.zero).outs.length:Nat):Int)=(p.getD f Fn.zero).params):∀(k:Nat)(xs:List Sr)(t:Nat),Fo n xs→xs.length=(p.getD f Fn.zero).outs.length→t≤3000→XG n (p.getD f Fn.zero).outs.length (EZ (C.all f) k xs t)
 |0,xs,t,h1,h2,h3=>⟨h2,h1,h3⟩
 |k+1,xs,t,h1,h2,h3=>by
  have h:=Tc hC hf ho k xs t h1 h2 h3
  rw[EZ]
  cases h4:EZ (C.all f) k xs t with
  |err c=>rw[h4]at h;exact h
  |ok ys u=>rw[h4]at h;rw[Rs.bind_ok];exact hC.all f ys u hf h.2.1 (by rw[h.1];exact ho) h.2.2
theorem Vh {n:Nat}{k:Int}{xs:List Sr}{t:Nat}(hx:Fo n xs)(h0:0<xs.length)(ht:t≤3000):Ur n (I0 k xs t):=by have h1:=(hx 0 h0).1;unfold I0;split;exact⟨⟨by rw[Q8];exact h1,MM _ _⟩,ht⟩;split;exact⟨⟨by rw[ML];exact h1,MN _ _⟩,ht⟩;split;exact⟨⟨by rw[Q7];exact h1,MJ _ _⟩,ht⟩;split;exact⟨⟨by rw[Q9];exact h1,Kj _ _⟩,ht⟩;split;exact .inl rfl;exact⟨⟨by rw[MK];exact h1,Ki _ _⟩,ht⟩
theorem QG {p:List Fn}{n F:Nat}{C:Ca}(hC:Y3 p n F C):∀(z:Nat)(e:Ex),e.size≤z→∀(env:List Sr)(s:Nat),wf p ((F:Nat):Int) e ((env.length:Nat):Int)=true→Fo n env→s≤3000→Ur n (BP n C e env s)
 |0,e,h,_,_,_,_,_=>by have:=Bg e;omega
 |z+1,e,h,env,s,hw,he,hs=>by
  obtain⟨w1,w2,w3,w4,w5,w6,w7,w8⟩:=BY (BS hw)
  have hz:∀j,j<e.kids.length→(e.kids.getD j Ex.zero).size≤z:=fun j hj=>by
   have h2:e.kids.getD j Ex.zero∈e.kids:=by rw[GQ hj];exact List.getElem_mem hj
   have:=Bg e;have:=Jd h2;omega
  have hk:∀j,j<e.kids.length→¬(e.kind=9∧j=1)→∀t,t≤3000→Ur n (EB n C e.kids j env t):=fun j hj hn t ht=>by
   rw[Dc _ _ _ _ _ _ hj]
   exact QG hC z _ (hz j hj) env t (C6 hw hj hn) he ht
  rw[CP]
  split
  exact .inr rfl
  rename_i hs3
  split
  rename_i h1;exact⟨EL (Dt.2 (w8 h1)),zO⟩
  split
  rename_i h1 h2;exact⟨he _ (by have:=w2 h2;omega),zO⟩
  split
  rename_i h1 h2 h8
  have h3:=w5 h8
  have hc:=hk 0 zO zO (s+1) zO
  cases h4:EB n C e.kids 0 env (s+1)with
  |err c=>rw[h4]at hc;exact hc
  |ok x t =>
   rw[h4]at hc;rw[Rs.bind_ok]
   split
   exact hk 1 zO zO t hc.2
   exact hk 2 zO zO t hc.2
  split
  rename_i h1 h2 h8 h9
  have h3:=w3 zO
  have hc:=hk 0 zO zO (s+1) zO
  cases h4:EB n C e.kids 0 env (s+1)with
  |err c=>rw[h4]at hc;exact hc
  |ok x t =>
   rw[h4]at hc;rw[Rs.bind_ok,Dc _ _ _ _ _ _ (show 1<e.kids.length by omega)]
   refine QG hC z _ (hz 1 zO) (env++[x]) t ?_ (he.snoc hc.1) hc.2
   have:=FS hw zO h9
   rw[z4,zd];exact this
  rename_i h1 h2 h8 h9
  have hc:=QF (n:=n) (C:=C) (env:=env) e.kids (fun x hx t ht=>by
   obtain⟨j,hj,rfl⟩:=List.mem_iff_getElem.1 hx
   have:=hk j hj zO t ht
   rwa [Dc _ _ _ _ _ _ hj,GQ hj]at this) (s+1) zO
  cases h4:Cf n C e.kids env (s+1)with
  |err c=>rw[h4]at hc;exact hc
  |ok xs t =>
   rw[h4]at hc;rw[Rs.bind_ok]
   obtain⟨c1,c2,c3⟩:=hc
   split
   rename_i h10
   have h6:=w6<|.inl h10
   exact hC.one _ _ xs t zO zO c2 (by rw[c1];exact h6.2.2.1) c3
   split
   rename_i h11
   have h6:=w6 (.inr h11);have h7:=w7 h11
   have hl:=Tc hC (f:=e.num.toNat) zO h7.1 e.count.toNat xs t c2 zO c3
   cases h5:EZ (C.all e.num.toNat) e.count.toNat xs t with
   |err c=>rw[h5]at hl;exact hl
   |ok ys u=>rw[h5]at hl;exact⟨hl.2.1 _ (by rw[hl.1];omega),hl.2.2⟩
   refine Vh c2 ?_ c3
   rw[c1]
   by_cases h7:e.kind=7
   rw[w4 h7];decide
   rw[w3 (by omega)];decide
theorem Td {p:List Fn}(hv:JX p)(n:Nat):∀F,F≤p.length→Y3 p n F (Cj p n F)
 |0,_=>⟨fun f j xs t h=>by omega,fun f xs t h=>by omega⟩
 |F+1,hF=>by
  have ih:=Td hv n F zO
  have hO:∀j xs t,j<(p.getD F Fn.zero).outs.length→Fo n xs→((xs.length:Nat):Int)=(p.getD F Fn.zero).params→t≤3000→Ur n (BP n (Cj p n F) ((p.getD F Fn.zero).outs.getD j Ex.zero) xs t):=fun j xs t h2 h3 h4 h5 =>
   QG ih _ _ (A7 _) xs t (by rw[h4];exact hv.wf F zO j h2) h3 h5
  refine⟨fun f j xs t h1 h2 h3 h4 h5=>?_,fun f xs t h1 h3 h4 h5=>?_⟩
  show Ur n (if f=F then _ else _)
  split
  rename_i e;subst e;exact hO j xs t h2 h3 h4 h5
  exact ih.one f j xs t zO h2 h3 h4 h5
  show XG n _ (if f=F then _ else _)
  split
  rename_i e;subst e
  refine QF _ (fun e he s hs=>?_) t h5
  obtain⟨j,hj,rfl⟩:=List.mem_iff_getElem.1 he
  have:=hO j xs s hj h3 h4 hs
  rwa [GQ hj]at this
  exact ih.all f xs t zO h3 h4 h5
theorem Vi {a b:Sr}(hl:a.length=b.length)(h:∀j,j<a.length→a.getD j 0=b.getD j 0):a=b :=
 List.ext_getElem hl fun j h1 h2=>by have:=h j h1;rwa [GQ h1,GQ h2]at this
theorem Y4 {y z:List Sr}(hl:y.length=z.length)(h:∀j,j<y.length→y.getD j []=z.getD j []):y=z :=
 List.ext_getElem hl fun j h1 h2=>by have:=h j h1;rwa [GQ h1,GQ h2]at this
theorem QH {s:ByteArray}(h:JZ s=true):s.size≤12:=by unfold JZ at h;simp only[z7,decide_eq_true_eq]at h;exact h.1.2
theorem LM.szp {p:List Fn}{pl:Bool}(h:LM p pl):Hb p:=fun k hk=>⟨by have:=h.sz k hk;omega,by have:=h.outs k hk;omega,by have:=QH (h.nm k hk);omega⟩
section
def HO {α:Type}(f:Nat→Rs α)(r:Rs α)(d:Nat):Prop:=∀s,s≤3000→f s=if s+d≤3000 then(match r with|.ok x _=>.ok x (s+d)|.err c=>.err c)else .err 7
def By {α:Type}(f:Nat→Rs α):Prop:=∃r d,HO f r d
theorem HO.bind_err {α β:Type}{f:Nat→Rs α}{c:Int}{d:Nat}(h:HO f (.err c) d)(g:α→Nat→Rs β):HO (fun s=>(f s).bind g) (.err c) d:=by intro s hs;show(f s).bind g=_;rw[h s hs];split <;> rfl
theorem HO.bind_ok {α β:Type}{f:Nat→Rs α}{x:α}{t d:Nat}(h:HO f (.ok x t) d){g:α→Nat→Rs β}{r:Rs β}{e:Nat}(hg:HO (g x) r e):HO (fun s=>(f s).bind g) r (d+e):=by intro s hs;show(f s).bind g=_;rw[h s hs];by_cases h1:s+d≤3000;rw[if_pos h1];show g x (s+d)=_;rw[hg (s+d) h1];by_cases h2:s+d+e≤3000;rw[if_pos h2,if_pos zO,show s+d+e=s+(d+e)from by omega];rw[if_neg h2,if_neg (by omega)];rw[if_neg h1,if_neg (by omega)];rfl
theorem By.bind {α β:Type}{f:Nat→Rs α}(h:By f){g:α→Nat→Rs β}(hg:∀x,By (g x)):By (fun s=>(f s).bind g):=by
 obtain⟨r,d,h⟩:=h;cases r with
 |err c=>exact⟨_,_,h.bind_err g⟩
 |ok x t =>
  obtain⟨r',e,h'⟩:=hg x;exact⟨_,_,h.bind_ok h'⟩
theorem HO.one {α:Type}{f:Nat→Rs α}{r:Rs α}{d:Nat}(h:HO f r d):HO (fun s=>if 3000≤s then .err 7 else f (s+1)) r (1+d):=by intro s hs;show(if 3000≤s then _ else _)=_;by_cases h1:3000≤s;rw[if_pos h1,if_neg (by omega)];rw[if_neg h1,h (s+1) (by omega)];by_cases h2:s+1+d≤3000;rw[if_pos h2,if_pos zO,show s+1+d=s+(1+d)from by omega];rw[if_neg h2,if_neg (by omega)]
theorem By.one {α:Type}{f:Nat→Rs α}(h:By f):By (fun s=>if 3000≤s then .err 7 else f (s+1)):=by obtain⟨r,d,h⟩:=h;exact⟨_,_,h.one⟩
theorem HO.ret {α:Type}(x:α):HO (fun s=>Rs.ok x s) (.ok x 0) 0:=fun s hs=>by rw[if_pos (by omega)];rfl
theorem By.ret {α:Type}(x:α):By (fun s=>Rs.ok x s):=⟨_,_,HO.ret x⟩
theorem By.fail {α:Type}(c:Int):By (fun _=>(Rs.err c:Rs α)):=⟨.err c,0,fun s hs=>by rw[if_pos (by omega)]⟩
theorem By.lop {f:List Sr→Nat→Rs (List Sr)}(hf:∀a,By (f a)):∀(k:Nat)(a:List Sr),By (EZ f k a)
 |0,a=>By.ret a
 |k+1,a=>(By.lop hf k a).bind hf
theorem By.opV (k:Int)(xs:List Sr):By (I0 k xs):=by unfold Go.Proofs.YtlbefjfhfodnlaaGreatDoor.I0;by_cases h3:k=3;simp only[h3,if_true];exact By.ret _;by_cases h4:k=4;simp only[h4];exact By.ret _;by_cases h5:k=5;simp only[h5];exact By.ret _;by_cases h7:k=7;simp only[h7];exact By.ret _;simp only[if_neg h3,if_neg h4,if_neg h5,if_neg h7];by_cases h:(xs.getD 1 []).getD 0 0=0;simp only[h,if_true];exact By.fail 6;simp only[if_neg h];exact By.ret _
def GR (n:Nat) (C:Ca) (e:Ex) (env:List Sr) (t:Nat):Rs Sr :=
  if e.kind = 1 then Rs.ok (cst n e.num) t
        else if e.kind = 2 then .ok (env.getD e.num.toNat []) t
        else if e.kind = 8 then (EB n C e.kids 0 env t).bind fun x t=>if x.getD 0 0 = 0 then EB n C e.kids 1 env t else EB n C e.kids 2 env t
        else if e.kind = 9 then (EB n C e.kids 0 env t).bind fun x t=>EB n C e.kids 1 (env++[x]) t
        else (Cf n C e.kids env t).bind fun xs t =>
          if e.kind = 10 then C.one e.num.toNat e.pick.toNat xs t
          else if e.kind = 11 then (EZ (C.all e.num.toNat) e.count.toNat xs t).bind fun ys u=>.ok (ys.getD e.pick.toNat []) u
          else I0 e.kind xs t
section
variable {n:Nat} {C:Ca}
theorem Gq {env:List Sr}:∀(l:List Ex),(∀e∈l,By (BP n C e env))→By (Cf n C l env)
 |[],_=>by
  have:Cf n C [] env=fun s=>Rs.ok [] s:=funext fun s=>by rw[Cf]
  rw[this];exact By.ret _
 |e::l,h=>by
  have:Cf n C (e::l) env=fun s=>(BP n C e env s).bind fun x t=>(Cf n C l env t).bind fun xs u=>.ok (x::xs) u:=funext fun s=>by rw[Cf]
  rw[this]
  exact (h e (z0 ..)).bind fun x=>(Gq l fun e he=>h e<|z3 _ he).bind fun xs=>By.ret _
theorem Fp {env:List Sr}:∀(l:List Ex)(j:Nat),(∀e∈l,By (BP n C e env))→By (EB n C l j env)
 |[],j,_=>by
  have:EB n C [] j env=fun s=>Rs.err 0:=funext fun s=>by rw[EB]
  rw[this];exact By.fail 0
 |e::l,0,h=>by
  have:EB n C (e::l) 0 env=BP n C e env:=funext fun s=>by rw[EB]
  rw[this];exact h e (z0 ..)
 |e::l,j+1,h=>by
  have:EB n C (e::l) (j+1) env=EB n C l j env:=funext fun s=>by rw[EB]
  rw[this];exact Fp l j fun e he=>h e (z3 _ he)
theorem Je (h1:∀f j a,By (C.one f j a))(h2:∀f a,By (C.all f a)):∀(z:Nat)(e:Ex),e.size≤z→∀env,By (BP n C e env):=by
 intro z
 induction z with
 |zero=>intro e he;have:=Bg e;omega
 |succ z ih =>
  intro e he env;have hk:∀env,∀x∈e.kids,By (BP n C x env):=fun env x hx=>by
   obtain⟨k,hk,rfl⟩:=List.mem_iff_getElem.1 hx;have h3:=Bt (l:=e.kids) (k:=k) hk;have h4:=Bg e;rw[List.getD_eq_getElem?_getD,List.getElem?_eq_getElem hk,Option.getD_some]at h3;exact ih _ zO env
  have hE:BP n C e env=fun s=>if 3000≤s then .err 7 else GR n C e env (s+1):=funext fun s=>CP n C e env s
  rw[hE];refine By.one (f:=GR n C e env) ?_;unfold GR;by_cases k1:e.kind=1;simp only[if_pos k1];exact By.ret _;simp only[if_neg k1];by_cases k2:e.kind=2;simp only[if_pos k2];exact By.ret _;simp only[if_neg k2];by_cases k8:e.kind=8;simp only[if_pos k8];refine (Fp _ _<|hk env).bind fun x=>?_;by_cases hx:x.getD 0 0=0;simp only[if_pos hx];exact Fp _ _ (hk env);simp only[if_neg hx];exact Fp _ _ (hk env);simp only[if_neg k8];by_cases k9:e.kind=9;simp only[if_pos k9];exact (Fp _ _<|hk env).bind fun x=>Fp _ _<|hk _
  simp only[if_neg k9];refine (Gq _<|hk env).bind fun xs=>?_;by_cases k10:e.kind=10;simp only[if_pos k10];exact h1 _ _ _;simp only[if_neg k10];by_cases k11:e.kind=11;simp only[if_pos k11];exact (By.lop (h2 _) _ _).bind fun ys=>By.ret _;simp only[if_neg k11];exact By.opV _ _
end
theorem EG (p:List Fn)(n:Nat):∀F,(∀f j a,By ((Cj p n F).one f j a))∧∀f a,By ((Cj p n F).all f a)
 |0=>⟨fun _ _ _=>By.fail 0,fun _ _=>By.fail 0⟩
 |F+1=>by
  obtain⟨h1,h2⟩:=EG p n F
  refine⟨fun f j a=>?_,fun f a=>?_⟩
  show By (fun s=>if f=F then _ else _)
  by_cases e:f=F
  simp only[if_pos e];exact Je h1 h2 _ _ (A7 _) _
  simp only[if_neg e];exact h1 f j a
  show By (fun s=>if f=F then _ else _)
  by_cases e:f=F
  simp only[if_pos e];exact Gq _ fun x hx=>Je h1 h2 _ _ (A7 _) _
  simp only[if_neg e];exact h2 f a
theorem EH (p:List Fn)(n F:Nat)(e:Ex)(env:List Sr):By (BP n (Cj p n F) e env):=Je (EG p n F).1 (EG p n F).2 _ _ (A7 _) _
theorem Ot (p r:List Fn)(n:Nat):∀F,F≤p.length→Cj (p++r) n F=Cj p n F
 |0,_=>rfl
 |F+1,h=>by
  have h1:=Ot p r n F zO
  have h2:(p++r).getD F Fn.zero=p.getD F Fn.zero:=GD zO
  show(⟨_,_⟩:Ca)=⟨_,_⟩
  rw[h1,h2]
def Hr (p:List Fn)(f:Int)(a:Sr):Int:=if Fy p f=0 then(if (decide (((a.length:Nat):Int)=(p.getD f.toNat Fn.zero).params) && BA a)=true then 0 else 2)else Fy p f
def H0 (p:List Fn)(f:Int)(a:Sr):Int:=if Hr p f a=0 then J2 p f.toNat a else Hr p f a
def UZ (p:List Fn)(f:Int)(a:Sr):Sr:=if Hr p f a=0 then Ol p f.toNat a else []
def Nj (p:List Fn)(f:Int)(a:Sr):Nat:=if Hr p f a=0 then Io p 1 f.toNat (C0 a)else 0
section
variable {p:List Fn} {f:Int} {a:Sr}
theorem QI (h:Hr p f a=0):DW p=true∧(0≤f∧f<((p.length:Nat):Int))∧((a.length:Nat):Int)=(p.getD f.toNat Fn.zero).params∧BA a=true:=by unfold Hr at h;split at h;rename_i h1;split at h;rename_i h2;rw[z7,decide_eq_true_eq]at h2;obtain⟨q1,q2,q3⟩:=MS h1;exact⟨q1,⟨q2,q3⟩,h2.1,h2.2⟩;omega;rename_i h1;exact absurd h h1
theorem QJ (h:Fy p f≠0):Fy p f=Hr p f a:=by unfold Hr;rw[if_neg h]
theorem QK (h:Fy p f=0)(h2:(decide (((a.length:Nat):Int)=(p.getD f.toNat Fn.zero).params) && BA a)=false):2=Hr p f a:=by unfold Hr;rw[if_pos h,h2];rfl
theorem SD (h:Fy p f=0)(h2:(decide (((a.length:Nat):Int)=(p.getD f.toNat Fn.zero).params) && BA a)=true):0=Hr p f a:=by unfold Hr;rw[if_pos h,h2];rfl
theorem Te (h:Hr p f a≠0):H0 p f a=Hr p f a:=if_neg h
theorem Ou (h:Hr p f a≠0):UZ p f a=[]:=if_neg h
theorem Tf (h:Hr p f a≠0):Nj p f a=0:=if_neg h
theorem Kr (h:Hr p f a=0):H0 p f a=J2 p f.toNat a:=if_pos h
theorem Ju (h:Hr p f a=0):UZ p f a=Ol p f.toNat a:=if_pos h
theorem QL (h:Hr p f a=0):Nj p f a=Io p 1 f.toNat (C0 a):=if_pos h
end
end
theorem MW {a b:Sr}{k:Nat}(h:k<a.length):(Ew a b).getD k 0=md (a.getD k 0+b.getD k 0):=D5 0 h
theorem MX {a b:Sr}{k:Nat}(h:k<a.length):(Fk a b).getD k 0=md (a.getD k 0-b.getD k 0):=D5 0 h
theorem Ov {a:Sr}{y:Int}{k:Nat}(h:k<a.length):(EV a y).getD k 0=md (a.getD k 0*y):=D5 0 h
theorem MY {a b:Sr}(h:0<a.length):(DM a b).getD 0 0=md (0+a.getD 0 0*b.getD 0 0):=D5 0 h
theorem Vj {a b:Sr}(h:1<a.length):(DM a b).getD 1 0=md (md (0+a.getD 0 0*b.getD 1 0)+a.getD 1 0*b.getD 0 0):=D5 0 h
theorem QM {a b:Sr}(h:0<a.length):(D9 a b).getD 0 0=md (a.getD 0 0*inv (b.getD 0 0)):=M9 h
theorem Vk {a b:Sr}(h:1<a.length):(D9 a b).getD 1 0=md (md (a.getD 1 0-(D9 a b).getD 0 0*b.getD 1 0)*inv (b.getD 0 0)):=M9 h
section
section ops
variable {P:Program} {ops:Array Oper} {w0:World} {Q:Act→World→Prop} {os:List Oper} {ks:List Nat} {N:Nat} {ρ:Nat→Value} {w:World}
 {d:Nat} {ty:TypeId} {pos:String} {aft:Array Edge} {g:Option (Nat×Bool)} {t e:TypeId} {z:Value} {b s:Nat} {α:Type} {E:C8 α}
theorem Us (hE:D4 s E){x:Operand}{cs:List Value}{y:α}{B U:Nat}(ht:P.underlying t=some (.slice e))(hi:TI P e s z b)(hz:z.cells.size=s)(hs:0<s∧s≤1000)(hx:Bw N ρ x=.agg cs.toArray)(hy:Ce E B U w.heap cs y)
  (hu:Up ops N ρ ⟨some d,.buildSlice t 1 #[(0,x)],ty,pos,aft,g⟩)
  (h:∀v w1,AB w w1→w1.heap.size=w.heap.size+1→Bn (BO s E e) (fun b=>(B≤b∧b<U)∨b=w.heap.size) w1.heap v [y]→LW P ops w0 Q os ks (mk N (CE ρ d v)) w1) :
  LW P ops w0 Q (⟨some d,.buildSlice t 1 #[(0,x)],ty,pos,aft,g⟩::os) (3::ks) (mk N ρ) w:=by
 obtain⟨F,h1,h2,h3⟩:=hy;have hl:=hE.len h1;have hr:=O4 (P:=P) (w:=w) ht hi hs.1 hs.2 hz hl;have hrun:(execOp (Bw N ρ) ⟨some d,.buildSlice t 1 #[(0,x)],ty,pos,aft,g⟩).run P w=.ok (.value (.slice (some ⟨w.heap.size,0,none⟩) 1 1)) (w.alloc (.cells cs.toArray e)):=by
  simp only[execOp,zc,zf,zh,Sem.run_bind,hx,hr,Result.andThen_ok,Sem.run_pure]
 refine GA rfl hu _ _ hrun (BI _ _)<|h _ _ (BI _ _) (by simp) ?_;have hn:=IJ (e:=e) (w:=w) hE (css:=[cs]) (xs:=[y]) (F:=F++[]) (cur:=cs.toArray) (cap:=1) ⟨F,[],rfl,h1,rfl⟩ (by simp) (by simp[maxLen]) (by simp[hl]) (by simp[← hl]);refine⟨_,hn,?_,fun c hc=>?_⟩;rw[List.append_nil,List.nodup_cons];exact⟨fun hm=>by have:=hE.lt h1 _ hm;omega,h2⟩;rcases ze.1 hc with rfl|hc;exact .inr rfl;exact .inl<|h3 c (by simpa using hc)
end ops
theorem Bn.ext {α:Type}{E:BM α}(hE:Cs E){S:Nat→Prop}{w w':World}{v:Value}{x:α}(h:Bn E S w.heap v x)(c:AB w w'):Bn E S w'.heap v x:=by obtain⟨G,h1,h2,h3⟩:=h;exact⟨G,hE.stable h1 fun b hb=>c.heap (hE.lt h1 b hb),h2,h3⟩
structure Vl (p:List Fn)(f pk:Int)(a b:List Int):Prop where
 dr:LM p false
 dn:Dn p
 len:1≤p.length∧p.length≤3
 fe:f=((p.length:Nat):Int)-1
 pk:0≤pk∧pk<(((p.getD f.toNat Fn.zero).outs.length:Nat):Int)
 la:((a.length:Nat):Int)=(p.getD f.toNat Fn.zero).params∧BA a=true
 lb:((b.length:Nat):Int)=(p.getD f.toNat Fn.zero).params∧BA b=true
theorem QN {p:List Fn}{f:Int}{a:Sr}(h:DW p=true)(hf:0≤f∧f<((p.length:Nat):Int))(hl:((a.length:Nat):Int)=(p.getD f.toNat Fn.zero).params)(hn:BA a=true):Hr p f a=0:=by unfold Hr Fy;rw[if_pos h,if_pos (by omega)];rw[if_pos];rw[z7,decide_eq_true_eq];exact⟨hl,hn⟩
theorem Ks {p:List Fn}(hv:JX p){n f:Nat}{a:List Sr}(hf:f<p.length)(ha:Fo n a)(hl:((a.length:Nat):Int)=(p.getD f Fn.zero).params) :
  (∃x s,ev p n f a=.ok x s∧x.length=(p.getD f Fn.zero).outs.length∧Fo n x)∨ev p n f a=.err 6∨ev p n f a=.err 7:=by
 have h:=(Td hv n (f+1) zO).all f a 0 zO ha hl zO;rw[FK (by omega)]at h;have e:ev p n f a=Cf n (Cj p n f) (p.getD f Fn.zero).outs a 0:=rfl;rw[← e]at h;cases h2:ev p n f a with
 |err c =>
  rw[h2]at h;have h:c=6∨c=7:=h;rcases h with rfl|rfl;exact .inr<|.inl rfl;exact .inr<|.inr rfl
 |ok xs s =>
  rw[h2]at h;have h:xs.length=_∧Fo n xs∧s≤3000:=h;exact .inl ⟨xs,s,rfl,h.1,h.2.1⟩
end
def EX (a d:List Int)(n:Nat):List Sr:=DE a.length fun i=>(cst n (a.getD i 0)).set 1 (d.getD i 0)
@[simp] theorem FN (a d:List Int)(n:Nat):(EX a d n).length=a.length:=by simp[EX]
theorem Kt {a d:List Int}{n k:Nat}(h:k<a.length):(EX a d n).getD k []=(cst n (a.getD k 0)).set 1 (d.getD k 0):=D5 [] h
theorem Mf {a d:List Int}{n:Nat}(ha:BA a=true)(hd:BA d=true):Fo n (EX a d n):=fun k hk=>by
 rw[FN]at hk
 rw[Kt hk]
 refine⟨by rw[z6,JW],?_⟩
 have h1:=EL (n:=n)<|Dt.2<|CI ha k
 unfold BA
 rw[zm]
 intro y hy
 rcases List.mem_or_eq_of_mem_set hy with hy|rfl
 have:=h1.2;unfold BA at this;exact zm.1 this y hy
 exact Dt.2<|CI hd k
def Jf (p:List Fn)(f:Int)(a d:Sr):Int:=if Fy p f=0 then(if ((decide (((a.length:Nat):Int)=(p.getD f.toNat Fn.zero).params) && BA a) && (decide (((d.length:Nat):Int)=(p.getD f.toNat Fn.zero).params) && BA d))=true then 0 else 2)else Fy p f
theorem Vm {p:List Fn}{f:Int}{a d:Sr}(h:Jf p f a d=0):DW p=true∧(0≤f∧f<((p.length:Nat):Int))∧(((a.length:Nat):Int)=(p.getD f.toNat Fn.zero).params∧BA a=true)∧((d.length:Nat):Int)=(p.getD f.toNat Fn.zero).params∧BA d=true:=by unfold Jf at h;split at h;rename_i h1;split at h;rename_i h2;simp only[z7,decide_eq_true_eq]at h2;obtain⟨q1,q2,q3⟩:=MS h1;exact⟨q1,⟨q2,q3⟩,h2.1,h2.2⟩;omega;rename_i h1;exact absurd h h1
def Ku (p:List Fn)(f:Nat)(a d:List Int):List Sr:=Kl p 2 f (EX a d 2)
def Ox (p:List Fn)(f:Nat)(a d:List Int):Int:=FY p 2 f (EX a d 2)
theorem SE {H:Array Obj}:Rd (Be rI) H (.slice none 0 0) []:=⟨[],.inl ⟨none,0,rfl,rfl,rfl⟩⟩
theorem Ut (a d:List Int):(EX a d 2).map (DF 1)=C0 a:=by refine Y4 (by rw[zg,FN];unfold C0;rw[zg]) fun k hk=>?_;rw[zg,FN]at hk;rw[Cg (d:=[]) (by rw[FN];exact hk),Kt hk];unfold C0;rw[Cg (d:=0) hk];rfl
theorem Uu (p:List Fn)(f:Nat)(a d:List Int):Ox p f a d=J2 p f a:=by unfold Ox J2;rw[← SB p (A7 1) (show 1≤2 by decide),Ut]
section
mutual
def At (vs:List Int)(c:Int):Ex→Ex
 |.mk k n q d l=>if k=2 then .mk 2 (vs.getD n.toNat 0) 0 0 []else .mk k n q d (Fd (decide (k=9)) vs c 0 l)
def Fd (b:Bool)(vs:List Int)(c:Int):Nat→List Ex→List Ex
 |_,[]=>[]
 |i,e::l=>At (if b=true∧i=1 then vs++[c]else vs) (if b=true∧i=1 then c+1 else c) e::Fd b vs c (i+1) l
end
def XH:Ex:=.mk 1 0 0 0 []
def vr (n:Int):Ex:=.mk 2 n 0 0 []
def J3 (k:Int)(a b:Ex):Ex:=.mk k 0 0 0 [a,b]
mutual
def Am (p:List Fn):List Int→List Int→Int→Ex→Ex
 |vs,ds,c,.mk k n q d l =>
  if k=1 then XH else if k=2 then vr (ds.getD n.toNat 0)
  else if k=3∨k=4 then J3 k (Ey p vs ds c l 0) (Ey p vs ds c l 1)
  else if k=5 then J3 3 (J3 5 (Ey p vs ds c l 0) (At vs c (l.getD 1 Ex.zero))) (J3 5 (At vs c (l.getD 0 Ex.zero)) (Ey p vs ds c l 1))
  else if k=6 then J3 6 (J3 4 (Ey p vs ds c l 0) (J3 5 (J3 6 (At vs c (l.getD 0 Ex.zero)) (At vs c (l.getD 1 Ex.zero))) (Ey p vs ds c l 1))) (At vs c (l.getD 1 Ex.zero))
  else if k=7 then .mk 7 0 0 0 [Ey p vs ds c l 0]
  else if k=8 then .mk 8 0 0 0 [At vs c (l.getD 0 Ex.zero),Ey p vs ds c l 1,Ey p vs ds c l 2]
  else if k=9 then J3 9 (At vs c (l.getD 0 Ex.zero)) (J3 9 (Ey p vs ds (c+1) l 0) (Ey p (vs++[c]) (ds++[c+1]) (c+2) l 1))
  else .mk k (n+((p.length:Nat):Int)) (q+(((p.getD n.toNat Fn.zero).outs.length:Nat):Int)) d (l.map (At vs c)++NB p vs ds c l)
def Ey (p:List Fn):List Int→List Int→Int→List Ex→Nat→Ex
 |_,_,_,[],_=>Ex.zero
 |vs,ds,c,e::_,0=>Am p vs ds c e
 |vs,ds,c,_::l,j+1=>Ey p vs ds c l j
def NB (p:List Fn):List Int→List Int→Int→List Ex→List Ex
 |_,_,_,[]=>[]
 |vs,ds,c,e::l=>Am p vs ds c e::NB p vs ds c l
end
theorem K5 (vs:List Int)(c:Int)(e:Ex):At vs c e=if e.kind=2 then .mk 2 (vs.getD e.num.toNat 0) 0 0 []else .mk e.kind e.num e.pick e.count (Fd (decide (e.kind=9)) vs c 0 e.kids):=by cases e;rw[At];rfl
theorem Ei (b:Bool)(vs:List Int)(c:Int):∀(l:List Ex)(i:Nat),(Fd b vs c i l).length=l.length
 |[],i=>by rw[Fd]
 |e::l,i=>by rw[Fd,z9,z9,Ei b vs c l]
theorem HP (b:Bool)(vs:List Int)(c:Int):∀(l:List Ex)(i j:Nat),j<l.length→(Fd b vs c i l).getD j Ex.zero=At (if b=true∧i+j=1 then vs++[c]else vs) (if b=true∧i+j=1 then c+1 else c) (l.getD j Ex.zero)
 |[],i,j,h=>by simp at h
 |e::l,i,0,_=>by rw[Fd];rfl
 |e::l,i,j+1,h=>by
  rw[Fd,List.getD_cons_succ,List.getD_cons_succ,HP b vs c l (i+1) j (by simpa using h),show i+1+j=i+(j+1)from by omega]
theorem Kv (vs:List Int)(c:Int):∀(l:List Ex)(i:Nat),Fd false vs c i l=l.map (At vs c)
 |[],i=>by rw[Fd];rfl
 |e::l,i=>by rw[Fd,Kv vs c l];simp
theorem D6 (p:List Fn)(vs ds:List Int)(c:Int):∀(l:List Ex)(j:Nat),j<l.length→Ey p vs ds c l j=Am p vs ds c (l.getD j Ex.zero)
 |[],j,h=>by simp at h
 |e::l,0,_=>by rw[Ey];rfl
 |e::l,j+1,h=>by rw[Ey,D6 p vs ds c l j (by simpa using h)];rfl
theorem Ht (p:List Fn)(vs ds:List Int)(c:Int):∀(l:List Ex),NB p vs ds c l=l.map (Am p vs ds c)
 |[]=>by rw[NB];rfl
 |e::l=>by rw[NB,Ht p vs ds c l];rfl
def Dd (p:List Fn)(nm:Nat→ByteArray)(k:Nat):Fn :=
 ⟨nm (p.length+k),2*(p.getD k Fn.zero).params,
  (p.getD k Fn.zero).outs.map (At (DE (p.getD k Fn.zero).params.toNat fun i=>((i:Nat):Int)) (2*(p.getD k Fn.zero).params)) ++
  (p.getD k Fn.zero).outs.map (Am p (DE (p.getD k Fn.zero).params.toNat fun i=>((i:Nat):Int)) (DE (p.getD k Fn.zero).params.toNat fun i=>(p.getD k Fn.zero).params+((i:Nat):Int)) (2*(p.getD k Fn.zero).params))⟩
def BD (p:List Fn)(nm:Nat→ByteArray):List Fn:=p++DE p.length (Dd p nm)
theorem QO (n:Nat)(C:Ca)(k num pick cnt:Int)(l:List Ex)(env:List Sr)(s:Nat):BP n C (.mk k num pick cnt l) env s =
  if 3000≤s then .err 7
  else if k=1 then .ok (cst n num) (s+1)
  else if k=2 then .ok (env.getD num.toNat []) (s+1)
  else if k=8 then(EB n C l 0 env (s+1)).bind fun x t=>if x.getD 0 0=0 then EB n C l 1 env t else EB n C l 2 env t
  else if k=9 then(EB n C l 0 env (s+1)).bind fun x t=>EB n C l 1 (env++[x]) t
  else(Cf n C l env (s+1)).bind fun xs t =>
   if k=10 then C.one num.toNat pick.toNat xs t
   else if k=11 then(EZ (C.all num.toNat) cnt.toNat xs t).bind fun ys u=>.ok (ys.getD pick.toNat []) u
   else I0 k xs t:=by rw[BP]
theorem QP {α:Type}{f:Nat→Rs α}(h:By f){y:α}{s t:Nat}(hs:s≤3000)(he:f s=.ok y t):t≤3000∧∃d,HO f (.ok y 0) d:=by
 obtain⟨r,d,h⟩:=h;have h0:=h s hs;rw[he]at h0;by_cases hd:s+d≤3000;rw[if_pos hd]at h0;cases r with
 |err c=>cases h0
 |ok x u =>
  simp only[Rs.ok.injEq]at h0;obtain⟨rfl,rfl⟩:=h0;exact⟨hd,d,fun s hs=>h s hs⟩
 rw[if_neg hd]at h0;cases h0
def Gr (n:Nat)(C:Ca)(e:Ex)(en:List Sr)(y:Sr):Prop:=∃d,HO (BP n C e en) (.ok y 0) d
def JC (n:Nat)(C:Ca)(l:List Ex)(en:List Sr)(y:List Sr):Prop:=∃d,HO (Cf n C l en) (.ok y 0) d
section
variable {n:Nat} {C:Ca} {en:List Sr} {a b e:Ex} {x y:Sr} {l m:List Ex} {xs ys:List Sr}
theorem HQ {f:Nat→Rs Sr}{d:Nat}(h:HO f (.ok y 0) d)(he:∀s,BP n C e en s=if 3000≤s then .err 7 else f (s+1)):Gr n C e en y:=by
 have:BP n C e en=fun s=>if 3000≤s then .err 7 else f (s+1):=funext he
 exact⟨1+d,by rw[this];exact h.one⟩
theorem Uv:Gr n C XH en (cst n 0):=HQ (f:=fun s=>Rs.ok (cst n 0) s) (HO.ret _) fun s=>by
 rw[CP];simp[XH,Ex.kind,Ex.num]
theorem Uw {i:Int}:Gr n C (vr i) en (en.getD i.toNat []):=HQ (f:=fun s=>Rs.ok (en.getD i.toNat []) s) (HO.ret _) fun s=>by
 rw[CP];simp[vr,Ex.kind,Ex.num]
theorem Kw:JC n C [] en []:=⟨0,by
 have:Cf n C [] en=fun s=>Rs.ok [] s:=funext fun s=>by rw[Cf]
 rw[this];exact HO.ret _⟩
theorem HR (h:Gr n C e en x)(h2:JC n C l en xs):JC n C (e::l) en (x::xs):=by
 obtain⟨d,h⟩:=h;obtain⟨d2,h2⟩:=h2;have:Cf n C (e::l) en=fun s=>(BP n C e en s).bind fun x t=>(Cf n C l en t).bind fun xs u=>.ok (x::xs) u:=funext fun s=>by rw[Cf]
 refine⟨d+(d2+0),?_⟩;rw[this];exact h.bind_ok (g:=fun x t=>(Cf n C l en t).bind fun xs u=>.ok (x::xs) u)<|h2.bind_ok (g:=fun xs u=>.ok (x::xs) u)<|HO.ret _
theorem Mg:∀(l:List Ex)(m:List Ex)(s:Nat),Cf n C (l++m) en s=(Cf n C l en s).bind fun xs t=>(Cf n C m en t).bind fun ys u=>.ok (xs++ys) u
 |[],m,s=>by
  rw[zl,Cf,Rs.bind_ok]
  cases Cf n C m en s <;> rfl
 |e::l,m,s=>by
  rw[List.cons_append,Cf,Cf]
  cases BP n C e en s with
  |err c=>rfl
  |ok x t =>
   rw[Rs.bind_ok,Rs.bind_ok,Mg l m t]
   cases Cf n C l en t with
   |err c=>rfl
   |ok xs u =>
    rw[Rs.bind_ok,Rs.bind_ok,Rs.bind_ok]
    cases Cf n C m en u <;> rfl
theorem QQ (h:JC n C l en xs)(h2:JC n C m en ys):JC n C (l++m) en (xs++ys):=by obtain⟨d,h⟩:=h;obtain⟨d2,h2⟩:=h2;have:Cf n C (l++m) en=fun s=>(Cf n C l en s).bind fun xs t=>(Cf n C m en t).bind fun ys u=>.ok (xs++ys) u:=funext fun s=>Mg l m s;refine⟨d+(d2+0),?_⟩;rw[this];exact h.bind_ok (g:=fun xs t=>(Cf n C m en t).bind fun ys u=>.ok (xs++ys) u)<|h2.bind_ok (g:=fun ys u=>.ok (xs++ys) u)<|HO.ret _
theorem IO {g:List Sr→Nat→Rs Sr}{d:Nat}(h:JC n C e.kids en xs)(hg:HO (g xs) (.ok y 0) d)(he:∀s,BP n C e en s=if 3000≤s then .err 7 else(Cf n C e.kids en (s+1)).bind g):Gr n C e en y:=by obtain⟨d1,h⟩:=h;exact HQ (f:=fun s=>(Cf n C e.kids en s).bind g) (h.bind_ok (g:=g) hg) he
theorem Mh {k:Int}(ha:Gr n C a en x)(hb:Gr n C b en y)(hk:k=3∨k=4∨k=5∨k=6)(h0:k=6→y.getD 0 0≠0) :
  Gr n C (J3 k a b) en (if k=3 then Ew x y else if k=4 then Fk x y else if k=5 then DM x y else D9 x y):=by
 refine IO (e:=J3 k a b) (xs:=[x,y]) (g:=fun xs t=>I0 k xs t) (d:=0) (HR ha<|HR hb Kw) ?_ fun s=>?_;have:I0 k [x,y]=fun t=>Rs.ok (if k=3 then Ew x y else if k=4 then Fk x y else if k=5 then DM x y else D9 x y) t:=funext fun t=>by
  unfold I0;rcases hk with rfl|rfl|rfl|rfl;rfl;rfl;rfl;have:=h0 rfl;simp only[List.getD_cons_succ,List.getD_cons_zero];rw[if_neg (by decide),if_neg (by decide),if_neg (by decide),if_neg (by decide),if_neg this];rfl
 rw[this];exact HO.ret _;rw[CP];show(if 3000≤s then _ else if k=1 then _ else if k=2 then _ else if k=8 then _ else if k=9 then _ else _)=_;rw[if_neg (show ¬k=1 by omega),if_neg (show ¬k=2 by omega),if_neg (show ¬k=8 by omega),if_neg (show ¬k=9 by omega)];by_cases h:3000≤s;rw[if_pos h,if_pos h];rw[if_neg h,if_neg h];congr 1;funext xs t;show(if k=10 then _ else if k=11 then _ else _)=_;rw[if_neg (show ¬k=10 by omega),if_neg (show ¬k=11 by omega)];rfl
theorem Oy (ha:Gr n C a en x)(hb:Gr n C b en y):Gr n C (J3 3 a b) en (Ew x y):=Mh (k:=3) ha hb (by decide) fun h=>by cases h
theorem Oz (ha:Gr n C a en x)(hb:Gr n C b en y):Gr n C (J3 4 a b) en (Fk x y):=Mh (k:=4) ha hb (by decide) fun h=>by cases h
theorem Mi (ha:Gr n C a en x)(hb:Gr n C b en y):Gr n C (J3 5 a b) en (DM x y):=Mh (k:=5) ha hb (by decide) fun h=>by cases h
theorem OA (ha:Gr n C a en x)(hb:Gr n C b en y)(h0:y.getD 0 0≠0):Gr n C (J3 6 a b) en (D9 x y):=Mh (k:=6) ha hb (by decide) fun _=>h0
theorem SF (ha:Gr n C a en x):Gr n C (.mk 7 0 0 0 [a]) en (EV x 1000002):=by refine IO (e:=.mk 7 0 0 0 [a]) (xs:=[x]) (g:=fun xs t=>I0 7 xs t) (d:=0) (HR ha Kw) ?_ fun s=>?_;have:I0 7 [x]=fun t=>Rs.ok (EV x 1000002) t:=funext fun t=>rfl;rw[this];exact HO.ret _;rw[CP];rfl
theorem QR {c:Ex}{z:Sr}(hc:Gr n C c en z)(ha:z.getD 0 0=0→Gr n C a en x)(hb:z.getD 0 0≠0→Gr n C b en x):Gr n C (.mk 8 0 0 0 [c,a,b]) en x:=by
 obtain⟨d,hc⟩:=hc;have he:∀s,BP n C (.mk 8 0 0 0 [c,a,b]) en s=if 3000≤s then .err 7 else(fun s=>(BP n C c en s).bind fun x t=>if x.getD 0 0=0 then BP n C a en t else BP n C b en t) (s+1):=fun s=>by
  rw[CP];show(if 3000≤s then _ else(EB n C [c,a,b] 0 en (s+1)).bind fun x t=>if x.getD 0 0=0 then EB n C [c,a,b] 1 en t else EB n C [c,a,b] 2 en t)=_;simp only[EB]
 by_cases h:z.getD 0 0=0;obtain⟨d2,ha⟩:=ha h;exact HQ (hc.bind_ok (g:=fun x t=>if x.getD 0 0=0 then BP n C a en t else BP n C b en t) (by simp only[if_pos h];exact ha)) he;obtain⟨d2,hb⟩:=hb h;exact HQ (hc.bind_ok (g:=fun x t=>if x.getD 0 0=0 then BP n C a en t else BP n C b en t) (by simp only[if_neg h];exact hb)) he
theorem OB (ha:Gr n C a en y)(hb:Gr n C b (en++[y]) x):Gr n C (J3 9 a b) en x:=by
 obtain⟨d,ha⟩:=ha;obtain⟨d2,hb⟩:=hb;have he:∀s,BP n C (J3 9 a b) en s=if 3000≤s then .err 7 else(fun s=>(BP n C a en s).bind fun x t=>BP n C b (en++[x]) t) (s+1):=fun s=>by
  rw[CP];show(if 3000≤s then _ else(EB n C [a,b] 0 en (s+1)).bind fun x t=>EB n C [a,b] 1 (en++[x]) t)=_;simp only[EB]
 exact HQ (ha.bind_ok (g:=fun x t=>BP n C b (en++[x]) t) hb) he
theorem QS {f j c:Int}{d:Nat}(h:JC n C l en xs)(hc:HO (C.one f.toNat j.toNat xs) (.ok x 0) d):Gr n C (.mk 10 f j c l) en x :=
 IO (e:=.mk 10 f j c l) (g:=fun xs t=>C.one f.toNat j.toNat xs t) h hc fun s=>by rw[CP];rfl
theorem QT {f j c:Int}{d:Nat}(h:JC n C l en xs)(hc:HO (EZ (C.all f.toNat) c.toNat xs) (.ok ys 0) d):Gr n C (.mk 11 f j c l) en (ys.getD j.toNat []) :=
 IO (e:=.mk 11 f j c l) (g:=fun xs t=>(EZ (C.all f.toNat) c.toNat xs t).bind fun ys u=>.ok (ys.getD j.toNat []) u) h (hc.bind_ok (g:=fun ys u=>.ok (ys.getD j.toNat []) u) (HO.ret _)) fun s=>by rw[CP];rfl
end
def LR (m:Nat)(vs:List Int)(en XE:List Sr):Prop:=vs.length=m∧XE.length=m∧∀i,i<m→(0≤vs.getD i 0∧vs.getD i 0<((en.length:Nat):Int))∧en.getD (vs.getD i 0).toNat []=XE.getD i []
theorem LR.more {m:Nat}{vs:List Int}{en XE:List Sr}(h:LR m vs en XE)(y:Sr):LR m vs (en++[y]) XE:=by refine⟨h.1,h.2.1,fun i hi=>?_⟩;obtain⟨q1,q2⟩:=h.2.2 i hi;refine⟨by rw[z4,zd];omega,?_⟩;rw[GD zO,q2]
theorem LR.push {m:Nat}{vs:List Int}{en XE:List Sr}{c:Int}{X:Sr}(h:LR m vs en XE)(hc:0≤c∧c<((en.length:Nat):Int))(hX:en.getD c.toNat []=X):LR (m+1) (vs++[c]) en (XE++[X]):=by refine⟨by simp[h.1],by simp[h.2.1],fun i hi=>?_⟩;by_cases e:i=m;rw[J6 (by rw[h.1];exact e),J6 (by rw[h.2.1];exact e)];exact⟨hc,hX⟩;rw[GD (by rw[h.1];omega),GD (by rw[h.2.1];omega)];exact h.2.2 i zO
theorem LR.new {m:Nat}{vs:List Int}{en XE:List Sr}{c:Int}(h:LR m vs en XE)(hc:c=((en.length:Nat):Int))(x:Sr):LR (m+1) (vs++[c]) (en++[x]) (XE++[x]) :=
 (h.more x).push ⟨zO,by rw[z4,zd];omega⟩ (by subst hc;rw[Int.toNat_natCast];exact J6 rfl)
section
variable {n F:Nat} {C C':Ca} {p:List Fn}
def Vn (F:Nat)(C C':Ca):Prop:=(∀f j a t,f<F→C.one f j a t=C'.one f j a t)∧∀f a t,f<F→C.all f a t=C'.all f a t
theorem Vn.lop {F:Nat}{C C':Ca}(h:Vn F C C'){f:Nat}(hf:f<F)(c:Nat)(a:List Sr)(t:Nat):EZ (C.all f) c a t=EZ (C'.all f) c a t:=by have:C.all f=C'.all f:=funext fun a=>funext fun t=>h.2 f a t hf;rw[this]
theorem Jg (hCC:Vn F C C'):∀(z:Nat)(e:Ex),e.size≤z→∀(m:Nat)(vs:List Int)(c:Int)(en XE:List Sr)(s:Nat),wf p ((F:Nat):Int) e ((m:Nat):Int)=true→LR m vs en XE→c=((en.length:Nat):Int) →
  BP n C (At vs c e) en s=BP n C' e XE s
 |0,e,h,_,_,_,_,_,_,_,_,_=>by have:=Bg e;omega
 |z+1,e,h,m,vs,c,en,XE,s,hw,hr,hc=>by
  obtain⟨w1,w2,w3,w4,w5,w6,w7,w8⟩:=BY (BS hw)
  have hz:∀j,j<e.kids.length→(e.kids.getD j Ex.zero).size≤z:=fun j hj=>by
   have:=Bg e;have:=Bt hj;omega
  rw[K5]
  by_cases k2:e.kind=2
  rw[if_pos k2,QO,CP n C' e]
  have h2:=w2 k2
  have h3:=(hr.2.2 e.num.toNat zO).2
  rw[if_neg (show ¬e.kind=1 by omega),if_pos k2,if_neg (show ¬(2:Int)=1 by decide),if_pos rfl,h3]
  rw[if_neg k2]
  have hk:∀j,j<e.kids.length→¬(e.kind=9∧j=1)→∀t,BP n C ((Fd (decide (e.kind=9)) vs c 0 e.kids).getD j Ex.zero) en t=BP n C' (e.kids.getD j Ex.zero) XE t:=fun j hj hn t=>by
   rw[HP _ _ _ _ _ _ hj,Nat.zero_add,if_neg (by simpa using hn),if_neg (by simpa using hn)]
   exact Jg hCC z _ (hz j hj) m vs c en XE t (C6 hw hj hn) hr hc
  have hK:∀j,j<e.kids.length→¬(e.kind=9∧j=1)→∀t,EB n C (Fd (decide (e.kind=9)) vs c 0 e.kids) j en t=EB n C' e.kids j XE t:=fun j hj hn t=>by
   rw[Dc _ _ _ _ _ _ (by rw[Ei];exact hj),Dc _ _ _ _ _ _ hj];exact hk j hj hn t
  rw[QO,CP n C' e]
  by_cases hs3:3000≤s
  rw[if_pos hs3,if_pos hs3]
  rw[if_neg hs3,if_neg hs3]
  by_cases k1:e.kind=1
  rw[if_pos k1,if_pos k1]
  rw[if_neg k1,if_neg k1,if_neg k2,if_neg k2]
  by_cases k8:e.kind=8
  have h3:=w5 k8
  rw[if_pos k8,if_pos k8,hK 0 zO (by omega)]
  simp only[hK 1 zO zO,hK 2 zO (by omega)]
  rw[if_neg k8,if_neg k8]
  by_cases k9:e.kind=9
  have h3:=w3 zO
  rw[if_pos k9,if_pos k9,hK 0 zO (by omega)]
  congr 1;funext x t
  rw[Dc _ _ _ _ _ _ (by rw[Ei];omega),Dc _ _ _ _ _ _ zO,HP _ _ _ _ _ _ zO,if_pos (by simp[k9]),if_pos (by simp[k9])]
  have:=FS hw zO k9
  exact Jg hCC z _ (hz 1 zO) (m+1) (vs++[c]) (c+1) (en++[x]) (XE++[x]) t (by rw[Int.natCast_add];exact this) (hr.new hc x) (by rw[hc,z4,zd];omega)
  rw[if_neg k9,if_neg k9]
  have hL:∀t,Cf n C (Fd (decide (e.kind=9)) vs c 0 e.kids) en t=Cf n C' e.kids XE t:=fun t=>by
   rw[show decide (e.kind=9)=false from A6 k9,Kv]
   have hl:∀x∈e.kids,∀t,BP n C (At vs c x) en t=BP n C' x XE t:=fun x hx t=>by
    obtain⟨j,hj,rfl⟩:=List.mem_iff_getElem.1 hx
    have:=Jg hCC z _ (hz j hj) m vs c en XE t (C6 hw hj zO) hr hc
    rwa [GQ hj]at this
   clear hk hK hz w3 w4 w5 w6 w7 w8 hw h
   generalize e.kids=l at hl
   induction l generalizing t with
   |nil=>rw[zh,Cf,Cf]
   |cons a l ih =>
    rw[zf,Cf,Cf,hl a (z0 ..)]
    congr 1;funext x u
    rw[ih u fun x hx=>hl x (z3 _ hx)]
  rw[hL]
  congr 1;funext xs u
  by_cases k10:e.kind=10
  have h6:=w6<|.inl k10
  rw[if_pos k10,if_pos k10,hCC.1 _ _ _ _ (by omega)]
  rw[if_neg k10,if_neg k10]
  by_cases k11:e.kind=11
  have h6:=w6<|.inr k11
  rw[if_pos k11,if_pos k11,hCC.lop (by omega)]
  rw[if_neg k11,if_neg k11]
end
structure Tg (K:Nat)(n:Nat→Nat)(nz:Nat)(RD:(Nat→Sr)→Sr→Sr→Prop):Prop where
 congr:∀x y X Y,(∀k,k<K→x k=y k)→RD x X Y→RD y X Y
 zero:∀x X Y,RD x X Y→∀k,k<K→((x k).getD 0 0=0↔X.getD 0 0=0)
 cst:∀c,I8 c=true→RD (fun k=>cst (n k) c) (Go.Proofs.YtlbefjfhfodnlaaGreatDoor.cst nz c) (Go.Proofs.YtlbefjfhfodnlaaGreatDoor.cst nz 0)
 add:∀x X X' y Y Y',RD x X X'→RD y Y Y'→RD (fun k=>Ew (x k) (y k)) (Ew X Y) (Ew X' Y')
 red:∀x X X' y Y Y',RD x X X'→RD y Y Y'→RD (fun k=>Fk (x k) (y k)) (Fk X Y) (Fk X' Y')
 pro:∀x X X' y Y Y',RD x X X'→RD y Y Y'→RD (fun k=>DM (x k) (y k)) (DM X Y) (Ew (DM X' Y) (DM X Y'))
 scl:∀x X X',RD x X X'→RD (fun k=>EV (x k) 1000002) (EV X 1000002) (EV X' 1000002)
 quo:∀x X X' y Y Y',RD x X X'→RD y Y Y'→Y.getD 0 0≠0→RD (fun k=>D9 (x k) (y k)) (D9 X Y) (D9 (Fk X' (DM (D9 X Y) Y')) Y)
def MZ (K:Nat)(RD:(Nat→Sr)→Sr→Sr→Prop)(m:Nat)(xs:Nat→List Sr)(XS YS:List Sr):Prop :=
 (∀k,k<K→(xs k).length=m)∧XS.length=m∧YS.length=m∧∀i,i<m→RD (fun k=>(xs k).getD i []) (XS.getD i []) (YS.getD i [])
section
variable {K:Nat} {n:Nat→Nat} {nz:Nat} {RD:(Nat→Sr)→Sr→Sr→Prop} {p q:List Fn}
theorem MZ.snoc (hD:Tg K n nz RD){m:Nat}{x:Nat→Sr}{X Y:Sr}{xs:Nat→List Sr}{XS YS:List Sr}(h1:RD x X Y)(h:MZ K RD m xs XS YS):MZ K RD (m+1) (fun k=>xs k++[x k]) (XS++[X]) (YS++[Y]):=by refine⟨fun k hk=>by simp[h.1 k hk],by simp[h.2.1],by simp[h.2.2.1],fun i hi=>?_⟩;by_cases e:i=m;rw[J6 (by rw[h.2.1];exact e),J6 (by rw[h.2.2.1];exact e)];exact hD.congr _ _ _ _ (fun k hk=>by rw[J6 (by rw[h.1 k hk];exact e)]) h1;rw[GD (by rw[h.2.1];omega),GD (by rw[h.2.2.1];omega)];exact hD.congr _ _ _ _ (fun k hk=>by rw[GD (by rw[h.1 k hk];omega)])<|h.2.2.2 i zO
end
def Fj {α:Type}(f:Nat→Rs α)(y:α):Prop:=∃s t,s≤3000∧f s=.ok y t
theorem Fj.shf {α:Type}{f:Nat→Rs α}{y:α}(h:Fj f y)(hf:By f):∃d,HO f (.ok y 0) d:=by obtain⟨s,t,hs,he⟩:=h;exact (QP hf hs he).2
theorem Fj.bind {α β:Type}{f:Nat→Rs α}{g:α→Nat→Rs β}{y:β}(h:Fj (fun s=>(f s).bind g) y)(hf:By f):∃x,Fj f x∧Fj (g x) y:=by
 obtain⟨s,t,hs,he⟩:=h;cases hr:f s with
 |err c=>have he:(f s).bind g=_:=he;rw[hr]at he;cases he
 |ok x u =>
  have he:(f s).bind g=_:=he;rw[hr]at he;exact⟨x,⟨s,u,hs,hr⟩,u,t,(QP hf hs hr).1,he⟩
theorem NC {α:Type} [Inhabited α] {K:Nat}{P:Nat→α→Prop}(h:∀k,k<K→∃x,P k x):∃x:Nat→α,∀k,k<K→P k (x k):=by
 classical exact⟨fun k=>if h':k<K then(h k h').choose else default,fun k hk=>by
  show P k (if h':k<K then(h k h').choose else default);rw[dif_pos hk];exact(h k hk).choose_spec⟩
section
variable {n:Nat} {C:Ca} {e:Ex} {en:List Sr} {y:Sr}
theorem Fj.evE (h:Fj (BP n C e en) y):Fj (GR n C e en) y:=by obtain⟨s,t,hs,he⟩:=h;rw[CP]at he;by_cases h3:3000≤s;rw[if_pos h3]at he;cases he;rw[if_neg h3]at he;exact⟨s+1,t,zO,he⟩
theorem K6 (hC:∀e,By (Go.Proofs.YtlbefjfhfodnlaaGreatDoor.BP n C e en)):∀(l:List Ex)(xs:List Sr),Fj (Cf n C l en) xs→xs.length=l.length∧∀i,i<l.length→Fj (Go.Proofs.YtlbefjfhfodnlaaGreatDoor.BP n C (l.getD i Ex.zero) en) (xs.getD i [])
 |[],xs,h=>by
  obtain⟨s,t,hs,he⟩:=h
  rw[Cf]at he
  cases he
  exact⟨rfl,fun i hi=>absurd hi (by simp)⟩
 |a::l,xs,h=>by
  have e1:Cf n C (a::l) en=fun s=>(Go.Proofs.YtlbefjfhfodnlaaGreatDoor.BP n C a en s).bind fun x t=>(Cf n C l en t).bind fun xs u=>.ok (x::xs) u:=funext fun s=>by rw[Cf]
  rw[e1]at h
  obtain⟨x,h1,h2⟩:=h.bind (hC a)
  obtain⟨zsq,h3,h4⟩:=Fj.bind (f:=Cf n C l en) (g:=fun xs u=>.ok (x::xs) u) h2 (Gq l fun e _=>hC e)
  obtain⟨s,t,_,he⟩:=h4
  cases he
  obtain⟨q1,q2⟩:=K6 hC l zsq h3
  refine⟨by rw[z9,z9,q1],fun i hi=>?_⟩
  cases i with
  |zero=>exact h1
  |succ i=>exact q2 i (by simpa using hi)
theorem N0 (hC:∀ e,By (Go.Proofs.YtlbefjfhfodnlaaGreatDoor.BP n C e en)) (h:Fj (Go.Proofs.YtlbefjfhfodnlaaGreatDoor.BP n C e en) y) (h1:e.kind≠1) (h2:e.kind≠2) (h8:e.kind≠8) (h9:e.kind≠9) :
    ∃ xs,(xs.length = e.kids.length∧∀ i,i < e.kids.length→Fj (Go.Proofs.YtlbefjfhfodnlaaGreatDoor.BP n C (e.kids.getD i Ex.zero) en) (xs.getD i [])) ∧
      Fj (fun t=>if e.kind = 10 then C.one e.num.toNat e.pick.toNat xs t
        else if e.kind = 11 then (EZ (C.all e.num.toNat) e.count.toNat xs t).bind fun ys u=>.ok (ys.getD e.pick.toNat []) u
        else I0 e.kind xs t) y:=by
  have hb:=h.evE;have e1 : GR n C e en = fun t => (Cf n C e.kids en t).bind fun xs t => if e.kind = 10 then C.one e.num.toNat e.pick.toNat xs t
        else if e.kind = 11 then (EZ (C.all e.num.toNat) e.count.toNat xs t).bind fun ys u=>.ok (ys.getD e.pick.toNat []) u
        else I0 e.kind xs t:=funext fun t=>by
    unfold GR;rw [if_neg h1,if_neg h2,if_neg h8,if_neg h9]
  rw [e1] at hb;obtain ⟨xs,q1,q2⟩:=hb.bind (Gq _ fun e _=>hC e);exact ⟨xs,K6 hC _ _ q1,q2⟩
theorem OC {k:Int}{xs:List Sr}(h:Fj (I0 k xs) y):(k=3→y=Ew (xs.getD 0 []) (xs.getD 1 []))∧(k=4→y=Fk (xs.getD 0 []) (xs.getD 1 []))∧(k=5→y=DM (xs.getD 0 []) (xs.getD 1 [])) ∧
  (k=7→y=EV (xs.getD 0 []) 1000002)∧(k=6→y=D9 (xs.getD 0 []) (xs.getD 1 [])∧(xs.getD 1 []).getD 0 0≠0):=by
 obtain⟨s,t,_,h⟩:=h;unfold I0 at h;refine⟨?_,?_,?_,?_,?_⟩ <;> intro hk <;> subst hk <;> simp only[Int.reduceEq,if_true,if_false,reduceIte]at h;cases h;rfl;cases h;rfl;cases h;rfl;cases h;rfl;by_cases h0:(xs.getD 1 []).getD 0 0=0;rw[if_pos h0]at h;cases h;rw[if_neg h0]at h;cases h;exact⟨rfl,h0⟩
theorem K7:∀(l:List Ex)(ys:List Sr),ys.length=l.length→(∀i,i<l.length→Gr n C (l.getD i Ex.zero) en (ys.getD i []))→JC n C l en ys
 |[],ys,h,_=>by
  have:ys=[]:=List.eq_nil_of_length_eq_zero h
  subst this;exact Kw
 |a::l,ys,h,hh=>by
  cases ys with
  |nil=>simp at h
  |cons y ys=>exact HR (hh 0 (by simp)) (K7 l ys (by simpa using h) fun i hi=>hh (i+1) (by simpa using hi))
end
theorem CC (p:List Fn)(vs ds:List Int)(c:Int)(e:Ex):Am p vs ds c e =
  if e.kind=1 then XH else if e.kind=2 then vr (ds.getD e.num.toNat 0)
  else if e.kind=3∨e.kind=4 then J3 e.kind (Ey p vs ds c e.kids 0) (Ey p vs ds c e.kids 1)
  else if e.kind=5 then J3 3 (J3 5 (Ey p vs ds c e.kids 0) (At vs c (e.kids.getD 1 Ex.zero))) (J3 5 (At vs c (e.kids.getD 0 Ex.zero)) (Ey p vs ds c e.kids 1))
  else if e.kind=6 then J3 6 (J3 4 (Ey p vs ds c e.kids 0) (J3 5 (J3 6 (At vs c (e.kids.getD 0 Ex.zero)) (At vs c (e.kids.getD 1 Ex.zero))) (Ey p vs ds c e.kids 1))) (At vs c (e.kids.getD 1 Ex.zero))
  else if e.kind=7 then .mk 7 0 0 0 [Ey p vs ds c e.kids 0]
  else if e.kind=8 then .mk 8 0 0 0 [At vs c (e.kids.getD 0 Ex.zero),Ey p vs ds c e.kids 1,Ey p vs ds c e.kids 2]
  else if e.kind=9 then J3 9 (At vs c (e.kids.getD 0 Ex.zero)) (J3 9 (Ey p vs ds (c+1) e.kids 0) (Ey p (vs++[c]) (ds++[c+1]) (c+2) e.kids 1))
  else .mk e.kind (e.num+((p.length:Nat):Int)) (e.pick+(((p.getD e.num.toNat Fn.zero).outs.length:Nat):Int)) e.count (e.kids.map (At vs c)++NB p vs ds c e.kids):=by
 cases e;rw[Am];rfl
structure Y5 (K:Nat)(n:Nat→Nat)(nz:Nat)(RD:(Nat→Sr)→Sr→Sr→Prop)(p:List Fn)(F:Nat)(D:Ca):Prop where
 one:∀f j m xs XS YS x X,f<F→j<(p.getD f Fn.zero).outs.length→MZ K RD m xs XS YS→((m:Nat):Int)=(p.getD f Fn.zero).params →
  (∀k,k<K→Fj ((Cj p (n k) F).one f j (xs k)) (x k))→Fj ((Cj p nz F).one f j XS) X→∃Y d,HO (D.one (p.length+f) ((p.getD f Fn.zero).outs.length+j) (XS++YS)) (.ok Y 0) d∧RD x X Y
 all:∀f m xs XS YS x X,f<F→MZ K RD m xs XS YS→((m:Nat):Int)=(p.getD f Fn.zero).params →
  (∀k,k<K→Fj ((Cj p (n k) F).all f (xs k)) (x k))→Fj ((Cj p nz F).all f XS) X→∃Y d,HO (D.all (p.length+f) (XS++YS)) (.ok (X++Y) 0) d∧MZ K RD (p.getD f Fn.zero).outs.length x X Y
section
variable {K F nz:Nat} {n:Nat→Nat} {RD:(Nat→Sr)→Sr→Sr→Prop} {p q:List Fn} {D:Ca}
theorem MZ.congr (hD:Tg K n nz RD){m:Nat}{xs ys:Nat→List Sr}{XS YS:List Sr}(h:MZ K RD m xs XS YS)(e:∀k,k<K→xs k=ys k):MZ K RD m ys XS YS :=
 ⟨fun k hk=>by rw[← e k hk];exact h.1 k hk,h.2.1,h.2.2.1,fun i hi=>hD.congr _ _ _ _ (fun k hk=>by rw[e k hk]) (h.2.2.2 i hi)⟩
theorem Th (hD:Tg K n nz RD)(hC:Y5 K n nz RD p F D){f:Nat}(hf:f<F)(ho:(((p.getD f Fn.zero).outs.length:Nat):Int)=(p.getD f Fn.zero).params):∀(c:Nat)(xs:Nat→List Sr)(XS YS:List Sr)(x:Nat→List Sr)(X:List Sr),
  MZ K RD (p.getD f Fn.zero).outs.length xs XS YS→(∀k,k<K→Fj (EZ ((Cj p (n k) F).all f) c (xs k)) (x k))→Fj (EZ ((Cj p nz F).all f) c XS) X →
  ∃Y d,HO (EZ (D.all (p.length+f)) c (XS++YS)) (.ok (X++Y) 0) d∧MZ K RD (p.getD f Fn.zero).outs.length x X Y
 |0,xs,XS,YS,x,X,h,hx,hX=>by
  obtain⟨s,t,_,he⟩:=hX
  cases he
  exact⟨YS,0,HO.ret _,h.congr hD fun k hk=>by obtain⟨s,t,_,he⟩:=hx k hk;exact(Rs.ok.inj he).1⟩
 |c+1,xs,XS,YS,x,X,h,hx,hX=>by
  obtain⟨Z,h1,h2⟩:=Fj.bind (f:=EZ ((Cj p nz F).all f) c XS) (g:=(Cj p nz F).all f) hX (By.lop ((EG p nz F).2 f) c XS)
  obtain⟨z,hz⟩:=NC (P:=fun k z=>Fj (EZ ((Cj p (n k) F).all f) c (xs k)) z∧Fj ((Cj p (n k) F).all f z) (x k)) fun k hk=>Fj.bind (f:=EZ ((Cj p (n k) F).all f) c (xs k)) (g:=(Cj p (n k) F).all f) (hx k hk) (By.lop ((EG p (n k) F).2 f) c (xs k))
  obtain⟨W,d,g1,g2⟩:=Th hD hC hf ho c xs XS YS z Z h (fun k hk=>(hz k hk).1) h1
  obtain⟨Y,d2,g3,g4⟩:=hC.all f _ z Z W x X hf g2 ho (fun k hk=>(hz k hk).2) h2
  exact⟨Y,d+d2,g1.bind_ok (g:=D.all (p.length+f)) g3,g4⟩
theorem Vo {k:Int}(w:k=1∨k=2∨k=3∨k=4∨k=5∨k=6∨k=7∨k=8∨k=9∨k=10∨k=11)(h1:¬k=1)(h2:¬k=2)(h7:¬k=7)(h8:¬k=8)(h9:¬k=9)(h10:¬(k=10∨k=11)):k=3∨k=4∨k=5∨k=6:=by omega
theorem Vp {k:Int}(h:k=3∨k=4∨k=5∨k=6):k=3∨k=4∨k=5∨k=6∨k=9:=by omega
theorem Y6 {k:Int}(h:k=3∨k=4∨k=5∨k=6)(h3:¬k=3)(h4:¬k=4)(h5:¬k=5):k=6:=by omega
theorem QU (hD:Tg K n nz RD)(hC:Y5 K n nz RD p F D)(hE:Vn F D (Cj p nz F))(hS:∀e en,By (BP nz D e en)):∀(z:Nat)(e:Ex),e.size≤z→∀(m:Nat)(env:Nat→List Sr)(XE YE en:List Sr)(vs ds:List Int)(c:Int)(x:Nat→Sr)(X:Sr),
  wf p ((F:Nat):Int) e ((m:Nat):Int)=true→MZ K RD m env XE YE→LR m vs en XE→LR m ds en YE→c=((en.length:Nat):Int) →
  (∀k,k<K→Fj (BP (n k) (Cj p (n k) F) e (env k)) (x k))→Fj (BP nz (Cj p nz F) e XE) X→∃Y,Gr nz D (Am p vs ds c e) en Y∧RD x X Y:=by
 intro z
 induction z with
 |zero=>intro e h;have:=Bg e;omega
 |succ z ih =>
  intro e h m env XE YE en vs ds c x X hw hr hv hd hc hx hX;obtain⟨w1,w2,w3,w4,w5,w6,w7,w8⟩:=BY (BS hw);have hz:∀j,j<e.kids.length→(e.kids.getD j Ex.zero).size≤z:=fun j hj=>by
   have:=Bg e;have:=Bt hj;omega
  have hsx:∀k e,By (BP (n k) (Cj p (n k) F) e (env k)):=fun k e=>EH p (n k) F e (env k);have hsX:∀e,By (BP nz (Cj p nz F) e XE):=fun e=>EH p nz F e XE;have hVal:∀j,j<e.kids.length→¬(e.kind=9∧j=1)→∀Z,Fj (BP nz (Cj p nz F) (e.kids.getD j Ex.zero) XE) Z→Gr nz D (At vs c (e.kids.getD j Ex.zero)) en Z:=fun j hj hn Z hZ=>by
   have he:BP nz D (At vs c (e.kids.getD j Ex.zero)) en=BP nz (Cj p nz F) (e.kids.getD j Ex.zero) XE:=funext fun s=>Jg hE z _ (hz j hj) m vs c en XE s (C6 hw hj hn) hv hc;unfold Gr;rw[he];exact hZ.shf (hsX _)
  have hSlp:∀j,j<e.kids.length→¬(e.kind=9∧j=1)→∀y Z,(∀k,k<K→Fj (BP (n k) (Cj p (n k) F) (e.kids.getD j Ex.zero) (env k)) (y k))→Fj (BP nz (Cj p nz F) (e.kids.getD j Ex.zero) XE) Z →
    ∃Y,Gr nz D (Ey p vs ds c e.kids j) en Y∧RD y Z Y:=fun j hj hn y Z hy hZ=>by
   rw[D6 _ _ _ _ _ _ hj];exact ih _ (hz j hj) m env XE YE en vs ds c y Z (C6 hw hj hn) hr hv hd hc hy hZ
  by_cases k1:e.kind=1;rw[CC,if_pos k1];refine⟨_,Uv,?_⟩;have hb:∀ {n C en y},Fj (BP n C e en) y→y=cst n e.num:=fun {n C en y} h=>by
   obtain⟨s,t,_,he⟩:=h.evE;unfold GR at he;rw[if_pos k1]at he;cases he;rfl
  rw[hb hX];exact hD.congr _ _ _ _ (fun k hk=>(hb<|hx k hk).symm)<|hD.cst _<|Dt.2<|w8 k1;by_cases k2:e.kind=2;rw[CC,if_neg k1,if_pos k2];have h2:=w2 k2;refine⟨_,Uw,?_⟩;have hb:∀ {n C en y},Fj (BP n C e en) y→y=en.getD e.num.toNat []:=fun {n C en y} h=>by
   obtain⟨s,t,_,he⟩:=h.evE;unfold GR at he;rw[if_neg k1,if_pos k2]at he;cases he;rfl
  rw[hb hX,(hd.2.2 e.num.toNat zO).2];exact hD.congr _ _ _ _ (fun k hk=>(hb<|hx k hk).symm)<|hr.2.2.2 e.num.toNat zO;by_cases k8:e.kind=8;have h3:=w5 k8;rw[CC,if_neg k1,if_neg k2,if_neg zO,if_neg zO,if_neg zO,if_neg zO,if_pos k8];have hb:∀ {n C en},GR n C e en=fun t=>(BP n C (e.kids.getD 0 Ex.zero) en t).bind fun x t=>if x.getD 0 0=0 then BP n C (e.kids.getD 1 Ex.zero) en t else BP n C (e.kids.getD 2 Ex.zero) en t:=fun {n C en}=>funext fun t=>by
   unfold GR;rw[if_neg k1,if_neg k2,if_pos k8];simp only[Dc _ _ _ _ _ _ (show 0<e.kids.length by omega),Dc _ _ _ _ _ _ (show 1<e.kids.length by omega),Dc _ _ _ _ _ _ (show 2<e.kids.length by omega)]
  have hX2:=hX.evE;rw[hb]at hX2;obtain⟨Z,g1,g2⟩:=hX2.bind (hsX _);obtain⟨y,hy⟩:=NC (P:=fun k y=>Fj (BP (n k) (Cj p (n k) F) (e.kids.getD 0 Ex.zero) (env k)) y∧Fj (fun t=>if y.getD 0 0=0 then BP (n k) (Cj p (n k) F) (e.kids.getD 1 Ex.zero) (env k) t else BP (n k) (Cj p (n k) F) (e.kids.getD 2 Ex.zero) (env k) t) (x k)) fun k hk=>by
   have h9:=(hx k hk).evE;rw[hb]at h9;exact h9.bind<|hsx k _
  obtain⟨Y0,_,hr0⟩:=hSlp 0 zO zO y Z (fun k hk=>(hy k hk).1) g1;have hq:=hD.zero _ _ _ hr0;by_cases h0:Z.getD 0 0=0;simp only[if_pos h0]at g2;obtain⟨Y,r1,r2⟩:=hSlp 1 zO zO x X (fun k hk=>by have h9:=(hy k hk).2;simp only[if_pos ((hq k hk).2 h0)]at h9;exact h9) g2;exact⟨Y,QR (hVal 0 zO zO Z g1) (fun _=>r1) (fun h9=>absurd h0 h9),r2⟩;simp only[if_neg h0]at g2;obtain⟨Y,r1,r2⟩:=hSlp 2 zO zO x X (fun k hk=>by have h9:=(hy k hk).2;simp only[if_neg fun h=>h0 ((hq k hk).1 h)]at h9;exact h9) g2;exact⟨Y,QR (hVal 0 zO zO Z g1) (fun h9=>absurd h9 h0) (fun _=>r1),r2⟩;by_cases k9:e.kind=9;have h3:=w3 zO;rw[CC,if_neg k1,if_neg k2,if_neg zO,if_neg zO,if_neg zO,if_neg zO,if_neg k8,if_pos k9];have hb:∀ {n C en},GR n C e en=fun t=>(BP n C (e.kids.getD 0 Ex.zero) en t).bind fun x t=>BP n C (e.kids.getD 1 Ex.zero) (en++[x]) t:=fun {n C en}=>funext fun t=>by
   unfold GR;rw[if_neg k1,if_neg k2,if_neg k8,if_pos k9];simp only[Dc _ _ _ _ _ _ (show 0<e.kids.length by omega),Dc _ _ _ _ _ _ (show 1<e.kids.length by omega)]
  have hX2:=hX.evE;rw[hb]at hX2;obtain⟨Z,g1,g2⟩:=hX2.bind (hsX _);obtain⟨y,hy⟩:=NC (P:=fun k y=>Fj (BP (n k) (Cj p (n k) F) (e.kids.getD 0 Ex.zero) (env k)) y∧Fj (BP (n k) (Cj p (n k) F) (e.kids.getD 1 Ex.zero) (env k++[y])) (x k)) fun k hk=>by
   have h9:=(hx k hk).evE;rw[hb]at h9;exact h9.bind<|hsx k _
  rw[D6 _ _ _ _ _ _ zO,D6 _ _ _ _ _ _ (by omega)];obtain⟨Y0,s0,r0⟩:=ih _ (hz 0 zO) m env XE YE (en++[Z]) vs ds (c+1) y Z (C6 hw zO zO) hr (hv.more Z) (hd.more Z) (by rw[hc,z4,zd];omega) (fun k hk=>(hy k hk).1) g1;have hw1:=FS hw zO k9;have e1:(en++[Z]).length=en.length+1:=by simp
  obtain⟨Y,s1,r1⟩:=ih _ (hz 1 zO) (m+1) (fun k=>env k++[y k]) (XE++[Z]) (YE++[Y0]) ((en++[Z])++[Y0]) (vs++[c]) (ds++[c+1]) (c+2) x X (by rw[Int.natCast_add];exact hw1) (hr.snoc hD r0)
   ((hv.new hc Z).more Y0) ((hd.more Z).new (by rw[e1];omega) Y0) (by rw[z4,e1,zd];omega) (fun k hk=>(hy k hk).2) g2
  exact⟨Y,OB (hVal 0 zO zO Z g1) (OB s0 s1),r1⟩;obtain⟨XS,⟨gl,gk⟩,go⟩:=N0 hsX hX k1 k2 k8 k9;obtain⟨xs,hxs⟩:=NC (P:=fun k xs=>(xs.length=e.kids.length∧∀i,i<e.kids.length→Fj (BP (n k) (Cj p (n k) F) (e.kids.getD i Ex.zero) (env k)) (xs.getD i [])) ∧
   Fj (fun t=>if e.kind=10 then(Cj p (n k) F).one e.num.toNat e.pick.toNat xs t
    else if e.kind=11 then(EZ ((Cj p (n k) F).all e.num.toNat) e.count.toNat xs t).bind fun ys u=>.ok (ys.getD e.pick.toNat []) u
    else I0 e.kind xs t) (x k)) fun k hk=>N0 (hsx k) (hx k hk) k1 k2 k8 k9
  have hSl:∀j,j<e.kids.length→∃Y,Gr nz D (Ey p vs ds c e.kids j) en Y∧RD (fun k=>(xs k).getD j []) (XS.getD j []) Y:=fun j hj=>hSlp j hj zO _ _ (fun k hk=>(hxs k hk).1.2 j hj) (gk j hj);have hVl:∀j,j<e.kids.length→Gr nz D (At vs c (e.kids.getD j Ex.zero)) en (XS.getD j []):=fun j hj=>hVal j hj zO _ (gk j hj);by_cases hcall:e.kind=10∨e.kind=11;rw[CC,if_neg k1,if_neg k2,if_neg zO,if_neg zO,if_neg zO,if_neg zO,if_neg k8,if_neg k9];have h6:=w6 hcall;obtain⟨Yf,hYf⟩:=NC (K:=e.kids.length) hSl;have hYl:(DE e.kids.length Yf).length=e.kids.length:=by simp[DE]
  have hYg:∀i,i<e.kids.length→(DE e.kids.length Yf).getD i []=Yf i:=fun i hi=>D5 [] hi;have hRL:MZ K RD e.kids.length xs XS (DE e.kids.length Yf):=⟨fun k hk=>(hxs k hk).1.1,gl,hYl,fun i hi=>by rw[hYg i hi];exact(hYf i hi).2⟩;have hrun:JC nz D (e.kids.map (At vs c)++NB p vs ds c e.kids) en (XS++DE e.kids.length Yf):=by
   refine QQ (K7 _ _ (by rw[zg];exact gl) fun i hi=>?_) (K7 _ _ (by rw[Ht,zg];exact hYl) fun i hi=>?_);rw[zg]at hi;rw[Cg (d:=Ex.zero) hi];exact hVl i hi;rw[Ht,zg]at hi;rw[Ht,Cg (d:=Ex.zero) hi,hYg i hi,← D6 p vs ds c _ _ hi];exact(hYf i hi).1
  have en1:(e.num+((p.length:Nat):Int)).toNat=p.length+e.num.toNat:=by omega
  have en2:(e.pick+(((p.getD e.num.toNat Fn.zero).outs.length:Nat):Int)).toNat=(p.getD e.num.toNat Fn.zero).outs.length+e.pick.toNat:=by omega
  rcases hcall with k10|k11;simp only[if_pos k10]at go;obtain⟨Y,d,s1,r1⟩:=hC.one e.num.toNat e.pick.toNat _ xs XS _ x X zO zO hRL h6.2.2.1 (fun k hk=>by have h9:=(hxs k hk).2;simp only[if_pos k10]at h9;exact h9) go;rw[k10];exact⟨Y,QS hrun (by rw[en1,en2];exact s1),r1⟩;have h7:=w7 k11;have hl:e.kids.length=(p.getD e.num.toNat Fn.zero).outs.length:=by omega
  simp only[if_neg (show ¬e.kind=10 by omega),if_pos k11]at go;obtain⟨ZS,o1,o2⟩:=Fj.bind (f:=EZ ((Cj p nz F).all e.num.toNat) e.count.toNat XS) (g:=fun ys u=>.ok (ys.getD e.pick.toNat []) u) go (By.lop ((EG p nz F).2 _) _ _);obtain⟨zsq,hzs⟩:=NC (P:=fun k zsq=>Fj (EZ ((Cj p (n k) F).all e.num.toNat) e.count.toNat (xs k)) zsq∧Fj (fun u=>Rs.ok (zsq.getD e.pick.toNat []) u) (x k)) fun k hk=>by
   have h9:=(hxs k hk).2;simp only[if_neg (show ¬e.kind=10 by omega),if_pos k11]at h9;exact Fj.bind (f:=EZ ((Cj p (n k) F).all e.num.toNat) e.count.toNat<|xs k) (g:=fun ys u=>.ok (ys.getD e.pick.toNat []) u) h9<|By.lop ((EG p (n k) F).2 _) _ _
  rw[hl]at hRL;obtain⟨Y,d,s1,r1⟩:=Th hD hC zO h7.1 e.count.toNat xs XS _ zsq ZS hRL (fun k hk=>(hzs k hk).1) o1;obtain⟨s,t,_,he⟩:=o2;cases he;have hpk:e.pick.toNat<(p.getD e.num.toNat Fn.zero).outs.length:=by omega
  have e9:(ZS++Y).getD ((p.getD e.num.toNat Fn.zero).outs.length+e.pick.toNat) []=Y.getD e.pick.toNat []:=by
   rw[Gj (by rw[r1.2.1];omega),r1.2.1];congr 1;omega
  rw[k11];refine⟨Y.getD e.pick.toNat [],?_,hD.congr _ _ _ _ (fun k hk=>by obtain⟨s,t,_,he⟩:=(hzs k hk).2;exact(Rs.ok.inj he).1) (r1.2.2.2 e.pick.toNat hpk)⟩;have hrl:=QT (f:=e.num+((p.length:Nat):Int)) (j:=e.pick+(((p.getD e.num.toNat Fn.zero).outs.length:Nat):Int)) (c:=e.count) (n:=nz) (C:=D) (ys:=ZS++Y) hrun (by rw[en1];rw[← hl]at s1;exact s1);rw[en2,e9]at hrl;exact hrl;have ho:∀ {C:Ca} {xs:List Sr} {y},Fj (fun t=>if e.kind=10 then C.one e.num.toNat e.pick.toNat xs t
    else if e.kind=11 then(EZ (C.all e.num.toNat) e.count.toNat xs t).bind fun ys u=>.ok (ys.getD e.pick.toNat []) u
    else I0 e.kind xs t) y→Fj (I0 e.kind xs) y:=fun {C xs y} h=>by
   simp only[if_neg (show ¬e.kind=10 by omega),if_neg (show ¬e.kind=11 by omega)]at h;exact h
  obtain⟨o3,o4,o5,o7,o6⟩:=OC (ho go);have hox:∀k,k<K→_:=fun k hk=>OC (ho (hxs k hk).2);by_cases k7:e.kind=7;rw[CC,if_neg k1,if_neg k2,if_neg zO,if_neg zO,if_neg zO,if_pos k7];have h1:=w4 k7;obtain⟨Y,s1,r1⟩:=hSl 0 zO;rw[o7 k7];exact⟨_,SF s1,hD.congr _ _ _ _ (fun k hk=>((hox k hk).2.2.2.1 k7).symm) (hD.scl _ _ _ r1)⟩;have hkd:e.kind=3∨e.kind=4∨e.kind=5∨e.kind=6:=Vo w1 k1 k2 k7 k8 k9 hcall;have h2:=w3<|Vp hkd;obtain⟨Y0,s0,r0⟩:=hSl 0 zO;obtain⟨Y1,s1,r1⟩:=hSl 1 zO;have v0:=hVl 0 zO;have v1:=hVl 1 zO;by_cases k3:e.kind=3;rw[CC,if_neg k1,if_neg k2,if_pos (.inl k3),k3,o3 k3];exact⟨_,Oy s0 s1,hD.congr _ _ _ _ (fun k hk=>((hox k hk).1 k3).symm) (hD.add _ _ _ _ _ _ r0 r1)⟩;by_cases k4:e.kind=4;rw[CC,if_neg k1,if_neg k2,if_pos (.inr k4),k4,o4 k4];exact⟨_,Oz s0 s1,hD.congr _ _ _ _ (fun k hk=>((hox k hk).2.1 k4).symm) (hD.red _ _ _ _ _ _ r0 r1)⟩;by_cases k5:e.kind=5;rw[CC,if_neg k1,if_neg k2,if_neg zO,if_pos k5,o5 k5];exact⟨_,Oy (Mi s0 v1) (Mi v0 s1),hD.congr _ _ _ _ (fun k hk=>((hox k hk).2.2.1 k5).symm) (hD.pro _ _ _ _ _ _ r0 r1)⟩;have k6:e.kind=6:=Y6 hkd k3 k4 k5;rw[CC,if_neg k1,if_neg k2,if_neg zO,if_neg zO,if_pos k6,(o6 k6).1];exact⟨_,OA (Oz s0 (Mi (OA v0 v1 (o6 k6).2) s1)) v1 (o6 k6).2,hD.congr _ _ _ _ (fun k hk=>((hox k hk).2.2.2.2 k6).1.symm) (hD.quo _ _ _ _ _ _ r0 r1 (o6 k6).2)⟩
end
section
variable {K nz:Nat} {n:Nat→Nat} {RD:(Nat→Sr)→Sr→Sr→Prop} {p:List Fn} {nm:Nat→ByteArray}
theorem N1 {k:Nat}(h:k<p.length):(BD p nm).getD k Fn.zero=p.getD k Fn.zero:=GD h
theorem IP {k:Nat}(h:k<p.length):(BD p nm).getD (p.length+k) Fn.zero=Dd p nm k:=by unfold BD;rw[Gj zO,show p.length+k-p.length=k from by omega];exact D5 _ h
theorem N3:(BD p nm).length=2*p.length:=by simp[BD];omega
theorem QV {F G:Nat}(hF:F≤p.length)(hG:F≤G):Vn F (Cj (BD p nm) nz G) (Cj p nz F):=by have e:∀f,f<F→Cj (BD p nm) nz f=Cj p nz f:=fun f hf=>Ot p _ nz f zO;refine⟨fun f j a t hf=>?_,fun f a t hf=>?_⟩;rw[GG zO,GG hf,e f hf,N1 (by omega)];rw[FK zO,FK hf,e f hf,N1 (by omega)]
theorem LR.vals {m:Nat}{P:Int}{XS YS:List Sr}(hP:((m:Nat):Int)=P)(h1:XS.length=m)(h2:YS.length=m):LR m (DE P.toNat fun i=>((i:Nat):Int)) (XS++YS) XS:=by subst hP;rw[Int.toNat_natCast];refine⟨by simp[DE],h1,fun i hi=>?_⟩;rw[D5 _ hi,Int.toNat_natCast];exact⟨by rw[z4];omega,GD zO⟩
theorem LR.slps {m:Nat}{P:Int}{XS YS:List Sr}(hP:((m:Nat):Int)=P)(h1:XS.length=m)(h2:YS.length=m):LR m (DE P.toNat fun i=>P+((i:Nat):Int)) (XS++YS) YS:=by subst hP;rw[Int.toNat_natCast];refine⟨by simp[DE],h2,fun i hi=>?_⟩;rw[D5 _ hi];refine⟨by rw[z4];omega,?_⟩;rw[show(((m:Nat):Int)+((i:Nat):Int)).toNat=m+i from by omega,Gj zO,h1];congr 1;omega
structure XI (K:Nat)(n:Nat→Nat)(nz:Nat)(RD:(Nat→Sr)→Sr→Sr→Prop)(p:List Fn)(nm:Nat→ByteArray)(f:Nat):Prop where
 val:∀j m XS YS X,j<(p.getD f Fn.zero).outs.length→XS.length=m→YS.length=m→((m:Nat):Int)=(p.getD f Fn.zero).params→Fj (BP nz (Cj p nz f) ((p.getD f Fn.zero).outs.getD j Ex.zero) XS) X →
  Gr nz (Cj (BD p nm) nz (p.length+f)) ((Dd p nm f).outs.getD j Ex.zero) (XS++YS) X
 slp:∀j m xs XS YS x X,j<(p.getD f Fn.zero).outs.length→MZ K RD m xs XS YS→((m:Nat):Int)=(p.getD f Fn.zero).params →
  (∀k,k<K→Fj (BP (n k) (Cj p (n k) f) ((p.getD f Fn.zero).outs.getD j Ex.zero) (xs k)) (x k))→Fj (BP nz (Cj p nz f) ((p.getD f Fn.zero).outs.getD j Ex.zero) XS) X →
  ∃Y,Gr nz (Cj (BD p nm) nz (p.length+f)) ((Dd p nm f).outs.getD ((p.getD f Fn.zero).outs.length+j) Ex.zero) (XS++YS) Y∧RD x X Y
theorem QW {f j:Nat}(h:j<(p.getD f Fn.zero).outs.length):(Dd p nm f).outs.getD j Ex.zero=At (DE (p.getD f Fn.zero).params.toNat fun i=>((i:Nat):Int)) (2*(p.getD f Fn.zero).params) ((p.getD f Fn.zero).outs.getD j Ex.zero):=by show(List.map _ _++List.map _ _).getD j Ex.zero=_;rw[GD (by rw[zg];exact h),Cg (d:=Ex.zero) h]
theorem QX {f j:Nat}(h:j<(p.getD f Fn.zero).outs.length):(Dd p nm f).outs.getD ((p.getD f Fn.zero).outs.length+j) Ex.zero =
  Am p (DE (p.getD f Fn.zero).params.toNat fun i=>((i:Nat):Int)) (DE (p.getD f Fn.zero).params.toNat fun i=>(p.getD f Fn.zero).params+((i:Nat):Int)) (2*(p.getD f Fn.zero).params) ((p.getD f Fn.zero).outs.getD j Ex.zero):=by
 show(List.map _ _++List.map _ _).getD _ Ex.zero=_;rw[Gj (by rw[zg];omega),zg,show(p.getD f Fn.zero).outs.length+j-(p.getD f Fn.zero).outs.length=j from by omega,Cg (d:=Ex.zero) h]
theorem N4 (f:Nat):(Dd p nm f).outs.length=(p.getD f Fn.zero).outs.length+(p.getD f Fn.zero).outs.length:=by simp[Dd]
theorem XI.run {f m:Nat}(h:XI K n nz RD p nm f){xs:Nat→List Sr}{XS YS:List Sr}{x:Nat→List Sr}{X:List Sr}(hD:Tg K n nz RD)(hr:MZ K RD m xs XS YS)(hm:((m:Nat):Int)=(p.getD f Fn.zero).params)
  (hx:∀k,k<K→Fj (Cf (n k) (Cj p (n k) f) (p.getD f Fn.zero).outs (xs k)) (x k)) (hX:Fj (Cf nz (Cj p nz f) (p.getD f Fn.zero).outs XS) X) :
  ∃Y,JC nz (Cj (BD p nm) nz (p.length+f)) (Dd p nm f).outs (XS++YS) (X++Y)∧MZ K RD (p.getD f Fn.zero).outs.length x X Y:=by
 obtain⟨g1,g2⟩:=K6 (fun e=>EH p nz f e XS) _ _ hX;have hq:∀k,k<K→_:=fun k hk=>K6 (fun e=>EH p (n k) f e (xs k)) _ _ (hx k hk);obtain⟨Yf,hYf⟩:=NC (K:=(p.getD f Fn.zero).outs.length) fun j hj=>h.slp j m xs XS YS (fun k=>(x k).getD j []) (X.getD j []) hj hr hm (fun k hk=>(hq k hk).2 j hj) (g2 j hj);have hYl:(DE (p.getD f Fn.zero).outs.length Yf).length=(p.getD f Fn.zero).outs.length:=by simp[DE]
 refine⟨DE (p.getD f Fn.zero).outs.length Yf,K7 _ _ (by rw[N4,z4,g1,hYl]) fun i hi=>?_,fun k hk=>(hq k hk).1,g1,hYl,fun i hi=>by rw[D5 [] hi];exact(hYf i hi).2⟩;by_cases hj:i<(p.getD f Fn.zero).outs.length;rw[GD (by omega)];exact h.val i m XS YS _ hj hr.2.1 hr.2.2.1 hm<|g2 i hj;rw[N4]at hi;obtain⟨j,rfl⟩:∃j,i=(p.getD f Fn.zero).outs.length+j:=⟨i-(p.getD f Fn.zero).outs.length,zO⟩;rw[Gj zO,g1,show(p.getD f Fn.zero).outs.length+j-(p.getD f Fn.zero).outs.length=j from by omega,D5 [] (by omega)];exact (hYf j zO).1
theorem Uy (hD:Tg K n nz RD){F:Nat}(hF:F≤p.length)(h:∀f,f<F→XI K n nz RD p nm f):Y5 K n nz RD p F (Cj (BD p nm) nz (p.length+F)):=by
 have e1:∀f j n a,f<F→(Cj p n F).one f j a=BP n (Cj p n f) ((p.getD f Fn.zero).outs.getD j Ex.zero) a:=fun f j n a hf=>funext fun s=>GG hf;have e2:∀f n a,f<F→(Cj p n F).all f a=Cf n (Cj p n f) (p.getD f Fn.zero).outs a:=fun f n a hf=>funext fun s=>FK hf;have e3:∀f j a,f<F→(Cj (BD p nm) nz (p.length+F)).one (p.length+f) j a=BP nz (Cj (BD p nm) nz (p.length+f)) ((Dd p nm f).outs.getD j Ex.zero) a:=fun f j a hf=>funext fun s=>by rw[GG zO,IP (by omega)]
 have e4:∀f a,f<F→(Cj (BD p nm) nz (p.length+F)).all (p.length+f) a=Cf nz (Cj (BD p nm) nz (p.length+f)) (Dd p nm f).outs a:=fun f a hf=>funext fun s=>by rw[FK zO,IP (by omega)]
 refine⟨fun f j m xs XS YS x X hf hj hr hm hx hX=>?_,fun f m xs XS YS x X hf hr hm hx hX=>?_⟩;rw[e1 f j nz XS hf]at hX;obtain⟨Y,⟨d,s1⟩,r1⟩:=(h f hf).slp j m xs XS YS x X hj hr hm (fun k hk=>by have:=hx k hk;rwa [e1 f j (n k) _ hf]at this) hX;exact⟨Y,d,by rw[e3 f _ _ hf];exact s1,r1⟩;rw[e2 f nz XS hf]at hX;obtain⟨Y,⟨d,s1⟩,r1⟩:=(h f hf).run hD hr hm (fun k hk=>by have:=hx k hk;rwa [e2 f (n k) _ hf]at this) hX;exact⟨Y,d,by rw[e4 f _ hf];exact s1,r1⟩
theorem QY (hD:Tg K n nz RD)(hv:JX p):∀N f,f<N→f<p.length→XI K n nz RD p nm f
 |0,f,h,_=>by omega
 |N+1,f,h,hf=>by
  have hC:=Uy (nm:=nm) hD (Nat.le_of_lt hf) fun g hg=>QY hD hv N g zO zO
  have hE:=QV (p:=p) (nm:=nm) (nz:=nz) (F:=f) (G:=p.length+f) zO zO
  refine⟨fun j m XS YS X hj h1 h2 hm hX=>?_,fun j m xs XS YS x X hj hr hm hx hX=>?_⟩
  rw[QW hj]
  have he:BP nz (Cj (BD p nm) nz (p.length+f)) (At (DE (p.getD f Fn.zero).params.toNat fun i=>((i:Nat):Int)) (2*(p.getD f Fn.zero).params) ((p.getD f Fn.zero).outs.getD j Ex.zero)) (XS++YS)=BP nz (Cj p nz f) ((p.getD f Fn.zero).outs.getD j Ex.zero) XS:=funext fun s =>
   Jg hE _ _ (A7 _) m _ _ _ XS s (by rw[hm];exact hv.wf f hf j hj) (LR.vals hm h1 h2) (by rw[z4];omega)
  unfold Gr
  rw[he];exact hX.shf (EH p nz f _ XS)
  rw[QX hj]
  exact QU hD hC hE (fun e en=>EH _ nz _ e en) _ _ (A7 _) m xs XS YS (XS++YS) _ _ _ x X (by rw[hm];exact hv.wf f hf j hj) hr (LR.vals hm hr.2.1 hr.2.2.1) (LR.slps hm hr.2.1 hr.2.2.1) (by rw[z4,hr.2.1,hr.2.2.1];omega) hx hX
end
end
section
structure D1 (x:Nat→Sr)(X Y:Sr):Prop where
 sx:Ee 2 (x 0)
 sX:Ee 1 X
 sY:Ee 1 Y
 v:X.getD 0 0=(x 0).getD 0 0
 d:Y.getD 0 0=(x 0).getD 1 0
theorem D1.all:Tg 1 (fun _=>2) 1 D1 where
 congr:=fun x y X Y h hx=>⟨by rw[← h 0 (by omega)];exact hx.sx,hx.sX,hx.sY,by rw[← h 0 (by omega)];exact hx.v,by rw[← h 0 (by omega)];exact hx.d⟩
 zero:=fun x X Y h k hk=>by
  have:k=0:=by omega
  subst this;rw[h.v]
 cst:=fun c hc=>⟨EL hc,EL hc,EL Vb,rfl,rfl⟩
 add:=fun x X X' y Y Y' hx hy=>⟨Gm hx.sx,Gm hx.sX,Gm hx.sY,by
   rw[MW (by rw[hx.sX.1];decide),MW (by rw[hx.sx.1];decide),hx.v,hy.v],by
   rw[MW (by rw[hx.sY.1];decide),MW (by rw[hx.sx.1];decide),hx.d,hy.d]⟩
 red:=fun x X X' y Y Y' hx hy=>⟨Fx hx.sx,Fx hx.sX,Fx hx.sY,by
   rw[MX (by rw[hx.sX.1];decide),MX (by rw[hx.sx.1];decide),hx.v,hy.v],by
   rw[MX (by rw[hx.sY.1];decide),MX (by rw[hx.sx.1];decide),hx.d,hy.d]⟩
 pro:=fun x X X' y Y Y' hx hy=>⟨Gn hx.sx,Gn hx.sX,Gm (Gn hx.sY),by
   rw[MY (by rw[hx.sX.1];decide),MY (by rw[hx.sx.1];decide),hx.v,hy.v],by
   rw[MW (by rw[(Gn hx.sY).1];decide),MY (by rw[hx.sY.1];decide),MY (by rw[hx.sX.1];decide),Vj (by rw[hx.sx.1];decide),hx.v,hy.v,hx.d,hy.d,O5,M5,O5]
   congr 1;omega⟩
 scl:=fun x X X' hx=>⟨Hp hx.sx,Hp hx.sX,Hp hx.sY,by
   rw[Ov (by rw[hx.sX.1];decide),Ov (by rw[hx.sx.1];decide),hx.v],by
   rw[Ov (by rw[hx.sY.1];decide),Ov (by rw[hx.sx.1];decide),hx.d]⟩
 quo:=fun x X X' y Y Y' hx hy h0=>by
  have hq:(D9 X Y).getD 0 0=(D9 (x 0) (y 0)).getD 0 0:=by rw[QM (by rw[hx.sX.1];decide),QM (by rw[hx.sx.1];decide),hx.v,hy.v]
  refine⟨Gp hx.sx,Gp hx.sX,Gp (Fx hx.sY),hq,?_⟩
  rw[QM (by rw[(Fx hx.sY).1];decide),MX (by rw[hx.sY.1];decide),MY (by rw[(Gp hx.sX).1];decide),Vk (by rw[hx.sx.1];decide),hq,hx.d,hy.d,hy.v,Int.zero_add,JQ]
section
variable {p:List Fn} {nm:Nat→ByteArray} {f:Nat} {a d:List Int}
theorem Uz {k:Nat}(h:k<a.length):((EX a d 2).getD k []).getD 0 0=a.getD k 0∧((EX a d 2).getD k []).getD 1 0=d.getD k 0:=by rw[Kt h];exact⟨rfl,rfl⟩
theorem OD {k:Nat}(h:k<a.length):(C0 a).getD k []=[a.getD k 0]:=by unfold C0;rw[Cg (d:=0) h]
theorem QZ:C0 (a++d)=C0 a++C0 d:=by unfold C0;rw[List.map_append]
theorem OE {x:Int}(h:I8 x=true):Ee 1 [x]:=⟨rfl,by unfold BA;simpa using h⟩
theorem UA (ha:BA a=true)(hd:BA d=true)(hl:d.length=a.length):MZ 1 D1 a.length (fun _=>EX a d 2) (C0 a) (C0 d):=by refine⟨fun _ _=>FN a d 2,by simp[C0],by simp[C0,hl],fun i hi=>?_⟩;rw[OD hi,OD (by omega)];have h2:=Uz (a:=a) (d:=d) hi;exact⟨Mf ha hd i (by rw[FN];exact hi),OE (Dt.2 (CI ha i)),OE (Dt.2 (CI hd i)),h2.1.symm,h2.2.symm⟩
theorem R0 (hv:JX p)(hf:f<p.length){m n:Nat}{XS YS:List Sr}(h1:XS.length=m)(h2:YS.length=m)(hm:((m:Nat):Int)=(p.getD f Fn.zero).params)(s:Nat) :
  ∃l,Cf n (Cj (BD p nm) n (p.length+f)) (Dd p nm f).outs (XS++YS) s=(Cf n (Cj p n f) (p.getD f Fn.zero).outs XS s).bind fun X t=>(Cf n (Cj (BD p nm) n (p.length+f)) l (XS++YS) t).bind fun Y u=>.ok (X++Y) u:=by
 refine⟨(p.getD f Fn.zero).outs.map (Am p (DE (p.getD f Fn.zero).params.toNat fun i=>((i:Nat):Int)) (DE (p.getD f Fn.zero).params.toNat fun i=>(p.getD f Fn.zero).params+((i:Nat):Int)) (2*(p.getD f Fn.zero).params)),?_⟩;refine (Mg _ _ s).trans ?_;congr 1;have hE:=QV (p:=p) (nm:=nm) (nz:=n) (F:=f) (G:=p.length+f) zO zO;have hl:∀x∈(p.getD f Fn.zero).outs,∀t,BP n (Cj (BD p nm) n (p.length+f)) (At (DE (p.getD f Fn.zero).params.toNat fun i=>((i:Nat):Int)) (2*(p.getD f Fn.zero).params) x) (XS++YS) t=BP n (Cj p n f) x XS t:=fun x hx t=>by
  obtain⟨j,hj,rfl⟩:=List.mem_iff_getElem.1 hx;have hw:=hv.wf f hf j hj;rw[GQ hj,← hm]at hw;exact Jg hE _ _ (A7 _) m _ _ _ XS t hw (LR.vals hm h1 h2) (by rw[z4];omega)
 generalize (p.getD f Fn.zero).outs=l at hl
 induction l generalizing s with
 |nil=>rw[zh,Cf,Cf]
 |cons a l ih =>
  rw[zf,Cf,Cf,hl a (z0 ..)];congr 1;funext x u;rw[ih u fun x hx=>hl x (z3 _ hx)]
theorem SG (hv:JX p)(hf:f<p.length)(hla:((a.length:Nat):Int)=(p.getD f Fn.zero).params)(hld:d.length=a.length)(ha:BA a=true)(hd:BA d=true) :
  (J2 p f a≠0→J2 (BD p nm) (p.length+f) (a++d)=J2 p f a) ∧
  (J2 p f a=0→J2 (BD p nm) (p.length+f) (a++d)=7∨(J2 (BD p nm) (p.length+f) (a++d)=0 ∧
   Ol (BD p nm) (p.length+f) (a++d)=(Ku p f a d).map (fun s=>s.getD 0 0)++(Ku p f a d).map (fun s=>s.getD 1 0))):=by
 have eq:ev (BD p nm) 1 (p.length+f) (C0 (a++d))=Cf 1 (Cj (BD p nm) 1 (p.length+f)) (Dd p nm f).outs (C0 a++C0 d) 0:=by
  unfold ev;rw[IP hf,QZ]
 have hR:=UA ha hd hld;have hlx:(((C0 a).length:Nat):Int)=(p.getD f Fn.zero).params:=by unfold C0;rw[zg];exact hla
 refine⟨fun h=>?_,fun h=>?_⟩;obtain⟨l,hl⟩:=R0 (nm:=nm) (n:=1) hv hf (m:=a.length) (XS:=C0 a) (YS:=C0 d) hR.2.1 hR.2.2.1 hla 0;rcases Ks hv hf (Hq ha) hlx with⟨x,s,h1,h2,h3⟩|h1|h1;exact absurd (LH h1) h;unfold J2;rw[FL h1];refine FL ?_;rw[eq,hl];have h1':Cf 1 (Cj p 1 f) (p.getD f Fn.zero).outs (C0 a) 0=.err 6:=h1;rw[h1'];rfl;unfold J2;rw[FL h1];refine FL ?_;rw[eq,hl];have h1':Cf 1 (Cj p 1 f) (p.getD f Fn.zero).outs (C0 a) 0=.err 7:=h1;rw[h1'];rfl;rcases Ks hv hf (Hq ha) hlx with⟨X,s,h1,h2,h3⟩|h1|h1;have hc:Ox p f a d=0:=by rw[Uu];exact h
 rcases Ks hv (n:=2) (a:=EX a d 2) hf (Mf ha hd) (by rw[FN];exact hla)with⟨x,t,g1,g2,g3⟩|g1|g1;obtain⟨Y,⟨dd,s1⟩,r1⟩:=(QY (nm:=nm) D1.all hv (f+1) f zO hf).run D1.all hR hla (x:=fun _=>x) (X:=X) (fun k _=>⟨0,t,zO,g1⟩) ⟨0,s,zO,h1⟩;have e0:=s1 0 zO;have hx:Ku p f a d=x:=LG g1;by_cases h7:0+dd≤3000;rw[if_pos h7]at e0;refine .inr ⟨LH<|eq.trans e0,?_⟩;unfold Ol;rw[LG (eq.trans e0),List.map_append,hx];have l1:=r1.1 0 zO;congr 1;refine Vi (by rw[zg,zg,r1.2.1,l1]) fun k hk=>?_;rw[zg,r1.2.1]at hk;rw[Cg (d:=[]) (by rw[r1.2.1];exact hk),Cg (d:=[]) (by rw[l1];exact hk)];exact (r1.2.2.2 k hk).v;refine Vi (by rw[zg,zg,r1.2.2.1,l1]) fun k hk=>?_;rw[zg,r1.2.2.1]at hk;rw[Cg (d:=[]) (by rw[r1.2.2.1];exact hk),Cg (d:=[]) (by rw[l1];exact hk)];exact (r1.2.2.2 k hk).d;rw[if_neg h7]at e0;exact .inl<|FL<|eq.trans e0;have:Ox p f a d=6:=FL g1;omega;have:Ox p f a d=7:=FL g1;omega;have:J2 p f a=6:=FL h1;omega;have:J2 p f a=7:=FL h1;omega
end
end
section
section ops
variable {P:Program} {ops:Array Oper} {w0:World} {Q:Act→World→Prop} {os:List Oper} {ks:List Nat} {N:Nat} {ρ:Nat→Value} {w:World}
 {d:Nat} {ty:TypeId} {pos:String} {aft:Array Edge} {g:Option (Nat×Bool)} {t e:TypeId} {α:Type} {E:C8 α} {s:Nat}
theorem R1 {b:Nat}{z a0 a1 a2 a3 a4 b0 b1 b2 b3 b4:Value}(ht:P.underlying t=some (.slice e))(hi:TI P e 5 z b)(hz:z.cells.size=5) :
  (Instr.buildSlice t 2 #[(0,.agg #[a0,a1,a2,a3,a4]),(1,.agg #[b0,b1,b2,b3,b4])]).run P w=.ok (.slice (some ⟨w.heap.size,0,none⟩) 2 2) (w.alloc (.cells #[a0,a1,a2,a3,a4,b0,b1,b2,b3,b4] e)):=by
 obtain⟨i,h1,h2,h3,h4⟩:=hi.get;simp[Instr.buildSlice,Sem.run_bind,run_underlying ht,Result.andThen_ok,sizeOf,typeInfo,zeroValue,h1,h2,h3,Instr.fill,hz,Sem.run_pure,newRow,Value.cells,Hk,List.range_succ]
theorem R2 {x0 x1:Operand}{va vb z:Value}{xa xb:Ex}{b:Nat}(ht:P.underlying t=some (.slice e))(hi:TI P e 5 z b)(hz:z.cells.size=5)(h0:Bw N ρ x0=.agg (C3 xa va).toArray)(h1:Bw N ρ x1=.agg (C3 xb vb).toArray)
  (hu:Up ops N ρ ⟨some d,.buildSlice t 2 #[(0,x0),(1,x1)],ty,pos,aft,g⟩)
  (h:∀v w1,AB w w1→w1.heap.size=w.heap.size+1→Cv v 2→(∀dd Fa Fb,C2 e dd w.heap (C3 xa va) xa Fa→C2 e dd w.heap (C3 xb vb) xb Fb→Fa.Nodup→Fb.Nodup→(∀c∈Fa,c∉Fb) →
   ∃F',BO 5 (C2 e dd) e w1.heap v [xa,xb] F'∧F'.Nodup∧∀c∈F',c∈Fa∨c∈Fb∨c=w.heap.size)→LW P ops w0 Q os ks (mk N (CE ρ d v)) w1) :
  LW P ops w0 Q (⟨some d,.buildSlice t 2 #[(0,x0),(1,x1)],ty,pos,aft,g⟩::os) (3::ks) (mk N ρ) w:=by
 have hr:=R1 (P:=P) (w:=w) (a0:=.int .i64 xa.kind) (a1:=.int .i64 xa.num) (a2:=.int .i64 xa.pick) (a3:=.int .i64 xa.count) (a4:=va) (b0:=.int .i64 xb.kind) (b1:=.int .i64 xb.num) (b2:=.int .i64 xb.pick) (b3:=.int .i64 xb.count) (b4:=vb) ht hi hz;have hrun:(execOp (Bw N ρ) ⟨some d,.buildSlice t 2 #[(0,x0),(1,x1)],ty,pos,aft,g⟩).run P w=.ok (.value (.slice (some ⟨w.heap.size,0,none⟩) 2 2)) (w.alloc (.cells (C3 xa va++C3 xb vb).toArray e)):=by
  simp only[execOp,zc,zf,zh,Sem.run_bind,h0,h1];unfold C3;rw[hr];rfl
 refine GA rfl hu _ _ hrun (BI _ _) (h _ _ (BI _ _) (by simp) ⟨_,_,rfl,fun h=>by cases h⟩ fun dd Fa Fb ha hb na nb hd=>?_);have hn:=IJ (e:=e) (w:=w) (Ag e dd) (css:=[C3 xa va,C3 xb vb]) (xs:=[xa,xb]) (F:=Fa++(Fb++[])) (cur:=(C3 xa va++C3 xb vb).toArray) (cap:=2) ⟨Fa,_,rfl,ha,Fb,[],rfl,hb,rfl⟩ (by simp) (by simp[maxLen]) (by simp[C3]) (by simp[C3]);rw[List.append_nil]at hn;have la:=(Ag e dd).lt ha;have lb:=(Ag e dd).lt hb;refine⟨_,hn,?_,fun c hc=>?_⟩;rw[List.nodup_cons];refine⟨fun hm=>?_,List.nodup_append.2 ⟨na,nb,fun a h9 c h8 he=>hd a h9 (he ▸ h8)⟩⟩;rcases zi.1 hm with h9|h9;have:=la _ h9;omega;have:=lb _ h9;omega;rcases ze.1 hc with rfl|hc;exact .inr<|.inr rfl;rcases zi.1 hc with h9|h9;exact .inl h9;exact .inr<|.inl h9
end ops
theorem SH {e:TypeId}{w r w1 w':World}{g:Nat}{v va vb:Value}{xa xb:Ex}(h0:AB w r)
  (hq:∀dd Fa Fb,C2 e dd r.heap (C3 xa va) xa Fa→C2 e dd r.heap (C3 xb vb) xb Fb→Fa.Nodup→Fb.Nodup→(∀c∈Fa,c∉Fb)→∃F',BO 5 (C2 e dd) e w1.heap v [xa,xb] F'∧F'.Nodup∧∀c∈F',c∈Fa∨c∈Fb∨c=r.heap.size)
  (hC:AG [g] w1 w') (hg:w.heap.size≤g∧g<r.heap.size) :
  ∀dd Fa Fb,C2 e dd w.heap (C3 xa va) xa Fa→C2 e dd w.heap (C3 xb vb) xb Fb→Fa.Nodup→Fb.Nodup→(∀c∈Fa,c∉Fb)→∃F',BO 5 (C2 e dd) e w'.heap v [xa,xb] F'∧F'.Nodup∧∀c∈F',c∈Fa∨c∈Fb∨w.heap.size≤c:=by
 intro dd Fa Fb ha hb na nb hd;have la:=(Ag e dd).lt ha;have lb:=(Ag e dd).lt hb;obtain⟨F',q1,q2,q3⟩:=hq dd Fa Fb ((Ag e dd).stable ha fun b h=>h0.heap (la b h)) ((Ag e dd).stable hb fun b h=>h0.heap (lb b h)) na nb hd;have hlt:=(Ae<|Ag e dd).lt q1;have hs:=h0.size;refine⟨F',(Ae (Ag e dd)).stable q1 fun b h=>hC.block b (hlt b h) fun hm=>?_,q2,fun c hc=>?_⟩;have hb9:=A9 hm;rcases q3 b h with h9|h9|h9;have:=la b h9;omega;have:=lb b h9;omega;omega;rcases q3 c hc with h9|h9|h9;exact .inl h9;exact .inr<|.inl h9;exact .inr<|.inr zO
theorem UB {e:TypeId}{dd B Ba Ua Bb Ub:Nat}{w w1:World}{v:Value}{ca cb:List Value}{xa xb:Ex}
  (hq:∀Fa Fb,C2 e dd w.heap ca xa Fa→C2 e dd w.heap cb xb Fb→Fa.Nodup→Fb.Nodup→(∀c∈Fa,c∉Fb)→∃F',BO 5 (C2 e dd) e w1.heap v [xa,xb] F'∧F'.Nodup∧∀c∈F',c∈Fa∨c∈Fb∨w.heap.size≤c)
  (ha:Ce (C2 e dd) Ba Ua w.heap ca xa) (hb:Ce (C2 e dd) Bb Ub w.heap cb xb) (hd:Ua≤Bb∨Ub≤Ba) (h1:B≤Ba) (h2:B≤Bb) (h3:B≤w.heap.size):Fr (BO 5 (C2 e dd) e) B w1.heap.size w1.heap v [xa,xb]:=by
 obtain⟨Fa,a1,a2,a3⟩:=ha;obtain⟨Fb,b1,b2,b3⟩:=hb;obtain⟨F',q1,q2,q3⟩:=hq Fa Fb a1 b1 a2 b2 fun c hc hm=>by have:=a3 c hc;have:=b3 c hm;omega
 refine⟨F',q1,q2,fun c hc=>⟨?_,(Ae (Ag e dd)).lt q1 c hc⟩⟩;rcases q3 c hc with h9|h9|h9;have:=a3 c h9;omega;have:=b3 c h9;omega;omega
theorem Bn.mono {α β:Type}{E:Array Obj→β→α→List Nat→Prop}{S S':Nat→Prop}{H:Array Obj}{v:β}{x:α}(h:Bn E S H v x)(k:∀b,S b→S' b):Bn E S' H v x:=by obtain⟨F,h1,h2,h3⟩:=h;exact⟨F,h1,h2,fun b hb=>k b (h3 b hb)⟩
end
structure Z8 where
 op:Int
 a:Int
 b:Int
 num:Int
def HS (x:Z8):List Value:=[.int .i64 x.op,.int .i64 x.a,.int .i64 x.b,.int .i64 x.num]
section
section ops
variable {P:Program} {ops:Array Oper} {w0:World} {Q:Act→World→Prop} {os:List Oper} {ks:List Nat} {N:Nat} {ρ:Nat→Value} {w:World}
 {d:Nat} {ty:TypeId} {pos:String} {aft:Array Edge} {g:Option (Nat×Bool)} {t e:TypeId} {z:Value} {b:Nat}
theorem ND {x y:Operand} {v a:Value} {xs:List Int} {r:Int} {B' U':Nat} (ht:P.underlying t = some (.slice e)) (hi:TI P e 1 z b) (hz:z.cells = #[z]) (hx:Bw N ρ x = DJ v) (hy:Bw N ρ y = a)
  (hv:Rd (Be rI) w.heap v xs) (ha:Fr (BH rI e) B' U' w.heap a [r]) (hbytes:(xs.length + 1) * b≤140737488355328) (hmx:xs.length + 1≤maxLen)
  (hu:Up ops N ρ ⟨some d,.call ⟨.builtin .append,#[x,y],#[t,t]⟩,ty,pos,aft,g⟩)
  (h:∀ v1 w1,AB w w1→Fr (BH rI e) w.heap.size w1.heap.size w1.heap v1 (xs++[r])→LW P ops w0 Q os ks (mk N (CE ρ d v1)) w1) :
  LW P ops w0 Q (⟨some d,.call ⟨.builtin .append,#[x,y],#[t,t]⟩,ty,pos,aft,g⟩ :: os) (3 :: ks) (mk N ρ) w:=by
 obtain ⟨G,g1',g2',g3'⟩:=ha;obtain ⟨K,k1⟩:=hv;obtain ⟨i,h1,h2,h3,h4⟩:=hi.get;subst h4;rcases g1' with ⟨_,hc,_⟩ | ⟨asq,ga,capa,cura,Fa,helsa,hav,hga,qa1,qa2,qa3,qa4,rfl⟩;cases hc;obtain ⟨u,rfl,hru⟩:∃ u,asq = [u]∧rI w.heap u r []:=by
  match asq,helsa with
  | [u],h =>
   obtain ⟨F1,F2,rfl,q1,q2⟩:=h;have h1:=q1.2.1;subst h1;exact ⟨u,rfl,q1⟩
 have hav1:a = .slice (some ⟨ga,0,none⟩) 1 capa:=hav;clear hav;subst hav1;have hnews:∀ j q,[u][j]? = some q→w.cell? ((⟨ga,0,none⟩:Addr).add j) = some q:=by
  intro j q hj;rw [EY,BQ];simp only [Cr,hga];rw [← qa4,List.getElem?_take] at hj;split at hj;simpa using hj;cases hj
 have made:∀ (w1:World) (ous:List Value) (K0:List Nat) (rest:Nat),w1.heap = w.heap→w1.os = w.os→w1.tape = w.tape→w1.output = w.output→els rI w.heap ous xs K0→xs.length + 1 + rest≤maxLen →
   AB w (w1.alloc (.cells (ous.toArray++[u].toArray++Builtin.zeroCells z.cells rest) e))∧Fr (BH rI e) w.heap.size (w1.alloc (.cells (ous.toArray++[u].toArray++Builtin.zeroCells z.cells rest) e)).heap.size (w1.alloc (.cells (ous.toArray++[u].toArray++Builtin.zeroCells z.cells rest) e)).heap (.slice (some ⟨w.heap.size,0,none⟩) (xs.length + 1) (xs.length + 1 + rest)) (xs++[r]):=by
  intro w1 ous K0 rest hh ho htp hop hou hmax;have hE:AB w (w1.alloc (.cells (ous.toArray++[u].toArray++Builtin.zeroCells z.cells rest) e)):=by
   refine ⟨ho,htp,hop,?_,fun k hk=>?_⟩;show w.heap.size≤(w1.heap.push _).size;rw [hh]; simp;have:=Below.heap_alloc w1 (.cells (ous.toArray++[u].toArray++Builtin.zeroCells z.cells rest) e) k (by rw [hh]; exact hk);rw [this,hh]
  have hK0:K0 = []:=Ke hou;subst hK0;have hl:=hou.length;have hels2:els rI w.heap (ous++[u]) (xs++[r]) ([]++[]):=hou.append (show els rI w.heap [u] [r] [] from ⟨[],[],rfl,hru,rfl⟩);refine ⟨hE,[w.heap.size],.inr ⟨ous++[u],w.heap.size,xs.length + 1 + rest,(ous.toArray++[u].toArray++Builtin.zeroCells z.cells rest),[],?_,by simp,?_,by simp,hmax,?_,?_,rfl⟩,by simp,fun c hc=>?_⟩;exact els.stable B8 hels2 fun c hc=>by cases hc
  have:=heap_alloc_new w1 (.cells (ous.toArray++[u].toArray++Builtin.zeroCells z.cells rest) e);rw [hh] at this; exact this;rw [hz]; simp [Builtin.zeroCells]; omega;simp only [Array.toList_append];rw [show (xs++[r]).length = (ous++[u]).length from by simp [hl]];exact List.take_left;rw [List.mem_singleton] at hc; subst hc;refine ⟨A7 _,?_⟩;show w.heap.size < (w1.heap.push _).size;rw [hh]; simp
 have hone1:[u].length = [u].length * i.size:=by rw [h3,Nat.mul_one]
 rcases k1 with ⟨a0,cap0,rfl,rfl,rfl⟩ | ⟨ous,gv,off,cap,cur,e',fr,K',hels,rfl,hg,hw,_,rfl⟩;-- nothing so far
 cases a0 with
 | none =>
  have hrr:=run_append_nil (P:=P) w t ty e i z ht h1 h2 ⟨ga,0,none⟩ 1 capa [u] hone1 hnews (by decide) (by decide) (by simp at hbytes; omega);have hge:=grownCap_ge w 1 0 e;have hgm:=grownCap_le_maxLen w 1 0 e (by simpa using hmx);obtain ⟨q1,q2⟩:=made w.drew [] [] (grownCap w 1 0 e - 1) rfl rfl rfl rfl rfl (by simp; omega);refine GA rfl hu _ _ (by simp only [execOp,resolve,invoke,builtin,zc,zf,zh,Sem.run_bind,Sem.run_pure,Result.andThen_ok,hx,hy,DJ]; rw [hrr]; rfl) ?_<|h _ _ ?_ ?_;simpa using q1;simpa using q1;have ea:(([]:List Int).length + 1 + (grownCap w 1 0 e - 1)) = grownCap w 1 0 e:=by simp; omega
  rw [ea] at q2;simpa using q2
 | some a1 =>
  have hrr:=run_append_grow (P:=P) w t ty e i z ht h1 h2 a1 0 0 [] (by rw [h3]; rfl) (by intro j q hj; cases hj) ⟨ga,0,none⟩ 1 capa [u] hone1 hnews zO (by decide)<|growslice_fits zO (by simpa using hbytes);have hge:=grownCap_ge w (0 + 1) 0 e;have hgm:=grownCap_le_maxLen w (0 + 1) 0 e (by simpa using hmx);obtain ⟨q1,q2⟩:=made w.drew [] [] (grownCap w (0 + 1) 0 e - (0 + 1)) rfl rfl rfl rfl rfl (by show 0 + 1 + (grownCap w (0 + 1) 0 e - (0 + 1))≤maxLen; omega);refine GA rfl hu _ _ (by simp only [execOp,resolve,invoke,builtin,zc,zf,zh,Sem.run_bind,Sem.run_pure,Result.andThen_ok,hx,hy,DJ]; rw [hrr]; rfl) q1<|h _ _ q1 ?_;have ea:(([]:List Int).length + 1 + (grownCap w (0 + 1) 0 e - (0 + 1))) = grownCap w (0 + 1) 0 e:=by show 0 + 1 + (grownCap w (0 + 1) 0 e - (0 + 1)) = _; omega
  rw [ea] at q2;simpa using q2
 have holds:∀ j q,ous[j]? = some q→w.cell? ((⟨gv,off,none⟩:Addr).add j) = some q:=by
  intro j q hj;rw [EY,BQ];simp only [Cr,hg];rw [← hw,List.getElem?_take] at hj;split at hj;rw [List.getElem?_drop] at hj; simpa using hj;cases hj
 have hrr:=run_append_grow (P:=P) w t ty e i z ht h1 h2 ⟨gv,off,none⟩ xs.length xs.length ous (by rw [h3,hels.length]; omega) holds ⟨ga,0,none⟩ 1 capa [u] hone1 hnews zO (by simp only [maxLen] at hmx; omega)<|growslice_fits zO hbytes;have hge:=grownCap_ge w (xs.length + 1) xs.length e;have hgm:=grownCap_le_maxLen w (xs.length + 1) xs.length e hmx;obtain ⟨q1,q2⟩:=made w.drew ous K' (grownCap w (xs.length + 1) xs.length e - (xs.length + 1)) rfl rfl rfl rfl hels zO;refine GA rfl hu _ _ (by simp only [execOp,resolve,invoke,builtin,zc,zf,zh,Sem.run_bind,Sem.run_pure,Result.andThen_ok,hx,hy,DJ]; rw [hrr]; rfl) q1<|h _ _ q1 ?_;have ea:(xs.length + 1 + (grownCap w (xs.length + 1) xs.length e - (xs.length + 1))) = grownCap w (xs.length + 1) xs.length e:=by omega
 rw [ea] at q2;exact q2
theorem Fe {x0 x1:Operand}{va vb z:Value}{xa xb:Ex}{b dd B Ba Ua Bb Ub:Nat}(ht:P.underlying t=some (.slice e))(hi:TI P e 5 z b)(hz:z.cells.size=5)(h0:Bw N ρ x0=.agg (C3 xa va).toArray)(h1:Bw N ρ x1=.agg (C3 xb vb).toArray)
  (ha:Ce (C2 e dd) Ba Ua w.heap (C3 xa va) xa) (hb:Ce (C2 e dd) Bb Ub w.heap (C3 xb vb) xb) (hd:Ua≤Bb∨Ub≤Ba) (hB1:B≤Ba) (hB2:B≤Bb) (hB3:B≤w.heap.size)
  (hu:Up ops N ρ ⟨some d,.buildSlice t 2 #[(0,x0),(1,x1)],ty,pos,aft,g⟩)
  (h:∀v w1,AB w w1→w1.heap.size=w.heap.size+1→Fr (BO 5 (C2 e dd) e) B w1.heap.size w1.heap v [xa,xb]→LW P ops w0 Q os ks (mk N (CE ρ d v)) w1) :
  LW P ops w0 Q (⟨some d,.buildSlice t 2 #[(0,x0),(1,x1)],ty,pos,aft,g⟩::os) (3::ks) (mk N ρ) w :=
 R2 ht hi hz h0 h1 hu fun v w1 hE hs hv hq=>h v w1 hE hs (UB (fun Fa Fb a1 a2 a3 a4 a5=>by
  obtain⟨F',q1,q2,q3⟩:=hq dd Fa Fb a1 a2 a3 a4 a5
  exact⟨F',q1,q2,fun c hc=>(q3 c hc).imp id (fun h=>h.imp id fun h=>Nat.le_of_eq h.symm)⟩) ha hb hd hB1 hB2 hB3)
theorem R3 {b:Nat}{z a0 a1 a2 a3 a4 b0 b1 b2 b3 b4 c0 c1 c2 c3 c4:Value}(ht:P.underlying t=some (.slice e))(hi:TI P e 5 z b)(hz:z.cells.size=5) :
  (Instr.buildSlice t 3 #[(0,.agg #[a0,a1,a2,a3,a4]),(1,.agg #[b0,b1,b2,b3,b4]),(2,.agg #[c0,c1,c2,c3,c4])]).run P w=.ok (.slice (some ⟨w.heap.size,0,none⟩) 3 3) (w.alloc (.cells #[a0,a1,a2,a3,a4,b0,b1,b2,b3,b4,c0,c1,c2,c3,c4] e)):=by
 obtain⟨i,h1,h2,h3,h4⟩:=hi.get;simp[Instr.buildSlice,Sem.run_bind,run_underlying ht,Result.andThen_ok,sizeOf,typeInfo,zeroValue,h1,h2,h3,Instr.fill,hz,Sem.run_pure,newRow,Value.cells,Hk,List.range_succ]
theorem N5 {x0 x1 x2:Operand}{va vb vc z:Value}{xa xb xc:Ex}{b dd B Ba Ua Bb Ub Bc Uc:Nat}(ht:P.underlying t=some (.slice e))(hi:TI P e 5 z b)(hz:z.cells.size=5)(h0:Bw N ρ x0=.agg (C3 xa va).toArray)(h1:Bw N ρ x1=.agg (C3 xb vb).toArray)(h2:Bw N ρ x2=.agg (C3 xc vc).toArray)
  (ha:Ce (C2 e dd) Ba Ua w.heap (C3 xa va) xa) (hb:Ce (C2 e dd) Bb Ub w.heap (C3 xb vb) xb) (hc:Ce (C2 e dd) Bc Uc w.heap (C3 xc vc) xc) (hd:Ua≤Bb∧Ub≤Bc) (hB1:B≤Ba) (hB2:B≤Bb) (hB3:B≤Bc) (hB4:B≤w.heap.size) (hU:Ba≤Ua∧Bb≤Ub)
  (hu:Up ops N ρ ⟨some d,.buildSlice t 3 #[(0,x0),(1,x1),(2,x2)],ty,pos,aft,g⟩)
  (h:∀v w1,AB w w1→w1.heap.size=w.heap.size+1→Fr (BO 5 (C2 e dd) e) B w1.heap.size w1.heap v [xa,xb,xc]→LW P ops w0 Q os ks (mk N (CE ρ d v)) w1) :
  LW P ops w0 Q (⟨some d,.buildSlice t 3 #[(0,x0),(1,x1),(2,x2)],ty,pos,aft,g⟩::os) (3::ks) (mk N ρ) w:=by
 have hr:=R3 (P:=P) (w:=w) (a0:=.int .i64 xa.kind) (a1:=.int .i64 xa.num) (a2:=.int .i64 xa.pick) (a3:=.int .i64 xa.count) (a4:=va) (b0:=.int .i64 xb.kind) (b1:=.int .i64 xb.num) (b2:=.int .i64 xb.pick) (b3:=.int .i64 xb.count) (b4:=vb) (c0:=.int .i64 xc.kind) (c1:=.int .i64 xc.num) (c2:=.int .i64 xc.pick) (c3:=.int .i64 xc.count) (c4:=vc) ht hi hz;have hrun:(execOp (Bw N ρ) ⟨some d,.buildSlice t 3 #[(0,x0),(1,x1),(2,x2)],ty,pos,aft,g⟩).run P w=.ok (.value (.slice (some ⟨w.heap.size,0,none⟩) 3 3)) (w.alloc (.cells (C3 xa va++(C3 xb vb++C3 xc vc)).toArray e)):=by
  simp only[execOp,zc,zf,zh,Sem.run_bind,h0,h1,h2];unfold C3;rw[hr];rfl
 obtain⟨Fa,a1,a2,a3⟩:=ha;obtain⟨Fb,b1,b2,b3⟩:=hb;obtain⟨Fc,c1,c2,c3⟩:=hc;have hn:=IJ (e:=e) (w:=w) (Ag e dd) (css:=[C3 xa va,C3 xb vb,C3 xc vc]) (xs:=[xa,xb,xc]) (F:=Fa++(Fb++(Fc++[]))) (cur:=(C3 xa va++(C3 xb vb++C3 xc vc)).toArray) (cap:=3) ⟨Fa,_,rfl,a1,Fb,_,rfl,b1,Fc,[],rfl,c1,rfl⟩ (by simp) (by simp[maxLen]) (by simp[C3]) (by simp[C3]);rw[List.append_nil]at hn;have la:=(Ag e dd).lt a1;have lb:=(Ag e dd).lt b1;have lc:=(Ag e dd).lt c1;have hsz:(w.alloc (.cells (C3 xa va++(C3 xb vb++C3 xc vc)).toArray e)).heap.size=w.heap.size+1:=by simp
 refine GA rfl hu _ _ hrun (BI _ _)<|h _ _ (BI _ _) (by simp) ⟨_,hn,?_,fun c hc=>?_⟩;rw[List.nodup_cons];refine⟨fun hm=>?_,List.nodup_append.2 ⟨a2,List.nodup_append.2 ⟨b2,c2,fun a h9 c h8 he=>?_⟩,fun a h9 c h8 he=>?_⟩⟩;rcases zi.1 hm with h9|h9;have:=la _ h9;omega;rcases zi.1 h9 with h9|h9;have:=lb _ h9;omega;have:=lc _ h9;omega;have q1:=b3 _ h9;have q2:=c3 _ h8;omega;have q1:=a3 _ h9;rcases zi.1 h8 with h8|h8;have q2:=b3 _ h8;omega;have q2:=c3 _ h8;omega;rw[hsz];rcases ze.1 hc with rfl|hc;exact⟨hB4,zO⟩;rcases zi.1 hc with h9|h9;have q1:=a3 _ h9;have q2:=la _ h9;omega;rcases zi.1 h9 with h9|h9;have q1:=b3 _ h9;have q2:=lb _ h9;omega;have q1:=c3 _ h9;have q2:=lc _ h9;omega
end ops
theorem FrL.le {e:TypeId}{d d' B U:Nat}{H:Array Obj}{v:Value}{xs:List Ex}(h:Fr (BO 5 (C2 e d) e) B U H v xs)(hd:d≤d'):Fr (BO 5 (C2 e d') e) B U H v xs:=by obtain⟨F,h,h2,h3⟩:=h;exact⟨F,h.imp fun q=>Mc e q hd,h2,h3⟩
theorem Ce.low {α:Type}{E:C8 α}{B B' U:Nat}{H:Array Obj}{cs:List Value}{x:α}(h:Ce E B U H cs x)(hB:B'≤B):Ce E B' U H cs x:=by obtain⟨F,h,h2,h3⟩:=h;exact⟨F,h,h2,fun b hb=>⟨A8 hB (h3 b hb).1,(h3 b hb).2⟩⟩
theorem R4 {vs:List Int}{c:Int}{e:Ex}(h:e.kind=2):At vs c e=.mk 2 (vs.getD e.num.toNat 0) 0 0 []:=by rw[K5,if_pos h]
theorem NE {vs:List Int}{c:Int}{e:Ex}(h:¬e.kind=2):At vs c e=.mk e.kind e.num e.pick e.count (Fd (decide (e.kind=9)) vs c 0 e.kids):=by rw[K5,if_neg h]
theorem R5 {p:List Fn}{F vars:Int}{e:Ex}(h:wf p F e vars=true)(h1:¬e.kind=10)(h2:¬e.kind=11):e.pick=0∧e.count=0∧(3≤e.kind→e.num=0):=by
 have h:=BS h;unfold Gy at h;have hp:∀ {x:Bool},(Dy e && x)=true→e.pick=0∧e.count=0:=fun {x} hh=>by
  rw[z7]at hh;have:=hh.1;unfold Dy at this;simpa using this
 split at h;have:=hp h;exact⟨this.1,this.2,zO⟩;split at h;have:=hp h;exact⟨this.1,this.2,zO⟩;split at h;have:=hp h;simp only[z7,decide_eq_true_eq]at h;exact⟨this.1,this.2,fun _=>h.2.1⟩;split at h;have:=hp h;simp only[z7,decide_eq_true_eq]at h;exact⟨this.1,this.2,fun _=>h.2.1⟩;split at h;have:=hp h;simp only[z7,decide_eq_true_eq]at h;exact⟨this.1,this.2,fun _=>h.2.1⟩;split at h;rename_i h9;omega;cases h
theorem UC {p:List Fn}{F vars:Int}{vs:List Int}{c:Int}{e:Ex}(hw:wf p F e vars=true)(h:e.kind=9):At vs c e=.mk 9 0 0 0 [At vs c (e.kids.getD 0 Ex.zero),At (vs++[c]) (c+1) (e.kids.getD 1 Ex.zero)]:=by
 have h2:=R5 hw zO zO;have h3:=(BY<|BS hw).2.2.1 zO;rw[NE zO,h,h2.1,h2.2.1,h2.2.2 (by omega)];congr 1;match hk:e.kids,h3 with
 |[a,b],_=>rw[Fd,Fd,Fd];rfl
end
section
set_option linter.unusedSectionVars false
section
variable {P:Program} {ops:Array Oper} {md:Region.Mode}
def RA (P:Program)(o:Oper)(a:Act)(w:World)(R:Value→World→Prop):Prop:=o.wp P a w (fun b w1=>AB w w1∧∃v,b=a.put o.dst v∧R v w1) (NQ fun _ _=>False)
theorem R6 {a:Act}{d e:Option Tmp}{v x y:Value}(h:(a.put d v).put e x=(a.put d v).put e y):a.put e x=a.put e y:=by
 cases e with
 |none=>rfl
 |some e =>
  have hsz:(a.put d v).tmps.size=a.tmps.size:=by cases d <;> simp[Act.put]
  generalize hb:a.put d v=b at h hsz;by_cases hlt:e<a.tmps.size;have h2:=congrArg (fun z:Act=>z.tmps[e]?) h;simp only[Act.put,Array.getElem?_setIfInBounds_self,hsz,if_pos hlt]at h2
  injection h2 with h2;rw[h2];have e1:∀u,a.tmps.setIfInBounds e u=a.tmps:=fun u=>by
   apply Array.ext;simp
   intro i h1 h2;have:e≠i:=fun h9=>hlt (h9 ▸ h2);rw[Array.getElem_setIfInBounds h2];simp[this]
  show(⟨_,_⟩:Act)=⟨_,_⟩;rw[e1,e1]
theorem SI {a:Act}{d:Option Tmp}{v:Value}:(a.put d v).defers=a.defers:=by cases d <;> rfl
theorem RA.shape {o:Oper}{a:Act}{d:Option Tmp}{v u:Value}{b:Act}(h2:∀x,d=some x→o.dst≠some x)(hs:Jq a o.dst b)(h:b.put d v=(a.put d v).put o.dst u):b=a.put o.dst u:=by obtain⟨u',rfl|⟨x,rfl⟩⟩:=hs;have e:=Act.put_comm a v u' h2;rw[← e]at h;exact R6 h;have:=congrArg Act.defers h;simp only[SI]at this;have:=congrArg List.length this;simp at this
theorem RA.apart {o:Oper}(hs:∀cs b,o.op≠.select cs b){a:Act}{d:Option Tmp}{v:Value}{w:World}{R:Value→World→Prop}
  (h1:∀x,d=some x→x∉o.looksAt ops) (h2:∀x,d=some x→o.dst≠some x):RA P o (a.put d v) w R↔RA P o a w R:=by
 constructor
 intro h;have g:=DR<|Fq (ops:=ops) (Q:=fun _ _=>False) hs h1 h2 h;refine Oper.wp_mono (fun b w1 hb=>?_) g;obtain⟨⟨hE,u,hu,hR⟩,hsh⟩:=hb;exact⟨hE,u,RA.shape h2 hsh hu,hR⟩
 intro h;refine Gz (ops:=ops) hs h1 h2<|Oper.wp_mono (fun b w1 hb=>?_) h;obtain⟨hE,u,rfl,hR⟩:=hb;exact⟨hE,u,(Act.put_comm a v u h2).symm,hR⟩
theorem RA.some {o:Oper}{a:Act}{w:World}{R:Value→World→Prop}(h:RA P o a w R):∃v w1,AB w w1∧R v w1:=by obtain⟨_,w1,⟨hE,v,_,hR⟩|⟨_,hE,v,_,hR⟩⟩:=JM h;exact⟨v,w1,hE,hR⟩;exact⟨v,w1,hE,hR⟩
abbrev Fz:=Nat×Value×Nat×Nat
def GI:List Fz→Nat→Value×Nat×Nat
 |[],_=>(undef,0,0)
 |q::l,j=>cond (Nat.beq q.1 j) q.2 (GI l j)
abbrev NF:=Nat→(Nat→Value×Nat×Nat)→Value→Nat→Nat→World→Prop
def Ti (bs:Nat→Nat)(Rs:NF)(k:Nat)(w:World):List Fz→Prop
 |[]=>True
 |q::L=>((bs k).testBit q.1=true→q.2.2.2≤w.heap.size∧Rs q.1 (GI L) q.2.1 q.2.2.1 q.2.2.2 w)∧Ti bs Rs k w L
def Mj (P:Program)(bs:Nat→Nat)(Rs:NF)(w0:World)(k:Nat)(o:Oper)(a:Act)(w:World)(L:List Fz)(K:List Fz→Act→World→Prop):Prop :=
 (∀w',AB w0 w'→Ti bs Rs k w' L→RA P o a w' fun v w''=>Rs k (GI L) v w'.heap.size w''.heap.size w'') ∧
  ∀v lo hi w'',AB w w''→w0.heap.size≤lo→lo≤hi→hi≤w''.heap.size→(∀q∈L,q.2.2.2≤lo∨hi≤q.2.2.1)→Rs k (GI L) v lo hi w''→K ((k,v,lo,hi)::L) (a.put o.dst v) w''
def LV (P:Program)(ops:Array Oper)(bs:Nat→Nat)(Rs:NF)(w0:World)(Q:Act→World→Prop):Nat→List Oper→List Nat→List Fz→Act→World→Prop
 |_,[],_,_,a,w=>Q a w
 |_,_::_,[],_,_,_=>False
 |k,o::os,kd::ks,L,a,w =>
  if Region.wanted o (yielded ops a.tmps)=true then(if kd=5 then Mj P bs Rs w0 k o a w L (LV P ops bs Rs w0 Q (k+1) os ks)else Bs P w0 o kd a w (LV P ops bs Rs w0 Q (k+1) os ks L))else LV P ops bs Rs w0 Q (k+1) os ks L (a.put o.dst undef) w
variable (P ops) in
def Hc (bs:Nat→Nat)(Rs:NF)(kd:Nat→Nat)(w0:World)(Q:Act→World→Prop):List Nat→List Fz→Act→World→Prop
 |[],_,a,w=>Q a w
 |i::l,L,a,w =>
  match ops[i]? with
  |none=>False
  |some o=>if Region.wanted o (yielded ops a.tmps)=true then(if kd i=5 then Mj P bs Rs w0 i o a w L (Hc bs Rs kd w0 Q l)else Bs P w0 o (kd i) a w (Hc bs Rs kd w0 Q l L))else Hc bs Rs kd w0 Q l L (a.put o.dst undef) w
def Nk (ki kj:Nat):Bool:=(ki≤1 && (kj≤1 || kj == 5)) || (ki == 5 && (kj≤1 || kj == 5)) || (ki == 0 && kj == 4) || (ki == 4 && kj == 0)
theorem Vq {ki kj:Nat}(h:Nk ki kj=true)(hk:kj≤1):ki≤1∨ki=5∨(ki=4∧kj=0):=by simp[Nk]at h;omega
theorem Vr {ki kj:Nat}(h:Nk ki kj=true)(hk:kj=5):ki≤1∨ki=5:=by simp[Nk]at h;omega
theorem Tj {ki kj:Nat}(h:Nk ki kj=true)(hk:kj=4):ki=0:=by simp[Nk]at h;omega
def Lb (kd:Nat→Nat)(l:List Nat):Prop:=∀l1 i l2,l=l1++i::l2→kd i=4→∀j∈l2,kd j≠1∧kd j≠5
def R7 (Rs:NF)(w:World):List Fz→Prop
 |[]=>True
 |q::L=>(q.2.2.2≤w.heap.size∧Rs q.1 (GI L) q.2.1 q.2.2.1 q.2.2.2 w)∧R7 Rs w L
def R8 (Rs:NF)(kd:Nat→Nat)(w0 w:World)(l:List Nat)(L:List Fz):Prop:=(∃j∈l,kd j=1∨kd j=5)→AB w0 w∧R7 Rs w L
structure R9 (bs:Nat→Nat)(Rs:NF):Prop where
 st:∀k g v lo hi w1 w2,AB w1 w2→Rs k g v lo hi w1→Rs k g v lo hi w2
 dp:∀k g g' v lo hi w,(∀d,(bs k).testBit d=true→g d=g' d)→Rs k g v lo hi w→Rs k g' v lo hi w
theorem R7.ext {bs:Nat→Nat}{Rs:NF}(hR:R9 bs Rs){w w':World}(e:AB w w'):∀ {L:List Fz},R7 Rs w L→R7 Rs w' L
 |[],_=>trivial
 |_::_,h=>⟨⟨A8 h.1.1 e.size,hR.st _ _ _ _ _ _ _ e h.1.2⟩,R7.ext hR e h.2⟩
theorem R7.sz {Rs:NF}{w:World}:∀ {L:List Fz},R7 Rs w L→∀q∈L,q.2.2.2≤w.heap.size
 |[],_,q,hq=>by cases hq
 |_::_,h,q,hq=>by
  rcases ze.1 hq with rfl|hq
  exact h.1.1
  exact h.2.sz q hq
theorem R7.dp {bs:Nat→Nat}{Rs:NF}{w:World}{k:Nat}:∀ {L:List Fz},R7 Rs w L→Ti bs Rs k w L
 |[],_=>trivial
 |_::_,h=>⟨fun _=>h.1,h.2.dp⟩
theorem IQ {q:Fz}{L:List Fz}{j:Nat}(h:q.1≠j):GI (q::L) j=GI L j:=by show cond (Nat.beq q.1 j) _ _=_;rw[show Nat.beq q.1 j=false from by cases hb:Nat.beq q.1 j with|false=>rfl|true=>exact absurd (Nat.eq_of_beq_eq_true hb) h];rfl
theorem Lb.tail {kd:Nat→Nat}{i:Nat}{l:List Nat}(h:Lb kd (i::l)):Lb kd l:=fun l1 j l2 e=>h (i::l1) j l2 (by rw[e];rfl)
theorem Lb.erase {kd:Nat→Nat}{l1 l2:List Nat}{i:Nat}(h:Lb kd (l1++i::l2)):Lb kd (l1++l2):=by
 intro m1 j m2 e hj x hx;by_cases hlt:m1.length<l1.length;have e1:l1=m1++j::(m2.take (l1.length-m1.length-1)):=by
  have:=congrArg (List.take l1.length) e;rw[List.take_left,List.take_append,za (by omega)]at this;rw[this];congr 1;obtain⟨n,hn⟩:∃n,l1.length-m1.length=n+1:=⟨l1.length-m1.length-1,zO⟩;rw[hn];simp
 have e2:l2=m2.drop (l1.length-m1.length-1):=by
  have:=congrArg (List.drop l1.length) e;rw[List.drop_left,List.drop_append]at this;rw[this,List.drop_of_length_le zO,zl];obtain⟨n,hn⟩:∃n,l1.length-m1.length=n+1:=⟨l1.length-m1.length-1,zO⟩;rw[hn];simp
 refine h m1 j (m2.take (l1.length-m1.length-1)++i::l2) (by rw[e1];simp[List.append_assoc]) hj x ?_;have hx':x∈m2.take (l1.length-m1.length-1)++m2.drop (l1.length-m1.length-1):=by rw[List.take_append_drop];exact hx
 rw[← e2]at hx';simp only[zi,ze]at hx' ⊢;rcases hx' with hx'|hx';exact .inl hx';exact .inr<|.inr hx';have e2:l2=m1.drop l1.length++j::m2:=by
  have:=congrArg (List.drop l1.length) e;rw[List.drop_left,List.drop_append_of_le_length (by omega)]at this;exact this
 exact h (l1++i::m1.drop l1.length) j m2 (by rw[e2];simp) hj x hx
section main
variable {kd bs:Nat→Nat} {Rs:NF} {w0:World} {Q:Act→World→Prop}
structure S7 (bs:Nat→Nat)(L L':List Fz):Prop where
 ex:∃M p q N,L=M++p::q::N∧L'=M++q::p::N∧p.1≠q.1∧(bs p.1).testBit q.1=false∧(bs q.1).testBit p.1=false
theorem S7.cons {L L':List Fz}(h:S7 bs L L')(r:Fz):S7 bs (r::L) (r::L'):=by obtain⟨M,p,q,N,rfl,rfl,hh⟩:=h.ex;exact⟨r::M,p,q,N,rfl,rfl,hh⟩
theorem S7.mem {L L':List Fz}(h:S7 bs L L')(x:Fz):x∈L↔x∈L':=by obtain⟨M,p,q,N,rfl,rfl,hh⟩:=h.ex;simp only[zi,ze];constructor <;> (rintro(h|h|h|h) <;> simp[h])
theorem Kx {p q:Fz}(hne:p.1≠q.1)(N:List Fz)(d:Nat):∀M,GI (M++p::q::N) d=GI (M++q::p::N) d
 |[]=>by
  show cond (Nat.beq p.1 d) p.2 (cond (Nat.beq q.1 d) q.2 _)=cond (Nat.beq q.1 d) q.2 (cond (Nat.beq p.1 d) p.2 _)
  cases hp:Nat.beq p.1 d with
  |false=>cases Nat.beq q.1 d <;> rfl
  |true =>
   have e1:p.1=d:=Nat.eq_of_beq_eq_true hp
   cases hq:Nat.beq q.1 d with
   |false=>rfl
   |true=>exact absurd (e1.trans (Nat.eq_of_beq_eq_true hq).symm) hne
 |r::M=>by
  show cond (Nat.beq r.1 d) r.2 (GI (M++p::q::N) d)=cond (Nat.beq r.1 d) r.2 (GI (M++q::p::N) d)
  rw[Kx hne N d M]
theorem S7.getR {L L':List Fz}(h:S7 bs L L')(d:Nat):Go.Proofs.YtlbefjfhfodnlaaGreatDoor.GI L d=Go.Proofs.YtlbefjfhfodnlaaGreatDoor.GI L' d:=by obtain⟨M,p,q,N,rfl,rfl,hne,_⟩:=h.ex;exact Kx hne N d M
theorem OF (hR:R9 bs Rs){p q:Fz}(hne:p.1≠q.1)(b1:(bs p.1).testBit q.1=false)(b2:(bs q.1).testBit p.1=false){N:List Fz}{k:Nat}{w:World}:∀M,Ti bs Rs k w (M++q::p::N)→Ti bs Rs k w (M++p::q::N)
 |[],hd=>by
  obtain⟨d1,d2,d3⟩:=hd
  refine⟨fun hb=>⟨(d2 hb).1,hR.dp _ _ _ _ _ _ _ (fun d hd=>?_) (d2 hb).2⟩,fun hb=>⟨(d1 hb).1,hR.dp _ _ _ _ _ _ _ (fun d hd=>?_) (d1 hb).2⟩,d3⟩
  refine (IQ fun h9=>?_).symm
  rw[← h9,b1]at hd;cases hd
  refine IQ fun h9=>?_
  rw[← h9,b2]at hd;cases hd
 |r::M,hd=>⟨fun hb=>⟨(hd.1 hb).1,hR.dp _ _ _ _ _ _ _ (fun d _=>(Kx hne N d M).symm) (hd.1 hb).2⟩,OF hR hne b1 b2 M hd.2⟩
theorem S7.dp (hR:R9 bs Rs){L L':List Fz}(h:S7 bs L L'){k:Nat}{w:World}(hd:Ti bs Rs k w L'):Ti bs Rs k w L:=by obtain⟨M,p,q,N,rfl,rfl,hne,b1,b2⟩:=h.ex;exact OF hR hne b1 b2 M hd
theorem Hc.sub (hR:R9 bs Rs):∀(l:List Nat){L L':List Fz}{a:Act}{w:World},S7 bs L L'→Hc P ops bs Rs kd w0 Q l L a w→Hc P ops bs Rs kd w0 Q l L' a w
 |[],_,_,_,_,_,h=>h
 |i::l,L,L',a,w,hs,h=>by
  simp only[Hc]at h ⊢
  cases hoi:ops[i]? with
  |none=>rw[hoi]at h;exact h
  |some o =>
   rw[hoi]at h
   simp only at h ⊢
   split
   rename_i hw
   rw[if_pos hw]at h
   split
   rename_i h5
   rw[if_pos h5]at h
   obtain⟨r2,r3⟩:=h
   have hg:Go.Proofs.YtlbefjfhfodnlaaGreatDoor.GI L=Go.Proofs.YtlbefjfhfodnlaaGreatDoor.GI L':=funext hs.getR
   exact⟨fun w' e1 e2=>by rw[← hg];exact r2 w' e1 (hs.dp hR e2),fun v lo hi w'' e1 e2 e3 e4 e5 e6=>Hc.sub hR l (hs.cons _) (r3 v lo hi w'' e1 e2 e3 e4 (fun q hq=>e5 q ((hs.mem q).1 hq)) (by rw[hg];exact e6))⟩
   rename_i h5
   rw[if_neg h5]at h
   exact h.mono fun a w hh=>Hc.sub hR l hs hh
   rename_i hw
   rw[if_neg hw]at h
   exact Hc.sub hR l hs h
theorem Ky (hR:R9 bs Rs)(hsel:∀(j:Nat)(o:Oper) cs b,ops[j]? = some o→o.op≠.select cs b){j:Nat}{oj:Oper}(hj:ops[j]? = some oj)(hk:kd j≤1) :
  ∀(l1 l2:List Nat) (L:List Fz) (a:Act) (w:World),Lb kd (l1++j::l2)→R8 Rs kd w0 w (l1++j::l2) L→(∀i∈l1,∀oi,ops[i]? = some oi→oi.apart ops oj=true∧Nk (kd i) (kd j)=true) →
   Hc P ops bs Rs kd w0 Q (l1++j::l2) L a w→∃v,Yv P ops w0 (kd j) oj a w v∧Hc P ops bs Rs kd w0 Q (l1++l2) L (a.put oj.dst v) w
 |[],l2,L,a,w,hN,hI,_,h=>by
  simp only[zl,Hc,hj]at h ⊢
  split at h
  rename_i hw
  rw[if_neg (by omega)]at h
  unfold Bs at h
  rw[if_pos (by omega)]at h
  obtain⟨v,h1,h2⟩:=h
  exact⟨v,.inl ⟨hw,h1⟩,h2⟩
  rename_i hw
  exact⟨undef,.inr ⟨by simpa using hw,rfl⟩,h⟩
 |i::l1,l2,L,a,w,hN,hI,hl,h=>by
  have hi:=hl i (z0 ..)
  have hl':∀x∈l1,∀ox,ops[x]? = some ox→ox.apart ops oj=true∧Nk (kd x) (kd j)=true:=fun x hx=>hl x (z3 _ hx)
  have hN':Lb kd (l1++j::l2):=hN.tail
  have hI':R8 Rs kd w0 w (l1++j::l2) L:=fun⟨x,hx,hk⟩=>hI ⟨x,z3 _ hx,hk⟩
  simp only[List.cons_append,Hc]at h ⊢
  cases hoi:ops[i]? with
  |none=>rw[hoi]at h;exact h.elim
  |some oi =>
   rw[hoi]at h
   simp only at h ⊢
   obtain⟨hap,hok⟩:=hi oi hoi
   obtain⟨p1,p2,p3⟩:=Oper.apart_spec hap
   have p2':∀d,oj.dst=some d→oi.dst≠some d:=fun d hd he=>p2 d he hd
   have si:=fun cs b=>hsel i oi cs b hoi
   have sj:=fun cs b=>hsel j oj cs b hj
   have hcl:∀w1 w2 w3,Cl w0 w1 (kd j) w3→Cl w0 w2 (kd j) w3:=by
    intro w1 w2 w3 hc;match hkj:kd j,hk with
    |0,_=>trivial
    |1,_=>rw[hkj]at hc;exact hc
    |_+2,hle=>omega
   by_cases hw:Region.wanted oi (yielded ops a.tmps)=true;rw[if_pos hw]at h;rcases Vq hok hk with hki|hki|⟨hki,hkj⟩;rw[if_neg (by omega)]at h;unfold Bs at h;rw[if_pos (by omega)]at h;obtain⟨vi,hy,h⟩:=h;obtain⟨v,h1,h2⟩:=Ky hR hsel hj hk l1 l2 L (a.put oi.dst vi) w hN' hI' hl' h;refine⟨v,(Yv.apart sj p1).1 h1,?_⟩;rw[wanted_put oi a oj.dst v p3,if_pos hw,if_neg (by omega)];unfold Bs;rw[if_pos (by omega)];refine⟨vi,fun w' hc=>(YA.apart (ops:=ops) si p3).2 (hy w' hc),?_⟩;rw[Act.put_comm a v vi p2'];exact h2;rw[if_pos hki]at h;obtain⟨r2,r3⟩:=h;obtain⟨hE0,hL0⟩:=hI ⟨i,z0 ..,.inr hki⟩;have step:∀vi lo hi w'',AB w w''→w0.heap.size≤lo→lo≤hi→hi≤w''.heap.size→(∀q∈L,q.2.2.2≤lo∨hi≤q.2.2.1)→Rs i (GI L) vi lo hi w''→∃v,Yv P ops w0 (kd j) oj a w v∧Hc P ops bs Rs kd w0 Q (l1++l2) ((i,vi,lo,hi)::L) ((a.put oi.dst vi).put oj.dst v) w'':=by
    intro vi lo hi w'' e1 e2 e3 e4 e5 e6;obtain⟨v,h1,h2⟩:=Ky hR hsel hj hk l1 l2 ((i,vi,lo,hi)::L) (a.put oi.dst vi) w'' hN' (fun _=>⟨hE0.trans e1,⟨e4,e6⟩,hL0.ext hR e1⟩) hl' (r3 vi lo hi w'' e1 e2 e3 e4 e5 e6);refine⟨v,?_,h2⟩;rcases(Yv.apart sj p1).1 h1 with⟨q1,q2⟩|⟨q1,q2⟩;exact .inl ⟨q1,fun w2 hc=>q2 w2<|hcl w w'' w2 hc⟩;exact .inr ⟨q1,q2⟩
   have hfr:∀w1,∀q∈L,q.2.2.2≤w.heap.size∨w1≤q.2.2.1:=fun w1 q hq=>.inl (hL0.sz q hq);obtain⟨v,hv⟩:∃v,Yv P ops w0 (kd j) oj a w v:=by
    obtain⟨vi,w1,g1,g2⟩:=(r2 w hE0 hL0.dp).some;obtain⟨v,h1,_⟩:=step vi w.heap.size w1.heap.size w1 g1 hE0.size g1.size (A7 _) (hfr _) g2;exact⟨v,h1⟩
   refine⟨v,hv,?_⟩;rw[wanted_put oi a oj.dst v p3,if_pos hw,if_pos hki];refine⟨fun w' hw' hd=>(RA.apart (ops:=ops) si p3 p2').2 (r2 w' hw' hd),fun vi lo hi w'' e1 e2 e3 e4 e5 e6=>?_⟩;obtain⟨v',h1,h2⟩:=step vi lo hi w'' e1 e2 e3 e4 e5 e6;have:v'=v:=h1.unique (fun _=>hE0) hv;subst this;rw[Act.put_comm a v' vi p2'];exact h2;rw[if_neg (by omega)]at h;unfold Bs at h;rw[if_neg zO,if_neg (by omega)]at h;have hno:∀x∈l1++j::l2,kd x≠1∧kd x≠5:=hN [] i _ rfl hki;have hs:=DR h;have step:∀a' w',(Hc P ops bs Rs kd w0 Q (l1++j::l2) L a' w'∧Jq a oi.dst a')→∃v,Yv P ops w0 (kd j) oj a w v∧Hc P ops bs Rs kd w0 Q (l1++l2) L (a'.put oj.dst v) w':=by
    rintro a' w' ⟨hL,hsh⟩;obtain⟨v,h1,h2⟩:=Ky hR hsel hj hk l1 l2 L a' w' hN' (fun⟨x,hx,hh⟩=>(hh.elim (fun h=>(hno x hx).1 h) fun h=>(hno x hx).2 h).elim) hl' hL;refine⟨v,?_,h2⟩;rcases(Yv.shape sj p1 hsh).1 h1 with⟨q1,q2⟩|⟨q1,q2⟩;exact .inl ⟨q1,fun w2 hc=>q2 w2<|hcl w w' w2 hc⟩;exact .inr ⟨q1,q2⟩
   obtain⟨v,hv⟩:∃v,Yv P ops w0 (kd j) oj a w v:=by
    obtain⟨u,w',hK|⟨d,hK⟩⟩:=JM hs;obtain⟨v,h1,_⟩:=step _ _ hK;exact⟨v,h1⟩;obtain⟨v,h1,_⟩:=step _ _ hK;exact⟨v,h1⟩
   refine⟨v,hv,?_⟩;rw[wanted_put oi a oj.dst v p3,if_pos hw,if_neg (by omega)];unfold Bs;rw[if_neg zO,if_neg (by omega)];refine Gz (ops:=ops) si p3 p2'<|Oper.wp_mono (fun a' w' hK=>?_) hs;obtain⟨v',h1,h2⟩:=step a' w' hK;have:v'=v:=h1.unique (fun h1=>by omega) hv;subst this;exact h2;rw[if_neg hw]at h;obtain⟨v,h1,h2⟩:=Ky hR hsel hj hk l1 l2 L (a.put oi.dst undef) w hN' hI' hl' h;refine⟨v,(Yv.apart sj p1).1 h1,?_⟩;rw[wanted_put oi a oj.dst v p3,if_neg hw,Act.put_comm a v undef p2'];exact h2
theorem OG (hR:R9 bs Rs)(hsel:∀(j:Nat)(o:Oper) cs b,ops[j]? = some o→o.op≠.select cs b){j:Nat}{oj:Oper}(hj:ops[j]? = some oj)(hk:kd j=5) :
  ∀(l1 l2:List Nat) (L:List Fz) (a:Act) (w:World),(∀i∈l1,∀oi,ops[i]? = some oi→oi.apart ops oj=true∧Nk (kd i) (kd j)=true)→(∀i∈l1,(bs j).testBit i=false∧(bs i).testBit j=false∧i≠j)→AB w0 w→R7 Rs w L→Hc P ops bs Rs kd w0 Q (l1++j::l2) L a w →
   (Region.wanted oj (yielded ops a.tmps)=true→Mj P bs Rs w0 j oj a w L (Hc P ops bs Rs kd w0 Q (l1++l2))) ∧
   (Region.wanted oj (yielded ops a.tmps)=false→Hc P ops bs Rs kd w0 Q (l1++l2) L (a.put oj.dst undef) w)
 |[],l2,L,a,w,_,_,hE0,hL0,h=>by
  simp only[zl,Hc,hj]at h ⊢
  refine⟨fun hw=>?_,fun hw=>?_⟩
  rw[if_pos hw,if_pos hk]at h;exact h
  rw[if_neg (by simp[hw])]at h;exact h
 |i::l1,l2,L,a,w,hl,hb,hE0,hL0,h=>by
  have hi:=hl i (z0 ..)
  obtain⟨hbi,hbj,hij⟩:=hb i (z0 ..)
  have hl':∀x∈l1,∀ox,ops[x]? = some ox→ox.apart ops oj=true∧Nk (kd x) (kd j)=true:=fun x hx=>hl x (z3 _ hx)
  have hb':∀x∈l1,(bs j).testBit x=false∧(bs x).testBit j=false∧x≠j:=fun x hx=>hb x (z3 _ hx)
  simp only[List.cons_append,Hc]at h ⊢
  cases hoi:ops[i]? with
  |none=>rw[hoi]at h;exact h.elim
  |some oi =>
   rw[hoi]at h
   simp only at h ⊢
   obtain⟨hap,hok⟩:=hi oi hoi
   obtain⟨p1,p2,p3⟩:=Oper.apart_spec hap
   have p2':∀d,oj.dst=some d→oi.dst≠some d:=fun d hd he=>p2 d he hd
   have si:=fun cs b=>hsel i oi cs b hoi
   have sj:=fun cs b=>hsel j oj cs b hj
   by_cases hw:Region.wanted oi (yielded ops a.tmps)=true
   rw[if_pos hw]at h
   rcases Vr hok hk with hki|hki
   rw[if_neg (by omega)]at h
   unfold Bs at h
   rw[if_pos (by omega)]at h
   obtain⟨vi,hy,h⟩:=h
   obtain⟨g1,g2⟩:=OG hR hsel hj hk l1 l2 L (a.put oi.dst vi) w hl' hb' hE0 hL0 h
   rw[wanted_put oj a oi.dst vi p1]at g1 g2
   refine⟨fun hwj=>?_,fun hwj=>?_⟩
   obtain⟨r2,r3⟩:=g1 hwj
   refine⟨fun w' hw' hd=>(RA.apart (ops:=ops) sj p1 p2).1 (r2 w' hw' hd),fun v lo hi w'' e1 e2 e3 e4 e5 e6=>?_⟩
   have hr:=r3 v lo hi w'' e1 e2 e3 e4 e5 e6
   dsimp only
   rw[wanted_put oi a oj.dst v p3,if_pos hw,if_neg (by omega)]
   unfold Bs
   rw[if_pos (by omega)]
   refine⟨vi,fun w3 hc=>(YA.apart (ops:=ops) si p3).2 (hy w3 ?_),?_⟩
   match hki':kd i,hki with
   |0,_=>trivial
   |1,_=>rw[hki']at hc;exact hc
   |_+2,hle=>omega
   rw[Act.put_comm a v vi p2'];exact hr
   rw[wanted_put oi a oj.dst undef p3,if_pos hw,if_neg (by omega)]
   unfold Bs
   rw[if_pos (by omega)]
   refine⟨vi,fun w' hc=>(YA.apart (ops:=ops) si p3).2 (hy w' hc),?_⟩
   rw[Act.put_comm a undef vi p2']
   exact g2 hwj
   rw[if_pos hki]at h
   obtain⟨r2,r3⟩:=h
   have step:∀vi lo hi w'',AB w w''→w0.heap.size≤lo→lo≤hi→hi≤w''.heap.size→(∀q∈L,q.2.2.2≤lo∨hi≤q.2.2.1)→Rs i (GI L) vi lo hi w'' →
     (Region.wanted oj (yielded ops a.tmps)=true→Mj P bs Rs w0 j oj (a.put oi.dst vi) w'' ((i,vi,lo,hi)::L) (Hc P ops bs Rs kd w0 Q (l1++l2))) ∧
     (Region.wanted oj (yielded ops a.tmps)=false→Hc P ops bs Rs kd w0 Q (l1++l2) ((i,vi,lo,hi)::L) ((a.put oi.dst vi).put oj.dst undef) w''):=by
    intro vi lo hi w'' e1 e2 e3 e4 e5 e6;have hr:=OG hR hsel hj hk l1 l2 ((i,vi,lo,hi)::L) (a.put oi.dst vi) w'' hl' hb' (hE0.trans e1) ⟨⟨e4,e6⟩,hL0.ext hR e1⟩<|r3 vi lo hi w'' e1 e2 e3 e4 e5 e6;rw[wanted_put oj a oi.dst vi p1]at hr;exact hr
   have hfr:∀w1,∀q∈L,q.2.2.2≤w.heap.size∨w1≤q.2.2.1:=fun w1 q hq=>.inl (hL0.sz q hq);obtain⟨vi0,w10,k1,k2⟩:=(r2 w hE0 hL0.dp).some;have st0:=step vi0 w.heap.size w10.heap.size w10 k1 hE0.size k1.size (A7 _) (hfr _) k2;refine⟨fun hwj=>⟨fun w' e1 e2=>?_,fun v lo hi w2 e1 e2 e3 e4 e5 e6=>?_⟩,fun hwj=>?_⟩;have h9:=(st0.1 hwj).1 w' e1 ⟨fun hbq=>absurd (show(bs j).testBit i=true from hbq) (by rw[hbi];decide),e2⟩;refine (RA.apart (ops:=ops) sj p1 p2).1 (Oper.wp_mono (fun b w1 hb=>?_) h9);obtain⟨q1,u,q2,q3⟩:=hb;exact⟨q1,u,q2,hR.dp _ _ _ _ _ _ _ (fun d hd=>IQ fun h8=>by rw[← h8]at hd;rw[show(bs j).testBit i=true from hd]at hbi;cases hbi) q3⟩;dsimp only;rw[wanted_put oi a oj.dst v p3,if_pos hw,if_pos hki];have hgi:∀d,(bs i).testBit d=true→GI L d=GI ((j,v,lo,hi)::L) d:=fun d hd=>(IQ fun h8=>by rw[← h8]at hd;rw[show(bs i).testBit j=true from hd]at hbj;cases hbj).symm;have hgj:∀vi loi hii,∀d,(bs j).testBit d=true→GI L d=GI ((i,vi,loi,hii)::L) d:=fun vi loi hii d hd=>(IQ fun h8=>by rw[← h8]at hd;rw[show(bs j).testBit i=true from hd]at hbi;cases hbi).symm;refine⟨fun w' f1 f2=>(RA.apart (ops:=ops) si p3 p2').2 (Oper.wp_mono (fun b w1 hb=>⟨hb.1,hb.2.choose,hb.2.choose_spec.1,hR.dp _ _ _ _ _ _ _ hgi hb.2.choose_spec.2⟩) (r2 w' f1 f2.2)),fun vi loi hii w3 f1 f2 f3 f4 f5 f6=>?_⟩;have hs:=(step vi loi hii w3 (e1.trans f1) f2 f3 f4 (fun q hq=>f5 q<|z3 _ hq)<|hR.dp _ _ _ _ _ _ _ (fun d hd=>(hgi d hd).symm) f6).1 hwj;have hr:=hs.2 v lo hi w3 (AB.refl _) e2 e3 (A8 e4 f1.size) (fun q hq=>by
    rcases ze.1 hq with rfl|hq;exact (f5 _ (z0 ..)).symm;exact e5 q hq) (hR.dp _ _ _ _ _ _ _ (hgj vi loi hii) (hR.st _ _ _ _ _ _ _ f1 e6))
   rw[Act.put_comm a v vi p2'];exact Hc.sub hR _ ⟨[],(j,v,lo,hi),(i,vi,loi,hii),L,rfl,rfl,fun h9=>hij h9.symm,hbi,hbj⟩ hr;rw[wanted_put oi a oj.dst undef p3,if_pos hw,if_pos hki];refine⟨fun w' f1 f2=>(RA.apart (ops:=ops) si p3 p2').2 (r2 w' f1 f2),fun vi loi hii w3 f1 f2 f3 f4 f5 f6=>?_⟩;rw[Act.put_comm a undef vi p2'];exact (step vi loi hii w3 f1 f2 f3 f4 f5 f6).2 hwj;rw[if_neg hw]at h;obtain⟨g1,g2⟩:=OG hR hsel hj hk l1 l2 L (a.put oi.dst undef) w hl' hb' hE0 hL0 h;rw[wanted_put oj a oi.dst undef p1]at g1 g2;refine⟨fun hwj=>?_,fun hwj=>?_⟩;obtain⟨r2,r3⟩:=g1 hwj;refine⟨fun w' hw' hd=>(RA.apart (ops:=ops) sj p1 p2).1 (r2 w' hw' hd),fun v lo hi w'' e1 e2 e3 e4 e5 e6=>?_⟩;have hr:=r3 v lo hi w'' e1 e2 e3 e4 e5 e6;dsimp only;rw[wanted_put oi a oj.dst v p3,if_neg hw,Act.put_comm a v undef p2'];exact hr;rw[wanted_put oi a oj.dst undef p3,if_neg hw,Act.put_comm a undef undef p2'];exact g2 hwj
theorem NG (hsel:∀(j:Nat)(o:Oper) cs b,ops[j]? = some o→o.op≠.select cs b){j:Nat}{oj:Oper}(hj:ops[j]? = some oj)(hk:kd j=4) :
  ∀(l1 l2:List Nat) (L:List Fz) (a:Act) (w:World),(∀i∈l1,∀oi,ops[i]? = some oi→oi.apart ops oj=true∧Nk (kd i) (kd j)=true)→Hc P ops bs Rs kd w0 Q (l1++j::l2) L a w →
   (Region.wanted oj (yielded ops a.tmps)=true→oj.wp P a w (Hc P ops bs Rs kd w0 Q (l1++l2) L) (NQ fun _ _=>False)) ∧
   (Region.wanted oj (yielded ops a.tmps)=false→Hc P ops bs Rs kd w0 Q (l1++l2) L (a.put oj.dst undef) w)
 |[],l2,L,a,w,_,h=>by
  simp only[zl,Hc,hj]at h ⊢
  refine⟨fun hw=>?_,fun hw=>?_⟩
  rw[if_pos hw,if_neg (by omega)]at h
  unfold Bs at h
  rw[if_neg zO,if_neg (by omega)]at h;exact h
  rw[if_neg (by simp[hw])]at h;exact h
 |i::l1,l2,L,a,w,hl,h=>by
  have hi:=hl i (z0 ..)
  have hl':∀x∈l1,∀ox,ops[x]? = some ox→ox.apart ops oj=true∧Nk (kd x) (kd j)=true:=fun x hx=>hl x (z3 _ hx)
  simp only[List.cons_append,Hc]at h ⊢
  cases hoi:ops[i]? with
  |none=>rw[hoi]at h;exact h.elim
  |some oi =>
   rw[hoi]at h
   simp only at h ⊢
   obtain⟨hap,hok⟩:=hi oi hoi
   obtain⟨p1,p2,p3⟩:=Oper.apart_spec hap
   have p2':∀d,oj.dst=some d→oi.dst≠some d:=fun d hd he=>p2 d he hd
   have si:=fun cs b=>hsel i oi cs b hoi
   have sj:=fun cs b=>hsel j oj cs b hj
   have hki:=Tj hok hk
   by_cases hw:Region.wanted oi (yielded ops a.tmps)=true
   rw[if_pos hw,if_neg (by omega)]at h
   unfold Bs at h
   rw[if_pos (by omega)]at h
   obtain⟨vi,hy,h⟩:=h
   have hya:∀w',YA P oi a w' vi:=fun w'=>hy w' (by rw[hki];exact trivial)
   obtain⟨g1,g2⟩:=NG hsel hj hk l1 l2 L (a.put oi.dst vi) w hl' h
   rw[wanted_put oj a oi.dst vi p1]at g1 g2
   refine⟨fun hwj=>?_,fun hwj=>?_⟩
   have g:=Fq (ops:=ops) (Q:=fun _ _=>False) sj p1 p2<|g1 hwj
   refine Oper.wp_mono (fun a' w' hK=>?_)<|DR g
   obtain⟨hL,hsh⟩:=hK
   rw[DG p3 hsh,if_pos hw,if_neg (by omega)]
   unfold Bs
   rw[if_pos (by omega)]
   refine⟨vi,fun w'' hc=>?_,hL⟩
   have he:∀b,YA P oi b w'' vi↔YR P ((execOp b.eval oi).run P w'') w'' vi:=fun _=>Iff.rfl
   obtain⟨u,rfl|⟨x,rfl⟩⟩:=hsh
   exact (YA.apart (ops:=ops) si p3).2 (hya w'')
   refine (YA.apart (ops:=ops) si p3).2 ?_
   have hee:Act.eval { a with defers:=x::a.defers }=Act.eval a:=funext fun y=>by cases y <;> rfl
   rw[he,hee,← he];exact hya w''
   rw[wanted_put oi a oj.dst undef p3,if_pos hw,if_neg (by omega)]
   unfold Bs
   rw[if_pos (by omega)]
   refine⟨vi,fun w' hc=>(YA.apart (ops:=ops) si p3).2 (hya w'),?_⟩
   rw[Act.put_comm a undef vi p2']
   exact g2 hwj
   rw[if_neg hw]at h
   obtain⟨g1,g2⟩:=NG hsel hj hk l1 l2 L (a.put oi.dst undef) w hl' h
   rw[wanted_put oj a oi.dst undef p1]at g1 g2
   refine⟨fun hwj=>?_,fun hwj=>?_⟩
   have g:=Fq (ops:=ops) (Q:=fun _ _=>False) sj p1 p2<|g1 hwj
   refine Oper.wp_mono (fun a' w' hK=>?_)<|DR g
   obtain⟨hL,hsh⟩:=hK
   rw[DG p3 hsh,if_neg hw]
   exact hL
   rw[wanted_put oi a oj.dst undef p3,if_neg hw,Act.put_comm a undef undef p2']
   exact g2 hwj
def Tk (md:Region.Mode)(ops:Array Oper)(kd bs:Nat→Nat)(x y:Nat):Prop :=
 (∀ox oy,ops[x]? = some ox→ops[y]? = some oy→(bs y).testBit x=true∨(ox.apart ops oy=true∧Nk (kd x) (kd y)=true)) ∧
 (∀ox,ops[x]? = some ox→∀e∈ox.after,Region.binds md e=true→e.on≠y)
theorem Kz (hR:R9 bs Rs)(hbk:∀x y ox,ops[x]? = some ox→x<y→(bs x).testBit y=false)(hkd:∀i,kd i≤1∨kd i=4∨kd i=5)(hsel:∀(j:Nat)(o:Oper) cs b,ops[j]? = some o→o.op≠.select cs b)(hS:He md ops bs)
  (hlex:∀j oj,ops[j]? = some oj→∀e∈oj.after,Region.binds md e=true→e.on<j) :
  ∀(n:Nat) (l:List Nat) (listed:Array Bool) (L:List Fz) (a:Act) (w:World),l.length=n→l.Pairwise (Tk md ops kd bs)→l.Pairwise (· < ·)→l.Nodup→listed.size=ops.size →
   (∀i,i∈l↔listed.getD i true=false)→Ig bs listed→Lb kd l→R8 Rs kd w0 w l L→Hc P ops bs Rs kd w0 Q l L a w→wpAny P md ops (NQ Q) n listed a w
 |0,l,listed,L,a,w,hn,_,_,_,_,hm,_,_,_,h=>by
  have hl:l=[]:=List.eq_nil_of_length_eq_zero hn
  subst hl
  refine⟨?_,h⟩
  cases hr:Region.ready md ops listed with
  |nil=>rfl
  |cons x xs =>
   have:=(mem_ready.1 (by rw[hr];exact z0 ..:x∈Region.ready md ops listed)).1
   exact absurd ((hm x).2 this) (by simp)
 |n+1,l,listed,L,a,w,hn,hs,hso,hd,hz,hm,hc,h14,hi1,h=>by
  refine⟨fun h0=>?_,fun i hi=>?_⟩
  exfalso
  match l,hn with
  |i::l,hn =>
   have hready:=Fs (md:=md) hz hm hlex fun y hy ox hox=>((List.pairwise_cons.1 hs).1 y hy).2 ox hox
   rw[h0]at hready
   cases hready
  obtain⟨hun,oi,hoi,hall⟩:=mem_ready.1 hi
  obtain⟨l1,l2,rfl⟩:=List.append_of_mem ((hm i).2 hun)
  have hbits:=CX hS hc hoi hall
  have hpi:∀x∈l1,Tk md ops kd bs x i:=fun x hx=>(List.pairwise_append.1 hs).2.2 x hx i (z0 ..)
  have hlt:∀x∈l1,x<i:=fun x hx=>(List.pairwise_append.1 hso).2.2 x hx i (z0 ..)
  have hnb0:∀x∈l1,(bs i).testBit x=false:=fun x hx=>by
   have h2:=CF ((hm x).1 (z8 _ hx))
   cases hb:(bs i).testBit x with
   |false=>rfl
   |true=>rw[hbits x hb]at h2;cases h2
  have hnb:∀x∈l1,(bs i).testBit x=false∧(bs x).testBit i=false∧x≠i:=fun x hx=>⟨hnb0 x hx,hbk x i (ops[x]'(by have:=BN ((hm x).1 (z8 _ hx));omega)) (by simp[show x<ops.size by have:=BN ((hm x).1 (z8 _ hx));omega]) (hlt x hx),fun h9=>by have:=hlt x hx;omega⟩
  have hfree:∀x∈l1,∀ox,ops[x]? = some ox→ox.apart ops oi=true∧Nk (kd x) (kd i)=true:=fun x hx ox hox=>by
   rcases(hpi x hx).1 ox oi hox hoi with hb|hb
   rw[hnb0 x hx]at hb;cases hb
   exact hb
  have hsz:=BN hun
  have hsub0:(l1++l2).Sublist (l1++i::l2):=List.Sublist.append_left (List.sublist_cons_self _ _) _
  have hnd:i∉l1++l2:=by
   have h1:=List.nodup_append.1 hd
   intro hmem;rcases zi.1 hmem with hh|hh;exact h1.2.2 i hh i (z0 ..) rfl;exact (List.nodup_cons.1 h1.2.1).1 hh
  have hn':(l1++l2).length=n:=by simp at hn ⊢;omega
  have rec_:∀L' a' w',R8 Rs kd w0 w' (l1++l2) L'→Hc P ops bs Rs kd w0 Q (l1++l2) L' a' w'→wpAny P md ops (NQ Q) n (listed.setIfInBounds i true) a' w':=fun L' a' w' hi' hL =>
   Kz hR hbk hkd hsel hS hlex n (l1++l2) _ L' a' w' hn' (hs.sublist hsub0) (hso.sublist hsub0) (hd.sublist hsub0) (by simpa using hz) (ED hm hnd hsz) (DY hc hbits) (Lb.erase h14) hi' hL
  have hsub:R8 Rs kd w0 w (l1++l2) L:=fun⟨j,hj,hk⟩=>hi1 ⟨j,hsub0.subset hj,hk⟩;rcases hkd i with hk|hk|hk;obtain⟨v,hv,hL⟩:=Ky hR hsel hoi hk l1 l2 L a w h14 hi1 hfree h;unfold wpOp;rw[hoi];rcases hv with⟨hw,hy⟩|⟨hw,rfl⟩;simp only[hw,if_true];exact .inl<|Gf (hy w (Cl.self fun h1=>(hi1 ⟨i,by simp,.inl h1⟩).1))<|rec_ _ _ _ hsub hL;simp only[hw,Bool.false_eq_true,if_false];exact rec_ _ _ _ hsub hL;obtain⟨g1,g2⟩:=NG hsel hoi hk l1 l2 L a w hfree h;unfold wpOp;rw[hoi];have hno:¬ ∃j∈l1++l2,kd j=1∨kd j=5:=by
   rintro⟨j,hj,hkj⟩;rcases zi.1 hj with hh|hh;obtain⟨oj,hoj⟩:∃oj,ops[j]? = some oj:=by
    have:=BN ((hm j).1 (z8 _ hh));exact⟨ops[j]'(by omega),by simp[show j<ops.size by omega]⟩
   have:=Tj (hfree j hh oj hoj).2 hk;omega;have:=h14 l1 i l2 rfl hk j hh;omega
  by_cases hw:Region.wanted oi (yielded ops a.tmps)=true;simp only[hw,if_true];exact .inl<|Oper.wp_mono (fun a' w' hK=>rec_ L a' w' (fun hx=>absurd hx hno) hK)<|FJ<|g1 hw;simp only[hw,Bool.false_eq_true,if_false];exact rec_ _ _ _ hsub<|g2 (by simpa using hw);obtain⟨hE0,hL0⟩:=hi1 ⟨i,by simp,.inr hk⟩;obtain⟨g1,g2⟩:=OG hR hsel hoi hk l1 l2 L a w hfree hnb hE0 hL0 h;unfold wpOp;rw[hoi];by_cases hw:Region.wanted oi (yielded ops a.tmps)=true;simp only[hw,if_true];obtain⟨r2,r3⟩:=g1 hw;refine .inl<|Oper.wp_mono (fun a' w' hK=>?_)<|FJ<|r2 w hE0 hL0.dp;obtain⟨hE,v,rfl,hv⟩:=hK;exact rec_ ((i,v,w.heap.size,w'.heap.size)::L) _ _ (fun _=>⟨hE0.trans hE,⟨A7 _,hv⟩,hL0.ext hR hE⟩)<|r3 v _ _ w' hE hE0.size hE.size (A7 _) (fun q hq=>.inl<|hL0.sz q hq) hv;simp only[hw,Bool.false_eq_true,if_false];exact rec_ _ _ _ hsub<|g2 (by simpa using hw)
end main
theorem LS {bs:Nat→Nat}{Rs:NF}{w0:World}{Q:Act→World→Prop}(ks:List Nat):∀(os:List Oper)(k:Nat)(L:List Fz)(a:Act)(w:World),(∀j,os[j]? = ops[k+j]?) →
  LV P ops bs Rs w0 Q k os (ks.drop k) L a w→Hc P ops bs Rs (fun i=>ks.getD i 0) w0 Q (List.range' k os.length) L a w
 |[],_,_,_,_,_,h=>by simpa [Hc,LV]using h
 |o::os,k,L,a,w,ho,h=>by
  have h0:ops[k]? = some o:=by simpa using (ho 0).symm
  have hr:∀L a w,LV P ops bs Rs w0 Q (k+1) os (ks.drop (k+1)) L a w→Hc P ops bs Rs (fun i=>ks.getD i 0) w0 Q (List.range' (k+1) os.length) L a w:=fun L a w hh =>
   LS ks os (k+1) L a w (fun j=>by have:=ho (j+1);simpa [Nat.add_assoc,Nat.add_comm 1 j]using this) hh
  have hlt:k<ks.length:=by
   rcases Nat.lt_or_ge k ks.length with hh|hh;exact hh;rw[List.drop_of_length_le hh]at h;exact h.elim
  have hd:ks.drop k=ks[k]::ks.drop (k+1):=List.drop_eq_getElem_cons hlt;rw[hd]at h;simp only[z9,List.range'_succ,Hc,h0,LV]at h ⊢;have hg:ks.getD k 0=ks[k]:=by simp[hlt]
  split;rename_i hw;rw[if_pos hw]at h;rw[hg];split;rename_i h5;rw[if_pos h5]at h;exact⟨h.1,fun v lo hi w'' e1 e2 e3 e4 e5 e6=>hr _ _ _ (h.2 v lo hi w'' e1 e2 e3 e4 e5 e6)⟩;rename_i h5;rw[if_neg h5]at h;exact h.mono<|hr L;rename_i hw;rw[if_neg hw]at h;exact hr _ _ _ h
def Vs (ops:Array Oper)(ks:List Nat):Bool :=
  let b:=(Region.before ops).toList
  let os:=ops.toList
  Region.noSelect ops &&
  (os.zipIdx.all fun(o,j) =>
    (o.after.all fun e=>!Region.binds .any e || decide (e.on<j)) &&
    (let m:=o.after.foldl (fun s e=>if Region.binds .any e then s ||| 2 ^ e.on ||| b.getD e.on 0 else s) 0
     (b.getD j 0 == m)) &&
    (os.zipIdx.all fun(p,i)=>!(decide (i<j)) || (b.getD j 0).testBit i || (p.apart ops o && Nk (ks.getD i 0) (ks.getD j 0)))) &&
  (os.zipIdx.all fun(_,i)=>!(decide (4=ks.getD i 0)) || os.zipIdx.all fun(_,j)=>!(decide (i<j)) || (ks.getD j 0 != 1 && ks.getD j 0 != 5)) && (ks.all fun k=>decide (k≤1) || decide (k=4) || decide (k=5))
def SJ (os:List Oper)(j:Nat):Nat:=(Region.before os.toArray).toList.getD j 0
theorem Gs {id:Nat}{Q:Exit→Act→World→Prop}{a:Act}{w:World}(os:List Oper)(ks:List Nat)(hm:P.follows .mixedOrders=true)(hB:Vs os.toArray ks=true)(Rs:NF)(hR:R9 (SJ os) Rs)
  (h:LV P os.toArray (SJ os) Rs w.drew (fun a w=>Q .normal a w) 0 os ks [] a w.drew):(Code.region id os.toArray true).wp P Q a w:=by
 refine wp_region_any hm ?_;simp only[Vs,z7]at hB;obtain⟨⟨⟨hsel,hpl⟩,h14⟩,hks⟩:=hB;have hz:∀ {j:Nat} {o:Oper},os.toArray[j]? = some o→(o,j)∈os.toArray.toList.zipIdx:=by
  intro j o ho;rw[List.mem_zipIdx_iff_getElem?];simpa using ho
 have hall:∀j oj,os.toArray[j]? = some oj→_:=fun j oj hj=>zm.1 hpl _ (hz hj);have hF:∀i j oi oj,i<j→os.toArray[i]? = some oi→os.toArray[j]? = some oj→(SJ os j).testBit i=true∨(oi.apart os.toArray oj=true∧Nk (ks.getD i 0) (ks.getD j 0)=true):=by
  intro i j oi oj hij hi hj;have h3:=(z7 _ _ ▸ hall j oj hj:_∧_).2;have h4:=zm.1 h3 _<|hz hi;simp only[Bool.or_eq_true,Bool.not_eq_true',decide_eq_false_iff_not,z7]at h4;rcases h4 with(h4|h4)|h4;exact absurd hij h4;exact .inl h4;exact .inr h4
 have hlex:∀j oj,os.toArray[j]? = some oj→∀e∈oj.after,Region.binds .any e=true→e.on<j:=by
  intro j oj hj e he hb;have h1:=(z7 _ _ ▸ (z7 _ _ ▸ hall j oj hj:_∧_).1:_∧_).1;have h2:=(Array.all_eq_true_iff_forall_mem.1 h1) e he;simpa [hb]using h2
 have hkd:∀i,ks.getD i 0≤1∨ks.getD i 0=4∨ks.getD i 0=5:=fun i=>by
  by_cases hi:i<ks.length;have:=zm.1 hks ks[i] (List.getElem_mem hi);simp only[Bool.or_eq_true,decide_eq_true_eq]at this;rw[show ks.getD i 0=ks[i]from by simp[hi]];omega;left;rw[List.getD_eq_getElem?_getD,List.getElem?_eq_none (by omega)];exact Nat.zero_le _
 have hSo:He .any os.toArray (SJ os):=by
  intro j oj hj i hb;have h3:=(z7 _ _ ▸ (z7 _ _ ▸ hall j oj hj:_∧_).1:_∧_).2;have h5:(Region.before os.toArray).toList.getD j 0=oj.after.foldl (fun s e=>if Region.binds .any e then s ||| 2 ^ e.on ||| (Region.before os.toArray).toList.getD e.on 0 else s) 0:=by simpa using h3
  unfold SJ at hb;rw[h5,← Array.foldl_toList]at hb;rcases EE _ _ _ _ hb with hb|⟨e,he,hbb,hh⟩;simp at hb;exact⟨e,Array.mem_toList_iff.1 he,hbb,hh⟩
 have hbk:∀x y ox,os.toArray[x]? = some ox→x<y→(SJ os x).testBit y=false:=by
  have H:∀n x ox y,x≤n→os.toArray[x]? = some ox→(SJ os x).testBit y=true→y<x:=by
   intro n
   induction n with
   |zero =>
    intro x ox y hx ho hb;obtain⟨e,he,hbb,_⟩:=hSo x ox ho y hb;have:=hlex x ox ho e he hbb;omega
   |succ n ih =>
    intro x ox y hx ho hb;obtain⟨e,he,hbb,rfl|hh⟩:=hSo x ox ho y hb;exact hlex x ox ho e he hbb;have h1:=hlex x ox ho e he hbb;have hlt:e.on<os.toArray.size:=by
     rcases Nat.lt_or_ge x os.toArray.size with h'|h';omega;rw[Array.getElem?_eq_none h']at ho;cases ho
    have:=ih e.on (os.toArray[e.on]) y zO (by simp) hh;omega
  intro x y ox ho hxy;cases hb:(SJ os x).testBit y with
  |false=>rfl
  |true=>have:=H x x ox y (A7 _) ho hb;omega
 have key:=Kz (P:=P) (ops:=os.toArray) (md:=.any) (kd:=fun i=>ks.getD i 0) (bs:=SJ os) (Rs:=Rs) (w0:=w.drew) (Q:=fun a w=>Q .normal a w) hR ?_ hkd
  (Region.noSelect_spec hsel) ?_ ?_ os.length (List.range' 0 os.length) (Array.replicate os.length false) [] a w.drew (by simp) ?_ (List.pairwise_lt_range' (s:=0) (n:=os.length) (step:=1)) List.nodup_range' (by simp) ?_ ?_ ?_ (fun _=>⟨AB.refl _,trivial⟩) ?_
 have:=Ft _ _ _ _ key;simpa using this;exact hbk;exact hSo;exact hlex;exact (List.pairwise_lt_range' (s:=0) (n:=os.length) (step:=1)).imp fun {x y} hxy=>⟨fun ox oy hox hoy=>hF x y ox oy hxy hox hoy,fun ox hox e he hb=>by have:=hlex x ox hox e he hb;omega⟩
 intro i;simp only[List.mem_range',Nat.zero_add,Nat.one_mul];constructor;rintro⟨x,hx,rfl⟩;simp[hx]
 intro hh;rcases Nat.lt_or_ge i os.length with h'|h';exact⟨i,h',rfl⟩;simp[Array.getElem?_eq_none (show(Array.replicate os.length false).size≤i by simpa using h')]at hh
 intro i hi;rcases Nat.lt_or_ge i os.length with h'|h';simp[h']at hi;simp[Array.getElem?_eq_none (show(Array.replicate os.length false).size≤i by simpa using h')]at hi
 intro l1 i l2 hl hk j hj;have hs:(l1++i::l2).Pairwise (· < ·):=hl ▸ List.pairwise_lt_range';have hij:i<j:=List.rel_of_pairwise_cons (List.pairwise_append.1 hs).2.1 hj;have mem:∀x∈l1++i::l2,x<os.length:=by
  intro x hx;rw[← hl]at hx;simp only[List.mem_range',Nat.zero_add,Nat.one_mul]at hx;obtain⟨y,hy,rfl⟩:=hx;exact hy
 have hi:=mem i (by simp);have hj':=mem j (by simp[hj]);have h1:=zm.1 h14 _<|hz (j:=i) (o:=os[i]) (by simp[hi]);simp only[Bool.or_eq_true,Bool.not_eq_true',decide_eq_false_iff_not]at h1;rcases h1 with h1|h1;exact absurd (Eq.symm hk) h1;have h2:=zm.1 h1 _<|hz (j:=j) (o:=os[j]) (by simp[hj']);simp only[Bool.or_eq_true,Bool.not_eq_true',decide_eq_false_iff_not]at h2;rcases h2 with h2|h2;exact absurd hij h2;simpa using h2;exact LS ks os 0 [] a w.drew (by simp) (by simpa using h)
end
section
variable {P:Program} {ops:Array Oper} {bs:Nat→Nat} {Rs:NF} {w0:World} {Q:Act→World→Prop} {os:List Oper} {ks:List Nat} {L:List Fz} {N k d:Nat} {ρ:Nat→Value} {w:World} {o:Oper}
theorem LV.nil {a:Act}(h:Q a w):LV P ops bs Rs w0 Q k [] ks L a w:=h
theorem LV.j {kd:Nat}(hk:kd≠5){a:Act}(h:LW P ops w0 (fun a' w'=>LV P ops bs Rs w0 Q (k+1) os ks L a' w') [o] [kd] a w):LV P ops bs Rs w0 Q k (o::os) (kd::ks) L a w:=by simp only[LW]at h;simp only[LV,hk,if_false];split;rename_i hw;rw[if_pos hw]at h;exact h;rename_i hw;rw[if_neg hw]at h;exact h
theorem LV.r (hu:Up ops N ρ o)(ho:o.dst=some d)(hA:∀w',AB w0 w'→Ti bs Rs k w' L→LW P ops w' (fun a' w''=>∃v,a'=mk N (CE ρ d v)∧Rs k (GI L) v w'.heap.size w''.heap.size w'') [o] [3] (mk N ρ) w')
  (hK:∀v lo hi w'',AB w w''→w0.heap.size≤lo→lo≤hi→hi≤w''.heap.size→(∀q∈L,q.2.2.2≤lo∨hi≤q.2.2.1)→Rs k (GI L) v lo hi w''→LV P ops bs Rs w0 Q (k+1) os ks ((k,v,lo,hi)::L) (mk N (CE ρ d v)) w''):LV P ops bs Rs w0 Q k (o::os) (5::ks) L (mk N ρ) w:=by
 simp only[LV];rw[if_pos hu,if_pos trivial];refine⟨fun w' h1 h2=>?_,fun v lo hi w'' h1 h2 h3 h4 h5 h6=>?_⟩;have h:=hA w' h1 h2;simp only[LW]at h;rw[if_pos hu]at h;unfold Bs at h;rw[if_neg (by decide),if_pos rfl]at h;refine Oper.wp_mono (fun b w1 hb=>?_) h;obtain⟨q1,v,rfl,q3⟩:=hb;exact⟨q1,v,by rw[ho,Ea],q3⟩;have:=hK v lo hi w'' h1 h2 h3 h4 h5 h6;rw[← Ea]at this;rw[ho];exact this
def OH:List (Nat×((Nat→Value×Nat×Nat)→Value→Nat→Nat→World→Prop))→NF
 |[],_=>fun _ _ _ _ _=>True
 |r::l,k=>cond (Nat.beq r.1 k) r.2 (OH l k)
theorem HT:R9 bs (OH []):=⟨fun _ _ _ _ _ _ _ _ _=>trivial,fun _ _ _ _ _ _ _ _ _=>trivial⟩
theorem Ch {r:(Nat→Value×Nat×Nat)→Value→Nat→Nat→World→Prop}{l:List (Nat×((Nat→Value×Nat×Nat)→Value→Nat→Nat→World→Prop))}(h1:∀g v lo hi w1 w2,AB w1 w2→r g v lo hi w1→r g v lo hi w2)
  (h2:∀g g',(∀d,(bs k).testBit d=true→g d=g' d)→∀v lo hi w,r g v lo hi w→r g' v lo hi w) (h:R9 bs (OH l)):R9 bs (OH ((k,r)::l)):=by
 refine⟨fun j g v lo hi w1 w2 hE hr=>?_,fun j g g' v lo hi w hg hr=>?_⟩;have e:∀w,OH ((k,r)::l) j g v lo hi w=(cond (Nat.beq k j) r (OH l j)) g v lo hi w:=fun w=>rfl;rw[e]at hr ⊢;cases hb:Nat.beq k j with
 |true=>rw[hb]at hr;exact h1 _ _ _ _ _ _ hE hr
 |false=>rw[hb]at hr;exact h.st _ _ _ _ _ _ _ hE hr
 have e:∀g,OH ((k,r)::l) j g v lo hi w=(cond (Nat.beq k j) r (OH l j)) g v lo hi w:=fun g=>rfl;rw[e]at hr ⊢;cases hb:Nat.beq k j with
 |true=>rw[hb]at hr;have:=Nat.eq_of_beq_eq_true hb;subst this;exact h2 _ _ hg _ _ _ _ hr
 |false=>rw[hb]at hr;exact h.dp _ _ _ _ _ _ _ hg hr
end
def aF (zsq:List Value)(v:Value)(lo hi:Nat)(w:World):Prop:=∃g,v=.pointer (some ⟨g,0,none⟩)∧(lo≤g∧g<hi)∧BX w.heap g zsq
theorem LT {zsq:List Value}(v:Value)(lo hi:Nat)(w1 w2:World)(h:AB w1 w2):aF zsq v lo hi w1→aF zsq v lo hi w2:=fun⟨g,h1,h2,h3⟩=>⟨g,h1,h2,h3.ext h⟩
def lF {α:Type}(E:BM α)(x:α)(v:Value)(lo hi:Nat)(w:World):Prop:=Fr E lo hi w.heap v x
theorem KA {α:Type}{E:BM α}(hE:Cs E){x:α}(v:Value)(lo hi:Nat)(w1 w2:World)(h:AB w1 w2)(k:lF E x v lo hi w1):lF E x v lo hi w2:=Fr.ext hE k h
def eF (e:TypeId)(d:Nat)(x:Ex)(v:Value)(lo hi:Nat)(w:World):Prop:=∃u,v=.agg (C3 x u).toArray∧Fr (BO 5 (C2 e d) e) lo hi w.heap u x.kids∧E6 x
theorem Ra {e:TypeId}{d:Nat}{x:Ex}(v:Value)(lo hi:Nat)(w1 w2:World)(h:AB w1 w2):eF e d x v lo hi w1→eF e d x v lo hi w2:=fun⟨u,h1,h2,h3⟩=>⟨u,h1,h2.ext (Ae (Ag e d)) h,h3⟩
def sF (s:ByteArray)(v:Value)(lo hi:Nat)(w:World):Prop:=v=.string s
end
section
theorem RX.dpos {S:List Nat}{d:Nat}{w:World}{v:Value}{e:Ex}(h:RX S d w.heap v e)(hk:0<e.kids.length):1≤d:=by
 cases d with
 |zero =>
  obtain⟨cs,⟨F,hF,_⟩,_⟩:=h.rn.get (Ap 0) Ex.zero hk;exact hF.elim
 |succ d=>omega
section
variable {p:List Fn} {vs ds:List Int} {c:Int} {e:Ex}
theorem Ej (h:e.kind=1):Am p vs ds c e=.mk 1 0 0 0 []:=by rw[CC,if_pos h];rfl
theorem Ek (h:e.kind=2):Am p vs ds c e=.mk 2 (ds.getD e.num.toNat 0) 0 0 []:=by rw[CC,if_neg zO,if_pos h];rfl
theorem Dz (h:e.kind=3∨e.kind=4)(hl:e.kids.length=2):Am p vs ds c e=.mk e.kind 0 0 0 [Am p vs ds c (e.kids.getD 0 Ex.zero),Am p vs ds c (e.kids.getD 1 Ex.zero)]:=by rw[CC,if_neg zO,if_neg zO,if_pos h,D6 _ _ _ _ _ _ zO,D6 _ _ _ _ _ _ (by omega)];rfl
theorem DN (h:e.kind=5)(hl:e.kids.length=2):Am p vs ds c e=.mk 3 0 0 0 [.mk 5 0 0 0 [Am p vs ds c (e.kids.getD 0 Ex.zero),At vs c (e.kids.getD 1 Ex.zero)],.mk 5 0 0 0 [At vs c (e.kids.getD 0 Ex.zero),Am p vs ds c (e.kids.getD 1 Ex.zero)]]:=by rw[CC,if_neg zO,if_neg zO,if_neg zO,if_pos h,D6 _ _ _ _ _ _ zO,D6 _ _ _ _ _ _ (by omega)];rfl
theorem DO (h:e.kind=6)(hl:e.kids.length=2):Am p vs ds c e=.mk 6 0 0 0 [.mk 4 0 0 0 [Am p vs ds c (e.kids.getD 0 Ex.zero),.mk 5 0 0 0 [.mk 6 0 0 0 [At vs c (e.kids.getD 0 Ex.zero),At vs c (e.kids.getD 1 Ex.zero)],Am p vs ds c (e.kids.getD 1 Ex.zero)]],At vs c (e.kids.getD 1 Ex.zero)]:=by rw[CC,if_neg zO,if_neg zO,if_neg zO,if_neg zO,if_pos h,D6 _ _ _ _ _ _ zO,D6 _ _ _ _ _ _ (by omega)];rfl
theorem El (h:e.kind=7)(hl:e.kids.length=1):Am p vs ds c e=.mk 7 0 0 0 [Am p vs ds c (e.kids.getD 0 Ex.zero)]:=by rw[CC,if_neg zO,if_neg zO,if_neg zO,if_neg zO,if_neg zO,if_pos h,D6 _ _ _ _ _ _ (by omega)]
theorem Em (h:e.kind=8)(hl:e.kids.length=3):Am p vs ds c e=.mk 8 0 0 0 [At vs c (e.kids.getD 0 Ex.zero),Am p vs ds c (e.kids.getD 1 Ex.zero),Am p vs ds c (e.kids.getD 2 Ex.zero)]:=by rw[CC,if_neg zO,if_neg zO,if_neg zO,if_neg zO,if_neg zO,if_neg zO,if_pos h,D6 _ _ _ _ _ _ zO,D6 _ _ _ _ _ _ (by omega)]
theorem NH (h:e.kind=9)(hl:e.kids.length=2):Am p vs ds c e=.mk 9 0 0 0 [At vs c (e.kids.getD 0 Ex.zero),.mk 9 0 0 0 [Am p vs ds (c+1) (e.kids.getD 0 Ex.zero),Am p (vs++[c]) (ds++[c+1]) (c+2) (e.kids.getD 1 Ex.zero)]]:=by rw[CC,if_neg zO,if_neg zO,if_neg zO,if_neg zO,if_neg zO,if_neg zO,if_neg zO,if_pos h,D6 _ _ _ _ _ _ zO,D6 _ _ _ _ _ _ (by omega)];rfl
theorem NI (h:e.kind=10∨e.kind=11):Am p vs ds c e=.mk e.kind (e.num+((p.length:Nat):Int)) (e.pick+(((p.getD e.num.toNat Fn.zero).outs.length:Nat):Int)) e.count (e.kids.map (At vs c)++e.kids.map (Am p vs ds c)):=by rw[CC,if_neg zO,if_neg zO,if_neg zO,if_neg zO,if_neg zO,if_neg zO,if_neg zO,if_neg zO,Ht]
end
end
def Co (n:Nat):ByteArray:=⟨(Lib.decDigits n).toArray⟩
def CQ (n:Nat):ByteArray:=⟨#[100]⟩++Co n
theorem N6 {n:Nat}(h:n<10):(Lib.decDigits n).length=1:=by rw[Lib.decDigits];simp[h]
theorem HU {n:Nat}(h:n<100):(Co n).size≤2:=by show(Lib.decDigits n).toArray.size≤2;rw[List.size_toArray];by_cases h1:n<10;rw[N6 h1];omega;rw[Lib.decDigits];simp only[h1,dite_false,z4,zd,N6 (show n / 10<10 by omega)];omega
def FA (n:Nat):List Int:=DE n fun i=>((i:Nat):Int)
def HV (m:Int)(n:Nat):List Int:=DE n fun i=>m+((i:Nat):Int)
theorem En (n:Nat):(FA n).length=n:=CS _ _
theorem IR (m:Int)(n:Nat):(HV m n).length=n:=CS _ _
theorem IS (n:Nat):FA (n+1)=FA n++[((n:Nat):Int)]:=Hn _ _
theorem IT (m:Int)(n:Nat):HV m (n+1)=HV m n++[m+((n:Nat):Int)]:=Hn _ _
def Jh (p:List Fn)(g:Fn):List Ex:=g.outs.map (At (FA g.params.toNat) (2*g.params))++g.outs.map (Am p (FA g.params.toNat) (HV g.params g.params.toNat) (2*g.params))
theorem SK (p:List Fn)(k:Nat):Dd p CQ k=⟨CQ (p.length+k),2*(p.getD k Fn.zero).params,Jh p (p.getD k Fn.zero)⟩:=rfl
section
set_option linter.unusedSectionVars false
def Rb (B U:Nat):List Nat:=(List.range U).filter fun b=>decide (B≤b)
theorem HW {B U b:Nat}(h1:B≤b)(h2:b<U):b∈Rb B U:=by unfold Rb;simp[h1,h2]
theorem Mk {B U g:Nat}(h:g<B):g∉Rb B U:=by unfold Rb;simp;omega
namespace Jx
def NJ (ks:List Nat):Nat→Nat:=fun i=>ks.getD i 0
def V0 (os:List Oper):Nat→Nat:=fun j=>(Region.before os.toArray).toList.getD j 0
def Vt (os:List Oper)(ks:List Nat)(L0 S:List Nat):Bool :=
  let ops:=os.toArray
  let b:=(Region.before ops).toList
  Region.noSelect ops &&
  (os.zipIdx.all fun(o,j) =>
    (o.after.all fun e=>!Region.binds .any e || decide (e.on<j)) &&
    (let m:=o.after.foldl (fun s e=>if Region.binds .any e then s ||| 2 ^ e.on ||| b.getD e.on 0 else s) 0
     (b.getD j 0 == m))) &&
  (L0.all fun x=>decide (ks.getD x 0≤2)) &&
  Mw (Fg ops ks b) L0 &&
  (decide ((L0++S).length=os.length) && (decide (L0++S).Nodup && ((L0++S).all (fun x=>decide (x<os.length)) && (List.range os.length).all fun x=>(L0++S).contains x)))
def Vu (os:List Oper)(ks:List Nat)(L0 s:List Nat):Bool :=
 Mw (Fg os.toArray ks (Region.before os.toArray).toList) (L0++s) && Mw (fun x y=>!(decide (4≤ks.getD x 0)) || ks.getD y 0 != 1) (L0++s)
def Vv (os:List Oper)(ks:List Nat)(L0:List Nat)(h1:Nat)(S1:List Nat)(h2:Nat)(S2:List Nat):Bool :=
 let ops:=os.toArray
 let b:=(Region.before ops).toList
 (decide (ks.getD h1 0=3) && decide (ks.getD h2 0=3)) &&
 (L0.all fun x=>Fg ops ks b x h1 && Fg ops ks b x h2) &&
 (h1::S1).isPerm (h2::S2) &&
 (S1.all fun z=>decide (z=h2) || ((b.getD z 0).testBit h1 || (b.getD z 0).testBit h2)) &&
 Mw (HL ops) (L0++h1::S1)
section
variable [J:JR] {P:Program} {os:List Oper} {ks L0:List Nat} {w0:World} {Q:Act→World→Prop}
structure Hd (os:List Oper)(ks L0:List Nat):Prop where
 sel:∀(j:Nat) (o:Oper) cs b,os.toArray[j]? = some o→o.op≠.select cs b
 so:He .any os.toArray (V0 os)
 lex:∀j oj,os.toArray[j]? = some oj→∀e∈oj.after,Region.binds .any e=true→e.on<j
 le:∀x∈L0,NJ ks x≤2
 pw:L0.Pairwise (Dl .any os.toArray (NJ ks) (V0 os))
def Fz (P:Program)(os:List Oper)(ks L0:List Nat)(w0:World)(Q:Act→World→Prop)(S:List Nat)(Q':Act→World→Prop):Prop :=
 ∀n l listed a w,Jb os.toArray (NJ ks) (V0 os) w0 L0 S n l listed w→LI P os.toArray (NJ ks) w0 Q' l a w→wpAny P .any os.toArray (NQ Q) n listed a w
theorem Vw (hH:Hd os ks L0){s:List Nat}(hB:Vu os ks L0 s=true):Fz P os ks L0 w0 Q s (LI P os.toArray (NJ ks) w0 Q s):=by
 simp only[Vu,z7]at hB;exact IM hH.sel hH.so hH.lex (E9 (fun x y hh=>CY hh) hB.1) (E9 (fun x y hxy h4=>by
  rcases Bool.or_eq_true_iff.1 hxy with hh|hh;simp only[Bool.not_eq_true',decide_eq_false_iff_not]at hh;exact absurd h4 hh;simpa [NJ]using hh) hB.2)
theorem V1 (hH:Hd os ks L0){h1 h2:Nat}{S1 S2:List Nat}{Q1 Q2:Act→World→Prop}(hB:Vv os ks L0 h1 S1 h2 S2=true)(r1:Fz P os ks L0 w0 Q S1 Q1)(r2:Fz P os ks L0 w0 Q S2 Q2) :
  Fz P os ks L0 w0 Q (h1::S1) (fun a w=>LI P os.toArray (NJ ks) w0 Q1 [h1] a w∧LI P os.toArray (NJ ks) w0 Q2 [h2] a w):=by
 simp only[Vv,z7,decide_eq_true_eq]at hB;obtain⟨⟨⟨⟨⟨hk1,hk2⟩,hx⟩,hp⟩,hz⟩,hord⟩:=hB;have hx4:∀x∈L0,_:=fun x h=>zm.1 hx x h;simp only[z7]at hx4;refine HK hH.sel hH.so hH.lex (List.isPerm_iff.1 hp) hk1 hk2 hH.le hH.pw (fun x h=>CY (hx4 x h).1) (fun x h=>CY (hx4 x h).2) (fun z h=>?_) (E9 (fun x y hh ox hox e he hb=>?_) hord) r1 r2;have:=zm.1 hz z h;simp only[Bool.or_eq_true,decide_eq_true_eq]at this;exact this;unfold HL at hh;rw[hox]at hh;have:=(Array.all_eq_true_iff_forall_mem.1 hh) e he;simpa [hb]using this
theorem Vx {id:Nat}{R:Exit→Act→World→Prop}{a:Act}{w:World}{S:List Nat}{Q':Act→World→Prop}(hm:P.follows .mixedOrders=true)(hB:Vt os ks L0 S=true)
  (hr:Hd os ks L0→Fz P os ks L0 w.drew (fun a w=>R .normal a w) S Q') (h:LI P os.toArray (NJ ks) w.drew Q' L0 a w.drew):(Code.region id os.toArray true).wp P R a w:=by
 refine wp_region_any hm ?_;simp only[Vt,z7,decide_eq_true_eq]at hB;obtain⟨⟨⟨⟨hsel,hpl⟩,hl⟩,hpL⟩,hln,hnd,hlt,hct⟩:=hB;have hz:∀ {j:Nat} {o:Oper},os.toArray[j]? = some o→(o,j)∈os.zipIdx:=by
  intro j o ho;rw[List.mem_zipIdx_iff_getElem?];simpa using ho
 have hall:∀j oj,os.toArray[j]? = some oj→_:=fun j oj hj=>zm.1 hpl _ (hz hj);have hlex:∀j oj,os.toArray[j]? = some oj→∀e∈oj.after,Region.binds .any e=true→e.on<j:=by
  intro j oj hj e he hb;have h1:=(z7 _ _ ▸ hall j oj hj:_∧_).1;have h2:=(Array.all_eq_true_iff_forall_mem.1 h1) e he;simpa [hb]using h2
 have hS:He .any os.toArray (V0 os):=by
  intro j oj hj i hb;have h3:=(z7 _ _ ▸ hall j oj hj:_∧_).2;have h5:V0 os j=oj.after.foldl (fun s e=>if Region.binds .any e then s ||| 2 ^ e.on ||| (Region.before os.toArray).toList.getD e.on 0 else s) 0:=by unfold V0;simpa using h3
  rw[h5,← Array.foldl_toList]at hb;rcases EE _ _ _ _ hb with hb|⟨e,he,hbb,hh⟩;simp at hb;exact⟨e,Array.mem_toList_iff.1 he,hbb,hh⟩
 have hmem:∀x,x∈L0++S↔x<os.length:=fun x=>by
  constructor
  intro hx;exact of_decide_eq_true (zm.1 hlt x hx)
  intro hx;have:=zm.1 hct x (List.mem_range.2 hx);simpa using this
 have hH:Hd os ks L0:=⟨Region.noSelect_spec hsel,hS,hlex,fun x hx=>of_decide_eq_true (zm.1 hl x hx),E9 (fun x y hh=>CY hh) hpL⟩;have key:=hr hH os.length L0 (Array.replicate os.length false) a w.drew ⟨List.Sublist.refl _,by rw[← hln,z4],fun x=>?_,by simp,?_,fun _=>AB.refl _,hnd⟩ h;have:=Ft _ _ _ _ key;simpa using this;rw[hmem];constructor
 intro hx;simp[hx]
 intro hh;rcases Nat.lt_or_ge x os.length with h'|h';exact h';simp[Array.getElem?_eq_none (show(Array.replicate os.length false).size≤x by simpa using h')]at hh
 intro i hi;rcases Nat.lt_or_ge i os.length with h'|h';simp[h']at hi;simp[Array.getElem?_eq_none (show(Array.replicate os.length false).size≤i by simpa using h')]at hi
end
end Jx
end
def Z9 (n:Nat)(c:Nat→Int)(d:List Int):Int:=sm n fun i=>c i*d.getD i 0
def Za (n:Nat)(b:Nat→Nat→Int)(d:List Int):Int:=sm n fun i=>sm n fun k=>b i k*(d.getD i 0*d.getD k 0)
structure Q2 (n K:Nat)(D:Nat→List Int)(x:Nat→Sr)(z:Sr):Prop where
 sx:∀k,k<K→Ee 3 (x k)
 sz:Ee 1 z
 v:∀k,k<K→(x k).getD 0 0=z.getD 0 0
 q:∃c b,∀k,k<K→(x k).getD 1 0=md (Z9 n c (D k))∧(x k).getD 2 0=md (Za n b (D k))
def dl (i:Nat)(j:Nat):Int:=if i=j then 1 else 0
section
section ops
variable {P:Program} {ops:Array Oper} {w0:World} {Q:Act→World→Prop} {os:List Oper} {ks:List Nat} {N:Nat} {ρ:Nat→Value} {w:World}
 {d:Nat} {ty:TypeId} {pos:String} {aft:Array Edge} {g:Option (Nat×Bool)} {t e:TypeId} {z:Value} {b:Nat}
theorem HX {x y:Operand}{v a:Value}{xs ys:List Int}{B T B' U':Nat}{F:List Nat}(ht:P.underlying t=some (.slice e))(hi:TI P e 1 z b)(hz:z.cells=#[z])(hx:Bw N ρ x=v)(hy:Bw N ρ y=a)(hv:Ow (BH rI e) B T w.heap v xs F)
  (ha:Fr (BH rI e) B' U' w.heap a ys) (hT:T≤w.heap.size) (hBB:B≤B') (hBw:B'≤w.heap.size) (hbytes:(xs.length+ys.length)*b≤140737488355328) (hmx:xs.length+ys.length≤maxLen) (hu:Up ops N ρ ⟨some d,.call ⟨.builtin .append,#[x,y],#[t,t]⟩,ty,pos,aft,g⟩)
  (h:∀v1 w1 F1,AG (F.take 1) w w1→Ow (BH rI e) B w1.heap.size w1.heap v1 (xs++ys) F1→(∀c∈F1,c∈F∨w.heap.size≤c)→LW P ops w0 Q os ks (mk N (CE ρ d v1)) w1) :
  LW P ops w0 Q (⟨some d,.call ⟨.builtin .append,#[x,y],#[t,t]⟩,ty,pos,aft,g⟩::os) (4::ks) (mk N ρ) w:=by
 obtain⟨h1,h2,h3,h4⟩:=hv;obtain⟨G,g1',g2',g3'⟩:=ha;have hG1:G.drop 1=[]:=by
  rcases g1' with⟨_,_,rfl⟩|⟨vs,gb,cap,cur,F',hels,_,_,_,_,_,_,rfl⟩;rfl;rw[Ke hels];rfl
 obtain⟨v',w',F',r1,r2,r3,r4,r5⟩:=JP (P:=P) (ty:=ty) B8 ht hi hz h1 h2 (g1'.rd id) rfl hbytes hmx (by rw[hG1];intro c hc;cases hc) (by rw[hG1];exact zk);rw[hG1]at r4;refine M2 rfl hu v' w' (by simp only[execOp,resolve,invoke,builtin,zc,zf,zh,Sem.run_bind,Sem.run_pure,Result.andThen_ok,hx,hy,r1]) (h v' w' F' r5 ⟨r2,r3,fun c hc=>?_,fun c hc=>(Dw B8).lt r2 c hc⟩ fun c hc=>?_);rcases r4 c hc with hh|hh|hh;exact h3 c hh;cases hh;omega;rcases r4 c hc with hh|hh|hh;exact .inl hh;cases hh;exact .inr zO
end ops
end
def Rc (p:List Fn)(k:Nat):Bool:=p.any fun g=>DL g.name (CQ (p.length+k))
def XJ (p:List Fn):Bool:=(List.range p.length).any (Rc p)
def Iq (p:List Fn):Int:=if DW p=true then(if XJ p=true then 4 else if DW (BD p CQ)=true then 0 else 3)else 1
def V2 (p:List Fn):List Fn:=if Iq p=0 then BD p CQ else []
theorem Jv {p:List Fn}(h:¬DW p=true):Iq p=1:=by unfold Iq;rw[if_neg h]
theorem Jw {p:List Fn}(h:DW p=true){k:Nat}(hk:k<p.length)(hc:Rc p k=true):Iq p=4:=by unfold Iq;rw[if_pos h,if_pos];unfold XJ;rw[List.any_eq_true];exact⟨k,List.mem_range.2 hk,hc⟩
theorem Tl {p:List Fn}(h:∀k,k<p.length→Rc p k=false):¬XJ p=true:=by unfold XJ;rw[List.any_eq_true];rintro⟨k,hk,hc⟩;rw[h k (List.mem_range.1 hk)]at hc;cases hc
theorem Jy {p:List Fn}(h:DW p=true)(hc:∀k,k<p.length→Rc p k=false)(h3:¬DW (BD p CQ)=true):Iq p=3:=by unfold Iq;rw[if_pos h,if_neg (Tl hc),if_neg h3]
theorem Jz {p:List Fn}(h:DW p=true)(hc:∀k,k<p.length→Rc p k=false)(h3:DW (BD p CQ)=true):Iq p=0:=by unfold Iq;rw[if_pos h,if_neg (Tl hc),if_pos h3]
theorem Tm {p:List Fn}(h:¬Iq p=0):V2 p=[]:=by unfold V2;rw[if_neg h]
theorem OI {p:List Fn}(h:Iq p=0):V2 p=BD p CQ:=by unfold V2;rw[if_pos h]
theorem LU (p:List Fn)(k:Nat):p++DE (k+1) (Dd p CQ)=(p++DE k (Dd p CQ))++[Dd p CQ k]:=by rw[Hn,List.append_assoc]
section
theorem OJ {n:Nat}(h:n<10):Co n=HI n:=by unfold Co HI;rw[Lib.decDigits];simp[h]
theorem UD (l m:List UInt8):(⟨(l++m).toArray⟩:ByteArray)=⟨l.toArray⟩++⟨m.toArray⟩:=by apply ByteArray.ext;rw[ByteArray.data_append];simp
theorem OK {n:Nat}(h:10≤n):Co n=Co (n / 10)++HI (n % 10):=by unfold Co HI;rw[Lib.decDigits,dif_neg zO,UD]
theorem SL (n:Nat):(Co n).size≤n+1:=by
 induction n using Nat.strongRecOn with
 |ind n ih =>
  by_cases h:n<10;rw[OJ h,Ko];omega;rw[OK zO,ByteArray.size_append,Ko];have:=ih (n / 10) zO;omega
theorem SM {n:Int}(h0:0≤n):(⟨#[UInt8.ofNat (IntKind.u8.wrap (((48:Nat):Int)+n.tmod ((10:Nat):Int))).toNat]⟩:ByteArray)=HI (n.toNat % 10):=by
 obtain⟨k,rfl⟩:∃k:Nat,n=k:=⟨n.toNat,zO⟩;have h:((k:Nat):Int).tmod ((10:Nat):Int)=((k % 10:Nat):Int):=by
  rw[Int.tmod_eq_emod_of_nonneg (by omega)];omega
 rw[h,Ny zO (by omega)];rfl
section
variable {P:Program} {ops:Array Oper} {w0 w:World} {Q:Act→World→Prop} {os:List Oper} {ks:List Nat} {N:Nat} {ρ:Nat→Value} {d:Nat} {ty:TypeId} {pos:String} {aft:Array Edge} {g:Option (Nat × Bool)} {e:TypeId}
theorem Re {st dt:TypeId}{x:Operand}{v:Value}{n:Int}{B U:Nat}(hs:P.underlying st=some (.slice e))(he:P.underlying e=some (.int .u8))(hd:P.underlying dt=some .string)(hx:Bw N ρ x=v)(hv:Fr (BH rV e) B U w.heap v [.int .u8 n])
  (hu:Up ops N ρ ⟨some d,.convert st dt x,ty,pos,aft,g⟩) (h:LW P ops w0 Q os ks (mk N (CE ρ d (.string ⟨#[UInt8.ofNat n.toNat]⟩))) w) :
  LW P ops w0 Q (⟨some d,.convert st dt x,ty,pos,aft,g⟩::os) (3::ks) (mk N ρ) w:=by
 obtain⟨F,hv,_,_⟩:=hv;rcases hv with⟨_,hc,_⟩|⟨us,b,cap,cur,F',hels,rfl,hg,q1,q2,q3,q4,rfl⟩;cases hc;obtain⟨rfl,rfl⟩:=GF hels;refine GA rfl hu _ w ?_ (AB.refl w) h;have hlc:=run_loadCells_list (P:=P) w ⟨b,0,none⟩ [.int .u8 n] (fun j u hj=>by
  rw[EY,BQ];simp only[Cr,hg];have hj0:j=0:=by have:=(List.getElem?_eq_some_iff.1 hj).1;simpa using this
  subst hj0;have e1:cur.toList[0]? = some (.int .u8 n):=by
   have:(cur.toList.take 1)[0]? = some (.int .u8 n):=by rw[show cur.toList.take 1=[.int .u8 n]from q4];rfl
   rwa [List.getElem?_take,if_pos (by decide)]at this
  have e2:u=.int .u8 n:=by simpa using hj.symm
  rw[e2];simpa using e1)
 have hb:=run_bytesToString (P:=P) w ⟨b,0,none⟩ 1 cap [n] (by simpa using hlc);have hr:=run_convert_bytes_string (P:=P) w st dt e (some ⟨b,0,none⟩) 1 cap hs he hd;simp only[execOp,hx,zd,Sem.run_bind,hr,hb,Result.andThen_ok,Sem.run_pure];rfl
end
end
section
theorem Vy {p:List Fn}{k:Nat}(h:∀i,i<p.length→DL (p.getD i Fn.zero).name (CQ (p.length+k))=false):Rc p k=false:=by
 unfold Rc;rw[List.any_eq_false]
 intro g hg;obtain⟨j,hj,rfl⟩:=List.mem_iff_getElem.1 hg;have h9:=h j hj;rw[GQ hj]at h9;simp[h9]
theorem OL {p:List Fn}{k i:Nat}(hi:i<p.length)(h:DL (p.getD i Fn.zero).name (CQ (p.length+k))=true):Rc p k=true:=by unfold Rc;rw[List.any_eq_true];exact⟨_,List.getElem_mem hi,by rwa [GQ hi]at h⟩
theorem FrF.le {e t:TypeId}{d d' B U:Nat}{H:Array Obj}{v:Value}{xs:List Fn}(h:Fr (BO 3 (J8 e d) t) B U H v xs)(hd:d≤d'):Fr (BO 3 (J8 e d') t) B U H v xs:=by obtain⟨F,h,h2,h3⟩:=h;refine⟨F,h.imp fun q=>?_,h2,h3⟩;obtain⟨v,q1,q2,q3⟩:=q;exact⟨v,q1,q2,q3.imp fun q=>Mc e q hd⟩
theorem Bn.bnd {α:Type}{E:BM α}(hE:Cs E){S:Nat→Prop}{w:World}{v:Value}{x:α}(h:Bn E S w.heap v x):Bn E (fun b=>S b∧b<w.heap.size) w.heap v x:=by obtain⟨G,h1,h2,h3⟩:=h;exact⟨G,h1,h2,fun b hb=>⟨h3 b hb,hE.lt h1 b hb⟩⟩
section
variable {P:Program} {ops:Array Oper} {w0 w:World} {Q:Act→World→Prop} {os:List Oper} {ks:List Nat} {N:Nat} {ρ:Nat→Value} {d:Nat} {ty:TypeId} {pos:String} {aft:Array Edge} {g:Option (Nat × Bool)} {t e:TypeId} {z:Value} {b s:Nat} {α:Type} {E:C8 α}
theorem SN (hE:D4 s E){x y:Operand}{v a:Value}{xs:List α}{y0:α}{S T:Nat→Prop}(ht:P.underlying t=some (.slice e))(hi:TI P e s z b)(hz:z.cells.size=s)(hs:0<s)(hx:Bw N ρ x=v)(hy:Bw N ρ y=a)(hv:Bn (BO s E e) S w.heap v xs)
  (ha:Bn (BO s E e) T w.heap a [y0]) (hT:∀b,S b→T b→False) (hbytes:(xs.length+1)*b≤140737488355328) (hmx:xs.length+1≤maxLen) (hu:Up ops N ρ ⟨some d,.call ⟨.builtin .append,#[x,y],#[t,t]⟩,ty,pos,aft,g⟩)
  (h:∀v1 w1 F,AG F w w1→(∀c∈F,S c)→Bn (BO s E e) (fun b=>S b∨T b∨b=w.heap.size) w1.heap v1 (xs++[y0])→LW P ops w0 Q os ks (mk N (CE ρ d v1)) w1) :
  LW P ops w0 Q (⟨some d,.call ⟨.builtin .append,#[x,y],#[t,t]⟩,ty,pos,aft,g⟩::os) (4::ks) (mk N ρ) w:=by
 obtain⟨v1,w1,F,r1,r2,r3,r4⟩:=ME (P:=P) (ty:=ty) hE ht hi hz hs (S:=S) (T:=T) hv ha hT hbytes hmx;exact M2 rfl hu v1 w1 (by simp only[execOp,resolve,invoke,builtin,zc,zf,zh,Sem.run_bind,Sem.run_pure,Result.andThen_ok,hx,hy,r1])<|h v1 w1 F r3 r4 r2
end
end
theorem LX (b:Bool):∀(l:List Ex)(vs:List Int)(c:Int)(i:Nat),(∀e∈l,∀vs c,(At vs c e).size≤e.size)→Ex.sizes (Fd b vs c i l)≤Ex.sizes l
 |[],vs,c,i,_=>by rw[Fd];exact A7 _
 |e::l,vs,c,i,h=>by
  rw[Fd,Ex.sizes,Ex.sizes]
  have h1:=h e (z0 ..) (if b=true∧i=1 then vs++[c]else vs) (if b=true∧i=1 then c+1 else c)
  have h2:=LX b l vs c (i+1) fun x hx=>h x<|z3 _ hx
  omega
theorem KB {e:Ex}:∀ {l:List Ex},e∈l→e.size≤Ex.sizes l
 |x::l,h=>by
  rw[Ex.sizes]
  rcases ze.1 h with rfl|h
  omega
  have:=KB h;omega
theorem N7 {e:Ex}:∀ {l:List Ex},e∈l→e.deep≤Ex.deeps l
 |x::l,h=>by
  rw[Ex.deeps]
  rcases ze.1 h with rfl|h
  omega
  have:=N7 h;omega
theorem N8:∀(z:Nat)(e:Ex),e.size≤z→∀(vs:List Int)(c:Int),(At vs c e).size≤e.size:=by
 intro z
 induction z with
 |zero=>intro e h;have:=Bg e;omega
 |succ z ih =>
  intro e h vs c;have hk:=Bg e;rw[K5];split;rw[Ex.size,Ex.sizes];omega;rw[Ex.size];have:=LX (decide (e.kind=9)) e.kids vs c 0 fun x hx=>ih x (by have:=KB hx;omega);omega
theorem Ji (vs:List Int)(c:Int):∀l:List Ex,Ex.sizes (l.map (At vs c))≤Ex.sizes l
 |[]=>A7 _
 |e::l=>by
  rw[zf,Ex.sizes,Ex.sizes]
  have:=Ji vs c l;have:=N8 _ e (A7 _) vs c;omega
theorem G0:∀l m:List Ex,Ex.sizes (l++m)=Ex.sizes l+Ex.sizes m
 |[],m=>by rw[zl,Ex.sizes];omega
 |e::l,m=>by rw[List.cons_append,Ex.sizes,Ex.sizes,G0 l m];omega
theorem Jj {p:List Fn}{vs ds:List Int}{c:Int}{d:Nat}:∀l:List Ex,(∀e∈l,(Am p vs ds c e).size≤4*(e.size*d))→Ex.sizes (l.map (Am p vs ds c))≤4*(Ex.sizes l*d)
 |[],_=>by rw[zh,Ex.sizes];omega
 |e::l,h=>by
  rw[zf,Ex.sizes,Ex.sizes,Nat.add_mul]
  have h1:=h e (z0 ..);have h2:=Jj l fun x hx=>h x (z3 _ hx);omega
theorem Rf (p:List Fn)(F:Int):∀(z:Nat)(e:Ex),e.size≤z→∀(vs ds:List Int)(c vars:Int),wf p F e vars=true→(Am p vs ds c e).size≤4*(e.size*e.deep):=by
 intro z
 induction z with
 |zero=>intro e h;have:=Bg e;omega
 |succ z ih =>
  intro e h vs ds c vars hw;have hk:=Bg e;have hd:=E4 e;obtain⟨w1,w2,w3,w4,w5,w6,w7,w8⟩:=BY (BS hw);have K:∀j,j<e.kids.length→∀vs ds c,(Am p vs ds c (e.kids.getD j Ex.zero)).size≤4*((e.kids.getD j Ex.zero).size*Ex.deeps e.kids):=by
   intro j hj vs ds c;have hm:e.kids.getD j Ex.zero∈e.kids:=by rw[List.getD_eq_getElem?_getD,List.getElem?_eq_getElem hj];exact List.getElem_mem hj
   have h1:=KB hm;have h2:=N7 hm;have h3:(Am p vs ds c (e.kids.getD j Ex.zero)).size≤4*((e.kids.getD j Ex.zero).size*(e.kids.getD j Ex.zero).deep):=by
    by_cases h9:e.kind=9∧j=1;obtain⟨h9,rfl⟩:=h9;exact ih _ zO vs ds c _ (FS hw hj h9);exact ih _ zO vs ds c _<|C6 hw hj h9
   have:=Nat.mul_le_mul_left (e.kids.getD j Ex.zero).size h2;omega
  have V:∀x vs c,(At vs c x).size≤x.size:=fun x vs c=>N8 _ x (A7 _) vs c;rw[hd,Nat.mul_add,Nat.mul_one,hk,Nat.add_mul,Nat.one_mul];have two:e.kids.length=2→e.kids=[e.kids.getD 0 Ex.zero,e.kids.getD 1 Ex.zero]:=fun hl=>by
   match e.kids,hl with
   |[a,b],_=>rfl
  have three:e.kids.length=3→e.kids=[e.kids.getD 0 Ex.zero,e.kids.getD 1 Ex.zero,e.kids.getD 2 Ex.zero]:=fun hl=>by
   match e.kids,hl with
   |[a,b,c],_=>rfl
  have one:e.kids.length=1→e.kids=[e.kids.getD 0 Ex.zero]:=fun hl=>by
   match e.kids,hl with
   |[a],_=>rfl
  generalize hgd:Ex.deeps e.kids=d at K ⊢;have S2:e.kids.length=2→Ex.sizes e.kids=(e.kids.getD 0 Ex.zero).size+(e.kids.getD 1 Ex.zero).size:=fun hl=>(congrArg Ex.sizes (two hl)).trans (by simp only[Ex.sizes,Nat.add_zero]);have S1:e.kids.length=1→Ex.sizes e.kids=(e.kids.getD 0 Ex.zero).size:=fun hl=>(congrArg Ex.sizes (one hl)).trans (by simp only[Ex.sizes,Nat.add_zero]);have S3:e.kids.length=3→Ex.sizes e.kids=(e.kids.getD 0 Ex.zero).size+((e.kids.getD 1 Ex.zero).size+(e.kids.getD 2 Ex.zero).size):=fun hl=>(congrArg Ex.sizes (three hl)).trans (by simp only[Ex.sizes,Nat.add_zero]);have two':e.kids.length=2→Ex.sizes e.kids*d=(e.kids.getD 0 Ex.zero).size*d+(e.kids.getD 1 Ex.zero).size*d:=fun hl=>by rw[S2 hl,Nat.add_mul]
  have v0:=V (e.kids.getD 0 Ex.zero) vs c;have v1:=V (e.kids.getD 1 Ex.zero) vs c;have p0:=Bg (e.kids.getD 0 Ex.zero);have p1:=Bg (e.kids.getD 1 Ex.zero);rcases w1 with k|k|k|k|k|k|k|k|k|k|k;rw[Ej k,Ex.size,Ex.sizes];omega;rw[Ek k,Ex.size,Ex.sizes];omega;have hl:=w3 zO;have:=K 0 zO vs ds c;have:=K 1 zO vs ds c;have:=S2 hl;have:=two' hl;rw[Dz (.inl k) hl];simp only[Ex.size,Ex.sizes];omega;have hl:=w3 zO;have:=K 0 zO vs ds c;have:=K 1 zO vs ds c;have:=S2 hl;have:=two' hl;rw[Dz (.inr k) hl];simp only[Ex.size,Ex.sizes];omega;have hl:=w3 zO;have:=K 0 zO vs ds c;have:=K 1 zO vs ds c;have:=S2 hl;have:=two' hl;rw[DN k hl];simp only[Ex.size,Ex.sizes];omega;have hl:=w3 zO;have:=K 0 zO vs ds c;have:=K 1 zO vs ds c;have:=S2 hl;have:=two' hl;rw[DO k hl];simp only[Ex.size,Ex.sizes];omega;have hl:=w4 zO;have:=K 0 zO vs ds c;have q:=S1 hl;have q2:Ex.sizes e.kids*d=(e.kids.getD 0 Ex.zero).size*d:=by rw[q]
  rw[El k hl];simp only[Ex.size,Ex.sizes];omega;have hl:=w5 zO;have:=K 0 zO vs ds c;have:=K 1 zO vs ds c;have:=K 2 zO vs ds c;have q:=S3 hl;have q2:Ex.sizes e.kids*d=(e.kids.getD 0 Ex.zero).size*d+((e.kids.getD 1 Ex.zero).size*d+(e.kids.getD 2 Ex.zero).size*d):=by rw[q,Nat.add_mul,Nat.add_mul]
  rw[Em k hl];simp only[Ex.size,Ex.sizes];omega;have hl:=w3 zO;have:=K 0 zO vs ds (c+1);have:=K 1 zO (vs++[c]) (ds++[c+1]) (c+2);have:=S2 hl;have:=two' hl;rw[NH k hl];simp only[Ex.size,Ex.sizes];omega;all_goals
   rw[NI zO,Ex.size,G0];have h1:=Ji vs c e.kids;have h2:=Jj (p:=p) (vs:=vs) (ds:=ds) (c:=c) (d:=d) e.kids fun x hx=>by
    obtain⟨j,hj,hx⟩:=List.getElem_of_mem hx;have:=K j hj vs ds c;rwa [List.getD_eq_getElem?_getD,List.getElem?_eq_getElem hj,Option.getD_some,hx]at this
   omega
theorem N9 {p:List Fn}(h:DW p=true){k:Nat}(hk:k<p.length):Ex.sizes (p.getD k Fn.zero).outs≤400∧(p.getD k Fn.zero).name.size≤12:=by have:=Ql h hk;unfold Js at this;simp only[z7,decide_eq_true_eq]at this;refine⟨this.2.2.2,?_⟩;have hn:=this.1.1;unfold JZ at hn;simp only[z7,decide_eq_true_eq]at hn;exact hn.1.2
theorem Pp {p:List Fn}(hv:JX p){k:Nat}(hk:k<p.length)(hs:Ex.sizes (p.getD k Fn.zero).outs≤400):Ex.sizes (Jh p (p.getD k Fn.zero))≤97000:=by
 unfold Jh;rw[G0];have h1:=Ji (FA (p.getD k Fn.zero).params.toNat) (2*(p.getD k Fn.zero).params) (p.getD k Fn.zero).outs;have h2:=Jj (p:=p) (vs:=FA (p.getD k Fn.zero).params.toNat) (ds:=HV (p.getD k Fn.zero).params (p.getD k Fn.zero).params.toNat) (c:=2*(p.getD k Fn.zero).params) (d:=60) (p.getD k Fn.zero).outs fun x hx=>by
  obtain⟨j,hj,hx⟩:=List.getElem_of_mem hx;have hw:=hv.wf k hk j hj;have hdp:=hv.deep k hk j hj;rw[List.getD_eq_getElem?_getD,List.getElem?_eq_getElem hj,Option.getD_some,hx]at hw hdp;have:=Rf p _ _ x (A7 _) (FA (p.getD k Fn.zero).params.toNat) (HV (p.getD k Fn.zero).params (p.getD k Fn.zero).params.toNat) (2*(p.getD k Fn.zero).params) _ hw;have:=Nat.mul_le_mul_left x.size hdp;omega
 omega
theorem SP {p:List Fn}{nm:Nat→ByteArray}{k:Nat}(hk:k<p.length):(BD p nm).getD k Fn.zero=p.getD k Fn.zero:=by unfold BD;rw[List.getD_eq_getElem?_getD,List.getElem?_append_left hk,← List.getD_eq_getElem?_getD]
theorem SQ {p:List Fn}{nm:Nat→ByteArray}{k:Nat}(hk:k<p.length):(BD p nm).getD (p.length+k) Fn.zero=Dd p nm k:=by unfold BD;rw[List.getD_eq_getElem?_getD,List.getElem?_append_right zO,show p.length+k-p.length=k from by omega,← List.getD_eq_getElem?_getD,D5 Fn.zero hk]
theorem Hb.der {p:List Fn}(h:DW p=true):Hb (BD p CQ):=by
 have hv:=FM h;have hl:=Ma h
 intro k hk;have hk:k<2*p.length:=by unfold BD at hk;rw[z4,CS]at hk;omega
 by_cases h1:k<p.length;rw[SP h1];have:=N9 h h1;have:=hv.outs k h1;omega;obtain⟨j,rfl⟩:∃j,k=p.length+j:=⟨k-p.length,zO⟩;have hj:j<p.length:=by omega
 rw[SQ hj,SK];have h2:=Pp hv hj (N9 h hj).1;have h3:=hv.outs j hj;have h4:(Jh p (p.getD j Fn.zero)).length=2*(p.getD j Fn.zero).outs.length:=by unfold Jh;rw[z4,zg,zg];omega
 have h5:=HU (n:=p.length+j) zO;refine⟨by show Ex.sizes (Jh p (p.getD j Fn.zero))≤_;omega,by show(Jh p (p.getD j Fn.zero)).length≤_;omega,?_⟩;show(CQ (p.length+j)).size≤_;unfold CQ;rw[ByteArray.size_append];have:(⟨#[100]⟩:ByteArray).size=1:=rfl;omega
theorem mixed:Tryz.prog.follows .mixedOrders=true:=by kernel_rfl
abbrev C9 (k:Nat):Prop:=((Tryz.prog.funcs[k]?).map fun fn=>(fn.name != "runtime.NumGoroutine") && fn.body.isSome) = some true
theorem Cb {k:Nat} (h:((Tryz.prog.funcs[k]?).map fun fn=>(fn.name != "runtime.NumGoroutine") && fn.body.isSome) = some true):C9 k:=h
theorem Y7:C9 18:=Cb (by kernel_rfl)
theorem Y8:C9 19:=Cb (by kernel_rfl)
theorem Y9:C9 20:=Cb (by kernel_rfl)
theorem Ya:C9 21:=Cb (by kernel_rfl)
theorem Yb:C9 22:=Cb (by kernel_rfl)
theorem Yc:C9 23:=Cb (by kernel_rfl)
theorem Yd:C9 24:=Cb (by kernel_rfl)
theorem Ye:C9 25:=Cb (by kernel_rfl)
theorem UE:C9 26:=Cb (by kernel_rfl)
theorem Vz:C9 27:=Cb (by kernel_rfl)
theorem Yg:C9 28:=Cb (by kernel_rfl)
theorem Yh:C9 34:=Cb (by kernel_rfl)
theorem Hu:C9 35:=Cb (by kernel_rfl)
theorem Rg:C9 36:=Cb (by kernel_rfl)
theorem IU:C9 45:=Cb (by kernel_rfl)
theorem Yi:C9 48:=Cb (by kernel_rfl)
theorem Yj:C9 59:=Cb (by kernel_rfl)
theorem Yk:C9 60:=Cb (by kernel_rfl)
theorem SR:C9 61:=Cb (by kernel_rfl)
theorem SS:C9 62:=Cb (by kernel_rfl)
theorem Yl:C9 63:=Cb (by kernel_rfl)
theorem Ym:C9 64:=Cb (by kernel_rfl)
theorem UF:C9 65:=Cb (by kernel_rfl)
theorem VA:C9 66:=Cb (by kernel_rfl)
theorem Yn:C9 67:=Cb (by kernel_rfl)
theorem VB:C9 68:=Cb (by kernel_rfl)
theorem Yo:C9 69:=Cb (by kernel_rfl)
theorem Yp:C9 70:=Cb (by kernel_rfl)
theorem Yq:C9 71:=Cb (by kernel_rfl)
theorem Yr:C9 72:=Cb (by kernel_rfl)
theorem VC:C9 73:=Cb (by kernel_rfl)
theorem UG:C9 74:=Cb (by kernel_rfl)
theorem UH:C9 75:=Cb (by kernel_rfl)
theorem VD:C9 76:=Cb (by kernel_rfl)
theorem UI:C9 77:=Cb (by kernel_rfl)
theorem Ys:C9 78:=Cb (by kernel_rfl)
theorem Yt:C9 79:=Cb (by kernel_rfl)
theorem Yu:C9 80:=Cb (by kernel_rfl)
theorem VE:C9 81:=Cb (by kernel_rfl)
theorem NK:C9 82:=Cb (by kernel_rfl)
theorem VF:C9 86:=Cb (by kernel_rfl)
theorem VG:C9 87:=Cb (by kernel_rfl)
theorem Yw:C9 91:=Cb (by kernel_rfl)
theorem KC:C9 93:=Cb (by kernel_rfl)
theorem Yx:C9 97:=Cb (by kernel_rfl)
theorem VH:C9 108:=Cb (by kernel_rfl)
theorem Tn:C9 109:=Cb (by kernel_rfl)
theorem Rh:C9 110:=Cb (by kernel_rfl)
theorem EC:C9 111:=Cb (by kernel_rfl)
theorem IV:C9 112:=Cb (by kernel_rfl)
theorem VI:C9 113:=Cb (by kernel_rfl)
theorem VJ:C9 114:=Cb (by kernel_rfl)
theorem VK:C9 115:=Cb (by kernel_rfl)
theorem Ri:C9 116:=Cb (by kernel_rfl)
theorem Rj:C9 117:=Cb (by kernel_rfl)
theorem OM:C9 118:=Cb (by kernel_rfl)
theorem VL:C9 119:=Cb (by kernel_rfl)
theorem To:C9 120:=Cb (by kernel_rfl)
theorem VM:C9 121:=Cb (by kernel_rfl)
theorem VN:C9 122:=Cb (by kernel_rfl)
theorem Tp:C9 123:=Cb (by kernel_rfl)
theorem Rk:C9 124:=Cb (by kernel_rfl)
theorem VO:C9 125:=Cb (by kernel_rfl)
theorem VP:C9 126:=Cb (by kernel_rfl)
theorem VQ:C9 127:=Cb (by kernel_rfl)
theorem Tq:C9 128:=Cb (by kernel_rfl)
theorem VR:C9 129:=Cb (by kernel_rfl)
theorem Na:C9 130:=Cb (by kernel_rfl)
theorem Rl:C9 131:=Cb (by kernel_rfl)
theorem LY:C9 132:=Cb (by kernel_rfl)
theorem VS:C9 137:=Cb (by kernel_rfl)
theorem VT:C9 138:=Cb (by kernel_rfl)
theorem VU:C9 148:=Cb (by kernel_rfl)
theorem Rm:C9 149:=Cb (by kernel_rfl)
theorem VV:C9 150:=Cb (by kernel_rfl)
theorem FB:C9 151:=Cb (by kernel_rfl)
theorem Tr:C9 152:=Cb (by kernel_rfl)
theorem VW:C9 153:=Cb (by kernel_rfl)
theorem VX:C9 154:=Cb (by kernel_rfl)
theorem DA:C9 155:=Cb (by kernel_rfl)
theorem Ts:C9 156:=Cb (by kernel_rfl)
theorem VY:C9 157:=Cb (by kernel_rfl)
theorem VZ:C9 158:=Cb (by kernel_rfl)
theorem Tt:C9 159:=Cb (by kernel_rfl)
theorem ON:C9 160:=Cb (by kernel_rfl)
theorem OO:C9 161:=Cb (by kernel_rfl)
theorem KD:C9 162:=Cb (by kernel_rfl)
theorem GS:C9 163:=Cb (by kernel_rfl)
theorem X0:C9 164:=Cb (by kernel_rfl)
theorem Tu:C9 165:=Cb (by kernel_rfl)
theorem FO:C9 166:=Cb (by kernel_rfl)
theorem Rn:C9 167:=Cb (by kernel_rfl)
theorem KE:C9 168:=Cb (by kernel_rfl)
theorem Tv:C9 169:=Cb (by kernel_rfl)
theorem Hv:C9 170:=Cb (by kernel_rfl)
theorem OP:C9 171:=Cb (by kernel_rfl)
theorem X1:C9 172:=Cb (by kernel_rfl)
theorem Tw:C9 173:=Cb (by kernel_rfl)
theorem OQ:C9 174:=Cb (by kernel_rfl)
theorem X2:C9 175:=Cb (by kernel_rfl)
theorem X3:C9 191:=Cb (by kernel_rfl)
theorem Tx:C9 192:=Cb (by kernel_rfl)
theorem OR:C9 193:=Cb (by kernel_rfl)
theorem Nb:C9 194:=Cb (by kernel_rfl)
theorem X4:C9 195:=Cb (by kernel_rfl)
theorem Ty:C9 196:=Cb (by kernel_rfl)
theorem X5:C9 197:=Cb (by kernel_rfl)
theorem X6:C9 198:=Cb (by kernel_rfl)
theorem Tz:C9 199:=Cb (by kernel_rfl)
theorem X7:C9 200:=Cb (by kernel_rfl)
theorem OS:C9 201:=Cb (by kernel_rfl)
theorem Ro:C9 202:=Cb (by kernel_rfl)
theorem TA:C9 203:=Cb (by kernel_rfl)
theorem X8:C9 204:=Cb (by kernel_rfl)
theorem TB:C9 205:=Cb (by kernel_rfl)
theorem TC:C9 206:=Cb (by kernel_rfl)
theorem X9:C9 207:=Cb (by kernel_rfl)
theorem Xa:C9 208:=Cb (by kernel_rfl)
theorem Xb:C9 209:=Cb (by kernel_rfl)
theorem Xc:C9 224:=Cb (by kernel_rfl)
theorem Xd:C9 225:=Cb (by kernel_rfl)
theorem Xe:C9 226:=Cb (by kernel_rfl)
theorem Xf:C9 227:=Cb (by kernel_rfl)
theorem Xg:C9 228:=Cb (by kernel_rfl)
theorem Xh:C9 233:=Cb (by kernel_rfl)
theorem Xi:C9 234:=Cb (by kernel_rfl)
theorem AS:CG Tryz.prog 2:=by unfold CG;kernel_rfl
theorem Lc:CG Tryz.prog 3:=by unfold CG;kernel_rfl
theorem Yy:CG Tryz.prog 4:=by unfold CG;kernel_rfl
theorem Yz:CG Tryz.prog 5:=by unfold CG;kernel_rfl
theorem IW:CG Tryz.prog 9:=by unfold CG;kernel_rfl
theorem OT:CG Tryz.prog 22:=by unfold CG;kernel_rfl
theorem CA:CG Tryz.prog 25:=by unfold CG;kernel_rfl
theorem Bu:CG Tryz.prog 43:=by unfold CG;kernel_rfl
theorem AY:CG Tryz.prog 57:=by unfold CG;kernel_rfl
theorem I9:CG Tryz.prog 65:=by unfold CG;kernel_rfl
theorem TD:CG Tryz.prog 98:=by unfold CG;kernel_rfl
theorem Ml:CG Tryz.prog 129:=by unfold CG;kernel_rfl
theorem Ia:(Tryz.prog.info? 2).map (·.size)=some 1:=by kernel_rfl
theorem Z0:(Tryz.prog.info? 3).map (·.size)=some 1:=by kernel_rfl
theorem Pq:(Tryz.prog.info? 25).map (·.size)=some 1:=by kernel_rfl
theorem Rp:(Tryz.prog.info? 43).map (·.size)=some 1:=by kernel_rfl
theorem FH:(Tryz.prog.info? 57).map (·.size)=some 1:=by kernel_rfl
theorem TE:(Tryz.prog.info? 129).map (·.size)=some 1:=by kernel_rfl
theorem BZ:TI Tryz.prog 2 1 (.int .i64 0) 8:=by unfold TI;kernel_rfl
theorem XK:TI Tryz.prog 5 1 (.int .u8 0) 1:=by unfold TI;kernel_rfl
theorem Z1:TI Tryz.prog 9 1 (.string ByteArray.empty) 16:=by unfold TI;kernel_rfl
theorem Cy:TI Tryz.prog 25 1 (.slice none 0 0) 24:=by unfold TI;kernel_rfl
theorem u2:Tryz.prog.underlying 2=some (.int .i64):=by kernel_rfl
theorem u3:Tryz.prog.underlying 3=some (.int .i64):=by kernel_rfl
theorem u4:Tryz.prog.underlying 4=some (.bool):=by kernel_rfl
theorem u5:Tryz.prog.underlying 5=some (.int .u8):=by kernel_rfl
theorem u9:Tryz.prog.underlying 9=some (.string):=by kernel_rfl
theorem Nl:Tryz.prog.underlying 22=some (.slice 5):=by kernel_rfl
theorem BF:Tryz.prog.underlying 25=some (.slice 2):=by kernel_rfl
theorem DB:Tryz.prog.underlying 43=some (.slice 59):=by kernel_rfl
theorem BG:Tryz.prog.underlying 57=some (.slice 105):=by kernel_rfl
theorem YB:Tryz.prog.underlying 77=some (.slice 9):=by kernel_rfl
theorem Ck:Tryz.prog.underlying 116=some (.slice 25):=by kernel_rfl
theorem ST:Tryz.prog.underlying 129=some (.int .u64):=by kernel_rfl
theorem Bz:EU Tryz.prog 45 1=true:=by kernel_rfl
theorem IX:(Tryz.prog.info? 45).map (·.zero)=some (some (.agg #[.slice none 0 0])):=by kernel_rfl
theorem B7:GZ Tryz.prog 45 0 0=true:=by kernel_rfl
theorem Di:EU Tryz.prog 59 3=true:=by kernel_rfl
theorem JD:(Tryz.prog.info? 59).map (·.zero)=some (some (.agg #[.string ByteArray.empty,.int .i64 0,.slice none 0 0])):=by kernel_rfl
theorem C1:TI Tryz.prog 59 3 (.agg #[.string ByteArray.empty,.int .i64 0,.slice none 0 0]) 48:=by unfold TI;kernel_rfl
theorem EI:GZ Tryz.prog 59 0 0=true:=by kernel_rfl
theorem C4:GZ Tryz.prog 59 1 1=true:=by kernel_rfl
theorem Bp:GZ Tryz.prog 59 2 2=true:=by kernel_rfl
theorem EJ:EU Tryz.prog 103 1=true:=by kernel_rfl
theorem Xj:(Tryz.prog.info? 103).map (·.zero)=some (some (.agg #[.slice none 0 0])):=by kernel_rfl
theorem K8:GZ Tryz.prog 103 0 0=true:=by kernel_rfl
theorem Az:EU Tryz.prog 105 5=true:=by kernel_rfl
theorem BU:(Tryz.prog.info? 105).map (·.zero)=some (some (.agg #[.int .i64 0,.int .i64 0,.int .i64 0,.int .i64 0,.slice none 0 0])):=by kernel_rfl
theorem AP:TI Tryz.prog 105 5 (.agg #[.int .i64 0,.int .i64 0,.int .i64 0,.int .i64 0,.slice none 0 0]) 56:=by unfold TI;kernel_rfl
theorem B6:GZ Tryz.prog 105 0 0=true:=by kernel_rfl
theorem BB:GZ Tryz.prog 105 1 1=true:=by kernel_rfl
theorem CM:GZ Tryz.prog 105 2 2=true:=by kernel_rfl
theorem CT:GZ Tryz.prog 105 3 3=true:=by kernel_rfl
theorem AQ:GZ Tryz.prog 105 4 4=true:=by kernel_rfl
theorem Bl:EU Tryz.prog 159 3=true:=by kernel_rfl
theorem Nc:(Tryz.prog.info? 159).map (·.zero)=some (some (.agg #[.slice none 0 0,.slice none 0 0,.int .i64 0])):=by kernel_rfl
theorem OU:GZ Tryz.prog 159 0 0=true:=by kernel_rfl
theorem OV:GZ Tryz.prog 159 1 1=true:=by kernel_rfl
theorem FP:GZ Tryz.prog 159 2 2=true:=by kernel_rfl
theorem E1:EU Tryz.prog 166 3=true:=by kernel_rfl
theorem OW:(Tryz.prog.info? 166).map (·.zero)=some (some (.agg #[.int .i64 0,.slice none 0 0,.slice none 0 0])):=by kernel_rfl
theorem HY:GZ Tryz.prog 166 0 0=true:=by kernel_rfl
theorem FQ:GZ Tryz.prog 166 1 1=true:=by kernel_rfl
theorem GJ:GZ Tryz.prog 166 2 2=true:=by kernel_rfl
theorem OX:GZ Tryz.prog 174 0 0=true:=by kernel_rfl
theorem SU:GZ Tryz.prog 174 1 1=true:=by kernel_rfl
theorem K9:GZ Tryz.prog 174 2 2=true:=by kernel_rfl
theorem GK:GZ Tryz.prog 174 3 3=true:=by kernel_rfl
theorem SW:GZ Tryz.prog 180 0 0=true:=by kernel_rfl
theorem Mm:GZ Tryz.prog 180 1 1=true:=by kernel_rfl
theorem Ka:GZ Tryz.prog 180 2 2=true:=by kernel_rfl
theorem GL:GZ Tryz.prog 180 3 3=true:=by kernel_rfl
theorem ES:GZ Tryz.prog 185 0 0=true:=by kernel_rfl
theorem SX:GZ Tryz.prog 185 1 1=true:=by kernel_rfl
theorem Mn:GZ Tryz.prog 185 2 2=true:=by kernel_rfl
theorem SY:GZ Tryz.prog 185 3 3=true:=by kernel_rfl
theorem NL:EU Tryz.prog 202 2=true:=by kernel_rfl
theorem SZ:GZ Tryz.prog 202 0 0=true:=by kernel_rfl
theorem T0:GZ Tryz.prog 202 1 1=true:=by kernel_rfl
section
set_option maxHeartbeats 4000000
set_option maxRecDepth 100000
attribute [local irreducible] LW
theorem C7 (w:World)(n:Int)(low:Int)(high:Int)(_hn:CD n)(_hlow:CD low)(_hhigh:CD high)  :
  Calls Tryz.prog 93 #[zI n,zI low,zI high] w (fun e w'=>e=.returned (.bool (decide (low≤n) && decide (n≤high)))∧w'=w):=by
 refine Ay [zI n,zI low,zI high] 15 Tryz.func93 R R sM ?_;have a0:w=w:=rfl;refine YO R<|YN [0,0,0,0,0,0,0,0,0] R<|Af 2 R ?_;by_cases a1:low≤n;exact GP true R R (A5 a1) Aa<|Af 3 R<|Ed (decide (n≤high)) R R R (YX 10)<|Ac 2 R<|A1<|Al [6] R (.bool<|decide (n≤high)) R ⟨AV (by simp[*]),a0⟩;exact GP false R R (A6 a1) Aa<|Ac 6 R<|A1<|Al [6] R (.bool false) R ⟨AV (by simp[*]),a0⟩
theorem BT (w:World)(n:Int)(low:Int)(high:Int)(_hn:CD n)(_hlow:CD low)(_hhigh:CD high)  :
  Calls Tryz.prog 45 #[zI n,zI low,zI high] w (fun e w'=>e=.returned (.bool (decide (low≤n) && decide (n≤high)))∧w'=w):=by
 refine Ay [zI n,zI low,zI high] 15 Tryz.func45 R R sM ?_;have a0:w=w:=rfl;refine YO R<|YN [0,0,0,0,0,0,0,0,0] R<|Af 2 R ?_;by_cases a1:low≤n;exact GP true R R (A5 a1) Aa<|Af 3 R<|Ed (decide (n≤high)) R R R (YX 10)<|Ac 2 R<|A1<|Al [6] R (.bool<|decide (n≤high)) R ⟨AV (by simp[*]),a0⟩;exact GP false R R (A6 a1) Aa<|Ac 6 R<|A1<|Al [6] R (.bool false) R ⟨AV (by simp[*]),a0⟩
theorem Eo (w:World)(n:Int)(_hn:CD n)  :
  Calls Tryz.prog 174 #[zI n] w (fun e w'=>e=.returned (zI (md n))∧w'=w):=by
 refine Ay [zI n] 7 Tryz.func174 R R sM ?_;have a0:w=w:=rfl;exact YO R<|YN [0,0,0,0,0] R<|YQ R<|Ec (n.tmod 1000003) R R (by decide) R Aa<|AU (wr ((n.tmod 1000003)+(1000003:Nat))) R R R Aa<|Ec ((wr ((n.tmod 1000003)+(1000003:Nat))).tmod 1000003) R R (by decide) R Aa<|YP R<|A1<|Al [2] R (zI<|(wr ((n.tmod 1000003)+(1000003:Nat))).tmod 1000003) R ⟨Bi<|U4 n,a0⟩
theorem Nd (w:World)(a:Int)(b:Int)(_ha:CD a)(_hb:CD b)  :
  Calls Tryz.prog 175 #[zI a,zI b] w (fun e w'=>e=.returned (zI (md (a+b)))∧w'=w):=by
 refine Ay [zI a,zI b] 11 Tryz.func175 R R sM ?_;have a0:w=w:=rfl;exact YO R<|YN [0,0,0,0,0,0,0] R<|YQ R<|AT 174 [] [] [zI a] R R OQ Aa (zI<|md a) (fun wq=>Eo wq _ _ha)<|YQ R<|AT 174 [] [] [zI b] R R OQ Aa (zI<|md b) (fun wq=>Eo wq _ _hb)<|AU (wr ((md a)+(md b))) R R R Aa<|Ec ((wr ((md a)+(md b))).tmod 1000003) R R (by decide) R Aa<|YP R<|A1<|Al [4] R (zI<|(wr ((md a)+(md b))).tmod 1000003) R ⟨Bi<|O6 a b,a0⟩
theorem Mo (w:World)(a:Int)(b:Int)(_ha:CD a)(_hb:CD b)  :
  Calls Tryz.prog 137 #[zI a,zI b] w (fun e w'=>e=.returned (zI (md (a-b)))∧w'=w):=by
 refine Ay [zI a,zI b] 10 Tryz.func137 R R sM ?_;have a0:w=w:=rfl;exact YO R<|YN [0,0,0,0,0,0] R<|Af 2 R<|AT 174 [] [] [zI b] R R OQ Aa (zI<|md b) (fun wq=>Eo wq _ _hb)<|Dr (wr ((1000003:Nat)-(md b))) R R R Aa<|AT 175 [] [] [zI a,zI<|wr ((1000003:Nat)-(md b))] R R X2 Aa (zI<|md (a+(wr ((1000003:Nat)-(md b))))) (fun wq=>Nd wq _ _ _ha<|No _)<|YP R<|A1<|Al [4] R (zI<|md (a+(wr ((1000003:Nat)-(md b))))) R ⟨Bi<|PR a b,a0⟩
theorem UJ (n:Int)(h:n.tmod 1000003<((0:Nat):Int)):wr (n.tmod 1000003+((1000003:Nat):Int))=md n:=by have h1:=Cp n;have h2:=Fv n;have h3:=Cp (-n);have h4:=Fv (-n);rw[tm n]at h ⊢;split at h;omega;rename_i h0;rw[if_neg h0,Gh zO (by omega)];have e1:md (-(md (-n))+((1000003:Nat):Int))=md (-(md (-n))):=Sh _;rw[Ns,Int.neg_neg,PO zO (by omega)]at e1;exact e1
theorem UK (n:Int)(h:¬n.tmod 1000003<((0:Nat):Int)):n.tmod 1000003=md n:=by
  have h1:=Cp n;have h2:=Fv n;have h3:=Cp (-n);have h4:=Fv (-n);rw[tm n]at h ⊢;split;rfl;rename_i h0;rw[if_neg h0]at h;have e0:md (-n)=0:=by omega
  have e1:=Ns (-n);rw[e0,Int.neg_neg]at e1;rw[e0,← e1];rfl
theorem Rq {p:Prop}(h:p:=by first|exact Bi (UJ n (by assumption))|exact Bi (UK n (by assumption))):p:=h
theorem Da (w:World)(n:Int)(_hn:CD n)  :
  Calls Tryz.prog 132 #[zI n] w (fun e w'=>e=.returned (zI (md n))∧w'=w):=by
 refine Ay [zI n] 11 Tryz.func132 R R sM ?_;have a0:w=w:=rfl;refine YO R<|YN [0,0,0] R<|YQ R<|Ec (n.tmod 1000003) R R (by decide) R Aa<|YP R<|A0<|YN [0,0] R<|YQ R ?_;by_cases a1:n.tmod 1000003<((0:Nat):Int);exact AK true R R (A5 a1) Aa<|Ad<|Ah R<|Ab _ [0,0,0] R<|YQ R<|AU (wr ((n.tmod 1000003)+(1000003:Nat))) R R R Aa<|YP R<|YN [0,0] R<|Ac 2 R<|A1<|Al [2] R (zI<|wr ((n.tmod 1000003)+(1000003:Nat))) R ⟨Rq,a0⟩;exact AK false R R (A6 a1) Aa<|Ad<|Ai R<|A2<|YN [0,0] R<|Ac 2 R<|A1<|Al [2] R (zI<|n.tmod 1000003) R ⟨Rq,a0⟩
theorem JA (w:World)(a:Int)(b:Int)(_ha:CD a)(_hb:CD b)  :
  Calls Tryz.prog 86 #[zI a,zI b] w (fun e w'=>e=.returned (zI (md (a+b)))∧w'=w):=by
 refine Ay [zI a,zI b] 11 Tryz.func86 R R sM ?_;have a0:w=w:=rfl;exact YO R<|YN [0,0,0,0,0,0,0] R<|YQ R<|AT 132 [] [] [zI a] R R LY Aa (zI<|md a) (fun wq=>Da wq _ _ha)<|YQ R<|AT 132 [] [] [zI b] R R LY Aa (zI<|md b) (fun wq=>Da wq _ _hb)<|AU (wr ((md a)+(md b))) R R R Aa<|Ec ((wr ((md a)+(md b))).tmod 1000003) R R (by decide) R Aa<|YP R<|A1<|Al [4] R (zI<|(wr ((md a)+(md b))).tmod 1000003) R ⟨Bi<|O6 a b,a0⟩
theorem De (w:World)(a:Int)(b:Int)(_ha:CD a)(_hb:CD b)  :
  Calls Tryz.prog 82 #[zI a,zI b] w (fun e w'=>e=.returned (zI (md (a*b)))∧w'=w):=by
 refine Ay [zI a,zI b] 11 Tryz.func82 R R sM ?_;have a0:w=w:=rfl;exact YO R<|YN [0,0,0,0,0,0,0] R<|YQ R<|AT 132 [] [] [zI a] R R LY Aa (zI<|md a) (fun wq=>Da wq _ _ha)<|YQ R<|AT 132 [] [] [zI b] R R LY Aa (zI<|md b) (fun wq=>Da wq _ _hb)<|Ez (wr ((md a)*(md b))) R R R Aa<|Ec ((wr ((md a)*(md b))).tmod 1000003) R R (by decide) R Aa<|YP R<|A1<|Al [4] R (zI<|(wr ((md a)*(md b))).tmod 1000003) R ⟨Bi<|PQ a b,a0⟩
theorem JE (w:World)(a:Int)(b:Int)(_ha:CD a)(_hb:CD b)(hs:-9223372036854775808≤a-b∧a-b≤9223372036854775807) :
  Calls Tryz.prog 228 #[zI a,zI b] w (fun e w'=>e=.returned (zI (md (a-b)))∧w'=w):=by
 refine Ay [zI a,zI b] 9 Tryz.func228 R R sM ?_;have a0:w=w:=rfl;exact YO R<|YN [0,0,0,0,0] R<|Af 2 R<|Dr (wr (a-b)) R R R Aa<|AT 132 [] [] [zI<|wr (a-b)] R R LY Aa (zI<|md<|wr (a-b)) (fun wq=>Da wq _<|No _)<|YP R<|A1<|Al [4] R (zI<|md<|wr (a-b)) R ⟨Bi (by rw[Gh hs.1 hs.2]),a0⟩
theorem Mp {p:Prop}(h:p:=by exact⟨zO,by first|exact U7 hI.2 oM (by assumption)|exact Sk hI.2 oM (by assumption)⟩):p:=h
theorem Mq (w:World)(a:Int)(n:Int)(_ha:CD a)(_hn:CD n)  :
  Calls Tryz.prog 234 #[zI a,zI n] w (fun e w'=>e=.returned (zI (pw a n))∧w'=w):=by
 refine Ay [zI a,zI n] 25 Tryz.func234 R R sM ?_;have a0:w=w:=rfl;refine YO R<|A0<|YN [0,0] R<|YQ R ?_;by_cases a2:n<(0:Nat);exact AK true R R (A5 a2) Aa<|Ad<|Ah R<|YO R<|A1<|Aw<|Al [4] R (zI (0:Nat)) R ⟨Bi<|PT zV,a0⟩;refine AK false R R (A6 a2) Aa<|Ad<|Ai R<|A2<|YO R<|YN [0,0,0] R<|YQ R<|AT 132 [] [] [zI a] R R LY Aa (zI<|md a) (fun wq=>Da wq _ _ha)<|YP R<|A0<|A3 ?_;refine B3 (S:=Int×Int×Int) (fun⟨m,x,b⟩=>([(1,zI m),(5,zI x),(6,zI b)])) (fun⟨m,x,b⟩ W=>W=w∧(0≤m∧md (x*b ^ m.toNat)=md (a ^ n.toNat))∧m≤9223372036854775807∧(0≤x∧x<1000003)∧(0≤b∧b<1000003)) (fun⟨m,x,b⟩=>m.toNat) (n,(1:Nat),md a) ⟨rfl,rfl,rfl,trivial⟩ ⟨a0,(by exact⟨zO,MF a n.toNat⟩),oM,oM,(by exact CO _)⟩ ?_;clear a0;rintro⟨m,x,b⟩ ρ3 w3 ⟨a1,hI,hm,hx,hb⟩;refine A0<|YN [0,0] R<|YQ R ?_;by_cases a3:(0:Nat)<m;refine Cn true R R (A5 a3) Aa<|Ad<|Ah R<|A2<|A3<|A0<|YN [0,0,0] R<|YQ R<|Ec (m % 2) R R (by decide) (YY hI.1) Aa ?_;by_cases a4:m % 2=((1:Nat):Int);refine Av true R R (A5 a4) Aa<|Ad<|Ah R<|Ab _ [0,0,0,0] R<|Af 2 R<|AT 82 [] [] [zI x,zI b] R R NK Aa (zI<|md (x*b)) (fun wq=>De wq _ _ oM oM)<|YP R<|YN [0,0,0,0] R<|Af 2 R<|AT 82 [] [] [zI b,zI b] R R NK Aa (zI<|md (b*b)) (fun wq=>De wq _ _ oM oM)<|YP R<|Ab _ [0,0,0] R<|YQ R<|MB (m / 2) R R (by decide) (XD hI.1 hm) Aa<|YP R ?_;exact⟨(m / 2,md (x*b),md (b*b)),_,rfl,zR,⟨a1,Mp,oM,(by first|exact hx|exact CO _),(by exact CO _)⟩,zD⟩;exact Av false R R (A6 a4) Aa<|Ad<|Ai R<|A2<|YN [0,0,0,0] R<|Af 2 R<|AT 82 [] [] [zI b,zI b] R R NK Aa (zI<|md (b*b)) (fun wq=>De wq _ _ oM oM)<|YP R<|Ab _ [0,0,0] R<|YQ R<|MB (m / 2) R R (by decide) (XD hI.1 hm) Aa<|YP R ⟨(m / 2,x,md (b*b)),_,rfl,zR,⟨a1,Mp,oM,(by first|exact hx|exact CO _),(by exact CO _)⟩,zD⟩;exact Cn false R R (A6 a3) Aa<|Ad<|Ai R<|A4<|AI<|AI<|AF<|YN [0,0] R<|Ac 2 R<|A1<|Al [4] R (zI x) R ⟨Bi<|PS hI.2 hI.1 zV zV hx,a1⟩
theorem Mr (w:World)(a:Int)(n:Int)(_ha:CD a)(_hn:CD n)  :
  Calls Tryz.prog 233 #[zI a,zI n] w (fun e w'=>e=.returned (zI (pw a n))∧w'=w):=by
 refine Ay [zI a,zI n] 27 Tryz.func233 R R sM ?_;have a0:w=w:=rfl;refine YO R<|A0<|YN [0,0] R<|YQ R ?_;by_cases a2:n<(0:Nat);exact AK true R R (A5 a2) Aa<|Ad<|Ah R<|YO R<|A1<|Aw<|Al [4] R (zI (0:Nat)) R ⟨Bi<|PT zV,a0⟩;refine AK false R R (A6 a2) Aa<|Ad<|Ai R<|A2<|YO R<|A0<|YN [0,0,0] R<|YQ R<|AT 174 [] [] [zI a] R R OQ Aa (zI<|md a) (fun wq=>Eo wq _ _ha)<|YP R<|A3 ?_;refine B3 (S:=Int×Int×Int) (fun⟨m,x,b⟩=>([(1,zI m),(5,zI x),(6,zI b)])) (fun⟨m,x,b⟩ W=>W=w∧(0≤m∧md (x*b ^ m.toNat)=md (a ^ n.toNat))∧m≤9223372036854775807∧(0≤x∧x<1000003)∧(0≤b∧b<1000003)) (fun⟨m,x,b⟩=>m.toNat) (n,(1:Nat),md a) ⟨rfl,rfl,rfl,trivial⟩ ⟨a0,(by exact⟨zO,MF a n.toNat⟩),oM,oM,(by exact CO _)⟩ ?_;clear a0;rintro⟨m,x,b⟩ ρ3 w3 ⟨a1,hI,hm,hx,hb⟩;refine A0<|YN [0,0] R<|YQ R ?_;by_cases a3:(0:Nat)<m;refine Cn true R R (A5 a3) Aa<|Ad<|Ah R<|A2<|A0<|A3<|A0<|YN [0,0,0] R<|YQ R<|Ec (m % 2) R R (by decide) (YY hI.1) Aa ?_;by_cases a4:m % 2=((1:Nat):Int);refine Av true R R (A5 a4) Aa<|Ad<|Ah R<|Ab _ [0,0,0,0,0] R<|Af 2 R<|Ez (wr (x*b)) R R R Aa<|Ec (md (x*b)) R R (by decide) (MG hx hb) Aa<|YP R<|Ab _ [0,0,0,0,0] R<|Af 2 R<|Ez (wr (b*b)) R R R Aa<|Ec (md (b*b)) R R (by decide) (MG hb hb) Aa<|YP R<|Ab _ [0,0,0] R<|YQ R<|MB (m / 2) R R (by decide) (XD hI.1 hm) Aa<|YP R ?_;exact⟨(m / 2,md (x*b),md (b*b)),_,rfl,zR,⟨a1,Mp,oM,(by first|exact hx|exact CO _),(by exact CO _)⟩,zD⟩;exact Av false R R (A6 a4) Aa<|Ad<|Ai R<|A2<|Ab _ [0,0,0,0,0] R<|Af 2 R<|Ez (wr (b*b)) R R R Aa<|Ec (md (b*b)) R R (by decide) (MG hb hb) Aa<|YP R<|Ab _ [0,0,0] R<|YQ R<|MB (m / 2) R R (by decide) (XD hI.1 hm) Aa<|YP R ⟨(m / 2,x,md (b*b)),_,rfl,zR,⟨a1,Mp,oM,(by first|exact hx|exact CO _),(by exact CO _)⟩,zD⟩;exact Cn false R R (A6 a3) Aa<|Ad<|Ai R<|A4<|AI<|AI<|AF<|YN [0,0] R<|Ac 2 R<|A1<|Al [4] R (zI x) R ⟨Bi<|PS hI.2 hI.1 zV zV hx,a1⟩
theorem Ld (w:World)(a:Int)(_ha:CD a)  :
  Calls Tryz.prog 227 #[zI a] w (fun e w'=>e=.returned (zI (inv a))∧w'=w):=by
 refine Ay [zI a] 5 Tryz.func227 R R sM ?_;have a0:w=w:=rfl;exact YO R<|YN [0,0,0] R<|YQ R<|AT 234 [] [] [zI a,zI ((1000001:Nat):Int)] R R Xi Aa (zI<|pw a (1000001:Nat)) (fun wq=>Mq wq _ _ _ha oM)<|YP R<|A1<|Al [2] R (zI<|pw a (1000001:Nat)) R ⟨rfl,a0⟩
theorem KF (w:World)(a:Int)(_ha:CD a)  :
  Calls Tryz.prog 226 #[zI a] w (fun e w'=>e=.returned (zI (inv a))∧w'=w):=by
 refine Ay [zI a] 5 Tryz.func226 R R sM ?_;have a0:w=w:=rfl;exact YO R<|YN [0,0,0] R<|YQ R<|AT 233 [] [] [zI a,zI ((1000001:Nat):Int)] R R Xh Aa (zI<|pw a (1000001:Nat)) (fun wq=>Mr wq _ _ _ha oM)<|YP R<|A1<|Al [2] R (zI<|pw a (1000001:Nat)) R ⟨rfl,a0⟩
theorem GT (w:World)(n:Int)(_hn:CD n)  :
  Calls Tryz.prog 123 #[zI n] w (fun e w'=>e=.returned (.bool (I8 n))∧w'=w):=by
 refine Ay [zI n] 5 Tryz.func123 R R sM ?_;have a0:w=w:=rfl;exact YO R<|YN [0,0,0] R<|YQ R<|AT 93 [] [] [zI n,zI (0:Nat),zI ((1000002:Nat):Int)] R R KC Aa (.bool (decide ((0:Nat)≤n) && decide (n≤(1000002:Nat)))) (fun wq=>C7 wq _ _ _ _hn oM oM)<|YP R<|A1<|Al [2] R (.bool (decide ((0:Nat)≤n) && decide (n≤(1000002:Nat)))) R ⟨AV (by unfold I8;rfl),a0⟩
theorem Gt (w:World)(n:Int)(_hn:CD n)  :
  Calls Tryz.prog 169 #[zI n] w (fun e w'=>e=.returned (.bool (I8 n))∧w'=w):=by
 refine Ay [zI n] 5 Tryz.func169 R R sM ?_;have a0:w=w:=rfl;exact YO R<|YN [0,0,0] R<|YQ R<|AT 45 [] [] [zI n,zI (0:Nat),zI ((1000002:Nat):Int)] R R IU Aa (.bool (decide ((0:Nat)≤n) && decide (n≤(1000002:Nat)))) (fun wq=>BT wq _ _ _ _hn oM oM)<|YP R<|A1<|Al [2] R (.bool (decide ((0:Nat)≤n) && decide (n≤(1000002:Nat)))) R ⟨AV (by unfold I8;rfl),a0⟩
theorem I2 (w:World)(n:Int)(_hn:CD n)  :
  Calls Tryz.prog 122 #[zI n] w (fun e w'=>e=.returned (.bool (!I8 n))∧AB w w'):=by
 refine Ay [zI n] 6 Tryz.func122 R R sM ?_;have a0:AB w w:=AB.refl w;exact YO R<|YN [0,0,0,0] R<|YQ R<|AT 123 [] [] [zI n] R R Tp Aa (.bool<|I8 n) (fun wq=>GT wq _ _hn)<|BR (!(I8 n)) R R Aa<|YP R<|A1<|Al [2] R (.bool (!(I8 n))) R ⟨rfl,a0⟩
def Pt {α:Type}(p:α→Bool)(l:List α):Int:=if l.any p then((l.findIdx p:Nat):Int)else -1
theorem Rr {α:Type}{p:α→Bool}{l:List α}{k:Nat}(d:α)(h:∀j,j<k→p (l.getD j d)=false)(hk:k<l.length)(hp:p (l.getD k d)=true):((k:Nat):Int)=Pt p l:=by
  have e:∀j,(hj:j<l.length)→l.getD j d=l[j]:=fun j hj=>by simp[hj]
  have h1:l.any p=true:=List.any_eq_true.2 ⟨l[k],List.getElem_mem hk,by rw[← e k hk];exact hp⟩;have h2:l.findIdx p=k:=by
    rw[List.findIdx_eq hk];refine⟨by rw[← e k hk];exact hp,fun j hj=>?_⟩;have:=h j hj;rw[e j (by omega)]at this;exact this
  unfold Pt;rw[if_pos h1,h2]
theorem TF {α:Type}{p:α→Bool}{l:List α}{k:Nat}(d:α)(h:∀j,j<k→p (l.getD j d)=false)(hk:l.length≤k):(-1:Int)=Pt p l:=by
  have h1:l.any p=false:=by
    rw[List.any_eq_false]
    intro x hx;obtain⟨j,hj,rfl⟩:=List.getElem_of_mem hx;have:=h j zO;have e:l.getD j d=l[j]:=by simp[hj]
    rw[e]at this;simp[this]
  unfold Pt;rw[h1];rfl
theorem TG {α:Type}(p:α→Bool)(l:List α):decide (((0:Nat):Int)≤Pt p l)=l.any p:=by unfold Pt;split;rename_i h;rw[h];exact A5 zO;rename_i h;rw[Bool.not_eq_true]at h;rw[h];exact A6 zO
theorem OY {α:Type}{p:α→Bool}{l:List α}{k:Nat}{d:α}(h:∀j,j<k→p (l.getD j d)=false)(hp:p (l.getD k d)=false):∀j,j<k+1→p (l.getD j d)=false:=by intro j hj;by_cases e:j=k;subst e;exact hp;exact h j zO
theorem E7 (w:World) (va:Value) (a:Sr) (q:Nat) (qf qc:List Value) (p:Int→Bool) (ha:Rd (Be rI) w.heap va a) (hcf_q:((Tryz.prog.funcs[q]?).map fun fn=>(fn.name != "runtime.NumGoroutine") && fn.body.isSome) = some true) (hp:∀ (x:Int),CD x→∀ w1,AB w w1→Calls Tryz.prog q (qf++[Value.int .i64 x]++qc).toArray w1 (fun e w2=>e = .returned (.bool (p x))∧AB w1 w2))  :
  Calls Tryz.prog 138 #[va,.func (.func q) qf.toArray qc.toArray] w (fun e w'=>e = .returned (zI (Pt p a))∧AB w w'):=by
 refine Ay [va,.func (.func q) qf.toArray qc.toArray] 19 Tryz.func138 R R sM ?_;have a3:AB w w:=AB.refl w;have aa:=ha.lenle;refine YO R<|A0<|YN [0,0,0] R<|YQ R<|AZ (v:=va) BF R ha.isSl Aa<|YP R<|A3 ?_;refine B3 (S:=Nat) (fun k=>([(8,zI ((k :Nat):Int)),(0,va),(1,.func (.func q) qf.toArray qc.toArray),(7,zI ((a.length :Nat):Int))])) (fun k W=>AB w W∧k≤a.length∧(∀ j,j < k→p (a.getD j 0) = false)) (fun k=>a.length - k) 0 ⟨rfl,rfl,rfl,rfl,trivial⟩ ⟨a3,sD,(by intro j hj; omega)⟩ ?_;clear a3;rintro k ρ1 w1 ⟨a1,a4,hq⟩;have a7:w.heap.size≤w1.heap.size:=a1.size;refine YN [0] R ?_;by_cases a5:((k :Nat):Int) < ((a.length :Nat):Int);refine AK true R R (A5 a5) Aa<|Ad<|A0<|Ah R<|A2<|A0<|A3<|YN [0,0] R<|Ac 2 R<|YN [0,0,0,0,2,3] R<|Af 3 R<|AN (v:=va) k BF BZ R R ha.isSl R sD Aa ?_;refine Aj (p:=AH va k 1) (.inr R) (zI<|a.getD k 0) AS R (BE a1 (ha.getI sD).1) Aa ?_;have a0:=hp (a.getD k 0) (ha.getI sD).2 _ a1;refine An q qf qc _ R R hcf_q Aa a0 ?_;rintro e3 w3 ⟨rfl,a2⟩;refine ⟨_,rfl,a2,?_⟩;have a8:=a2.size;have a6:=a1.trans a2;cases a9:p (a.getD k 0);refine Ad<|Ai R<|A2<|Ab _ [0,0] R<|AU ((k + 1 :Nat):Int) R R (Bq oM sD) Aa<|YP R ?_;exact ⟨k + 1,_,rfl,zR,⟨a6,sD,(by exact OY hq zV)⟩,by first | omega | (dsimp only; omega)⟩;exact Ad<|Ah R<|YN [0,0] R<|Ac 2 R<|A1<|AM<|Aw<|Aw<|AM<|Aw<|Al [4] R (zI ((k :Nat):Int)) R ⟨Bi<|Rr 0 hq oM zV,a6⟩;exact AK false R R (A6 a5) Aa<|Ad<|A0<|Ai R<|A4<|AI<|AI<|AF<|YO R<|A1<|Al [4] R (zI (-1)) R ⟨Bi<|TF 0 hq oM,a1⟩
theorem DP (w:World) (va:Value) (a:Sr) (q:Nat) (qf qc:List Value) (p:Int→Bool) (ha:Rd (Be rI) w.heap va a) (hcf_q:((Tryz.prog.funcs[q]?).map fun fn=>(fn.name != "runtime.NumGoroutine") && fn.body.isSome) = some true) (hp:∀ (x:Int),CD x→∀ w1,AB w w1→Calls Tryz.prog q (qf++[Value.int .i64 x]++qc).toArray w1 (fun e w2=>e = .returned (.bool (p x))∧AB w1 w2))  :
  Calls Tryz.prog 91 #[va,.func (.func q) qf.toArray qc.toArray] w (fun e w'=>e = .returned (.bool (a.any p))∧AB w w'):=by
 refine Ay [va,.func (.func q) qf.toArray qc.toArray] 9 Tryz.func91 R R sM ?_;have a0:AB w w:=AB.refl w;have a4:=ha.lenle;refine YO R<|YN [0,0,3,0,0] R<|Af 2 R<|An 138 [] [] [va,.func (.func q) qf.toArray qc.toArray] R R VT Aa (E7 _ _ _ q qf qc p (ha.ext g1 a0) hcf_q fun x hx w1 hw=>hp x hx w1<|a0.trans hw) ?_;rintro e1 w1 ⟨rfl,a1⟩;refine ⟨_,rfl,a1,?_⟩;have a2:=a1.size;have a3:=a0.trans a1;exact GP (decide (((0 :Nat):Int)≤Pt p a)) R R R Aa<|YP R<|A1<|Al [4] R (.bool<|decide (((0 :Nat):Int)≤Pt p a)) R ⟨AV<|TG p a,a3⟩
theorem EW (w:World)(va:Value)(a:Sr)(ha:Rd (Be rI) w.heap va a)(hla:a.length≤1000000000000) :
  Calls Tryz.prog 125 #[va] w (fun e w'=>∃v0:Value,e=.returned (v0)∧AB w w'∧Fr (BH rI 2) w.heap.size w'.heap.size w'.heap v0 a):=by
 refine Ay [va] 8 Tryz.func125 R R sM ?_;have a1:AB w w:=AB.refl w;have ac:=ha.lenle;refine YO R<|A0<|YN [0,0] R<|YQ R ?_;cases a2:Nq va;refine PD (v:=va) false BF R R ha.isSl a2 Aa<|Ad<|Ai R<|A2<|YN [3,0,4,0] R (DS (rI) B8 BF BZ Aa fun v2 w2 a3 ab a5=>?_);have a6:=a3.size;have a0:=a1.trans a3;refine YQ R (Cd (v:=v2) (a:=va) BF BZ R R R a5 a0.size (ha.ext g1 a0) sD (by unfold maxLen;first|omega|assumption|(simp;done)|(simp;omega)) Aa fun v3 w3 F3 a4 a7 a8=>?_);have a9:AB w w3:=a4.below a0 (fun c hc=>A8 (A7 _) (a7 c hc).1) a0.size;have aa:=a4.size;exact YP R<|A1<|Al [2] R v3 R ⟨v3,rfl,a9,a8.up o1⟩;refine PD (v:=va) true BF R R ha.isSl a2 Aa<|Ad<|Ah R<|YO R<|A1<|Aw ?_;have hnil:a=[]:=ha.nil_of zV;subst hnil;exact Al [2] R zN R ⟨zN,rfl,a1,I6 _ _ _⟩
theorem Ep (w:World)(va:Value)(a:Sr)(count:Int)(ha:Rd (Be rI) w.heap va a)(_hcount:CD count)  :
  Calls Tryz.prog 74 #[va,zI count] w (fun e w'=>e=.returned (.bool (decide ((a.length:Int)=count) && BA a))∧AB w w'):=by
 refine Ay [va,zI count] 14 Tryz.func74 R R sM ?_;have a0:AB w w:=AB.refl w;have a5:=ha.lenle;refine YO R<|YN [0,0,0,0,0,0,3,0,0,0] R<|YQ R<|AZ (v:=va) BF R ha.isSl Aa<|YQ R ?_;by_cases a2:(a.length:Int)=count;refine Av true R R (A5 a2) Aa<|Af 2 R<|An 91 [] [] [va,.func (.func 122) #[] #[]] R R Yw (YX 9) (DP _ _ _ 122 [] [] (fun x=>!I8 x) (ha.ext g1 a0) VN fun x hx w1 hw=>I2 w1 x hx) ?_;rintro e2 w2 ⟨rfl,a1⟩;refine⟨_,rfl,a1,?_⟩;have a3:=a1.size;have a4:=a0.trans a1;exact BR (!(a.any fun x=>!I8 x)) R R (YX 9)<|Ac 2 R<|A1<|Al [4] R (.bool (!(a.any fun x=>!I8 x))) R ⟨AV (by first|(rw[O8];simp[*];done)|simp[*]),a4⟩;exact Av false R R (A6 a2) Aa<|Ac 6 R<|A1<|Al [4] R (.bool false) R ⟨AV (by first|(rw[O8];simp[*];done)|simp[*]),a0⟩
theorem IY (w:World)(va:Value)(a:Sr)(ha:Rd (Be rI) w.heap va a)  :
  Calls Tryz.prog 127 #[va] w (fun e w'=>e=.returned (.bool (BA a))∧AB w w'):=by
 refine Ay [va] 16 Tryz.func127 R R sM ?_;have a1:AB w w:=AB.refl w;have a6:=ha.lenle;refine YO R<|A0<|YO R<|A3<|B3 (S:=Nat) (fun k=>([(3,zI (k:Int)),(0,va)])) (fun k W=>AB w W∧k≤a.length∧((a.take k).all I8=true)) (fun k=>a.length-k) 0 ⟨rfl,rfl,trivial⟩ ⟨a1,sD,(by exact PU _ _)⟩ ?_;clear a1;rintro k ρ1 w1 ⟨a0,a2,hq⟩;have a5:w.heap.size≤w1.heap.size:=a0.size;refine A0<|YN [0,0,0,0] R<|Af 2 R<|AZ (v:=va) BF R ha.isSl Aa ?_;by_cases a3:(k:Int)<(a.length:Int);refine AK true R R (A5 a3) Aa<|Ad<|Ah R<|A2<|A0<|A3<|YN [0,0,0,2,0,0] R<|Af 2 R<|AN (v:=va) k BF BZ R R ha.isSl R sD Aa ?_;refine Aj (p:=AH va k 1) (.inr R) (zI<|a.getD k 0) AS R (BE a0 (ha.getI sD).1) Aa ?_;refine AT 169 [] [] [zI<|a.getD k 0] R R Tv Aa (.bool<|I8<|a.getD k 0) (fun wq=>Gt wq _ (ha.getI sD).2)<|BR (!(I8<|a.getD k 0)) R R Aa<|Ad ?_;cases a4:(!(I8 (a.getD k 0)));refine Ai (by first|rfl|exact zW a4)<|A2<|Ab _ [0,0,0] R<|YQ R<|AU ((k+1:Nat):Int) R R (Bq oM sD) Aa<|YP R ?_;exact⟨k+1,_,rfl,⟨rfl,rfl,trivial⟩,⟨a0,sD,(by exact PW 0 hq oM (by simpa using ‹(!I8 (a.getD k 0))=false›))⟩,zD⟩;exact Ah (by first|rfl|exact zW a4)<|YO R<|A1<|AM<|Aw<|Aw<|AM<|Aw<|Al [2] R (.bool false) R ⟨AV (PX (k:=k) 0 oM (by simpa using ‹(!I8 (a.getD k 0))=true›)).symm,a0⟩;exact AK false R R (A6 a3) Aa<|Ad<|Ai R<|A4<|AI<|AI<|AF<|YO R<|A1<|Al [2] R (.bool true) R ⟨AV (PY hq oM).symm,a0⟩
theorem BC (w:World)(va:Value)(a:Sr)(ha:Rd (Be rI) w.heap va a)(hla:a.length≤1000000000000) :
  Calls Tryz.prog 151 #[va] w (fun e w'=>∃v0:Value,e=.returned (v0)∧AB w w'∧Fr (BH rI 2) w.heap.size w'.heap.size w'.heap v0 a):=by
 refine Ay [va] 6 Tryz.func151 R R sM ?_;have a3:AB w w:=AB.refl w;have ab:=ha.lenle;refine YO R<|YN [3,0,4,0] R (DS (rI) B8 BF BZ Aa fun v1 w1 a1 aa a4=>?_);have a5:=a1.size;have a0:=a3.trans a1;refine YQ R (Cd (v:=v1) (a:=va) BF BZ R R R a4 a0.size (ha.ext g1 a0) sD (by unfold maxLen;first|omega|assumption|(simp;done)|(simp;omega)) Aa fun v2 w2 F2 a2 a6 a7=>?_);have a8:AB w w2:=a2.below a0 (fun c hc=>A8 (A7 _) (a6 c hc).1) a0.size;have a9:=a2.size;exact YP R<|A1<|Al [2] R v2 R ⟨v2,rfl,a8,a7.up o1⟩
theorem GU (w:World)(va:Value)(a:Sr)(y:Int)(ha:Rd (Be rI) w.heap va a)(_hy:CD y)(hla:a.length≤1000000000000) :
  Calls Tryz.prog 203 #[va,zI y] w (fun e w'=>∃v0:Value,e=.returned (v0)∧AB w w'∧Fr (BH rI 2) w.heap.size w'.heap.size w'.heap v0 (scl a y)):=by
 refine Ay [va,zI y] 24 Tryz.func203 R R sM ?_;have a7:AB w w:=AB.refl w;have am:=ha.lenle;refine YO R<|YN [3,0] R (DS (rI) B8 BF BZ Aa fun v1 w1 a3 ad a8=>?_);have a4:=a3.size;have a9:=a7.trans a3;refine YP R<|A0<|YO R<|A3 ?_;refine B3 (S:=Nat×Value) (fun⟨k,vo⟩=>([(5,vo),(6,zI (k:Int)),(0,va),(1,zI y)])) (fun⟨k,vo⟩ W=>AB w W∧Fr (BH rI 2) w.heap.size W.heap.size W.heap vo ((a.take k).map fun x=>md (x*y))∧k≤a.length) (fun⟨k,vo⟩=>a.length-k) (0,v1) ⟨rfl,rfl,rfl,rfl,trivial⟩ ⟨a9,a8.up o1,sD⟩ ?_;clear a7 a8 ad a3 a4 a9;rintro⟨k,vo⟩ ρ2 w2 ⟨a2,a1,aa⟩;have ae:w.heap.size≤w2.heap.size:=a2.size;refine A0<|YN [0,0,0,0] R<|Af 2 R<|AZ (v:=va) BF R ha.isSl Aa ?_;by_cases ab:(k:Int)<(a.length:Int);refine AK true R R (A5 ab) Aa<|Ad<|Ah R<|A2<|A0<|A3<|Ab _ [0,0,0,0,2,0,0,3,4,0] R<|Af 3 R<|AN (v:=va) k BF BZ R R ha.isSl R sD Aa ?_;refine Aj (p:=AH va k 1) (.inr R) (zI<|a.getD k 0) AS R (BE a2 (ha.getI sD).1) Aa<|YQ R ?_;refine AT 82 [] [] [zI<|a.getD k 0,zI y] R R NK Aa (zI<|md ((a.getD k 0)*y)) (fun wq=>De wq _ _ (ha.getI sD).2 _hy) (BW (u:=zI<|md ((a.getD k 0)*y)) (B:=w2.heap.size) B8 BF BZ R R (I7 w2.heap.size w2.heap.size _ _<|FR _) (A7 _) Aa fun v5 w5 a5 al af=>?_);have ag:=a5.size;have a6:=a2.trans a5;have a0:=a1.ext (o1) a5;refine Cd (v:=vo) (a:=v5) BF BZ R R R a0 a6.size af.rd1 sD (by unfold maxLen;first|omega|assumption|(simp;done)|(simp;omega)) Aa fun v6 w6 F6 ac ah ai=>?_;have aj:AB w w6:=ac.below a6 (fun c hc=>A8 (A7 _) (ah c hc).1) a6.size;have ak:=ac.size;refine YP R<|Ab _ [0,0,0] R<|YQ R<|AU ((k+1:Nat):Int) R R (Bq oM sD) Aa<|YP R ?_;exact⟨(k+1,v6),_,rfl,zR,⟨aj,(by rw[Gi 0 oM];exact ai.up o1),sD⟩,zD⟩;exact AK false R R (A6 ab) Aa<|Ad<|Ai R<|A4<|AI<|AI<|AF<|YN [0,0] R<|Ac 2 R<|A1<|Al [4] R vo R ⟨vo,rfl,a2,(by have h:=a1.up o1;rwa [za oM]at h)⟩
theorem Ib (w:World)(va:Value)(a:Sr)(y:Int)(ha:Rd (Be rI) w.heap va a)(_hy:CD y)(hla:a.length≤1000000000000)(hqa:BA a=true)(hy:0≤y∧y<1000003) :
  Calls Tryz.prog 199 #[va,zI y] w (fun e w'=>∃v0:Value,e=.returned (v0)∧AB w w'∧Fr (BH rI 2) w.heap.size w'.heap.size w'.heap v0 (EV a y)):=by
 refine Ay [va,zI y] 27 Tryz.func199 R R sM ?_;have a4:AB w w:=AB.refl w;have ah:=ha.lenle;refine YO R<|YN [0,0,3,0] R<|YQ R<|AZ (v:=va) BF R ha.isSl Aa (Ih (n:=a.length) BF BZ R R R sD Aa fun v1 w1 a2 aa a5=>?_);have a3:=a2.size;have a6:=a4.trans a2;refine YP R<|A0<|YN [0,0,0] R<|YQ R<|AZ (v:=va) BF R ha.isSl Aa<|YP R<|A3 ?_;refine B3 (S:=Nat) (fun k=>([(12,zI (k:Int)),(0,va),(1,zI y),(5,v1),(11,zI (a.length:Int))])) (fun k W=>AB w W∧Fr (BH rI 2) w.heap.size W.heap.size W.heap v1 (H9 k (EV a y)<|List.replicate a.length 0)∧k≤a.length) (fun k=>a.length-k) 0 ⟨rfl,rfl,rfl,rfl,rfl,trivial⟩ ⟨a6,(by rw[IK];exact a5.up o1),sD⟩ ?_;clear a4 a5 aa a2 a3 a6;rintro k ρ2 w2 ⟨a1,a0,a7⟩;have ab:w.heap.size≤w2.heap.size:=a1.size;have hml:=IL k (EV a y) (List.replicate a.length 0) sM;rw[z5]at hml;have hga:=CI hqa k;refine YN [0] R ?_;by_cases a8:(k:Int)<(a.length:Int);refine AK true R R (A5 a8) Aa<|Ad<|A0<|Ah R<|A2<|A0<|A3<|YN [0,0] R<|Ac 2 R<|Ab _ [0,0,0,0,0,2,0,0,0,0,4] R<|Af 4 R<|AN (v:=va) k BF BZ R R ha.isSl R sD Aa ?_;refine Aj (p:=AH va k 1) (.inr R) (zI<|a.getD k 0) AS R (BE a1 (ha.getI sD).1) Aa<|YQ R<|Ez (wr ((a.getD k 0)*y)) R R R Aa<|Ec (md (a.getD k 0*y)) R R (by decide) (MG hga hy) Aa ?_;refine AN (v:=v1) k BF BZ R R a0.isSl R sD Aa (Hl (v:=v1) (w:=w2) Ia R R (FR _) a0 sD Aa fun w4 F4 a9 ag ac ad=>?_);have ae:AB w w4:=a9.below a1 (fun c hc=>A8 (A7 _) (ac c hc).1) a1.size;have af:=a9.size;refine Ad<|Ab _ [0,0] R<|AU ((k+1:Nat):Int) R R (Bq oM sD) Aa<|YP R ?_;exact⟨k+1,_,rfl,zR,⟨ae,(by unfold EV;rw[M6 sM oM];exact ad.up o1),sD⟩,zD⟩;exact AK false R R (A6 a8) Aa<|Ad<|A0<|Ai R<|A4<|AI<|AI<|AF<|YN [0,0] R<|Ac 2 R<|A1<|Al [4] R v1 R ⟨v1,rfl,a1,(by have h:=a0.up o1;rwa [JT sM (by simp;omega)]at h)⟩
theorem IZ (w:World)(va:Value)(a:Sr)(vb:Value)(b:Sr)(ha:Rd (Be rI) w.heap va a)(hb:Rd (Be rI) w.heap vb b)(hla:a.length≤1000000000000)(hl:a.length≤b.length)(hqa:BA a=true)(hqb:BA b=true) :
  Calls Tryz.prog 196 #[va,vb] w (fun e w'=>∃v0:Value,e=.returned (v0)∧AB w w'∧Fr (BH rI 2) w.heap.size w'.heap.size w'.heap v0 (Ew a b)):=by
 refine Ay [va,vb] 30 Tryz.func196 R R sM ?_;have a5:AB w w:=AB.refl w;have ah:=ha.lenle;have ai:=hb.lenle;refine YO R<|YN [0,0,3,0] R<|YQ R<|AZ (v:=va) BF R ha.isSl Aa (Ih (n:=a.length) BF BZ R R R sD Aa fun v1 w1 a3 aa a6=>?_);have a4:=a3.size;have a7:=a5.trans a3;refine YP R<|A0<|YN [0,0,0] R<|YQ R<|AZ (v:=va) BF R ha.isSl Aa<|YP R<|A3 ?_;refine B3 (S:=Nat) (fun k=>([(12,zI (k:Int)),(0,va),(1,vb),(5,v1),(11,zI (a.length:Int))])) (fun k W=>AB w W∧Fr (BH rI 2) w.heap.size W.heap.size W.heap v1 (H9 k (Ew a b)<|List.replicate a.length 0)∧k≤a.length) (fun k=>a.length-k) 0 ⟨rfl,rfl,rfl,rfl,rfl,trivial⟩ ⟨a7,(by rw[IK];exact a6.up o1),sD⟩ ?_;clear a5 a6 aa a3 a4 a7;rintro k ρ2 w2 ⟨a1,a0,a8⟩;have ab:w.heap.size≤w2.heap.size:=a1.size;have hml:=IL k (Ew a b) (List.replicate a.length 0) sM;rw[z5]at hml;have hga:=CI hqa k;have hgb:=CI hqb k;refine YN [0] R ?_;by_cases a9:(k:Int)<(a.length:Int);refine AK true R R (A5 a9) Aa<|Ad<|A0<|Ah R<|A2<|A0<|A3<|YN [0,0] R<|Ac 2 R<|AR _ [0,0,0,0,0,1,0,0,0,1,0,0,0,4] mixed zK<|Af 4 R<|AN (v:=va) k BF BZ R R ha.isSl R sD Aa ?_;refine Aj (p:=AH va k 1) (.inl R) (zI<|a.getD k 0) AS R (BE a1.drew (ha.getI sD).1) Aa<|Af 2 R ?_;refine AN (v:=vb) k BF BZ R R hb.isSl R sD Aa ?_;refine Aj (p:=AH vb k 1) (.inl R) (zI<|b.getD k 0) AS R (BE a1.drew (hb.getI sD).1) Aa<|AU (wr ((a.getD k 0)+(b.getD k 0))) R R R Aa<|Ec (md (a.getD k 0+b.getD k 0)) R R (by decide) (Sp hga hgb) Aa ?_;refine AN (v:=v1) k BF BZ R R a0.isSl R sD Aa (Hl (v:=v1) (w:=w2.drew) Ia R R (FR _) a0 sD Aa fun w4 F4 a2 ag ac ad=>?_);replace a2:=a2.of_drew;have ae:AB w w4:=a2.below a1 (fun c hc=>A8 (A7 _) (ac c hc).1) a1.size;have af:=a2.size;refine Ad<|Ab _ [0,0] R<|AU ((k+1:Nat):Int) R R (Bq oM sD) Aa<|YP R ?_;exact⟨k+1,_,rfl,zR,⟨ae,(by unfold Ew;rw[M6 sM oM];exact ad.up o1),sD⟩,zD⟩;exact AK false R R (A6 a9) Aa<|Ad<|A0<|Ai R<|A4<|AI<|AI<|AF<|YN [0,0] R<|Ac 2 R<|A1<|Al [4] R v1 R ⟨v1,rfl,a1,(by have h:=a0.up o1;rwa [JT sM (by simp;omega)]at h)⟩
theorem KG (w:World)(va:Value)(a:Sr)(vb:Value)(b:Sr)(ha:Rd (Be rI) w.heap va a)(hb:Rd (Be rI) w.heap vb b)(hla:a.length≤1000000000000)(hlb:b.length≤1000000000000)(hl:a.length≤b.length)(hqa:BA a=true)(hqb:BA b=true) :
  Calls Tryz.prog 197 #[va,vb] w (fun e w'=>∃v0:Value,e=.returned (v0)∧AB w w'∧Fr (BH rI 2) w.heap.size w'.heap.size w'.heap v0 (Fk a b)):=by
 refine Ay [va,vb] 9 Tryz.func197 R R sM ?_;have a7:AB w w:=AB.refl w;have ab:=ha.lenle;have ac:=hb.lenle;refine YO R<|YN [0,0,3,3,0] R<|Af 2 R<|An 199 [] [] [vb,zI ((1000002:Nat):Int)] R R Tz Aa (Ib _ _ _ _ (hb.ext g1 a7) oM hlb hqb oM) ?_;rintro e1 w1 ⟨a3,rfl,a4,a0⟩;refine⟨_,rfl,a4,?_⟩;have a8:=a4.size;have a5:=a7.trans a4;refine An 196 [] [] [va,a3] R R Ty Aa (IZ _ _ _ _ _ (ha.ext g1 a5) a0.rd1 hla (by simp;omega) hqa (by exact Kj _ _)) ?_;rintro e2 w2 ⟨a1,rfl,a6,a2⟩;refine⟨_,rfl,a6,?_⟩;have a9:=a6.size;have aa:=a5.trans a6;exact YP R<|A1<|Al [4] R a1 R ⟨a1,rfl,aa,(by rw[← Qa hl];exact(a2.up o1).low a5.size)⟩
theorem KH (w:World)(va:Value)(a:Sr)(vb:Value)(b:Sr)(ha:Rd (Be rI) w.heap va a)(hb:Rd (Be rI) w.heap vb b)(hla:a.length≤1000000000000)(hl:a.length≤b.length)(hqa:BA a=true)(hqb:BA b=true) :
  Calls Tryz.prog 198 #[va,vb] w (fun e w'=>∃v0:Value,e=.returned (v0)∧AB w w'∧Fr (BH rI 2) w.heap.size w'.heap.size w'.heap v0 (DM a b)):=by
 refine Ay [va,vb] 43 Tryz.func198 R R sM ?_;have a8:AB w w:=AB.refl w;have am:=ha.lenle;have an:=hb.lenle;refine YO R<|YN [0,0,3,0] R<|YQ R<|AZ (v:=va) BF R ha.isSl Aa (Ih (n:=a.length) BF BZ R R R sD Aa fun v1 w1 a5 af a9=>?_);have a6:=a5.size;have aa:=a8.trans a5;refine YP R<|A0<|YN [0,0,0] R<|YQ R<|AZ (v:=va) BF R ha.isSl Aa<|YP R<|A3 ?_;refine B3 (S:=Nat) (fun k=>([(13,zI (k:Int)),(0,va),(1,vb),(5,v1),(12,zI (a.length:Int))])) (fun k W=>AB w W∧Fr (BH rI 2) w.heap.size W.heap.size W.heap v1 (H9 k (DM a b)<|List.replicate a.length 0)∧k≤a.length) (fun k=>a.length-k) 0 ⟨rfl,rfl,rfl,rfl,rfl,trivial⟩ ⟨aa,(by rw[IK];exact a9.up o1),sD⟩ ?_;clear a8 a9 af a5 a6 aa;rintro k ρ2 w2 ⟨a3,a1,ab⟩;have a7:w.heap.size≤w2.heap.size:=a3.size;have hml:=IL k (DM a b) (List.replicate a.length 0) sM;rw[z5]at hml;have hga:=CI hqa k;refine YN [0] R ?_;by_cases ac:(k:Int)<(a.length:Int);refine AK true R R (A5 ac) Aa<|Ad<|A0<|Ah R<|A2<|A0<|A3<|YN [0,0] R<|Ac 2 R<|YO R<|A3 ?_;refine B3 (S:=Nat) (fun i=>([(7,zI (i:Int)),(0,va),(1,vb),(5,v1),(6,zI (k:Int)),(12,zI (a.length:Int)),(13,zI (k:Int))])) (fun i W=>AB w W∧Fr (BH rI 2) w.heap.size W.heap.size W.heap v1 ((H9 k (DM a b)<|List.replicate a.length 0).set k<|MI a b k i)∧i≤k+1) (fun i=>k+1-i) 0 ⟨rfl,rfl,rfl,rfl,rfl,rfl,rfl,trivial⟩ ⟨a3,(by have h:=a1.up o1;rw[← Qb (T:=DM a b) sM oM]at h;exact h),sD⟩ ?_;clear a1 a3 a7;rintro i ρ4 w4 ⟨a2,a0,ad⟩;have ag:w.heap.size≤w4.heap.size:=a2.size;have hms:((H9 k (DM a b) (List.replicate a.length 0)).set k (MI a b k i)).length=a.length:=by rw[z6];exact hml
 refine A0<|YN [0,0,0] R<|Af 2 R ?_;by_cases ae:(i:Int)≤(k:Int);refine Ed true R R (A5 ae) Aa<|Ad<|Ah R<|A2<|A0<|A3<|AR _ [0,0,0,0,0,1,0,0,0,1,0,0,0,0,0,1,0,0,0,0,4] mixed zK<|Af 4 R<|AN (v:=v1) k BF BZ R R a0.isSl R sD Aa ?_;refine Aj (p:=AH v1 k 1) (.inl R) (zI<|((H9 k (DM a b)<|List.replicate a.length 0).set k<|MI a b k i).getD k 0) AS R (a0.rd1.getI sD).1 Aa (Af 2 R ?_);refine AN (v:=va) i BF BZ R R ha.isSl R sD Aa ?_;refine Aj (p:=AH va i 1) (.inl R) (zI<|a.getD i 0) AS R (BE a2.drew (ha.getI sD).1) Aa<|Af 3 R<|Dr ((k-i:Nat):Int) R R (Bq oM oM) Aa ?_;refine AN (v:=vb) (k-i) BF BZ R R hb.isSl R sD Aa ?_;refine Aj (p:=AH vb (k-i) 1) (.inl R) (zI<|b.getD (k-i) 0) AS R (BE a2.drew (hb.getI sD).1) Aa<|Ez (wr ((a.getD i 0)*(b.getD (k-i) 0))) R R R Aa<|AU (wr ((((H9 k (DM a b)<|List.replicate a.length 0).set k<|MI a b k i).getD k 0)+(wr ((a.getD i 0)*(b.getD (k-i) 0))))) R R R Aa ?_;refine Ec (md (MI a b k i+a.getD i 0*b.getD (k-i) 0)) R R (by decide) (by rw[PZ _ _ _ _ _ oM,if_pos rfl];exact Ud (Oa _ _ _ _) (CI hqa _) (CI hqb _)) Aa<|AN (v:=v1) k BF BZ R R a0.isSl R sD Aa ?_;refine Hl (v:=v1) (w:=w4.drew) Ia R R (FR _) a0 sD Aa fun w6 F6 a4 al ah ai=>?_;replace a4:=a4.of_drew;have aj:AB w w6:=a4.below a2 (fun c hc=>A8 (A7 _) (ah c hc).1) a2.size;have ak:=a4.size;refine Ad<|Ab _ [0,0,0] R<|YQ R<|AU ((i+1:Nat):Int) R R (Bq oM sD) Aa<|YP R ?_;exact⟨i+1,_,rfl,zR,⟨aj,(by have h:=ai.up o1;rw[List.set_set]at h;exact h),sD⟩,zD⟩;refine Ed false R R (A6 ae) Aa<|Ad<|Ai R<|A4<|AI<|AI<|AF<|Ab _ [0,0] R<|AU ((k+1:Nat):Int) R R (Bq oM sD) Aa<|YP R ?_;exact⟨k+1,_,rfl,zR,⟨a2,(by have h:=a0.up o1;rw[show i=k+1 from by omega]at h;unfold DM;rw[M6 sM oM];exact h),sD⟩,zD⟩;exact AK false R R (A6 ac) Aa<|Ad<|A0<|Ai R<|A4<|AI<|AI<|AF<|YN [0,0] R<|Ac 2 R<|A1<|Al [4] R v1 R ⟨v1,rfl,a3,(by have h:=a1.up o1;rwa [JT sM (by simp;omega)]at h)⟩
theorem JF (w:World)(va:Value)(a:Sr)(vb:Value)(b:Sr)(ha:Rd (Be rI) w.heap va a)(hb:Rd (Be rI) w.heap vb b)(hla:a.length≤1000000000000)(hl:a.length≤b.length)(h1:0<b.length)(hqa:BA a=true)(hqb:BA b=true) :
  Calls Tryz.prog 200 #[va,vb] w (fun e w'=>∃v0:Value,e=.returned (v0)∧AB w w'∧Fr (BH rI 2) w.heap.size w'.heap.size w'.heap v0 (D9 a b)):=by
 refine Ay [va,vb] 53 Tryz.func200 R R sM ?_;have a5:AB w w:=AB.refl w;have am:=ha.lenle;have an:=hb.lenle;refine YO R<|A0<|AR _ [0,0,3,0,0,1,0,0,0] mixed zK<|YQ R<|AZ (v:=va) BF R ha.isSl Aa (Ih (n:=a.length) BF BZ R R R sD Aa fun v1 w1 a2 ae a7=>?_);replace a2:=a2.of_drew;have a6:=a2.size;have a8:=a5.trans a2;refine YQ R<|AN (v:=vb) 0 BF BZ R R hb.isSl R sD Aa ?_;refine Aj (p:=AH vb 0 1) (.inl R) (zI<|b.getD 0 0) AS R (BE a5.drew (hb.getI sD).1) Aa ?_;refine AT 226 [] [] [zI<|b.getD 0 0] R R Xe Aa (zI<|inv<|b.getD 0 0) (fun wq=>KF wq _ (hb.getI sD).2)<|Ac 2 R<|A0<|YN [0,0,0] R<|YQ R<|AZ (v:=va) BF R ha.isSl Aa<|YP R<|A3 ?_;refine B3 (S:=Nat) (fun k=>([(19,zI (k:Int)),(0,va),(1,vb),(5,v1),(6,zI<|inv<|b.getD 0 0),(18,zI (a.length:Int))])) (fun k W=>AB w W∧Fr (BH rI 2) w.heap.size W.heap.size W.heap v1 (H9 k (D9 a b)<|List.replicate a.length 0)∧k≤a.length) (fun k=>a.length-k) 0 ⟨rfl,rfl,rfl,rfl,rfl,rfl,trivial⟩ ⟨a8,(by rw[IK];exact a7.up o1),sD⟩ ?_;clear a5 a7 ae a2 a6 a8;rintro k ρ3 w3 ⟨a4,a1,a9⟩;have af:w.heap.size≤w3.heap.size:=a4.size;have hml:=IL k (D9 a b) (List.replicate a.length 0) sM;rw[z5]at hml;have hga:=CI hqa k;refine YN [0] R ?_;by_cases aa:(k:Int)<(a.length:Int);refine AK true R R (A5 aa) Aa<|Ad<|A0<|Ah R<|A2<|A0<|A3<|YN [0,0] R<|Ac 2 R<|YN [0,0,0,2,0] R<|Af 2 R<|AN (v:=va) k BF BZ R R ha.isSl R sD Aa ?_;refine Aj (p:=AH va k 1) (.inr R) (zI<|a.getD k 0) AS R (BE a4 (ha.getI sD).1) Aa<|YP R<|A0<|YO R<|A3 ?_;refine B3 (S:=Nat×Int) (fun⟨i,t⟩=>([(8,zI t),(9,zI (i:Int)),(0,va),(1,vb),(5,v1),(6,zI<|inv<|b.getD 0 0),(7,zI (k:Int)),(18,zI (a.length:Int)),(19,zI (k:Int))])) (fun⟨i,t⟩ W=>AB w W∧Fr (BH rI 2) w.heap.size w3.heap.size W.heap v1 (H9 k (D9 a b)<|List.replicate a.length 0)∧i≤k∧t=Nu a b (D9 a b) k i∧(0≤t∧t<1000003)) (fun⟨i,t⟩=>k-i) (0,a.getD k 0) ⟨rfl,rfl,rfl,rfl,rfl,rfl,rfl,rfl,rfl,trivial⟩ ⟨a4,a1,sD,(by rfl),(by exact CI hqa k)⟩ ?_;clear a1;rintro⟨i,t⟩ ρ5 w5 ⟨a3,a0,ab,ht,htr⟩;have ag:w.heap.size≤w5.heap.size:=a3.size;refine A0<|YN [0,0,0] R<|Af 2 R ?_;by_cases ac:(i:Int)<(k:Int);refine AK true R R (A5 ac) Aa<|Ad<|Ah R<|A2<|A0<|A3<|AR _ [0,0,0,0,1,0,0,0,0,0,1,0,0,0] mixed zK<|Af 3 R<|AN (v:=v1) i BF BZ R R a0.isSl R sD Aa ?_;refine Aj (p:=AH v1 i 1) (.inl R) (zI<|(H9 k (D9 a b)<|List.replicate a.length 0).getD i 0) AS R (a0.rd1.getI sD).1 Aa (Af 3 R<|Dr ((k-i:Nat):Int) R R (Bq oM oM) Aa ?_);refine AN (v:=vb) (k-i) BF BZ R R hb.isSl R sD Aa ?_;refine Aj (p:=AH vb (k-i) 1) (.inl R) (zI<|b.getD (k-i) 0) AS R (BE a3.drew (hb.getI sD).1) Aa<|Ez (wr (((H9 k (D9 a b)<|List.replicate a.length 0).getD i 0)*(b.getD (k-i) 0))) R R R Aa ?_;refine AT 137 [] [] [zI t,zI<|wr (((H9 k (D9 a b)<|List.replicate a.length 0).getD i 0)*(b.getD (k-i) 0))] R R VS Aa (zI<|md (t-(wr (((H9 k (D9 a b)<|List.replicate a.length 0).getD i 0)*(b.getD (k-i) 0))))) (fun wq=>Mo wq _ _ oM<|No _)<|YP R<|Ab _ [0,0,0] R<|YQ R<|AU ((i+1:Nat):Int) R R (Bq oM sD) Aa<|YP R ?_;exact⟨(i+1,md (t-(wr (((H9 k (D9 a b) (List.replicate a.length 0)).getD i 0)*(b.getD (k-i) 0))))),_,rfl,zR,⟨a3.drew,a0,sD,(by rw[ht,U9 0 oM (by simp;omega)];exact Qc (Ki a b) hqb),(by exact CO _)⟩,zD⟩;refine AK false R R (A6 ac) Aa<|Ad<|Ai R<|A4<|AI<|AI<|AF<|Ab _ [0,0,0,0,0,0,0,4] R<|Af 4 R<|Ez (wr (t*(inv<|b.getD 0 0))) R R R Aa<|Ec (md (t*inv (b.getD 0 0))) R R (by decide) (MG htr<|Sj _) Aa<|AN (v:=v1) k BF BZ R R a0.isSl R sD Aa ?_;refine Hl (v:=v1) (w:=w5) Ia R R (FR _) a0 sD Aa fun w8 F8 ad al ah ai=>?_;have aj:AB w w8:=ad.below a3 (fun c hc=>A8 (A7 _) (ah c hc).1) a3.size;have ak:=ad.size;refine Ad<|Ab _ [0,0] R<|AU ((k+1:Nat):Int) R R (Bq oM sD) Aa<|YP R ?_;exact⟨k+1,_,rfl,zR,⟨aj,(by have h:=ai.up o1;rw[ht,show i=k from by omega]at h;rw[← So oM sM];exact h),sD⟩,zD⟩;exact AK false R R (A6 aa) Aa<|Ad<|A0<|Ai R<|A4<|AI<|AI<|AF<|YN [0,0] R<|Ac 2 R<|A1<|Al [4] R v1 R ⟨v1,rfl,a4,(by have h:=a1.up o1;rwa [JT sM (by simp;omega)]at h)⟩
theorem Hw (w:World)(va:Value)(a:Sr)(ha:Rd (Be rI) w.heap va a)(hla:a.length≤1000000000000) :
  Calls Tryz.prog 76 #[va] w (fun e w'=>∃v0:Value,e=.returned (v0)∧AB w w'∧Fr (BH (BH rI 2) 25) w.heap.size w'.heap.size w'.heap v0 (C0 a)):=by
 refine Ay [va] 20 Tryz.func76 R R sM ?_;have a9:AB w w:=AB.refl w;have au:=ha.lenle;refine YO R<|YN [3,0] R (DS (BH rI 2) o1 Ck Cy Aa fun v1 w1 a4 af aa=>?_);have a5:=a4.size;have ab:=a9.trans a4;refine YP R<|A0<|YN [0,0,0] R<|YQ R<|AZ (v:=va) BF R ha.isSl Aa<|YP R<|A3 ?_;refine B3 (S:=Nat×Value) (fun⟨k,vo⟩=>([(3,vo),(9,zI (k:Int)),(7,va),(8,zI (a.length:Int))])) (fun⟨k,vo⟩ W=>AB w W∧Fr (BH (BH rI 2) 25) w.heap.size W.heap.size W.heap vo ((a.take k).map fun x=>[x])∧k≤a.length) (fun⟨k,vo⟩=>a.length-k) (0,v1) ⟨rfl,rfl,rfl,rfl,trivial⟩ ⟨ab,aa.up o2,sD⟩ ?_;clear a9 aa af a4 a5 ab;rintro⟨k,vo⟩ ρ2 w2 ⟨a3,a2,ac⟩;have ag:w.heap.size≤w2.heap.size:=a3.size;refine YN [0] R ?_;by_cases ad:(k:Int)<(a.length:Int);refine AK true R R (A5 ad) Aa<|Ad<|A0<|Ah R<|A2<|A0<|A3<|YN [0,2,0] R<|AN (v:=va) k BF BZ R R ha.isSl R sD Aa ?_;refine Aj (p:=AH va k 1) (.inr R) (zI<|a.getD k 0) AS R (BE a3 (ha.getI sD).1) Aa<|YP R<|Ab _ [0,0,3,3,4,0] R<|Af 2 R ?_;refine BW (u:=zI<|a.getD k 0) (B:=w2.heap.size) B8 BF BZ R R (I7 w2.heap.size w2.heap.size _ _ (ha.getI sD).2) (A7 _) Aa fun v4 w4 a6 aq ah=>?_;have ai:=a6.size;have aj:=a3.trans a6;have a0:=a2.ext (o2) a6;refine BW (u:=v4) (B:=w2.heap.size) o1 Ck Cy R R ah (by first|exact A7 _|omega) Aa fun v5 w5 a7 ar ak=>?_;have al:=a7.size;have a8:=aj.trans a7;have a1:=a0.ext (o2) a7;refine Kc o1 (v:=vo) (a:=v5) Ck Cy R R R a1 a8.size ak oM a3.size sD (by unfold maxLen;first|omega|assumption|(simp;done)|(simp;omega)) Aa fun v6 w6 F6 ae am an=>?_;have ao:AB w w6:=ae.below a8 (fun c hc=>A8 (A7 _) (am c hc).1) a8.size;have ap:=ae.size;refine YP R<|Ab _ [0,0] R<|AU ((k+1:Nat):Int) R R (Bq oM sD) Aa<|YP R ?_;exact⟨(k+1,v6),_,rfl,zR,⟨ao,(by rw[Gi 0 oM];exact an.up o2),sD⟩,zD⟩;exact AK false R R (A6 ad) Aa<|Ad<|A0<|Ai R<|A4<|AI<|AI<|AF<|YN [0,0] R<|Ac 2 R<|A1<|Al [2] R vo R ⟨vo,rfl,a3,(by have h:=a2.up o2;rwa [za oM]at h)⟩
theorem G3 (w:World)(va:Value)(a:List (Sr))(ha:Rd (Be (Be rI)) w.heap va a)(hla:a.length≤1000000000000)(h1:∀k,k<a.length→0<(a.getD k []).length) :
  Calls Tryz.prog 77 #[va] w (fun e w'=>∃v0:Value,e=.returned (v0)∧AB w w'∧Fr (BH rI 2) w.heap.size w'.heap.size w'.heap v0 (a.map (fun s=>s.getD 0 0))):=by
 refine Ay [va] 21 Tryz.func77 R R sM ?_;have a9:AB w w:=AB.refl w;have ar:=ha.lenle;refine YO R<|YN [3,0] R (DS (rI) B8 BF BZ Aa fun v1 w1 a4 af aa=>?_);have a5:=a4.size;have ab:=a9.trans a4;refine YP R<|A0<|YN [0,0,0] R<|YQ R<|AZ (v:=va) Ck R ha.isSl Aa<|YP R<|A3 ?_;refine B3 (S:=Nat×Value) (fun⟨k,vo⟩=>([(3,vo),(9,zI (k:Int)),(7,va),(8,zI (a.length:Int))])) (fun⟨k,vo⟩ W=>AB w W∧Fr (BH rI 2) w.heap.size W.heap.size W.heap vo ((a.take k).map fun s=>s.getD 0 0)∧k≤a.length) (fun⟨k,vo⟩=>a.length-k) (0,v1) ⟨rfl,rfl,rfl,rfl,trivial⟩ ⟨ab,aa.up o1,sD⟩ ?_;clear a9 aa af a4 a5 ab;rintro⟨k,vo⟩ ρ2 w2 ⟨a2,a1,ac⟩;have ag:w.heap.size≤w2.heap.size:=a2.size;refine YN [0] R ?_;by_cases ad:(k:Int)<(a.length:Int);refine AK true R R (A5 ad) Aa<|Ad<|A0<|Ah R<|A2<|A0<|A3<|YN [0,2,0] R<|AN (v:=va) k Ck Cy R R ha.isSl R sD Aa ?_;obtain⟨a6,ah,a3⟩:=ha.get (k:=k) [] sD;have ai:=a3.lenle;refine Aj (p:=AH va k 1) (.inr R) a6 CA R (BE a2 ah) Aa<|YP R<|Ab _ [0,0,0,2,3,4,0] R ?_;have ap:=h1 k oM;refine Af 2 R<|AN (v:=a6) 0 BF BZ R R a3.isSl R sD Aa ?_;refine Aj (p:=AH a6 0 1) (.inr R) (zI<|(a.getD k []).getD 0 0) AS R (BE a2 (a3.getI sD).1) Aa ?_;refine BW (u:=zI<|(a.getD k []).getD 0 0) (B:=w2.heap.size) B8 BF BZ R R (I7 w2.heap.size w2.heap.size _ _ (a3.getI sD).2) (A7 _) Aa fun v5 w5 a7 aq aj=>?_;have ak:=a7.size;have a8:=a2.trans a7;have a0:=a1.ext (o1) a7;refine Cd (v:=vo) (a:=v5) BF BZ R R R a0 a8.size aj.rd1 sD (by unfold maxLen;first|omega|assumption|(simp;done)|(simp;omega)) Aa fun v6 w6 F6 ae al am=>?_;have an:AB w w6:=ae.below a8 (fun c hc=>A8 (A7 _) (al c hc).1) a8.size;have ao:=ae.size;refine YP R<|Ab _ [0,0] R<|AU ((k+1:Nat):Int) R R (Bq oM sD) Aa<|YP R ?_;exact⟨(k+1,v6),_,rfl,zR,⟨an,(by rw[Gi [] oM];exact am.up o1),sD⟩,zD⟩;exact AK false R R (A6 ad) Aa<|Ad<|A0<|Ai R<|A4<|AI<|AI<|AF<|YN [0,0] R<|Ac 2 R<|A1<|Al [2] R vo R ⟨vo,rfl,a2,(by have h:=a1.up o1;rwa [za oM]at h)⟩
end
end Go.Proofs.YtlbefjfhfodnlaaGreatDoor
