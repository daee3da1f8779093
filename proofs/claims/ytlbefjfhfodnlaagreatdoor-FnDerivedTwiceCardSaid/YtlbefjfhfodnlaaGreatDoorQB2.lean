/- Gd, Ge, Gu, Nf, Ng, Nh, Ni, Nj, Nk, Nl, Gf, Gg, Gj, Gk, Gh, Gl, Ki, Gm, Kj, Hs, Gv, Kl, Km, Kn, Ko, Kp, Go, Gq, Gp, Hp, Hv, Kq, Kx, Ky, Kr, Ku, Kv, T: texts of this claim, joined; what the claim does not come to is left out. -/
import Derived.Test.YtlbefjfhfodnlaaGreatDoorQB1
import Derived.Test.YtlbefjfhfodnlaaGreatDoorProg
import Derived.Shelf.LaySoft
import Derived.Shelf.Strconv.Itoa4
import Derived.Ground.NamesProg
set_option linter.unusedVariables false
set_option linter.unusedSimpArgs false
namespace Go.Proofs.YtlbefjfhfodnlaaGreatDoor
open Go Go.RowKit
section
mutual
def XG:Ex→Bool
 |.mk k _ _ _ l=>(decide (k≠6) && decide (k≠8)) && Oi l
def Oi:List Ex→Bool
 |[]=>true
 |e::l=>XG e && Oi l
end
theorem Oy (k n q c:Int)(l:List Ex):XG (.mk k n q c l)=((decide (k≠6) && decide (k≠8)) && Oi l):=by rw[XG]
theorem NJ (l:List Ex)(e:Ex):Oi (l++[e])=(Oi l && XG e):=by
 induction l with
 |nil=>rw[zl,Oi,Oi];simp[Oi]
 |cons a l ih=>rw[List.cons_append,Oi,Oi,ih,Bool.and_assoc]
def Mw:Nat→Int
 |0=>1
 |d+1=>1+4*Mw d
def Il:Nat→Nat
 |0=>30
 |d+1=>50+4*Il d
def VT:Nat→Int→Int
 |0,_=>0
 |n+1,k=>VT n k+k
def QB:Nat→Nat→Nat
 |0,_=>0
 |n+1,k=>QB n k+k
theorem Im:∀d,1≤Mw d
 |0=>by decide
 |d+1=>by have:=Im d;show 1≤1+4*Mw d;omega
theorem UI {d:Nat}(h:1≤d):Mw d=1+4*Mw (d-1):=by obtain⟨d,rfl⟩:∃k,d=k+1:=⟨d-1,zO⟩;rfl
theorem XR {d:Nat}(h:1≤d):Il d=50+4*Il (d-1):=by obtain⟨d,rfl⟩:∃k,d=k+1:=⟨d-1,zO⟩;rfl
theorem Oz:∀d,30≤Il d
 |0=>by decide
 |d+1=>by show 30≤50+4*Il d;omega
theorem NK {i:Nat}{k:Int}(hk:0≤k)(hi:i≤4):0≤VT i k∧VT i k≤4*k:=by rcases i with _|_|_|_|_|i;all_goals first|(exfalso;omega)|(simp only[VT];omega)
theorem Mx {i k:Nat}(hi:i≤4):QB i k≤4*k:=by rcases i with _|_|_|_|_|i;all_goals first|(exfalso;omega)|(simp only[QB];omega)
structure Pp (p:List Fn)(funcs vars:Int)(pl:Bool)(d:Nat)(l0 l1:Int)(ex:Ex):Prop where
 wf:wf p funcs ex vars=true
 sz:(ex.size:Int)+4*max l1 1≤1+4*max l0 1
 dp:ex.deep≤d+1
 pl:pl=true→XG ex=true
 lo:l0-Mw d≤l1∧l1≤l0-1
structure OA (p:List Fn)(vars:Int)(ex:Ex):Prop where
 wf:∀funcs,wf p funcs ex vars=true
 sz:ex.size=1
 dp:ex.deep=1
 pl:XG ex=true
structure XT (p:List Fn):Prop where
 len:p.length≤1000
 par:∀k,k<p.length→0≤(p.getD k Fn.zero).params∧(p.getD k Fn.zero).params≤4
 outs:∀k,k<p.length→1≤(p.getD k Fn.zero).outs.length∧(p.getD k Fn.zero).outs.length≤12
theorem OA.num {p:List Fn}{vars n:Int}(h:0≤n∧n<1000003):OA p vars (.mk 1 n 0 0 []) :=
 ⟨fun funcs=>by
  rw[MU rfl];unfold H5 DQ
  simp[Ex.kind,Ex.pick,Ex.count,Ex.kids,Ex.num,Dd];omega,by rw[Ex.size,Ex.sizes],by rw[Ex.deep,Ex.deeps],by rw[Oy];rfl⟩
theorem OA.var {p:List Fn}{vars n:Int}(h:0≤n∧n<vars):OA p vars (.mk 2 n 0 0 []) :=
 ⟨fun funcs=>by
  rw[MU rfl];unfold H5 DQ
  simp[Ex.kind,Ex.pick,Ex.count,Ex.kids,Ex.num,CI];omega,by rw[Ex.size,Ex.sizes],by rw[Ex.deep,Ex.deeps],by rw[Oy];rfl⟩
theorem OA.ok {p:List Fn}{vars funcs l0:Int}{ex:Ex}{pl:Bool}(h:OA p vars ex)(d:Nat):Pp p funcs vars pl d l0 (l0-1) ex:=by have:=Im d;exact⟨h.wf funcs,by rw[h.sz];omega,by rw[h.dp];omega,fun _=>h.pl,zO⟩
def kn (k:Int):Int:=if k=1∨k=2 then 0 else if k=3∨k=4∨k=5∨k=6∨k=9 then 2 else if k=7 then 1 else if k=8 then 3 else -1
structure Pq (p:List Fn)(funcs vars:Int)(pl:Bool)(k:Int)(d:Nat)(l0 l1:Int)(xs:List Ex)(i:Nat):Prop where
 len:xs.length=i
 wf:∀j,j<i→wf p funcs (xs.getD j Ex.zero) (if k=9∧j=1 then vars+1 else vars)=true
 sz:(Ex.sizes xs:Int)+4*max l1 1≤i+4*max l0 1
 dp:Ex.deeps xs≤d
 pl:pl=true→Oi xs=true
 lo:l0-VT i (Mw (d-1))≤l1∧l1≤l0
theorem Pq.nil (p:List Fn)(funcs vars:Int)(pl:Bool)(k:Int)(d:Nat)(l0:Int):Pq p funcs vars pl k d l0 l0 [] 0 :=
 ⟨rfl,fun j hj=>by omega,by rw[Ex.sizes];omega,by rw[Ex.deeps];omega,fun _=>by rw[Oi],by show l0-0≤l0∧l0≤l0;omega⟩
theorem Pq.snoc {p:List Fn}{funcs vars own:Int}{pl:Bool}{k:Int}{d:Nat}{l0 l1 l2:Int}{xs:List Ex}{i:Nat}{x:Ex}(h:Pq p funcs vars pl k d l0 l1 xs i)(hd:1≤d)
  (ho:own=if k=9∧i=1 then vars+1 else vars) (hx:Pp p funcs own pl (d-1) l1 l2 x):Pq p funcs vars pl k d l0 l2 (xs++[x]) (i+1):=by
 have hlen:=h.len;refine⟨by simp[hlen],fun j hj=>?_,?_,?_,fun hp=>?_,?_⟩;by_cases e:j=i;subst e;rw[← hlen,J4 rfl,hlen,← ho];exact hx.wf;rw[FQ (by omega)];exact h.wf j zO;have h1:=h.sz;have h2:=hx.sz;rw[J1];omega;have h1:=h.dp;have h2:=hx.dp;rw[J2];omega;rw[NJ,h.pl hp,hx.pl hp];rfl;have h1:=h.lo;have h2:=hx.lo;have h3:VT (i+1) (Mw (d-1))=VT i (Mw (d-1))+Mw (d-1):=rfl;omega
theorem Pq.node {p:List Fn}{funcs vars:Int}{pl:Bool}{k num pick cnt:Int}{d i:Nat}{l0 l1:Int}{xs:List Ex}(h:Pq p funcs vars pl k d (l0-1) l1 xs i)(hd:1≤d)(hi:i≤4)(hl:2≤l0)
  (hp:pl=true→k≠6∧k≠8) (hw:H5 p funcs vars (.mk k num pick cnt xs)=true):Pp p funcs vars pl d l0 l1 (.mk k num pick cnt xs):=by
 have hn:=UI hd;have ht:=NK (k:=Mw (d-1)) (by have:=Im (d-1);omega) hi;have h1:=h.lo;have h2:=h.sz;refine⟨(MV hw fun j hj=>?_).symm,?_,?_,fun hq=>?_,zO⟩;exact h.wf j (by rw[← h.len];exact hj);rw[Ex.size];omega;rw[Ex.deep];have:=h.dp;omega;rw[Oy,h.pl hq,A5 (hp hq).1,A5 (hp hq).2];rfl
theorem VU {p:List Fn}{funcs vars k:Int}{xs:List Ex}(hk:k=3∨k=4∨k=5∨k=6∨k=7∨k=8∨k=9)(hl:((xs.length:Nat):Int)=kn k):H5 p funcs vars (.mk k 0 0 0 xs)=true:=by
 have h2:k=3∨k=4∨k=5∨k=6∨k=9→xs.length=2:=fun h=>by
  have:kn k=2:=by unfold kn;rw[if_neg zO,if_pos (by omega)]
  omega
 have h1:k=7→xs.length=1:=fun h=>by
  have:kn k=1:=by unfold kn;rw[if_neg zO,if_neg zO,if_pos h]
  omega
 have h3:k=8→xs.length=3:=fun h=>by
  have:kn k=3:=by unfold kn;rw[if_neg zO,if_neg zO,if_neg zO,if_pos h]
  omega
 unfold H5 DQ;rcases hk with rfl|rfl|rfl|rfl|rfl|rfl|rfl;simp[Ex.kind,Ex.pick,Ex.count,Ex.kids,Ex.num,h2];simp[Ex.kind,Ex.pick,Ex.count,Ex.kids,Ex.num,h2];simp[Ex.kind,Ex.pick,Ex.count,Ex.kids,Ex.num,h2];simp[Ex.kind,Ex.pick,Ex.count,Ex.kids,Ex.num,h2];simp[Ex.kind,Ex.pick,Ex.count,Ex.kids,Ex.num,h1];simp[Ex.kind,Ex.pick,Ex.count,Ex.kids,Ex.num,h3];simp[Ex.kind,Ex.pick,Ex.count,Ex.kids,Ex.num,h2]
theorem VV {p:List Fn}{funcs vars k num pick cnt:Int}{xs:List Ex}(hk:(k=10∧cnt=0)∨(k=11∧((p.getD num.toNat Fn.zero).outs.length:Int)=(p.getD num.toNat Fn.zero).params∧0≤cnt∧cnt≤8))
  (hn:0≤num∧num<funcs) (hl:((xs.length:Nat):Int)=(p.getD num.toNat Fn.zero).params) (hq:0≤pick∧pick<((p.getD num.toNat Fn.zero).outs.length:Int)):H5 p funcs vars (.mk k num pick cnt xs)=true:=by
 have h1:HN num 0 (funcs-1)=true:=CI.2 zO;have h2:HN pick 0 (((p.getD num.toNat Fn.zero).outs.length:Int)-1)=true:=CI.2 zO;have h6:decide ((xs.length:Int)=(p.getD num.toNat Fn.zero).params)=true:=A5 hl;unfold H5;rcases hk with⟨rfl,rfl⟩|⟨rfl,h3,h4⟩;show(HN num 0 (funcs-1) && (decide ((xs.length:Int)=(p.getD num.toNat Fn.zero).params) && (HN pick 0 (((p.getD num.toNat Fn.zero).outs.length:Int)-1) && decide ((0:Int)=0))))=true;rw[h1,h2,h6];rfl;have h5:HN cnt 0 8=true:=CI.2 h4;show(HN num 0 (funcs-1) && (decide ((xs.length:Int)=(p.getD num.toNat Fn.zero).params) && (HN pick 0 (((p.getD num.toNat Fn.zero).outs.length:Int)-1) && (decide (((p.getD num.toNat Fn.zero).outs.length:Int)=(p.getD num.toNat Fn.zero).params) && HN cnt 0 8))))=true;rw[h1,h2,h5,h6,A5 h3];rfl
theorem B7 {a b c k:Int}{l:List Ex}(h1:-9223372036854775808≤a∧a≤9223372036854775807)(h2:-9223372036854775808≤b∧b≤9223372036854775807)(h3:-9223372036854775808≤c∧c≤9223372036854775807)(h4:-9223372036854775808≤k∧k≤9223372036854775807):Eu (.mk a b c k l):=⟨h1,h2,h3,h4⟩
theorem Ef {a b c:Nat}(h:c∈[a,b]):c=a∨c=b:=by simpa using h
theorem GA {a b:Nat}:∀x∈[a],x∈[a,b]:=fun x hx=>by rw[A9 hx];exact z0 ..
theorem VW {a b:Nat}:∀x∈[b],x∈[a,b]:=fun x hx=>by rw[A9 hx];exact z3 _ (z0 ..)
theorem AG.new2 {F:List Nat}{g g':Nat}{a b c:World}(h:AG F a b)(k:AG [g,g'] b c)(hg:g∈F)(hg':a.heap.size≤g'):AG F a c :=
 ⟨k.os.trans h.os,k.tape.trans h.tape,k.output.trans h.output,A8 h.size k.size,fun i hi hm=>(k.block i (Nat.lt_of_lt_of_le hi h.size) fun hq=>by
  rcases Ef hq with rfl|rfl
  exact hm hg
  omega).trans (h.block i hi hm)⟩
theorem RN.of_frF2 {e e':TypeId}{d B U:Nat}{H:Array Obj}{v:Value}{S:List Nat}{xs:List Fn}(h:Fr (BP 3 (JQ e d) e') B U H v xs)(hS:∀b∈S,b<B∨U≤b):RP S d H v xs:=by obtain⟨F,h,_,hF⟩:=h;exact⟨F,(h.rd (AA e d)).imp fun h=>R4 e h,fun b hb hm=>by have:=hF b hb;have:=hS b hm;omega⟩
theorem Cp.mk1 {e:TypeId}{d B U:Nat}{H:Array Obj}{v:Value}{x:Ex}(hd:1≤d)(hr:Eu x)(h:Fr (BP 5 (C6 e (d-1)) e) B U H v x.kids):Cp (C6 e d) B U H (C8 x v) x:=by obtain⟨d,rfl⟩:∃k,d=k+1:=⟨d-1,zO⟩;obtain⟨G,h1,h2,h3⟩:=h;exact⟨G,⟨v,rfl,hr,h1⟩,h2,h3⟩
theorem Cp.mkF {e:TypeId}{d B U:Nat}{H:Array Obj}{v:Value}{x:Fn}(hr:CD x.params)(h:Fr (BP 5 (C6 e d) e) B U H v x.outs):Cp (JQ e d) B U H (GM x v) x:=by obtain⟨G,h1,h2,h3⟩:=h;exact⟨G,⟨v,rfl,hr,h1⟩,h2,h3⟩
theorem ZJ {k:Int}(h:k=1∨k=2):kn k=0:=by unfold kn;rw[if_pos h]
theorem ZK {k:Int}(h:k=3∨k=4∨k=5∨k=6∨k=9):kn k=2:=by unfold kn;rw[if_neg zO,if_pos h]
theorem ZL {k:Int}(h:k=7):kn k=1:=by unfold kn;rw[if_neg zO,if_neg zO,if_pos h]
theorem ZM {k:Int}(h:k=8):kn k=3:=by unfold kn;rw[if_neg zO,if_neg zO,if_neg zO,if_pos h]
theorem ZN {k:Int}(h1:¬k=1)(h2:¬k=2)(h3:¬k=3)(h4:¬k=4)(h5:¬k=5)(h6:¬k=6)(h7:¬k=7)(h8:¬k=8)(h9:¬k=9):kn k = -1:=by unfold kn;rw[if_neg zO,if_neg zO,if_neg zO,if_neg (by omega)]
theorem ZO {k:Int}(h:k=3∨k=4∨k=5∨k=6∨k=7∨k=8∨k=9):1≤kn k∧kn k≤3:=by rcases h with rfl|rfl|rfl|rfl|rfl|rfl|rfl <;> decide
theorem Rx {d:Nat}(h:d≤8):Mw d≤100000:=by
 have:∀k:Fin 9,Mw k.val≤100000:=by decide
 exact this ⟨d,zO⟩
theorem OA.okc {p:List Fn}{vars funcs l0:Int}{ex:Ex}{pl:Bool}(h:OA p vars ex)(d:Nat):Pp p funcs vars pl d (l0+1) l0 ex:=by have h:=h.ok (funcs:=funcs) (pl:=pl) (l0:=l0+1) d;rwa [show l0+1-1=l0 from by omega]at h
theorem Pp.up1 {p:List Fn}{vars funcs l0 l1:Int}{ex:Ex}{pl:Bool}{d:Nat}(h:Pp p funcs vars pl d (l0-1+1) l1 ex):Pp p funcs vars pl d l0 l1 ex:=by rwa [show l0-1+1=l0 from by omega]at h
theorem Pq.node1 {p:List Fn}{funcs vars:Int}{pl:Bool}{k num pick cnt:Int}{d i:Nat}{l0 l1:Int}{xs:List Ex}(h:Pq p funcs vars pl k d l0 l1 xs i)(hd:1≤d)(hi:i≤4)(hl:1≤l0)
  (hp:pl=true→k≠6∧k≠8) (hw:H5 p funcs vars (.mk k num pick cnt xs)=true):Pp p funcs vars pl d (l0+1) l1 (.mk k num pick cnt xs) :=
 Pq.node (by rwa [show l0+1-1=l0 from by omega]) hd hi zO hp hw
namespace Jx
variable [J:JR] {P:Program} {ops:Array Oper} {w0:World} {Q:Act→World→Prop}
theorem j1 {o:Oper}{os:List Oper}{ks:List Nat}{a:Act}{w:World}(h:_root_.Go.Proofs.YtlbefjfhfodnlaaGreatDoor.LW P ops w0 (fun a w=>LW P ops w0 Q os ks a w) [o] [0] a w):LW P ops w0 Q (o::os) (0::ks) a w:=by simp only[_root_.Go.Proofs.YtlbefjfhfodnlaaGreatDoor.LW]at h;simp only[LW];split;rename_i hw;rw[if_pos hw]at h;unfold _root_.Go.Proofs.YtlbefjfhfodnlaaGreatDoor.By at h;unfold By;rw[if_pos (by decide)]at h;rw[if_pos (by decide)];obtain⟨v,h1,h2⟩:=h;exact⟨v,fun w' _=>h1 w' trivial,h2⟩;rename_i hw;rw[if_neg hw]at h;exact h
theorem TP:∀ {os:List Oper}{ks:List Nat}{a:Act}{w:World}(_:ks.all (fun k=>k == 0 || k == 3 || k == 4)=true)(_:_root_.Go.Proofs.YtlbefjfhfodnlaaGreatDoor.LW P ops w0 Q os ks a w),LW P ops w0 Q os ks a w
 |[],_,_,_,_,h=>h
 |_::_,[],_,_,_,h=>h.elim
 |o::os,k::ks,a,w,hk,h=>by
  simp only[List.all_cons,z7]at hk
  simp only[_root_.Go.Proofs.YtlbefjfhfodnlaaGreatDoor.LW]at h
  simp only[LW]
  split
  rename_i hw
  rw[if_pos hw]at h
  unfold _root_.Go.Proofs.YtlbefjfhfodnlaaGreatDoor.By at h
  unfold By
  split at h
  rename_i h2
  rw[if_pos h2]
  have:k=0:=by
   have:=hk.1;simp only[Bool.or_eq_true,beq_iff_eq]at this;omega
  subst this;obtain⟨v,h1,h3⟩:=h;exact⟨v,fun w' _=>h1 w' trivial,TP hk.2 h3⟩;rename_i h2;rw[if_neg h2];split at h;rename_i h3;rw[if_pos h3];exact Oper.wp_mono (fun a w hh=>⟨J.ext hh.1,TP hk.2 hh.2⟩) h;rename_i h3;rw[if_neg h3];exact Oper.wp_mono (fun a w hh=>TP hk.2 hh) h;rename_i hw;rw[if_neg hw]at h;exact TP hk.2 h
end Jx
end
section
theorem MX {α:Type}{l:List α}{k:Nat}{d:α}(h:k<l.length):l.getD k d∈l:=by rw[List.getD_eq_getElem?_getD,List.getElem?_eq_getElem h,Option.getD_some];exact List.getElem_mem h
theorem Lg {a:Int}(h:-9223372036854775808≤a∧a≤9223372036854775807):CD a:=h
def In (n:Nat):ByteArray:=⟨#[UInt8.ofNat (48+n)]⟩
def MY:List ByteArray:=[⟨#[102]⟩,⟨#[103]⟩,⟨#[115,116,101,112]⟩,⟨#[104,50]⟩,⟨#[99]⟩]
theorem OB {n:Int}(h0:0≤n)(h1:n<10):(⟨#[UInt8.ofNat (IntKind.u8.wrap (((48:Nat):Int)+n)).toNat]⟩:ByteArray)=In n.toNat:=by
 obtain⟨k,rfl⟩:∃k:Nat,n=k:=⟨n.toNat,zO⟩;have:∀k:Fin 10,(⟨#[UInt8.ofNat (IntKind.u8.wrap (((48:Nat):Int)+((k.val:Nat):Int))).toNat]⟩:ByteArray)=In k.val:=by decide +kernel
 exact this ⟨k,zO⟩
theorem Lh (n:Nat):(In n).size=1:=rfl
theorem QC:∀s∈MY,s.size≤4:=by decide +kernel
theorem TQ:∀s∈MY,∀i:Fin 10,KP (s++In i.val)=true:=by decide +kernel
theorem TR:∀s∈MY,∀t∈MY,∀i j:Fin 10,i.val≠j.val→FA (s++In i.val) (t++In j.val)=false:=by decide +kernel
section str
variable {P:Program} {ops:Array Oper} {w0:World} {Q:Act→World→Prop} {os:List Oper} {ks:List Nat} {N:Nat} {ρ:Nat→Value} {w:World}
 {d:Nat} {ty:TypeId} {pos:String} {aft:Array Edge} {g:Option (Nat×Bool)} {t e:TypeId}
theorem Pr {st dt:TypeId}{x:Operand}{v:Value}{n:Int}{B U:Nat}(hs:P.underlying st=some (.slice e))(he:P.underlying e=some (.int .u8))(hd:P.underlying dt=some .string)(hx:Bz N ρ x=v)(hv:Fr (BG rV e) B U w.heap v [.int .u8 n])
  (hu:Up ops N ρ ⟨some d,.convert st dt x,ty,pos,aft,g⟩) (h:LW P ops w0 Q os ks (mk N (CP ρ d (.string ⟨#[UInt8.ofNat n.toNat]⟩))) w) :
  LW P ops w0 Q (⟨some d,.convert st dt x,ty,pos,aft,g⟩::os) (2::ks) (mk N ρ) w:=by
 obtain⟨F,hv,_,_⟩:=hv;rcases hv with⟨_,hc,_⟩|⟨us,b,cap,cur,F',hels,rfl,hg,q1,q2,q3,q4,rfl⟩;cases hc;obtain⟨rfl,rfl⟩:=Hb hels;refine CY (by decide) rfl hu _ (fun w' hcl=>?_) h;have hcl:AB w w':=hcl;have hcb:w'.heap[b]? = w.heap[b]?:=hcl.heap (getElem?_lt hg);have hlc:=run_loadCells_list (P:=P) w' ⟨b,0,none⟩ [.int .u8 n] (fun j u hj=>by
  rw[FH,BT];simp only[CB,hcb,hg];have hj0:j=0:=by have:=(List.getElem?_eq_some_iff.1 hj).1;simpa using this
  subst hj0;have e1:cur.toList[0]? = some (.int .u8 n):=by
   have:(cur.toList.take 1)[0]? = some (.int .u8 n):=by rw[show cur.toList.take 1=[.int .u8 n]from q4];rfl
   rwa [List.getElem?_take,if_pos (by decide)]at this
  have e2:u=.int .u8 n:=by simpa using hj.symm
  rw[e2];simpa using e1)
 have hb:=run_bytesToString (P:=P) w' ⟨b,0,none⟩ 1 cap [n] (by simpa using hlc);have hr:=run_convert_bytes_string (P:=P) w' st dt e (some ⟨b,0,none⟩) 1 cap hs he hd;simp only[execOp,hx,zd,Sem.run_bind,hr,hb,Result.andThen_ok,Sem.run_pure];rfl
theorem TS {b:Nat}{z u0 u1 u2 u3:Value}(ht:P.underlying t=some (.slice e))(hi:TI P e 1 z b)(h0:u0.cells=#[u0])(h1:u1.cells=#[u1])(h2:u2.cells=#[u2])(h3:u3.cells=#[u3])(hz:z.cells=#[z]) :
  (Instr.buildSlice t 4 #[(0,u0),(1,u1),(2,u2),(3,u3)]).run P w=.ok (.slice (some ⟨w.heap.size,0,none⟩) 4 4) (w.alloc (.cells #[u0,u1,u2,u3] e)):=by
 obtain⟨i,q1,q2,q3,q4⟩:=hi.get;simp[Instr.buildSlice,run_underlying ht,sizeOf,typeInfo,zeroValue,q1,q2,q3,Instr.fill,newRow,h0,h1,h2,h3,hz,GP,List.range_succ]
theorem VX {α:Type}{E:BI α}(hE:CC E){ys:List α}{b:Nat}{z u0 u1 u2 u3:Value}{x0 x1 x2 x3:Operand}(ht:P.underlying t=some (.slice e))(hi:TI P e 1 z b)(hz:z.cells=#[z])
  (hx0:Bz N ρ x0=u0) (hx1:Bz N ρ x1=u1) (hx2:Bz N ρ x2=u2) (hx3:Bz N ρ x3=u3) (hl:ys.length=4) (hels:els E w.heap [u0,u1,u2,u3] ys [])
  (hu:Up ops N ρ ⟨some d,.buildSlice t 4 #[(0,x0),(1,x1),(2,x2),(3,x3)],ty,pos,aft,g⟩)
  (h:∀v w1,AB w w1→w1.heap.size=w.heap.size+1→Fr (BG E e) w.heap.size w1.heap.size w1.heap v ys→LW P ops w0 Q os ks (mk N (CP ρ d v)) w1) :
  LW P ops w0 Q (⟨some d,.buildSlice t 4 #[(0,x0),(1,x1),(2,x2),(3,x3)],ty,pos,aft,g⟩::os) (3::ks) (mk N ρ) w:=by
 have hc:=hels.cells1 hE;have hr:=TS (P:=P) (w:=w) ht hi (hc u0 (by simp)).1 (hc u1 (by simp)).1 (hc u2 (by simp)).1 (hc u3 (by simp)).1 hz;have hrun:(execOp (Bz N ρ) ⟨some d,.buildSlice t 4 #[(0,x0),(1,x1),(2,x2),(3,x3)],ty,pos,aft,g⟩).run P w=.ok (.value (.slice (some ⟨w.heap.size,0,none⟩) 4 4)) (w.alloc (.cells #[u0,u1,u2,u3] e)):=by
  simp only[execOp,zc,zf,zh,Sem.run_bind,hx0,hx1,hx2,hx3,hr,Result.andThen_ok,Sem.run_pure]
 refine Gt rfl hu _ _ hrun (BA _ _)<|h _ _ (BA _ _) (by simp) ?_;have hn:=H8 (e:=e) (w:=w) hE (us:=[u0,u1,u2,u3]) (xs:=ys) (F:=[]) (cur:=#[u0,u1,u2,u3]) hels (by simp[maxLen]) (by rw[hl];rfl) (by rw[hl];simp);rw[hl]at hn;refine⟨_,hn,?_,fun c hc=>?_⟩;rw[List.nodup_cons];exact⟨fun hm=>(by cases hm),zk⟩;rcases ze.1 hc with rfl|hc;exact⟨A7 _,by simp⟩;cases hc
end str
theorem XU {H:Array Obj}{u0 u1 u2 u3:Value}(h0:u0.cells=#[u0]∧u0.oneCell'=true)(h1:u1.cells=#[u1]∧u1.oneCell'=true)(h2:u2.cells=#[u2]∧u2.oneCell'=true)(h3:u3.cells=#[u3]∧u3.oneCell'=true):els rV H [u0,u1,u2,u3] [u0,u1,u2,u3] [] :=
 QX fun u hu=>by
  simp only[ze,z2,or_false]at hu
  rcases hu with rfl|rfl|rfl|rfl <;> assumption
theorem TT {p q:List Fn}{F v:Int}{e:Ex}(hF:F≤((p.length:Nat):Int)):H5 (p++q) F v e=H5 p F v e:=by by_cases h:HN e.num 0 (F-1)=true;have h1:=CI.1 h;have h2:(p++q).getD e.num.toNat Fn.zero=p.getD e.num.toNat Fn.zero:=FQ zO;unfold H5;rw[h2];unfold H5;simp only[Bool.not_eq_true]at h;simp[h]
mutual
theorem OC {p q:List Fn}{F:Int}(hF:F≤((p.length:Nat):Int)):∀(e:Ex)(v:Int),wf (p++q) F e v=wf p F e v
 |.mk k n c d l,v=>by rw[wf,wf,TT hF,Ps hF l]
theorem Ps {p q:List Fn}{F:Int}(hF:F≤((p.length:Nat):Int)):∀(l:List Ex)(b:Bool)(i:Nat)(v:Int),Pg (p++q) F b i l v=Pg p F b i l v
 |[],_,_,_=>by rw[Pg,Pg]
 |e::l,b,i,v=>by rw[Pg,Pg,OC hF e,Ps hF l]
end
structure MZ (p:List Fn)(pl:Bool):Prop where
 len:p.length≤12
 par:∀k,k<p.length→1≤(p.getD k Fn.zero).params∧(p.getD k Fn.zero).params≤3
 outs:∀k,k<p.length→1≤(p.getD k Fn.zero).outs.length∧(p.getD k Fn.zero).outs.length≤3
 wf:∀k,k<p.length→∀j,j<(p.getD k Fn.zero).outs.length→wf p ((k:Nat):Int) ((p.getD k Fn.zero).outs.getD j Ex.zero) (p.getD k Fn.zero).params=true
 dp:∀k,k<p.length→Ex.deeps (p.getD k Fn.zero).outs≤6
 sz:∀k,k<p.length→Ex.sizes (p.getD k Fn.zero).outs≤400
 pl:pl=true→∀k,k<p.length→Oi (p.getD k Fn.zero).outs=true
 nm:∀k,k<p.length→KP (p.getD k Fn.zero).name=true
 nw:∀k,k<p.length→QA p k=true
theorem MZ.nil (pl:Bool):MZ [] pl:=by constructor;simp;all_goals first|(intro _ k hk;simp at hk)|(intro k hk;simp at hk)
theorem MZ.gpr {p:List Fn}{pl:Bool}(h:MZ p pl):XT p :=
 ⟨by have:=h.len;omega,fun k hk=>by have:=h.par k hk;omega,fun k hk=>by have:=h.outs k hk;omega⟩
theorem MZ.snoc {p:List Fn}{pl:Bool}{f:Fn}(h:MZ p pl)(hl:p.length≤11)(hp:1≤f.params∧f.params≤3)(ho:1≤f.outs.length∧f.outs.length≤3)
  (hw:∀j,j<f.outs.length→Go.Proofs.YtlbefjfhfodnlaaGreatDoor.wf p ((p.length:Nat):Int) (f.outs.getD j Ex.zero) f.params=true) (hd:Ex.deeps f.outs≤6) (hs:Ex.sizes f.outs≤400) (hpl:pl=true→Oi f.outs=true)
  (hn:KP f.name=true) (hnw:∀k,k<p.length→FA (p.getD k Fn.zero).name f.name=false):MZ (p++[f]) pl:=by
 have e:∀k,k<(p++[f]).length→(k<p.length∧(p++[f]).getD k Fn.zero=p.getD k Fn.zero)∨(k=p.length∧(p++[f]).getD k Fn.zero=f):=fun k hk=>by
  rw[z4,zd]at hk;by_cases h:k<p.length;exact .inl ⟨h,FQ h⟩;exact .inr ⟨zO,J4 zO⟩
 refine⟨by rw[z4,zd];omega,?_,?_,?_,?_,?_,?_,?_,?_⟩
 intro k hk;rcases e k hk with⟨h1,h2⟩|⟨h1,h2⟩ <;> rw[h2];exact h.par k h1;exact hp
 intro k hk;rcases e k hk with⟨h1,h2⟩|⟨h1,h2⟩ <;> rw[h2];exact h.outs k h1;exact ho
 intro k hk;rcases e k hk with⟨h1,h2⟩|⟨h1,h2⟩ <;> rw[h2]
 intro j hj;rw[OC (by omega)];exact h.wf k h1 j hj
 intro j hj;subst h1;rw[OC (by omega)];exact hw j hj
 intro k hk;rcases e k hk with⟨h1,h2⟩|⟨h1,h2⟩ <;> rw[h2];exact h.dp k h1;exact hd
 intro k hk;rcases e k hk with⟨h1,h2⟩|⟨h1,h2⟩ <;> rw[h2];exact h.sz k h1;exact hs
 intro hq k hk;rcases e k hk with⟨h1,h2⟩|⟨h1,h2⟩ <;> rw[h2];exact h.pl hq k h1;exact hpl hq
 intro k hk;rcases e k hk with⟨h1,h2⟩|⟨h1,h2⟩ <;> rw[h2];exact h.nm k h1;exact hn
 intro k hk;rcases e k hk with⟨h1,h2⟩|⟨h1,h2⟩;have:=h.nw k h1;unfold QA at this ⊢;rwa [h2,List.take_append_of_le_length (by omega)];unfold QA;rw[h2,h1,List.take_left];simp only[Bool.not_eq_true',List.any_eq_false]
 intro g hg;obtain⟨i,hi,rfl⟩:=List.mem_iff_getElem.1 hg;have:=hnw i hi;rw[List.getD_eq_getElem?_getD,List.getElem?_eq_getElem hi,Option.getD_some]at this;simp[this]
structure Ry (p:List Fn)(vars:Int)(pl:Bool)(xs:List Ex)(i:Nat):Prop where
 len:xs.length=i
 wf:∀j,j<i→wf p ((p.length:Nat):Int) (xs.getD j Ex.zero) vars=true
 dp:Ex.deeps xs≤6
 sz:Ex.sizes xs≤i*117
 pl:pl=true→Oi xs=true
theorem Ry.nil (p:List Fn)(vars:Int)(pl:Bool):Ry p vars pl [] 0:=⟨rfl,fun j hj=>by omega,by rw[Ex.deeps];omega,by rw[Ex.sizes];omega,fun _=>by rw[Oi]⟩
theorem Ry.snoc {p:List Fn}{funcs vars:Int}{pl:Bool}{xs:List Ex}{i d:Nat}{l0 l1:Int}{x:Ex}(h:Ry p vars pl xs i)(hf:funcs=((p.length:Nat):Int))(hd:d≤5)(hl:l0≤30)(hx:Pp p funcs vars pl d l0 l1 x):Ry p vars pl (xs++[x]) (i+1):=by have hlen:=h.len;subst hf;refine⟨by simp[hlen],fun j hj=>?_,?_,?_,fun hp=>?_⟩;by_cases e:j=i;subst e;rw[J4 hlen.symm];exact hx.wf;rw[FQ (by omega)];exact h.wf j zO;have h1:=h.dp;have h2:=hx.dp;rw[J2];omega;have h1:=h.sz;have h2:=hx.sz;rw[J1];omega;rw[NJ,h.pl hp,hx.pl hp];rfl
def Dn (p:List Fn):Prop:=∀k,k<p.length→∃s∈MY,(p.getD k Fn.zero).name=s++In k
theorem Dn.nil:Dn []:=fun k hk=>by simp at hk
theorem Dn.snoc {p:List Fn}{f:Fn}{s:ByteArray}(h:Dn p)(hs:s∈MY)(hf:f.name=s++In p.length):Dn (p++[f]):=fun k hk=>by
 rw[z4,zd]at hk
 by_cases e:k<p.length
 rw[FQ e];exact h k e
 rw[J4 zO,show k=p.length from by omega];exact⟨s,hs,hf⟩
theorem Ry.fn {p:List Fn}{pl:Bool}{f:Fn}{s:ByteArray}{i:Nat}(h:MZ p pl)(hd:Dn p)(hl:p.length≤9)(hp:1≤f.params∧f.params≤3)(hi:1≤i∧i≤3)(ho:Ry p f.params pl f.outs i)
  (hs:s∈MY) (hf:f.name=s++In p.length):MZ (p++[f]) pl∧Dn (p++[f]) :=
 ⟨h.snoc zO hp (by rw[ho.len];exact hi) (fun j hj=>ho.wf j (by rw[← ho.len];exact hj)) ho.dp (by have:=ho.sz;omega) ho.pl (by rw[hf];exact TQ s hs ⟨p.length,zO⟩) (fun k hk=>by
  obtain⟨t,ht,e⟩:=hd k hk
  rw[e,hf]
  exact TR t ht s hs ⟨k,zO⟩ ⟨p.length,zO⟩ (by show k≠p.length;omega)),hd.snoc hs hf⟩
theorem Rz {x:ByteArray}(h:Value.string x∈[Value.string ⟨#[102]⟩,.string ⟨#[103]⟩,.string ⟨#[115,116,101,112]⟩,.string ⟨#[104,50]⟩]):x∈MY:=by simp only[ze,z2,or_false,Value.string.injEq]at h;rcases h with h|h|h|h <;> subst h <;> simp[MY]
theorem XV:Il 5=47770:=by decide
theorem XW:Mw 5=1365:=by decide
theorem RB (e:TypeId):∀ {d:Nat}{H:Array Obj}{cs:List Value}{x:Ex}{F:List Nat},C6 e d H cs x F→C6 e (d+1) H cs x F
 |0,_,_,_,_,h=>h.elim
 |d+1,_,_,_,_,⟨v,h1,h2,h3⟩=>⟨v,h1,h2,h3.imp fun h=>RB e h⟩
theorem N0 (e:TypeId){d:Nat}{H:Array Obj}{cs:List Value}{x:Ex}{F:List Nat}(h:C6 e d H cs x F):∀ {d':Nat},d≤d'→C6 e d' H cs x F:=by
 intro d' hd
 induction hd with
 |refl=>exact h
 |step _ ih=>exact RB e ih
theorem Cp.le {e:TypeId}{d d' B U:Nat}{H:Array Obj}{cs:List Value}{x:Ex}(h:Cp (C6 e d) B U H cs x)(hd:d≤d'):Cp (C6 e d') B U H cs x:=by obtain⟨G,h1,h2,h3⟩:=h;exact⟨G,N0 e h1 hd,h2,h3⟩
theorem MZ.npl {p:List Fn}{pl:Bool}(h:MZ p pl):MZ p false:=⟨h.len,h.par,h.outs,h.wf,h.dp,h.sz,fun h=>absurd h (by decide),h.nm,h.nw⟩
section res
variable {P:Program} {N:Nat} {ρ:Nat→Value} {w:World}
theorem RC:∀(l:List Nat),(((l.map ResultVar.tmp).mapM (m:=Sem) fun
  |.tmp t=>pure ((mk N ρ).tmps.getD t undef)
  |.cell a t=>do loadVar t (← asAddr ((mk N ρ).tmps.getD a undef)))).run P w=.ok (l.map fun t=>Bz N ρ (.tmp t)) w:=by
 intro l
 induction l with
 |nil=>rfl
 |cons t l ih =>
  simp only[zf,List.mapM_cons,Sem.run_bind,Sem.run_pure,Result.andThen_ok,KG]at ih ⊢;rw[ih];rfl
theorem E4 {fn:Func}{R:Ending→World→Prop}{k s b t0:Nat}{ts:List Nat}{ty:TypeId}{cs:List Value}(vs:List Value)(hr:fn.results=(ResultVar.cell k ty::((t0::ts).map ResultVar.tmp)).toArray)(ha:Fy P ty s=true)(hv:Bz N ρ (.tmp k)=.pointer (some ⟨b,0,none⟩))(hb:BX w.heap b cs)(hl:cs.length=s)
  (hvs:((t0::ts).map fun t=>Bz N ρ (.tmp t))=vs) (h:R (.returned (.tuple (.agg cs.toArray::vs).toArray)) w):bodyPost P fn R .ret (mk N ρ) w:=by
 subst hvs;refine⟨rfl,_,?_,h⟩;have hld:=Jn (P:=P) ha (LD.of_box hb) hl;have hg:(mk N ρ).tmps.getD k undef=.pointer (some ⟨b,0,none⟩):=by rw[KG,hv]
 have hi:(asAddr (.pointer (some ⟨b,0,none⟩))).run P w=.ok ⟨b,0,none⟩ w:=rfl;have key:=RC (P:=P) (N:=N) (ρ:=ρ) (w:=w) (t0::ts);unfold results;rw[hr];simp only[List.mapM_toArray,Sem.run_bind,Sem.run_map];have hfull:(((ResultVar.cell k ty::((t0::ts).map ResultVar.tmp)).mapM (m:=Sem) fun
  |.tmp t=>pure ((mk N ρ).tmps.getD t undef)
  |.cell a t=>do loadVar t (← asAddr ((mk N ρ).tmps.getD a undef)))).run P w=.ok (.agg cs.toArray::((t0::ts).map fun t=>Bz N ρ (.tmp t))) w:=by
  rw[List.mapM_cons];simp only[Sem.run_bind,Sem.run_pure,hg,hi,hld,Result.andThen_ok];rw[key];rfl
 refine (congrArg (fun r=>(Result.andThen (Result.andThen r fun a w'=>Result.ok a.toArray w') fun a w'=>Result.ok (if h:a.size=1 then a[0]else Value.tuple a) w')) hfull).trans ?_;simp only[Result.andThen_ok];rfl
end res
end
section
set_option linter.unusedSectionVars false
namespace Jx
section
variable [J:JR] {P:Program} {ops:Array Oper} {md:Region.Mode} {kd bs:Nat→Nat} {w0:World} {Q:Act→World→Prop}
theorem Io {Q':Act→World→Prop}(h:∀a w,Q a w→Q' a w):∀(l:List Nat)(a:Act)(w:World),LI P ops kd w0 Q l a w→LI P ops kd w0 Q' l a w
 |[],a,w,hh=>h a w hh
 |i::l,a,w,hh=>by
  simp only[LI]at hh ⊢
  cases hoi:ops[i]? with
  |none=>rw[hoi]at hh;exact hh.elim
  |some o =>
   rw[hoi]at hh
   simp only at hh ⊢
   split
   rename_i hw
   rw[if_pos hw]at hh
   exact hh.mono fun a w=>Io h l a w
   rename_i hw
   rw[if_neg hw]at hh
   exact Io h l _ _ hh
theorem JZ (s:List Nat):∀(l:List Nat)(a:Act)(w:World),LI P ops kd w0 (LI P ops kd w0 Q s) l a w→LI P ops kd w0 Q (l++s) a w
 |[],a,w,hh=>hh
 |i::l,a,w,hh=>by
  simp only[LI,List.cons_append]at hh ⊢
  cases hoi:ops[i]? with
  |none=>rw[hoi]at hh;exact hh.elim
  |some o =>
   rw[hoi]at hh
   simp only at hh ⊢
   split
   rename_i hw
   rw[if_pos hw]at hh
   exact hh.mono fun a w=>JZ s l a w
   rename_i hw
   rw[if_neg hw]at hh
   exact JZ s l _ _ hh
theorem E3 {Q':Act→World→Prop}(hQ:∀a w,Q a w→Q' a w):∀(l:List Nat)(os:List Oper)(ks:List Nat)(a:Act)(w:World),Mt ops kd l os ks→LW P ops w0 Q os ks a w→LI P ops kd w0 Q' l a w
 |[],[],_,a,w,_,h=>by simpa [LI]using hQ a w (by simpa [LW]using h)
 |x::l,o::os,k::ks,a,w,⟨h0,hk,hM⟩,h=>by
  have hr:∀a w,LW P ops w0 Q os ks a w→LI P ops kd w0 Q' l a w:=fun a w hh=>E3 hQ l os ks a w hM hh
  simp only[LI,h0,LW]at h ⊢
  split
  rename_i hw
  rw[if_pos hw]at h
  rw[hk]
  exact h.mono hr
  rename_i hw
  rw[if_neg hw]at h
  exact hr _ _ h
 |[],_::_,_,_,_,h,_=>h.elim
 |_::_,[],_,_,_,h,_=>h.elim
 |_::_,_::_,[],_,_,h,_=>h.elim
structure K1 (ops:Array Oper)(kd bs:Nat→Nat)(w0:World)(L0 S:List Nat)(n:Nat)(l:List Nat)(listed:Array Bool)(w:World):Prop where
 sub:l.Sublist L0
 len:l.length+S.length=n
 mem:∀i,i∈l++S↔listed.getD i true=false
 sz:listed.size=ops.size
 clo:IZ bs listed
 inv:Nr kd w0 w (l++S)
 nd:(l++S).Nodup
variable {L0:List Nat}
theorem TU {l:List Nat}(hp:l.Pairwise (fun x y=>4≤kd x→kd y≠1)):Ns kd l:=by intro l1 i l2 hl hk j hj;subst hl;exact List.rel_of_pairwise_cons (List.pairwise_append.1 hp).2.1 hj hk
theorem Jz (hsel:∀(j:Nat)(o:Oper) cs b,ops[j]? = some o→o.op≠.select cs b)(hS:HQ md ops bs)
  (hlex:∀j oj,ops[j]? = some oj→∀e∈oj.after,Region.binds md e=true→e.on<j) {s:List Nat} (hp:(L0++s).Pairwise (DB md ops kd bs)) (h14:(L0++s).Pairwise (fun x y=>4≤kd x→kd y≠1))
  (n:Nat) (l:List Nat) (listed:Array Bool) (a:Act) (w:World) (hC:K1 ops kd bs w0 L0 s n l listed w) (h:LI P ops kd w0 (LI P ops kd w0 Q s) l a w):wpAny P md ops (NQ Q) n listed a w :=
 FS hsel hS hlex n (l++s) listed a w (by rw[z4];exact hC.len) (hp.sublist (List.Sublist.append_right hC.sub s)) hC.nd hC.sz hC.mem hC.clo
  (TU (h14.sublist (List.Sublist.append_right hC.sub s))) hC.inv (JZ s l a w h)
theorem Ip (hsel:∀ (j:Nat) (o:Oper) cs b,ops[j]? = some o→o.op≠.select cs b) (hS:HQ md ops bs)
  (hlex:∀ j oj,ops[j]? = some oj→∀ e∈oj.after,Region.binds md e = true→e.on < j)
  {h1 h2:Nat} {S1 S2:List Nat} {Q1 Q2:Act→World→Prop} (hperm:(h1 :: S1).Perm (h2 :: S2)) (hk1:kd h1 = 3) (hk2:kd h2 = 3)
  (hl:∀ x∈L0,kd x≤2) (hL:L0.Pairwise (DB md ops kd bs)) (hf1:∀ x∈L0,DB md ops kd bs x h1) (hf2:∀ x∈L0,DB md ops kd bs x h2)
  (hz:∀ z∈S1,z = h2∨(bs z).testBit h1 = true∨(bs z).testBit h2 = true)
  (hord:(L0++h1 :: S1).Pairwise (fun x y=>∀ ox,ops[x]? = some ox→∀ e∈ox.after,Region.binds md e = true→e.on≠y))
  (rec1:∀ n l listed a w,K1 ops kd bs w0 L0 S1 n l listed w→LI P ops kd w0 Q1 l a w→wpAny P md ops (NQ Q) n listed a w)
  (rec2:∀ n l listed a w,K1 ops kd bs w0 L0 S2 n l listed w→LI P ops kd w0 Q2 l a w→wpAny P md ops (NQ Q) n listed a w) :
  ∀ (n:Nat) (l:List Nat) (listed:Array Bool) (a:Act) (w:World),K1 ops kd bs w0 L0 (h1 :: S1) n l listed w→LI P ops kd w0 (fun a w=>LI P ops kd w0 Q1 [h1] a w∧LI P ops kd w0 Q2 [h2] a w) l a w→wpAny P md ops (NQ Q) n listed a w
 | 0,l,listed,a,w,hC,h=>by have:=hC.len; simp at this
 | n + 1,l,listed,a,w,hC,h=>by
  have hm2:∀ i,i∈l++h1 :: S1↔i∈l++h2 :: S2:=fun i=>by
   simp only [zi]; rw [hperm.mem_iff]
  have hun_of:∀ i∈l++h1 :: S1,listed.getD i true = false:=fun i hi=>(hC.mem i).1 hi
  -- a place that makes memory is taken
  have heavy:∀ (x:Nat) (T:List Nat) (Qx:Act→World→Prop),kd x = 3→(h1 :: S1).Perm (x :: T)→(∀ y∈L0,DB md ops kd bs y x)→LI P ops kd w0 Qx (l++[x]) a w →
    (∀ l' a' w' listed',K1 ops kd bs w0 L0 T n l' listed' w'→LI P ops kd w0 Qx l' a' w'→wpAny P md ops (NQ Q) n listed' a' w') →
    ∀ (ox:Oper),ops[x]? = some ox→(∀ e∈ox.after,Region.binds md e = true→listed.getD e.on false = true)→wpOp P ops (NQ Q) x (wpAny P md ops (NQ Q) n (listed.setIfInBounds x true)) a w:=by
   intro x T Qx hkx hpx hfx hLx hrec ox hox hall;have hbits:=D5 hS hC.clo hox hall;have hxm:x∈l++h1 :: S1:=z1 _ (hpx.mem_iff.2 (z0 ..));have hxu:=hun_of x hxm;have hfree:=Ep (kd:=kd) (l1:=l) hox (fun y hy=>(hfx y<|hC.sub.subset hy).1) (fun y hy=>hun_of y<|z8 _ hy) hbits;have hsz:=BQ hxu;have hnd2:(l++x :: T).Nodup:=(List.Perm.append_left l hpx).nodup_iff.1 hC.nd;have hxl:x∉l++T:=by
    have h1:=List.nodup_append.1 hnd2
    intro hmem;rcases zi.1 hmem with hh | hh;exact h1.2.2 x hh x (z0 ..) rfl;exact (List.nodup_cons.1 h1.2.1).1 hh
   have hmT:∀ i,i∈l++x :: T↔listed.getD i true = false:=fun i=>by
    rw [← hC.mem i]; simp only [zi]; rw [hpx.mem_iff]
   have hcond:∀ w',(AB w w')→K1 ops kd bs w0 L0 T n l (listed.setIfInBounds x true) w':=fun w' hE =>
    ⟨hC.sub,by have:=hC.len; have:=hpx.length_eq; simp at *; omega,Ff hmT hxl hsz,by simpa using hC.sz,Ej hC.clo hbits,
     fun ⟨j,hj,hkj⟩=>(hC.inv ⟨j,by
      rcases zi.1 hj with hh | hh;exact z8 _ hh;exact z1 _ (hpx.mem_iff.2 (z3 _ hh)),hkj⟩).trans hE,
     hnd2.sublist (List.Sublist.append_left (List.sublist_cons_self _ _) _)⟩
   obtain ⟨g1,g2⟩:=Jk (Q:=Qx) hsel hox zO l [] a w hfree (by simpa using hLx);unfold wpOp;rw [hox];by_cases hw:Region.wanted ox (yielded ops a.tmps) = true;simp only [hw,if_true];exact .inl<|Oper.wp_mono (fun a' w' hK=>hrec l a' w' _ (hcond w'<|hK.1 hkx) (by simpa using hK.2))<|Gn<|g1 hw;simp only [hw,Bool.false_eq_true,if_false];exact hrec l _ w _ (hcond w<|AB.refl w) (by simpa using g2 (by simpa using hw))
  refine ⟨fun h0=>?_,fun i hi=>?_⟩;exfalso;have hready:∀ (x:Nat) (t:List Nat),l++h1 :: S1 = x :: t→False:=fun x t ht=>by
   have hs:(x :: t).Pairwise (fun x y=>∀ ox,ops[x]? = some ox→∀ e∈ox.after,Region.binds md e = true→e.on≠y):=ht ▸ hord.sublist (List.Sublist.append_right hC.sub _);have:=FV (md:=md) (i:=x) (l:=t) hC.sz (fun y=>ht ▸ hC.mem y) hlex (fun y hy ox hox=>(List.pairwise_cons.1 hs).1 y hy ox hox);rw [h0] at this;cases this
  cases l with
  | nil=>exact hready _ _ rfl
  | cons x l=>exact hready x (l++h1 :: S1) rfl
  obtain ⟨hun,oi,hoi,hall⟩:=mem_ready.1 hi;have hmem:=(hC.mem i).2 hun;have hbits:=D5 hS hC.clo hoi hall;by_cases hil:i∈l;obtain ⟨l1,l2,rfl⟩:=List.append_of_mem hil;have hpi:∀ x∈l1,DB md ops kd bs x i:=fun x hx=>(List.pairwise_append.1 (hL.sublist hC.sub)).2.2 x hx i (z0 ..);have hfree:=Ep (kd:=kd) (l1:=l1) hoi (fun x hx=>(hpi x hx).1) (fun x hx=>hun_of x (by simp [hx])) hbits;have hk:kd i≤2:=hl i (hC.sub.subset (by simp));have hsub0:(l1++l2).Sublist (l1++i :: l2):=List.Sublist.append_left (List.sublist_cons_self _ _) _;have hnd1:(l1++i :: (l2++h1 :: S1)).Nodup:=by have:=hC.nd; rwa [List.append_assoc,List.cons_append] at this
  have hnot:i∉l1++(l2++h1 :: S1):=by
   have h1:=List.nodup_append.1 hnd1
   intro hmem;rcases zi.1 hmem with hh | hh;exact h1.2.2 i hh i (z0 ..) rfl;exact (List.nodup_cons.1 h1.2.1).1 hh
  have hm1:∀ x,x∈l1++i :: (l2++h1 :: S1)↔listed.getD x true = false:=fun x=>by
   have:=hC.mem x; rwa [List.append_assoc,List.cons_append] at this
  have hcond:K1 ops kd bs w0 L0 (h1 :: S1) n (l1++l2) (listed.setIfInBounds i true) w :=
   ⟨hsub0.trans hC.sub,by have:=hC.len; simp at *; omega,fun x=>by rw [List.append_assoc]; exact Ff hm1 hnot (BQ hun) x,by simpa using hC.sz,Ej hC.clo hbits,
    fun ⟨j,hj,hkj⟩=>hC.inv ⟨j,by
     rcases zi.1 hj with hh | hh;exact z8 _<|hsub0.subset hh;exact z1 _ hh,hkj⟩,
    hC.nd.sublist (List.Sublist.append_right hsub0 _)⟩
  obtain ⟨v,hv,hL'⟩:=HR hsel hoi hk l1 l2 a w hfree (fun h1=>hC.inv ⟨i,by simp,h1⟩) h;unfold wpOp;rw [hoi];have rec_:=fun a' hh=>Ip hsel hS hlex hperm hk1 hk2 hl hL hf1 hf2 hz hord rec1 rec2 n (l1++l2) (listed.setIfInBounds i true) a' w hcond hh;rcases hv with ⟨hw,hy⟩ | ⟨hw,rfl⟩;simp only [hw,if_true];exact .inl<|GN (hy w (Cl.self fun h1=>hC.inv ⟨i,by simp,h1⟩))<|rec_ _ hL';simp only [hw,Bool.false_eq_true,if_false];exact rec_ _ hL';have hiS:i∈h1 :: S1:=(zi.1 hmem).resolve_left hil;have h12:i = h1∨i = h2:=by
   rcases ze.1 hiS with hh | hh;exact .inl hh;rcases hz i hh with hh | hh | hh;exact .inr hh;have q1:=hbits h1 hh;have q2:=CQ<|hun_of h1 (by simp);rw [q1] at q2; cases q2;have q1:=hbits h2 hh;have q2:=CQ<|hun_of h2 ((hm2 h2).2 (by simp));rw [q1] at q2; cases q2
  rcases h12 with rfl | rfl;exact heavy i S1 Q1 hk1 (List.Perm.refl _) hf1 (JZ [i] l a w<|Io (fun _ _ hh=>hh.1) l a w h) (fun l' a' w' li hc hh=>rec1 n l' li a' w' hc hh) oi hoi hall;exact heavy i S2 Q2 hk2 hperm hf2 (JZ [i] l a w<|Io (fun _ _ hh=>hh.2) l a w h) (fun l' a' w' li hc hh=>rec2 n l' li a' w' hc hh) oi hoi hall
theorem N1 (x:Nat)(l:List Nat)(a:Act)(w:World)(hh:LI P ops kd w0 Q (x::l) a w):LI P ops kd w0 (LI P ops kd w0 Q l) [x] a w:=by
 simp only[LI]at hh ⊢;cases hoi:ops[x]? with
 |none=>rw[hoi]at hh;exact hh.elim
 |some o =>
  rw[hoi]at hh;simp only at hh ⊢;split;rename_i hw;rw[if_pos hw]at hh;exact hh.mono fun a w h=>h;rename_i hw;rw[if_neg hw]at hh;exact hh
end
def Iq (ops:Array Oper)(x y:Nat):Bool:=match ops[x]? with|some ox=>ox.after.all fun e=>!Region.binds .any e || e.on != y|none=>true
def XX (os:List Oper)(ks:List Nat)(L0:List Nat)(h1 g1:Nat)(r1:List Nat)(g2:Nat)(r2:List Nat)(h2:Nat)(r3:List Nat):Bool :=
  let ops:=os.toArray
  let b:=(Region.before ops).toList
  Region.noSelect ops &&
  (os.zipIdx.all fun(o,j) =>
    (o.after.all fun e=>!Region.binds .any e || decide (e.on<j)) &&
    (let m:=o.after.foldl (fun s e=>if Region.binds .any e then s ||| 2 ^ e.on ||| b.getD e.on 0 else s) 0
     (b.getD j 0 == m))) &&
  (decide (ks.getD h1 0=3) && (decide (ks.getD h2 0=3) && (decide (ks.getD g1 0=3) && decide (ks.getD g2 0=3)))) &&
  (L0.all fun x=>decide (ks.getD x 0≤2)) &&
  No (FL ops ks b) L0 &&
  (L0.all fun x=>FL ops ks b x h1 && (FL ops ks b x h2 && (FL ops ks b x g1 && FL ops ks b x g2))) &&
  ((h1::g1::r1).isPerm (h2::r3) && (g1::r1).isPerm (g2::r2)) &&
  ((g1::r1).all fun z=>decide (z=h2) || ((b.getD z 0).testBit h1 || (b.getD z 0).testBit h2)) &&
  (r1.all fun z=>decide (z=g2) || ((b.getD z 0).testBit g1 || (b.getD z 0).testBit g2)) &&
  (No (Iq ops) (L0++h1::g1::r1)) &&
  (No (FL ops ks b) (L0++r1) && (No (FL ops ks b) (L0++r2) && No (FL ops ks b) (L0++r3))) &&
  (No (fun x y=>!(decide (4≤ks.getD x 0)) || ks.getD y 0 != 1) (L0++r1) && (No (fun x y=>!(decide (4≤ks.getD x 0)) || ks.getD y 0 != 1) (L0++r2) && No (fun x y=>!(decide (4≤ks.getD x 0)) || ks.getD y 0 != 1) (L0++r3))) &&
  (decide ((L0++h1::g1::r1).length=os.length) && (decide (L0++h1::g1::r1).Nodup && ((L0++h1::g1::r1).all (fun x=>decide (x<os.length)) && (List.range os.length).all fun x=>(L0++h1::g1::r1).contains x)))
section
variable [J:JR] {P:Program}
theorem XY {id:Nat}{Q:Exit→Act→World→Prop}{a:Act}{w:World}(os:List Oper)(ks:List Nat)(L0:List Nat)(h1 g1:Nat)(r1:List Nat)(g2:Nat)(r2:List Nat)(h2:Nat)(r3:List Nat)
  (oL:List Oper) (kL:List Nat) (oh1 og1:Oper) (o1:List Oper) (k1:List Nat) (og2:Oper) (o2:List Oper) (k2:List Nat) (oh2:Oper) (o3:List Oper) (k3:List Nat) (hm:P.follows .mixedOrders=true) (hB:XX os ks L0 h1 g1 r1 g2 r2 h2 r3=true)
  (hML:Mt os.toArray (fun i=>ks.getD i 0) L0 oL kL) (hMh:Mt os.toArray (fun i=>ks.getD i 0) [h1] [oh1] [3]) (hM1:Mt os.toArray (fun i=>ks.getD i 0) (g1::r1) (og1::o1) (3::k1)) (hM2:Mt os.toArray (fun i=>ks.getD i 0) (g2::r2) (og2::o2) (3::k2)) (hM3:Mt os.toArray (fun i=>ks.getD i 0) (h2::r3) (oh2::o3) (3::k3))
  (h:LW P os.toArray w.drew (fun a' w'=>LW P os.toArray w.drew (fun a'' w''=>LW P os.toArray w.drew (fun a w=>Q .normal a w) (og1::o1) (3::k1) a'' w''∧LW P os.toArray w.drew (fun a w=>Q .normal a w) (og2::o2) (3::k2) a'' w'') [oh1] [3] a' w' ∧
   LW P os.toArray w.drew (fun a w=>Q .normal a w) (oh2::o3) (3::k3) a' w') oL kL a w.drew):(Code.region id os.toArray true).wp P Q a w:=by
 refine wp_region_any hm ?_;simp only[XX,z7,decide_eq_true_eq]at hB;obtain⟨⟨⟨⟨⟨⟨⟨⟨⟨⟨⟨⟨hsel,hpl⟩,hk1,hk2,hk3,hk4⟩,hl⟩,hpL⟩,hpx⟩,hpe1,hpe2⟩,hz1⟩,hz2⟩,hord⟩,hb1,hb2,hb3⟩,hn1,hn2,hn3⟩,hln,hnd,hlt,hct⟩:=hB;have hz:∀ {j:Nat} {o:Oper},os.toArray[j]? = some o→(o,j)∈os.zipIdx:=by
  intro j o ho;rw[List.mem_zipIdx_iff_getElem?];simpa using ho
 have hall:∀j oj,os.toArray[j]? = some oj→_:=fun j oj hj=>zm.1 hpl _ (hz hj);have hlex:∀j oj,os.toArray[j]? = some oj→∀e∈oj.after,Region.binds .any e=true→e.on<j:=by
  intro j oj hj e he hb;have h1:=(z7 _ _ ▸ hall j oj hj:_∧_).1;have h2:=(Array.all_eq_true_iff_forall_mem.1 h1) e he;simpa [hb]using h2
 have hS:HQ .any os.toArray (fun j=>(Region.before os.toArray).toList.getD j 0):=by
  intro j oj hj i hb;have h3:=(z7 _ _ ▸ hall j oj hj:_∧_).2;have h5:(Region.before os.toArray).toList.getD j 0=oj.after.foldl (fun s e=>if Region.binds .any e then s ||| 2 ^ e.on ||| (Region.before os.toArray).toList.getD e.on 0 else s) 0:=by simpa using h3
  dsimp only at hb;rw[h5,← Array.foldl_toList]at hb;rcases Fg _ _ _ _ hb with hb|⟨e,he,hbb,hh⟩;simp at hb;exact⟨e,Array.mem_toList_iff.1 he,hbb,hh⟩
 have hmem:∀x,x∈L0++h1::g1::r1↔x<os.length:=fun x=>by
  constructor
  intro hx;exact of_decide_eq_true (zm.1 hlt x hx)
  intro hx;have:=zm.1 hct x (List.mem_range.2 hx);simpa using this
 have hse:=Region.noSelect_spec hsel;have P2:∀ {l:List Nat},No (FL os.toArray ks (Region.before os.toArray).toList) l=true→l.Pairwise (DB .any os.toArray (fun i=>ks.getD i 0) (fun j=>(Region.before os.toArray).toList.getD j 0)):=fun h=>Ez (fun x y hh=>D6 hh) h;have N2:∀ {l:List Nat},No (fun x y=>!(decide (4≤ks.getD x 0)) || ks.getD y 0 != 1) l=true→l.Pairwise (fun x y=>4≤ks.getD x 0→ks.getD y 0≠1):=fun h=>Ez (fun x y hxy h4=>by
  rcases Bool.or_eq_true_iff.1 hxy with hh|hh;simp only[Bool.not_eq_true',decide_eq_false_iff_not]at hh;exact absurd h4 hh;simpa using hh) h
 have hL2:∀x∈L0,ks.getD x 0≤2:=fun x hx=>of_decide_eq_true (zm.1 hl x hx);have hx4:∀x∈L0,_:=fun x hx=>zm.1 hpx x hx;simp only[z7]at hx4;have hordP:(L0++h1::g1::r1).Pairwise (fun x y=>∀ox,os.toArray[x]? = some ox→∀e∈ox.after,Region.binds .any e=true→e.on≠y):=Ez (fun x y hh ox hox e he hb=>by
  unfold Iq at hh;rw[hox]at hh;have:=(Array.all_eq_true_iff_forall_mem.1 hh) e he;simpa [hb]using this) hord
 have hord2:(L0++g1::r1).Pairwise (fun x y=>∀ox,os.toArray[x]? = some ox→∀e∈ox.after,Region.binds .any e=true→e.on≠y):=hordP.sublist (List.Sublist.append_left (List.sublist_cons_self _ _) _);have zz1:∀z∈g1::r1,z=h2∨((Region.before os.toArray).toList.getD z 0).testBit h1=true∨((Region.before os.toArray).toList.getD z 0).testBit h2=true:=fun z hz=>by
  have:=zm.1 hz1 z hz;simpa only[Bool.or_eq_true,decide_eq_true_eq]using this
 have zz2:∀z∈r1,z=g2∨((Region.before os.toArray).toList.getD z 0).testBit g1=true∨((Region.before os.toArray).toList.getD z 0).testBit g2=true:=fun z hz=>by
  have:=zm.1 hz2 z hz;simpa only[Bool.or_eq_true,decide_eq_true_eq]using this
 have base1:=Jz (P:=P) (w0:=w.drew) (Q:=fun a w=>Q .normal a w) hse hS hlex (P2 hb1)<|N2 hn1;have base2:=Jz (P:=P) (w0:=w.drew) (Q:=fun a w=>Q .normal a w) hse hS hlex (P2 hb2)<|N2 hn2;have base3:=Jz (P:=P) (w0:=w.drew) (Q:=fun a w=>Q .normal a w) hse hS hlex (P2 hb3)<|N2 hn3;have inner:=Ip (P:=P) (w0:=w.drew) (Q:=fun a w=>Q .normal a w) hse hS hlex (h1:=g1) (h2:=g2) (S1:=r1) (S2:=r2) (List.isPerm_iff.1 hpe2) hk3 hk4 hL2 (P2 hpL) (fun x hx=>D6 (hx4 x hx).2.2.1) (fun x hx=>D6 (hx4 x hx).2.2.2) zz2 hord2 base1 base2;have outer:=Ip (P:=P) (w0:=w.drew) (Q:=fun a w=>Q .normal a w) hse hS hlex (h1:=h1) (h2:=h2) (S1:=g1::r1) (S2:=r3) (List.isPerm_iff.1 hpe1) hk1 hk2 hL2 (P2 hpL) (fun x hx=>D6 (hx4 x hx).1) (fun x hx=>D6 (hx4 x hx).2.1) zz1 hordP inner base3;have key:=outer os.length L0 (Array.replicate os.length false) a w.drew ⟨List.Sublist.refl _,by rw[← hln,z4],fun x=>?_,by simp,?_,fun _=>AB.refl _,hnd⟩ ?_;have:=FW _ _ _ _ key;simpa using this;rw[hmem];constructor
 intro hx;simp[hx]
 intro hh;rcases Nat.lt_or_ge x os.length with h'|h';exact h';simp[Array.getElem?_eq_none (show(Array.replicate os.length false).size≤x by simpa using h')]at hh
 intro i hi;rcases Nat.lt_or_ge i os.length with h'|h';simp[h']at hi;simp[Array.getElem?_eq_none (show(Array.replicate os.length false).size≤i by simpa using h')]at hi;refine E3 (fun a w hh=>⟨?_,?_⟩) _ _ _ _ _ hML h;exact E3 (fun a w hh=>⟨N1 _ _ _ _<|E3 (fun _ _ h=>h) _ _ _ _ _ hM1 hh.1,N1 _ _ _ _<|E3 (fun _ _ h=>h) _ _ _ _ _ hM2 hh.2⟩) _ _ _ _ _ hMh hh.1;exact N1 _ _ _ _<|E3 (fun _ _ h=>h) _ _ _ _ _ hM3 hh.2
theorem cC {ops:Array Oper}{w0:World}{Q:Act→World→Prop}{o:Oper}{os:List Oper}{ks:List Nat}{a:Act}{w:World}(h:_root_.Go.Proofs.YtlbefjfhfodnlaaGreatDoor.LW P ops w0 (fun a' w'=>AB w w'∧LW P ops w0 Q os ks a' w') [o] [4] a w):LW P ops w0 Q (o::os) (3::ks) a w:=by simp only[_root_.Go.Proofs.YtlbefjfhfodnlaaGreatDoor.LW]at h;simp only[LW];split;rename_i hw;rw[if_pos hw]at h;unfold _root_.Go.Proofs.YtlbefjfhfodnlaaGreatDoor.By at h;unfold By;rw[if_neg (by decide),if_neg (by decide)]at h;rw[if_neg (by decide),if_pos rfl];exact h;rename_i hw;rw[if_neg hw]at h;exact h.2
theorem ZP {ops:Array Oper}{w0:World}{Q:Act→World→Prop}{o:Oper}{os:List Oper}{ks:List Nat}{a:Act}{w:World}(h:_root_.Go.Proofs.YtlbefjfhfodnlaaGreatDoor.LW P ops w0 (fun a' w'=>LW P ops w0 Q os ks a' w') [o] [3] a w):LW P ops w0 Q (o::os) (3::ks) a w:=by simp only[_root_.Go.Proofs.YtlbefjfhfodnlaaGreatDoor.LW]at h;simp only[LW];split;rename_i hw;rw[if_pos hw]at h;unfold _root_.Go.Proofs.YtlbefjfhfodnlaaGreatDoor.By at h;unfold By;rw[if_neg (by decide),if_pos rfl]at h;rw[if_neg (by decide),if_pos rfl];exact Oper.wp_mono (fun a w hh=>⟨J.ext hh.1,hh.2⟩) h;rename_i hw;rw[if_neg hw]at h;exact h
end
end Jx
end
def G6 (p:List Fn)(f:Int):Int:=if Es p=true then(if 0≤f∧f≤((p.length:Nat):Int)-1 then 0 else 2)else 1
theorem NL {p:List Fn}{f:Int}(h:G6 p f=0):Es p=true∧0≤f∧f<((p.length:Nat):Int):=by unfold G6 at h;split at h;split at h;rename_i h1 h2;exact⟨h1,h2.1,zO⟩;omega;omega
theorem VY {n k:Nat}{s:Sr}(h:DJ n s)(hk:k<n):IJ (s.getD k 0)=true:=by
 have hk':k<s.length:=by rw[h.1];exact hk
 have:=h.2;unfold Bj at this;have h2:=zm.1 this s[k]<|List.getElem_mem hk';rwa [show s.getD k 0=s[k]from by simp[hk']]
section
mutual
def IK:Ex→Int→Int
 |.mk _ _ _ _ l,x=>DC l (x-1)
def DC:List Ex→Int→Int
 |[],x=>x
 |e::l,x=>if 0≤x then DC l (IK e x)else x
end
theorem TV (e:Ex)(x:Int):IK e x=DC e.kids (x-1):=by cases e;rw[IK];rfl
theorem Li {l:List Ex}{x:Int}(h:x<0):DC l x=x:=by
 cases l with
 |nil=>rw[DC]
 |cons e l=>rw[DC,if_neg (by omega)]
mutual
theorem Lj:∀(e:Ex)(x:Int),0≤x→(IK e x=x-(e.size:Int)∧(e.size:Int)≤x)∨(IK e x = -1∧x<(e.size:Int))
 |.mk k n q c l,x,h=>by
  rw[IK,Ex.size]
  by_cases h0:x=0
  subst h0
  right
  rw[Li (by omega)]
  refine⟨zO,zO⟩
  rcases Ir l (x-1) (by omega)with h1|h1
  left;omega
  right;omega
theorem Ir:∀(l:List Ex)(x:Int),0≤x→(DC l x=x-(Ex.sizes l:Int)∧(Ex.sizes l:Int)≤x)∨(DC l x = -1∧x<(Ex.sizes l:Int))
 |[],x,h=>by rw[DC,Ex.sizes];left;omega
 |e::l,x,h=>by
  rw[DC,if_pos h,Ex.sizes]
  rcases Lj e x h with h1|h1
  rw[h1.1]
  rcases Ir l (x-(e.size:Int)) (by omega)with h2|h2
  left;omega
  right;omega
  rw[h1.1,Li (by omega)]
  right;omega
end
theorem My (e:Ex):∀(l:List Ex)(x:Int),DC (l++[e]) x=if 0≤DC l x then IK e (DC l x)else DC l x
 |[],x=>by
  rw[zl,DC,DC]
  split
  rw[DC]
  rfl
 |a::l,x=>by
  rw[List.cons_append,DC,DC]
  by_cases h:0≤x
  rw[if_pos h,if_pos h,My e l]
  rw[if_neg h,if_neg h,if_neg h]
theorem Mz {l:List Ex}{k:Nat}(hk:k<l.length){x:Int}(h:0≤DC (l.take k) x):DC (l.take (k+1)) x=IK (l.getD k Ex.zero) (DC (l.take k) x):=by rw[List.take_succ_eq_append_getElem hk,My,if_pos h];simp[hk]
theorem NM:∀(l r:List Ex)(x:Int),DC l x<0→DC (l++r) x=DC l x
 |[],r,x,h=>by rw[DC]at h ⊢;rw[zl,Li h]
 |a::l,r,x,h=>by
  rw[DC]at h ⊢
  rw[List.cons_append,DC]
  split
  rename_i h0;rw[if_pos h0]at h;exact NM l r _ h
  rfl
theorem MA {l:List Ex}{k:Nat}{x:Int}(h:DC (l.take k) x<0):DC l x=DC (l.take k) x:=by have:=NM (l.take k) (l.drop k) x h;rwa [List.take_append_drop]at this
theorem NN {e:Ex}{x:Int}(h:0≤x):-1≤IK e x∧IK e x≤x:=by rcases Lj e x h with h1|h1 <;> omega
theorem RE {e:Ex}{x:Int}(h:0≤x):0≤IK e x↔(e.size:Int)≤x:=by rcases Lj e x h with h1|h1 <;> omega
def QD (k:Int):Int:=if k=1∨k=2 then 0 else if k=3∨k=4∨k=5∨k=6∨k=9 then 2 else if k=7 then 1 else if k=8 then 3 else -1
theorem N3 {p q:Prop} [Decidable p] [Decidable q] (h:p↔q):decide p=decide q:=decide_eq_decide.2 h
section
variable {p:List Fn} {F vars:Int} {e:Ex}
theorem QE (h:H5 p F vars e=true)(h10:e.kind≠10)(h11:e.kind≠11):e.pick=0∧e.count=0∧QD e.kind=((e.kids.length:Nat):Int)∧(e.kind≠1→e.kind≠2→e.num=0):=by unfold H5 DQ at h;unfold QD;split at h;rename_i h1;simp only[z7,decide_eq_true_eq]at h;rw[if_pos (by omega)];exact⟨h.1.1,h.1.2,zO,fun hh=>absurd h1 hh⟩;split at h;rename_i h1;simp only[z7,decide_eq_true_eq]at h;rw[if_pos (by omega)];exact⟨h.1.1,h.1.2,zO,fun _ hh=>absurd h1 hh⟩;split at h;simp only[z7,decide_eq_true_eq]at h;rw[if_neg zO,if_pos (by omega)];exact⟨h.1.1,h.1.2,zO,fun _ _=>h.2.1⟩;split at h;simp only[z7,decide_eq_true_eq]at h;rw[if_neg zO,if_neg zO,if_pos (by omega)];exact⟨h.1.1,h.1.2,zO,fun _ _=>h.2.1⟩;split at h;simp only[z7,decide_eq_true_eq]at h;rw[if_neg zO,if_neg zO,if_neg zO,if_pos (by omega)];exact⟨h.1.1,h.1.2,zO,fun _ _=>h.2.1⟩;split at h;omega;cases h
theorem VZ (h10:e.kind≠10)(h11:e.kind≠11)(h:QD e.kind≠((e.kids.length:Nat):Int)∨e.pick≠0∨e.count≠0):false=H5 p F vars e:=by
 cases hw:H5 p F vars e with
 |false=>rfl
 |true =>
  have:=QE hw h10 h11;omega
theorem ZQ (hk:QD e.kind=((e.kids.length:Nat):Int))(h1:e.kind=1)(hp:e.pick=0)(hc:e.count=0):IJ e.num=H5 p F vars e:=by
 have hl:e.kids.length=0:=by unfold QD at hk;rw[if_pos (by omega)]at hk;omega
 unfold H5 DQ;rw[if_pos h1,A5 hp,A5 hc,A5 hl];rfl
theorem ZR (hk:QD e.kind=((e.kids.length:Nat):Int))(h1:e.kind=2)(hp:e.pick=0)(hc:e.count=0):(decide (((0:Nat):Int)≤e.num) && decide (e.num≤vars-1))=H5 p F vars e:=by
 have hl:e.kids.length=0:=by unfold QD at hk;rw[if_pos (by omega)]at hk;omega
 unfold H5 DQ HN;rw[if_neg zO,if_pos h1,A5 hp,A5 hc,A5 hl];rfl
theorem ZT (hk:QD e.kind=((e.kids.length:Nat):Int))(h1:e.kind≠1)(h2:e.kind≠2)(h10:e.kind≠10)(h11:e.kind≠11)(hp:e.pick=0)(hc:e.count=0):decide (e.num=0)=H5 p F vars e:=by unfold QD at hk;unfold H5 DQ;rw[if_neg h1,if_neg h2,A5 hp,A5 hc];rw[if_neg (by omega)]at hk;split at hk;rename_i h3;rw[if_pos h3,A5 (show e.kids.length=2 by omega)];simp;rename_i h3;rw[if_neg h3];split at hk;rename_i h4;rw[if_pos h4,A5 (show e.kids.length=1 by omega)];simp;rename_i h4;rw[if_neg h4];split at hk;rename_i h5;rw[if_pos h5,A5 (show e.kids.length=3 by omega)];simp;omega
end
end
section
def Kk (n:Nat)(C:Ca)(e:Ex)(env:List Sr)(s:Nat):Rs Sr:=(Cj n C e.kids env s).bind fun xs t =>
 if e.kind=10 then C.one e.num.toNat e.pick.toNat xs t else(FC (C.all e.num.toNat) e.count.toNat xs t).bind fun ys u=>.ok (ys.getD e.pick.toNat []) u
section
variable {n:Nat} {C:Ca} {e:Ex} {env:List Sr} {s s1 s2:Nat} {c c1 c2:Int} {x y:Sr} {xs ys:List Sr}
theorem MB (hc:c=0)(hs:s+1≤3000)(hk:e.kind=10∨e.kind=11)(h:B5 (go c (Kk n C e env (s+1))) y s2 c2):B5 (go c (BN n C e env s)) y s2 c2:=by
 subst hc;rw[G4]at h ⊢;rw[I0 hs zO zO zO (by omega)];unfold Kk at h;cases hv:Cj n C e.kids env (s+1)with
 |err d=>rw[hv]at h;exact h
 |ok zsq t =>
  rw[hv]at h;rw[Rs.bind_ok]at h ⊢;by_cases h10:e.kind=10;rw[if_pos h10]at h ⊢;exact h;rw[if_neg h10]at h;rw[if_neg h10,if_pos (by omega)];exact h
theorem RG {α:Type}{r:Rs α}{v:α}(h:B5 (go c r) v s1 c1)(hc:c≠0):c1=c:=by rw[FN hc]at h;exact h.1
theorem X0 (hl:e.kids.length=1)(h:B5 (go c (BN n C (e.kids.getD 0 Ex.zero) env s)) x s1 c1):B5 (go c (Cj n C e.kids env s)) [x] s1 c1:=by have h1:=GT (l:=e.kids) (k:=0) zO (GU n C e.kids env s c) h;rwa [za (by omega)]at h1
theorem K2 (hl:e.kids.length=2)(h:B5 (go c (BN n C (e.kids.getD 0 Ex.zero) env s)) x s1 c1)(h2:B5 (go c1 (BN n C (e.kids.getD 1 Ex.zero) env s1)) y s2 c2):B5 (go c (Cj n C e.kids env s)) [x,y] s2 c2:=by have h1:=GT (l:=e.kids) (k:=0) zO (GU n C e.kids env s c) h;have h3:=GT (l:=e.kids) (k:=1) zO h1 h2;rwa [za (by omega)]at h3
theorem Hf (hc:c=0)(hs:s+1≤3000)(hk:e.kind=3∨e.kind=4∨e.kind=5∨e.kind=6∨e.kind=7)(hr:B5 (go c (Cj n C e.kids env (s+1))) xs s1 c1)
  (h:c1=0→B5 (HO e.kind xs s1) y s1 c2) (h0:c1≠0→c2=c1):B5 (go c (BN n C e env s)) y s1 c2:=by
 by_cases hc1:c1=0;exact Bn hc hs zO zO zO zO zO zO hr hc1<|h hc1;rw[h0 hc1];exact Dz hc hs zO zO zO zO hr hc1
theorem RH {p:List Fn}{F:Nat}(hk:e.kind=10)(hF:e.num.toNat<F)(hr:B5 (go c (Cj n (Co p n F) e.kids env s)) xs s1 c1)
  (h2:B5 (go c1 (BN n (Co p n e.num.toNat) ((p.getD e.num.toNat Fn.zero).outs.getD e.pick.toNat Ex.zero) xs s1)) y s2 c2):B5 (go c (Kk n (Co p n F) e env s)) y s2 c2:=by
 by_cases hc:c=0;subst hc;rw[G4]at hr ⊢;unfold Kk;by_cases hc1:c1=0;subst hc1;rw[hr.bindO,if_pos hk,He hF];rw[G4]at h2;exact h2;rw[hr.bindE hc1];rw[FN hc1]at h2;exact h2;have e1:=RG hr hc;subst e1;rw[FN hc]at h2 ⊢;exact h2
theorem RI {f:List Sr→Nat→Rs (List Sr)}{k:Nat}(h:B5 (go c (FC f k xs s)) ys s1 c1){zsq:List Sr}(h2:B5 (go c1 (f ys s1)) zsq s2 c2):B5 (go c (FC f (k+1) xs s)) zsq s2 c2:=by by_cases hc:c=0;subst hc;rw[G4]at h ⊢;show B5 ((FC f k xs s).bind f) _ _ _;by_cases hc1:c1=0;subst hc1;rw[h.bindO];rw[G4]at h2;exact h2;rw[h.bindE hc1];rw[FN hc1]at h2;exact h2;have e1:=RG h hc;subst e1;rw[FN hc]at h2 ⊢;exact h2
theorem RJ {f:List Sr→Nat→Rs (List Sr)}(hc:0=0):B5 (go c (FC f 0 xs s)) xs s c:=by by_cases h:c=0;subst h;exact⟨rfl,rfl,rfl⟩;exact B5.mk_err (FN h _) h
theorem RK {p:List Fn}{F:Nat}(hk:e.kind≠10)(hF:e.num.toNat<F)(hr:B5 (go c (Cj n (Co p n F) e.kids env s)) xs s1 c1)
  (h2:B5 (go c1 (FC (fun a t=>Cj n (Co p n e.num.toNat) (p.getD e.num.toNat Fn.zero).outs a t) e.count.toNat xs s1)) ys s2 c2):B5 (go c (Kk n (Co p n F) e env s)) (ys.getD e.pick.toNat []) s2 c2:=by
 have hl:(Co p n F).all e.num.toNat=fun a t=>Cj n (Co p n e.num.toNat) (p.getD e.num.toNat Fn.zero).outs a t:=funext fun a=>funext fun t=>Fl hF;by_cases hc:c=0;subst hc;rw[G4]at hr ⊢;unfold Kk;by_cases hc1:c1=0;subst hc1;rw[hr.bindO,if_neg hk,hl];rw[G4]at h2;by_cases h0:c2=0;subst h0;rw[h2.bindO];exact B5.mk_ok rfl;rw[h2.bindE h0];exact B5.mk_err rfl h0;rw[hr.bindE hc1];rw[FN hc1]at h2;exact B5.mk_err (by rw[h2.1]) (by rw[h2.1];exact hc1);have e1:=RG hr hc;subst e1;rw[FN hc]at h2 ⊢;exact B5.mk_err (by rw[h2.1]) (by rw[h2.1];exact hc)
end
end
section
def DA (p:List Fn)(f:Nat)(s:Sr):Int:=Gp p 1 f (BW s)
def NO (p:List Fn)(f:Nat)(s:Sr):Sr:=(Oh p 1 f (BW s)).map fun s=>s.getD 0 0
theorem G7 {a:Sr}(h:Bj a=true):FD 1 (BW a):=by intro k hk;unfold BW at hk ⊢;rw[zg]at hk;rw[List.getD_eq_getElem?_getD,List.getElem?_map,List.getElem?_eq_getElem hk];refine⟨rfl,?_⟩;unfold Bj at h ⊢;have:=zm.1 h _ (List.getElem_mem hk);simpa using this
theorem OD {x:List Sr}{n:Nat}(h:FD (n+1) x):Bj (x.map fun s=>s.getD 0 0)=true:=by
 unfold Bj;rw[zm]
 intro y hy;obtain⟨s,hs,rfl⟩:=List.mem_map.1 hy;obtain⟨k,hk,rfl⟩:=List.mem_iff_getElem.1 hs;have h2:=h k hk;rw[G3 hk]at h2;exact VY h2 zO
section
variable {p:List Fn} {f:Nat} {a s:Sr} {k n:Nat}
structure ZB (p:List Fn)(f:Nat)(s:Sr):Prop where
 code:0≤DA p f s∧DA p f s≤9
 len:DA p f s=0→(NO p f s).length=(p.getD f Fn.zero).outs.length
 num:Bj (NO p f s)=true
 non:DA p f s≠0→NO p f s=[]
theorem ZB.mk' (h:QN p 1 f (BW s)):ZB p f s :=
 ⟨h.code,fun h0=>by unfold NO;rw[zg];exact h.len h0,OD h.ser,fun h0=>by unfold NO;rw[h.non h0];rfl⟩
end
end
theorem CG:∀(l:List Ex)(k:Nat),Ex.sizes (l.take k)+(l.length-k)≤Ex.sizes l
 |[],k=>by simp[Ex.sizes]
 |e::l,0=>by
  have h:=CG l 0
  have:=Be e
  rw[List.take_zero]at h ⊢
  rw[Ex.sizes]at h ⊢
  rw[z9,Ex.sizes];omega
 |e::l,k+1=>by
  have h:=CG l k
  rw[List.take_succ_cons,Ex.sizes,Ex.sizes,z9];omega
section
def Rs.map {α β:Type}(f:α→β)(r:Rs α):Rs β:=match r with
 |.ok x s=>.ok (f x) s
 |.err c=>.err c
abbrev DW (m:Nat)(x:Sr):Sr:=x.take m
theorem Ei {m k:Nat}(x:Sr)(h:k<m):(DW m x).getD k 0=x.getD k 0:=by simp only[DW,List.getD_eq_getElem?_getD,List.getElem?_take,if_pos h]
theorem KQ {m:Nat}(l:Nat)(f g:Nat→Int)(h:∀k,k<m→f k=g k):DK (min m l) f=DW m (DK l g):=by unfold DK DW;rw[← List.map_take,List.take_range];exact List.map_congr_left fun k hk=>h k (by have:=List.mem_range.1 hk;omega)
section
variable {m:Nat} (a b:Sr)
theorem JA:(DW m a).length=min m a.length:=List.length_take ..
theorem RL:Do (DW m a) (DW m b)=DW m (Do a b):=by unfold Do;rw[JA];exact KQ _ _ _ fun k hk=>by rw[Ei a hk,Ei b hk]
theorem RM:EV (DW m a) (DW m b)=DW m (EV a b):=by unfold EV;rw[JA];exact KQ _ _ _ fun k hk=>by rw[Ei a hk,Ei b hk]
theorem RO (y:Int):EE (DW m a) y=DW m (EE a y):=by unfold EE;rw[JA];exact KQ _ _ _ fun k hk=>by rw[Ei a hk]
theorem Pt {k:Nat}(hk:k<m):∀i,i≤k+1→NE (DW m a) (DW m b) k i=NE a b k i
 |0,_=>rfl
 |i+1,h=>by
  show md (NE (DW m a) (DW m b) k i+(DW m a).getD i 0*(DW m b).getD (k-i) 0)=md (NE a b k i+a.getD i 0*b.getD (k-i) 0)
  rw[Pt hk i zO,Ei a zO,Ei b (by omega)]
theorem RQ:Dc (DW m a) (DW m b)=DW m (Dc a b):=by unfold Dc;rw[JA];exact KQ _ _ _ fun k hk=>Pt a b hk (k+1)<|A7 _
theorem Pu (o:Sr){k:Nat}(hk:k<m):∀i,i≤k→Ox (DW m a) (DW m b) o k i=Ox a b o k i
 |0,_=>Ei a hk
 |i+1,h=>by
  show md (Ox (DW m a) (DW m b) o k i-o.getD i 0*(DW m b).getD (k-i) 0)=md (Ox a b o k i-o.getD i 0*b.getD (k-i) 0)
  rw[Pu o hk i zO,Ei b (by omega)]
theorem Pv (hm:1≤m):∀k,k≤m→J5 (DW m a) (DW m b) k=J5 a b k
 |0,_=>rfl
 |k+1,h=>by
  rw[J5,J5,Pv hm k zO,Pu a b _ zO k (A7 _),Ei b (by omega)]
theorem NP:∀ (k j:Nat),j≤k→(J5 a b k).take j = J5 a b j
  | 0, j, h => by have : j = 0 := by omega
                  subst this; rfl
  | k + 1,j,h=>by
    by_cases e:j = k + 1
    subst e; rw [za (by rw [Eh]; exact A7 _)]
    rw [J5,List.take_append_of_le_length (by rw [Eh]; omega)]; exact NP k j zO
theorem RR (hm:1≤m):BV (DW m a) (DW m b)=DW m (BV a b):=by unfold BV;rw[JA,Pv a b hm _ (by omega)];show _=(J5 a b a.length).take m;by_cases h:m≤a.length;rw[NP a b _ _ h,Nat.min_eq_left h];rw[za (by rw[Eh];omega),Nat.min_eq_right (by omega)]
end
theorem TW {m n:Nat}(x:Int)(h:m≤n):cst m x=DW m (cst n x):=by unfold cst DW;rw[List.take_set,List.take_replicate,Nat.min_eq_left h]
theorem KR {m:Nat}(env:List Sr)(k:Nat):(env.map (DW m)).getD k []=DW m (env.getD k []):=by simp only[List.getD_eq_getElem?_getD,List.getElem?_map];cases env[k]? <;> simp[DW]
structure ZU (m:Nat)(C C':Ca):Prop where
 one:∀f j xs t,C'.one f j (xs.map (DW m)) t=(C.one f j xs t).map (DW m)
 all:∀f xs t,C'.all f (xs.map (DW m)) t=(C.all f xs t).map (List.map (DW m))
theorem TX {m:Nat}(hm:1≤m)(k:Int)(xs:List Sr)(t:Nat):HO k (xs.map (DW m)) t=(HO k xs t).map (DW m):=by unfold HO;rw[KR,KR];split;rw[RL];rfl;split;rw[RM];rfl;split;rw[RQ];rfl;split;rw[RO];rfl;rw[Ei _ (by omega)];split;rfl;rw[RR _ _ hm];rfl
section
variable {m n:Nat} {C C':Ca}
theorem Pw (hC:ZU m C C')(f:Nat):∀(k:Nat)(xs:List Sr)(t:Nat),FC (C'.all f) k (xs.map (DW m)) t=(FC (C.all f) k xs t).map (List.map (DW m))
 |0,xs,t=>rfl
 |k+1,xs,t=>by
  rw[FC,FC,Pw hC f k xs t]
  cases FC (C.all f) k xs t with
  |err c=>rfl
  |ok ys u=>exact hC.all f ys u
theorem KS:∀(l:List Ex),(∀e∈l,∀env s,BN m C' e (env.map (DW m)) s=(BN n C e env s).map (DW m))→∀env s,Cj m C' l (env.map (DW m)) s=(Cj n C l env s).map (List.map (DW m))
 |[],_,env,s=>by rw[Cj,Cj];rfl
 |e::l,h,env,s=>by
  rw[Cj,Cj,h e (z0 ..)]
  cases BN n C e env s with
  |err c=>rfl
  |ok x t =>
   show(Cj m C' l (env.map (DW m)) t).bind _=_
   rw[KS l (fun e he=>h e (z3 _ he)) env t]
   simp only[Rs.bind_ok]
   cases Cj n C l env t <;> rfl
theorem Is:∀(l:List Ex)(j:Nat),(∀e∈l,∀env s,BN m C' e (env.map (DW m)) s=(BN n C e env s).map (DW m))→∀env s,EU m C' l j (env.map (DW m)) s=(EU n C l j env s).map (DW m)
 |[],j,_,env,s=>by rw[EU,EU];rfl
 |e::l,0,h,env,s=>by rw[EU,EU];exact h e (z0 ..) env s
 |e::l,j+1,h,env,s=>by rw[EU,EU];exact Is l j (fun e he=>h e (z3 _ he)) env s
theorem K3:∀ {l:List Ex}{e:Ex},e∈l→e.size≤Ex.sizes l
 |[],_,h=>by cases h
 |a::l,e,h=>by
  rw[Ex.sizes]
  rcases ze.1 h with rfl|h
  omega
  have:=K3 h;omega
theorem KT (hm:1≤m)(hmn:m≤n)(hC:ZU m C C'):∀(z:Nat)(e:Ex),e.size≤z→∀env s,BN m C' e (env.map (DW m)) s=(BN n C e env s).map (DW m)
 |0,e,h,_,_=>by have:=Be e;omega
 |z+1,e,h,env,s=>by
  have hk:∀x∈e.kids,∀env s,BN m C' x (env.map (DW m)) s=(BN n C x env s).map (DW m):=fun x hx=>KT hm hmn hC z x (by have:=Be e;have:=K3 hx;omega)
  rw[CT,CT]
  split
  rfl
  split
  rw[TW _ hmn];rfl
  split
  rw[KR];rfl
  split
  rw[Is _ 0 hk]
  cases EU n C e.kids 0 env (s+1)with
  |err c=>rfl
  |ok x t =>
   show(if (DW m x).getD 0 0=0 then _ else _)=((if x.getD 0 0=0 then _ else _:Rs Sr)).map (DW m)
   rw[Ei _ (by omega)]
   split
   exact Is _ 1 hk env t
   exact Is _ 2 hk env t
  split
  rw[Is _ 0 hk]
  cases EU n C e.kids 0 env (s+1)with
  |err c=>rfl
  |ok x t =>
   show EU m C' e.kids 1 (env.map (DW m)++[DW m x]) t=(EU n C e.kids 1 (env++[x]) t).map (DW m)
   rw[← Is _ 1 hk,List.map_append];rfl
  rw[KS _ hk]
  cases Cj n C e.kids env (s+1)with
  |err c=>rfl
  |ok xs t =>
   show(if e.kind=10 then _ else _)=((if e.kind=10 then _ else _:Rs Sr)).map (DW m)
   split
   exact hC.one _ _ _ _
   split
   rw[Pw hC]
   cases FC (C.all e.num.toNat) e.count.toNat xs t with
   |err c=>rfl
   |ok ys u=>show Rs.ok _ _=Rs.ok _ _;rw[KR]
   exact TX hm _ _ _
theorem Px (p:List Fn)(hm:1≤m)(hmn:m≤n):∀F,ZU m (Co p n F) (Co p m F)
 |0=>⟨fun _ _ _ _=>rfl,fun _ _ _=>rfl⟩
 |F+1=>by
  have ih:=Px p hm hmn F
  refine⟨fun f j xs t=>?_,fun f xs t=>?_⟩
  show(if f=F then _ else _)=((if f=F then _ else _:Rs Sr)).map (DW m)
  split
  exact KT hm hmn ih _ _ (A7 _) _ _
  exact ih.one f j xs t
  show(if f=F then _ else _)=((if f=F then _ else _:Rs (List Sr))).map (List.map (DW m))
  split
  exact KS _ (fun e _=>KT hm hmn ih _ e<|A7 _) _ _
  exact ih.all f xs t
end
theorem X1 (p:List Fn){m n:Nat}(hm:1≤m)(hmn:m≤n)(f:Nat)(a:List Sr):ev p m f (a.map (DW m))=(ev p n f a).map (List.map (DW m)) :=
 KS _ (fun e _=>KT hm hmn (Px p hm hmn f) _ e (A7 _)) _ _
theorem Py (p:List Fn){m n:Nat}(hm:1≤m)(hmn:m≤n)(f:Nat)(a:List Sr):Gp p m f (a.map (DW m))=Gp p n f a:=by unfold Gp;rw[X1 p hm hmn];cases ev p n f a <;> rfl
end
section
def X2 (n:Nat)(r:Rs Sr):Prop:=match r with
 |.ok x s=>DJ n x∧s≤3000
 |.err c=>c=6∨c=7
def ZC (n m:Nat)(r:Rs (List Sr)):Prop:=match r with
 |.ok xs s=>xs.length=m∧FD n xs∧s≤3000
 |.err c=>c=6∨c=7
structure ZV (p:List Fn)(n F:Nat)(C:Ca):Prop where
 one:∀f j xs t,f<F→j<(p.getD f Fn.zero).outs.length→FD n xs→((xs.length:Nat):Int)=(p.getD f Fn.zero).params→t≤3000→X2 n (C.one f j xs t)
 all:∀f xs t,f<F→FD n xs→((xs.length:Nat):Int)=(p.getD f Fn.zero).params→t≤3000→ZC n (p.getD f Fn.zero).outs.length (C.all f xs t)
theorem FD.nil (n:Nat):FD n []:=fun k hk=>by simp at hk
theorem FD.cons {n:Nat}{x:Sr}{xs:List Sr}(hx:DJ n x)(h:FD n xs):FD n (x::xs):=by
 intro k hk;cases k with
 |zero=>exact hx
 |succ k=>exact h k (by simpa using hk)
theorem RS {n:Nat}{C:Ca}{env:List Sr}:∀(l:List Ex),(∀e∈l,∀s,s≤3000→X2 n (BN n C e env s))→∀s,s≤3000→ZC n l.length (Cj n C l env s)
 |[],_,s,hs=>by rw[Cj];exact⟨rfl,FD.nil n,hs⟩
 |e::l,h,s,hs=>by
  rw[Cj]
  have h1:=h e (z0 ..) s hs
  cases h2:BN n C e env s with
  |err c=>rw[h2]at h1;exact h1
  |ok x t =>
   rw[h2]at h1
   have h3:=RS l (fun e he=>h e<|z3 _ he) t h1.2
   rw[Rs.bind_ok]
   cases h4:Cj n C l env t with
   |err c=>rw[h4]at h3;exact h3
   |ok xs u=>rw[h4]at h3;exact⟨by simp[h3.1],FD.cons h1.1 h3.2.1,h3.2.2⟩
theorem UJ {p:List Fn}{n F f:Nat}{C:Ca}(hC:ZV p n F C)(hf:f<F)(ho:(((p.getD f Fn.zero).outs.length:Nat):Int)=(p.getD f Fn.zero).params):∀(k:Nat)(xs:List Sr)(t:Nat),FD n xs→xs.length=(p.getD f Fn.zero).outs.length→t≤3000→ZC n (p.getD f Fn.zero).outs.length (FC (C.all f) k xs t)
 |0,xs,t,h1,h2,h3=>⟨h2,h1,h3⟩
 |k+1,xs,t,h1,h2,h3=>by
  have h:=UJ hC hf ho k xs t h1 h2 h3
  rw[FC]
  cases h4:FC (C.all f) k xs t with
  |err c=>rw[h4]at h;exact h
  |ok ys u=>rw[h4]at h;rw[Rs.bind_ok];exact hC.all f ys u hf h.2.1 (by rw[h.1];exact ho) h.2.2
theorem XZ {n:Nat}{k:Int}{xs:List Sr}{t:Nat}(hx:FD n xs)(h0:0<xs.length)(ht:t≤3000):X2 n (HO k xs t):=by have h1:=(hx 0 h0).1;unfold HO;split;exact⟨⟨by rw[Lc];exact h1,GS _ _⟩,ht⟩;split;exact⟨⟨by rw[Jv];exact h1,Jw _ _⟩,ht⟩;split;exact⟨⟨by rw[Lb];exact h1,Jt _ _⟩,ht⟩;split;exact⟨⟨by rw[Ld];exact h1,HY _ _⟩,ht⟩;split;exact .inl rfl;exact⟨⟨by rw[Ju];exact h1,HX _ _⟩,ht⟩
theorem RU {p:List Fn}{n F:Nat}{C:Ca}(hC:ZV p n F C):∀(z:Nat)(e:Ex),e.size≤z→∀(env:List Sr)(s:Nat),wf p ((F:Nat):Int) e ((env.length:Nat):Int)=true→FD n env→s≤3000→X2 n (BN n C e env s)
 |0,e,h,_,_,_,_,_=>by have:=Be e;omega
 |z+1,e,h,env,s,hw,he,hs=>by
  obtain⟨w1,w2,w3,w4,w5,w6,w7,w8⟩:=C0 (BS hw)
  have hz:∀j,j<e.kids.length→(e.kids.getD j Ex.zero).size≤z:=fun j hj=>by
   have h2:e.kids.getD j Ex.zero∈e.kids:=by rw[G3 hj];exact List.getElem_mem hj
   have:=Be e;have:=K3 h2;omega
  have hk:∀j,j<e.kids.length→¬(e.kind=9∧j=1)→∀t,t≤3000→X2 n (EU n C e.kids j env t):=fun j hj hn t ht=>by
   rw[CX _ _ _ _ _ _ hj]
   exact RU hC z _ (hz j hj) env t (C9 hw hj hn) he ht
  rw[CT]
  split
  exact .inr rfl
  rename_i hs3
  split
  rename_i h1;exact⟨Dp (Dd.2 (w8 h1)),zO⟩
  split
  rename_i h1 h2;exact⟨he _ (by have:=w2 h2;omega),zO⟩
  split
  rename_i h1 h2 h8
  have h3:=w5 h8
  have hc:=hk 0 zO zO (s+1) zO
  cases h4:EU n C e.kids 0 env (s+1)with
  |err c=>rw[h4]at hc;exact hc
  |ok x t =>
   rw[h4]at hc;rw[Rs.bind_ok]
   split
   exact hk 1 zO zO t hc.2
   exact hk 2 zO zO t hc.2
  split
  rename_i h1 h2 h8 h9
  have h3:=w3 zO
  have hc:=hk 0 zO zO (s+1) zO
  cases h4:EU n C e.kids 0 env (s+1)with
  |err c=>rw[h4]at hc;exact hc
  |ok x t =>
   rw[h4]at hc;rw[Rs.bind_ok,CX _ _ _ _ _ _ (show 1<e.kids.length by omega)]
   refine RU hC z _ (hz 1 zO) (env++[x]) t ?_ (he.snoc hc.1) hc.2
   have:=G5 hw zO h9
   rw[z4,zd];exact this
  rename_i h1 h2 h8 h9
  have hc:=RS (n:=n) (C:=C) (env:=env) e.kids (fun x hx t ht=>by
   obtain⟨j,hj,rfl⟩:=List.mem_iff_getElem.1 hx
   have:=hk j hj zO t ht
   rwa [CX _ _ _ _ _ _ hj,G3 hj]at this) (s+1) zO
  cases h4:Cj n C e.kids env (s+1)with
  |err c=>rw[h4]at hc;exact hc
  |ok xs t =>
   rw[h4]at hc;rw[Rs.bind_ok]
   obtain⟨c1,c2,c3⟩:=hc
   split
   rename_i h10
   have h6:=w6<|.inl h10
   exact hC.one _ _ xs t zO zO c2 (by rw[c1];exact h6.2.2.1) c3
   split
   rename_i h11
   have h6:=w6 (.inr h11);have h7:=w7 h11
   have hl:=UJ hC (f:=e.num.toNat) zO h7.1 e.count.toNat xs t c2 zO c3
   cases h5:FC (C.all e.num.toNat) e.count.toNat xs t with
   |err c=>rw[h5]at hl;exact hl
   |ok ys u=>rw[h5]at hl;exact⟨hl.2.1 _ (by rw[hl.1];omega),hl.2.2⟩
   refine XZ c2 ?_ c3
   rw[c1]
   by_cases h7:e.kind=7
   rw[w4 h7];decide
   rw[w3 (by omega)];decide
theorem RV {p:List Fn}(hv:Ik p)(n:Nat):∀F,F≤p.length→ZV p n F (Co p n F)
 |0,_=>⟨fun f j xs t h=>by omega,fun f xs t h=>by omega⟩
 |F+1,hF=>by
  have ih:=RV hv n F zO
  have hO:∀j xs t,j<(p.getD F Fn.zero).outs.length→FD n xs→((xs.length:Nat):Int)=(p.getD F Fn.zero).params→t≤3000→X2 n (BN n (Co p n F) ((p.getD F Fn.zero).outs.getD j Ex.zero) xs t):=fun j xs t h2 h3 h4 h5 =>
   RU ih _ _ (A7 _) xs t (by rw[h4];exact hv.wf F zO j h2) h3 h5
  refine⟨fun f j xs t h1 h2 h3 h4 h5=>?_,fun f xs t h1 h3 h4 h5=>?_⟩
  show X2 n (if f=F then _ else _)
  split
  rename_i e;subst e;exact hO j xs t h2 h3 h4 h5
  exact ih.one f j xs t zO h2 h3 h4 h5
  show ZC n _ (if f=F then _ else _)
  split
  rename_i e;subst e
  refine RS _ (fun e he s hs=>?_) t h5
  obtain⟨j,hj,rfl⟩:=List.mem_iff_getElem.1 he
  have:=hO j xs s hj h3 h4 hs
  rwa [G3 hj]at this
  exact ih.all f xs t zO h3 h4 h5
theorem ZW {p:List Fn}(hv:Ik p){n f:Nat}{a:List Sr}(hf:f<p.length)(ha:FD n a)(hl:((a.length:Nat):Int)=(p.getD f Fn.zero).params):QN p n f a:=by
 have h:=(RV hv n (f+1) zO).all f a 0 zO ha hl zO;rw[Fl (by omega)]at h;have e:ev p n f a=Cj n (Co p n f) (p.getD f Fn.zero).outs a 0:=rfl;rw[← e]at h;cases h2:ev p n f a with
 |err c =>
  rw[h2]at h;have h:c=6∨c=7:=h;exact⟨by rw[DV h2];omega,by rw[Pn h2];omega,fun hh=>by rw[DV h2]at hh;omega,by rw[NI h2];exact FD.nil n,fun _=>NI h2⟩
 |ok xs s =>
  rw[h2]at h;have h:xs.length=_∧FD n xs∧s≤3000:=h;exact⟨by rw[Ki h2];omega,by rw[Pm h2];exact h.2.2,fun _=>by rw[I1 h2];exact h.1,by rw[I1 h2];exact h.2.1,fun hh=>absurd (Ki h2) hh⟩
theorem Y2 {a b:Sr}(hl:a.length=b.length)(h:∀j,j<a.length→a.getD j 0=b.getD j 0):a=b :=
 List.ext_getElem hl fun j h1 h2=>by have:=h j h1;rwa [G3 h1,G3 h2]at this
theorem X3 {y z:List Sr}(hl:y.length=z.length)(h:∀j,j<y.length→y.getD j []=z.getD j []):y=z :=
 List.ext_getElem hl fun j h1 h2=>by have:=h j h1;rwa [G3 h1,G3 h2]at this
section
variable {p:List Fn} {f o:Nat} {a:List Int}
theorem RW (s:Sr)(k:Nat)(x:Int)(j:Nat):(s.set k x).getD j 0=if j=k∧k<s.length then x else s.getD j 0:=by simp only[List.getD_eq_getElem?_getD,List.getElem?_set];by_cases e:k=j;subst e;by_cases h:k<s.length;simp[h];simp[h,List.getElem?_eq_none (Nat.le_of_not_lt h)];rw[if_neg e,if_neg (by omega)]
end
end
theorem RY {s:ByteArray}(h:KP s=true):s.size≤12:=by unfold KP at h;simp only[z7,decide_eq_true_eq]at h;exact h.1.2
theorem MZ.szp {p:List Fn}{pl:Bool}(h:MZ p pl):I2 p:=fun k hk=>⟨by have:=h.sz k hk;omega,by have:=h.outs k hk;omega,by have:=RY (h.nm k hk);omega⟩
section
def It {α:Type}(f:Nat→Rs α)(r:Rs α)(d:Nat):Prop:=∀s,s≤3000→f s=if s+d≤3000 then(match r with|.ok x _=>.ok x (s+d)|.err c=>.err c)else .err 7
def BD {α:Type}(f:Nat→Rs α):Prop:=∃r d,It f r d
theorem It.bind_err {α β:Type}{f:Nat→Rs α}{c:Int}{d:Nat}(h:It f (.err c) d)(g:α→Nat→Rs β):It (fun s=>(f s).bind g) (.err c) d:=by intro s hs;show(f s).bind g=_;rw[h s hs];split <;> rfl
theorem It.bind_ok {α β:Type}{f:Nat→Rs α}{x:α}{t d:Nat}(h:It f (.ok x t) d){g:α→Nat→Rs β}{r:Rs β}{e:Nat}(hg:It (g x) r e):It (fun s=>(f s).bind g) r (d+e):=by intro s hs;show(f s).bind g=_;rw[h s hs];by_cases h1:s+d≤3000;rw[if_pos h1];show g x (s+d)=_;rw[hg (s+d) h1];by_cases h2:s+d+e≤3000;rw[if_pos h2,if_pos zO,show s+d+e=s+(d+e)from by omega];rw[if_neg h2,if_neg (by omega)];rw[if_neg h1,if_neg (by omega)];rfl
theorem BD.bind {α β:Type}{f:Nat→Rs α}(h:BD f){g:α→Nat→Rs β}(hg:∀x,BD (g x)):BD (fun s=>(f s).bind g):=by
 obtain⟨r,d,h⟩:=h;cases r with
 |err c=>exact⟨_,_,h.bind_err g⟩
 |ok x t =>
  obtain⟨r',e,h'⟩:=hg x;exact⟨_,_,h.bind_ok h'⟩
theorem It.one {α:Type}{f:Nat→Rs α}{r:Rs α}{d:Nat}(h:It f r d):It (fun s=>if 3000≤s then .err 7 else f (s+1)) r (1+d):=by intro s hs;show(if 3000≤s then _ else _)=_;by_cases h1:3000≤s;rw[if_pos h1,if_neg (by omega)];rw[if_neg h1,h (s+1) (by omega)];by_cases h2:s+1+d≤3000;rw[if_pos h2,if_pos zO,show s+1+d=s+(1+d)from by omega];rw[if_neg h2,if_neg (by omega)]
theorem BD.one {α:Type}{f:Nat→Rs α}(h:BD f):BD (fun s=>if 3000≤s then .err 7 else f (s+1)):=by obtain⟨r,d,h⟩:=h;exact⟨_,_,h.one⟩
theorem It.ret {α:Type}(x:α):It (fun s=>Rs.ok x s) (.ok x 0) 0:=fun s hs=>by rw[if_pos (by omega)];rfl
theorem BD.ret {α:Type}(x:α):BD (fun s=>Rs.ok x s):=⟨_,_,It.ret x⟩
theorem BD.fail {α:Type}(c:Int):BD (fun _=>(Rs.err c:Rs α)):=⟨.err c,0,fun s hs=>by rw[if_pos (by omega)]⟩
theorem BD.lop {f:List Sr→Nat→Rs (List Sr)}(hf:∀a,BD (f a)):∀(k:Nat)(a:List Sr),BD (FC f k a)
 |0,a=>BD.ret a
 |k+1,a=>(BD.lop hf k a).bind hf
theorem BD.opV (k:Int)(xs:List Sr):BD (HO k xs):=by unfold Go.Proofs.YtlbefjfhfodnlaaGreatDoor.HO;by_cases h3:k=3;simp only[h3,if_true];exact BD.ret _;by_cases h4:k=4;simp only[h4];exact BD.ret _;by_cases h5:k=5;simp only[h5];exact BD.ret _;by_cases h7:k=7;simp only[h7];exact BD.ret _;simp only[if_neg h3,if_neg h4,if_neg h5,if_neg h7];by_cases h:(xs.getD 1 []).getD 0 0=0;simp only[h,if_true];exact BD.fail 6;simp only[if_neg h];exact BD.ret _
def Hx (n:Nat) (C:Ca) (e:Ex) (env:List Sr) (t:Nat):Rs Sr :=
  if e.kind = 1 then Rs.ok (cst n e.num) t
        else if e.kind = 2 then .ok (env.getD e.num.toNat []) t
        else if e.kind = 8 then (EU n C e.kids 0 env t).bind fun x t=>if x.getD 0 0 = 0 then EU n C e.kids 1 env t else EU n C e.kids 2 env t
        else if e.kind = 9 then (EU n C e.kids 0 env t).bind fun x t=>EU n C e.kids 1 (env++[x]) t
        else (Cj n C e.kids env t).bind fun xs t =>
          if e.kind = 10 then C.one e.num.toNat e.pick.toNat xs t
          else if e.kind = 11 then (FC (C.all e.num.toNat) e.count.toNat xs t).bind fun ys u=>.ok (ys.getD e.pick.toNat []) u
          else HO e.kind xs t
section
variable {n:Nat} {C:Ca}
theorem GV {env:List Sr}:∀(l:List Ex),(∀e∈l,BD (BN n C e env))→BD (Cj n C l env)
 |[],_=>by
  have:Cj n C [] env=fun s=>Rs.ok [] s:=funext fun s=>by rw[Cj]
  rw[this];exact BD.ret _
 |e::l,h=>by
  have:Cj n C (e::l) env=fun s=>(BN n C e env s).bind fun x t=>(Cj n C l env t).bind fun xs u=>.ok (x::xs) u:=funext fun s=>by rw[Cj]
  rw[this]
  exact (h e (z0 ..)).bind fun x=>(GV l fun e he=>h e<|z3 _ he).bind fun xs=>BD.ret _
theorem FT {env:List Sr}:∀(l:List Ex)(j:Nat),(∀e∈l,BD (BN n C e env))→BD (EU n C l j env)
 |[],j,_=>by
  have:EU n C [] j env=fun s=>Rs.err 0:=funext fun s=>by rw[EU]
  rw[this];exact BD.fail 0
 |e::l,0,h=>by
  have:EU n C (e::l) 0 env=BN n C e env:=funext fun s=>by rw[EU]
  rw[this];exact h e (z0 ..)
 |e::l,j+1,h=>by
  have:EU n C (e::l) (j+1) env=EU n C l j env:=funext fun s=>by rw[EU]
  rw[this];exact FT l j fun e he=>h e (z3 _ he)
theorem K4 (h1:∀f j a,BD (C.one f j a))(h2:∀f a,BD (C.all f a)):∀(z:Nat)(e:Ex),e.size≤z→∀env,BD (BN n C e env):=by
 intro z
 induction z with
 |zero=>intro e he;have:=Be e;omega
 |succ z ih =>
  intro e he env;have hk:∀env,∀x∈e.kids,BD (BN n C x env):=fun env x hx=>by
   obtain⟨k,hk,rfl⟩:=List.mem_iff_getElem.1 hx;have h3:=Bu (l:=e.kids) (k:=k) hk;have h4:=Be e;rw[List.getD_eq_getElem?_getD,List.getElem?_eq_getElem hk,Option.getD_some]at h3;exact ih _ zO env
  have hE:BN n C e env=fun s=>if 3000≤s then .err 7 else Hx n C e env (s+1):=funext fun s=>CT n C e env s
  rw[hE];refine BD.one (f:=Hx n C e env) ?_;unfold Hx;by_cases k1:e.kind=1;simp only[if_pos k1];exact BD.ret _;simp only[if_neg k1];by_cases k2:e.kind=2;simp only[if_pos k2];exact BD.ret _;simp only[if_neg k2];by_cases k8:e.kind=8;simp only[if_pos k8];refine (FT _ _<|hk env).bind fun x=>?_;by_cases hx:x.getD 0 0=0;simp only[if_pos hx];exact FT _ _ (hk env);simp only[if_neg hx];exact FT _ _ (hk env);simp only[if_neg k8];by_cases k9:e.kind=9;simp only[if_pos k9];exact (FT _ _<|hk env).bind fun x=>FT _ _<|hk _
  simp only[if_neg k9];refine (GV _<|hk env).bind fun xs=>?_;by_cases k10:e.kind=10;simp only[if_pos k10];exact h1 _ _ _;simp only[if_neg k10];by_cases k11:e.kind=11;simp only[if_pos k11];exact (BD.lop (h2 _) _ _).bind fun ys=>BD.ret _;simp only[if_neg k11];exact BD.opV _ _
end
theorem Fi (p:List Fn)(n:Nat):∀F,(∀f j a,BD ((Co p n F).one f j a))∧∀f a,BD ((Co p n F).all f a)
 |0=>⟨fun _ _ _=>BD.fail 0,fun _ _=>BD.fail 0⟩
 |F+1=>by
  obtain⟨h1,h2⟩:=Fi p n F
  refine⟨fun f j a=>?_,fun f a=>?_⟩
  show BD (fun s=>if f=F then _ else _)
  by_cases e:f=F
  simp only[if_pos e];exact K4 h1 h2 _ _ (A7 _) _
  simp only[if_neg e];exact h1 f j a
  show BD (fun s=>if f=F then _ else _)
  by_cases e:f=F
  simp only[if_pos e];exact GV _ fun x hx=>K4 h1 h2 _ _ (A7 _) _
  simp only[if_neg e];exact h2 f a
theorem Fj (p:List Fn)(n F:Nat)(e:Ex)(env:List Sr):BD (BN n (Co p n F) e env):=K4 (Fi p n F).1 (Fi p n F).2 _ _ (A7 _) _
theorem Pz (p r:List Fn)(n:Nat):∀F,F≤p.length→Co (p++r) n F=Co p n F
 |0,_=>rfl
 |F+1,h=>by
  have h1:=Pz p r n F zO
  have h2:(p++r).getD F Fn.zero=p.getD F Fn.zero:=FQ zO
  show(⟨_,_⟩:Ca)=⟨_,_⟩
  rw[h1,h2]
def Iu (p:List Fn)(f:Int)(a:Sr):Int:=if G6 p f=0 then(if (decide (((a.length:Nat):Int)=(p.getD f.toNat Fn.zero).params) && Bj a)=true then 0 else 2)else G6 p f
def PB (p:List Fn)(f:Int)(a:Sr):Int:=if Iu p f a=0 then DA p f.toNat a else Iu p f a
def Tt (p:List Fn)(f:Int)(a:Sr):Sr:=if Iu p f a=0 then NO p f.toNat a else []
def QO (p:List Fn)(f:Int)(a:Sr):Nat:=if Iu p f a=0 then J6 p 1 f.toNat (BW a)else 0
section
variable {p:List Fn} {f:Int} {a:Sr}
theorem RZ (h:Iu p f a=0):Es p=true∧(0≤f∧f<((p.length:Nat):Int))∧((a.length:Nat):Int)=(p.getD f.toNat Fn.zero).params∧Bj a=true:=by unfold Iu at h;split at h;rename_i h1;split at h;rename_i h2;rw[z7,decide_eq_true_eq]at h2;obtain⟨q1,q2,q3⟩:=NL h1;exact⟨q1,⟨q2,q3⟩,h2.1,h2.2⟩;omega;rename_i h1;exact absurd h h1
theorem S0 (h:G6 p f≠0):G6 p f=Iu p f a:=by unfold Iu;rw[if_neg h]
theorem S4 (h:G6 p f=0)(h2:(decide (((a.length:Nat):Int)=(p.getD f.toNat Fn.zero).params) && Bj a)=false):2=Iu p f a:=by unfold Iu;rw[if_pos h,h2];rfl
theorem TY (h:G6 p f=0)(h2:(decide (((a.length:Nat):Int)=(p.getD f.toNat Fn.zero).params) && Bj a)=true):0=Iu p f a:=by unfold Iu;rw[if_pos h,h2];rfl
theorem UK (h:Iu p f a≠0):PB p f a=Iu p f a:=if_neg h
theorem PC (h:Iu p f a≠0):Tt p f a=[]:=if_neg h
theorem UL (h:Iu p f a≠0):QO p f a=0:=if_neg h
theorem PD (h:Iu p f a=0):PB p f a=DA p f.toNat a:=if_pos h
theorem Kl (h:Iu p f a=0):Tt p f a=NO p f.toNat a:=if_pos h
theorem S5 (h:Iu p f a=0):QO p f a=J6 p 1 f.toNat (BW a):=if_pos h
end
end
section
def Iv {α:Type}(K:Nat)(R:(Nat→α)→α→Prop)(r:Nat→Rs α)(rz:Rs α):Prop:=match rz with
 |.ok z t=>∃x,(∀k,k<K→r k=.ok (x k) t)∧R x z
 |.err c=>∀k,k<K→r k=.err c
theorem Iv.congr {α:Type}{K:Nat}{R:(Nat→α)→α→Prop}{r r':Nat→Rs α}{rz:Rs α}(h:Iv K R r rz)(e:∀k,k<K→r' k=r k):Iv K R r' rz:=by
 cases rz with
 |ok z t=>obtain⟨x,h1,h2⟩:=h;exact⟨x,fun k hk=>(e k hk).trans (h1 k hk),h2⟩
 |err c=>exact fun k hk=>(e k hk).trans (h k hk)
theorem Iv.bind {α β:Type}{K:Nat}{R:(Nat→α)→α→Prop}{R':(Nat→β)→β→Prop}{r:Nat→Rs α}{rz:Rs α}{g:Nat→α→Nat→Rs β}{gz:α→Nat→Rs β}(h:Iv K R r rz)
  (hg:∀x z t,R x z→Iv K R' (fun k=>g k (x k) t) (gz z t)):Iv K R' (fun k=>(r k).bind (g k)) (rz.bind gz):=by
 cases rz with
 |ok z t =>
  obtain⟨x,h1,h2⟩:=h;exact(hg x z t h2).congr fun k hk=>by rw[h1 k hk];rfl
 |err c=>exact fun k hk=>by show(r k).bind _=_;rw[h k hk];rfl
theorem Iv.ret {α:Type}{K:Nat}{R:(Nat→α)→α→Prop}{x:Nat→α}{z:α}{t:Nat}(h:R x z):Iv K R (fun k=>.ok (x k) t) (.ok z t):=⟨x,fun _ _=>rfl,h⟩
theorem Iv.fail {α:Type}{K:Nat}{R:(Nat→α)→α→Prop}{c:Int}:Iv K R (fun _=>.err c) (.err c):=fun _ _=>rfl
structure Y3 (K:Nat)(n:Nat→Nat)(nz:Nat)(R:(Nat→Sr)→Sr→Prop):Prop where
 zero:∀x z,R x z→∀k,k<K→((x k).getD 0 0=0↔z.getD 0 0=0)
 cst:∀c,IJ c=true→R (fun k=>cst (n k) c) (Go.Proofs.YtlbefjfhfodnlaaGreatDoor.cst nz c)
 add:∀x z y w,R x z→R y w→R (fun k=>Do (x k) (y k)) (Do z w)
 red:∀x z y w,R x z→R y w→R (fun k=>EV (x k) (y k)) (EV z w)
 pro:∀x z y w,R x z→R y w→R (fun k=>Dc (x k) (y k)) (Dc z w)
 scl:∀x z,R x z→R (fun k=>EE (x k) 1000002) (EE z 1000002)
 quo:∀x z y w,R x z→R y w→w.getD 0 0≠0→R (fun k=>BV (x k) (y k)) (BV z w)
def KU (K:Nat)(R:(Nat→Sr)→Sr→Prop)(m:Nat)(xs:Nat→List Sr)(zsq:List Sr):Prop:=zsq.length=m∧(∀k,k<K→(xs k).length=m)∧∀i,i<m→∃x,(∀k,k<K→(xs k).getD i []=x k)∧R x (zsq.getD i [])
section
variable {K:Nat} {n:Nat→Nat} {nz:Nat} {R:(Nat→Sr)→Sr→Prop} {p:List Fn}
theorem KU.nil:KU K R 0 (fun _=>[]) []:=⟨rfl,fun _ _=>rfl,fun i hi=>by omega⟩
theorem KU.cons {m:Nat}{x:Nat→Sr}{z:Sr}{xs:Nat→List Sr}{zsq:List Sr}(h1:R x z)(h:KU K R m xs zsq):KU K R (m+1) (fun k=>x k::xs k) (z::zsq):=by
 refine⟨by rw[z9,h.1],fun k hk=>by rw[z9,h.2.1 k hk],fun i hi=>?_⟩;cases i with
 |zero=>exact⟨x,fun _ _=>rfl,h1⟩
 |succ i =>
  obtain⟨y,h3,h4⟩:=h.2.2 i zO;exact⟨y,fun k hk=>by simpa using h3 k hk,by simpa using h4⟩
theorem KU.snoc {m:Nat}{x:Nat→Sr}{z:Sr}{xs:Nat→List Sr}{zsq:List Sr}(h:KU K R m xs zsq)(h1:R x z):KU K R (m+1) (fun k=>xs k++[x k]) (zsq++[z]):=by refine⟨by simp[h.1],fun k hk=>by simp[h.2.1 k hk],fun i hi=>?_⟩;by_cases e:i=m;exact⟨x,fun k hk=>J4 (by rw[h.2.1 k hk];exact e),by rw[J4 (by rw[h.1];exact e)];exact h1⟩;obtain⟨y,h3,h4⟩:=h.2.2 i zO;exact⟨y,fun k hk=>by rw[FQ (by rw[h.2.1 k hk];omega)];exact h3 k hk,by rw[FQ (by rw[h.1];omega)];exact h4⟩
structure ZX (K:Nat)(R:(Nat→Sr)→Sr→Prop)(p:List Fn)(F:Nat)(C:Nat→Ca)(Cz:Ca):Prop where
 one:∀f j m xs zsq t,f<F→j<(p.getD f Fn.zero).outs.length→KU K R m xs zsq→((m:Nat):Int)=(p.getD f Fn.zero).params→Iv K R (fun k=>(C k).one f j (xs k) t) (Cz.one f j zsq t)
 all:∀f m xs zsq t,f<F→KU K R m xs zsq→((m:Nat):Int)=(p.getD f Fn.zero).params→Iv K (KU K R (p.getD f Fn.zero).outs.length) (fun k=>(C k).all f (xs k) t) (Cz.all f zsq t)
theorem S6 {C:Nat→Ca}{Cz:Ca}{env:Nat→List Sr}{ez:List Sr}:∀(l:List Ex),(∀e∈l,∀s,Iv K R (fun k=>BN (n k) (C k) e (env k) s) (BN nz Cz e ez s))→∀s,Iv K (KU K R l.length) (fun k=>Cj (n k) (C k) l (env k) s) (Cj nz Cz l ez s)
 |[],_,s=>by
  simp only[Cj]
  exact Iv.ret KU.nil
 |e::l,h,s=>by
  simp only[Cj]
  exact (h e (z0 ..) s).bind fun x z t hx=>(S6 l (fun e he=>h e<|z3 _ he) t).bind fun xs zsq u hxs=>Iv.ret<|hxs.cons hx
theorem UM {F f:Nat}{C:Nat→Ca}{Cz:Ca}(hC:ZX K R p F C Cz)(hf:f<F)(ho:(((p.getD f Fn.zero).outs.length:Nat):Int)=(p.getD f Fn.zero).params):∀(c:Nat)(xs:Nat→List Sr)(zsq:List Sr)(t:Nat),KU K R (p.getD f Fn.zero).outs.length xs zsq →
  Iv K (KU K R (p.getD f Fn.zero).outs.length) (fun k=>FC ((C k).all f) c (xs k) t) (FC (Cz.all f) c zsq t)
 |0,xs,zsq,t,h=>Iv.ret h
 |c+1,xs,zsq,t,h=>(UM hC hf ho c xs zsq t h).bind fun ys ws u hy=>hC.all f _ ys ws u hf hy ho
theorem KU.at {m i:Nat}{xs:Nat→List Sr}{zsq:List Sr}{t:Nat}(h:KU K R m xs zsq)(hi:i<m):Iv K R (fun k=>.ok ((xs k).getD i []) t) (.ok (zsq.getD i []) t):=by obtain⟨x,h1,h2⟩:=h.2.2 i hi;exact(Iv.ret h2).congr fun k hk=>by rw[h1 k hk]
theorem KU.two {m t t':Nat}{xs:Nat→List Sr}{zsq:List Sr}{o:Sr→Sr→Sr}(h:KU K R m xs zsq)(hm:2≤m)(ho:∀x z y w,R x z→R y w→R (fun k=>o (x k) (y k)) (o z w)) :
  Iv K R (fun k=>.ok (o ((xs k).getD 0 []) ((xs k).getD 1 [])) t) (.ok (o (zsq.getD 0 []) (zsq.getD 1 [])) t):=by
 obtain⟨x,h1,h2⟩:=h.2.2 0 zO;obtain⟨y,h3,h4⟩:=h.2.2 1 zO;exact(Iv.ret (ho x _ y _ h2 h4)).congr fun k hk=>by rw[h1 k hk,h3 k hk]
theorem Y4 (hR:Y3 K n nz R){kd:Int}{m t:Nat}{xs:Nat→List Sr}{zsq:List Sr}(h:KU K R m xs zsq)(h1:kd=7→1≤m)(h2:kd≠7→2≤m):Iv K R (fun k=>HO kd (xs k) t) (HO kd zsq t):=by
 unfold HO;by_cases k3:kd=3;simp only[if_pos k3];exact h.two (t':=0) (h2 zO) hR.add;simp only[if_neg k3];by_cases k4:kd=4;simp only[if_pos k4];exact h.two (t':=0) (h2 zO) hR.red;simp only[if_neg k4];by_cases k5:kd=5;simp only[if_pos k5];exact h.two (t':=0) (h2 zO) hR.pro;simp only[if_neg k5];by_cases k7:kd=7;simp only[if_pos k7];obtain⟨x,q1,q2⟩:=h.2.2 0 (h1 k7);exact(Iv.ret (hR.scl x _ q2)).congr fun k hk=>by rw[q1 k hk]
 simp only[if_neg k7];obtain⟨x,q1,q2⟩:=h.2.2 0 (by have:=h2 k7;omega);obtain⟨y,q3,q4⟩:=h.2.2 1 (by have:=h2 k7;omega);have hz:=hR.zero y _ q4;by_cases h0:(zsq.getD 1 []).getD 0 0=0;simp only[if_pos h0];exact fun k hk=>by
  show(if List.getD ((xs k).getD 1 []) 0 0=0 then _ else _)=_;rw[q3 k hk,if_pos ((hz k hk).2 h0)]
 simp only[if_neg h0];exact(Iv.ret (hR.quo x _ y _ q2 q4 h0)).congr fun k hk=>by rw[q3 k hk,q1 k hk,if_neg fun h=>h0 ((hz k hk).1 h)]
theorem S7 (hR:Y3 K n nz R){F:Nat}{C:Nat→Ca}{Cz:Ca}(hC:ZX K R p F C Cz):∀(z:Nat)(e:Ex),e.size≤z→∀(m:Nat)(env:Nat→List Sr)(ez:List Sr)(s:Nat),wf p ((F:Nat):Int) e ((m:Nat):Int)=true→KU K R m env ez→Iv K R (fun k=>BN (n k) (C k) e (env k) s) (BN nz Cz e ez s)
 |0,e,h,_,_,_,_,_,_=>by have:=Be e;omega
 |z+1,e,h,m,env,ez,s,hw,he=>by
  obtain⟨w1,w2,w3,w4,w5,w6,w7,w8⟩:=C0 (BS hw)
  have hz:∀j,j<e.kids.length→(e.kids.getD j Ex.zero).size≤z:=fun j hj=>by
   have:=Be e;have:=Bu hj;omega
  have hk:∀j,j<e.kids.length→¬(e.kind=9∧j=1)→∀t,Iv K R (fun k=>EU (n k) (C k) e.kids j (env k) t) (EU nz Cz e.kids j ez t):=fun j hj hn t=>by
   simp only[CX _ _ _ _ _ _ hj]
   exact S7 hR hC z _ (hz j hj) m env ez t (C9 hw hj hn) he
  simp only[CT]
  by_cases hs3:3000≤s
  simp only[if_pos hs3];exact Iv.fail
  simp only[if_neg hs3]
  by_cases k1:e.kind=1
  simp only[if_pos k1];exact Iv.ret (hR.cst _ (Dd.2 (w8 k1)))
  simp only[if_neg k1]
  by_cases k2:e.kind=2
  simp only[if_pos k2];exact he.at (by have:=w2 k2;omega)
  simp only[if_neg k2]
  by_cases k8:e.kind=8
  simp only[if_pos k8]
  have h3:=w5 k8
  refine (hk 0 zO zO (s+1)).bind fun x y t hx=>?_
  have hq:=hR.zero x y hx
  by_cases h0:y.getD 0 0=0
  simp only[if_pos h0]
  exact(hk 1 zO zO t).congr fun k hk=>by rw[if_pos ((hq k hk).2 h0)]
  simp only[if_neg h0]
  exact(hk 2 zO zO t).congr fun k hk=>by rw[if_neg fun h=>h0 ((hq k hk).1 h)]
  simp only[if_neg k8]
  by_cases k9:e.kind=9
  simp only[if_pos k9]
  have h3:=w3 zO
  refine (hk 0 zO zO (s+1)).bind fun x y t hx=>?_
  simp only[CX _ _ _ _ _ _ (show 1<e.kids.length by omega)]
  refine S7 hR hC z _ (hz 1 zO) (m+1) (fun k=>env k++[x k]) (ez++[y]) t ?_<|he.snoc hx
  have:=G5 hw zO k9
  rw[Int.natCast_add];exact this
  simp only[if_neg k9]
  have hc:=S6 (n:=n) (C:=C) (nz:=nz) (Cz:=Cz) (env:=env) (ez:=ez) e.kids (fun x hx t=>by
   obtain⟨j,hj,rfl⟩:=List.mem_iff_getElem.1 hx
   have:=hk j hj zO t
   simp only[CX _ _ _ _ _ _ hj,G3 hj]at this
   exact this) (s+1)
  refine hc.bind fun xs zsq t hx=>?_
  by_cases k10:e.kind=10
  simp only[if_pos k10]
  have h6:=w6<|.inl k10
  exact hC.one _ _ _ xs zsq t zO zO hx (by exact h6.2.2.1)
  simp only[if_neg k10]
  by_cases k11:e.kind=11
  simp only[if_pos k11]
  have h6:=w6 (.inr k11);have h7:=w7 k11
  have hl:e.kids.length=(p.getD e.num.toNat Fn.zero).outs.length:=by omega
  rw[hl]at hx
  exact (UM hC (f:=e.num.toNat) zO h7.1 e.count.toNat xs zsq t hx).bind fun ys ws u hy=>hy.at zO
  simp only[if_neg k11]
  exact Y4 hR hx (fun h7=>by rw[w4 h7];decide) fun h7=>by rw[w3 (by omega)];decide
theorem UN (hR:Y3 K n nz R)(hv:Ik p):∀F,F≤p.length→ZX K R p F (fun k=>Co p (n k) F) (Co p nz F)
 |0,_=>⟨fun f j m xs zsq t h=>by omega,fun f m xs zsq t h=>by omega⟩
 |F+1,hF=>by
  have ih:=UN hR hv F zO
  have hO:∀j m xs zsq t,j<(p.getD F Fn.zero).outs.length→KU K R m xs zsq→((m:Nat):Int)=(p.getD F Fn.zero).params→Iv K R (fun k=>BN (n k) (Co p (n k) F) ((p.getD F Fn.zero).outs.getD j Ex.zero) (xs k) t) (BN nz (Co p nz F) ((p.getD F Fn.zero).outs.getD j Ex.zero) zsq t):=fun j m xs zsq t h2 h3 h4 =>
   S7 hR ih _ _ (A7 _) m xs zsq t (by rw[h4];exact hv.wf F zO j h2) h3
  refine⟨fun f j m xs zsq t h1 h2 h3 h4=>?_,fun f m xs zsq t h1 h3 h4=>?_⟩
  show Iv K R (fun k=>if f=F then _ else _) (if f=F then _ else _)
  by_cases e:f=F
  subst e;simp only[if_true];exact hO j m xs zsq t h2 h3 h4
  simp only[if_neg e];exact ih.one f j m xs zsq t zO h2 h3 h4
  show Iv K _ (fun k=>if f=F then _ else _) (if f=F then _ else _)
  by_cases e:f=F
  subst e;simp only[if_true]
  refine S6 _ (fun e he s=>?_) t
  obtain⟨j,hj,rfl⟩:=List.mem_iff_getElem.1 he
  have:=hO j m xs zsq s hj h3 h4
  rwa [G3 hj]at this
  simp only[if_neg e];exact ih.all f m xs zsq t zO h3 h4
theorem ZY (hR:Y3 K n nz R)(hv:Ik p){f m:Nat}{a:Nat→List Sr}{az:List Sr}(hf:f<p.length)(ha:KU K R m a az)(hl:((m:Nat):Int)=(p.getD f Fn.zero).params) :
  Iv K (KU K R (p.getD f Fn.zero).outs.length) (fun k=>ev p (n k) f (a k)) (ev p nz f az):=by
 have h:=(UN hR hv (f+1) zO).all f m a az 0 zO ha hl;simp only[Fl (show f<f+1 by omega)]at h;exact h
end
end
theorem EY {a b:Sr}{k:Nat}(h:k<a.length):(Do a b).getD k 0=md (a.getD k 0+b.getD k 0):=CM 0 h
theorem FO {a b:Sr}{k:Nat}(h:k<a.length):(EV a b).getD k 0=md (a.getD k 0-b.getD k 0):=CM 0 h
theorem G8 {a:Sr}{y:Int}{k:Nat}(h:k<a.length):(EE a y).getD k 0=md (a.getD k 0*y):=CM 0 h
theorem IR {a b:Sr}(h:0<a.length):(Dc a b).getD 0 0=md (0+a.getD 0 0*b.getD 0 0):=CM 0 h
theorem NR {a b:Sr}(h:1<a.length):(Dc a b).getD 1 0=md (md (0+a.getD 0 0*b.getD 1 0)+a.getD 1 0*b.getD 0 0):=CM 0 h
theorem Km {a b:Sr}(h:0<a.length):(BV a b).getD 0 0=md (a.getD 0 0*inv (b.getD 0 0)):=KM h
theorem NS {a b:Sr}(h:1<a.length):(BV a b).getD 1 0=md (md (a.getD 1 0-(BV a b).getD 0 0*b.getD 1 0)*inv (b.getD 0 0)):=KM h
section
section ops
variable {P:Program} {ops:Array Oper} {w0:World} {Q:Act→World→Prop} {os:List Oper} {ks:List Nat} {N:Nat} {ρ:Nat→Value} {w:World}
 {d:Nat} {ty:TypeId} {pos:String} {aft:Array Edge} {g:Option (Nat×Bool)} {t e:TypeId} {z:Value} {b s:Nat} {α:Type} {E:Ci α}
theorem X4 (hE:Db s E){x:Operand}{cs:List Value}{y:α}{B U:Nat}(ht:P.underlying t=some (.slice e))(hi:TI P e s z b)(hz:z.cells.size=s)(hs:0<s∧s≤1000)(hx:Bz N ρ x=.agg cs.toArray)(hy:Cp E B U w.heap cs y)
  (hu:Up ops N ρ ⟨some d,.buildSlice t 1 #[(0,x)],ty,pos,aft,g⟩)
  (h:∀v w1,AB w w1→w1.heap.size=w.heap.size+1→Bo (BP s E e) (fun b=>(B≤b∧b<U)∨b=w.heap.size) w1.heap v [y]→LW P ops w0 Q os ks (mk N (CP ρ d v)) w1) :
  LW P ops w0 Q (⟨some d,.buildSlice t 1 #[(0,x)],ty,pos,aft,g⟩::os) (3::ks) (mk N ρ) w:=by
 obtain⟨F,h1,h2,h3⟩:=hy;have hl:=hE.len h1;have hr:=Pc (P:=P) (w:=w) ht hi hs.1 hs.2 hz hl;have hrun:(execOp (Bz N ρ) ⟨some d,.buildSlice t 1 #[(0,x)],ty,pos,aft,g⟩).run P w=.ok (.value (.slice (some ⟨w.heap.size,0,none⟩) 1 1)) (w.alloc (.cells cs.toArray e)):=by
  simp only[execOp,zc,zf,zh,Sem.run_bind,hx,hr,Result.andThen_ok,Sem.run_pure]
 refine Gt rfl hu _ _ hrun (BA _ _)<|h _ _ (BA _ _) (by simp) ?_;have hn:=Jo (e:=e) (w:=w) hE (css:=[cs]) (xs:=[y]) (F:=F++[]) (cur:=cs.toArray) (cap:=1) ⟨F,[],rfl,h1,rfl⟩ (by simp) (by simp[maxLen]) (by simp[hl]) (by simp[← hl]);refine⟨_,hn,?_,fun c hc=>?_⟩;rw[List.append_nil,List.nodup_cons];exact⟨fun hm=>by have:=hE.lt h1 _ hm;omega,h2⟩;rcases ze.1 hc with rfl|hc;exact .inr rfl;exact .inl<|h3 c (by simpa using hc)
end ops
theorem Bo.ext {α:Type}{E:BI α}(hE:CC E){S:Nat→Prop}{w w':World}{v:Value}{x:α}(h:Bo E S w.heap v x)(c:AB w w'):Bo E S w'.heap v x:=by obtain⟨G,h1,h2,h3⟩:=h;exact⟨G,hE.stable h1 fun b hb=>c.heap (hE.lt h1 b hb),h2,h3⟩
structure Y5 (p:List Fn)(f pk:Int)(a b:List Int):Prop where
 dr:MZ p false
 dn:Dn p
 len:1≤p.length∧p.length≤3
 fe:f=((p.length:Nat):Int)-1
 pk:0≤pk∧pk<(((p.getD f.toNat Fn.zero).outs.length:Nat):Int)
 la:((a.length:Nat):Int)=(p.getD f.toNat Fn.zero).params∧Bj a=true
 lb:((b.length:Nat):Int)=(p.getD f.toNat Fn.zero).params∧Bj b=true
theorem Y6 {p:List Fn}{f:Int}{a:Sr}(h:Es p=true)(hf:0≤f∧f<((p.length:Nat):Int))(hl:((a.length:Nat):Int)=(p.getD f.toNat Fn.zero).params)(hn:Bj a=true):Iu p f a=0:=by unfold Iu G6;rw[if_pos h,if_pos (by omega)];rw[if_pos];rw[z7,decide_eq_true_eq];exact⟨hl,hn⟩
theorem GW {p:List Fn}(hv:Ik p){n f:Nat}{a:List Sr}(hf:f<p.length)(ha:FD n a)(hl:((a.length:Nat):Int)=(p.getD f Fn.zero).params) :
  (∃x s,ev p n f a=.ok x s∧x.length=(p.getD f Fn.zero).outs.length∧FD n x)∨ev p n f a=.err 6∨ev p n f a=.err 7:=by
 have h:=(RV hv n (f+1) zO).all f a 0 zO ha hl zO;rw[Fl (by omega)]at h;have e:ev p n f a=Cj n (Co p n f) (p.getD f Fn.zero).outs a 0:=rfl;rw[← e]at h;cases h2:ev p n f a with
 |err c =>
  rw[h2]at h;have h:c=6∨c=7:=h;rcases h with rfl|rfl;exact .inr<|.inl rfl;exact .inr<|.inr rfl
 |ok xs s =>
  rw[h2]at h;have h:xs.length=_∧FD n xs∧s≤3000:=h;exact .inl ⟨xs,s,rfl,h.1,h.2.1⟩
end
def Dk (a d:List Int)(n:Nat):List Sr:=DK a.length fun i=>(cst n (a.getD i 0)).set 1 (d.getD i 0)
@[simp] theorem BY (a d:List Int)(n:Nat):(Dk a d n).length=a.length:=by simp[Dk]
theorem Em {a d:List Int}{n k:Nat}(h:k<a.length):(Dk a d n).getD k []=(cst n (a.getD k 0)).set 1 (d.getD k 0):=CM [] h
theorem Fv {a d:List Int}{n:Nat}(ha:Bj a=true)(hd:Bj d=true):FD n (Dk a d n):=fun k hk=>by
 rw[BY]at hk
 rw[Em hk]
 refine⟨by rw[z6,KN],?_⟩
 have h1:=Dp (n:=n)<|Dd.2<|Cd ha k
 unfold Bj
 rw[zm]
 intro y hy
 rcases List.mem_or_eq_of_mem_set hy with hy|rfl
 have:=h1.2;unfold Bj at this;exact zm.1 this y hy
 exact Dd.2<|Cd hd k
def NT (p:List Fn)(f:Int)(a d:Sr):Int:=if G6 p f=0 then(if ((decide (((a.length:Nat):Int)=(p.getD f.toNat Fn.zero).params) && Bj a) && (decide (((d.length:Nat):Int)=(p.getD f.toNat Fn.zero).params) && Bj d))=true then 0 else 2)else G6 p f
theorem UO {p:List Fn}{f:Int}{a d:Sr}(h:NT p f a d=0):Es p=true∧(0≤f∧f<((p.length:Nat):Int))∧(((a.length:Nat):Int)=(p.getD f.toNat Fn.zero).params∧Bj a=true)∧((d.length:Nat):Int)=(p.getD f.toNat Fn.zero).params∧Bj d=true:=by unfold NT at h;split at h;rename_i h1;split at h;rename_i h2;simp only[z7,decide_eq_true_eq]at h2;obtain⟨q1,q2,q3⟩:=NL h1;exact⟨q1,⟨q2,q3⟩,h2.1,h2.2⟩;omega;rename_i h1;exact absurd h h1
def Tu (p:List Fn)(f:Nat)(a d:List Int):List Sr:=Oh p 2 f (Dk a d 2)
def UP (p:List Fn)(f:Nat)(a d:List Int):Int:=Gp p 2 f (Dk a d 2)
theorem PE {H:Array Obj}:Rd (B8 rI) H (.slice none 0 0) []:=⟨[],.inl ⟨none,0,rfl,rfl,rfl⟩⟩
def Ce (n:Nat)(ps:List Int):Nat→List Int
 |0=>List.replicate n 0
 |j+1=>(Ce n ps j).set (ps.getD j 0).toNat (md ((Ce n ps j).getD (ps.getD j 0).toNat 0+1))
theorem I3 (n:Nat)(ps:List Int):∀j,(Ce n ps j).length=n
 |0=>z5 ..
 |j+1=>by show(List.set _ _ _).length=n;rw[z6,I3 n ps j]
theorem I4 (n:Nat)(ps:List Int):∀j,Bj (Ce n ps j)=true
 |0=>Jy n
 |j+1=>by
  have h:=I4 n ps j
  unfold Bj at h ⊢
  rw[zm]at h ⊢
  intro y hy
  rcases List.mem_or_eq_of_mem_set hy with hy|rfl
  exact h y hy
  exact Dd.2<|Ct _
theorem X5 (a d:List Int):(Dk a d 2).map (DW 1)=BW a:=by refine X3 (by rw[zg,BY];unfold BW;rw[zg]) fun k hk=>?_;rw[zg,BY]at hk;rw[BU (d:=[]) (by rw[BY];exact hk),Em hk];unfold BW;rw[BU (d:=0) hk];rfl
theorem TZ (p:List Fn)(f:Nat)(a d:List Int):UP p f a d=DA p f a:=by unfold UP DA;rw[← Py p (A7 1) (show 1≤2 by decide),X5]
section
mutual
def At (vs:List Int)(c:Int):Ex→Ex
 |.mk k n q d l=>if k=2 then .mk 2 (vs.getD n.toNat 0) 0 0 []else .mk k n q d (FI (decide (k=9)) vs c 0 l)
def FI (b:Bool)(vs:List Int)(c:Int):Nat→List Ex→List Ex
 |_,[]=>[]
 |i,e::l=>At (if b=true∧i=1 then vs++[c]else vs) (if b=true∧i=1 then c+1 else c) e::FI b vs c (i+1) l
end
def ZD:Ex:=.mk 1 0 0 0 []
def vr (n:Int):Ex:=.mk 2 n 0 0 []
def JS (k:Int)(a b:Ex):Ex:=.mk k 0 0 0 [a,b]
mutual
def Am (p:List Fn):List Int→List Int→Int→Ex→Ex
 |vs,ds,c,.mk k n q d l =>
  if k=1 then ZD else if k=2 then vr (ds.getD n.toNat 0)
  else if k=3∨k=4 then JS k (EW p vs ds c l 0) (EW p vs ds c l 1)
  else if k=5 then JS 3 (JS 5 (EW p vs ds c l 0) (At vs c (l.getD 1 Ex.zero))) (JS 5 (At vs c (l.getD 0 Ex.zero)) (EW p vs ds c l 1))
  else if k=6 then JS 6 (JS 4 (EW p vs ds c l 0) (JS 5 (JS 6 (At vs c (l.getD 0 Ex.zero)) (At vs c (l.getD 1 Ex.zero))) (EW p vs ds c l 1))) (At vs c (l.getD 1 Ex.zero))
  else if k=7 then .mk 7 0 0 0 [EW p vs ds c l 0]
  else if k=8 then .mk 8 0 0 0 [At vs c (l.getD 0 Ex.zero),EW p vs ds c l 1,EW p vs ds c l 2]
  else if k=9 then JS 9 (At vs c (l.getD 0 Ex.zero)) (JS 9 (EW p vs ds (c+1) l 0) (EW p (vs++[c]) (ds++[c+1]) (c+2) l 1))
  else .mk k (n+((p.length:Nat):Int)) (q+(((p.getD n.toNat Fn.zero).outs.length:Nat):Int)) d (l.map (At vs c)++OE p vs ds c l)
def EW (p:List Fn):List Int→List Int→Int→List Ex→Nat→Ex
 |_,_,_,[],_=>Ex.zero
 |vs,ds,c,e::_,0=>Am p vs ds c e
 |vs,ds,c,_::l,j+1=>EW p vs ds c l j
def OE (p:List Fn):List Int→List Int→Int→List Ex→List Ex
 |_,_,_,[]=>[]
 |vs,ds,c,e::l=>Am p vs ds c e::OE p vs ds c l
end
theorem KV (vs:List Int)(c:Int)(e:Ex):At vs c e=if e.kind=2 then .mk 2 (vs.getD e.num.toNat 0) 0 0 []else .mk e.kind e.num e.pick e.count (FI (decide (e.kind=9)) vs c 0 e.kids):=by cases e;rw[At];rfl
theorem EI (b:Bool)(vs:List Int)(c:Int):∀(l:List Ex)(i:Nat),(FI b vs c i l).length=l.length
 |[],i=>by rw[FI]
 |e::l,i=>by rw[FI,z9,z9,EI b vs c l]
theorem Iw (b:Bool)(vs:List Int)(c:Int):∀(l:List Ex)(i j:Nat),j<l.length→(FI b vs c i l).getD j Ex.zero=At (if b=true∧i+j=1 then vs++[c]else vs) (if b=true∧i+j=1 then c+1 else c) (l.getD j Ex.zero)
 |[],i,j,h=>by simp at h
 |e::l,i,0,_=>by rw[FI];rfl
 |e::l,i,j+1,h=>by
  rw[FI,List.getD_cons_succ,List.getD_cons_succ,Iw b vs c l (i+1) j (by simpa using h),show i+1+j=i+(j+1)from by omega]
theorem Lk (vs:List Int)(c:Int):∀(l:List Ex)(i:Nat),FI false vs c i l=l.map (At vs c)
 |[],i=>by rw[FI];rfl
 |e::l,i=>by rw[FI,Lk vs c l];simp
theorem De (p:List Fn)(vs ds:List Int)(c:Int):∀(l:List Ex)(j:Nat),j<l.length→EW p vs ds c l j=Am p vs ds c (l.getD j Ex.zero)
 |[],j,h=>by simp at h
 |e::l,0,_=>by rw[EW];rfl
 |e::l,j+1,h=>by rw[EW,De p vs ds c l j (by simpa using h)];rfl
theorem I5 (p:List Fn)(vs ds:List Int)(c:Int):∀(l:List Ex),OE p vs ds c l=l.map (Am p vs ds c)
 |[]=>by rw[OE];rfl
 |e::l=>by rw[OE,I5 p vs ds c l];rfl
def Dl (p:List Fn)(nm:Nat→ByteArray)(k:Nat):Fn :=
 ⟨nm (p.length+k),2*(p.getD k Fn.zero).params,
  (p.getD k Fn.zero).outs.map (At (DK (p.getD k Fn.zero).params.toNat fun i=>((i:Nat):Int)) (2*(p.getD k Fn.zero).params)) ++
  (p.getD k Fn.zero).outs.map (Am p (DK (p.getD k Fn.zero).params.toNat fun i=>((i:Nat):Int)) (DK (p.getD k Fn.zero).params.toNat fun i=>(p.getD k Fn.zero).params+((i:Nat):Int)) (2*(p.getD k Fn.zero).params))⟩
def B3 (p:List Fn)(nm:Nat→ByteArray):List Fn:=p++DK p.length (Dl p nm)
theorem S8 (n:Nat)(C:Ca)(k num pick cnt:Int)(l:List Ex)(env:List Sr)(s:Nat):BN n C (.mk k num pick cnt l) env s =
  if 3000≤s then .err 7
  else if k=1 then .ok (cst n num) (s+1)
  else if k=2 then .ok (env.getD num.toNat []) (s+1)
  else if k=8 then(EU n C l 0 env (s+1)).bind fun x t=>if x.getD 0 0=0 then EU n C l 1 env t else EU n C l 2 env t
  else if k=9 then(EU n C l 0 env (s+1)).bind fun x t=>EU n C l 1 (env++[x]) t
  else(Cj n C l env (s+1)).bind fun xs t =>
   if k=10 then C.one num.toNat pick.toNat xs t
   else if k=11 then(FC (C.all num.toNat) cnt.toNat xs t).bind fun ys u=>.ok (ys.getD pick.toNat []) u
   else HO k xs t:=by rw[BN]
theorem S9 {α:Type}{f:Nat→Rs α}(h:BD f){y:α}{s t:Nat}(hs:s≤3000)(he:f s=.ok y t):t≤3000∧∃d,It f (.ok y 0) d:=by
 obtain⟨r,d,h⟩:=h;have h0:=h s hs;rw[he]at h0;by_cases hd:s+d≤3000;rw[if_pos hd]at h0;cases r with
 |err c=>cases h0
 |ok x u =>
  simp only[Rs.ok.injEq]at h0;obtain⟨rfl,rfl⟩:=h0;exact⟨hd,d,fun s hs=>h s hs⟩
 rw[if_neg hd]at h0;cases h0
def GY (n:Nat)(C:Ca)(e:Ex)(en:List Sr)(y:Sr):Prop:=∃d,It (BN n C e en) (.ok y 0) d
def Ks (n:Nat)(C:Ca)(l:List Ex)(en:List Sr)(y:List Sr):Prop:=∃d,It (Cj n C l en) (.ok y 0) d
section
variable {n:Nat} {C:Ca} {en:List Sr} {a b e:Ex} {x y:Sr} {l m:List Ex} {xs ys:List Sr}
theorem Ix {f:Nat→Rs Sr}{d:Nat}(h:It f (.ok y 0) d)(he:∀s,BN n C e en s=if 3000≤s then .err 7 else f (s+1)):GY n C e en y:=by
 have:BN n C e en=fun s=>if 3000≤s then .err 7 else f (s+1):=funext he
 exact⟨1+d,by rw[this];exact h.one⟩
theorem X6:GY n C ZD en (cst n 0):=Ix (f:=fun s=>Rs.ok (cst n 0) s) (It.ret _) fun s=>by
 rw[CT];simp[ZD,Ex.kind,Ex.num]
theorem X7 {i:Int}:GY n C (vr i) en (en.getD i.toNat []):=Ix (f:=fun s=>Rs.ok (en.getD i.toNat []) s) (It.ret _) fun s=>by
 rw[CT];simp[vr,Ex.kind,Ex.num]
theorem Ll:Ks n C [] en []:=⟨0,by
 have:Cj n C [] en=fun s=>Rs.ok [] s:=funext fun s=>by rw[Cj]
 rw[this];exact It.ret _⟩
theorem Iy (h:GY n C e en x)(h2:Ks n C l en xs):Ks n C (e::l) en (x::xs):=by
 obtain⟨d,h⟩:=h;obtain⟨d2,h2⟩:=h2;have:Cj n C (e::l) en=fun s=>(BN n C e en s).bind fun x t=>(Cj n C l en t).bind fun xs u=>.ok (x::xs) u:=funext fun s=>by rw[Cj]
 refine⟨d+(d2+0),?_⟩;rw[this];exact h.bind_ok (g:=fun x t=>(Cj n C l en t).bind fun xs u=>.ok (x::xs) u)<|h2.bind_ok (g:=fun xs u=>.ok (x::xs) u)<|It.ret _
theorem N4:∀(l:List Ex)(m:List Ex)(s:Nat),Cj n C (l++m) en s=(Cj n C l en s).bind fun xs t=>(Cj n C m en t).bind fun ys u=>.ok (xs++ys) u
 |[],m,s=>by
  rw[zl,Cj,Rs.bind_ok]
  cases Cj n C m en s <;> rfl
 |e::l,m,s=>by
  rw[List.cons_append,Cj,Cj]
  cases BN n C e en s with
  |err c=>rfl
  |ok x t =>
   rw[Rs.bind_ok,Rs.bind_ok,N4 l m t]
   cases Cj n C l en t with
   |err c=>rfl
   |ok xs u =>
    rw[Rs.bind_ok,Rs.bind_ok,Rs.bind_ok]
    cases Cj n C m en u <;> rfl
theorem Sc (h:Ks n C l en xs)(h2:Ks n C m en ys):Ks n C (l++m) en (xs++ys):=by obtain⟨d,h⟩:=h;obtain⟨d2,h2⟩:=h2;have:Cj n C (l++m) en=fun s=>(Cj n C l en s).bind fun xs t=>(Cj n C m en t).bind fun ys u=>.ok (xs++ys) u:=funext fun s=>N4 l m s;refine⟨d+(d2+0),?_⟩;rw[this];exact h.bind_ok (g:=fun xs t=>(Cj n C m en t).bind fun ys u=>.ok (xs++ys) u)<|h2.bind_ok (g:=fun ys u=>.ok (xs++ys) u)<|It.ret _
theorem JB {g:List Sr→Nat→Rs Sr}{d:Nat}(h:Ks n C e.kids en xs)(hg:It (g xs) (.ok y 0) d)(he:∀s,BN n C e en s=if 3000≤s then .err 7 else(Cj n C e.kids en (s+1)).bind g):GY n C e en y:=by obtain⟨d1,h⟩:=h;exact Ix (f:=fun s=>(Cj n C e.kids en s).bind g) (h.bind_ok (g:=g) hg) he
theorem N5 {k:Int}(ha:GY n C a en x)(hb:GY n C b en y)(hk:k=3∨k=4∨k=5∨k=6)(h0:k=6→y.getD 0 0≠0) :
  GY n C (JS k a b) en (if k=3 then Do x y else if k=4 then EV x y else if k=5 then Dc x y else BV x y):=by
 refine JB (e:=JS k a b) (xs:=[x,y]) (g:=fun xs t=>HO k xs t) (d:=0) (Iy ha<|Iy hb Ll) ?_ fun s=>?_;have:HO k [x,y]=fun t=>Rs.ok (if k=3 then Do x y else if k=4 then EV x y else if k=5 then Dc x y else BV x y) t:=funext fun t=>by
  unfold HO;rcases hk with rfl|rfl|rfl|rfl;rfl;rfl;rfl;have:=h0 rfl;simp only[List.getD_cons_succ,List.getD_cons_zero];rw[if_neg (by decide),if_neg (by decide),if_neg (by decide),if_neg (by decide),if_neg this];rfl
 rw[this];exact It.ret _;rw[CT];show(if 3000≤s then _ else if k=1 then _ else if k=2 then _ else if k=8 then _ else if k=9 then _ else _)=_;rw[if_neg (show ¬k=1 by omega),if_neg (show ¬k=2 by omega),if_neg (show ¬k=8 by omega),if_neg (show ¬k=9 by omega)];by_cases h:3000≤s;rw[if_pos h,if_pos h];rw[if_neg h,if_neg h];congr 1;funext xs t;show(if k=10 then _ else if k=11 then _ else _)=_;rw[if_neg (show ¬k=10 by omega),if_neg (show ¬k=11 by omega)];rfl
theorem PF (ha:GY n C a en x)(hb:GY n C b en y):GY n C (JS 3 a b) en (Do x y):=N5 (k:=3) ha hb (by decide) fun h=>by cases h
theorem PG (ha:GY n C a en x)(hb:GY n C b en y):GY n C (JS 4 a b) en (EV x y):=N5 (k:=4) ha hb (by decide) fun h=>by cases h
theorem N6 (ha:GY n C a en x)(hb:GY n C b en y):GY n C (JS 5 a b) en (Dc x y):=N5 (k:=5) ha hb (by decide) fun h=>by cases h
theorem PH (ha:GY n C a en x)(hb:GY n C b en y)(h0:y.getD 0 0≠0):GY n C (JS 6 a b) en (BV x y):=N5 (k:=6) ha hb (by decide) fun _=>h0
theorem U0 (ha:GY n C a en x):GY n C (.mk 7 0 0 0 [a]) en (EE x 1000002):=by refine JB (e:=.mk 7 0 0 0 [a]) (xs:=[x]) (g:=fun xs t=>HO 7 xs t) (d:=0) (Iy ha Ll) ?_ fun s=>?_;have:HO 7 [x]=fun t=>Rs.ok (EE x 1000002) t:=funext fun t=>rfl;rw[this];exact It.ret _;rw[CT];rfl
theorem Sd {c:Ex}{z:Sr}(hc:GY n C c en z)(ha:z.getD 0 0=0→GY n C a en x)(hb:z.getD 0 0≠0→GY n C b en x):GY n C (.mk 8 0 0 0 [c,a,b]) en x:=by
 obtain⟨d,hc⟩:=hc;have he:∀s,BN n C (.mk 8 0 0 0 [c,a,b]) en s=if 3000≤s then .err 7 else(fun s=>(BN n C c en s).bind fun x t=>if x.getD 0 0=0 then BN n C a en t else BN n C b en t) (s+1):=fun s=>by
  rw[CT];show(if 3000≤s then _ else(EU n C [c,a,b] 0 en (s+1)).bind fun x t=>if x.getD 0 0=0 then EU n C [c,a,b] 1 en t else EU n C [c,a,b] 2 en t)=_;simp only[EU]
 by_cases h:z.getD 0 0=0;obtain⟨d2,ha⟩:=ha h;exact Ix (hc.bind_ok (g:=fun x t=>if x.getD 0 0=0 then BN n C a en t else BN n C b en t) (by simp only[if_pos h];exact ha)) he;obtain⟨d2,hb⟩:=hb h;exact Ix (hc.bind_ok (g:=fun x t=>if x.getD 0 0=0 then BN n C a en t else BN n C b en t) (by simp only[if_neg h];exact hb)) he
theorem PI (ha:GY n C a en y)(hb:GY n C b (en++[y]) x):GY n C (JS 9 a b) en x:=by
 obtain⟨d,ha⟩:=ha;obtain⟨d2,hb⟩:=hb;have he:∀s,BN n C (JS 9 a b) en s=if 3000≤s then .err 7 else(fun s=>(BN n C a en s).bind fun x t=>BN n C b (en++[x]) t) (s+1):=fun s=>by
  rw[CT];show(if 3000≤s then _ else(EU n C [a,b] 0 en (s+1)).bind fun x t=>EU n C [a,b] 1 (en++[x]) t)=_;simp only[EU]
 exact Ix (ha.bind_ok (g:=fun x t=>BN n C b (en++[x]) t) hb) he
theorem Se {f j c:Int}{d:Nat}(h:Ks n C l en xs)(hc:It (C.one f.toNat j.toNat xs) (.ok x 0) d):GY n C (.mk 10 f j c l) en x :=
 JB (e:=.mk 10 f j c l) (g:=fun xs t=>C.one f.toNat j.toNat xs t) h hc fun s=>by rw[CT];rfl
theorem Sf {f j c:Int}{d:Nat}(h:Ks n C l en xs)(hc:It (FC (C.all f.toNat) c.toNat xs) (.ok ys 0) d):GY n C (.mk 11 f j c l) en (ys.getD j.toNat []) :=
 JB (e:=.mk 11 f j c l) (g:=fun xs t=>(FC (C.all f.toNat) c.toNat xs t).bind fun ys u=>.ok (ys.getD j.toNat []) u) h (hc.bind_ok (g:=fun ys u=>.ok (ys.getD j.toNat []) u) (It.ret _)) fun s=>by rw[CT];rfl
end
def MC (m:Nat)(vs:List Int)(en XE:List Sr):Prop:=vs.length=m∧XE.length=m∧∀i,i<m→(0≤vs.getD i 0∧vs.getD i 0<((en.length:Nat):Int))∧en.getD (vs.getD i 0).toNat []=XE.getD i []
theorem MC.more {m:Nat}{vs:List Int}{en XE:List Sr}(h:MC m vs en XE)(y:Sr):MC m vs (en++[y]) XE:=by refine⟨h.1,h.2.1,fun i hi=>?_⟩;obtain⟨q1,q2⟩:=h.2.2 i hi;refine⟨by rw[z4,zd];omega,?_⟩;rw[FQ zO,q2]
theorem MC.push {m:Nat}{vs:List Int}{en XE:List Sr}{c:Int}{X:Sr}(h:MC m vs en XE)(hc:0≤c∧c<((en.length:Nat):Int))(hX:en.getD c.toNat []=X):MC (m+1) (vs++[c]) en (XE++[X]):=by refine⟨by simp[h.1],by simp[h.2.1],fun i hi=>?_⟩;by_cases e:i=m;rw[J4 (by rw[h.1];exact e),J4 (by rw[h.2.1];exact e)];exact⟨hc,hX⟩;rw[FQ (by rw[h.1];omega),FQ (by rw[h.2.1];omega)];exact h.2.2 i zO
theorem MC.new {m:Nat}{vs:List Int}{en XE:List Sr}{c:Int}(h:MC m vs en XE)(hc:c=((en.length:Nat):Int))(x:Sr):MC (m+1) (vs++[c]) (en++[x]) (XE++[x]) :=
 (h.more x).push ⟨zO,by rw[z4,zd];omega⟩ (by subst hc;rw[Int.toNat_natCast];exact J4 rfl)
section
variable {n F:Nat} {C C':Ca} {p:List Fn}
def Y7 (F:Nat)(C C':Ca):Prop:=(∀f j a t,f<F→C.one f j a t=C'.one f j a t)∧∀f a t,f<F→C.all f a t=C'.all f a t
theorem Y7.lop {F:Nat}{C C':Ca}(h:Y7 F C C'){f:Nat}(hf:f<F)(c:Nat)(a:List Sr)(t:Nat):FC (C.all f) c a t=FC (C'.all f) c a t:=by have:C.all f=C'.all f:=funext fun a=>funext fun t=>h.2 f a t hf;rw[this]
theorem K5 (hCC:Y7 F C C'):∀(z:Nat)(e:Ex),e.size≤z→∀(m:Nat)(vs:List Int)(c:Int)(en XE:List Sr)(s:Nat),wf p ((F:Nat):Int) e ((m:Nat):Int)=true→MC m vs en XE→c=((en.length:Nat):Int) →
  BN n C (At vs c e) en s=BN n C' e XE s
 |0,e,h,_,_,_,_,_,_,_,_,_=>by have:=Be e;omega
 |z+1,e,h,m,vs,c,en,XE,s,hw,hr,hc=>by
  obtain⟨w1,w2,w3,w4,w5,w6,w7,w8⟩:=C0 (BS hw)
  have hz:∀j,j<e.kids.length→(e.kids.getD j Ex.zero).size≤z:=fun j hj=>by
   have:=Be e;have:=Bu hj;omega
  rw[KV]
  by_cases k2:e.kind=2
  rw[if_pos k2,S8,CT n C' e]
  have h2:=w2 k2
  have h3:=(hr.2.2 e.num.toNat zO).2
  rw[if_neg (show ¬e.kind=1 by omega),if_pos k2,if_neg (show ¬(2:Int)=1 by decide),if_pos rfl,h3]
  rw[if_neg k2]
  have hk:∀j,j<e.kids.length→¬(e.kind=9∧j=1)→∀t,BN n C ((FI (decide (e.kind=9)) vs c 0 e.kids).getD j Ex.zero) en t=BN n C' (e.kids.getD j Ex.zero) XE t:=fun j hj hn t=>by
   rw[Iw _ _ _ _ _ _ hj,Nat.zero_add,if_neg (by simpa using hn),if_neg (by simpa using hn)]
   exact K5 hCC z _ (hz j hj) m vs c en XE t (C9 hw hj hn) hr hc
  have hK:∀j,j<e.kids.length→¬(e.kind=9∧j=1)→∀t,EU n C (FI (decide (e.kind=9)) vs c 0 e.kids) j en t=EU n C' e.kids j XE t:=fun j hj hn t=>by
   rw[CX _ _ _ _ _ _ (by rw[EI];exact hj),CX _ _ _ _ _ _ hj];exact hk j hj hn t
  rw[S8,CT n C' e]
  by_cases hs3:3000≤s
  rw[if_pos hs3,if_pos hs3]
  rw[if_neg hs3,if_neg hs3]
  by_cases k1:e.kind=1
  rw[if_pos k1,if_pos k1]
  rw[if_neg k1,if_neg k1,if_neg k2,if_neg k2]
  by_cases k8:e.kind=8
  have h3:=w5 k8
  rw[if_pos k8,if_pos k8,hK 0 zO (by omega)]
  simp only[hK 1 zO zO,hK 2 zO (by omega)]
  rw[if_neg k8,if_neg k8]
  by_cases k9:e.kind=9
  have h3:=w3 zO
  rw[if_pos k9,if_pos k9,hK 0 zO (by omega)]
  congr 1;funext x t
  rw[CX _ _ _ _ _ _ (by rw[EI];omega),CX _ _ _ _ _ _ zO,Iw _ _ _ _ _ _ zO,if_pos (by simp[k9]),if_pos (by simp[k9])]
  have:=G5 hw zO k9
  exact K5 hCC z _ (hz 1 zO) (m+1) (vs++[c]) (c+1) (en++[x]) (XE++[x]) t (by rw[Int.natCast_add];exact this) (hr.new hc x) (by rw[hc,z4,zd];omega)
  rw[if_neg k9,if_neg k9]
  have hL:∀t,Cj n C (FI (decide (e.kind=9)) vs c 0 e.kids) en t=Cj n C' e.kids XE t:=fun t=>by
   rw[show decide (e.kind=9)=false from A6 k9,Lk]
   have hl:∀x∈e.kids,∀t,BN n C (At vs c x) en t=BN n C' x XE t:=fun x hx t=>by
    obtain⟨j,hj,rfl⟩:=List.mem_iff_getElem.1 hx
    have:=K5 hCC z _ (hz j hj) m vs c en XE t (C9 hw hj zO) hr hc
    rwa [G3 hj]at this
   clear hk hK hz w3 w4 w5 w6 w7 w8 hw h
   generalize e.kids=l at hl
   induction l generalizing t with
   |nil=>rw[zh,Cj,Cj]
   |cons a l ih =>
    rw[zf,Cj,Cj,hl a (z0 ..)]
    congr 1;funext x u
    rw[ih u fun x hx=>hl x (z3 _ hx)]
  rw[hL]
  congr 1;funext xs u
  by_cases k10:e.kind=10
  have h6:=w6<|.inl k10
  rw[if_pos k10,if_pos k10,hCC.1 _ _ _ _ (by omega)]
  rw[if_neg k10,if_neg k10]
  by_cases k11:e.kind=11
  have h6:=w6<|.inr k11
  rw[if_pos k11,if_pos k11,hCC.lop (by omega)]
  rw[if_neg k11,if_neg k11]
end
structure U1 (K:Nat)(n:Nat→Nat)(nz:Nat)(RD:(Nat→Sr)→Sr→Sr→Prop):Prop where
 congr:∀x y X Y,(∀k,k<K→x k=y k)→RD x X Y→RD y X Y
 zero:∀x X Y,RD x X Y→∀k,k<K→((x k).getD 0 0=0↔X.getD 0 0=0)
 cst:∀c,IJ c=true→RD (fun k=>cst (n k) c) (Go.Proofs.YtlbefjfhfodnlaaGreatDoor.cst nz c) (Go.Proofs.YtlbefjfhfodnlaaGreatDoor.cst nz 0)
 add:∀x X X' y Y Y',RD x X X'→RD y Y Y'→RD (fun k=>Do (x k) (y k)) (Do X Y) (Do X' Y')
 red:∀x X X' y Y Y',RD x X X'→RD y Y Y'→RD (fun k=>EV (x k) (y k)) (EV X Y) (EV X' Y')
 pro:∀x X X' y Y Y',RD x X X'→RD y Y Y'→RD (fun k=>Dc (x k) (y k)) (Dc X Y) (Do (Dc X' Y) (Dc X Y'))
 scl:∀x X X',RD x X X'→RD (fun k=>EE (x k) 1000002) (EE X 1000002) (EE X' 1000002)
 quo:∀x X X' y Y Y',RD x X X'→RD y Y Y'→Y.getD 0 0≠0→RD (fun k=>BV (x k) (y k)) (BV X Y) (BV (EV X' (Dc (BV X Y) Y')) Y)
def Np (K:Nat)(RD:(Nat→Sr)→Sr→Sr→Prop)(m:Nat)(xs:Nat→List Sr)(XS YS:List Sr):Prop :=
 (∀k,k<K→(xs k).length=m)∧XS.length=m∧YS.length=m∧∀i,i<m→RD (fun k=>(xs k).getD i []) (XS.getD i []) (YS.getD i [])
section
variable {K:Nat} {n:Nat→Nat} {nz:Nat} {RD:(Nat→Sr)→Sr→Sr→Prop} {p q:List Fn}
theorem Np.snoc (hD:U1 K n nz RD){m:Nat}{x:Nat→Sr}{X Y:Sr}{xs:Nat→List Sr}{XS YS:List Sr}(h1:RD x X Y)(h:Np K RD m xs XS YS):Np K RD (m+1) (fun k=>xs k++[x k]) (XS++[X]) (YS++[Y]):=by refine⟨fun k hk=>by simp[h.1 k hk],by simp[h.2.1],by simp[h.2.2.1],fun i hi=>?_⟩;by_cases e:i=m;rw[J4 (by rw[h.2.1];exact e),J4 (by rw[h.2.2.1];exact e)];exact hD.congr _ _ _ _ (fun k hk=>by rw[J4 (by rw[h.1 k hk];exact e)]) h1;rw[FQ (by rw[h.2.1];omega),FQ (by rw[h.2.2.1];omega)];exact hD.congr _ _ _ _ (fun k hk=>by rw[FQ (by rw[h.1 k hk];omega)])<|h.2.2.2 i zO
end
def FP {α:Type}(f:Nat→Rs α)(y:α):Prop:=∃s t,s≤3000∧f s=.ok y t
theorem FP.shf {α:Type}{f:Nat→Rs α}{y:α}(h:FP f y)(hf:BD f):∃d,It f (.ok y 0) d:=by obtain⟨s,t,hs,he⟩:=h;exact (S9 hf hs he).2
theorem FP.bind {α β:Type}{f:Nat→Rs α}{g:α→Nat→Rs β}{y:β}(h:FP (fun s=>(f s).bind g) y)(hf:BD f):∃x,FP f x∧FP (g x) y:=by
 obtain⟨s,t,hs,he⟩:=h;cases hr:f s with
 |err c=>have he:(f s).bind g=_:=he;rw[hr]at he;cases he
 |ok x u =>
  have he:(f s).bind g=_:=he;rw[hr]at he;exact⟨x,⟨s,u,hs,hr⟩,u,t,(S9 hf hs hr).1,he⟩
theorem NU {α:Type} [Inhabited α] {K:Nat}{P:Nat→α→Prop}(h:∀k,k<K→∃x,P k x):∃x:Nat→α,∀k,k<K→P k (x k):=by
 classical exact⟨fun k=>if h':k<K then(h k h').choose else default,fun k hk=>by
  show P k (if h':k<K then(h k h').choose else default);rw[dif_pos hk];exact(h k hk).choose_spec⟩
section
variable {n:Nat} {C:Ca} {e:Ex} {en:List Sr} {y:Sr}
theorem FP.evE (h:FP (BN n C e en) y):FP (Hx n C e en) y:=by obtain⟨s,t,hs,he⟩:=h;rw[CT]at he;by_cases h3:3000≤s;rw[if_pos h3]at he;cases he;rw[if_neg h3]at he;exact⟨s+1,t,zO,he⟩
theorem KW (hC:∀e,BD (Go.Proofs.YtlbefjfhfodnlaaGreatDoor.BN n C e en)):∀(l:List Ex)(xs:List Sr),FP (Cj n C l en) xs→xs.length=l.length∧∀i,i<l.length→FP (Go.Proofs.YtlbefjfhfodnlaaGreatDoor.BN n C (l.getD i Ex.zero) en) (xs.getD i [])
 |[],xs,h=>by
  obtain⟨s,t,hs,he⟩:=h
  rw[Cj]at he
  cases he
  exact⟨rfl,fun i hi=>absurd hi (by simp)⟩
 |a::l,xs,h=>by
  have e1:Cj n C (a::l) en=fun s=>(Go.Proofs.YtlbefjfhfodnlaaGreatDoor.BN n C a en s).bind fun x t=>(Cj n C l en t).bind fun xs u=>.ok (x::xs) u:=funext fun s=>by rw[Cj]
  rw[e1]at h
  obtain⟨x,h1,h2⟩:=h.bind (hC a)
  obtain⟨zsq,h3,h4⟩:=FP.bind (f:=Cj n C l en) (g:=fun xs u=>.ok (x::xs) u) h2 (GV l fun e _=>hC e)
  obtain⟨s,t,_,he⟩:=h4
  cases he
  obtain⟨q1,q2⟩:=KW hC l zsq h3
  refine⟨by rw[z9,z9,q1],fun i hi=>?_⟩
  cases i with
  |zero=>exact h1
  |succ i=>exact q2 i (by simpa using hi)
theorem NV (hC:∀ e,BD (Go.Proofs.YtlbefjfhfodnlaaGreatDoor.BN n C e en)) (h:FP (Go.Proofs.YtlbefjfhfodnlaaGreatDoor.BN n C e en) y) (h1:e.kind≠1) (h2:e.kind≠2) (h8:e.kind≠8) (h9:e.kind≠9) :
    ∃ xs,(xs.length = e.kids.length∧∀ i,i < e.kids.length→FP (Go.Proofs.YtlbefjfhfodnlaaGreatDoor.BN n C (e.kids.getD i Ex.zero) en) (xs.getD i [])) ∧
      FP (fun t=>if e.kind = 10 then C.one e.num.toNat e.pick.toNat xs t
        else if e.kind = 11 then (FC (C.all e.num.toNat) e.count.toNat xs t).bind fun ys u=>.ok (ys.getD e.pick.toNat []) u
        else HO e.kind xs t) y:=by
  have hb:=h.evE;have e1 : Hx n C e en = fun t => (Cj n C e.kids en t).bind fun xs t => if e.kind = 10 then C.one e.num.toNat e.pick.toNat xs t
        else if e.kind = 11 then (FC (C.all e.num.toNat) e.count.toNat xs t).bind fun ys u=>.ok (ys.getD e.pick.toNat []) u
        else HO e.kind xs t:=funext fun t=>by
    unfold Hx;rw [if_neg h1,if_neg h2,if_neg h8,if_neg h9]
  rw [e1] at hb;obtain ⟨xs,q1,q2⟩:=hb.bind (GV _ fun e _=>hC e);exact ⟨xs,KW hC _ _ q1,q2⟩
theorem PJ {k:Int}{xs:List Sr}(h:FP (HO k xs) y):(k=3→y=Do (xs.getD 0 []) (xs.getD 1 []))∧(k=4→y=EV (xs.getD 0 []) (xs.getD 1 []))∧(k=5→y=Dc (xs.getD 0 []) (xs.getD 1 [])) ∧
  (k=7→y=EE (xs.getD 0 []) 1000002)∧(k=6→y=BV (xs.getD 0 []) (xs.getD 1 [])∧(xs.getD 1 []).getD 0 0≠0):=by
 obtain⟨s,t,_,h⟩:=h;unfold HO at h;refine⟨?_,?_,?_,?_,?_⟩ <;> intro hk <;> subst hk <;> simp only[Int.reduceEq,if_true,if_false,reduceIte]at h;cases h;rfl;cases h;rfl;cases h;rfl;cases h;rfl;by_cases h0:(xs.getD 1 []).getD 0 0=0;rw[if_pos h0]at h;cases h;rw[if_neg h0]at h;cases h;exact⟨rfl,h0⟩
theorem KX:∀(l:List Ex)(ys:List Sr),ys.length=l.length→(∀i,i<l.length→GY n C (l.getD i Ex.zero) en (ys.getD i []))→Ks n C l en ys
 |[],ys,h,_=>by
  have:ys=[]:=List.eq_nil_of_length_eq_zero h
  subst this;exact Ll
 |a::l,ys,h,hh=>by
  cases ys with
  |nil=>simp at h
  |cons y ys=>exact Iy (hh 0 (by simp)) (KX l ys (by simpa using h) fun i hi=>hh (i+1) (by simpa using hi))
end
theorem CN (p:List Fn)(vs ds:List Int)(c:Int)(e:Ex):Am p vs ds c e =
  if e.kind=1 then ZD else if e.kind=2 then vr (ds.getD e.num.toNat 0)
  else if e.kind=3∨e.kind=4 then JS e.kind (EW p vs ds c e.kids 0) (EW p vs ds c e.kids 1)
  else if e.kind=5 then JS 3 (JS 5 (EW p vs ds c e.kids 0) (At vs c (e.kids.getD 1 Ex.zero))) (JS 5 (At vs c (e.kids.getD 0 Ex.zero)) (EW p vs ds c e.kids 1))
  else if e.kind=6 then JS 6 (JS 4 (EW p vs ds c e.kids 0) (JS 5 (JS 6 (At vs c (e.kids.getD 0 Ex.zero)) (At vs c (e.kids.getD 1 Ex.zero))) (EW p vs ds c e.kids 1))) (At vs c (e.kids.getD 1 Ex.zero))
  else if e.kind=7 then .mk 7 0 0 0 [EW p vs ds c e.kids 0]
  else if e.kind=8 then .mk 8 0 0 0 [At vs c (e.kids.getD 0 Ex.zero),EW p vs ds c e.kids 1,EW p vs ds c e.kids 2]
  else if e.kind=9 then JS 9 (At vs c (e.kids.getD 0 Ex.zero)) (JS 9 (EW p vs ds (c+1) e.kids 0) (EW p (vs++[c]) (ds++[c+1]) (c+2) e.kids 1))
  else .mk e.kind (e.num+((p.length:Nat):Int)) (e.pick+(((p.getD e.num.toNat Fn.zero).outs.length:Nat):Int)) e.count (e.kids.map (At vs c)++OE p vs ds c e.kids):=by
 cases e;rw[Am];rfl
structure ZZ (K:Nat)(n:Nat→Nat)(nz:Nat)(RD:(Nat→Sr)→Sr→Sr→Prop)(p:List Fn)(F:Nat)(D:Ca):Prop where
 one:∀f j m xs XS YS x X,f<F→j<(p.getD f Fn.zero).outs.length→Np K RD m xs XS YS→((m:Nat):Int)=(p.getD f Fn.zero).params →
  (∀k,k<K→FP ((Co p (n k) F).one f j (xs k)) (x k))→FP ((Co p nz F).one f j XS) X→∃Y d,It (D.one (p.length+f) ((p.getD f Fn.zero).outs.length+j) (XS++YS)) (.ok Y 0) d∧RD x X Y
 all:∀f m xs XS YS x X,f<F→Np K RD m xs XS YS→((m:Nat):Int)=(p.getD f Fn.zero).params →
  (∀k,k<K→FP ((Co p (n k) F).all f (xs k)) (x k))→FP ((Co p nz F).all f XS) X→∃Y d,It (D.all (p.length+f) (XS++YS)) (.ok (X++Y) 0) d∧Np K RD (p.getD f Fn.zero).outs.length x X Y
section
variable {K F nz:Nat} {n:Nat→Nat} {RD:(Nat→Sr)→Sr→Sr→Prop} {p q:List Fn} {D:Ca}
theorem Np.congr (hD:U1 K n nz RD){m:Nat}{xs ys:Nat→List Sr}{XS YS:List Sr}(h:Np K RD m xs XS YS)(e:∀k,k<K→xs k=ys k):Np K RD m ys XS YS :=
 ⟨fun k hk=>by rw[← e k hk];exact h.1 k hk,h.2.1,h.2.2.1,fun i hi=>hD.congr _ _ _ _ (fun k hk=>by rw[e k hk]) (h.2.2.2 i hi)⟩
theorem UQ (hD:U1 K n nz RD)(hC:ZZ K n nz RD p F D){f:Nat}(hf:f<F)(ho:(((p.getD f Fn.zero).outs.length:Nat):Int)=(p.getD f Fn.zero).params):∀(c:Nat)(xs:Nat→List Sr)(XS YS:List Sr)(x:Nat→List Sr)(X:List Sr),
  Np K RD (p.getD f Fn.zero).outs.length xs XS YS→(∀k,k<K→FP (FC ((Co p (n k) F).all f) c (xs k)) (x k))→FP (FC ((Co p nz F).all f) c XS) X →
  ∃Y d,It (FC (D.all (p.length+f)) c (XS++YS)) (.ok (X++Y) 0) d∧Np K RD (p.getD f Fn.zero).outs.length x X Y
 |0,xs,XS,YS,x,X,h,hx,hX=>by
  obtain⟨s,t,_,he⟩:=hX
  cases he
  exact⟨YS,0,It.ret _,h.congr hD fun k hk=>by obtain⟨s,t,_,he⟩:=hx k hk;exact(Rs.ok.inj he).1⟩
 |c+1,xs,XS,YS,x,X,h,hx,hX=>by
  obtain⟨Z,h1,h2⟩:=FP.bind (f:=FC ((Co p nz F).all f) c XS) (g:=(Co p nz F).all f) hX (BD.lop ((Fi p nz F).2 f) c XS)
  obtain⟨z,hz⟩:=NU (P:=fun k z=>FP (FC ((Co p (n k) F).all f) c (xs k)) z∧FP ((Co p (n k) F).all f z) (x k)) fun k hk=>FP.bind (f:=FC ((Co p (n k) F).all f) c (xs k)) (g:=(Co p (n k) F).all f) (hx k hk) (BD.lop ((Fi p (n k) F).2 f) c (xs k))
  obtain⟨W,d,g1,g2⟩:=UQ hD hC hf ho c xs XS YS z Z h (fun k hk=>(hz k hk).1) h1
  obtain⟨Y,d2,g3,g4⟩:=hC.all f _ z Z W x X hf g2 ho (fun k hk=>(hz k hk).2) h2
  exact⟨Y,d+d2,g1.bind_ok (g:=D.all (p.length+f)) g3,g4⟩
theorem Y8 {k:Int}(w:k=1∨k=2∨k=3∨k=4∨k=5∨k=6∨k=7∨k=8∨k=9∨k=10∨k=11)(h1:¬k=1)(h2:¬k=2)(h7:¬k=7)(h8:¬k=8)(h9:¬k=9)(h10:¬(k=10∨k=11)):k=3∨k=4∨k=5∨k=6:=by omega
theorem Y9 {k:Int}(h:k=3∨k=4∨k=5∨k=6):k=3∨k=4∨k=5∨k=6∨k=9:=by omega
theorem aA {k:Int}(h:k=3∨k=4∨k=5∨k=6)(h3:¬k=3)(h4:¬k=4)(h5:¬k=5):k=6:=by omega
theorem Sg (hD:U1 K n nz RD)(hC:ZZ K n nz RD p F D)(hE:Y7 F D (Co p nz F))(hS:∀e en,BD (BN nz D e en)):∀(z:Nat)(e:Ex),e.size≤z→∀(m:Nat)(env:Nat→List Sr)(XE YE en:List Sr)(vs ds:List Int)(c:Int)(x:Nat→Sr)(X:Sr),
  wf p ((F:Nat):Int) e ((m:Nat):Int)=true→Np K RD m env XE YE→MC m vs en XE→MC m ds en YE→c=((en.length:Nat):Int) →
  (∀k,k<K→FP (BN (n k) (Co p (n k) F) e (env k)) (x k))→FP (BN nz (Co p nz F) e XE) X→∃Y,GY nz D (Am p vs ds c e) en Y∧RD x X Y:=by
 intro z
 induction z with
 |zero=>intro e h;have:=Be e;omega
 |succ z ih =>
  intro e h m env XE YE en vs ds c x X hw hr hv hd hc hx hX;obtain⟨w1,w2,w3,w4,w5,w6,w7,w8⟩:=C0 (BS hw);have hz:∀j,j<e.kids.length→(e.kids.getD j Ex.zero).size≤z:=fun j hj=>by
   have:=Be e;have:=Bu hj;omega
  have hsx:∀k e,BD (BN (n k) (Co p (n k) F) e (env k)):=fun k e=>Fj p (n k) F e (env k);have hsX:∀e,BD (BN nz (Co p nz F) e XE):=fun e=>Fj p nz F e XE;have hVal:∀j,j<e.kids.length→¬(e.kind=9∧j=1)→∀Z,FP (BN nz (Co p nz F) (e.kids.getD j Ex.zero) XE) Z→GY nz D (At vs c (e.kids.getD j Ex.zero)) en Z:=fun j hj hn Z hZ=>by
   have he:BN nz D (At vs c (e.kids.getD j Ex.zero)) en=BN nz (Co p nz F) (e.kids.getD j Ex.zero) XE:=funext fun s=>K5 hE z _ (hz j hj) m vs c en XE s (C9 hw hj hn) hv hc;unfold GY;rw[he];exact hZ.shf (hsX _)
  have hSlp:∀j,j<e.kids.length→¬(e.kind=9∧j=1)→∀y Z,(∀k,k<K→FP (BN (n k) (Co p (n k) F) (e.kids.getD j Ex.zero) (env k)) (y k))→FP (BN nz (Co p nz F) (e.kids.getD j Ex.zero) XE) Z →
    ∃Y,GY nz D (EW p vs ds c e.kids j) en Y∧RD y Z Y:=fun j hj hn y Z hy hZ=>by
   rw[De _ _ _ _ _ _ hj];exact ih _ (hz j hj) m env XE YE en vs ds c y Z (C9 hw hj hn) hr hv hd hc hy hZ
  by_cases k1:e.kind=1;rw[CN,if_pos k1];refine⟨_,X6,?_⟩;have hb:∀ {n C en y},FP (BN n C e en) y→y=cst n e.num:=fun {n C en y} h=>by
   obtain⟨s,t,_,he⟩:=h.evE;unfold Hx at he;rw[if_pos k1]at he;cases he;rfl
  rw[hb hX];exact hD.congr _ _ _ _ (fun k hk=>(hb<|hx k hk).symm)<|hD.cst _<|Dd.2<|w8 k1;by_cases k2:e.kind=2;rw[CN,if_neg k1,if_pos k2];have h2:=w2 k2;refine⟨_,X7,?_⟩;have hb:∀ {n C en y},FP (BN n C e en) y→y=en.getD e.num.toNat []:=fun {n C en y} h=>by
   obtain⟨s,t,_,he⟩:=h.evE;unfold Hx at he;rw[if_neg k1,if_pos k2]at he;cases he;rfl
  rw[hb hX,(hd.2.2 e.num.toNat zO).2];exact hD.congr _ _ _ _ (fun k hk=>(hb<|hx k hk).symm)<|hr.2.2.2 e.num.toNat zO;by_cases k8:e.kind=8;have h3:=w5 k8;rw[CN,if_neg k1,if_neg k2,if_neg zO,if_neg zO,if_neg zO,if_neg zO,if_pos k8];have hb:∀ {n C en},Hx n C e en=fun t=>(BN n C (e.kids.getD 0 Ex.zero) en t).bind fun x t=>if x.getD 0 0=0 then BN n C (e.kids.getD 1 Ex.zero) en t else BN n C (e.kids.getD 2 Ex.zero) en t:=fun {n C en}=>funext fun t=>by
   unfold Hx;rw[if_neg k1,if_neg k2,if_pos k8];simp only[CX _ _ _ _ _ _ (show 0<e.kids.length by omega),CX _ _ _ _ _ _ (show 1<e.kids.length by omega),CX _ _ _ _ _ _ (show 2<e.kids.length by omega)]
  have hX2:=hX.evE;rw[hb]at hX2;obtain⟨Z,g1,g2⟩:=hX2.bind (hsX _);obtain⟨y,hy⟩:=NU (P:=fun k y=>FP (BN (n k) (Co p (n k) F) (e.kids.getD 0 Ex.zero) (env k)) y∧FP (fun t=>if y.getD 0 0=0 then BN (n k) (Co p (n k) F) (e.kids.getD 1 Ex.zero) (env k) t else BN (n k) (Co p (n k) F) (e.kids.getD 2 Ex.zero) (env k) t) (x k)) fun k hk=>by
   have h9:=(hx k hk).evE;rw[hb]at h9;exact h9.bind<|hsx k _
  obtain⟨Y0,_,hr0⟩:=hSlp 0 zO zO y Z (fun k hk=>(hy k hk).1) g1;have hq:=hD.zero _ _ _ hr0;by_cases h0:Z.getD 0 0=0;simp only[if_pos h0]at g2;obtain⟨Y,r1,r2⟩:=hSlp 1 zO zO x X (fun k hk=>by have h9:=(hy k hk).2;simp only[if_pos ((hq k hk).2 h0)]at h9;exact h9) g2;exact⟨Y,Sd (hVal 0 zO zO Z g1) (fun _=>r1) (fun h9=>absurd h0 h9),r2⟩;simp only[if_neg h0]at g2;obtain⟨Y,r1,r2⟩:=hSlp 2 zO zO x X (fun k hk=>by have h9:=(hy k hk).2;simp only[if_neg fun h=>h0 ((hq k hk).1 h)]at h9;exact h9) g2;exact⟨Y,Sd (hVal 0 zO zO Z g1) (fun h9=>absurd h9 h0) (fun _=>r1),r2⟩;by_cases k9:e.kind=9;have h3:=w3 zO;rw[CN,if_neg k1,if_neg k2,if_neg zO,if_neg zO,if_neg zO,if_neg zO,if_neg k8,if_pos k9];have hb:∀ {n C en},Hx n C e en=fun t=>(BN n C (e.kids.getD 0 Ex.zero) en t).bind fun x t=>BN n C (e.kids.getD 1 Ex.zero) (en++[x]) t:=fun {n C en}=>funext fun t=>by
   unfold Hx;rw[if_neg k1,if_neg k2,if_neg k8,if_pos k9];simp only[CX _ _ _ _ _ _ (show 0<e.kids.length by omega),CX _ _ _ _ _ _ (show 1<e.kids.length by omega)]
  have hX2:=hX.evE;rw[hb]at hX2;obtain⟨Z,g1,g2⟩:=hX2.bind (hsX _);obtain⟨y,hy⟩:=NU (P:=fun k y=>FP (BN (n k) (Co p (n k) F) (e.kids.getD 0 Ex.zero) (env k)) y∧FP (BN (n k) (Co p (n k) F) (e.kids.getD 1 Ex.zero) (env k++[y])) (x k)) fun k hk=>by
   have h9:=(hx k hk).evE;rw[hb]at h9;exact h9.bind<|hsx k _
  rw[De _ _ _ _ _ _ zO,De _ _ _ _ _ _ (by omega)];obtain⟨Y0,s0,r0⟩:=ih _ (hz 0 zO) m env XE YE (en++[Z]) vs ds (c+1) y Z (C9 hw zO zO) hr (hv.more Z) (hd.more Z) (by rw[hc,z4,zd];omega) (fun k hk=>(hy k hk).1) g1;have hw1:=G5 hw zO k9;have e1:(en++[Z]).length=en.length+1:=by simp
  obtain⟨Y,s1,r1⟩:=ih _ (hz 1 zO) (m+1) (fun k=>env k++[y k]) (XE++[Z]) (YE++[Y0]) ((en++[Z])++[Y0]) (vs++[c]) (ds++[c+1]) (c+2) x X (by rw[Int.natCast_add];exact hw1) (hr.snoc hD r0)
   ((hv.new hc Z).more Y0) ((hd.more Z).new (by rw[e1];omega) Y0) (by rw[z4,e1,zd];omega) (fun k hk=>(hy k hk).2) g2
  exact⟨Y,PI (hVal 0 zO zO Z g1) (PI s0 s1),r1⟩;obtain⟨XS,⟨gl,gk⟩,go⟩:=NV hsX hX k1 k2 k8 k9;obtain⟨xs,hxs⟩:=NU (P:=fun k xs=>(xs.length=e.kids.length∧∀i,i<e.kids.length→FP (BN (n k) (Co p (n k) F) (e.kids.getD i Ex.zero) (env k)) (xs.getD i [])) ∧
   FP (fun t=>if e.kind=10 then(Co p (n k) F).one e.num.toNat e.pick.toNat xs t
    else if e.kind=11 then(FC ((Co p (n k) F).all e.num.toNat) e.count.toNat xs t).bind fun ys u=>.ok (ys.getD e.pick.toNat []) u
    else HO e.kind xs t) (x k)) fun k hk=>NV (hsx k) (hx k hk) k1 k2 k8 k9
  have hSl:∀j,j<e.kids.length→∃Y,GY nz D (EW p vs ds c e.kids j) en Y∧RD (fun k=>(xs k).getD j []) (XS.getD j []) Y:=fun j hj=>hSlp j hj zO _ _ (fun k hk=>(hxs k hk).1.2 j hj) (gk j hj);have hVl:∀j,j<e.kids.length→GY nz D (At vs c (e.kids.getD j Ex.zero)) en (XS.getD j []):=fun j hj=>hVal j hj zO _ (gk j hj);by_cases hcall:e.kind=10∨e.kind=11;rw[CN,if_neg k1,if_neg k2,if_neg zO,if_neg zO,if_neg zO,if_neg zO,if_neg k8,if_neg k9];have h6:=w6 hcall;obtain⟨Yf,hYf⟩:=NU (K:=e.kids.length) hSl;have hYl:(DK e.kids.length Yf).length=e.kids.length:=by simp[DK]
  have hYg:∀i,i<e.kids.length→(DK e.kids.length Yf).getD i []=Yf i:=fun i hi=>CM [] hi;have hRL:Np K RD e.kids.length xs XS (DK e.kids.length Yf):=⟨fun k hk=>(hxs k hk).1.1,gl,hYl,fun i hi=>by rw[hYg i hi];exact(hYf i hi).2⟩;have hrun:Ks nz D (e.kids.map (At vs c)++OE p vs ds c e.kids) en (XS++DK e.kids.length Yf):=by
   refine Sc (KX _ _ (by rw[zg];exact gl) fun i hi=>?_) (KX _ _ (by rw[I5,zg];exact hYl) fun i hi=>?_);rw[zg]at hi;rw[BU (d:=Ex.zero) hi];exact hVl i hi;rw[I5,zg]at hi;rw[I5,BU (d:=Ex.zero) hi,hYg i hi,← De p vs ds c _ _ hi];exact(hYf i hi).1
  have en1:(e.num+((p.length:Nat):Int)).toNat=p.length+e.num.toNat:=by omega
  have en2:(e.pick+(((p.getD e.num.toNat Fn.zero).outs.length:Nat):Int)).toNat=(p.getD e.num.toNat Fn.zero).outs.length+e.pick.toNat:=by omega
  rcases hcall with k10|k11;simp only[if_pos k10]at go;obtain⟨Y,d,s1,r1⟩:=hC.one e.num.toNat e.pick.toNat _ xs XS _ x X zO zO hRL h6.2.2.1 (fun k hk=>by have h9:=(hxs k hk).2;simp only[if_pos k10]at h9;exact h9) go;rw[k10];exact⟨Y,Se hrun (by rw[en1,en2];exact s1),r1⟩;have h7:=w7 k11;have hl:e.kids.length=(p.getD e.num.toNat Fn.zero).outs.length:=by omega
  simp only[if_neg (show ¬e.kind=10 by omega),if_pos k11]at go;obtain⟨ZS,o1,o2⟩:=FP.bind (f:=FC ((Co p nz F).all e.num.toNat) e.count.toNat XS) (g:=fun ys u=>.ok (ys.getD e.pick.toNat []) u) go (BD.lop ((Fi p nz F).2 _) _ _);obtain⟨zsq,hzs⟩:=NU (P:=fun k zsq=>FP (FC ((Co p (n k) F).all e.num.toNat) e.count.toNat (xs k)) zsq∧FP (fun u=>Rs.ok (zsq.getD e.pick.toNat []) u) (x k)) fun k hk=>by
   have h9:=(hxs k hk).2;simp only[if_neg (show ¬e.kind=10 by omega),if_pos k11]at h9;exact FP.bind (f:=FC ((Co p (n k) F).all e.num.toNat) e.count.toNat<|xs k) (g:=fun ys u=>.ok (ys.getD e.pick.toNat []) u) h9<|BD.lop ((Fi p (n k) F).2 _) _ _
  rw[hl]at hRL;obtain⟨Y,d,s1,r1⟩:=UQ hD hC zO h7.1 e.count.toNat xs XS _ zsq ZS hRL (fun k hk=>(hzs k hk).1) o1;obtain⟨s,t,_,he⟩:=o2;cases he;have hpk:e.pick.toNat<(p.getD e.num.toNat Fn.zero).outs.length:=by omega
  have e9:(ZS++Y).getD ((p.getD e.num.toNat Fn.zero).outs.length+e.pick.toNat) []=Y.getD e.pick.toNat []:=by
   rw[DR (by rw[r1.2.1];omega),r1.2.1];congr 1;omega
  rw[k11];refine⟨Y.getD e.pick.toNat [],?_,hD.congr _ _ _ _ (fun k hk=>by obtain⟨s,t,_,he⟩:=(hzs k hk).2;exact(Rs.ok.inj he).1) (r1.2.2.2 e.pick.toNat hpk)⟩;have hrl:=Sf (f:=e.num+((p.length:Nat):Int)) (j:=e.pick+(((p.getD e.num.toNat Fn.zero).outs.length:Nat):Int)) (c:=e.count) (n:=nz) (C:=D) (ys:=ZS++Y) hrun (by rw[en1];rw[← hl]at s1;exact s1);rw[en2,e9]at hrl;exact hrl;have ho:∀ {C:Ca} {xs:List Sr} {y},FP (fun t=>if e.kind=10 then C.one e.num.toNat e.pick.toNat xs t
    else if e.kind=11 then(FC (C.all e.num.toNat) e.count.toNat xs t).bind fun ys u=>.ok (ys.getD e.pick.toNat []) u
    else HO e.kind xs t) y→FP (HO e.kind xs) y:=fun {C xs y} h=>by
   simp only[if_neg (show ¬e.kind=10 by omega),if_neg (show ¬e.kind=11 by omega)]at h;exact h
  obtain⟨o3,o4,o5,o7,o6⟩:=PJ (ho go);have hox:∀k,k<K→_:=fun k hk=>PJ (ho (hxs k hk).2);by_cases k7:e.kind=7;rw[CN,if_neg k1,if_neg k2,if_neg zO,if_neg zO,if_neg zO,if_pos k7];have h1:=w4 k7;obtain⟨Y,s1,r1⟩:=hSl 0 zO;rw[o7 k7];exact⟨_,U0 s1,hD.congr _ _ _ _ (fun k hk=>((hox k hk).2.2.2.1 k7).symm) (hD.scl _ _ _ r1)⟩;have hkd:e.kind=3∨e.kind=4∨e.kind=5∨e.kind=6:=Y8 w1 k1 k2 k7 k8 k9 hcall;have h2:=w3<|Y9 hkd;obtain⟨Y0,s0,r0⟩:=hSl 0 zO;obtain⟨Y1,s1,r1⟩:=hSl 1 zO;have v0:=hVl 0 zO;have v1:=hVl 1 zO;by_cases k3:e.kind=3;rw[CN,if_neg k1,if_neg k2,if_pos (.inl k3),k3,o3 k3];exact⟨_,PF s0 s1,hD.congr _ _ _ _ (fun k hk=>((hox k hk).1 k3).symm) (hD.add _ _ _ _ _ _ r0 r1)⟩;by_cases k4:e.kind=4;rw[CN,if_neg k1,if_neg k2,if_pos (.inr k4),k4,o4 k4];exact⟨_,PG s0 s1,hD.congr _ _ _ _ (fun k hk=>((hox k hk).2.1 k4).symm) (hD.red _ _ _ _ _ _ r0 r1)⟩;by_cases k5:e.kind=5;rw[CN,if_neg k1,if_neg k2,if_neg zO,if_pos k5,o5 k5];exact⟨_,PF (N6 s0 v1) (N6 v0 s1),hD.congr _ _ _ _ (fun k hk=>((hox k hk).2.2.1 k5).symm) (hD.pro _ _ _ _ _ _ r0 r1)⟩;have k6:e.kind=6:=aA hkd k3 k4 k5;rw[CN,if_neg k1,if_neg k2,if_neg zO,if_neg zO,if_pos k6,(o6 k6).1];exact⟨_,PH (PG s0 (N6 (PH v0 v1 (o6 k6).2) s1)) v1 (o6 k6).2,hD.congr _ _ _ _ (fun k hk=>((hox k hk).2.2.2.2 k6).1.symm) (hD.quo _ _ _ _ _ _ r0 r1 (o6 k6).2)⟩
end
section
variable {K nz:Nat} {n:Nat→Nat} {RD:(Nat→Sr)→Sr→Sr→Prop} {p:List Fn} {nm:Nat→ByteArray}
theorem NW {k:Nat}(h:k<p.length):(B3 p nm).getD k Fn.zero=p.getD k Fn.zero:=FQ h
theorem Ga {k:Nat}(h:k<p.length):(B3 p nm).getD (p.length+k) Fn.zero=Dl p nm k:=by unfold B3;rw[DR zO,show p.length+k-p.length=k from by omega];exact CM _ h
theorem Gb:(B3 p nm).length=2*p.length:=by simp[B3];omega
theorem Sh {F G:Nat}(hF:F≤p.length)(hG:F≤G):Y7 F (Co (B3 p nm) nz G) (Co p nz F):=by have e:∀f,f<F→Co (B3 p nm) nz f=Co p nz f:=fun f hf=>Pz p _ nz f zO;refine⟨fun f j a t hf=>?_,fun f a t hf=>?_⟩;rw[He zO,He hf,e f hf,NW (by omega)];rw[Fl zO,Fl hf,e f hf,NW (by omega)]
theorem MC.vals {m:Nat}{P:Int}{XS YS:List Sr}(hP:((m:Nat):Int)=P)(h1:XS.length=m)(h2:YS.length=m):MC m (DK P.toNat fun i=>((i:Nat):Int)) (XS++YS) XS:=by subst hP;rw[Int.toNat_natCast];refine⟨by simp[DK],h1,fun i hi=>?_⟩;rw[CM _ hi,Int.toNat_natCast];exact⟨by rw[z4];omega,FQ zO⟩
theorem MC.slps {m:Nat}{P:Int}{XS YS:List Sr}(hP:((m:Nat):Int)=P)(h1:XS.length=m)(h2:YS.length=m):MC m (DK P.toNat fun i=>P+((i:Nat):Int)) (XS++YS) YS:=by subst hP;rw[Int.toNat_natCast];refine⟨by simp[DK],h2,fun i hi=>?_⟩;rw[CM _ hi];refine⟨by rw[z4];omega,?_⟩;rw[show(((m:Nat):Int)+((i:Nat):Int)).toNat=m+i from by omega,DR zO,h1];congr 1;omega
structure ZE (K:Nat)(n:Nat→Nat)(nz:Nat)(RD:(Nat→Sr)→Sr→Sr→Prop)(p:List Fn)(nm:Nat→ByteArray)(f:Nat):Prop where
 val:∀j m XS YS X,j<(p.getD f Fn.zero).outs.length→XS.length=m→YS.length=m→((m:Nat):Int)=(p.getD f Fn.zero).params→FP (BN nz (Co p nz f) ((p.getD f Fn.zero).outs.getD j Ex.zero) XS) X →
  GY nz (Co (B3 p nm) nz (p.length+f)) ((Dl p nm f).outs.getD j Ex.zero) (XS++YS) X
 slp:∀j m xs XS YS x X,j<(p.getD f Fn.zero).outs.length→Np K RD m xs XS YS→((m:Nat):Int)=(p.getD f Fn.zero).params →
  (∀k,k<K→FP (BN (n k) (Co p (n k) f) ((p.getD f Fn.zero).outs.getD j Ex.zero) (xs k)) (x k))→FP (BN nz (Co p nz f) ((p.getD f Fn.zero).outs.getD j Ex.zero) XS) X →
  ∃Y,GY nz (Co (B3 p nm) nz (p.length+f)) ((Dl p nm f).outs.getD ((p.getD f Fn.zero).outs.length+j) Ex.zero) (XS++YS) Y∧RD x X Y
theorem Si {f j:Nat}(h:j<(p.getD f Fn.zero).outs.length):(Dl p nm f).outs.getD j Ex.zero=At (DK (p.getD f Fn.zero).params.toNat fun i=>((i:Nat):Int)) (2*(p.getD f Fn.zero).params) ((p.getD f Fn.zero).outs.getD j Ex.zero):=by show(List.map _ _++List.map _ _).getD j Ex.zero=_;rw[FQ (by rw[zg];exact h),BU (d:=Ex.zero) h]
theorem Sj {f j:Nat}(h:j<(p.getD f Fn.zero).outs.length):(Dl p nm f).outs.getD ((p.getD f Fn.zero).outs.length+j) Ex.zero =
  Am p (DK (p.getD f Fn.zero).params.toNat fun i=>((i:Nat):Int)) (DK (p.getD f Fn.zero).params.toNat fun i=>(p.getD f Fn.zero).params+((i:Nat):Int)) (2*(p.getD f Fn.zero).params) ((p.getD f Fn.zero).outs.getD j Ex.zero):=by
 show(List.map _ _++List.map _ _).getD _ Ex.zero=_;rw[DR (by rw[zg];omega),zg,show(p.getD f Fn.zero).outs.length+j-(p.getD f Fn.zero).outs.length=j from by omega,BU (d:=Ex.zero) h]
theorem NX (f:Nat):(Dl p nm f).outs.length=(p.getD f Fn.zero).outs.length+(p.getD f Fn.zero).outs.length:=by simp[Dl]
theorem ZE.run {f m:Nat}(h:ZE K n nz RD p nm f){xs:Nat→List Sr}{XS YS:List Sr}{x:Nat→List Sr}{X:List Sr}(hD:U1 K n nz RD)(hr:Np K RD m xs XS YS)(hm:((m:Nat):Int)=(p.getD f Fn.zero).params)
  (hx:∀k,k<K→FP (Cj (n k) (Co p (n k) f) (p.getD f Fn.zero).outs (xs k)) (x k)) (hX:FP (Cj nz (Co p nz f) (p.getD f Fn.zero).outs XS) X) :
  ∃Y,Ks nz (Co (B3 p nm) nz (p.length+f)) (Dl p nm f).outs (XS++YS) (X++Y)∧Np K RD (p.getD f Fn.zero).outs.length x X Y:=by
 obtain⟨g1,g2⟩:=KW (fun e=>Fj p nz f e XS) _ _ hX;have hq:∀k,k<K→_:=fun k hk=>KW (fun e=>Fj p (n k) f e (xs k)) _ _ (hx k hk);obtain⟨Yf,hYf⟩:=NU (K:=(p.getD f Fn.zero).outs.length) fun j hj=>h.slp j m xs XS YS (fun k=>(x k).getD j []) (X.getD j []) hj hr hm (fun k hk=>(hq k hk).2 j hj) (g2 j hj);have hYl:(DK (p.getD f Fn.zero).outs.length Yf).length=(p.getD f Fn.zero).outs.length:=by simp[DK]
 refine⟨DK (p.getD f Fn.zero).outs.length Yf,KX _ _ (by rw[NX,z4,g1,hYl]) fun i hi=>?_,fun k hk=>(hq k hk).1,g1,hYl,fun i hi=>by rw[CM [] hi];exact(hYf i hi).2⟩;by_cases hj:i<(p.getD f Fn.zero).outs.length;rw[FQ (by omega)];exact h.val i m XS YS _ hj hr.2.1 hr.2.2.1 hm<|g2 i hj;rw[NX]at hi;obtain⟨j,rfl⟩:∃j,i=(p.getD f Fn.zero).outs.length+j:=⟨i-(p.getD f Fn.zero).outs.length,zO⟩;rw[DR zO,g1,show(p.getD f Fn.zero).outs.length+j-(p.getD f Fn.zero).outs.length=j from by omega,CM [] (by omega)];exact (hYf j zO).1
theorem X8 (hD:U1 K n nz RD){F:Nat}(hF:F≤p.length)(h:∀f,f<F→ZE K n nz RD p nm f):ZZ K n nz RD p F (Co (B3 p nm) nz (p.length+F)):=by
 have e1:∀f j n a,f<F→(Co p n F).one f j a=BN n (Co p n f) ((p.getD f Fn.zero).outs.getD j Ex.zero) a:=fun f j n a hf=>funext fun s=>He hf;have e2:∀f n a,f<F→(Co p n F).all f a=Cj n (Co p n f) (p.getD f Fn.zero).outs a:=fun f n a hf=>funext fun s=>Fl hf;have e3:∀f j a,f<F→(Co (B3 p nm) nz (p.length+F)).one (p.length+f) j a=BN nz (Co (B3 p nm) nz (p.length+f)) ((Dl p nm f).outs.getD j Ex.zero) a:=fun f j a hf=>funext fun s=>by rw[He zO,Ga (by omega)]
 have e4:∀f a,f<F→(Co (B3 p nm) nz (p.length+F)).all (p.length+f) a=Cj nz (Co (B3 p nm) nz (p.length+f)) (Dl p nm f).outs a:=fun f a hf=>funext fun s=>by rw[Fl zO,Ga (by omega)]
 refine⟨fun f j m xs XS YS x X hf hj hr hm hx hX=>?_,fun f m xs XS YS x X hf hr hm hx hX=>?_⟩;rw[e1 f j nz XS hf]at hX;obtain⟨Y,⟨d,s1⟩,r1⟩:=(h f hf).slp j m xs XS YS x X hj hr hm (fun k hk=>by have:=hx k hk;rwa [e1 f j (n k) _ hf]at this) hX;exact⟨Y,d,by rw[e3 f _ _ hf];exact s1,r1⟩;rw[e2 f nz XS hf]at hX;obtain⟨Y,⟨d,s1⟩,r1⟩:=(h f hf).run hD hr hm (fun k hk=>by have:=hx k hk;rwa [e2 f (n k) _ hf]at this) hX;exact⟨Y,d,by rw[e4 f _ hf];exact s1,r1⟩
theorem OF (hD:U1 K n nz RD)(hv:Ik p):∀N f,f<N→f<p.length→ZE K n nz RD p nm f
 |0,f,h,_=>by omega
 |N+1,f,h,hf=>by
  have hC:=X8 (nm:=nm) hD (Nat.le_of_lt hf) fun g hg=>OF hD hv N g zO zO
  have hE:=Sh (p:=p) (nm:=nm) (nz:=nz) (F:=f) (G:=p.length+f) zO zO
  refine⟨fun j m XS YS X hj h1 h2 hm hX=>?_,fun j m xs XS YS x X hj hr hm hx hX=>?_⟩
  rw[Si hj]
  have he:BN nz (Co (B3 p nm) nz (p.length+f)) (At (DK (p.getD f Fn.zero).params.toNat fun i=>((i:Nat):Int)) (2*(p.getD f Fn.zero).params) ((p.getD f Fn.zero).outs.getD j Ex.zero)) (XS++YS)=BN nz (Co p nz f) ((p.getD f Fn.zero).outs.getD j Ex.zero) XS:=funext fun s =>
   K5 hE _ _ (A7 _) m _ _ _ XS s (by rw[hm];exact hv.wf f hf j hj) (MC.vals hm h1 h2) (by rw[z4];omega)
  unfold GY
  rw[he];exact hX.shf (Fj p nz f _ XS)
  rw[Sj hj]
  exact Sg hD hC hE (fun e en=>Fj _ nz _ e en) _ _ (A7 _) m xs XS YS (XS++YS) _ _ _ x X (by rw[hm];exact hv.wf f hf j hj) hr (MC.vals hm hr.2.1 hr.2.2.1) (MC.slps hm hr.2.1 hr.2.2.1) (by rw[z4,hr.2.1,hr.2.2.1];omega) hx hX
end
end
def eV (n k:Nat):List Int:=Ce n [((k:Nat):Int)] 1
theorem PK (n j:Nat):(List.replicate n (0:Int)).getD j 0=0:=by rw[List.getD_eq_getElem?_getD,List.getElem?_replicate];split <;> rfl
theorem X9 {n k j:Nat}(hk:k<n):(eV n k).getD j 0=if k=j then 1 else 0:=by show((List.replicate n (0:Int)).set (((k:Nat):Int)).toNat (md ((List.replicate n (0:Int)).getD (((k:Nat):Int)).toNat 0+1))).getD j 0=_;rw[Int.toNat_natCast,RW,z5,PK,PK];by_cases e:k=j;subst e;rw[if_pos ⟨rfl,hk⟩,if_pos rfl];rfl;rw[if_neg zO,if_neg e]
def Lm (a b:List Int)(k:Nat):Int:=md (sm k fun j=>a.getD j 0*b.getD j 0)
theorem QF (a b:List Int)(k:Nat):md (Lm a b k+md (a.getD k 0*b.getD k 0))=Lm a b (k+1):=by unfold Lm;rw[E8];rfl
theorem Xa {p:List Fn}(hv:Ik p){n f:Nat}{a:List Sr}(hf:f<p.length)(ha:FD n a)(hl:((a.length:Nat):Int)=(p.getD f Fn.zero).params)(h0:Gp p n f a=0):∃x t,ev p n f a=.ok x t∧x.length=(p.getD f Fn.zero).outs.length∧FD n x:=by rcases GW hv hf ha hl with⟨x,s,h1,h2,h3⟩|h1|h1;exact⟨x,s,h1,h2,h3⟩;rw[DV h1]at h0;omega;rw[DV h1]at h0;omega
structure aB (p:List Fn)(f:Nat)(a:List Int):Prop where
 v:Ik p
 lt:f<p.length
 l:((a.length:Nat):Int)=(p.getD f Fn.zero).params
 n:Bj a=true
 z:DA p f a=0
section
structure D1 (x:Nat→Sr)(X Y:Sr):Prop where
 sx:DJ 2 (x 0)
 sX:DJ 1 X
 sY:DJ 1 Y
 v:X.getD 0 0=(x 0).getD 0 0
 d:Y.getD 0 0=(x 0).getD 1 0
theorem D1.all:U1 1 (fun _=>2) 1 D1 where
 congr:=fun x y X Y h hx=>⟨by rw[← h 0 (by omega)];exact hx.sx,hx.sX,hx.sY,by rw[← h 0 (by omega)];exact hx.v,by rw[← h 0 (by omega)];exact hx.d⟩
 zero:=fun x X Y h k hk=>by
  have:k=0:=by omega
  subst this;rw[h.v]
 cst:=fun c hc=>⟨Dp hc,Dp hc,Dp UE,rfl,rfl⟩
 add:=fun x X X' y Y Y' hx hy=>⟨DS hx.sx,DS hx.sX,DS hx.sY,by
   rw[EY (by rw[hx.sX.1];decide),EY (by rw[hx.sx.1];decide),hx.v,hy.v],by
   rw[EY (by rw[hx.sY.1];decide),EY (by rw[hx.sx.1];decide),hx.d,hy.d]⟩
 red:=fun x X X' y Y Y' hx hy=>⟨DT hx.sx,DT hx.sX,DT hx.sY,by
   rw[FO (by rw[hx.sX.1];decide),FO (by rw[hx.sx.1];decide),hx.v,hy.v],by
   rw[FO (by rw[hx.sY.1];decide),FO (by rw[hx.sx.1];decide),hx.d,hy.d]⟩
 pro:=fun x X X' y Y Y' hx hy=>⟨Dw hx.sx,Dw hx.sX,DS (Dw hx.sY),by
   rw[IR (by rw[hx.sX.1];decide),IR (by rw[hx.sx.1];decide),hx.v,hy.v],by
   rw[EY (by rw[(Dw hx.sY).1];decide),IR (by rw[hx.sY.1];decide),IR (by rw[hx.sX.1];decide),NR (by rw[hx.sx.1];decide),hx.v,hy.v,hx.d,hy.d,Jp,MS,Jp]
   congr 1;omega⟩
 scl:=fun x X X' hx=>⟨FE hx.sx,FE hx.sX,FE hx.sY,by
   rw[G8 (by rw[hx.sX.1];decide),G8 (by rw[hx.sx.1];decide),hx.v],by
   rw[G8 (by rw[hx.sY.1];decide),G8 (by rw[hx.sx.1];decide),hx.d]⟩
 quo:=fun x X X' y Y Y' hx hy h0=>by
  have hq:(BV X Y).getD 0 0=(BV (x 0) (y 0)).getD 0 0:=by rw[Km (by rw[hx.sX.1];decide),Km (by rw[hx.sx.1];decide),hx.v,hy.v]
  refine⟨DU hx.sx,DU hx.sX,DU (DT hx.sY),hq,?_⟩
  rw[Km (by rw[(DT hx.sY).1];decide),FO (by rw[hx.sY.1];decide),IR (by rw[(DU hx.sX).1];decide),NS (by rw[hx.sx.1];decide),hq,hx.d,hy.d,hy.v,Int.zero_add,Ij]
section
variable {p:List Fn} {nm:Nat→ByteArray} {f:Nat} {a d:List Int}
theorem Xb {k:Nat}(h:k<a.length):((Dk a d 2).getD k []).getD 0 0=a.getD k 0∧((Dk a d 2).getD k []).getD 1 0=d.getD k 0:=by rw[Em h];exact⟨rfl,rfl⟩
theorem PL {k:Nat}(h:k<a.length):(BW a).getD k []=[a.getD k 0]:=by unfold BW;rw[BU (d:=0) h]
theorem Sk:BW (a++d)=BW a++BW d:=by unfold BW;rw[List.map_append]
theorem PM {x:Int}(h:IJ x=true):DJ 1 [x]:=⟨rfl,by unfold Bj;simpa using h⟩
theorem Xc (ha:Bj a=true)(hd:Bj d=true)(hl:d.length=a.length):Np 1 D1 a.length (fun _=>Dk a d 2) (BW a) (BW d):=by refine⟨fun _ _=>BY a d 2,by simp[BW],by simp[BW,hl],fun i hi=>?_⟩;rw[PL hi,PL (by omega)];have h2:=Xb (a:=a) (d:=d) hi;exact⟨Fv ha hd i (by rw[BY];exact hi),PM (Dd.2 (Cd ha i)),PM (Dd.2 (Cd hd i)),h2.1.symm,h2.2.symm⟩
theorem Sl (hv:Ik p)(hf:f<p.length){m n:Nat}{XS YS:List Sr}(h1:XS.length=m)(h2:YS.length=m)(hm:((m:Nat):Int)=(p.getD f Fn.zero).params)(s:Nat) :
  ∃l,Cj n (Co (B3 p nm) n (p.length+f)) (Dl p nm f).outs (XS++YS) s=(Cj n (Co p n f) (p.getD f Fn.zero).outs XS s).bind fun X t=>(Cj n (Co (B3 p nm) n (p.length+f)) l (XS++YS) t).bind fun Y u=>.ok (X++Y) u:=by
 refine⟨(p.getD f Fn.zero).outs.map (Am p (DK (p.getD f Fn.zero).params.toNat fun i=>((i:Nat):Int)) (DK (p.getD f Fn.zero).params.toNat fun i=>(p.getD f Fn.zero).params+((i:Nat):Int)) (2*(p.getD f Fn.zero).params)),?_⟩;refine (N4 _ _ s).trans ?_;congr 1;have hE:=Sh (p:=p) (nm:=nm) (nz:=n) (F:=f) (G:=p.length+f) zO zO;have hl:∀x∈(p.getD f Fn.zero).outs,∀t,BN n (Co (B3 p nm) n (p.length+f)) (At (DK (p.getD f Fn.zero).params.toNat fun i=>((i:Nat):Int)) (2*(p.getD f Fn.zero).params) x) (XS++YS) t=BN n (Co p n f) x XS t:=fun x hx t=>by
  obtain⟨j,hj,rfl⟩:=List.mem_iff_getElem.1 hx;have hw:=hv.wf f hf j hj;rw[G3 hj,← hm]at hw;exact K5 hE _ _ (A7 _) m _ _ _ XS t hw (MC.vals hm h1 h2) (by rw[z4];omega)
 generalize (p.getD f Fn.zero).outs=l at hl
 induction l generalizing s with
 |nil=>rw[zh,Cj,Cj]
 |cons a l ih =>
  rw[zf,Cj,Cj,hl a (z0 ..)];congr 1;funext x u;rw[ih u fun x hx=>hl x (z3 _ hx)]
theorem PN (hv:Ik p)(hf:f<p.length)(hla:((a.length:Nat):Int)=(p.getD f Fn.zero).params)(hld:d.length=a.length)(ha:Bj a=true)(hd:Bj d=true) :
  (DA p f a≠0→DA (B3 p nm) (p.length+f) (a++d)=DA p f a) ∧
  (DA p f a=0→DA (B3 p nm) (p.length+f) (a++d)=7∨(DA (B3 p nm) (p.length+f) (a++d)=0 ∧
   NO (B3 p nm) (p.length+f) (a++d)=(Tu p f a d).map (fun s=>s.getD 0 0)++(Tu p f a d).map (fun s=>s.getD 1 0))):=by
 have eq:ev (B3 p nm) 1 (p.length+f) (BW (a++d))=Cj 1 (Co (B3 p nm) 1 (p.length+f)) (Dl p nm f).outs (BW a++BW d) 0:=by
  unfold ev;rw[Ga hf,Sk]
 have hR:=Xc ha hd hld;have hlx:(((BW a).length:Nat):Int)=(p.getD f Fn.zero).params:=by unfold BW;rw[zg];exact hla
 refine⟨fun h=>?_,fun h=>?_⟩;obtain⟨l,hl⟩:=Sl (nm:=nm) (n:=1) hv hf (m:=a.length) (XS:=BW a) (YS:=BW d) hR.2.1 hR.2.2.1 hla 0;rcases GW hv hf (G7 ha) hlx with⟨x,s,h1,h2,h3⟩|h1|h1;exact absurd (Ki h1) h;unfold DA;rw[DV h1];refine DV ?_;rw[eq,hl];have h1':Cj 1 (Co p 1 f) (p.getD f Fn.zero).outs (BW a) 0=.err 6:=h1;rw[h1'];rfl;unfold DA;rw[DV h1];refine DV ?_;rw[eq,hl];have h1':Cj 1 (Co p 1 f) (p.getD f Fn.zero).outs (BW a) 0=.err 7:=h1;rw[h1'];rfl;rcases GW hv hf (G7 ha) hlx with⟨X,s,h1,h2,h3⟩|h1|h1;have hc:UP p f a d=0:=by rw[TZ];exact h
 rcases GW hv (n:=2) (a:=Dk a d 2) hf (Fv ha hd) (by rw[BY];exact hla)with⟨x,t,g1,g2,g3⟩|g1|g1;obtain⟨Y,⟨dd,s1⟩,r1⟩:=(OF (nm:=nm) D1.all hv (f+1) f zO hf).run D1.all hR hla (x:=fun _=>x) (X:=X) (fun k _=>⟨0,t,zO,g1⟩) ⟨0,s,zO,h1⟩;have e0:=s1 0 zO;have hx:Tu p f a d=x:=I1 g1;by_cases h7:0+dd≤3000;rw[if_pos h7]at e0;refine .inr ⟨Ki<|eq.trans e0,?_⟩;unfold NO;rw[I1 (eq.trans e0),List.map_append,hx];have l1:=r1.1 0 zO;congr 1;refine Y2 (by rw[zg,zg,r1.2.1,l1]) fun k hk=>?_;rw[zg,r1.2.1]at hk;rw[BU (d:=[]) (by rw[r1.2.1];exact hk),BU (d:=[]) (by rw[l1];exact hk)];exact (r1.2.2.2 k hk).v;refine Y2 (by rw[zg,zg,r1.2.2.1,l1]) fun k hk=>?_;rw[zg,r1.2.2.1]at hk;rw[BU (d:=[]) (by rw[r1.2.2.1];exact hk),BU (d:=[]) (by rw[l1];exact hk)];exact (r1.2.2.2 k hk).d;rw[if_neg h7]at e0;exact .inl<|DV<|eq.trans e0;have:UP p f a d=6:=DV g1;omega;have:UP p f a d=7:=DV g1;omega;have:DA p f a=6:=DV h1;omega;have:DA p f a=7:=DV h1;omega
end
end
section
section ops
variable {P:Program} {ops:Array Oper} {w0:World} {Q:Act→World→Prop} {os:List Oper} {ks:List Nat} {N:Nat} {ρ:Nat→Value} {w:World}
 {d:Nat} {ty:TypeId} {pos:String} {aft:Array Edge} {g:Option (Nat×Bool)} {t e:TypeId} {α:Type} {E:Ci α} {s:Nat}
theorem Sm {b:Nat}{z a0 a1 a2 a3 a4 b0 b1 b2 b3 b4:Value}(ht:P.underlying t=some (.slice e))(hi:TI P e 5 z b)(hz:z.cells.size=5) :
  (Instr.buildSlice t 2 #[(0,.agg #[a0,a1,a2,a3,a4]),(1,.agg #[b0,b1,b2,b3,b4])]).run P w=.ok (.slice (some ⟨w.heap.size,0,none⟩) 2 2) (w.alloc (.cells #[a0,a1,a2,a3,a4,b0,b1,b2,b3,b4] e)):=by
 obtain⟨i,h1,h2,h3,h4⟩:=hi.get;simp[Instr.buildSlice,Sem.run_bind,run_underlying ht,Result.andThen_ok,sizeOf,typeInfo,zeroValue,h1,h2,h3,Instr.fill,hz,Sem.run_pure,newRow,Value.cells,GP,List.range_succ]
theorem Sn {x0 x1:Operand}{va vb z:Value}{xa xb:Ex}{b:Nat}(ht:P.underlying t=some (.slice e))(hi:TI P e 5 z b)(hz:z.cells.size=5)(h0:Bz N ρ x0=.agg (C8 xa va).toArray)(h1:Bz N ρ x1=.agg (C8 xb vb).toArray)
  (hu:Up ops N ρ ⟨some d,.buildSlice t 2 #[(0,x0),(1,x1)],ty,pos,aft,g⟩)
  (h:∀v w1,AB w w1→w1.heap.size=w.heap.size+1→CH v 2→(∀dd Fa Fb,C6 e dd w.heap (C8 xa va) xa Fa→C6 e dd w.heap (C8 xb vb) xb Fb→Fa.Nodup→Fb.Nodup→(∀c∈Fa,c∉Fb) →
   ∃F',BP 5 (C6 e dd) e w1.heap v [xa,xb] F'∧F'.Nodup∧∀c∈F',c∈Fa∨c∈Fb∨c=w.heap.size)→LW P ops w0 Q os ks (mk N (CP ρ d v)) w1) :
  LW P ops w0 Q (⟨some d,.buildSlice t 2 #[(0,x0),(1,x1)],ty,pos,aft,g⟩::os) (3::ks) (mk N ρ) w:=by
 have hr:=Sm (P:=P) (w:=w) (a0:=.int .i64 xa.kind) (a1:=.int .i64 xa.num) (a2:=.int .i64 xa.pick) (a3:=.int .i64 xa.count) (a4:=va) (b0:=.int .i64 xb.kind) (b1:=.int .i64 xb.num) (b2:=.int .i64 xb.pick) (b3:=.int .i64 xb.count) (b4:=vb) ht hi hz;have hrun:(execOp (Bz N ρ) ⟨some d,.buildSlice t 2 #[(0,x0),(1,x1)],ty,pos,aft,g⟩).run P w=.ok (.value (.slice (some ⟨w.heap.size,0,none⟩) 2 2)) (w.alloc (.cells (C8 xa va++C8 xb vb).toArray e)):=by
  simp only[execOp,zc,zf,zh,Sem.run_bind,h0,h1];unfold C8;rw[hr];rfl
 refine Gt rfl hu _ _ hrun (BA _ _) (h _ _ (BA _ _) (by simp) ⟨_,_,rfl,fun h=>by cases h⟩ fun dd Fa Fb ha hb na nb hd=>?_);have hn:=Jo (e:=e) (w:=w) (Ag e dd) (css:=[C8 xa va,C8 xb vb]) (xs:=[xa,xb]) (F:=Fa++(Fb++[])) (cur:=(C8 xa va++C8 xb vb).toArray) (cap:=2) ⟨Fa,_,rfl,ha,Fb,[],rfl,hb,rfl⟩ (by simp) (by simp[maxLen]) (by simp[C8]) (by simp[C8]);rw[List.append_nil]at hn;have la:=(Ag e dd).lt ha;have lb:=(Ag e dd).lt hb;refine⟨_,hn,?_,fun c hc=>?_⟩;rw[List.nodup_cons];refine⟨fun hm=>?_,List.nodup_append.2 ⟨na,nb,fun a h9 c h8 he=>hd a h9 (he ▸ h8)⟩⟩;rcases zi.1 hm with h9|h9;have:=la _ h9;omega;have:=lb _ h9;omega;rcases ze.1 hc with rfl|hc;exact .inr<|.inr rfl;rcases zi.1 hc with h9|h9;exact .inl h9;exact .inr<|.inl h9
end ops
theorem U2 {e:TypeId}{w r w1 w':World}{g:Nat}{v va vb:Value}{xa xb:Ex}(h0:AB w r)
  (hq:∀dd Fa Fb,C6 e dd r.heap (C8 xa va) xa Fa→C6 e dd r.heap (C8 xb vb) xb Fb→Fa.Nodup→Fb.Nodup→(∀c∈Fa,c∉Fb)→∃F',BP 5 (C6 e dd) e w1.heap v [xa,xb] F'∧F'.Nodup∧∀c∈F',c∈Fa∨c∈Fb∨c=r.heap.size)
  (hC:AG [g] w1 w') (hg:w.heap.size≤g∧g<r.heap.size) :
  ∀dd Fa Fb,C6 e dd w.heap (C8 xa va) xa Fa→C6 e dd w.heap (C8 xb vb) xb Fb→Fa.Nodup→Fb.Nodup→(∀c∈Fa,c∉Fb)→∃F',BP 5 (C6 e dd) e w'.heap v [xa,xb] F'∧F'.Nodup∧∀c∈F',c∈Fa∨c∈Fb∨w.heap.size≤c:=by
 intro dd Fa Fb ha hb na nb hd;have la:=(Ag e dd).lt ha;have lb:=(Ag e dd).lt hb;obtain⟨F',q1,q2,q3⟩:=hq dd Fa Fb ((Ag e dd).stable ha fun b h=>h0.heap (la b h)) ((Ag e dd).stable hb fun b h=>h0.heap (lb b h)) na nb hd;have hlt:=(Ae<|Ag e dd).lt q1;have hs:=h0.size;refine⟨F',(Ae (Ag e dd)).stable q1 fun b h=>hC.block b (hlt b h) fun hm=>?_,q2,fun c hc=>?_⟩;have hb9:=A9 hm;rcases q3 b h with h9|h9|h9;have:=la b h9;omega;have:=lb b h9;omega;omega;rcases q3 c hc with h9|h9|h9;exact .inl h9;exact .inr<|.inl h9;exact .inr<|.inr zO
theorem Xd {e:TypeId}{dd B Ba Ua Bb Ub:Nat}{w w1:World}{v:Value}{ca cb:List Value}{xa xb:Ex}
  (hq:∀Fa Fb,C6 e dd w.heap ca xa Fa→C6 e dd w.heap cb xb Fb→Fa.Nodup→Fb.Nodup→(∀c∈Fa,c∉Fb)→∃F',BP 5 (C6 e dd) e w1.heap v [xa,xb] F'∧F'.Nodup∧∀c∈F',c∈Fa∨c∈Fb∨w.heap.size≤c)
  (ha:Cp (C6 e dd) Ba Ua w.heap ca xa) (hb:Cp (C6 e dd) Bb Ub w.heap cb xb) (hd:Ua≤Bb∨Ub≤Ba) (h1:B≤Ba) (h2:B≤Bb) (h3:B≤w.heap.size):Fr (BP 5 (C6 e dd) e) B w1.heap.size w1.heap v [xa,xb]:=by
 obtain⟨Fa,a1,a2,a3⟩:=ha;obtain⟨Fb,b1,b2,b3⟩:=hb;obtain⟨F',q1,q2,q3⟩:=hq Fa Fb a1 b1 a2 b2 fun c hc hm=>by have:=a3 c hc;have:=b3 c hm;omega
 refine⟨F',q1,q2,fun c hc=>⟨?_,(Ae (Ag e dd)).lt q1 c hc⟩⟩;rcases q3 c hc with h9|h9|h9;have:=a3 c h9;omega;have:=b3 c h9;omega;omega
theorem Bo.mono {α β:Type}{E:Array Obj→β→α→List Nat→Prop}{S S':Nat→Prop}{H:Array Obj}{v:β}{x:α}(h:Bo E S H v x)(k:∀b,S b→S' b):Bo E S' H v x:=by obtain⟨F,h1,h2,h3⟩:=h;exact⟨F,h1,h2,fun b hb=>k b (h3 b hb)⟩
end
structure cD where
 op:Int
 a:Int
 b:Int
 num:Int
structure cM where
 reg:Int
 z:Bool
structure Tp where
 code:List cD
 grd:List cM
 vals:List Int
def Iz (x:cD):List Value:=[.int .i64 x.op,.int .i64 x.a,.int .i64 x.b,.int .i64 x.num]
section
section ops
variable {P:Program} {ops:Array Oper} {w0:World} {Q:Act→World→Prop} {os:List Oper} {ks:List Nat} {N:Nat} {ρ:Nat→Value} {w:World}
 {d:Nat} {ty:TypeId} {pos:String} {aft:Array Edge} {g:Option (Nat×Bool)} {t e:TypeId} {z:Value} {b:Nat}
theorem OG {x y:Operand} {v a:Value} {xs:List Int} {r:Int} {B' U':Nat} (ht:P.underlying t = some (.slice e)) (hi:TI P e 1 z b) (hz:z.cells = #[z]) (hx:Bz N ρ x = E6 v) (hy:Bz N ρ y = a)
  (hv:Rd (B8 rI) w.heap v xs) (ha:Fr (BG rI e) B' U' w.heap a [r]) (hbytes:(xs.length + 1) * b≤140737488355328) (hmx:xs.length + 1≤maxLen)
  (hu:Up ops N ρ ⟨some d,.call ⟨.builtin .append,#[x,y],#[t,t]⟩,ty,pos,aft,g⟩)
  (h:∀ v1 w1,AB w w1→Fr (BG rI e) w.heap.size w1.heap.size w1.heap v1 (xs++[r])→LW P ops w0 Q os ks (mk N (CP ρ d v1)) w1) :
  LW P ops w0 Q (⟨some d,.call ⟨.builtin .append,#[x,y],#[t,t]⟩,ty,pos,aft,g⟩ :: os) (3 :: ks) (mk N ρ) w:=by
 obtain ⟨G,g1',g2',g3'⟩:=ha;obtain ⟨K,k1⟩:=hv;obtain ⟨i,h1,h2,h3,h4⟩:=hi.get;subst h4;rcases g1' with ⟨_,hc,_⟩ | ⟨asq,ga,capa,cura,Fa,helsa,hav,hga,qa1,qa2,qa3,qa4,rfl⟩;cases hc;obtain ⟨u,rfl,hru⟩:∃ u,asq = [u]∧rI w.heap u r []:=by
  match asq,helsa with
  | [u],h =>
   obtain ⟨F1,F2,rfl,q1,q2⟩:=h;have h1:=q1.2.1;subst h1;exact ⟨u,rfl,q1⟩
 have hav1:a = .slice (some ⟨ga,0,none⟩) 1 capa:=hav;clear hav;subst hav1;have hnews:∀ j q,[u][j]? = some q→w.cell? ((⟨ga,0,none⟩:Addr).add j) = some q:=by
  intro j q hj;rw [FH,BT];simp only [CB,hga];rw [← qa4,List.getElem?_take] at hj;split at hj;simpa using hj;cases hj
 have made:∀ (w1:World) (ous:List Value) (K0:List Nat) (rest:Nat),w1.heap = w.heap→w1.os = w.os→w1.tape = w.tape→w1.output = w.output→els rI w.heap ous xs K0→xs.length + 1 + rest≤maxLen →
   AB w (w1.alloc (.cells (ous.toArray++[u].toArray++Builtin.zeroCells z.cells rest) e))∧Fr (BG rI e) w.heap.size (w1.alloc (.cells (ous.toArray++[u].toArray++Builtin.zeroCells z.cells rest) e)).heap.size (w1.alloc (.cells (ous.toArray++[u].toArray++Builtin.zeroCells z.cells rest) e)).heap (.slice (some ⟨w.heap.size,0,none⟩) (xs.length + 1) (xs.length + 1 + rest)) (xs++[r]):=by
  intro w1 ous K0 rest hh ho htp hop hou hmax;have hE:AB w (w1.alloc (.cells (ous.toArray++[u].toArray++Builtin.zeroCells z.cells rest) e)):=by
   refine ⟨ho,htp,hop,?_,fun k hk=>?_⟩;show w.heap.size≤(w1.heap.push _).size;rw [hh]; simp;have:=Below.heap_alloc w1 (.cells (ous.toArray++[u].toArray++Builtin.zeroCells z.cells rest) e) k (by rw [hh]; exact hk);rw [this,hh]
  have hK0:K0 = []:=L8 hou;subst hK0;have hl:=hou.length;have hels2:els rI w.heap (ous++[u]) (xs++[r]) ([]++[]):=hou.append (show els rI w.heap [u] [r] [] from ⟨[],[],rfl,hru,rfl⟩);refine ⟨hE,[w.heap.size],.inr ⟨ous++[u],w.heap.size,xs.length + 1 + rest,(ous.toArray++[u].toArray++Builtin.zeroCells z.cells rest),[],?_,by simp,?_,by simp,hmax,?_,?_,rfl⟩,by simp,fun c hc=>?_⟩;exact els.stable B1 hels2 fun c hc=>by cases hc
  have:=heap_alloc_new w1 (.cells (ous.toArray++[u].toArray++Builtin.zeroCells z.cells rest) e);rw [hh] at this; exact this;rw [hz]; simp [Builtin.zeroCells]; omega;simp only [Array.toList_append];rw [show (xs++[r]).length = (ous++[u]).length from by simp [hl]];exact List.take_left;rw [List.mem_singleton] at hc; subst hc;refine ⟨A7 _,?_⟩;show w.heap.size < (w1.heap.push _).size;rw [hh]; simp
 have hone1:[u].length = [u].length * i.size:=by rw [h3,Nat.mul_one]
 rcases k1 with ⟨a0,cap0,rfl,rfl,rfl⟩ | ⟨ous,gv,off,cap,cur,e',fr,K',hels,rfl,hg,hw,_,rfl⟩;-- nothing so far
 cases a0 with
 | none =>
  have hrr:=run_append_nil (P:=P) w t ty e i z ht h1 h2 ⟨ga,0,none⟩ 1 capa [u] hone1 hnews (by decide) (by decide) (by simp at hbytes; omega);have hge:=grownCap_ge w 1 0 e;have hgm:=grownCap_le_maxLen w 1 0 e (by simpa using hmx);obtain ⟨q1,q2⟩:=made w.drew [] [] (grownCap w 1 0 e - 1) rfl rfl rfl rfl rfl (by simp; omega);refine Gt rfl hu _ _ (by simp only [execOp,resolve,invoke,builtin,zc,zf,zh,Sem.run_bind,Sem.run_pure,Result.andThen_ok,hx,hy,E6]; rw [hrr]; rfl) ?_<|h _ _ ?_ ?_;simpa using q1;simpa using q1;have ea:(([]:List Int).length + 1 + (grownCap w 1 0 e - 1)) = grownCap w 1 0 e:=by simp; omega
  rw [ea] at q2;simpa using q2
 | some a1 =>
  have hrr:=run_append_grow (P:=P) w t ty e i z ht h1 h2 a1 0 0 [] (by rw [h3]; rfl) (by intro j q hj; cases hj) ⟨ga,0,none⟩ 1 capa [u] hone1 hnews zO (by decide)<|growslice_fits zO (by simpa using hbytes);have hge:=grownCap_ge w (0 + 1) 0 e;have hgm:=grownCap_le_maxLen w (0 + 1) 0 e (by simpa using hmx);obtain ⟨q1,q2⟩:=made w.drew [] [] (grownCap w (0 + 1) 0 e - (0 + 1)) rfl rfl rfl rfl rfl (by show 0 + 1 + (grownCap w (0 + 1) 0 e - (0 + 1))≤maxLen; omega);refine Gt rfl hu _ _ (by simp only [execOp,resolve,invoke,builtin,zc,zf,zh,Sem.run_bind,Sem.run_pure,Result.andThen_ok,hx,hy,E6]; rw [hrr]; rfl) q1<|h _ _ q1 ?_;have ea:(([]:List Int).length + 1 + (grownCap w (0 + 1) 0 e - (0 + 1))) = grownCap w (0 + 1) 0 e:=by show 0 + 1 + (grownCap w (0 + 1) 0 e - (0 + 1)) = _; omega
  rw [ea] at q2;simpa using q2
 have holds:∀ j q,ous[j]? = some q→w.cell? ((⟨gv,off,none⟩:Addr).add j) = some q:=by
  intro j q hj;rw [FH,BT];simp only [CB,hg];rw [← hw,List.getElem?_take] at hj;split at hj;rw [List.getElem?_drop] at hj; simpa using hj;cases hj
 have hrr:=run_append_grow (P:=P) w t ty e i z ht h1 h2 ⟨gv,off,none⟩ xs.length xs.length ous (by rw [h3,hels.length]; omega) holds ⟨ga,0,none⟩ 1 capa [u] hone1 hnews zO (by simp only [maxLen] at hmx; omega)<|growslice_fits zO hbytes;have hge:=grownCap_ge w (xs.length + 1) xs.length e;have hgm:=grownCap_le_maxLen w (xs.length + 1) xs.length e hmx;obtain ⟨q1,q2⟩:=made w.drew ous K' (grownCap w (xs.length + 1) xs.length e - (xs.length + 1)) rfl rfl rfl rfl hels zO;refine Gt rfl hu _ _ (by simp only [execOp,resolve,invoke,builtin,zc,zf,zh,Sem.run_bind,Sem.run_pure,Result.andThen_ok,hx,hy,E6]; rw [hrr]; rfl) q1<|h _ _ q1 ?_;have ea:(xs.length + 1 + (grownCap w (xs.length + 1) xs.length e - (xs.length + 1))) = grownCap w (xs.length + 1) xs.length e:=by omega
 rw [ea] at q2;exact q2
theorem FJ {x0 x1:Operand}{va vb z:Value}{xa xb:Ex}{b dd B Ba Ua Bb Ub:Nat}(ht:P.underlying t=some (.slice e))(hi:TI P e 5 z b)(hz:z.cells.size=5)(h0:Bz N ρ x0=.agg (C8 xa va).toArray)(h1:Bz N ρ x1=.agg (C8 xb vb).toArray)
  (ha:Cp (C6 e dd) Ba Ua w.heap (C8 xa va) xa) (hb:Cp (C6 e dd) Bb Ub w.heap (C8 xb vb) xb) (hd:Ua≤Bb∨Ub≤Ba) (hB1:B≤Ba) (hB2:B≤Bb) (hB3:B≤w.heap.size)
  (hu:Up ops N ρ ⟨some d,.buildSlice t 2 #[(0,x0),(1,x1)],ty,pos,aft,g⟩)
  (h:∀v w1,AB w w1→w1.heap.size=w.heap.size+1→Fr (BP 5 (C6 e dd) e) B w1.heap.size w1.heap v [xa,xb]→LW P ops w0 Q os ks (mk N (CP ρ d v)) w1) :
  LW P ops w0 Q (⟨some d,.buildSlice t 2 #[(0,x0),(1,x1)],ty,pos,aft,g⟩::os) (3::ks) (mk N ρ) w :=
 Sn ht hi hz h0 h1 hu fun v w1 hE hs hv hq=>h v w1 hE hs (Xd (fun Fa Fb a1 a2 a3 a4 a5=>by
  obtain⟨F',q1,q2,q3⟩:=hq dd Fa Fb a1 a2 a3 a4 a5
  exact⟨F',q1,q2,fun c hc=>(q3 c hc).imp id (fun h=>h.imp id fun h=>Nat.le_of_eq h.symm)⟩) ha hb hd hB1 hB2 hB3)
theorem So {b:Nat}{z a0 a1 a2 a3 a4 b0 b1 b2 b3 b4 c0 c1 c2 c3 c4:Value}(ht:P.underlying t=some (.slice e))(hi:TI P e 5 z b)(hz:z.cells.size=5) :
  (Instr.buildSlice t 3 #[(0,.agg #[a0,a1,a2,a3,a4]),(1,.agg #[b0,b1,b2,b3,b4]),(2,.agg #[c0,c1,c2,c3,c4])]).run P w=.ok (.slice (some ⟨w.heap.size,0,none⟩) 3 3) (w.alloc (.cells #[a0,a1,a2,a3,a4,b0,b1,b2,b3,b4,c0,c1,c2,c3,c4] e)):=by
 obtain⟨i,h1,h2,h3,h4⟩:=hi.get;simp[Instr.buildSlice,Sem.run_bind,run_underlying ht,Result.andThen_ok,sizeOf,typeInfo,zeroValue,h1,h2,h3,Instr.fill,hz,Sem.run_pure,newRow,Value.cells,GP,List.range_succ]
theorem NY {x0 x1 x2:Operand}{va vb vc z:Value}{xa xb xc:Ex}{b dd B Ba Ua Bb Ub Bc Uc:Nat}(ht:P.underlying t=some (.slice e))(hi:TI P e 5 z b)(hz:z.cells.size=5)(h0:Bz N ρ x0=.agg (C8 xa va).toArray)(h1:Bz N ρ x1=.agg (C8 xb vb).toArray)(h2:Bz N ρ x2=.agg (C8 xc vc).toArray)
  (ha:Cp (C6 e dd) Ba Ua w.heap (C8 xa va) xa) (hb:Cp (C6 e dd) Bb Ub w.heap (C8 xb vb) xb) (hc:Cp (C6 e dd) Bc Uc w.heap (C8 xc vc) xc) (hd:Ua≤Bb∧Ub≤Bc) (hB1:B≤Ba) (hB2:B≤Bb) (hB3:B≤Bc) (hB4:B≤w.heap.size) (hU:Ba≤Ua∧Bb≤Ub)
  (hu:Up ops N ρ ⟨some d,.buildSlice t 3 #[(0,x0),(1,x1),(2,x2)],ty,pos,aft,g⟩)
  (h:∀v w1,AB w w1→w1.heap.size=w.heap.size+1→Fr (BP 5 (C6 e dd) e) B w1.heap.size w1.heap v [xa,xb,xc]→LW P ops w0 Q os ks (mk N (CP ρ d v)) w1) :
  LW P ops w0 Q (⟨some d,.buildSlice t 3 #[(0,x0),(1,x1),(2,x2)],ty,pos,aft,g⟩::os) (3::ks) (mk N ρ) w:=by
 have hr:=So (P:=P) (w:=w) (a0:=.int .i64 xa.kind) (a1:=.int .i64 xa.num) (a2:=.int .i64 xa.pick) (a3:=.int .i64 xa.count) (a4:=va) (b0:=.int .i64 xb.kind) (b1:=.int .i64 xb.num) (b2:=.int .i64 xb.pick) (b3:=.int .i64 xb.count) (b4:=vb) (c0:=.int .i64 xc.kind) (c1:=.int .i64 xc.num) (c2:=.int .i64 xc.pick) (c3:=.int .i64 xc.count) (c4:=vc) ht hi hz;have hrun:(execOp (Bz N ρ) ⟨some d,.buildSlice t 3 #[(0,x0),(1,x1),(2,x2)],ty,pos,aft,g⟩).run P w=.ok (.value (.slice (some ⟨w.heap.size,0,none⟩) 3 3)) (w.alloc (.cells (C8 xa va++(C8 xb vb++C8 xc vc)).toArray e)):=by
  simp only[execOp,zc,zf,zh,Sem.run_bind,h0,h1,h2];unfold C8;rw[hr];rfl
 obtain⟨Fa,a1,a2,a3⟩:=ha;obtain⟨Fb,b1,b2,b3⟩:=hb;obtain⟨Fc,c1,c2,c3⟩:=hc;have hn:=Jo (e:=e) (w:=w) (Ag e dd) (css:=[C8 xa va,C8 xb vb,C8 xc vc]) (xs:=[xa,xb,xc]) (F:=Fa++(Fb++(Fc++[]))) (cur:=(C8 xa va++(C8 xb vb++C8 xc vc)).toArray) (cap:=3) ⟨Fa,_,rfl,a1,Fb,_,rfl,b1,Fc,[],rfl,c1,rfl⟩ (by simp) (by simp[maxLen]) (by simp[C8]) (by simp[C8]);rw[List.append_nil]at hn;have la:=(Ag e dd).lt a1;have lb:=(Ag e dd).lt b1;have lc:=(Ag e dd).lt c1;have hsz:(w.alloc (.cells (C8 xa va++(C8 xb vb++C8 xc vc)).toArray e)).heap.size=w.heap.size+1:=by simp
 refine Gt rfl hu _ _ hrun (BA _ _)<|h _ _ (BA _ _) (by simp) ⟨_,hn,?_,fun c hc=>?_⟩;rw[List.nodup_cons];refine⟨fun hm=>?_,List.nodup_append.2 ⟨a2,List.nodup_append.2 ⟨b2,c2,fun a h9 c h8 he=>?_⟩,fun a h9 c h8 he=>?_⟩⟩;rcases zi.1 hm with h9|h9;have:=la _ h9;omega;rcases zi.1 h9 with h9|h9;have:=lb _ h9;omega;have:=lc _ h9;omega;have q1:=b3 _ h9;have q2:=c3 _ h8;omega;have q1:=a3 _ h9;rcases zi.1 h8 with h8|h8;have q2:=b3 _ h8;omega;have q2:=c3 _ h8;omega;rw[hsz];rcases ze.1 hc with rfl|hc;exact⟨hB4,zO⟩;rcases zi.1 hc with h9|h9;have q1:=a3 _ h9;have q2:=la _ h9;omega;rcases zi.1 h9 with h9|h9;have q1:=b3 _ h9;have q2:=lb _ h9;omega;have q1:=c3 _ h9;have q2:=lc _ h9;omega
end ops
theorem FrL.le {e:TypeId}{d d' B U:Nat}{H:Array Obj}{v:Value}{xs:List Ex}(h:Fr (BP 5 (C6 e d) e) B U H v xs)(hd:d≤d'):Fr (BP 5 (C6 e d') e) B U H v xs:=by obtain⟨F,h,h2,h3⟩:=h;exact⟨F,h.imp fun q=>N0 e q hd,h2,h3⟩
theorem Cp.low {α:Type}{E:Ci α}{B B' U:Nat}{H:Array Obj}{cs:List Value}{x:α}(h:Cp E B U H cs x)(hB:B'≤B):Cp E B' U H cs x:=by obtain⟨F,h,h2,h3⟩:=h;exact⟨F,h,h2,fun b hb=>⟨A8 hB (h3 b hb).1,(h3 b hb).2⟩⟩
theorem Sp {vs:List Int}{c:Int}{e:Ex}(h:e.kind=2):At vs c e=.mk 2 (vs.getD e.num.toNat 0) 0 0 []:=by rw[KV,if_pos h]
theorem OH {vs:List Int}{c:Int}{e:Ex}(h:¬e.kind=2):At vs c e=.mk e.kind e.num e.pick e.count (FI (decide (e.kind=9)) vs c 0 e.kids):=by rw[KV,if_neg h]
theorem Sq {p:List Fn}{F vars:Int}{e:Ex}(h:wf p F e vars=true)(h1:¬e.kind=10)(h2:¬e.kind=11):e.pick=0∧e.count=0∧(3≤e.kind→e.num=0):=by
 have h:=BS h;unfold H5 at h;have hp:∀ {x:Bool},(DQ e && x)=true→e.pick=0∧e.count=0:=fun {x} hh=>by
  rw[z7]at hh;have:=hh.1;unfold DQ at this;simpa using this
 split at h;have:=hp h;exact⟨this.1,this.2,zO⟩;split at h;have:=hp h;exact⟨this.1,this.2,zO⟩;split at h;have:=hp h;simp only[z7,decide_eq_true_eq]at h;exact⟨this.1,this.2,fun _=>h.2.1⟩;split at h;have:=hp h;simp only[z7,decide_eq_true_eq]at h;exact⟨this.1,this.2,fun _=>h.2.1⟩;split at h;have:=hp h;simp only[z7,decide_eq_true_eq]at h;exact⟨this.1,this.2,fun _=>h.2.1⟩;split at h;rename_i h9;omega;cases h
theorem Xe {p:List Fn}{F vars:Int}{vs:List Int}{c:Int}{e:Ex}(hw:wf p F e vars=true)(h:e.kind=9):At vs c e=.mk 9 0 0 0 [At vs c (e.kids.getD 0 Ex.zero),At (vs++[c]) (c+1) (e.kids.getD 1 Ex.zero)]:=by
 have h2:=Sq hw zO zO;have h3:=(C0<|BS hw).2.2.1 zO;rw[OH zO,h,h2.1,h2.2.1,h2.2.2 (by omega)];congr 1;match hk:e.kids,h3 with
 |[a,b],_=>rw[FI,FI,FI];rfl
end
section
set_option linter.unusedSectionVars false
section
variable {P:Program} {ops:Array Oper} {md:Region.Mode}
def RA (P:Program)(o:Oper)(a:Act)(w:World)(R:Value→World→Prop):Prop:=o.wp P a w (fun b w1=>AB w w1∧∃v,b=a.put o.dst v∧R v w1) (NQ fun _ _=>False)
theorem Ss {a:Act}{d e:Option Tmp}{v x y:Value}(h:(a.put d v).put e x=(a.put d v).put e y):a.put e x=a.put e y:=by
 cases e with
 |none=>rfl
 |some e =>
  have hsz:(a.put d v).tmps.size=a.tmps.size:=by cases d <;> simp[Act.put]
  generalize hb:a.put d v=b at h hsz;by_cases hlt:e<a.tmps.size;have h2:=congrArg (fun z:Act=>z.tmps[e]?) h;simp only[Act.put,Array.getElem?_setIfInBounds_self,hsz,if_pos hlt]at h2
  injection h2 with h2;rw[h2];have e1:∀u,a.tmps.setIfInBounds e u=a.tmps:=fun u=>by
   apply Array.ext;simp
   intro i h1 h2;have:e≠i:=fun h9=>hlt (h9 ▸ h2);rw[Array.getElem_setIfInBounds h2];simp[this]
  show(⟨_,_⟩:Act)=⟨_,_⟩;rw[e1,e1]
theorem U3 {a:Act}{d:Option Tmp}{v:Value}:(a.put d v).defers=a.defers:=by cases d <;> rfl
theorem RA.shape {o:Oper}{a:Act}{d:Option Tmp}{v u:Value}{b:Act}(h2:∀x,d=some x→o.dst≠some x)(hs:Kg a o.dst b)(h:b.put d v=(a.put d v).put o.dst u):b=a.put o.dst u:=by obtain⟨u',rfl|⟨x,rfl⟩⟩:=hs;have e:=Act.put_comm a v u' h2;rw[← e]at h;exact Ss h;have:=congrArg Act.defers h;simp only[U3]at this;have:=congrArg List.length this;simp at this
theorem RA.apart {o:Oper}(hs:∀cs b,o.op≠.select cs b){a:Act}{d:Option Tmp}{v:Value}{w:World}{R:Value→World→Prop}
  (h1:∀x,d=some x→x∉o.looksAt ops) (h2:∀x,d=some x→o.dst≠some x):RA P o (a.put d v) w R↔RA P o a w R:=by
 constructor
 intro h;have g:=Ed<|FU (ops:=ops) (Q:=fun _ _=>False) hs h1 h2 h;refine Oper.wp_mono (fun b w1 hb=>?_) g;obtain⟨⟨hE,u,hu,hR⟩,hsh⟩:=hb;exact⟨hE,u,RA.shape h2 hsh hu,hR⟩
 intro h;refine H6 (ops:=ops) hs h1 h2<|Oper.wp_mono (fun b w1 hb=>?_) h;obtain⟨hE,u,rfl,hR⟩:=hb;exact⟨hE,u,(Act.put_comm a v u h2).symm,hR⟩
theorem RA.some {o:Oper}{a:Act}{w:World}{R:Value→World→Prop}(h:RA P o a w R):∃v w1,AB w w1∧R v w1:=by obtain⟨_,w1,⟨hE,v,_,hR⟩|⟨_,hE,v,_,hR⟩⟩:=KF h;exact⟨v,w1,hE,hR⟩;exact⟨v,w1,hE,hR⟩
abbrev Gc:=Nat×Value×Nat×Nat
def Hg:List Gc→Nat→Value×Nat×Nat
 |[],_=>(undef,0,0)
 |q::l,j=>cond (Nat.beq q.1 j) q.2 (Hg l j)
abbrev OI:=Nat→(Nat→Value×Nat×Nat)→Value→Nat→Nat→World→Prop
def UR (bs:Nat→Nat)(Rs:OI)(k:Nat)(w:World):List Gc→Prop
 |[]=>True
 |q::L=>((bs k).testBit q.1=true→q.2.2.2≤w.heap.size∧Rs q.1 (Hg L) q.2.1 q.2.2.1 q.2.2.2 w)∧UR bs Rs k w L
def N7 (P:Program)(bs:Nat→Nat)(Rs:OI)(w0:World)(k:Nat)(o:Oper)(a:Act)(w:World)(L:List Gc)(K:List Gc→Act→World→Prop):Prop :=
 (∀w',AB w0 w'→UR bs Rs k w' L→RA P o a w' fun v w''=>Rs k (Hg L) v w'.heap.size w''.heap.size w'') ∧
  ∀v lo hi w'',AB w w''→w0.heap.size≤lo→lo≤hi→hi≤w''.heap.size→(∀q∈L,q.2.2.2≤lo∨hi≤q.2.2.1)→Rs k (Hg L) v lo hi w''→K ((k,v,lo,hi)::L) (a.put o.dst v) w''
def LV (P:Program)(ops:Array Oper)(bs:Nat→Nat)(Rs:OI)(w0:World)(Q:Act→World→Prop):Nat→List Oper→List Nat→List Gc→Act→World→Prop
 |_,[],_,_,a,w=>Q a w
 |_,_::_,[],_,_,_=>False
 |k,o::os,kd::ks,L,a,w =>
  if Region.wanted o (yielded ops a.tmps)=true then(if kd=5 then N7 P bs Rs w0 k o a w L (LV P ops bs Rs w0 Q (k+1) os ks)else By P w0 o kd a w (LV P ops bs Rs w0 Q (k+1) os ks L))else LV P ops bs Rs w0 Q (k+1) os ks L (a.put o.dst undef) w
variable (P ops) in
def HP (bs:Nat→Nat)(Rs:OI)(kd:Nat→Nat)(w0:World)(Q:Act→World→Prop):List Nat→List Gc→Act→World→Prop
 |[],_,a,w=>Q a w
 |i::l,L,a,w =>
  match ops[i]? with
  |none=>False
  |some o=>if Region.wanted o (yielded ops a.tmps)=true then(if kd i=5 then N7 P bs Rs w0 i o a w L (HP bs Rs kd w0 Q l)else By P w0 o (kd i) a w (HP bs Rs kd w0 Q l L))else HP bs Rs kd w0 Q l L (a.put o.dst undef) w
def Oj (ki kj:Nat):Bool:=(ki≤1 && (kj≤1 || kj == 5)) || (ki == 5 && (kj≤1 || kj == 5)) || (ki == 0 && kj == 4) || (ki == 4 && kj == 0)
theorem Ya {ki kj:Nat}(h:Oj ki kj=true)(hk:kj≤1):ki≤1∨ki=5∨(ki=4∧kj=0):=by simp[Oj]at h;omega
theorem Yb {ki kj:Nat}(h:Oj ki kj=true)(hk:kj=5):ki≤1∨ki=5:=by simp[Oj]at h;omega
theorem US {ki kj:Nat}(h:Oj ki kj=true)(hk:kj=4):ki=0:=by simp[Oj]at h;omega
def M2 (kd:Nat→Nat)(l:List Nat):Prop:=∀l1 i l2,l=l1++i::l2→kd i=4→∀j∈l2,kd j≠1∧kd j≠5
def St (Rs:OI)(w:World):List Gc→Prop
 |[]=>True
 |q::L=>(q.2.2.2≤w.heap.size∧Rs q.1 (Hg L) q.2.1 q.2.2.1 q.2.2.2 w)∧St Rs w L
def Su (Rs:OI)(kd:Nat→Nat)(w0 w:World)(l:List Nat)(L:List Gc):Prop:=(∃j∈l,kd j=1∨kd j=5)→AB w0 w∧St Rs w L
structure Sv (bs:Nat→Nat)(Rs:OI):Prop where
 st:∀k g v lo hi w1 w2,AB w1 w2→Rs k g v lo hi w1→Rs k g v lo hi w2
 dp:∀k g g' v lo hi w,(∀d,(bs k).testBit d=true→g d=g' d)→Rs k g v lo hi w→Rs k g' v lo hi w
theorem St.ext {bs:Nat→Nat}{Rs:OI}(hR:Sv bs Rs){w w':World}(e:AB w w'):∀ {L:List Gc},St Rs w L→St Rs w' L
 |[],_=>trivial
 |_::_,h=>⟨⟨A8 h.1.1 e.size,hR.st _ _ _ _ _ _ _ e h.1.2⟩,St.ext hR e h.2⟩
theorem St.sz {Rs:OI}{w:World}:∀ {L:List Gc},St Rs w L→∀q∈L,q.2.2.2≤w.heap.size
 |[],_,q,hq=>by cases hq
 |_::_,h,q,hq=>by
  rcases ze.1 hq with rfl|hq
  exact h.1.1
  exact h.2.sz q hq
theorem St.dp {bs:Nat→Nat}{Rs:OI}{w:World}{k:Nat}:∀ {L:List Gc},St Rs w L→UR bs Rs k w L
 |[],_=>trivial
 |_::_,h=>⟨fun _=>h.1,h.2.dp⟩
theorem JC {q:Gc}{L:List Gc}{j:Nat}(h:q.1≠j):Hg (q::L) j=Hg L j:=by show cond (Nat.beq q.1 j) _ _=_;rw[show Nat.beq q.1 j=false from by cases hb:Nat.beq q.1 j with|false=>rfl|true=>exact absurd (Nat.eq_of_beq_eq_true hb) h];rfl
theorem M2.tail {kd:Nat→Nat}{i:Nat}{l:List Nat}(h:M2 kd (i::l)):M2 kd l:=fun l1 j l2 e=>h (i::l1) j l2 (by rw[e];rfl)
theorem M2.erase {kd:Nat→Nat}{l1 l2:List Nat}{i:Nat}(h:M2 kd (l1++i::l2)):M2 kd (l1++l2):=by
 intro m1 j m2 e hj x hx;by_cases hlt:m1.length<l1.length;have e1:l1=m1++j::(m2.take (l1.length-m1.length-1)):=by
  have:=congrArg (List.take l1.length) e;rw[List.take_left,List.take_append,za (by omega)]at this;rw[this];congr 1;obtain⟨n,hn⟩:∃n,l1.length-m1.length=n+1:=⟨l1.length-m1.length-1,zO⟩;rw[hn];simp
 have e2:l2=m2.drop (l1.length-m1.length-1):=by
  have:=congrArg (List.drop l1.length) e;rw[List.drop_left,List.drop_append]at this;rw[this,List.drop_of_length_le zO,zl];obtain⟨n,hn⟩:∃n,l1.length-m1.length=n+1:=⟨l1.length-m1.length-1,zO⟩;rw[hn];simp
 refine h m1 j (m2.take (l1.length-m1.length-1)++i::l2) (by rw[e1];simp[List.append_assoc]) hj x ?_;have hx':x∈m2.take (l1.length-m1.length-1)++m2.drop (l1.length-m1.length-1):=by rw[List.take_append_drop];exact hx
 rw[← e2]at hx';simp only[zi,ze]at hx' ⊢;rcases hx' with hx'|hx';exact .inl hx';exact .inr<|.inr hx';have e2:l2=m1.drop l1.length++j::m2:=by
  have:=congrArg (List.drop l1.length) e;rw[List.drop_left,List.drop_append_of_le_length (by omega)]at this;exact this
 exact h (l1++i::m1.drop l1.length) j m2 (by rw[e2];simp) hj x hx
section main
variable {kd bs:Nat→Nat} {Rs:OI} {w0:World} {Q:Act→World→Prop}
structure Tv (bs:Nat→Nat)(L L':List Gc):Prop where
 ex:∃M p q N,L=M++p::q::N∧L'=M++q::p::N∧p.1≠q.1∧(bs p.1).testBit q.1=false∧(bs q.1).testBit p.1=false
theorem Tv.cons {L L':List Gc}(h:Tv bs L L')(r:Gc):Tv bs (r::L) (r::L'):=by obtain⟨M,p,q,N,rfl,rfl,hh⟩:=h.ex;exact⟨r::M,p,q,N,rfl,rfl,hh⟩
theorem Tv.mem {L L':List Gc}(h:Tv bs L L')(x:Gc):x∈L↔x∈L':=by obtain⟨M,p,q,N,rfl,rfl,hh⟩:=h.ex;simp only[zi,ze];constructor <;> (rintro(h|h|h|h) <;> simp[h])
theorem Ln {p q:Gc}(hne:p.1≠q.1)(N:List Gc)(d:Nat):∀M,Hg (M++p::q::N) d=Hg (M++q::p::N) d
 |[]=>by
  show cond (Nat.beq p.1 d) p.2 (cond (Nat.beq q.1 d) q.2 _)=cond (Nat.beq q.1 d) q.2 (cond (Nat.beq p.1 d) p.2 _)
  cases hp:Nat.beq p.1 d with
  |false=>cases Nat.beq q.1 d <;> rfl
  |true =>
   have e1:p.1=d:=Nat.eq_of_beq_eq_true hp
   cases hq:Nat.beq q.1 d with
   |false=>rfl
   |true=>exact absurd (e1.trans (Nat.eq_of_beq_eq_true hq).symm) hne
 |r::M=>by
  show cond (Nat.beq r.1 d) r.2 (Hg (M++p::q::N) d)=cond (Nat.beq r.1 d) r.2 (Hg (M++q::p::N) d)
  rw[Ln hne N d M]
theorem Tv.getR {L L':List Gc}(h:Tv bs L L')(d:Nat):Go.Proofs.YtlbefjfhfodnlaaGreatDoor.Hg L d=Go.Proofs.YtlbefjfhfodnlaaGreatDoor.Hg L' d:=by obtain⟨M,p,q,N,rfl,rfl,hne,_⟩:=h.ex;exact Ln hne N d M
theorem PO (hR:Sv bs Rs){p q:Gc}(hne:p.1≠q.1)(b1:(bs p.1).testBit q.1=false)(b2:(bs q.1).testBit p.1=false){N:List Gc}{k:Nat}{w:World}:∀M,UR bs Rs k w (M++q::p::N)→UR bs Rs k w (M++p::q::N)
 |[],hd=>by
  obtain⟨d1,d2,d3⟩:=hd
  refine⟨fun hb=>⟨(d2 hb).1,hR.dp _ _ _ _ _ _ _ (fun d hd=>?_) (d2 hb).2⟩,fun hb=>⟨(d1 hb).1,hR.dp _ _ _ _ _ _ _ (fun d hd=>?_) (d1 hb).2⟩,d3⟩
  refine (JC fun h9=>?_).symm
  rw[← h9,b1]at hd;cases hd
  refine JC fun h9=>?_
  rw[← h9,b2]at hd;cases hd
 |r::M,hd=>⟨fun hb=>⟨(hd.1 hb).1,hR.dp _ _ _ _ _ _ _ (fun d _=>(Ln hne N d M).symm) (hd.1 hb).2⟩,PO hR hne b1 b2 M hd.2⟩
theorem Tv.dp (hR:Sv bs Rs){L L':List Gc}(h:Tv bs L L'){k:Nat}{w:World}(hd:UR bs Rs k w L'):UR bs Rs k w L:=by obtain⟨M,p,q,N,rfl,rfl,hne,b1,b2⟩:=h.ex;exact PO hR hne b1 b2 M hd
theorem HP.sub (hR:Sv bs Rs):∀(l:List Nat){L L':List Gc}{a:Act}{w:World},Tv bs L L'→HP P ops bs Rs kd w0 Q l L a w→HP P ops bs Rs kd w0 Q l L' a w
 |[],_,_,_,_,_,h=>h
 |i::l,L,L',a,w,hs,h=>by
  simp only[HP]at h ⊢
  cases hoi:ops[i]? with
  |none=>rw[hoi]at h;exact h
  |some o =>
   rw[hoi]at h
   simp only at h ⊢
   split
   rename_i hw
   rw[if_pos hw]at h
   split
   rename_i h5
   rw[if_pos h5]at h
   obtain⟨r2,r3⟩:=h
   have hg:Go.Proofs.YtlbefjfhfodnlaaGreatDoor.Hg L=Go.Proofs.YtlbefjfhfodnlaaGreatDoor.Hg L':=funext hs.getR
   exact⟨fun w' e1 e2=>by rw[← hg];exact r2 w' e1 (hs.dp hR e2),fun v lo hi w'' e1 e2 e3 e4 e5 e6=>HP.sub hR l (hs.cons _) (r3 v lo hi w'' e1 e2 e3 e4 (fun q hq=>e5 q ((hs.mem q).1 hq)) (by rw[hg];exact e6))⟩
   rename_i h5
   rw[if_neg h5]at h
   exact h.mono fun a w hh=>HP.sub hR l hs hh
   rename_i hw
   rw[if_neg hw]at h
   exact HP.sub hR l hs h
theorem Lo (hR:Sv bs Rs)(hsel:∀(j:Nat)(o:Oper) cs b,ops[j]? = some o→o.op≠.select cs b){j:Nat}{oj:Oper}(hj:ops[j]? = some oj)(hk:kd j≤1) :
  ∀(l1 l2:List Nat) (L:List Gc) (a:Act) (w:World),M2 kd (l1++j::l2)→Su Rs kd w0 w (l1++j::l2) L→(∀i∈l1,∀oi,ops[i]? = some oi→oi.apart ops oj=true∧Oj (kd i) (kd j)=true) →
   HP P ops bs Rs kd w0 Q (l1++j::l2) L a w→∃v,Yv P ops w0 (kd j) oj a w v∧HP P ops bs Rs kd w0 Q (l1++l2) L (a.put oj.dst v) w
 |[],l2,L,a,w,hN,hI,_,h=>by
  simp only[zl,HP,hj]at h ⊢
  split at h
  rename_i hw
  rw[if_neg (by omega)]at h
  unfold By at h
  rw[if_pos (by omega)]at h
  obtain⟨v,h1,h2⟩:=h
  exact⟨v,.inl ⟨hw,h1⟩,h2⟩
  rename_i hw
  exact⟨undef,.inr ⟨by simpa using hw,rfl⟩,h⟩
 |i::l1,l2,L,a,w,hN,hI,hl,h=>by
  have hi:=hl i (z0 ..)
  have hl':∀x∈l1,∀ox,ops[x]? = some ox→ox.apart ops oj=true∧Oj (kd x) (kd j)=true:=fun x hx=>hl x (z3 _ hx)
  have hN':M2 kd (l1++j::l2):=hN.tail
  have hI':Su Rs kd w0 w (l1++j::l2) L:=fun⟨x,hx,hk⟩=>hI ⟨x,z3 _ hx,hk⟩
  simp only[List.cons_append,HP]at h ⊢
  cases hoi:ops[i]? with
  |none=>rw[hoi]at h;exact h.elim
  |some oi =>
   rw[hoi]at h
   simp only at h ⊢
   obtain⟨hap,hok⟩:=hi oi hoi
   obtain⟨p1,p2,p3⟩:=Oper.apart_spec hap
   have p2':∀d,oj.dst=some d→oi.dst≠some d:=fun d hd he=>p2 d he hd
   have si:=fun cs b=>hsel i oi cs b hoi
   have sj:=fun cs b=>hsel j oj cs b hj
   have hcl:∀w1 w2 w3,Cl w0 w1 (kd j) w3→Cl w0 w2 (kd j) w3:=by
    intro w1 w2 w3 hc;match hkj:kd j,hk with
    |0,_=>trivial
    |1,_=>rw[hkj]at hc;exact hc
    |_+2,hle=>omega
   by_cases hw:Region.wanted oi (yielded ops a.tmps)=true;rw[if_pos hw]at h;rcases Ya hok hk with hki|hki|⟨hki,hkj⟩;rw[if_neg (by omega)]at h;unfold By at h;rw[if_pos (by omega)]at h;obtain⟨vi,hy,h⟩:=h;obtain⟨v,h1,h2⟩:=Lo hR hsel hj hk l1 l2 L (a.put oi.dst vi) w hN' hI' hl' h;refine⟨v,(Yv.apart sj p1).1 h1,?_⟩;rw[wanted_put oi a oj.dst v p3,if_pos hw,if_neg (by omega)];unfold By;rw[if_pos (by omega)];refine⟨vi,fun w' hc=>(YA.apart (ops:=ops) si p3).2 (hy w' hc),?_⟩;rw[Act.put_comm a v vi p2'];exact h2;rw[if_pos hki]at h;obtain⟨r2,r3⟩:=h;obtain⟨hE0,hL0⟩:=hI ⟨i,z0 ..,.inr hki⟩;have step:∀vi lo hi w'',AB w w''→w0.heap.size≤lo→lo≤hi→hi≤w''.heap.size→(∀q∈L,q.2.2.2≤lo∨hi≤q.2.2.1)→Rs i (Hg L) vi lo hi w''→∃v,Yv P ops w0 (kd j) oj a w v∧HP P ops bs Rs kd w0 Q (l1++l2) ((i,vi,lo,hi)::L) ((a.put oi.dst vi).put oj.dst v) w'':=by
    intro vi lo hi w'' e1 e2 e3 e4 e5 e6;obtain⟨v,h1,h2⟩:=Lo hR hsel hj hk l1 l2 ((i,vi,lo,hi)::L) (a.put oi.dst vi) w'' hN' (fun _=>⟨hE0.trans e1,⟨e4,e6⟩,hL0.ext hR e1⟩) hl' (r3 vi lo hi w'' e1 e2 e3 e4 e5 e6);refine⟨v,?_,h2⟩;rcases(Yv.apart sj p1).1 h1 with⟨q1,q2⟩|⟨q1,q2⟩;exact .inl ⟨q1,fun w2 hc=>q2 w2<|hcl w w'' w2 hc⟩;exact .inr ⟨q1,q2⟩
   have hfr:∀w1,∀q∈L,q.2.2.2≤w.heap.size∨w1≤q.2.2.1:=fun w1 q hq=>.inl (hL0.sz q hq);obtain⟨v,hv⟩:∃v,Yv P ops w0 (kd j) oj a w v:=by
    obtain⟨vi,w1,g1,g2⟩:=(r2 w hE0 hL0.dp).some;obtain⟨v,h1,_⟩:=step vi w.heap.size w1.heap.size w1 g1 hE0.size g1.size (A7 _) (hfr _) g2;exact⟨v,h1⟩
   refine⟨v,hv,?_⟩;rw[wanted_put oi a oj.dst v p3,if_pos hw,if_pos hki];refine⟨fun w' hw' hd=>(RA.apart (ops:=ops) si p3 p2').2 (r2 w' hw' hd),fun vi lo hi w'' e1 e2 e3 e4 e5 e6=>?_⟩;obtain⟨v',h1,h2⟩:=step vi lo hi w'' e1 e2 e3 e4 e5 e6;have:v'=v:=h1.unique (fun _=>hE0) hv;subst this;rw[Act.put_comm a v' vi p2'];exact h2;rw[if_neg (by omega)]at h;unfold By at h;rw[if_neg zO,if_neg (by omega)]at h;have hno:∀x∈l1++j::l2,kd x≠1∧kd x≠5:=hN [] i _ rfl hki;have hs:=Ed h;have step:∀a' w',(HP P ops bs Rs kd w0 Q (l1++j::l2) L a' w'∧Kg a oi.dst a')→∃v,Yv P ops w0 (kd j) oj a w v∧HP P ops bs Rs kd w0 Q (l1++l2) L (a'.put oj.dst v) w':=by
    rintro a' w' ⟨hL,hsh⟩;obtain⟨v,h1,h2⟩:=Lo hR hsel hj hk l1 l2 L a' w' hN' (fun⟨x,hx,hh⟩=>(hh.elim (fun h=>(hno x hx).1 h) fun h=>(hno x hx).2 h).elim) hl' hL;refine⟨v,?_,h2⟩;rcases(Yv.shape sj p1 hsh).1 h1 with⟨q1,q2⟩|⟨q1,q2⟩;exact .inl ⟨q1,fun w2 hc=>q2 w2<|hcl w w' w2 hc⟩;exact .inr ⟨q1,q2⟩
   obtain⟨v,hv⟩:∃v,Yv P ops w0 (kd j) oj a w v:=by
    obtain⟨u,w',hK|⟨d,hK⟩⟩:=KF hs;obtain⟨v,h1,_⟩:=step _ _ hK;exact⟨v,h1⟩;obtain⟨v,h1,_⟩:=step _ _ hK;exact⟨v,h1⟩
   refine⟨v,hv,?_⟩;rw[wanted_put oi a oj.dst v p3,if_pos hw,if_neg (by omega)];unfold By;rw[if_neg zO,if_neg (by omega)];refine H6 (ops:=ops) si p3 p2'<|Oper.wp_mono (fun a' w' hK=>?_) hs;obtain⟨v',h1,h2⟩:=step a' w' hK;have:v'=v:=h1.unique (fun h1=>by omega) hv;subst this;exact h2;rw[if_neg hw]at h;obtain⟨v,h1,h2⟩:=Lo hR hsel hj hk l1 l2 L (a.put oi.dst undef) w hN' hI' hl' h;refine⟨v,(Yv.apart sj p1).1 h1,?_⟩;rw[wanted_put oi a oj.dst v p3,if_neg hw,Act.put_comm a v undef p2'];exact h2
theorem PP (hR:Sv bs Rs)(hsel:∀(j:Nat)(o:Oper) cs b,ops[j]? = some o→o.op≠.select cs b){j:Nat}{oj:Oper}(hj:ops[j]? = some oj)(hk:kd j=5) :
  ∀(l1 l2:List Nat) (L:List Gc) (a:Act) (w:World),(∀i∈l1,∀oi,ops[i]? = some oi→oi.apart ops oj=true∧Oj (kd i) (kd j)=true)→(∀i∈l1,(bs j).testBit i=false∧(bs i).testBit j=false∧i≠j)→AB w0 w→St Rs w L→HP P ops bs Rs kd w0 Q (l1++j::l2) L a w →
   (Region.wanted oj (yielded ops a.tmps)=true→N7 P bs Rs w0 j oj a w L (HP P ops bs Rs kd w0 Q (l1++l2))) ∧
   (Region.wanted oj (yielded ops a.tmps)=false→HP P ops bs Rs kd w0 Q (l1++l2) L (a.put oj.dst undef) w)
 |[],l2,L,a,w,_,_,hE0,hL0,h=>by
  simp only[zl,HP,hj]at h ⊢
  refine⟨fun hw=>?_,fun hw=>?_⟩
  rw[if_pos hw,if_pos hk]at h;exact h
  rw[if_neg (by simp[hw])]at h;exact h
 |i::l1,l2,L,a,w,hl,hb,hE0,hL0,h=>by
  have hi:=hl i (z0 ..)
  obtain⟨hbi,hbj,hij⟩:=hb i (z0 ..)
  have hl':∀x∈l1,∀ox,ops[x]? = some ox→ox.apart ops oj=true∧Oj (kd x) (kd j)=true:=fun x hx=>hl x (z3 _ hx)
  have hb':∀x∈l1,(bs j).testBit x=false∧(bs x).testBit j=false∧x≠j:=fun x hx=>hb x (z3 _ hx)
  simp only[List.cons_append,HP]at h ⊢
  cases hoi:ops[i]? with
  |none=>rw[hoi]at h;exact h.elim
  |some oi =>
   rw[hoi]at h
   simp only at h ⊢
   obtain⟨hap,hok⟩:=hi oi hoi
   obtain⟨p1,p2,p3⟩:=Oper.apart_spec hap
   have p2':∀d,oj.dst=some d→oi.dst≠some d:=fun d hd he=>p2 d he hd
   have si:=fun cs b=>hsel i oi cs b hoi
   have sj:=fun cs b=>hsel j oj cs b hj
   by_cases hw:Region.wanted oi (yielded ops a.tmps)=true
   rw[if_pos hw]at h
   rcases Yb hok hk with hki|hki
   rw[if_neg (by omega)]at h
   unfold By at h
   rw[if_pos (by omega)]at h
   obtain⟨vi,hy,h⟩:=h
   obtain⟨g1,g2⟩:=PP hR hsel hj hk l1 l2 L (a.put oi.dst vi) w hl' hb' hE0 hL0 h
   rw[wanted_put oj a oi.dst vi p1]at g1 g2
   refine⟨fun hwj=>?_,fun hwj=>?_⟩
   obtain⟨r2,r3⟩:=g1 hwj
   refine⟨fun w' hw' hd=>(RA.apart (ops:=ops) sj p1 p2).1 (r2 w' hw' hd),fun v lo hi w'' e1 e2 e3 e4 e5 e6=>?_⟩
   have hr:=r3 v lo hi w'' e1 e2 e3 e4 e5 e6
   dsimp only
   rw[wanted_put oi a oj.dst v p3,if_pos hw,if_neg (by omega)]
   unfold By
   rw[if_pos (by omega)]
   refine⟨vi,fun w3 hc=>(YA.apart (ops:=ops) si p3).2 (hy w3 ?_),?_⟩
   match hki':kd i,hki with
   |0,_=>trivial
   |1,_=>rw[hki']at hc;exact hc
   |_+2,hle=>omega
   rw[Act.put_comm a v vi p2'];exact hr
   rw[wanted_put oi a oj.dst undef p3,if_pos hw,if_neg (by omega)]
   unfold By
   rw[if_pos (by omega)]
   refine⟨vi,fun w' hc=>(YA.apart (ops:=ops) si p3).2 (hy w' hc),?_⟩
   rw[Act.put_comm a undef vi p2']
   exact g2 hwj
   rw[if_pos hki]at h
   obtain⟨r2,r3⟩:=h
   have step:∀vi lo hi w'',AB w w''→w0.heap.size≤lo→lo≤hi→hi≤w''.heap.size→(∀q∈L,q.2.2.2≤lo∨hi≤q.2.2.1)→Rs i (Hg L) vi lo hi w'' →
     (Region.wanted oj (yielded ops a.tmps)=true→N7 P bs Rs w0 j oj (a.put oi.dst vi) w'' ((i,vi,lo,hi)::L) (HP P ops bs Rs kd w0 Q (l1++l2))) ∧
     (Region.wanted oj (yielded ops a.tmps)=false→HP P ops bs Rs kd w0 Q (l1++l2) ((i,vi,lo,hi)::L) ((a.put oi.dst vi).put oj.dst undef) w''):=by
    intro vi lo hi w'' e1 e2 e3 e4 e5 e6;have hr:=PP hR hsel hj hk l1 l2 ((i,vi,lo,hi)::L) (a.put oi.dst vi) w'' hl' hb' (hE0.trans e1) ⟨⟨e4,e6⟩,hL0.ext hR e1⟩<|r3 vi lo hi w'' e1 e2 e3 e4 e5 e6;rw[wanted_put oj a oi.dst vi p1]at hr;exact hr
   have hfr:∀w1,∀q∈L,q.2.2.2≤w.heap.size∨w1≤q.2.2.1:=fun w1 q hq=>.inl (hL0.sz q hq);obtain⟨vi0,w10,k1,k2⟩:=(r2 w hE0 hL0.dp).some;have st0:=step vi0 w.heap.size w10.heap.size w10 k1 hE0.size k1.size (A7 _) (hfr _) k2;refine⟨fun hwj=>⟨fun w' e1 e2=>?_,fun v lo hi w2 e1 e2 e3 e4 e5 e6=>?_⟩,fun hwj=>?_⟩;have h9:=(st0.1 hwj).1 w' e1 ⟨fun hbq=>absurd (show(bs j).testBit i=true from hbq) (by rw[hbi];decide),e2⟩;refine (RA.apart (ops:=ops) sj p1 p2).1 (Oper.wp_mono (fun b w1 hb=>?_) h9);obtain⟨q1,u,q2,q3⟩:=hb;exact⟨q1,u,q2,hR.dp _ _ _ _ _ _ _ (fun d hd=>JC fun h8=>by rw[← h8]at hd;rw[show(bs j).testBit i=true from hd]at hbi;cases hbi) q3⟩;dsimp only;rw[wanted_put oi a oj.dst v p3,if_pos hw,if_pos hki];have hgi:∀d,(bs i).testBit d=true→Hg L d=Hg ((j,v,lo,hi)::L) d:=fun d hd=>(JC fun h8=>by rw[← h8]at hd;rw[show(bs i).testBit j=true from hd]at hbj;cases hbj).symm;have hgj:∀vi loi hii,∀d,(bs j).testBit d=true→Hg L d=Hg ((i,vi,loi,hii)::L) d:=fun vi loi hii d hd=>(JC fun h8=>by rw[← h8]at hd;rw[show(bs j).testBit i=true from hd]at hbi;cases hbi).symm;refine⟨fun w' f1 f2=>(RA.apart (ops:=ops) si p3 p2').2 (Oper.wp_mono (fun b w1 hb=>⟨hb.1,hb.2.choose,hb.2.choose_spec.1,hR.dp _ _ _ _ _ _ _ hgi hb.2.choose_spec.2⟩) (r2 w' f1 f2.2)),fun vi loi hii w3 f1 f2 f3 f4 f5 f6=>?_⟩;have hs:=(step vi loi hii w3 (e1.trans f1) f2 f3 f4 (fun q hq=>f5 q<|z3 _ hq)<|hR.dp _ _ _ _ _ _ _ (fun d hd=>(hgi d hd).symm) f6).1 hwj;have hr:=hs.2 v lo hi w3 (AB.refl _) e2 e3 (A8 e4 f1.size) (fun q hq=>by
    rcases ze.1 hq with rfl|hq;exact (f5 _ (z0 ..)).symm;exact e5 q hq) (hR.dp _ _ _ _ _ _ _ (hgj vi loi hii) (hR.st _ _ _ _ _ _ _ f1 e6))
   rw[Act.put_comm a v vi p2'];exact HP.sub hR _ ⟨[],(j,v,lo,hi),(i,vi,loi,hii),L,rfl,rfl,fun h9=>hij h9.symm,hbi,hbj⟩ hr;rw[wanted_put oi a oj.dst undef p3,if_pos hw,if_pos hki];refine⟨fun w' f1 f2=>(RA.apart (ops:=ops) si p3 p2').2 (r2 w' f1 f2),fun vi loi hii w3 f1 f2 f3 f4 f5 f6=>?_⟩;rw[Act.put_comm a undef vi p2'];exact (step vi loi hii w3 f1 f2 f3 f4 f5 f6).2 hwj;rw[if_neg hw]at h;obtain⟨g1,g2⟩:=PP hR hsel hj hk l1 l2 L (a.put oi.dst undef) w hl' hb' hE0 hL0 h;rw[wanted_put oj a oi.dst undef p1]at g1 g2;refine⟨fun hwj=>?_,fun hwj=>?_⟩;obtain⟨r2,r3⟩:=g1 hwj;refine⟨fun w' hw' hd=>(RA.apart (ops:=ops) sj p1 p2).1 (r2 w' hw' hd),fun v lo hi w'' e1 e2 e3 e4 e5 e6=>?_⟩;have hr:=r3 v lo hi w'' e1 e2 e3 e4 e5 e6;dsimp only;rw[wanted_put oi a oj.dst v p3,if_neg hw,Act.put_comm a v undef p2'];exact hr;rw[wanted_put oi a oj.dst undef p3,if_neg hw,Act.put_comm a undef undef p2'];exact g2 hwj
theorem OJ (hsel:∀(j:Nat)(o:Oper) cs b,ops[j]? = some o→o.op≠.select cs b){j:Nat}{oj:Oper}(hj:ops[j]? = some oj)(hk:kd j=4) :
  ∀(l1 l2:List Nat) (L:List Gc) (a:Act) (w:World),(∀i∈l1,∀oi,ops[i]? = some oi→oi.apart ops oj=true∧Oj (kd i) (kd j)=true)→HP P ops bs Rs kd w0 Q (l1++j::l2) L a w →
   (Region.wanted oj (yielded ops a.tmps)=true→oj.wp P a w (HP P ops bs Rs kd w0 Q (l1++l2) L) (NQ fun _ _=>False)) ∧
   (Region.wanted oj (yielded ops a.tmps)=false→HP P ops bs Rs kd w0 Q (l1++l2) L (a.put oj.dst undef) w)
 |[],l2,L,a,w,_,h=>by
  simp only[zl,HP,hj]at h ⊢
  refine⟨fun hw=>?_,fun hw=>?_⟩
  rw[if_pos hw,if_neg (by omega)]at h
  unfold By at h
  rw[if_neg zO,if_neg (by omega)]at h;exact h
  rw[if_neg (by simp[hw])]at h;exact h
 |i::l1,l2,L,a,w,hl,h=>by
  have hi:=hl i (z0 ..)
  have hl':∀x∈l1,∀ox,ops[x]? = some ox→ox.apart ops oj=true∧Oj (kd x) (kd j)=true:=fun x hx=>hl x (z3 _ hx)
  simp only[List.cons_append,HP]at h ⊢
  cases hoi:ops[i]? with
  |none=>rw[hoi]at h;exact h.elim
  |some oi =>
   rw[hoi]at h
   simp only at h ⊢
   obtain⟨hap,hok⟩:=hi oi hoi
   obtain⟨p1,p2,p3⟩:=Oper.apart_spec hap
   have p2':∀d,oj.dst=some d→oi.dst≠some d:=fun d hd he=>p2 d he hd
   have si:=fun cs b=>hsel i oi cs b hoi
   have sj:=fun cs b=>hsel j oj cs b hj
   have hki:=US hok hk
   by_cases hw:Region.wanted oi (yielded ops a.tmps)=true
   rw[if_pos hw,if_neg (by omega)]at h
   unfold By at h
   rw[if_pos (by omega)]at h
   obtain⟨vi,hy,h⟩:=h
   have hya:∀w',YA P oi a w' vi:=fun w'=>hy w' (by rw[hki];exact trivial)
   obtain⟨g1,g2⟩:=OJ hsel hj hk l1 l2 L (a.put oi.dst vi) w hl' h
   rw[wanted_put oj a oi.dst vi p1]at g1 g2
   refine⟨fun hwj=>?_,fun hwj=>?_⟩
   have g:=FU (ops:=ops) (Q:=fun _ _=>False) sj p1 p2<|g1 hwj
   refine Oper.wp_mono (fun a' w' hK=>?_)<|Ed g
   obtain⟨hL,hsh⟩:=hK
   rw[E2 p3 hsh,if_pos hw,if_neg (by omega)]
   unfold By
   rw[if_pos (by omega)]
   refine⟨vi,fun w'' hc=>?_,hL⟩
   have he:∀b,YA P oi b w'' vi↔YR P ((execOp b.eval oi).run P w'') w'' vi:=fun _=>Iff.rfl
   obtain⟨u,rfl|⟨x,rfl⟩⟩:=hsh
   exact (YA.apart (ops:=ops) si p3).2 (hya w'')
   refine (YA.apart (ops:=ops) si p3).2 ?_
   have hee:Act.eval { a with defers:=x::a.defers }=Act.eval a:=funext fun y=>by cases y <;> rfl
   rw[he,hee,← he];exact hya w''
   rw[wanted_put oi a oj.dst undef p3,if_pos hw,if_neg (by omega)]
   unfold By
   rw[if_pos (by omega)]
   refine⟨vi,fun w' hc=>(YA.apart (ops:=ops) si p3).2 (hya w'),?_⟩
   rw[Act.put_comm a undef vi p2']
   exact g2 hwj
   rw[if_neg hw]at h
   obtain⟨g1,g2⟩:=OJ hsel hj hk l1 l2 L (a.put oi.dst undef) w hl' h
   rw[wanted_put oj a oi.dst undef p1]at g1 g2
   refine⟨fun hwj=>?_,fun hwj=>?_⟩
   have g:=FU (ops:=ops) (Q:=fun _ _=>False) sj p1 p2<|g1 hwj
   refine Oper.wp_mono (fun a' w' hK=>?_)<|Ed g
   obtain⟨hL,hsh⟩:=hK
   rw[E2 p3 hsh,if_neg hw]
   exact hL
   rw[wanted_put oi a oj.dst undef p3,if_neg hw,Act.put_comm a undef undef p2']
   exact g2 hwj
def UT (md:Region.Mode)(ops:Array Oper)(kd bs:Nat→Nat)(x y:Nat):Prop :=
 (∀ox oy,ops[x]? = some ox→ops[y]? = some oy→(bs y).testBit x=true∨(ox.apart ops oy=true∧Oj (kd x) (kd y)=true)) ∧
 (∀ox,ops[x]? = some ox→∀e∈ox.after,Region.binds md e=true→e.on≠y)
theorem Lp (hR:Sv bs Rs)(hbk:∀x y ox,ops[x]? = some ox→x<y→(bs x).testBit y=false)(hkd:∀i,kd i≤1∨kd i=4∨kd i=5)(hsel:∀(j:Nat)(o:Oper) cs b,ops[j]? = some o→o.op≠.select cs b)(hS:HQ md ops bs)
  (hlex:∀j oj,ops[j]? = some oj→∀e∈oj.after,Region.binds md e=true→e.on<j) :
  ∀(n:Nat) (l:List Nat) (listed:Array Bool) (L:List Gc) (a:Act) (w:World),l.length=n→l.Pairwise (UT md ops kd bs)→l.Pairwise (· < ·)→l.Nodup→listed.size=ops.size →
   (∀i,i∈l↔listed.getD i true=false)→IZ bs listed→M2 kd l→Su Rs kd w0 w l L→HP P ops bs Rs kd w0 Q l L a w→wpAny P md ops (NQ Q) n listed a w
 |0,l,listed,L,a,w,hn,_,_,_,_,hm,_,_,_,h=>by
  have hl:l=[]:=List.eq_nil_of_length_eq_zero hn
  subst hl
  refine⟨?_,h⟩
  cases hr:Region.ready md ops listed with
  |nil=>rfl
  |cons x xs =>
   have:=(mem_ready.1 (by rw[hr];exact z0 ..:x∈Region.ready md ops listed)).1
   exact absurd ((hm x).2 this) (by simp)
 |n+1,l,listed,L,a,w,hn,hs,hso,hd,hz,hm,hc,h14,hi1,h=>by
  refine⟨fun h0=>?_,fun i hi=>?_⟩
  exfalso
  match l,hn with
  |i::l,hn =>
   have hready:=FV (md:=md) hz hm hlex fun y hy ox hox=>((List.pairwise_cons.1 hs).1 y hy).2 ox hox
   rw[h0]at hready
   cases hready
  obtain⟨hun,oi,hoi,hall⟩:=mem_ready.1 hi
  obtain⟨l1,l2,rfl⟩:=List.append_of_mem ((hm i).2 hun)
  have hbits:=D5 hS hc hoi hall
  have hpi:∀x∈l1,UT md ops kd bs x i:=fun x hx=>(List.pairwise_append.1 hs).2.2 x hx i (z0 ..)
  have hlt:∀x∈l1,x<i:=fun x hx=>(List.pairwise_append.1 hso).2.2 x hx i (z0 ..)
  have hnb0:∀x∈l1,(bs i).testBit x=false:=fun x hx=>by
   have h2:=CQ ((hm x).1 (z8 _ hx))
   cases hb:(bs i).testBit x with
   |false=>rfl
   |true=>rw[hbits x hb]at h2;cases h2
  have hnb:∀x∈l1,(bs i).testBit x=false∧(bs x).testBit i=false∧x≠i:=fun x hx=>⟨hnb0 x hx,hbk x i (ops[x]'(by have:=BQ ((hm x).1 (z8 _ hx));omega)) (by simp[show x<ops.size by have:=BQ ((hm x).1 (z8 _ hx));omega]) (hlt x hx),fun h9=>by have:=hlt x hx;omega⟩
  have hfree:∀x∈l1,∀ox,ops[x]? = some ox→ox.apart ops oi=true∧Oj (kd x) (kd i)=true:=fun x hx ox hox=>by
   rcases(hpi x hx).1 ox oi hox hoi with hb|hb
   rw[hnb0 x hx]at hb;cases hb
   exact hb
  have hsz:=BQ hun
  have hsub0:(l1++l2).Sublist (l1++i::l2):=List.Sublist.append_left (List.sublist_cons_self _ _) _
  have hnd:i∉l1++l2:=by
   have h1:=List.nodup_append.1 hd
   intro hmem;rcases zi.1 hmem with hh|hh;exact h1.2.2 i hh i (z0 ..) rfl;exact (List.nodup_cons.1 h1.2.1).1 hh
  have hn':(l1++l2).length=n:=by simp at hn ⊢;omega
  have rec_:∀L' a' w',Su Rs kd w0 w' (l1++l2) L'→HP P ops bs Rs kd w0 Q (l1++l2) L' a' w'→wpAny P md ops (NQ Q) n (listed.setIfInBounds i true) a' w':=fun L' a' w' hi' hL =>
   Lp hR hbk hkd hsel hS hlex n (l1++l2) _ L' a' w' hn' (hs.sublist hsub0) (hso.sublist hsub0) (hd.sublist hsub0) (by simpa using hz) (Ff hm hnd hsz) (Ej hc hbits) (M2.erase h14) hi' hL
  have hsub:Su Rs kd w0 w (l1++l2) L:=fun⟨j,hj,hk⟩=>hi1 ⟨j,hsub0.subset hj,hk⟩;rcases hkd i with hk|hk|hk;obtain⟨v,hv,hL⟩:=Lo hR hsel hoi hk l1 l2 L a w h14 hi1 hfree h;unfold wpOp;rw[hoi];rcases hv with⟨hw,hy⟩|⟨hw,rfl⟩;simp only[hw,if_true];exact .inl<|GN (hy w (Cl.self fun h1=>(hi1 ⟨i,by simp,.inl h1⟩).1))<|rec_ _ _ _ hsub hL;simp only[hw,Bool.false_eq_true,if_false];exact rec_ _ _ _ hsub hL;obtain⟨g1,g2⟩:=OJ hsel hoi hk l1 l2 L a w hfree h;unfold wpOp;rw[hoi];have hno:¬ ∃j∈l1++l2,kd j=1∨kd j=5:=by
   rintro⟨j,hj,hkj⟩;rcases zi.1 hj with hh|hh;obtain⟨oj,hoj⟩:∃oj,ops[j]? = some oj:=by
    have:=BQ ((hm j).1 (z8 _ hh));exact⟨ops[j]'(by omega),by simp[show j<ops.size by omega]⟩
   have:=US (hfree j hh oj hoj).2 hk;omega;have:=h14 l1 i l2 rfl hk j hh;omega
  by_cases hw:Region.wanted oi (yielded ops a.tmps)=true;simp only[hw,if_true];exact .inl<|Oper.wp_mono (fun a' w' hK=>rec_ L a' w' (fun hx=>absurd hx hno) hK)<|Gn<|g1 hw;simp only[hw,Bool.false_eq_true,if_false];exact rec_ _ _ _ hsub<|g2 (by simpa using hw);obtain⟨hE0,hL0⟩:=hi1 ⟨i,by simp,.inr hk⟩;obtain⟨g1,g2⟩:=PP hR hsel hoi hk l1 l2 L a w hfree hnb hE0 hL0 h;unfold wpOp;rw[hoi];by_cases hw:Region.wanted oi (yielded ops a.tmps)=true;simp only[hw,if_true];obtain⟨r2,r3⟩:=g1 hw;refine .inl<|Oper.wp_mono (fun a' w' hK=>?_)<|Gn<|r2 w hE0 hL0.dp;obtain⟨hE,v,rfl,hv⟩:=hK;exact rec_ ((i,v,w.heap.size,w'.heap.size)::L) _ _ (fun _=>⟨hE0.trans hE,⟨A7 _,hv⟩,hL0.ext hR hE⟩)<|r3 v _ _ w' hE hE0.size hE.size (A7 _) (fun q hq=>.inl<|hL0.sz q hq) hv;simp only[hw,Bool.false_eq_true,if_false];exact rec_ _ _ _ hsub<|g2 (by simpa using hw)
end main
theorem MD {bs:Nat→Nat}{Rs:OI}{w0:World}{Q:Act→World→Prop}(ks:List Nat):∀(os:List Oper)(k:Nat)(L:List Gc)(a:Act)(w:World),(∀j,os[j]? = ops[k+j]?) →
  LV P ops bs Rs w0 Q k os (ks.drop k) L a w→HP P ops bs Rs (fun i=>ks.getD i 0) w0 Q (List.range' k os.length) L a w
 |[],_,_,_,_,_,h=>by simpa [HP,LV]using h
 |o::os,k,L,a,w,ho,h=>by
  have h0:ops[k]? = some o:=by simpa using (ho 0).symm
  have hr:∀L a w,LV P ops bs Rs w0 Q (k+1) os (ks.drop (k+1)) L a w→HP P ops bs Rs (fun i=>ks.getD i 0) w0 Q (List.range' (k+1) os.length) L a w:=fun L a w hh =>
   MD ks os (k+1) L a w (fun j=>by have:=ho (j+1);simpa [Nat.add_assoc,Nat.add_comm 1 j]using this) hh
  have hlt:k<ks.length:=by
   rcases Nat.lt_or_ge k ks.length with hh|hh;exact hh;rw[List.drop_of_length_le hh]at h;exact h.elim
  have hd:ks.drop k=ks[k]::ks.drop (k+1):=List.drop_eq_getElem_cons hlt;rw[hd]at h;simp only[z9,List.range'_succ,HP,h0,LV]at h ⊢;have hg:ks.getD k 0=ks[k]:=by simp[hlt]
  split;rename_i hw;rw[if_pos hw]at h;rw[hg];split;rename_i h5;rw[if_pos h5]at h;exact⟨h.1,fun v lo hi w'' e1 e2 e3 e4 e5 e6=>hr _ _ _ (h.2 v lo hi w'' e1 e2 e3 e4 e5 e6)⟩;rename_i h5;rw[if_neg h5]at h;exact h.mono<|hr L;rename_i hw;rw[if_neg hw]at h;exact hr _ _ _ h
def Yc (ops:Array Oper)(ks:List Nat):Bool :=
  let b:=(Region.before ops).toList
  let os:=ops.toList
  Region.noSelect ops &&
  (os.zipIdx.all fun(o,j) =>
    (o.after.all fun e=>!Region.binds .any e || decide (e.on<j)) &&
    (let m:=o.after.foldl (fun s e=>if Region.binds .any e then s ||| 2 ^ e.on ||| b.getD e.on 0 else s) 0
     (b.getD j 0 == m)) &&
    (os.zipIdx.all fun(p,i)=>!(decide (i<j)) || (b.getD j 0).testBit i || (p.apart ops o && Oj (ks.getD i 0) (ks.getD j 0)))) &&
  (os.zipIdx.all fun(_,i)=>!(decide (4=ks.getD i 0)) || os.zipIdx.all fun(_,j)=>!(decide (i<j)) || (ks.getD j 0 != 1 && ks.getD j 0 != 5)) && (ks.all fun k=>decide (k≤1) || decide (k=4) || decide (k=5))
def U4 (os:List Oper)(j:Nat):Nat:=(Region.before os.toArray).toList.getD j 0
theorem GZ {id:Nat}{Q:Exit→Act→World→Prop}{a:Act}{w:World}(os:List Oper)(ks:List Nat)(hm:P.follows .mixedOrders=true)(hB:Yc os.toArray ks=true)(Rs:OI)(hR:Sv (U4 os) Rs)
  (h:LV P os.toArray (U4 os) Rs w.drew (fun a w=>Q .normal a w) 0 os ks [] a w.drew):(Code.region id os.toArray true).wp P Q a w:=by
 refine wp_region_any hm ?_;simp only[Yc,z7]at hB;obtain⟨⟨⟨hsel,hpl⟩,h14⟩,hks⟩:=hB;have hz:∀ {j:Nat} {o:Oper},os.toArray[j]? = some o→(o,j)∈os.toArray.toList.zipIdx:=by
  intro j o ho;rw[List.mem_zipIdx_iff_getElem?];simpa using ho
 have hall:∀j oj,os.toArray[j]? = some oj→_:=fun j oj hj=>zm.1 hpl _ (hz hj);have hF:∀i j oi oj,i<j→os.toArray[i]? = some oi→os.toArray[j]? = some oj→(U4 os j).testBit i=true∨(oi.apart os.toArray oj=true∧Oj (ks.getD i 0) (ks.getD j 0)=true):=by
  intro i j oi oj hij hi hj;have h3:=(z7 _ _ ▸ hall j oj hj:_∧_).2;have h4:=zm.1 h3 _<|hz hi;simp only[Bool.or_eq_true,Bool.not_eq_true',decide_eq_false_iff_not,z7]at h4;rcases h4 with(h4|h4)|h4;exact absurd hij h4;exact .inl h4;exact .inr h4
 have hlex:∀j oj,os.toArray[j]? = some oj→∀e∈oj.after,Region.binds .any e=true→e.on<j:=by
  intro j oj hj e he hb;have h1:=(z7 _ _ ▸ (z7 _ _ ▸ hall j oj hj:_∧_).1:_∧_).1;have h2:=(Array.all_eq_true_iff_forall_mem.1 h1) e he;simpa [hb]using h2
 have hkd:∀i,ks.getD i 0≤1∨ks.getD i 0=4∨ks.getD i 0=5:=fun i=>by
  by_cases hi:i<ks.length;have:=zm.1 hks ks[i] (List.getElem_mem hi);simp only[Bool.or_eq_true,decide_eq_true_eq]at this;rw[show ks.getD i 0=ks[i]from by simp[hi]];omega;left;rw[List.getD_eq_getElem?_getD,List.getElem?_eq_none (by omega)];exact Nat.zero_le _
 have hSo:HQ .any os.toArray (U4 os):=by
  intro j oj hj i hb;have h3:=(z7 _ _ ▸ (z7 _ _ ▸ hall j oj hj:_∧_).1:_∧_).2;have h5:(Region.before os.toArray).toList.getD j 0=oj.after.foldl (fun s e=>if Region.binds .any e then s ||| 2 ^ e.on ||| (Region.before os.toArray).toList.getD e.on 0 else s) 0:=by simpa using h3
  unfold U4 at hb;rw[h5,← Array.foldl_toList]at hb;rcases Fg _ _ _ _ hb with hb|⟨e,he,hbb,hh⟩;simp at hb;exact⟨e,Array.mem_toList_iff.1 he,hbb,hh⟩
 have hbk:∀x y ox,os.toArray[x]? = some ox→x<y→(U4 os x).testBit y=false:=by
  have H:∀n x ox y,x≤n→os.toArray[x]? = some ox→(U4 os x).testBit y=true→y<x:=by
   intro n
   induction n with
   |zero =>
    intro x ox y hx ho hb;obtain⟨e,he,hbb,_⟩:=hSo x ox ho y hb;have:=hlex x ox ho e he hbb;omega
   |succ n ih =>
    intro x ox y hx ho hb;obtain⟨e,he,hbb,rfl|hh⟩:=hSo x ox ho y hb;exact hlex x ox ho e he hbb;have h1:=hlex x ox ho e he hbb;have hlt:e.on<os.toArray.size:=by
     rcases Nat.lt_or_ge x os.toArray.size with h'|h';omega;rw[Array.getElem?_eq_none h']at ho;cases ho
    have:=ih e.on (os.toArray[e.on]) y zO (by simp) hh;omega
  intro x y ox ho hxy;cases hb:(U4 os x).testBit y with
  |false=>rfl
  |true=>have:=H x x ox y (A7 _) ho hb;omega
 have key:=Lp (P:=P) (ops:=os.toArray) (md:=.any) (kd:=fun i=>ks.getD i 0) (bs:=U4 os) (Rs:=Rs) (w0:=w.drew) (Q:=fun a w=>Q .normal a w) hR ?_ hkd
  (Region.noSelect_spec hsel) ?_ ?_ os.length (List.range' 0 os.length) (Array.replicate os.length false) [] a w.drew (by simp) ?_ (List.pairwise_lt_range' (s:=0) (n:=os.length) (step:=1)) List.nodup_range' (by simp) ?_ ?_ ?_ (fun _=>⟨AB.refl _,trivial⟩) ?_
 have:=FW _ _ _ _ key;simpa using this;exact hbk;exact hSo;exact hlex;exact (List.pairwise_lt_range' (s:=0) (n:=os.length) (step:=1)).imp fun {x y} hxy=>⟨fun ox oy hox hoy=>hF x y ox oy hxy hox hoy,fun ox hox e he hb=>by have:=hlex x ox hox e he hb;omega⟩
 intro i;simp only[List.mem_range',Nat.zero_add,Nat.one_mul];constructor;rintro⟨x,hx,rfl⟩;simp[hx]
 intro hh;rcases Nat.lt_or_ge i os.length with h'|h';exact⟨i,h',rfl⟩;simp[Array.getElem?_eq_none (show(Array.replicate os.length false).size≤i by simpa using h')]at hh
 intro i hi;rcases Nat.lt_or_ge i os.length with h'|h';simp[h']at hi;simp[Array.getElem?_eq_none (show(Array.replicate os.length false).size≤i by simpa using h')]at hi
 intro l1 i l2 hl hk j hj;have hs:(l1++i::l2).Pairwise (· < ·):=hl ▸ List.pairwise_lt_range';have hij:i<j:=List.rel_of_pairwise_cons (List.pairwise_append.1 hs).2.1 hj;have mem:∀x∈l1++i::l2,x<os.length:=by
  intro x hx;rw[← hl]at hx;simp only[List.mem_range',Nat.zero_add,Nat.one_mul]at hx;obtain⟨y,hy,rfl⟩:=hx;exact hy
 have hi:=mem i (by simp);have hj':=mem j (by simp[hj]);have h1:=zm.1 h14 _<|hz (j:=i) (o:=os[i]) (by simp[hi]);simp only[Bool.or_eq_true,Bool.not_eq_true',decide_eq_false_iff_not]at h1;rcases h1 with h1|h1;exact absurd (Eq.symm hk) h1;have h2:=zm.1 h1 _<|hz (j:=j) (o:=os[j]) (by simp[hj']);simp only[Bool.or_eq_true,Bool.not_eq_true',decide_eq_false_iff_not]at h2;rcases h2 with h2|h2;exact absurd hij h2;simpa using h2;exact MD ks os 0 [] a w.drew (by simp) (by simpa using h)
end
section
variable {P:Program} {ops:Array Oper} {bs:Nat→Nat} {Rs:OI} {w0:World} {Q:Act→World→Prop} {os:List Oper} {ks:List Nat} {L:List Gc} {N k d:Nat} {ρ:Nat→Value} {w:World} {o:Oper}
theorem LV.nil {a:Act}(h:Q a w):LV P ops bs Rs w0 Q k [] ks L a w:=h
theorem LV.j {kd:Nat}(hk:kd≠5){a:Act}(h:LW P ops w0 (fun a' w'=>LV P ops bs Rs w0 Q (k+1) os ks L a' w') [o] [kd] a w):LV P ops bs Rs w0 Q k (o::os) (kd::ks) L a w:=by simp only[LW]at h;simp only[LV,hk,if_false];split;rename_i hw;rw[if_pos hw]at h;exact h;rename_i hw;rw[if_neg hw]at h;exact h
theorem LV.r (hu:Up ops N ρ o)(ho:o.dst=some d)(hA:∀w',AB w0 w'→UR bs Rs k w' L→LW P ops w' (fun a' w''=>∃v,a'=mk N (CP ρ d v)∧Rs k (Hg L) v w'.heap.size w''.heap.size w'') [o] [3] (mk N ρ) w')
  (hK:∀v lo hi w'',AB w w''→w0.heap.size≤lo→lo≤hi→hi≤w''.heap.size→(∀q∈L,q.2.2.2≤lo∨hi≤q.2.2.1)→Rs k (Hg L) v lo hi w''→LV P ops bs Rs w0 Q (k+1) os ks ((k,v,lo,hi)::L) (mk N (CP ρ d v)) w''):LV P ops bs Rs w0 Q k (o::os) (5::ks) L (mk N ρ) w:=by
 simp only[LV];rw[if_pos hu,if_pos trivial];refine⟨fun w' h1 h2=>?_,fun v lo hi w'' h1 h2 h3 h4 h5 h6=>?_⟩;have h:=hA w' h1 h2;simp only[LW]at h;rw[if_pos hu]at h;unfold By at h;rw[if_neg (by decide),if_pos rfl]at h;refine Oper.wp_mono (fun b w1 hb=>?_) h;obtain⟨q1,v,rfl,q3⟩:=hb;exact⟨q1,v,by rw[ho,EA],q3⟩;have:=hK v lo hi w'' h1 h2 h3 h4 h5 h6;rw[← EA]at this;rw[ho];exact this
def PQ:List (Nat×((Nat→Value×Nat×Nat)→Value→Nat→Nat→World→Prop))→OI
 |[],_=>fun _ _ _ _ _=>True
 |r::l,k=>cond (Nat.beq r.1 k) r.2 (PQ l k)
theorem IA:Sv bs (PQ []):=⟨fun _ _ _ _ _ _ _ _ _=>trivial,fun _ _ _ _ _ _ _ _ _=>trivial⟩
theorem Cr {r:(Nat→Value×Nat×Nat)→Value→Nat→Nat→World→Prop}{l:List (Nat×((Nat→Value×Nat×Nat)→Value→Nat→Nat→World→Prop))}(h1:∀g v lo hi w1 w2,AB w1 w2→r g v lo hi w1→r g v lo hi w2)
  (h2:∀g g',(∀d,(bs k).testBit d=true→g d=g' d)→∀v lo hi w,r g v lo hi w→r g' v lo hi w) (h:Sv bs (PQ l)):Sv bs (PQ ((k,r)::l)):=by
 refine⟨fun j g v lo hi w1 w2 hE hr=>?_,fun j g g' v lo hi w hg hr=>?_⟩;have e:∀w,PQ ((k,r)::l) j g v lo hi w=(cond (Nat.beq k j) r (PQ l j)) g v lo hi w:=fun w=>rfl;rw[e]at hr ⊢;cases hb:Nat.beq k j with
 |true=>rw[hb]at hr;exact h1 _ _ _ _ _ _ hE hr
 |false=>rw[hb]at hr;exact h.st _ _ _ _ _ _ _ hE hr
 have e:∀g,PQ ((k,r)::l) j g v lo hi w=(cond (Nat.beq k j) r (PQ l j)) g v lo hi w:=fun g=>rfl;rw[e]at hr ⊢;cases hb:Nat.beq k j with
 |true=>rw[hb]at hr;have:=Nat.eq_of_beq_eq_true hb;subst this;exact h2 _ _ hg _ _ _ _ hr
 |false=>rw[hb]at hr;exact h.dp _ _ _ _ _ _ _ hg hr
end
def aF (zsq:List Value)(v:Value)(lo hi:Nat)(w:World):Prop:=∃g,v=.pointer (some ⟨g,0,none⟩)∧(lo≤g∧g<hi)∧BX w.heap g zsq
theorem ME {zsq:List Value}(v:Value)(lo hi:Nat)(w1 w2:World)(h:AB w1 w2):aF zsq v lo hi w1→aF zsq v lo hi w2:=fun⟨g,h1,h2,h3⟩=>⟨g,h1,h2,h3.ext h⟩
def lF {α:Type}(E:BI α)(x:α)(v:Value)(lo hi:Nat)(w:World):Prop:=Fr E lo hi w.heap v x
theorem Lq {α:Type}{E:BI α}(hE:CC E){x:α}(v:Value)(lo hi:Nat)(w1 w2:World)(h:AB w1 w2)(k:lF E x v lo hi w1):lF E x v lo hi w2:=Fr.ext hE k h
def eF (e:TypeId)(d:Nat)(x:Ex)(v:Value)(lo hi:Nat)(w:World):Prop:=∃u,v=.agg (C8 x u).toArray∧Fr (BP 5 (C6 e d) e) lo hi w.heap u x.kids∧Eu x
theorem Sw {e:TypeId}{d:Nat}{x:Ex}(v:Value)(lo hi:Nat)(w1 w2:World)(h:AB w1 w2):eF e d x v lo hi w1→eF e d x v lo hi w2:=fun⟨u,h1,h2,h3⟩=>⟨u,h1,h2.ext (Ae (Ag e d)) h,h3⟩
def sF (s:ByteArray)(v:Value)(lo hi:Nat)(w:World):Prop:=v=.string s
end
section
theorem RX.dpos {S:List Nat}{d:Nat}{w:World}{v:Value}{e:Ex}(h:RX S d w.heap v e)(hk:0<e.kids.length):1≤d:=by
 cases d with
 |zero =>
  obtain⟨cs,⟨F,hF,_⟩,_⟩:=h.rn.get (Aq 0) Ex.zero hk;exact hF.elim
 |succ d=>omega
section
variable {p:List Fn} {vs ds:List Int} {c:Int} {e:Ex}
theorem EJ (h:e.kind=1):Am p vs ds c e=.mk 1 0 0 0 []:=by rw[CN,if_pos h];rfl
theorem EK (h:e.kind=2):Am p vs ds c e=.mk 2 (ds.getD e.num.toNat 0) 0 0 []:=by rw[CN,if_neg zO,if_pos h];rfl
theorem DX (h:e.kind=3∨e.kind=4)(hl:e.kids.length=2):Am p vs ds c e=.mk e.kind 0 0 0 [Am p vs ds c (e.kids.getD 0 Ex.zero),Am p vs ds c (e.kids.getD 1 Ex.zero)]:=by rw[CN,if_neg zO,if_neg zO,if_pos h,De _ _ _ _ _ _ zO,De _ _ _ _ _ _ (by omega)];rfl
theorem E9 (h:e.kind=5)(hl:e.kids.length=2):Am p vs ds c e=.mk 3 0 0 0 [.mk 5 0 0 0 [Am p vs ds c (e.kids.getD 0 Ex.zero),At vs c (e.kids.getD 1 Ex.zero)],.mk 5 0 0 0 [At vs c (e.kids.getD 0 Ex.zero),Am p vs ds c (e.kids.getD 1 Ex.zero)]]:=by rw[CN,if_neg zO,if_neg zO,if_neg zO,if_pos h,De _ _ _ _ _ _ zO,De _ _ _ _ _ _ (by omega)];rfl
theorem Ea (h:e.kind=6)(hl:e.kids.length=2):Am p vs ds c e=.mk 6 0 0 0 [.mk 4 0 0 0 [Am p vs ds c (e.kids.getD 0 Ex.zero),.mk 5 0 0 0 [.mk 6 0 0 0 [At vs c (e.kids.getD 0 Ex.zero),At vs c (e.kids.getD 1 Ex.zero)],Am p vs ds c (e.kids.getD 1 Ex.zero)]],At vs c (e.kids.getD 1 Ex.zero)]:=by rw[CN,if_neg zO,if_neg zO,if_neg zO,if_neg zO,if_pos h,De _ _ _ _ _ _ zO,De _ _ _ _ _ _ (by omega)];rfl
theorem EL (h:e.kind=7)(hl:e.kids.length=1):Am p vs ds c e=.mk 7 0 0 0 [Am p vs ds c (e.kids.getD 0 Ex.zero)]:=by rw[CN,if_neg zO,if_neg zO,if_neg zO,if_neg zO,if_neg zO,if_pos h,De _ _ _ _ _ _ (by omega)]
theorem EM (h:e.kind=8)(hl:e.kids.length=3):Am p vs ds c e=.mk 8 0 0 0 [At vs c (e.kids.getD 0 Ex.zero),Am p vs ds c (e.kids.getD 1 Ex.zero),Am p vs ds c (e.kids.getD 2 Ex.zero)]:=by rw[CN,if_neg zO,if_neg zO,if_neg zO,if_neg zO,if_neg zO,if_neg zO,if_pos h,De _ _ _ _ _ _ zO,De _ _ _ _ _ _ (by omega)]
theorem OK (h:e.kind=9)(hl:e.kids.length=2):Am p vs ds c e=.mk 9 0 0 0 [At vs c (e.kids.getD 0 Ex.zero),.mk 9 0 0 0 [Am p vs ds (c+1) (e.kids.getD 0 Ex.zero),Am p (vs++[c]) (ds++[c+1]) (c+2) (e.kids.getD 1 Ex.zero)]]:=by rw[CN,if_neg zO,if_neg zO,if_neg zO,if_neg zO,if_neg zO,if_neg zO,if_neg zO,if_pos h,De _ _ _ _ _ _ zO,De _ _ _ _ _ _ (by omega)];rfl
theorem OL (h:e.kind=10∨e.kind=11):Am p vs ds c e=.mk e.kind (e.num+((p.length:Nat):Int)) (e.pick+(((p.getD e.num.toNat Fn.zero).outs.length:Nat):Int)) e.count (e.kids.map (At vs c)++e.kids.map (Am p vs ds c)):=by rw[CN,if_neg zO,if_neg zO,if_neg zO,if_neg zO,if_neg zO,if_neg zO,if_neg zO,if_neg zO,I5]
end
end
def Cw (n:Nat):ByteArray:=⟨(Lib.decDigits n).toArray⟩
def Cb (n:Nat):ByteArray:=⟨#[100]⟩++Cw n
theorem NZ {n:Nat}(h:n<10):(Lib.decDigits n).length=1:=by rw[Lib.decDigits];simp[h]
theorem IB {n:Nat}(h:n<100):(Cw n).size≤2:=by show(Lib.decDigits n).toArray.size≤2;rw[List.size_toArray];by_cases h1:n<10;rw[NZ h1];omega;rw[Lib.decDigits];simp only[h1,dite_false,z4,zd,NZ (show n / 10<10 by omega)];omega
def Gd (n:Nat):List Int:=DK n fun i=>((i:Nat):Int)
def IC (m:Int)(n:Nat):List Int:=DK n fun i=>m+((i:Nat):Int)
theorem EN (n:Nat):(Gd n).length=n:=CZ _ _
theorem JD (m:Int)(n:Nat):(IC m n).length=n:=CZ _ _
theorem JE (n:Nat):Gd (n+1)=Gd n++[((n:Nat):Int)]:=FB _ _
theorem JF (m:Int)(n:Nat):IC m (n+1)=IC m n++[m+((n:Nat):Int)]:=FB _ _
def K6 (p:List Fn)(g:Fn):List Ex:=g.outs.map (At (Gd g.params.toNat) (2*g.params))++g.outs.map (Am p (Gd g.params.toNat) (IC g.params g.params.toNat) (2*g.params))
theorem U5 (p:List Fn)(k:Nat):Dl p Cb k=⟨Cb (p.length+k),2*(p.getD k Fn.zero).params,K6 p (p.getD k Fn.zero)⟩:=rfl
section
set_option linter.unusedSectionVars false
def Sx (B U:Nat):List Nat:=(List.range U).filter fun b=>decide (B≤b)
theorem ID {B U b:Nat}(h1:B≤b)(h2:b<U):b∈Sx B U:=by unfold Sx;simp[h1,h2]
theorem N8 {B U g:Nat}(h:g<B):g∉Sx B U:=by unfold Sx;simp;omega
namespace Jx
def OM (ks:List Nat):Nat→Nat:=fun i=>ks.getD i 0
def XH (os:List Oper):Nat→Nat:=fun j=>(Region.before os.toArray).toList.getD j 0
def Yd (os:List Oper)(ks:List Nat)(L0 S:List Nat):Bool :=
  let ops:=os.toArray
  let b:=(Region.before ops).toList
  Region.noSelect ops &&
  (os.zipIdx.all fun(o,j) =>
    (o.after.all fun e=>!Region.binds .any e || decide (e.on<j)) &&
    (let m:=o.after.foldl (fun s e=>if Region.binds .any e then s ||| 2 ^ e.on ||| b.getD e.on 0 else s) 0
     (b.getD j 0 == m))) &&
  (L0.all fun x=>decide (ks.getD x 0≤2)) &&
  No (FL ops ks b) L0 &&
  (decide ((L0++S).length=os.length) && (decide (L0++S).Nodup && ((L0++S).all (fun x=>decide (x<os.length)) && (List.range os.length).all fun x=>(L0++S).contains x)))
def Ye (os:List Oper)(ks:List Nat)(L0 s:List Nat):Bool :=
 No (FL os.toArray ks (Region.before os.toArray).toList) (L0++s) && No (fun x y=>!(decide (4≤ks.getD x 0)) || ks.getD y 0 != 1) (L0++s)
def Yg (os:List Oper)(ks:List Nat)(L0:List Nat)(h1:Nat)(S1:List Nat)(h2:Nat)(S2:List Nat):Bool :=
 let ops:=os.toArray
 let b:=(Region.before ops).toList
 (decide (ks.getD h1 0=3) && decide (ks.getD h2 0=3)) &&
 (L0.all fun x=>FL ops ks b x h1 && FL ops ks b x h2) &&
 (h1::S1).isPerm (h2::S2) &&
 (S1.all fun z=>decide (z=h2) || ((b.getD z 0).testBit h1 || (b.getD z 0).testBit h2)) &&
 No (Iq ops) (L0++h1::S1)
section
variable [J:JR] {P:Program} {os:List Oper} {ks L0:List Nat} {w0:World} {Q:Act→World→Prop}
structure Hd (os:List Oper)(ks L0:List Nat):Prop where
 sel:∀(j:Nat) (o:Oper) cs b,os.toArray[j]? = some o→o.op≠.select cs b
 so:HQ .any os.toArray (XH os)
 lex:∀j oj,os.toArray[j]? = some oj→∀e∈oj.after,Region.binds .any e=true→e.on<j
 le:∀x∈L0,OM ks x≤2
 pw:L0.Pairwise (DB .any os.toArray (OM ks) (XH os))
def Gc (P:Program)(os:List Oper)(ks L0:List Nat)(w0:World)(Q:Act→World→Prop)(S:List Nat)(Q':Act→World→Prop):Prop :=
 ∀n l listed a w,K1 os.toArray (OM ks) (XH os) w0 L0 S n l listed w→LI P os.toArray (OM ks) w0 Q' l a w→wpAny P .any os.toArray (NQ Q) n listed a w
theorem Yh (hH:Hd os ks L0){s:List Nat}(hB:Ye os ks L0 s=true):Gc P os ks L0 w0 Q s (LI P os.toArray (OM ks) w0 Q s):=by
 simp only[Ye,z7]at hB;exact Jz hH.sel hH.so hH.lex (Ez (fun x y hh=>D6 hh) hB.1) (Ez (fun x y hxy h4=>by
  rcases Bool.or_eq_true_iff.1 hxy with hh|hh;simp only[Bool.not_eq_true',decide_eq_false_iff_not]at hh;exact absurd h4 hh;simpa [OM]using hh) hB.2)
theorem XI (hH:Hd os ks L0){h1 h2:Nat}{S1 S2:List Nat}{Q1 Q2:Act→World→Prop}(hB:Yg os ks L0 h1 S1 h2 S2=true)(r1:Gc P os ks L0 w0 Q S1 Q1)(r2:Gc P os ks L0 w0 Q S2 Q2) :
  Gc P os ks L0 w0 Q (h1::S1) (fun a w=>LI P os.toArray (OM ks) w0 Q1 [h1] a w∧LI P os.toArray (OM ks) w0 Q2 [h2] a w):=by
 simp only[Yg,z7,decide_eq_true_eq]at hB;obtain⟨⟨⟨⟨⟨hk1,hk2⟩,hx⟩,hp⟩,hz⟩,hord⟩:=hB;have hx4:∀x∈L0,_:=fun x h=>zm.1 hx x h;simp only[z7]at hx4;refine Ip hH.sel hH.so hH.lex (List.isPerm_iff.1 hp) hk1 hk2 hH.le hH.pw (fun x h=>D6 (hx4 x h).1) (fun x h=>D6 (hx4 x h).2) (fun z h=>?_) (Ez (fun x y hh ox hox e he hb=>?_) hord) r1 r2;have:=zm.1 hz z h;simp only[Bool.or_eq_true,decide_eq_true_eq]at this;exact this;unfold Iq at hh;rw[hox]at hh;have:=(Array.all_eq_true_iff_forall_mem.1 hh) e he;simpa [hb]using this
theorem Yi {id:Nat}{R:Exit→Act→World→Prop}{a:Act}{w:World}{S:List Nat}{Q':Act→World→Prop}(hm:P.follows .mixedOrders=true)(hB:Yd os ks L0 S=true)
  (hr:Hd os ks L0→Gc P os ks L0 w.drew (fun a w=>R .normal a w) S Q') (h:LI P os.toArray (OM ks) w.drew Q' L0 a w.drew):(Code.region id os.toArray true).wp P R a w:=by
 refine wp_region_any hm ?_;simp only[Yd,z7,decide_eq_true_eq]at hB;obtain⟨⟨⟨⟨hsel,hpl⟩,hl⟩,hpL⟩,hln,hnd,hlt,hct⟩:=hB;have hz:∀ {j:Nat} {o:Oper},os.toArray[j]? = some o→(o,j)∈os.zipIdx:=by
  intro j o ho;rw[List.mem_zipIdx_iff_getElem?];simpa using ho
 have hall:∀j oj,os.toArray[j]? = some oj→_:=fun j oj hj=>zm.1 hpl _ (hz hj);have hlex:∀j oj,os.toArray[j]? = some oj→∀e∈oj.after,Region.binds .any e=true→e.on<j:=by
  intro j oj hj e he hb;have h1:=(z7 _ _ ▸ hall j oj hj:_∧_).1;have h2:=(Array.all_eq_true_iff_forall_mem.1 h1) e he;simpa [hb]using h2
 have hS:HQ .any os.toArray (XH os):=by
  intro j oj hj i hb;have h3:=(z7 _ _ ▸ hall j oj hj:_∧_).2;have h5:XH os j=oj.after.foldl (fun s e=>if Region.binds .any e then s ||| 2 ^ e.on ||| (Region.before os.toArray).toList.getD e.on 0 else s) 0:=by unfold XH;simpa using h3
  rw[h5,← Array.foldl_toList]at hb;rcases Fg _ _ _ _ hb with hb|⟨e,he,hbb,hh⟩;simp at hb;exact⟨e,Array.mem_toList_iff.1 he,hbb,hh⟩
 have hmem:∀x,x∈L0++S↔x<os.length:=fun x=>by
  constructor
  intro hx;exact of_decide_eq_true (zm.1 hlt x hx)
  intro hx;have:=zm.1 hct x (List.mem_range.2 hx);simpa using this
 have hH:Hd os ks L0:=⟨Region.noSelect_spec hsel,hS,hlex,fun x hx=>of_decide_eq_true (zm.1 hl x hx),Ez (fun x y hh=>D6 hh) hpL⟩;have key:=hr hH os.length L0 (Array.replicate os.length false) a w.drew ⟨List.Sublist.refl _,by rw[← hln,z4],fun x=>?_,by simp,?_,fun _=>AB.refl _,hnd⟩ h;have:=FW _ _ _ _ key;simpa using this;rw[hmem];constructor
 intro hx;simp[hx]
 intro hh;rcases Nat.lt_or_ge x os.length with h'|h';exact h';simp[Array.getElem?_eq_none (show(Array.replicate os.length false).size≤x by simpa using h')]at hh
 intro i hi;rcases Nat.lt_or_ge i os.length with h'|h';simp[h']at hi;simp[Array.getElem?_eq_none (show(Array.replicate os.length false).size≤i by simpa using h')]at hi
end
end Jx
end
def Sy (n:Nat)(c:Nat→Int)(d:List Int):Int:=sm n fun i=>c i*d.getD i 0
def Nq (n:Nat)(b:Nat→Nat→Int)(d:List Int):Int:=sm n fun i=>sm n fun k=>b i k*(d.getD i 0*d.getD k 0)
theorem U6 (n:Nat)(A B:Int)(c c':Nat→Int)(d:List Int):Sy n (fun i=>A*c i+B*c' i) d=A*Sy n c d+B*Sy n c' d:=by unfold Sy;rw[← Gu,← Gu,← G0];exact C5 fun i _=>by rw[Int.add_mul,Int.mul_assoc,Int.mul_assoc]
theorem PR (c:Int)(f:Nat→Int)(n:Nat):sm n f*c=sm n fun i=>f i*c:=by rw[Int.mul_comm,← Gu];exact C5 fun i _=>Int.mul_comm _ _
theorem PS (n:Nat)(c c':Nat→Int)(d:List Int):Sy n c d*Sy n c' d=Nq n (fun i k=>c i*c' k) d:=by unfold Sy Nq;rw[PR];refine C5 fun i _=>?_;rw[← Gu];refine C5 fun k _=>?_;rw[Int.mul_assoc,Int.mul_assoc,Int.mul_left_comm (d.getD i 0)]
theorem N9 (n:Nat)(b b':Nat→Nat→Int)(d:List Int):Nq n (fun i k=>b i k+b' i k) d=Nq n b d+Nq n b' d:=by unfold Nq;rw[← G0];refine C5 fun i _=>?_;rw[← G0];exact C5 fun k _=>Int.add_mul _ _ _
theorem IE (n:Nat)(A:Int)(b:Nat→Nat→Int)(d:List Int):Nq n (fun i k=>A*b i k) d=A*Nq n b d:=by unfold Nq;rw[← Gu];refine C5 fun i _=>?_;rw[← Gu];exact C5 fun k _=>Int.mul_assoc _ _ _
structure Q2 (n K:Nat)(D:Nat→List Int)(x:Nat→Sr)(z:Sr):Prop where
 sx:∀k,k<K→DJ 3 (x k)
 sz:DJ 1 z
 v:∀k,k<K→(x k).getD 0 0=z.getD 0 0
 q:∃c b,∀k,k<K→(x k).getD 1 0=md (Sy n c (D k))∧(x k).getD 2 0=md (Nq n b (D k))
theorem UU {a b:Sr}(h:2<a.length):(Dc a b).getD 2 0=md (a.getD 0 0*b.getD 2 0+a.getD 1 0*b.getD 1 0+a.getD 2 0*b.getD 0 0):=by rw[show(Dc a b).getD 2 0=_ from CM 0 h];show md (md (md (0+a.getD 0 0*b.getD 2 0)+a.getD 1 0*b.getD 1 0)+a.getD 2 0*b.getD 0 0)=_;generalize a.getD 0 0*b.getD 2 0=x;generalize a.getD 1 0*b.getD 1 0=y;generalize a.getD 2 0*b.getD 0 0=z;unfold md;omega
theorem UV {a b:Sr}(h:2<a.length):(BV a b).getD 2 0=md ((a.getD 2 0-(BV a b).getD 0 0*b.getD 2 0-(BV a b).getD 1 0*b.getD 1 0)*inv (b.getD 0 0)):=by rw[KM h];show md (md (md (a.getD 2 0-(BV a b).getD 0 0*b.getD 2 0)-(BV a b).getD 1 0*b.getD 1 0)*inv (b.getD 0 0))=_;rw[Hc,← DP,TE,DP]
theorem Q2.op {n K:Nat}{D:Nat→List Int}{xa xb out:Nat→Sr}{zaq zbq oz:Sr}{A B E F:Int}(ha:Q2 n K D xa zaq)(hb:Q2 n K D xb zbq)(hz:DJ 1 oz)(hx:∀k,k<K→DJ 3 (out k))(hv:∀k,k<K→(out k).getD 0 0=oz.getD 0 0)
  (h1:∀k,k<K→(out k).getD 1 0=md (A*(xa k).getD 1 0+B*(xb k).getD 1 0))
  (h2:∀k,k<K→(out k).getD 2 0=md ((A*(xa k).getD 2 0+B*(xb k).getD 2 0)+(E*((xa k).getD 1 0*(xb k).getD 1 0)+F*((xb k).getD 1 0*(xb k).getD 1 0)))):Q2 n K D out oz:=by
 obtain⟨ca,ba,qa⟩:=ha.q;obtain⟨cb,bb,qb⟩:=hb.q;refine⟨hx,hz,hv,fun i=>A*ca i+B*cb i,fun i k=>(A*ba i k+B*bb i k)+(E*(ca i*cb k)+F*(cb i*cb k)),fun k hk=>⟨?_,?_⟩⟩;rw[h1 k hk,(qa k hk).1,(qb k hk).1,U6,← E8,ED,ED,E8];rw[h2 k hk,(qa k hk).1,(qb k hk).1,(qa k hk).2,(qb k hk).2,N9,N9,N9,IE,IE,IE,IE,← PS,← PS];have e:∀x y u v p q:Int,md (A*md x+B*md y+(E*(md u*md v)+F*(md p*md q)))=md (A*x+B*y+(E*(u*v)+F*(p*q))):=fun x y u v p q=>by
  rw[← E8,← E8 (A*md x),← E8 (E*_),ED A,ED B,← ED E,← ED F,DP,DP,ED E,ED F,E8 (A*x),E8 (E*_),E8]
 exact e _ _ _ _ _ _
theorem UW (c:Int):(cst 3 c).getD 1 0=0∧(cst 3 c).getD 2 0=0:=⟨rfl,rfl⟩
theorem Q2.all (n K:Nat)(D:Nat→List Int):Y3 K (fun _=>3) 1 (Q2 n K D) where
 zero:=fun x z h k hk=>by rw[h.v k hk]
 cst:=fun a ha=>⟨fun _ _=>Dp ha,Dp ha,fun _ _=>rfl,fun _=>0,fun _ _=>0,fun k _=>by
  have e1:Sy n (fun _=>0) (D k)=0:=by
   unfold Sy;refine(C5 (g:=fun _=>0*0) fun i _=>by rw[Int.zero_mul,Int.zero_mul]).trans ?_;rw[Gu,Int.zero_mul]
  have e2:Nq n (fun _ _=>0) (D k)=0:=by
   have:=IE n 0 (fun _ _=>0) (D k);simpa using this
  rw[e1,e2];exact⟨(UW a).1,(UW a).2⟩⟩
 add:=fun x z y w hx hy=>Q2.op (A:=1) (B:=1) (E:=0) (F:=0) hx hy ⟨by rw[Lc];exact hx.sz.1,GS _ _⟩ (fun k hk=>⟨by rw[Lc];exact(hx.sx k hk).1,GS _ _⟩)
  (fun k hk=>by rw[EY (by rw[(hx.sx k hk).1];decide),EY (by rw[hx.sz.1];decide),hx.v k hk,hy.v k hk]) (fun k hk=>by rw[EY (by rw[(hx.sx k hk).1];decide),Int.one_mul,Int.one_mul])
  (fun k hk=>by rw[EY (by rw[(hx.sx k hk).1];decide),Int.one_mul,Int.one_mul,Int.zero_mul,Int.zero_mul,Int.add_zero,Int.add_zero])
 red:=fun x z y w hx hy=>Q2.op (A:=1) (B:=-1) (E:=0) (F:=0) hx hy ⟨by rw[Jv];exact hx.sz.1,Jw _ _⟩ (fun k hk=>⟨by rw[Jv];exact(hx.sx k hk).1,Jw _ _⟩)
  (fun k hk=>by rw[FO (by rw[(hx.sx k hk).1];decide),FO (by rw[hx.sz.1];decide),hx.v k hk,hy.v k hk]) (fun k hk=>by rw[FO (by rw[(hx.sx k hk).1];decide)];congr 1;omega)
  (fun k hk=>by rw[FO (by rw[(hx.sx k hk).1];decide),Int.zero_mul,Int.zero_mul];congr 1;omega)
 pro:=fun x z y w hx hy=>Q2.op (A:=w.getD 0 0) (B:=z.getD 0 0) (E:=1) (F:=0) hx hy ⟨by rw[Lb];exact hx.sz.1,Jt _ _⟩ (fun k hk=>⟨by rw[Lb];exact(hx.sx k hk).1,Jt _ _⟩)
  (fun k hk=>by rw[IR (by rw[(hx.sx k hk).1];decide),IR (by rw[hx.sz.1];decide),hx.v k hk,hy.v k hk])
  (fun k hk=>by rw[NR (by rw[(hx.sx k hk).1];decide),Jp,Int.zero_add,Int.add_comm,Int.mul_comm ((x k).getD 1 0),hx.v k hk,hy.v k hk])
  (fun k hk=>by rw[UU (by rw[(hx.sx k hk).1];decide),hx.v k hk,hy.v k hk,Int.one_mul,Int.zero_mul,Int.mul_comm ((x k).getD 2 0)];congr 1;omega)
 scl:=fun x z hx=>Q2.op (A:=1000002) (B:=0) (E:=0) (F:=0) hx hx ⟨by rw[Ld];exact hx.sz.1,HY _ _⟩ (fun k hk=>⟨by rw[Ld];exact(hx.sx k hk).1,HY _ _⟩)
  (fun k hk=>by rw[G8 (by rw[(hx.sx k hk).1];decide),G8 (by rw[hx.sz.1];decide),hx.v k hk]) (fun k hk=>by rw[G8 (by rw[(hx.sx k hk).1];decide)];congr 1;omega)
  (fun k hk=>by rw[G8 (by rw[(hx.sx k hk).1];decide),Int.zero_mul,Int.zero_mul];congr 1;omega)
 quo:=fun x z y w hx hy h0=>by
  have hq:∀k,k<K→(BV (x k) (y k)).getD 0 0=(BV z w).getD 0 0:=fun k hk=>by rw[Km (by rw[(hx.sx k hk).1];decide),Km (by rw[hx.sz.1];decide),hx.v k hk,hy.v k hk]
  have hf:∀a q b i:Int,md (md (a-q*b)*i)=md (i*a+(-(q*i))*b):=fun a q b i=>by
   rw[Hc];congr 1;rw[Int.sub_mul,Int.neg_mul,Int.mul_comm a i,Int.mul_assoc,Int.mul_assoc,Int.mul_comm b i];omega
  have h1:∀k,k<K→(BV (x k) (y k)).getD 1 0=md (inv (w.getD 0 0)*(x k).getD 1 0+(-((BV z w).getD 0 0*inv (w.getD 0 0)))*(y k).getD 1 0):=fun k hk=>by rw[NS (by rw[(hx.sx k hk).1];decide),hf,hq k hk,hy.v k hk]
  refine Q2.op (A:=inv<|w.getD 0 0) (B:=-((BV z w).getD 0 0*inv (w.getD 0 0))) (E:=-(inv (w.getD 0 0)*inv (w.getD 0 0))) (F:=(BV z w).getD 0 0*inv (w.getD 0 0)*inv (w.getD 0 0)) hx hy ⟨by rw[Ju];exact hx.sz.1,HX _ _⟩ (fun k hk=>⟨by rw[Ju];exact(hx.sx k hk).1,HX _ _⟩) hq h1 fun k hk=>?_;rw[UV (by rw[(hx.sx k hk).1];decide),h1 k hk,hq k hk,hy.v k hk];generalize inv (w.getD 0 0)=i;generalize (BV z w).getD 0 0=q;generalize (x k).getD 2 0=a2;generalize (x k).getD 1 0=a1;generalize (y k).getD 2 0=b2;generalize (y k).getD 1 0=b1;have e:∀s t u:Int,md ((s-md t*u)*i)=md ((s-t*u)*i):=fun s t u=>by
   rw[← Hc,← Ij,Hc t,Ij,Hc]
  rw[e];congr 1;simp only[Int.sub_mul,Int.add_mul,Int.mul_sub,Int.mul_add,Int.neg_mul,Int.mul_neg,Int.mul_assoc,Int.mul_comm,Int.mul_left_comm];omega
section
section str
variable {P:Program} {ops:Array Oper} {w0:World} {Q:Act→World→Prop} {os:List Oper} {ks:List Nat} {N:Nat} {ρ:Nat→Value} {w:World}
 {d:Nat} {ty:TypeId} {pos:String} {aft:Array Edge} {g:Option (Nat×Bool)} {t e:TypeId}
theorem Yj {α:Type}{E:BI α}(hE:CC E){ys:List α}{b:Nat}{z u0 u1:Value}{x0 x1:Operand}(ht:P.underlying t=some (.slice e))(hi:TI P e 1 z b)(hz:z.cells=#[z])
  (hx0:Bz N ρ x0=u0) (hx1:Bz N ρ x1=u1) (hl:ys.length=2) (hels:els E w.heap [u0,u1] ys [])
  (hu:Up ops N ρ ⟨some d,.buildSlice t 2 #[(0,x0),(1,x1)],ty,pos,aft,g⟩)
  (h:∀v w1,AB w w1→w1.heap.size=w.heap.size+1→Fr (BG E e) w.heap.size w1.heap.size w1.heap v ys→LW P ops w0 Q os ks (mk N (CP ρ d v)) w1) :
  LW P ops w0 Q (⟨some d,.buildSlice t 2 #[(0,x0),(1,x1)],ty,pos,aft,g⟩::os) (3::ks) (mk N ρ) w:=by
 have hc:=hels.cells1 hE;have hr:=Tz (P:=P) (w:=w) ht hi (hc u0 (by simp)).1 (hc u1 (by simp)).1 hz;have hrun:(execOp (Bz N ρ) ⟨some d,.buildSlice t 2 #[(0,x0),(1,x1)],ty,pos,aft,g⟩).run P w=.ok (.value (.slice (some ⟨w.heap.size,0,none⟩) 2 2)) (w.alloc (.cells #[u0,u1] e)):=by
  simp only[execOp,zc,zf,zh,Sem.run_bind,hx0,hx1,hr,Result.andThen_ok,Sem.run_pure]
 refine Gt rfl hu _ _ hrun (BA _ _)<|h _ _ (BA _ _) (by simp) ?_;have hn:=H8 (e:=e) (w:=w) hE (us:=[u0,u1]) (xs:=ys) (F:=[]) (cur:=#[u0,u1]) hels (by simp[maxLen]) (by rw[hl];rfl) (by rw[hl];simp);rw[hl]at hn;refine⟨_,hn,?_,fun c hc=>?_⟩;rw[List.nodup_cons];exact⟨fun hm=>(by cases hm),zk⟩;rcases ze.1 hc with rfl|hc;exact⟨A7 _,by simp⟩;cases hc
theorem ON {x:Operand}{u:Value}(hx:Bz N ρ x=u)(hc:u.cells=#[u])(hu:Up ops N ρ ⟨some d,.box t x,ty,pos,aft,g⟩)
  (h:∀w1,AB w w1→w1.heap.size=w.heap.size+1→BX w1.heap w.heap.size [u]→LW P ops w0 Q os ks (mk N (CP ρ d (.pointer (some ⟨w.heap.size,0,none⟩)))) w1) :
  LW P ops w0 Q (⟨some d,.box t x,ty,pos,aft,g⟩::os) (3::ks) (mk N ρ) w:=by
 have hrun:(execOp (Bz N ρ) ⟨some d,.box t x,ty,pos,aft,g⟩).run P w=.ok (.value (.pointer (some ⟨w.heap.size,0,none⟩))) (w.alloc (.cells #[u] t)):=by
  simp[execOp,Instr.box,newVar,newRow,hx,hc]
 refine Gt rfl hu _ _ hrun (BA _ _)<|h _ (BA _ _) (by simp) ⟨t,?_⟩;have:=heap_alloc_new w (.cells #[u] t);simpa using this
end str
theorem Yk {H:Array Obj}{a b:Int}(h0:-9223372036854775808≤a∧a≤9223372036854775807)(h1:-9223372036854775808≤b∧b≤9223372036854775807):els rI H [.int .i64 a,.int .i64 b] [a,b] [] :=
 ⟨[],[],rfl,⟨rfl,rfl,h0⟩,[],[],rfl,⟨rfl,rfl,h1⟩,rfl⟩
end
def Ey (p:List Fn)(f pk:Nat)(a d:List Int)(o:Nat):Int:=((Oh p (o+1) f (Dk a d (o+1))).getD pk []).getD o 0
theorem U7 (a d:List Int)(o:Nat):(Dk a d (o+1)).map (DW 1)=BW a:=by refine X3 (by rw[zg,BY];unfold BW;rw[zg]) fun k hk=>?_;rw[zg,BY]at hk;rw[BU (d:=[]) (by rw[BY];exact hk),Em hk];unfold BW;rw[BU (d:=0) hk];cases o <;> rfl
theorem Xf (p:List Fn)(f:Nat)(a d:List Int)(o:Nat):Gp p (o+1) f (Dk a d (o+1))=DA p f a:=by unfold DA;rw[← Py p (A7 1) (show 1≤o+1 by omega),U7]
theorem Xg {p:List Fn}{f pk:Nat}{a d:List Int}{o:Nat}(h:QN p (o+1) f (Dk a d (o+1))):0≤Ey p f pk a d o∧Ey p f pk a d o<1000003:=by
 unfold Ey;by_cases hk:pk<(Oh p (o+1) f (Dk a d (o+1))).length;exact Cd (h.ser pk hk).2 o;have:(Oh p (o+1) f (Dk a d (o+1))).getD pk []=[]:=by
  rw[List.getD_eq_getElem?_getD,List.getElem?_eq_none (by omega)];rfl
 rw[this];show(0:Int)≤0∧(0:Int)<1000003;omega
def Xh (ps:List Int)(j:Nat):Nat→Int
 |0=>0
 |i+1=>Xh ps j i+if (ps.getD i 0).toNat=j then 1 else 0
theorem O0 {n:Nat}{ps:List Int}{j:Nat}:∀m,(∀i,i<m→0≤ps.getD i 0∧ps.getD i 0<((n:Nat):Int))→(Ce n ps m).getD j 0=md (Xh ps j m)
 |0,_=>by show(List.replicate n (0:Int)).getD j 0=_;rw[PK];rfl
 |m+1,h=>by
  have ih:=fun j=>O0 (n:=n) (ps:=ps) (j:=j) m fun i hi=>h i zO
  have hm:=h m zO
  show((Ce n ps m).set (ps.getD m 0).toNat (md ((Ce n ps m).getD (ps.getD m 0).toNat 0+1))).getD j 0=md (Xh ps j m+_)
  rw[RW,I3,ih]
  by_cases e:(ps.getD m 0).toNat=j
  rw[if_pos ⟨e.symm,zO⟩,if_pos e,e,Jp]
  rw[if_neg zO,if_neg e,ih,Int.add_zero]
def K7 (n:Nat)(b:Nat→Nat→Int)(u v:Nat→Int):Int:=sm n fun i=>sm n fun k=>b i k*(u i*v k)
theorem O1 (n:Nat)(b:Nat→Nat→Int)(u u' v:Nat→Int):K7 n b (fun i=>u i+u' i) v=K7 n b u v+K7 n b u' v:=by unfold K7;rw[← G0];refine C5 fun i _=>?_;rw[← G0];exact C5 fun k _=>by rw[Int.add_mul,Int.mul_add]
theorem JG (n:Nat)(b:Nat→Nat→Int)(u v v':Nat→Int):K7 n b u (fun i=>v i+v' i)=K7 n b u v+K7 n b u v':=by unfold K7;rw[← G0];refine C5 fun i _=>?_;rw[← G0];exact C5 fun k _=>by rw[Int.mul_add,Int.mul_add]
def dl (i:Nat)(j:Nat):Int:=if i=j then 1 else 0
theorem Sz {n i:Nat}(g:Nat→Int)(hi:i<n):(sm n fun j=>dl i j*g j)=g i:=by
 have:(sm n fun j=>dl i j*g j)=sm n fun j=>if i=j then g j else 0:=C5 fun j _=>by
  unfold dl;by_cases e:i=j;rw[if_pos e,if_pos e,Int.one_mul];rw[if_neg e,if_neg e,Int.zero_mul]
 rw[this,NG,if_pos hi]
theorem Yl {n i:Nat}(b:Nat→Nat→Int)(v:Nat→Int)(hi:i<n):K7 n b (dl i) v=sm n fun k=>b i k*v k:=by
 unfold K7;have:(sm n fun j=>sm n fun k=>b j k*(dl i j*v k))=sm n fun j=>dl i j*(sm n fun k=>b j k*v k):=C5 fun j _=>by
  rw[← Gu];exact C5 fun k _=>by rw[Int.mul_left_comm]
 rw[this,Sz (fun j=>sm n fun k=>b j k*v k) hi]
theorem O2 {n i k:Nat}(b:Nat→Nat→Int)(hi:i<n)(hk:k<n):K7 n b (dl i) (dl k)=b i k:=by rw[Yl b _ hi];have:(sm n fun j=>b i j*dl k j)=sm n fun j=>dl k j*b i j:=C5 fun j _=>Int.mul_comm _ _;rw[this,Sz (fun j=>b i j) hk]
theorem OO {n:Nat}{b:Nat→Nat→Int}{u u' v v':Nat→Int}(hu:∀i,i<n→md (u i)=md (u' i))(hv:∀i,i<n→md (v i)=md (v' i)):md (K7 n b u v)=md (K7 n b u' v'):=by unfold K7;refine NF fun i hi=>NF fun k hk=>?_;rw[← ED,← DP (u i),hu i hi,hv k hk,DP,ED]
theorem O3 (n:Nat)(b:Nat→Nat→Int)(d:List Int):Nq n b d=K7 n b (fun i=>d.getD i 0) (fun i=>d.getD i 0):=rfl
theorem U8 {p:List Fn}{f pk:Nat}{a:List Int}(h:aB p f a)(hpk:pk<(p.getD f Fn.zero).outs.length)(L:List (List Int))(hL:∀d∈L,Bj d=true) :
  ∃b,∀d∈L,Ey p f pk a d 2=md (Nq a.length b d):=by
 have hR:=ZY (Q2.all a.length L.length fun k=>L.getD k []) h.v (m:=a.length) (a:=fun k=>Dk a (L.getD k []) 3) (az:=BW a) h.lt
  ⟨HZ a,fun k _=>BY _ _ _,fun i hi=>⟨fun k=>(Dk a (L.getD k []) 3).getD i [],fun _ _=>rfl,by
   have hs:(BW a).getD i []=[a.getD i 0]:=by unfold BW;rw[BU (d:=0) hi]
   refine⟨fun k hk=>Fv h.n (hL _ (MX hk)) i (by rw[BY];exact hi),G7 h.n i (by rw[HZ];exact hi),fun k _=>by rw[Em hi,hs];rfl,fun j=>if i=j then 1 else 0,fun _ _=>0,fun k hk=>⟨?_,?_⟩⟩;have e1:Sy a.length (fun j=>if i=j then 1 else 0) (L.getD k [])=(L.getD k []).getD i 0:=by
    have:=Sz (n:=a.length) (fun j=>(L.getD k []).getD j 0) hi;exact this
   rw[Em hi,e1];have:=Cd (hL _ (MX (d:=[]) hk)) i;exact (Mr this.1 this.2).symm;have e2:Nq a.length (fun _ _=>0) (L.getD k [])=0:=by
    have:=IE a.length 0 (fun _ _=>0) (L.getD k []);simpa using this
   rw[Em hi,e2];rfl⟩⟩ h.l
 obtain⟨z,t,he,_,_⟩:=Xa h.v h.lt (G7 h.n) (by rw[HZ];exact h.l) h.z;rw[he]at hR;obtain⟨x,h1,h2⟩:=hR;obtain⟨y,h3,h4⟩:=h2.2.2 pk hpk;obtain⟨c,b,hq⟩:=h4.q;refine⟨b,fun d hd=>?_⟩;obtain⟨k,hk,rfl⟩:=List.mem_iff_getElem.1 hd;have e:L.getD k []=L[k]:=G3 hk;have:=(hq k hk).2;rw[← h3 k hk,e]at this;have hx:ev p 3 f (Dk a (L.getD k []) 3)=Rs.ok (x k) t:=h1 k hk;rw[e]at hx;unfold Ey;rw[I1 hx];exact this
def Ok (p:List Fn)(f pk:Nat)(a:List Int)(i k:Nat):Int:=if i=k then md (2*Ey p f pk a (Ce a.length [((i:Nat):Int)] 1) 2)else md (Ey p f pk a (Ce a.length [((i:Nat):Int),((k:Nat):Int)] 2) 2-(Ey p f pk a (Ce a.length [((i:Nat):Int)] 1) 2+Ey p f pk a (Ce a.length [((k:Nat):Int)] 1) 2))
def QG (p:List Fn)(f pk:Nat)(a:List Int)(i k:Nat):List Int:=DK k (Ok p f pk a i)
def KY (p:List Fn)(f pk:Nat)(a:List Int)(i:Nat):List (List Int):=DK i fun i=>QG p f pk a i a.length
theorem SA {p:List Fn}{f pk:Nat}{a:List Int}{i k:Nat}(h:((i:Nat):Int)=((k:Nat):Int)):QG p f pk a i k++[md (((2:Nat):Int)*Ey p f pk a (Ce a.length [((i:Nat):Int)] 1) 2)]=QG p f pk a i (k+1):=by
 have e:md (((2:Nat):Int)*Ey p f pk a (Ce a.length [((i:Nat):Int)] 1) 2)=Ok p f pk a i k:=by unfold Ok;rw[if_pos (by omega)];rfl
 rw[e];exact(FB k (Ok p f pk a i)).symm
theorem SB {p:List Fn}{f pk:Nat}{a:List Int}{i k:Nat}(h:¬((i:Nat):Int)=((k:Nat):Int)):QG p f pk a i k++[md (Ey p f pk a (Ce a.length [((i:Nat):Int),((k:Nat):Int)] 2) 2-(Ey p f pk a (Ce a.length [((i:Nat):Int)] 1) 2+Ey p f pk a (Ce a.length [((k:Nat):Int)] 1) 2))]=QG p f pk a i (k+1):=by
 have e:md (Ey p f pk a (Ce a.length [((i:Nat):Int),((k:Nat):Int)] 2) 2-(Ey p f pk a (Ce a.length [((i:Nat):Int)] 1) 2+Ey p f pk a (Ce a.length [((k:Nat):Int)] 1) 2))=Ok p f pk a i k:=by unfold Ok;rw[if_neg (by omega)]
 rw[e];exact(FB k (Ok p f pk a i)).symm
theorem SD (p:List Fn)(f pk:Nat)(a:List Int)(i:Nat):KY p f pk a i++[QG p f pk a i a.length]=KY p f pk a (i+1):=(FB i fun i=>QG p f pk a i a.length).symm
@[simp] theorem JH (p:List Fn)(f pk:Nat)(a:List Int)(i k:Nat):(QG p f pk a i k).length=k:=by simp[QG]
@[simp] theorem Hh (p:List Fn)(f pk:Nat)(a:List Int)(i:Nat):(KY p f pk a i).length=i:=by simp[KY]
theorem U9 (p:List Fn)(f pk:Nat)(a:List Int)(i k:Nat):0≤Ok p f pk a i k∧Ok p f pk a i k<1000003:=by unfold Ok;split <;> exact Ct _
theorem OP {p:List Fn}{f pk:Nat}{a:List Int}{i n:Nat}(h:i<n):(KY p f pk a n).getD i []=QG p f pk a i a.length:=CM [] h
theorem Ud (p:List Fn)(f pk:Nat)(a:List Int)(i k:Nat):Bj (QG p f pk a i k)=true:=Js fun _ _=>U9 _ _ _ _ _ _
theorem PT (f:Nat→Nat→Int)(m:Nat):∀n,(sm n fun i=>sm m fun j=>f i j)=sm m fun j=>sm n fun i=>f i j
 |0=>by
  have h:(sm m fun j=>sm 0 fun i=>f i j)=sm m fun j=>0*0:=C5 fun j _=>rfl
  rw[h,Gu,Int.zero_mul];rfl
 |n+1=>by
  show(sm n fun i=>sm m fun j=>f i j)+(sm m fun j=>f n j)=_
  rw[PT f m n,← G0]
  exact C5 fun j _=>rfl
section
section
variable {p:List Fn} {f k:Nat} {a u v d:List Int} {xs ws:List Int} {T:Tp}
theorem Ym {pk:Nat}{b:Nat→Nat→Int}(hb1:∀i,i<a.length→Ey p f pk a (Ce a.length [((i:Nat):Int)] 1) 2=md (Nq a.length b (Ce a.length [((i:Nat):Int)] 1)))
  (hb2:∀i k,i<a.length→k<a.length→Ey p f pk a (Ce a.length [((i:Nat):Int),((k:Nat):Int)] 2) 2=md (Nq a.length b (Ce a.length [((i:Nat):Int),((k:Nat):Int)] 2))) {i k:Nat} (hi:i<a.length) (hk:k<a.length) :
  Ok p f pk a i k=md (b i k+b k i):=by
 have h1:∀i,i<a.length→Ey p f pk a (Ce a.length [((i:Nat):Int)] 1) 2=md (b i i):=fun i hi=>by
  rw[hb1 i hi,O3,← O2 b hi hi];refine OO (fun j _=>?_) (fun j _=>?_) <;>
  ·rw[show(Ce a.length [((i:Nat):Int)] 1).getD j 0=if i=j then 1 else 0 from X9 hi];rfl
 have h2:Ey p f pk a (Ce a.length [((i:Nat):Int),((k:Nat):Int)] 2) 2=md (b i i+b i k+b k i+b k k):=by
  rw[hb2 i k hi hk,O3];have e:md (K7 a.length b (fun j=>(Ce a.length [((i:Nat):Int),((k:Nat):Int)] 2).getD j 0) (fun j=>(Ce a.length [((i:Nat):Int),((k:Nat):Int)] 2).getD j 0))=md (K7 a.length b (fun j=>dl i j+dl k j) (fun j=>dl i j+dl k j)):=by
   have hg:∀j,md ((Ce a.length [((i:Nat):Int),((k:Nat):Int)] 2).getD j 0)=md (dl i j+dl k j):=fun j=>by
    rw[O0 2 (fun q hq=>by
     match q,hq with
     |0,_=>exact⟨Int.natCast_nonneg i,by show((i:Nat):Int)<_;omega⟩
     |1,_=>exact⟨Int.natCast_nonneg k,by show((k:Nat):Int)<_;omega⟩),Hw]
    show md (0+_+_)=_;simp only[List.getD_cons_zero,List.getD_cons_succ,Int.toNat_natCast,Int.zero_add];rfl
   exact OO (fun j _=>hg j) fun j _=>hg j
  rw[e,O1,JG,JG,O2 b hi hi,O2 b hi hk,O2 b hk hi,O2 b hk hk];congr 1;omega
 unfold Ok;by_cases e:i=k;subst e;rw[if_pos rfl,h1 i hi,ED];congr 1;omega;rw[if_neg e,h2,h1 i hi,h1 k hk];generalize b i i=x;generalize b k k=y;unfold md;omega
end
end
section
section ops
variable {P:Program} {ops:Array Oper} {w0:World} {Q:Act→World→Prop} {os:List Oper} {ks:List Nat} {N:Nat} {ρ:Nat→Value} {w:World}
 {d:Nat} {ty:TypeId} {pos:String} {aft:Array Edge} {g:Option (Nat×Bool)} {t e:TypeId} {z:Value} {b:Nat}
theorem IF {x y:Operand}{v a:Value}{xs ys:List Int}{B T B' U':Nat}{F:List Nat}(ht:P.underlying t=some (.slice e))(hi:TI P e 1 z b)(hz:z.cells=#[z])(hx:Bz N ρ x=v)(hy:Bz N ρ y=a)(hv:Ow (BG rI e) B T w.heap v xs F)
  (ha:Fr (BG rI e) B' U' w.heap a ys) (hT:T≤w.heap.size) (hBB:B≤B') (hBw:B'≤w.heap.size) (hbytes:(xs.length+ys.length)*b≤140737488355328) (hmx:xs.length+ys.length≤maxLen) (hu:Up ops N ρ ⟨some d,.call ⟨.builtin .append,#[x,y],#[t,t]⟩,ty,pos,aft,g⟩)
  (h:∀v1 w1 F1,AG (F.take 1) w w1→Ow (BG rI e) B w1.heap.size w1.heap v1 (xs++ys) F1→(∀c∈F1,c∈F∨w.heap.size≤c)→LW P ops w0 Q os ks (mk N (CP ρ d v1)) w1) :
  LW P ops w0 Q (⟨some d,.call ⟨.builtin .append,#[x,y],#[t,t]⟩,ty,pos,aft,g⟩::os) (4::ks) (mk N ρ) w:=by
 obtain⟨h1,h2,h3,h4⟩:=hv;obtain⟨G,g1',g2',g3'⟩:=ha;have hG1:G.drop 1=[]:=by
  rcases g1' with⟨_,_,rfl⟩|⟨vs,gb,cap,cur,F',hels,_,_,_,_,_,_,rfl⟩;rfl;rw[L8 hels];rfl
 obtain⟨v',w',F',r1,r2,r3,r4,r5⟩:=KH (P:=P) (ty:=ty) B1 ht hi hz h1 h2 (g1'.rd id) rfl hbytes hmx (by rw[hG1];intro c hc;cases hc) (by rw[hG1];exact zk);rw[hG1]at r4;refine MO rfl hu v' w' (by simp only[execOp,resolve,invoke,builtin,zc,zf,zh,Sem.run_bind,Sem.run_pure,Result.andThen_ok,hx,hy,r1]) (h v' w' F' r5 ⟨r2,r3,fun c hc=>?_,fun c hc=>(DM B1).lt r2 c hc⟩ fun c hc=>?_);rcases r4 c hc with hh|hh|hh;exact h3 c hh;cases hh;omega;rcases r4 c hc with hh|hh|hh;exact .inl hh;cases hh;exact .inr zO
end ops
end
def SE (p:List Fn)(k:Nat):Bool:=p.any fun g=>FA g.name (Cb (p.length+k))
def ZF (p:List Fn):Bool:=(List.range p.length).any (SE p)
def Hi (p:List Fn):Int:=if Es p=true then(if ZF p=true then 4 else if Es (B3 p Cb)=true then 0 else 3)else 1
def XJ (p:List Fn):List Fn:=if Hi p=0 then B3 p Cb else []
theorem Kn {p:List Fn}(h:¬Es p=true):Hi p=1:=by unfold Hi;rw[if_neg h]
theorem Ko {p:List Fn}(h:Es p=true){k:Nat}(hk:k<p.length)(hc:SE p k=true):Hi p=4:=by unfold Hi;rw[if_pos h,if_pos];unfold ZF;rw[List.any_eq_true];exact⟨k,List.mem_range.2 hk,hc⟩
theorem UX {p:List Fn}(h:∀k,k<p.length→SE p k=false):¬ZF p=true:=by unfold ZF;rw[List.any_eq_true];rintro⟨k,hk,hc⟩;rw[h k (List.mem_range.1 hk)]at hc;cases hc
theorem Kp {p:List Fn}(h:Es p=true)(hc:∀k,k<p.length→SE p k=false)(h3:¬Es (B3 p Cb)=true):Hi p=3:=by unfold Hi;rw[if_pos h,if_neg (UX hc),if_neg h3]
theorem Kq {p:List Fn}(h:Es p=true)(hc:∀k,k<p.length→SE p k=false)(h3:Es (B3 p Cb)=true):Hi p=0:=by unfold Hi;rw[if_pos h,if_neg (UX hc),if_pos h3]
theorem UY {p:List Fn}(h:¬Hi p=0):XJ p=[]:=by unfold XJ;rw[if_neg h]
theorem MF {p:List Fn}(h:Hi p=0):XJ p=B3 p Cb:=by unfold XJ;rw[if_pos h]
theorem MG (p:List Fn)(k:Nat):p++DK (k+1) (Dl p Cb)=(p++DK k (Dl p Cb))++[Dl p Cb k]:=by rw[FB,List.append_assoc]
section
theorem PU {n:Nat}(h:n<10):Cw n=In n:=by unfold Cw In;rw[Lib.decDigits];simp[h]
theorem Xi (l m:List UInt8):(⟨(l++m).toArray⟩:ByteArray)=⟨l.toArray⟩++⟨m.toArray⟩:=by apply ByteArray.ext;rw[ByteArray.data_append];simp
theorem PW {n:Nat}(h:10≤n):Cw n=Cw (n / 10)++In (n % 10):=by unfold Cw In;rw[Lib.decDigits,dif_neg zO,Xi]
theorem Ue (n:Nat):(Cw n).size≤n+1:=by
 induction n using Nat.strongRecOn with
 |ind n ih =>
  by_cases h:n<10;rw[PU h,Lh];omega;rw[PW zO,ByteArray.size_append,Lh];have:=ih (n / 10) zO;omega
theorem Uf {n:Int}(h0:0≤n):(⟨#[UInt8.ofNat (IntKind.u8.wrap (((48:Nat):Int)+n.tmod ((10:Nat):Int))).toNat]⟩:ByteArray)=In (n.toNat % 10):=by
 obtain⟨k,rfl⟩:∃k:Nat,n=k:=⟨n.toNat,zO⟩;have h:((k:Nat):Int).tmod ((10:Nat):Int)=((k % 10:Nat):Int):=by
  rw[Int.tmod_eq_emod_of_nonneg (by omega)];omega
 rw[h,OB zO (by omega)];rfl
section
variable {P:Program} {ops:Array Oper} {w0 w:World} {Q:Act→World→Prop} {os:List Oper} {ks:List Nat} {N:Nat} {ρ:Nat→Value} {d:Nat} {ty:TypeId} {pos:String} {aft:Array Edge} {g:Option (Nat × Bool)} {e:TypeId}
theorem SF {st dt:TypeId}{x:Operand}{v:Value}{n:Int}{B U:Nat}(hs:P.underlying st=some (.slice e))(he:P.underlying e=some (.int .u8))(hd:P.underlying dt=some .string)(hx:Bz N ρ x=v)(hv:Fr (BG rV e) B U w.heap v [.int .u8 n])
  (hu:Up ops N ρ ⟨some d,.convert st dt x,ty,pos,aft,g⟩) (h:LW P ops w0 Q os ks (mk N (CP ρ d (.string ⟨#[UInt8.ofNat n.toNat]⟩))) w) :
  LW P ops w0 Q (⟨some d,.convert st dt x,ty,pos,aft,g⟩::os) (3::ks) (mk N ρ) w:=by
 obtain⟨F,hv,_,_⟩:=hv;rcases hv with⟨_,hc,_⟩|⟨us,b,cap,cur,F',hels,rfl,hg,q1,q2,q3,q4,rfl⟩;cases hc;obtain⟨rfl,rfl⟩:=Hb hels;refine Gt rfl hu _ w ?_ (AB.refl w) h;have hlc:=run_loadCells_list (P:=P) w ⟨b,0,none⟩ [.int .u8 n] (fun j u hj=>by
  rw[FH,BT];simp only[CB,hg];have hj0:j=0:=by have:=(List.getElem?_eq_some_iff.1 hj).1;simpa using this
  subst hj0;have e1:cur.toList[0]? = some (.int .u8 n):=by
   have:(cur.toList.take 1)[0]? = some (.int .u8 n):=by rw[show cur.toList.take 1=[.int .u8 n]from q4];rfl
   rwa [List.getElem?_take,if_pos (by decide)]at this
  have e2:u=.int .u8 n:=by simpa using hj.symm
  rw[e2];simpa using e1)
 have hb:=run_bytesToString (P:=P) w ⟨b,0,none⟩ 1 cap [n] (by simpa using hlc);have hr:=run_convert_bytes_string (P:=P) w st dt e (some ⟨b,0,none⟩) 1 cap hs he hd;simp only[execOp,hx,zd,Sem.run_bind,hr,hb,Result.andThen_ok,Sem.run_pure];rfl
end
end
section
theorem Yn {p:List Fn}{k:Nat}(h:∀i,i<p.length→FA (p.getD i Fn.zero).name (Cb (p.length+k))=false):SE p k=false:=by
 unfold SE;rw[List.any_eq_false]
 intro g hg;obtain⟨j,hj,rfl⟩:=List.mem_iff_getElem.1 hg;have h9:=h j hj;rw[G3 hj]at h9;simp[h9]
theorem PX {p:List Fn}{k i:Nat}(hi:i<p.length)(h:FA (p.getD i Fn.zero).name (Cb (p.length+k))=true):SE p k=true:=by unfold SE;rw[List.any_eq_true];exact⟨_,List.getElem_mem hi,by rwa [G3 hi]at h⟩
theorem FrF.le {e t:TypeId}{d d' B U:Nat}{H:Array Obj}{v:Value}{xs:List Fn}(h:Fr (BP 3 (JQ e d) t) B U H v xs)(hd:d≤d'):Fr (BP 3 (JQ e d') t) B U H v xs:=by obtain⟨F,h,h2,h3⟩:=h;refine⟨F,h.imp fun q=>?_,h2,h3⟩;obtain⟨v,q1,q2,q3⟩:=q;exact⟨v,q1,q2,q3.imp fun q=>N0 e q hd⟩
theorem Bo.bnd {α:Type}{E:BI α}(hE:CC E){S:Nat→Prop}{w:World}{v:Value}{x:α}(h:Bo E S w.heap v x):Bo E (fun b=>S b∧b<w.heap.size) w.heap v x:=by obtain⟨G,h1,h2,h3⟩:=h;exact⟨G,h1,h2,fun b hb=>⟨h3 b hb,hE.lt h1 b hb⟩⟩
section
variable {P:Program} {ops:Array Oper} {w0 w:World} {Q:Act→World→Prop} {os:List Oper} {ks:List Nat} {N:Nat} {ρ:Nat→Value} {d:Nat} {ty:TypeId} {pos:String} {aft:Array Edge} {g:Option (Nat × Bool)} {t e:TypeId} {z:Value} {b s:Nat} {α:Type} {E:Ci α}
theorem Ug (hE:Db s E){x y:Operand}{v a:Value}{xs:List α}{y0:α}{S T:Nat→Prop}(ht:P.underlying t=some (.slice e))(hi:TI P e s z b)(hz:z.cells.size=s)(hs:0<s)(hx:Bz N ρ x=v)(hy:Bz N ρ y=a)(hv:Bo (BP s E e) S w.heap v xs)
  (ha:Bo (BP s E e) T w.heap a [y0]) (hT:∀b,S b→T b→False) (hbytes:(xs.length+1)*b≤140737488355328) (hmx:xs.length+1≤maxLen) (hu:Up ops N ρ ⟨some d,.call ⟨.builtin .append,#[x,y],#[t,t]⟩,ty,pos,aft,g⟩)
  (h:∀v1 w1 F,AG F w w1→(∀c∈F,S c)→Bo (BP s E e) (fun b=>S b∨T b∨b=w.heap.size) w1.heap v1 (xs++[y0])→LW P ops w0 Q os ks (mk N (CP ρ d v1)) w1) :
  LW P ops w0 Q (⟨some d,.call ⟨.builtin .append,#[x,y],#[t,t]⟩,ty,pos,aft,g⟩::os) (4::ks) (mk N ρ) w:=by
 obtain⟨v1,w1,F,r1,r2,r3,r4⟩:=Nz (P:=P) (ty:=ty) hE ht hi hz hs (S:=S) (T:=T) hv ha hT hbytes hmx;exact MO rfl hu v1 w1 (by simp only[execOp,resolve,invoke,builtin,zc,zf,zh,Sem.run_bind,Sem.run_pure,Result.andThen_ok,hx,hy,r1])<|h v1 w1 F r3 r4 r2
end
end
theorem MH (b:Bool):∀(l:List Ex)(vs:List Int)(c:Int)(i:Nat),(∀e∈l,∀vs c,(At vs c e).size≤e.size)→Ex.sizes (FI b vs c i l)≤Ex.sizes l
 |[],vs,c,i,_=>by rw[FI];exact A7 _
 |e::l,vs,c,i,h=>by
  rw[FI,Ex.sizes,Ex.sizes]
  have h1:=h e (z0 ..) (if b=true∧i=1 then vs++[c]else vs) (if b=true∧i=1 then c+1 else c)
  have h2:=MH b l vs c (i+1) fun x hx=>h x<|z3 _ hx
  omega
theorem Lr {e:Ex}:∀ {l:List Ex},e∈l→e.size≤Ex.sizes l
 |x::l,h=>by
  rw[Ex.sizes]
  rcases ze.1 h with rfl|h
  omega
  have:=Lr h;omega
theorem O4 {e:Ex}:∀ {l:List Ex},e∈l→e.deep≤Ex.deeps l
 |x::l,h=>by
  rw[Ex.deeps]
  rcases ze.1 h with rfl|h
  omega
  have:=O4 h;omega
theorem O5:∀(z:Nat)(e:Ex),e.size≤z→∀(vs:List Int)(c:Int),(At vs c e).size≤e.size:=by
 intro z
 induction z with
 |zero=>intro e h;have:=Be e;omega
 |succ z ih =>
  intro e h vs c;have hk:=Be e;rw[KV];split;rw[Ex.size,Ex.sizes];omega;rw[Ex.size];have:=MH (decide (e.kind=9)) e.kids vs c 0 fun x hx=>ih x (by have:=Lr hx;omega);omega
theorem K8 (vs:List Int)(c:Int):∀l:List Ex,Ex.sizes (l.map (At vs c))≤Ex.sizes l
 |[]=>A7 _
 |e::l=>by
  rw[zf,Ex.sizes,Ex.sizes]
  have:=K8 vs c l;have:=O5 _ e (A7 _) vs c;omega
theorem GB:∀l m:List Ex,Ex.sizes (l++m)=Ex.sizes l+Ex.sizes m
 |[],m=>by rw[zl,Ex.sizes];omega
 |e::l,m=>by rw[List.cons_append,Ex.sizes,Ex.sizes,GB l m];omega
theorem K9 {p:List Fn}{vs ds:List Int}{c:Int}{d:Nat}:∀l:List Ex,(∀e∈l,(Am p vs ds c e).size≤4*(e.size*d))→Ex.sizes (l.map (Am p vs ds c))≤4*(Ex.sizes l*d)
 |[],_=>by rw[zh,Ex.sizes];omega
 |e::l,h=>by
  rw[zf,Ex.sizes,Ex.sizes,Nat.add_mul]
  have h1:=h e (z0 ..);have h2:=K9 l fun x hx=>h x (z3 _ hx);omega
theorem SG (p:List Fn)(F:Int):∀(z:Nat)(e:Ex),e.size≤z→∀(vs ds:List Int)(c vars:Int),wf p F e vars=true→(Am p vs ds c e).size≤4*(e.size*e.deep):=by
 intro z
 induction z with
 |zero=>intro e h;have:=Be e;omega
 |succ z ih =>
  intro e h vs ds c vars hw;have hk:=Be e;have hd:=Er e;obtain⟨w1,w2,w3,w4,w5,w6,w7,w8⟩:=C0 (BS hw);have K:∀j,j<e.kids.length→∀vs ds c,(Am p vs ds c (e.kids.getD j Ex.zero)).size≤4*((e.kids.getD j Ex.zero).size*Ex.deeps e.kids):=by
   intro j hj vs ds c;have hm:e.kids.getD j Ex.zero∈e.kids:=by rw[List.getD_eq_getElem?_getD,List.getElem?_eq_getElem hj];exact List.getElem_mem hj
   have h1:=Lr hm;have h2:=O4 hm;have h3:(Am p vs ds c (e.kids.getD j Ex.zero)).size≤4*((e.kids.getD j Ex.zero).size*(e.kids.getD j Ex.zero).deep):=by
    by_cases h9:e.kind=9∧j=1;obtain⟨h9,rfl⟩:=h9;exact ih _ zO vs ds c _ (G5 hw hj h9);exact ih _ zO vs ds c _<|C9 hw hj h9
   have:=Nat.mul_le_mul_left (e.kids.getD j Ex.zero).size h2;omega
  have V:∀x vs c,(At vs c x).size≤x.size:=fun x vs c=>O5 _ x (A7 _) vs c;rw[hd,Nat.mul_add,Nat.mul_one,hk,Nat.add_mul,Nat.one_mul];have two:e.kids.length=2→e.kids=[e.kids.getD 0 Ex.zero,e.kids.getD 1 Ex.zero]:=fun hl=>by
   match e.kids,hl with
   |[a,b],_=>rfl
  have three:e.kids.length=3→e.kids=[e.kids.getD 0 Ex.zero,e.kids.getD 1 Ex.zero,e.kids.getD 2 Ex.zero]:=fun hl=>by
   match e.kids,hl with
   |[a,b,c],_=>rfl
  have one:e.kids.length=1→e.kids=[e.kids.getD 0 Ex.zero]:=fun hl=>by
   match e.kids,hl with
   |[a],_=>rfl
  generalize hgd:Ex.deeps e.kids=d at K ⊢;have S2:e.kids.length=2→Ex.sizes e.kids=(e.kids.getD 0 Ex.zero).size+(e.kids.getD 1 Ex.zero).size:=fun hl=>(congrArg Ex.sizes (two hl)).trans (by simp only[Ex.sizes,Nat.add_zero]);have S1:e.kids.length=1→Ex.sizes e.kids=(e.kids.getD 0 Ex.zero).size:=fun hl=>(congrArg Ex.sizes (one hl)).trans (by simp only[Ex.sizes,Nat.add_zero]);have S3:e.kids.length=3→Ex.sizes e.kids=(e.kids.getD 0 Ex.zero).size+((e.kids.getD 1 Ex.zero).size+(e.kids.getD 2 Ex.zero).size):=fun hl=>(congrArg Ex.sizes (three hl)).trans (by simp only[Ex.sizes,Nat.add_zero]);have two':e.kids.length=2→Ex.sizes e.kids*d=(e.kids.getD 0 Ex.zero).size*d+(e.kids.getD 1 Ex.zero).size*d:=fun hl=>by rw[S2 hl,Nat.add_mul]
  have v0:=V (e.kids.getD 0 Ex.zero) vs c;have v1:=V (e.kids.getD 1 Ex.zero) vs c;have p0:=Be (e.kids.getD 0 Ex.zero);have p1:=Be (e.kids.getD 1 Ex.zero);rcases w1 with k|k|k|k|k|k|k|k|k|k|k;rw[EJ k,Ex.size,Ex.sizes];omega;rw[EK k,Ex.size,Ex.sizes];omega;have hl:=w3 zO;have:=K 0 zO vs ds c;have:=K 1 zO vs ds c;have:=S2 hl;have:=two' hl;rw[DX (.inl k) hl];simp only[Ex.size,Ex.sizes];omega;have hl:=w3 zO;have:=K 0 zO vs ds c;have:=K 1 zO vs ds c;have:=S2 hl;have:=two' hl;rw[DX (.inr k) hl];simp only[Ex.size,Ex.sizes];omega;have hl:=w3 zO;have:=K 0 zO vs ds c;have:=K 1 zO vs ds c;have:=S2 hl;have:=two' hl;rw[E9 k hl];simp only[Ex.size,Ex.sizes];omega;have hl:=w3 zO;have:=K 0 zO vs ds c;have:=K 1 zO vs ds c;have:=S2 hl;have:=two' hl;rw[Ea k hl];simp only[Ex.size,Ex.sizes];omega;have hl:=w4 zO;have:=K 0 zO vs ds c;have q:=S1 hl;have q2:Ex.sizes e.kids*d=(e.kids.getD 0 Ex.zero).size*d:=by rw[q]
  rw[EL k hl];simp only[Ex.size,Ex.sizes];omega;have hl:=w5 zO;have:=K 0 zO vs ds c;have:=K 1 zO vs ds c;have:=K 2 zO vs ds c;have q:=S3 hl;have q2:Ex.sizes e.kids*d=(e.kids.getD 0 Ex.zero).size*d+((e.kids.getD 1 Ex.zero).size*d+(e.kids.getD 2 Ex.zero).size*d):=by rw[q,Nat.add_mul,Nat.add_mul]
  rw[EM k hl];simp only[Ex.size,Ex.sizes];omega;have hl:=w3 zO;have:=K 0 zO vs ds (c+1);have:=K 1 zO (vs++[c]) (ds++[c+1]) (c+2);have:=S2 hl;have:=two' hl;rw[OK k hl];simp only[Ex.size,Ex.sizes];omega;all_goals
   rw[OL zO,Ex.size,GB];have h1:=K8 vs c e.kids;have h2:=K9 (p:=p) (vs:=vs) (ds:=ds) (c:=c) (d:=d) e.kids fun x hx=>by
    obtain⟨j,hj,hx⟩:=List.getElem_of_mem hx;have:=K j hj vs ds c;rwa [List.getD_eq_getElem?_getD,List.getElem?_eq_getElem hj,Option.getD_some,hx]at this
   omega
theorem O6 {p:List Fn}(h:Es p=true){k:Nat}(hk:k<p.length):Ex.sizes (p.getD k Fn.zero).outs≤400∧(p.getD k Fn.zero).name.size≤12:=by have:=Rw h hk;unfold Kj at this;simp only[z7,decide_eq_true_eq]at this;refine⟨this.2.2.2,?_⟩;have hn:=this.1.1;unfold KP at hn;simp only[z7,decide_eq_true_eq]at hn;exact hn.1.2
theorem QH {p:List Fn}(hv:Ik p){k:Nat}(hk:k<p.length)(hs:Ex.sizes (p.getD k Fn.zero).outs≤400):Ex.sizes (K6 p (p.getD k Fn.zero))≤97000:=by
 unfold K6;rw[GB];have h1:=K8 (Gd (p.getD k Fn.zero).params.toNat) (2*(p.getD k Fn.zero).params) (p.getD k Fn.zero).outs;have h2:=K9 (p:=p) (vs:=Gd (p.getD k Fn.zero).params.toNat) (ds:=IC (p.getD k Fn.zero).params (p.getD k Fn.zero).params.toNat) (c:=2*(p.getD k Fn.zero).params) (d:=60) (p.getD k Fn.zero).outs fun x hx=>by
  obtain⟨j,hj,hx⟩:=List.getElem_of_mem hx;have hw:=hv.wf k hk j hj;have hdp:=hv.deep k hk j hj;rw[List.getD_eq_getElem?_getD,List.getElem?_eq_getElem hj,Option.getD_some,hx]at hw hdp;have:=SG p _ _ x (A7 _) (Gd (p.getD k Fn.zero).params.toNat) (IC (p.getD k Fn.zero).params (p.getD k Fn.zero).params.toNat) (2*(p.getD k Fn.zero).params) _ hw;have:=Nat.mul_le_mul_left x.size hdp;omega
 omega
theorem Uh {p:List Fn}{nm:Nat→ByteArray}{k:Nat}(hk:k<p.length):(B3 p nm).getD k Fn.zero=p.getD k Fn.zero:=by unfold B3;rw[List.getD_eq_getElem?_getD,List.getElem?_append_left hk,← List.getD_eq_getElem?_getD]
theorem Ui {p:List Fn}{nm:Nat→ByteArray}{k:Nat}(hk:k<p.length):(B3 p nm).getD (p.length+k) Fn.zero=Dl p nm k:=by unfold B3;rw[List.getD_eq_getElem?_getD,List.getElem?_append_right zO,show p.length+k-p.length=k from by omega,← List.getD_eq_getElem?_getD,CM Fn.zero hk]
theorem I2.der {p:List Fn}(h:Es p=true):I2 (B3 p Cb):=by
 have hv:=Fu h;have hl:=MW h
 intro k hk;have hk:k<2*p.length:=by unfold B3 at hk;rw[z4,CZ]at hk;omega
 by_cases h1:k<p.length;rw[Uh h1];have:=O6 h h1;have:=hv.outs k h1;omega;obtain⟨j,rfl⟩:∃j,k=p.length+j:=⟨k-p.length,zO⟩;have hj:j<p.length:=by omega
 rw[Ui hj,U5];have h2:=QH hv hj (O6 h hj).1;have h3:=hv.outs j hj;have h4:(K6 p (p.getD j Fn.zero)).length=2*(p.getD j Fn.zero).outs.length:=by unfold K6;rw[z4,zg,zg];omega
 have h5:=IB (n:=p.length+j) zO;refine⟨by show Ex.sizes (K6 p (p.getD j Fn.zero))≤_;omega,by show(K6 p (p.getD j Fn.zero)).length≤_;omega,?_⟩;show(Cb (p.length+j)).size≤_;unfold Cb;rw[ByteArray.size_append];have:(⟨#[100]⟩:ByteArray).size=1:=rfl;omega
section
def Fz (x:Int):Fin 1000003:=Fin.ofNat 1000003 (x % 1000003).toNat
theorem Hy (x:Int):Fz (md x)=Fz x:=by unfold Fz md;rw[Int.emod_emod_of_dvd _ (Int.dvd_refl _)]
theorem Xj {x y:Int}(h:Fz x=Fz y):md x=md y:=by unfold Fz at h;have:=congrArg Fin.val h;simp only[Fin.ofNat]at this;unfold md;omega
theorem OQ (x y:Int):Fz (x+y)=Fz x+Fz y:=by unfold Fz;apply Fin.ext;simp only[Fin.ofNat,Fin.val_add];omega
theorem Hj (x y:Int):Fz (x*y)=Fz x*Fz y:=by unfold Fz;apply Fin.ext;simp only[Fin.ofNat,Fin.val_mul];rw[Int.mul_emod];have h1:=Int.emod_nonneg x (show(1000003:Int)≠0 by decide);have h2:=Int.emod_nonneg y (show(1000003:Int)≠0 by decide);have h3:=Int.emod_lt_of_pos x (show(0:Int)<1000003 by decide);have h4:=Int.emod_lt_of_pos y (show(0:Int)<1000003 by decide);generalize x % 1000003=a at *;generalize y % 1000003=b at *;obtain⟨a,rfl⟩:=Int.eq_ofNat_of_zero_le h1;obtain⟨b,rfl⟩:=Int.eq_ofNat_of_zero_le h2;rw[← Int.natCast_mul,Int.toNat_natCast,Int.toNat_natCast,Nat.mod_eq_of_lt (show a<1000003 by omega),Nat.mod_eq_of_lt (show b<1000003 by omega)];generalize a*b=c;omega
theorem Ls (x y:Int):Fz (x-y)=Fz x-Fz y:=by unfold Fz;apply Fin.ext;simp only[Fin.ofNat,Fin.sub_def];omega
theorem Xk:Fz 0=0:=rfl
theorem OR {x y:Int}(hx:0≤x∧x<1000003)(hy:0≤y∧y<1000003)(h:Fz x=Fz y):x=y:=by have:=Xj h;rwa [Mr hx.1 hx.2,Mr hy.1 hy.2]at this
theorem JI {n:Nat}{x:Sr}(h:DJ n x)(k:Nat):0≤x.getD k 0∧x.getD k 0<1000003:=Cd h.2 k
structure D2 (x:Nat→Sr)(X Y:Sr):Prop where
 sx:∀k,k<3→DJ 3 (x k)
 sX:DJ 2 X
 sY:DJ 2 Y
 v:∀k,k<3→(x k).getD 0 0=X.getD 0 0
 e:X.getD 1 0=(x 1).getD 1 0
 d:Y.getD 0 0=(x 0).getD 1 0
 s:Fz ((x 2).getD 1 0)=Fz ((x 0).getD 1 0)+Fz ((x 1).getD 1 0)
 m:Fz (Y.getD 1 0)=Fz ((x 2).getD 2 0)-Fz ((x 0).getD 2 0)-Fz ((x 1).getD 2 0)
section
variable {a b:Sr}
theorem Tw {k:Nat}(h:k<a.length):Fz ((Do a b).getD k 0)=Fz (a.getD k 0)+Fz (b.getD k 0):=by rw[EY h,Hy,OQ]
theorem Uj {k:Nat}(h:k<a.length):Fz ((EV a b).getD k 0)=Fz (a.getD k 0)-Fz (b.getD k 0):=by rw[FO h,Hy,Ls]
theorem Xl {k:Nat}{c:Int}(h:k<a.length):Fz ((EE a c).getD k 0)=Fz (a.getD k 0)*Fz c:=by rw[G8 h,Hy,Hj]
theorem aC (h:0<a.length):Fz ((Dc a b).getD 0 0)=Fz (a.getD 0 0)*Fz (b.getD 0 0):=by rw[IR h,Hy,Int.zero_add,Hj]
theorem Xm (h:1<a.length):Fz ((Dc a b).getD 1 0)=Fz (a.getD 0 0)*Fz (b.getD 1 0)+Fz (a.getD 1 0)*Fz (b.getD 0 0):=by rw[NR h,Hy,OQ,Hy,Int.zero_add,Hj,Hj]
theorem aE (h:2<a.length):Fz ((Dc a b).getD 2 0)=Fz (a.getD 0 0)*Fz (b.getD 2 0)+Fz (a.getD 1 0)*Fz (b.getD 1 0)+Fz (a.getD 2 0)*Fz (b.getD 0 0):=by rw[UU h,Hy];simp only[OQ,Hj]
theorem cN (h:0<a.length):Fz ((BV a b).getD 0 0)=Fz (a.getD 0 0)*Fz (inv (b.getD 0 0)):=by rw[Km h,Hy,Hj]
theorem ZG (h:1<a.length):Fz ((BV a b).getD 1 0)=(Fz (a.getD 1 0)-Fz ((BV a b).getD 0 0)*Fz (b.getD 1 0))*Fz (inv (b.getD 0 0)):=by rw[NS h,Hy,Hj,Hy,Ls,Hj]
theorem aG (h:2<a.length):Fz ((BV a b).getD 2 0)=(Fz (a.getD 2 0)-Fz ((BV a b).getD 0 0)*Fz (b.getD 2 0)-Fz ((BV a b).getD 1 0)*Fz (b.getD 1 0))*Fz (inv (b.getD 0 0)):=by rw[UV h,Hy];simp only[Hj,Ls]
end
theorem D2.all:U1 3 (fun _=>3) 2 D2 where
 congr:=fun x y X Y h hx=>by
  have h0:=h 0 (by omega);have h1:=h 1 (by omega);have h2:=h 2 zO
  exact⟨fun k hk=>by rw[← h k hk];exact hx.sx k hk,hx.sX,hx.sY,fun k hk=>by rw[← h k hk];exact hx.v k hk,by rw[← h1];exact hx.e,by rw[← h0];exact hx.d,by rw[← h0,← h1,← h2];exact hx.s,by rw[← h0,← h1,← h2];exact hx.m⟩
 zero:=fun x X Y h k hk=>by rw[h.v k hk]
 cst:=fun c hc=>⟨fun _ _=>Dp hc,Dp hc,Dp UE,fun _ _=>rfl,rfl,rfl,by
   show Fz 0=Fz 0+Fz 0
   rw[Xk];rfl,by
   show Fz 0=Fz 0-Fz 0-Fz 0
   rw[Xk];rfl⟩
 add:=fun x X X' y Y Y' hx hy=>by
  have lx:=fun k hk=>(hx.sx k hk).1
  have lX:=hx.sX.1;have lY:=hx.sY.1
  have x0:=lx 0 (by omega);have x1:=lx 1 (by omega);have x2:=lx 2 zO
  refine⟨fun k hk=>DS (hx.sx k hk),DS hx.sX,DS hx.sY,fun k hk=>by rw[EY (by rw[lx k hk];decide),EY (by rw[lX];decide),hx.v k hk,hy.v k hk],
   by rw[EY (by rw[lX];decide),EY (by rw[x1];decide),hx.e,hy.e],by rw[EY (by rw[lY];decide),EY (by rw[x0];decide),hx.d,hy.d],?_,?_⟩
  rw[Tw (by rw[x2];decide),Tw (by rw[x0];decide),Tw (by rw[x1];decide)]
  have:=hx.s;have:=hy.s;grind
  rw[Tw (by rw[lY];decide),Tw (by rw[x2];decide),Tw (by rw[x0];decide),Tw (by rw[x1];decide)]
  have:=hx.m;have:=hy.m;grind
 red:=fun x X X' y Y Y' hx hy=>by
  have lx:=fun k hk=>(hx.sx k hk).1
  have lX:=hx.sX.1;have lY:=hx.sY.1
  have x0:=lx 0 (by omega);have x1:=lx 1 (by omega);have x2:=lx 2 zO
  refine⟨fun k hk=>DT (hx.sx k hk),DT hx.sX,DT hx.sY,fun k hk=>by rw[FO (by rw[lx k hk];decide),FO (by rw[lX];decide),hx.v k hk,hy.v k hk],
   by rw[FO (by rw[lX];decide),FO (by rw[x1];decide),hx.e,hy.e],by rw[FO (by rw[lY];decide),FO (by rw[x0];decide),hx.d,hy.d],?_,?_⟩
  rw[Uj (by rw[x2];decide),Uj (by rw[x0];decide),Uj (by rw[x1];decide)]
  have:=hx.s;have:=hy.s;grind
  rw[Uj (by rw[lY];decide),Uj (by rw[x2];decide),Uj (by rw[x0];decide),Uj (by rw[x1];decide)]
  have:=hx.m;have:=hy.m;grind
 scl:=fun x X X' hx=>by
  have lx:=fun k hk=>(hx.sx k hk).1
  have lX:=hx.sX.1;have lY:=hx.sY.1
  have x0:=lx 0 (by omega);have x1:=lx 1 (by omega);have x2:=lx 2 zO
  refine⟨fun k hk=>FE (hx.sx k hk),FE hx.sX,FE hx.sY,fun k hk=>by rw[G8 (by rw[lx k hk];decide),G8 (by rw[lX];decide),hx.v k hk],
   by rw[G8 (by rw[lX];decide),G8 (by rw[x1];decide),hx.e],by rw[G8 (by rw[lY];decide),G8 (by rw[x0];decide),hx.d],?_,?_⟩
  rw[Xl (by rw[x2];decide),Xl (by rw[x0];decide),Xl (by rw[x1];decide)]
  have:=hx.s;grind
  rw[Xl (by rw[lY];decide),Xl (by rw[x2];decide),Xl (by rw[x0];decide),Xl (by rw[x1];decide)]
  have:=hx.m;grind
 pro:=fun x X X' y Y Y' hx hy=>by
  have lx:=fun k hk=>(hx.sx k hk).1
  have lX:=hx.sX.1;have lY:=hx.sY.1
  have x0:=lx 0 (by omega);have x1:=lx 1 (by omega);have x2:=lx 2 zO
  have v0:=hx.v 0 (by omega);have v1:=hx.v 1 (by omega);have v2:=hx.v 2 zO
  have u0:=hy.v 0 (by omega);have u1:=hy.v 1 (by omega);have u2:=hy.v 2 zO
  have sp1:=Dw (b:=Y) hx.sY;have sp2:=Dw (b:=Y') hx.sX
  have hs1:=hx.s;have hs2:=hy.s;have hm1:=hx.m;have hm2:=hy.m
  refine⟨fun k hk=>Dw (hx.sx k hk),Dw hx.sX,DS sp1,fun k hk=>by rw[IR (by rw[lx k hk];decide),IR (by rw[lX];decide),hx.v k hk,hy.v k hk],?_,?_,?_,?_⟩
  rw[NR (by rw[lX];decide),NR (by rw[x1];decide),v1,u1,hx.e,hy.e]
  refine OR (JI (DS sp1) 0) (JI (Dw<|hx.sx 0 zO) 1) ?_
  rw[Tw (by rw[sp1.1];decide),aC (by rw[lY];decide),aC (by rw[lX];decide),Xm (by rw[x0];decide),v0,u0,hx.d,hy.d]
  grind
  rw[Xm (by rw[x2];decide),Xm (by rw[x0];decide),Xm (by rw[x1];decide),v0,v1,v2,u0,u1,u2]
  grind
  rw[Tw (by rw[sp1.1];decide),Xm (by rw[lY];decide),Xm (by rw[lX];decide),aE (by rw[x2];decide),aE (by rw[x0];decide),aE (by rw[x1];decide),v0,v1,v2,u0,u1,u2,hx.d,hy.d,hx.e,hy.e,hm1,hm2,hs1,hs2]
  grind
 quo:=fun x X X' y Y Y' hx hy h0=>by
  have lx:=fun k hk=>(hx.sx k hk).1
  have lX:=hx.sX.1;have lY:=hx.sY.1
  have x0:=lx 0 (by omega);have x1:=lx 1 (by omega);have x2:=lx 2 zO
  have v0:=hx.v 0 (by omega);have v1:=hx.v 1 (by omega);have v2:=hx.v 2 zO
  have u0:=hy.v 0 (by omega);have u1:=hy.v 1 (by omega);have u2:=hy.v 2 zO
  have hs1:=hx.s;have hs2:=hy.s;have hm1:=hx.m;have hm2:=hy.m
  have sq:=DU (b:=Y) hx.sX
  have sp:=Dw (b:=Y') sq
  have sr:=DT (b:=Dc (BV X Y) Y') hx.sY
  have hv:∀k,k<3→(BV (x k) (y k)).getD 0 0=(BV X Y).getD 0 0:=fun k hk=>by rw[Km (by rw[lx k hk];decide),Km (by rw[lX];decide),hx.v k hk,hy.v k hk]
  have q0:=hv 0 (by omega);have q1:=hv 1 (by omega);have q2:=hv 2 zO
  have he:(BV X Y).getD 1 0=(BV (x 1) (y 1)).getD 1 0:=by rw[NS (by rw[lX];decide),NS (by rw[x1];decide),q1,u1,hx.e,hy.e]
  have f0:=ZG (a:=x 0) (b:=y 0) (by rw[x0];decide)
  have f1:=ZG (a:=x 1) (b:=y 1) (by rw[x1];decide)
  have f2:=ZG (a:=x 2) (b:=y 2) (by rw[x2];decide)
  rw[q0,u0]at f0
  rw[q1,u1]at f1
  rw[q2,u2]at f2
  have hd:(BV (EV X' (Dc (BV X Y) Y')) Y).getD 0 0=(BV (x 0) (y 0)).getD 1 0:=by
   refine OR (JI (DU sr) 0) (JI (DU<|hx.sx 0 zO) 1) ?_;rw[f0,cN (by rw[sr.1];decide),Uj (by rw[lY];decide),aC (by rw[sq.1];decide),hx.d,hy.d]
  have hS:Fz ((BV (x 2) (y 2)).getD 1 0)=Fz ((BV (x 0) (y 0)).getD 1 0)+Fz ((BV (x 1) (y 1)).getD 1 0):=by rw[f0,f1,f2,hs1,hs2];clear f0 f1 f2 hs1 hs2 hm1 hm2;grind
  refine⟨fun k hk=>DU (hx.sx k hk),sq,DU sr,hv,he,hd,hS,?_⟩;rw[ZG (by rw[sr.1];decide),hd,Uj (by rw[lY];decide),Xm (by rw[sq.1];decide),he,aG (by rw[x2];decide),aG (by rw[x0];decide),aG (by rw[x1];decide),q0,q1,q2,u0,u1,u2,hy.d,hy.e,hS,hm1,hm2,hs2];generalize Fz ((BV (x 0) (y 0)).getD 1 0)=p0;generalize Fz ((BV (x 1) (y 1)).getD 1 0)=p1;clear f0 f1 f2 hs1 hs2 hm1 hm2 hS;grind
end
section
section
variable {p:List Fn} {nm:Nat→ByteArray} {f pk:Nat} {a d e:List Int}
theorem MI (a:Int)(k:Int):((cst 3 a).set 1 k).getD 0 0=a∧((cst 3 a).set 1 k).getD 1 0=k∧((cst 3 a).set 1 k).getD 2 0=0:=⟨rfl,rfl,rfl⟩
theorem Uk (hl:d.length=a.length)(x y:List Int)(hx:x.length=a.length):Dk (a++d) (x++y) 2=Dk a x 2++Dk d y 2:=by refine X3 (by rw[BY,z4,z4,BY,BY]) fun k hk=>?_;rw[BY,z4]at hk;rw[Em (by rw[z4];exact hk)];by_cases h:k<a.length;rw[show(Dk a x 2++Dk d y 2).getD k []=(Dk a x 2).getD k []from FQ (by rw[BY];exact h),Em h,FQ h,FQ (by omega)];rw[show(Dk a x 2++Dk d y 2).getD k []=(Dk d y 2).getD (k-(Dk a x 2).length) []from DR (by rw[BY];omega),BY,Em zO,DR zO,DR zO,hx]
theorem O7 {a b:List Int}(ha:Bj a=true)(hb:Bj b=true):Bj (a++b)=true:=by unfold Bj at *;rw[List.all_append,ha,hb];rfl
def FR (d e:List Int)(k:Nat):List Int:=if k=0 then d else if k=1 then e else Do d e
theorem O8 (hd:Bj d=true)(he:Bj e=true)(k:Nat):Bj (FR d e k)=true:=by unfold FR;split;exact hd;split;exact he;exact GS _ _
theorem SH (ha:Bj a=true)(hd:Bj d=true)(he:Bj e=true)(hl:d.length=a.length)(hl2:e.length=a.length) :
  Np 3 D2 a.length (fun k=>Dk a (FR d e k) 3) (Dk a e 2) (Dk d (List.replicate a.length 0) 2):=by
 have hz:Bj (List.replicate a.length 0)=true:=Jy _;refine⟨fun k _=>BY _ _ _,BY _ _ _,by rw[BY,hl],fun i hi=>?_⟩;have hs:∀k,(Dk a (FR d e k) 3).getD i []=(cst 3 (a.getD i 0)).set 1 ((FR d e k).getD i 0):=fun k=>Em hi;have h2:(Dk a e 2).getD i []=(cst 2 (a.getD i 0)).set 1 (e.getD i 0):=Em hi;have h3:(Dk d (List.replicate a.length 0) 2).getD i []=(cst 2 (d.getD i 0)).set 1 ((List.replicate a.length 0).getD i 0):=Em zO;refine⟨fun k hk=>Fv ha (O8 hd he k) i (by rw[BY];exact hi),Fv ha he i (by rw[BY];exact hi),Fv hd hz i (by rw[BY];omega),fun k hk=>?_,?_,?_,?_,?_⟩;show((Dk a (FR d e k) 3).getD i []).getD 0 0=_;rw[hs,h2];rfl;show _=((Dk a (FR d e 1) 3).getD i []).getD 1 0;rw[hs,h2];rfl;show _=((Dk a (FR d e 0) 3).getD i []).getD 1 0;rw[hs,h3];rfl;show Fz (((Dk a (FR d e 2) 3).getD i []).getD 1 0)=Fz (((Dk a (FR d e 0) 3).getD i []).getD 1 0)+Fz (((Dk a (FR d e 1) 3).getD i []).getD 1 0);rw[hs,hs,hs,(MI _ _).2.1,(MI _ _).2.1,(MI _ _).2.1];show Fz ((Do d e).getD i 0)=Fz (d.getD i 0)+Fz (e.getD i 0);exact Tw zO;show Fz (((Dk d (List.replicate a.length 0) 2).getD i []).getD 1 0)=Fz (((Dk a (FR d e 2) 3).getD i []).getD 2 0)-Fz (((Dk a (FR d e 0) 3).getD i []).getD 2 0)-Fz (((Dk a (FR d e 1) 3).getD i []).getD 2 0);rw[hs,hs,hs,h3,(MI _ _).2.2,(MI _ _).2.2,(MI _ _).2.2];show Fz ((List.replicate a.length 0).getD i 0)=Fz 0-Fz 0-Fz 0;rw[PK,Xk];rfl
theorem QI (hv:Ik p)(hf:f<p.length)(hla:((a.length:Nat):Int)=(p.getD f Fn.zero).params)(hl:d.length=a.length)(hl2:e.length=a.length)(ha:Bj a=true)(hd:Bj d=true)(he:Bj e=true)
  (hz:DA p f a=0) (hq:DA (B3 p nm) (p.length+f) (a++d)=0) (hpk:pk<(p.getD f Fn.zero).outs.length) :
  Fz (((Tu (B3 p nm) (p.length+f) (a++d) (e++List.replicate a.length 0)).getD ((p.getD f Fn.zero).outs.length+pk) []).getD 1 0) =
   Fz (Ey p f pk a (Do d e) 2)-Fz (Ey p f pk a d 2)-Fz (Ey p f pk a e 2) ∧
  (Tu (B3 p nm) (p.length+f) (a++d) (e++List.replicate a.length 0)).length=(p.getD f Fn.zero).outs.length+(p.getD f Fn.zero).outs.length:=by
 have hR:=SH (d:=d) (e:=e) ha hd he hl hl2;have hx:∀k,k<3→∃x:List Sr,ev p 3 f (Dk a (FR d e k) 3)=.ok x 0∨∃t,ev p 3 f (Dk a (FR d e k) 3)=.ok x t:=fun k _=>by
  rcases GW hv (n:=3) (a:=Dk a (FR d e k) 3) hf (Fv ha (O8 hd he k)) (by rw[BY];exact hla)with⟨x,t,g1,_,_⟩|g1|g1;exact⟨x,.inr ⟨t,g1⟩⟩;have h:=Xf p f a (FR d e k) 2;rw[show Gp p (2+1) f (Dk a (FR d e k) (2+1))=6 from DV g1,hz]at h;omega;have h:=Xf p f a (FR d e k) 2;rw[show Gp p (2+1) f (Dk a (FR d e k) (2+1))=7 from DV g1,hz]at h;omega
 obtain⟨x,hx⟩:=NU hx;have hx':∀k,k<3→∃t,ev p 3 f (Dk a (FR d e k) 3)=.ok (x k) t:=fun k hk=>by
  rcases hx k hk with h|h;exact⟨0,h⟩;exact h
 rcases GW hv (n:=2) (a:=Dk a e 2) hf (Fv ha he) (by rw[BY];exact hla)with⟨X,s,h1,h2,h3⟩|h1|h1;rotate_left;have h:=TZ p f a e;rw[show UP p f a e=6 from DV h1,hz]at h;omega;have h:=TZ p f a e;rw[show UP p f a e=7 from DV h1,hz]at h;omega;obtain⟨Y,⟨dd,s1⟩,r1⟩:=(OF (nm:=nm) D2.all hv (f+1) f zO hf).run D2.all hR hla (x:=x) (X:=X) (fun k hk=>by obtain⟨t,ht⟩:=hx' k hk;exact⟨0,t,zO,ht⟩) ⟨0,s,zO,h1⟩;have e0:=s1 0 zO;have eq:ev (B3 p nm) 2 (p.length+f) (Dk (a++d) (e++List.replicate a.length 0) 2)=Cj 2 (Co (B3 p nm) 2 (p.length+f)) (Dl p nm f).outs (Dk a e 2++Dk d (List.replicate a.length 0) 2) 0:=by
  unfold ev;rw[Ga hf,Uk hl e _ hl2]
 have hc:=TZ (B3 p nm) (p.length+f) (a++d) (e++List.replicate a.length 0);rw[hq]at hc;by_cases h7:0+dd≤3000;rw[if_pos h7]at e0;have hr:Tu (B3 p nm) (p.length+f) (a++d) (e++List.replicate a.length 0)=X++Y:=I1 (eq.trans e0);rw[hr];refine⟨?_,by rw[z4,r1.2.1,r1.2.2.1]⟩;rw[DR (by rw[r1.2.1];omega),r1.2.1,show(p.getD f Fn.zero).outs.length+pk-(p.getD f Fn.zero).outs.length=pk from by omega];have hm:=(r1.2.2.2 pk hpk).m;have hc9:∀k,k<3→Ey p f pk a (FR d e k) 2=((x k).getD pk []).getD 2 0:=fun k hk=>by
  obtain⟨t,ht⟩:=hx' k hk;unfold Ey;rw[I1 ht]
 have c0:=hc9 0 (by omega);have c1:=hc9 1 (by omega);have c2:=hc9 2 zO;dsimp only[FR]at c0 c1 c2;rw[if_pos rfl]at c0;rw[if_neg (by decide),if_pos rfl]at c1;rw[if_neg (by decide),if_neg (by decide)]at c2;rw[c0,c1,c2];exact hm;rw[if_neg h7]at e0;have:UP (B3 p nm) (p.length+f) (a++d) (e++List.replicate a.length 0)=7:=DV (eq.trans e0);omega
theorem QJ (h:aB p f a)(hpk:pk<(p.getD f Fn.zero).outs.length)(hl:d.length=a.length)(hl2:e.length=a.length)(hd:Bj d=true)(he:Bj e=true) :
  md (Ey p f pk a (Do d e) 2-Ey p f pk a d 2-Ey p f pk a e 2)=md (sm a.length fun i=>md (sm a.length fun k=>Ok p f pk a i k*d.getD k 0)*e.getD i 0):=by
 obtain⟨b,hb⟩:=U8 h hpk (d::e::Do d e::(((List.range a.length).map fun i=>Ce a.length [((i:Nat):Int)] 1)++(List.range a.length).flatMap fun i=>(List.range a.length).map fun k=>Ce a.length [((i:Nat):Int),((k:Nat):Int)] 2)) (fun x hx=>by
  simp only[ze,zi,List.mem_map,List.mem_flatMap,List.mem_range]at hx;rcases hx with rfl|rfl|rfl|⟨i,_,rfl⟩|⟨i,_,k,_,rfl⟩;exact hd;exact he;exact GS _ _;all_goals exact I4 _ _ _)
 have hb1:∀i,i<a.length→Ey p f pk a (Ce a.length [((i:Nat):Int)] 1) 2=md (Nq a.length b (Ce a.length [((i:Nat):Int)] 1)):=fun i hi=>hb _ (by
  simp only[ze,zi,List.mem_map,List.mem_range];exact .inr (.inr (.inr (.inl ⟨i,hi,rfl⟩))))
 have hb2:∀i k,i<a.length→k<a.length→Ey p f pk a (Ce a.length [((i:Nat):Int),((k:Nat):Int)] 2) 2=md (Nq a.length b (Ce a.length [((i:Nat):Int),((k:Nat):Int)] 2)):=fun i k hi hk=>hb _ (by
  simp only[ze,zi,List.mem_map,List.mem_flatMap,List.mem_range];exact .inr (.inr (.inr (.inr ⟨i,hi,k,hk,rfl⟩))))
 rw[hb d (by simp),hb e (by simp),hb (Do d e) (by simp),O3,O3,O3];have e1:md (K7 a.length b (fun i=>(Do d e).getD i 0) (fun i=>(Do d e).getD i 0))=md (K7 a.length b (fun i=>d.getD i 0+e.getD i 0) (fun i=>d.getD i 0+e.getD i 0)) :=
  OO (fun i hi=>by rw[EY zO,Hw]) (fun i hi=>by rw[EY zO,Hw])
 rw[e1,O1,JG,JG];have e2:md (sm a.length fun i=>md (sm a.length fun k=>Ok p f pk a i k*d.getD k 0)*e.getD i 0)=md (K7 a.length b (fun i=>e.getD i 0) (fun i=>d.getD i 0)+K7 a.length b (fun i=>d.getD i 0) (fun i=>e.getD i 0)):=by
  have hs:K7 a.length b (fun i=>d.getD i 0) (fun i=>e.getD i 0)=sm a.length fun i=>sm a.length fun k=>b k i*(d.getD k 0*e.getD i 0):=PT _ _ _;rw[hs];unfold K7;rw[← G0];refine NF fun i hi=>?_;rw[Hc,← G0,PR];refine NF fun k hk=>?_;rw[Ym hb1 hb2 hi hk,Int.mul_assoc,Hc,Int.add_mul,Int.mul_comm (e.getD i 0)]
 rw[e2];generalize K7 a.length b (fun i=>d.getD i 0) (fun i=>d.getD i 0)=x;generalize K7 a.length b (fun i=>e.getD i 0) (fun i=>e.getD i 0)=y;generalize K7 a.length b (fun i=>d.getD i 0) (fun i=>e.getD i 0)=z;generalize K7 a.length b (fun i=>e.getD i 0) (fun i=>d.getD i 0)=u;unfold md;omega
theorem O9 (a b:List Int):∀k,ND a b k=md (sm k fun j=>a.getD j 0*b.getD j 0)
 |0=>rfl
 |k+1=>by
  show md (ND a b k+_)=md (_+_)
  rw[O9 a b k,Jp]
theorem Ul (a b:List Int):GR a b=md (sm a.length fun j=>a.getD j 0*b.getD j 0):=O9 a b _
theorem QK (hv:Ik p)(hf:f<p.length)(hla:((a.length:Nat):Int)=(p.getD f Fn.zero).params)(hl:d.length=a.length)(hl2:e.length=a.length)(ha:Bj a=true)(hd:Bj d=true)(he:Bj e=true)
  (hvq:Ik (B3 p nm)) (h0:DA (B3 (B3 p nm) nm) ((B3 p nm).length+(p.length+f)) ((a++d)++(e++List.replicate a.length 0))=0) (hpk:pk<(p.getD f Fn.zero).outs.length) :
  DA p f a=0∧(NO (B3 (B3 p nm) nm) ((B3 p nm).length+(p.length+f)) ((a++d)++(e++List.replicate a.length 0))).length=4*(p.getD f Fn.zero).outs.length ∧
  (NO (B3 (B3 p nm) nm) ((B3 p nm).length+(p.length+f)) ((a++d)++(e++List.replicate a.length 0))).getD (3*(p.getD f Fn.zero).outs.length+pk) 0=Lm ((KY p f pk a a.length).map (fun r:List Int=>GR r d)) e a.length:=by
 have hz:=Jy a.length;have hlq:(((a++d).length:Nat):Int)=((B3 p nm).getD (p.length+f) Fn.zero).params:=by
  rw[Ga hf,z4];show _=2*(p.getD f Fn.zero).params;omega
 have hnq:Bj (a++d)=true:=O7 ha hd;have hne:Bj (e++List.replicate a.length 0)=true:=O7 he hz;have hle:(e++List.replicate a.length 0).length=(a++d).length:=by rw[z4,z4,z5];omega
 have L2:=PN (nm:=nm) (f:=p.length+f) (a:=a++d) (d:=e++List.replicate a.length 0) hvq (by rw[Gb];omega) hlq hle hnq hne;have hq:DA (B3 p nm) (p.length+f) (a++d)=0:=by
  by_cases h:DA (B3 p nm) (p.length+f) (a++d)=0;exact h;exact absurd (L2.1 h ▸ h0) h
 have L1:=PN (nm:=nm) (f:=f) (a:=a) (d:=d) hv hf hla hl ha hd;have hp:DA p f a=0:=by
  by_cases h:DA p f a=0;exact h;exact absurd (L1.1 h ▸ hq) h
 obtain⟨r1,r2⟩:=QI (pk:=pk) (nm:=nm) hv hf hla hl hl2 ha hd he hp hq hpk;have L3:NO (B3 (B3 p nm) nm) ((B3 p nm).length+(p.length+f)) ((a++d)++(e++List.replicate a.length 0))=(Tu (B3 p nm) (p.length+f) (a++d) (e++List.replicate a.length 0)).map (fun s=>s.getD 0 0)++(Tu (B3 p nm) (p.length+f) (a++d) (e++List.replicate a.length 0)).map (fun s=>s.getD 1 0):=by
  rcases L2.2 hq with h|h;omega;exact h.2
 refine⟨hp,by rw[L3,z4,zg,zg,r2];omega,?_⟩;rw[L3,DR (by rw[zg,r2];omega),zg,r2,show 3*(p.getD f Fn.zero).outs.length+pk-((p.getD f Fn.zero).outs.length+(p.getD f Fn.zero).outs.length)=(p.getD f Fn.zero).outs.length+pk from by omega,BU (d:=[]) (by rw[r2];omega)];have hat:aB p f a:=⟨hv,hf,hla,ha,hp⟩;have hM:=QJ hat hpk hl hl2 hd he;have hG:Lm ((KY p f pk a a.length).map (fun r:List Int=>GR r d)) e a.length=md (sm a.length fun i=>md (sm a.length fun k=>Ok p f pk a i k*d.getD k 0)*e.getD i 0):=by
  unfold Lm;refine congrArg md (C5 fun i hi=>?_);rw[BU (d:=[]) (by rw[Hh];exact hi),Ul,OP hi,JH];congr 2;exact C5 fun k hk=>by rw[show(QG p f pk a i a.length).getD k 0=Ok p f pk a i k from CM 0 hk]
 rw[hG,← hM];have hs:DJ 2 ((Tu (B3 p nm) (p.length+f) (a++d) (e++List.replicate a.length 0)).getD ((p.getD f Fn.zero).outs.length+pk) []) :=
  (ZW hvq (n:=2) (a:=Dk (a++d) (e++List.replicate a.length 0) 2) (by rw[Gb];omega) (Fv hnq hne) (by rw[BY];exact hlq)).ser _ (by show _<(Tu _ _ _ _).length;rw[r2];omega)
 refine OR (JI hs 1) (Ct _) ?_;rw[r1,Hy,Ls,Ls]
end
end
theorem mixed:Tryz.prog.follows .mixedOrders=true:=by kernel_rfl
abbrev Cg (k:Nat):Prop:=((Tryz.prog.funcs[k]?).map fun fn=>(fn.name != "runtime.NumGoroutine") && fn.body.isSome) = some true
theorem Ch {k:Nat} (h:((Tryz.prog.funcs[k]?).map fun fn=>(fn.name != "runtime.NumGoroutine") && fn.body.isSome) = some true):Cg k:=h
theorem aH:Cg 18:=Ch (by kernel_rfl)
theorem Yo:Cg 20:=Ch (by kernel_rfl)
theorem Yp:Cg 21:=Ch (by kernel_rfl)
theorem aI:Cg 25:=Ch (by kernel_rfl)
theorem Xn:Cg 26:=Ch (by kernel_rfl)
theorem aJ:Cg 27:=Ch (by kernel_rfl)
theorem aK:Cg 29:=Ch (by kernel_rfl)
theorem aL:Cg 30:=Ch (by kernel_rfl)
theorem aM:Cg 31:=Ch (by kernel_rfl)
theorem aN:Cg 32:=Ch (by kernel_rfl)
theorem aO:Cg 33:=Ch (by kernel_rfl)
theorem Yq:Cg 34:=Ch (by kernel_rfl)
theorem I6:Cg 35:=Ch (by kernel_rfl)
theorem SI:Cg 36:=Ch (by kernel_rfl)
theorem JJ:Cg 45:=Ch (by kernel_rfl)
theorem aP:Cg 48:=Ch (by kernel_rfl)
theorem aQ:Cg 60:=Ch (by kernel_rfl)
theorem Xo:Cg 61:=Ch (by kernel_rfl)
theorem Um:Cg 62:=Ch (by kernel_rfl)
theorem aR:Cg 63:=Ch (by kernel_rfl)
theorem aS:Cg 64:=Ch (by kernel_rfl)
theorem Xp:Cg 65:=Ch (by kernel_rfl)
theorem Yr:Cg 66:=Ch (by kernel_rfl)
theorem aT:Cg 67:=Ch (by kernel_rfl)
theorem Ys:Cg 68:=Ch (by kernel_rfl)
theorem aU:Cg 69:=Ch (by kernel_rfl)
theorem aV:Cg 71:=Ch (by kernel_rfl)
theorem Yt:Cg 73:=Ch (by kernel_rfl)
theorem Xq:Cg 74:=Ch (by kernel_rfl)
theorem Xr:Cg 75:=Ch (by kernel_rfl)
theorem Yu:Cg 76:=Ch (by kernel_rfl)
theorem Yw:Cg 77:=Ch (by kernel_rfl)
theorem aW:Cg 78:=Ch (by kernel_rfl)
theorem aX:Cg 79:=Ch (by kernel_rfl)
theorem aY:Cg 80:=Ch (by kernel_rfl)
theorem Xs:Cg 81:=Ch (by kernel_rfl)
theorem Na:Cg 82:=Ch (by kernel_rfl)
theorem aZ:Cg 83:=Ch (by kernel_rfl)
theorem bA:Cg 84:=Ch (by kernel_rfl)
theorem bB:Cg 85:=Ch (by kernel_rfl)
theorem Xt:Cg 86:=Ch (by kernel_rfl)
theorem Yx:Cg 87:=Ch (by kernel_rfl)
theorem bC:Cg 91:=Ch (by kernel_rfl)
theorem Kt:Cg 93:=Ch (by kernel_rfl)
theorem bE:Cg 97:=Ch (by kernel_rfl)
theorem Yy:Cg 108:=Ch (by kernel_rfl)
theorem UZ:Cg 109:=Ch (by kernel_rfl)
theorem SJ:Cg 110:=Ch (by kernel_rfl)
theorem EZ:Cg 111:=Ch (by kernel_rfl)
theorem JK:Cg 112:=Ch (by kernel_rfl)
theorem Yz:Cg 113:=Ch (by kernel_rfl)
theorem YB:Cg 114:=Ch (by kernel_rfl)
theorem YC:Cg 115:=Ch (by kernel_rfl)
theorem SK:Cg 116:=Ch (by kernel_rfl)
theorem SL:Cg 117:=Ch (by kernel_rfl)
theorem PY:Cg 118:=Ch (by kernel_rfl)
theorem YD:Cg 119:=Ch (by kernel_rfl)
theorem YF:Cg 121:=Ch (by kernel_rfl)
theorem YG:Cg 122:=Ch (by kernel_rfl)
theorem V0:Cg 123:=Ch (by kernel_rfl)
theorem SM:Cg 124:=Ch (by kernel_rfl)
theorem YH:Cg 125:=Ch (by kernel_rfl)
theorem YI:Cg 126:=Ch (by kernel_rfl)
theorem YJ:Cg 127:=Ch (by kernel_rfl)
theorem V1:Cg 128:=Ch (by kernel_rfl)
theorem YK:Cg 129:=Ch (by kernel_rfl)
theorem Oa:Cg 130:=Ch (by kernel_rfl)
theorem SN:Cg 131:=Ch (by kernel_rfl)
theorem MJ:Cg 132:=Ch (by kernel_rfl)
theorem V2:Cg 133:=Ch (by kernel_rfl)
theorem V3:Cg 134:=Ch (by kernel_rfl)
theorem PZ:Cg 135:=Ch (by kernel_rfl)
theorem YL:Cg 136:=Ch (by kernel_rfl)
theorem V4:Cg 137:=Ch (by kernel_rfl)
theorem YM:Cg 138:=Ch (by kernel_rfl)
theorem YN:Cg 148:=Ch (by kernel_rfl)
theorem SP:Cg 149:=Ch (by kernel_rfl)
theorem YO:Cg 150:=Ch (by kernel_rfl)
theorem Ge:Cg 151:=Ch (by kernel_rfl)
theorem V5:Cg 152:=Ch (by kernel_rfl)
theorem YP:Cg 153:=Ch (by kernel_rfl)
theorem YQ:Cg 154:=Ch (by kernel_rfl)
theorem DY:Cg 155:=Ch (by kernel_rfl)
theorem V6:Cg 156:=Ch (by kernel_rfl)
theorem YT:Cg 157:=Ch (by kernel_rfl)
theorem YU:Cg 158:=Ch (by kernel_rfl)
theorem V7:Cg 159:=Ch (by kernel_rfl)
theorem Q0:Cg 160:=Ch (by kernel_rfl)
theorem Q4:Cg 161:=Ch (by kernel_rfl)
theorem Lt:Cg 162:=Ch (by kernel_rfl)
theorem Hz:Cg 163:=Ch (by kernel_rfl)
theorem YV:Cg 164:=Ch (by kernel_rfl)
theorem V8:Cg 165:=Ch (by kernel_rfl)
theorem Gq:Cg 166:=Ch (by kernel_rfl)
theorem SQ:Cg 167:=Ch (by kernel_rfl)
theorem Lu:Cg 168:=Ch (by kernel_rfl)
theorem V9:Cg 169:=Ch (by kernel_rfl)
theorem I7:Cg 170:=Ch (by kernel_rfl)
theorem Q5:Cg 171:=Ch (by kernel_rfl)
theorem YW:Cg 172:=Ch (by kernel_rfl)
theorem Va:Cg 173:=Ch (by kernel_rfl)
theorem MK:Cg 174:=Ch (by kernel_rfl)
theorem YX:Cg 175:=Ch (by kernel_rfl)
theorem YY:Cg 191:=Ch (by kernel_rfl)
theorem Vb:Cg 192:=Ch (by kernel_rfl)
theorem Q6:Cg 193:=Ch (by kernel_rfl)
theorem Ob:Cg 194:=Ch (by kernel_rfl)
theorem YZ:Cg 195:=Ch (by kernel_rfl)
theorem Vc:Cg 196:=Ch (by kernel_rfl)
theorem Z0:Cg 197:=Ch (by kernel_rfl)
theorem Z1:Cg 198:=Ch (by kernel_rfl)
theorem Vd:Cg 199:=Ch (by kernel_rfl)
theorem Z2:Cg 200:=Ch (by kernel_rfl)
theorem Q7:Cg 201:=Ch (by kernel_rfl)
theorem SR:Cg 202:=Ch (by kernel_rfl)
theorem Ve:Cg 203:=Ch (by kernel_rfl)
theorem Z3:Cg 204:=Ch (by kernel_rfl)
theorem Vf:Cg 205:=Ch (by kernel_rfl)
theorem Vg:Cg 206:=Ch (by kernel_rfl)
theorem Z4:Cg 207:=Ch (by kernel_rfl)
theorem Z5:Cg 208:=Ch (by kernel_rfl)
theorem Z6:Cg 209:=Ch (by kernel_rfl)
theorem Z7:Cg 224:=Ch (by kernel_rfl)
theorem Z8:Cg 225:=Ch (by kernel_rfl)
theorem Z9:Cg 226:=Ch (by kernel_rfl)
theorem Za:Cg 227:=Ch (by kernel_rfl)
theorem Zb:Cg 228:=Ch (by kernel_rfl)
theorem Zc:Cg 233:=Ch (by kernel_rfl)
theorem Zd:Cg 234:=Ch (by kernel_rfl)
theorem AT:CR Tryz.prog 2:=by unfold CR;kernel_rfl
theorem M3:CR Tryz.prog 3:=by unfold CR;kernel_rfl
theorem bF:CR Tryz.prog 4:=by unfold CR;kernel_rfl
theorem bG:CR Tryz.prog 5:=by unfold CR;kernel_rfl
theorem Ku:CR Tryz.prog 9:=by unfold CR;kernel_rfl
theorem Q8:CR Tryz.prog 22:=by unfold CR;kernel_rfl
theorem Cq:CR Tryz.prog 25:=by unfold CR;kernel_rfl
theorem BF:CR Tryz.prog 43:=by unfold CR;kernel_rfl
theorem AY:CR Tryz.prog 57:=by unfold CR;kernel_rfl
theorem IS:CR Tryz.prog 65:=by unfold CR;kernel_rfl
theorem Vh:CR Tryz.prog 98:=by unfold CR;kernel_rfl
theorem Nb:CR Tryz.prog 129:=by unfold CR;kernel_rfl
theorem IL:(Tryz.prog.info? 2).map (·.size)=some 1:=by kernel_rfl
theorem cE:(Tryz.prog.info? 3).map (·.size)=some 1:=by kernel_rfl
theorem QL:(Tryz.prog.info? 25).map (·.size)=some 1:=by kernel_rfl
theorem SS:(Tryz.prog.info? 43).map (·.size)=some 1:=by kernel_rfl
theorem Gl:(Tryz.prog.info? 57).map (·.size)=some 1:=by kernel_rfl
theorem Vi:(Tryz.prog.info? 129).map (·.size)=some 1:=by kernel_rfl
theorem BO:TI Tryz.prog 2 1 (.int .i64 0) 8:=by unfold TI;kernel_rfl
theorem ZH:TI Tryz.prog 5 1 (.int .u8 0) 1:=by unfold TI;kernel_rfl
theorem cF:TI Tryz.prog 9 1 (.string ByteArray.empty) 16:=by unfold TI;kernel_rfl
theorem Cy:TI Tryz.prog 25 1 (.slice none 0 0) 24:=by unfold TI;kernel_rfl
theorem u2:Tryz.prog.underlying 2=some (.int .i64):=by kernel_rfl
theorem u3:Tryz.prog.underlying 3=some (.int .i64):=by kernel_rfl
theorem u4:Tryz.prog.underlying 4=some (.bool):=by kernel_rfl
theorem u5:Tryz.prog.underlying 5=some (.int .u8):=by kernel_rfl
theorem u9:Tryz.prog.underlying 9=some (.string):=by kernel_rfl
theorem Ol:Tryz.prog.underlying 22=some (.slice 5):=by kernel_rfl
theorem Bw:Tryz.prog.underlying 25=some (.slice 2):=by kernel_rfl
theorem Eg:Tryz.prog.underlying 43=some (.slice 59):=by kernel_rfl
theorem BR:Tryz.prog.underlying 57=some (.slice 105):=by kernel_rfl
theorem bH:Tryz.prog.underlying 77=some (.slice 9):=by kernel_rfl
theorem Cm:Tryz.prog.underlying 116=some (.slice 25):=by kernel_rfl
theorem Un:Tryz.prog.underlying 129=some (.int .u64):=by kernel_rfl
theorem BC:Fy Tryz.prog 45 1=true:=by kernel_rfl
theorem J8:(Tryz.prog.info? 45).map (·.zero)=some (some (.agg #[.slice none 0 0])):=by kernel_rfl
theorem Bi:HE Tryz.prog 45 0 0=true:=by kernel_rfl
theorem Dx:Fy Tryz.prog 59 3=true:=by kernel_rfl
theorem Kv:(Tryz.prog.info? 59).map (·.zero)=some (some (.agg #[.string ByteArray.empty,.int .i64 0,.slice none 0 0])):=by kernel_rfl
theorem Cf:TI Tryz.prog 59 3 (.agg #[.string ByteArray.empty,.int .i64 0,.slice none 0 0]) 48:=by unfold TI;kernel_rfl
theorem Gf:HE Tryz.prog 59 0 0=true:=by kernel_rfl
theorem Ck:HE Tryz.prog 59 1 1=true:=by kernel_rfl
theorem Bv:HE Tryz.prog 59 2 2=true:=by kernel_rfl
theorem Fk:Fy Tryz.prog 103 1=true:=by kernel_rfl
theorem Ze:(Tryz.prog.info? 103).map (·.zero)=some (some (.agg #[.slice none 0 0])):=by kernel_rfl
theorem KZ:HE Tryz.prog 103 0 0=true:=by kernel_rfl
theorem Az:Fy Tryz.prog 105 5=true:=by kernel_rfl
theorem C1:(Tryz.prog.info? 105).map (·.zero)=some (some (.agg #[.int .i64 0,.int .i64 0,.int .i64 0,.int .i64 0,.slice none 0 0])):=by kernel_rfl
theorem AQ:TI Tryz.prog 105 5 (.agg #[.int .i64 0,.int .i64 0,.int .i64 0,.int .i64 0,.slice none 0 0]) 56:=by unfold TI;kernel_rfl
theorem Bd:HE Tryz.prog 105 0 0=true:=by kernel_rfl
theorem BH:HE Tryz.prog 105 1 1=true:=by kernel_rfl
theorem Df:HE Tryz.prog 105 2 2=true:=by kernel_rfl
theorem Dq:HE Tryz.prog 105 3 3=true:=by kernel_rfl
theorem AR:HE Tryz.prog 105 4 4=true:=by kernel_rfl
theorem Bm:Fy Tryz.prog 159 3=true:=by kernel_rfl
theorem Oc:(Tryz.prog.info? 159).map (·.zero)=some (some (.agg #[.slice none 0 0,.slice none 0 0,.int .i64 0])):=by kernel_rfl
theorem Q9:HE Tryz.prog 159 0 0=true:=by kernel_rfl
theorem Qa:HE Tryz.prog 159 1 1=true:=by kernel_rfl
theorem Gr:HE Tryz.prog 159 2 2=true:=by kernel_rfl
theorem En:Fy Tryz.prog 166 3=true:=by kernel_rfl
theorem Qb:(Tryz.prog.info? 166).map (·.zero)=some (some (.agg #[.int .i64 0,.slice none 0 0,.slice none 0 0])):=by kernel_rfl
theorem IG:HE Tryz.prog 166 0 0=true:=by kernel_rfl
theorem Gs:HE Tryz.prog 166 1 1=true:=by kernel_rfl
theorem Hk:HE Tryz.prog 166 2 2=true:=by kernel_rfl
theorem Qc:HE Tryz.prog 174 0 0=true:=by kernel_rfl
theorem Uo:HE Tryz.prog 174 1 1=true:=by kernel_rfl
theorem L4:HE Tryz.prog 174 2 2=true:=by kernel_rfl
theorem Hl:HE Tryz.prog 174 3 3=true:=by kernel_rfl
theorem Uq:HE Tryz.prog 180 0 0=true:=by kernel_rfl
theorem Nc:HE Tryz.prog 180 1 1=true:=by kernel_rfl
theorem L5:HE Tryz.prog 180 2 2=true:=by kernel_rfl
theorem Hm:HE Tryz.prog 180 3 3=true:=by kernel_rfl
theorem Fw:HE Tryz.prog 185 0 0=true:=by kernel_rfl
theorem Ur:HE Tryz.prog 185 1 1=true:=by kernel_rfl
theorem Nd:HE Tryz.prog 185 2 2=true:=by kernel_rfl
theorem Us:HE Tryz.prog 185 3 3=true:=by kernel_rfl
theorem OS:Fy Tryz.prog 202 2=true:=by kernel_rfl
theorem Ut:HE Tryz.prog 202 0 0=true:=by kernel_rfl
theorem Uu:HE Tryz.prog 202 1 1=true:=by kernel_rfl
end Go.Proofs.YtlbefjfhfodnlaaGreatDoor
