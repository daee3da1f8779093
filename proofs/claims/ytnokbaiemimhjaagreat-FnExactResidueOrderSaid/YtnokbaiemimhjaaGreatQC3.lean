/- Go, Gq, Gp, Gs, Gy, Gz, Ha, Hb, Hc, Hd, He, T, Sa, Sb, Sc, Sf, Sk, Va, Vb, Vg: texts of this claim, joined; what the claim does not come to is left out. -/
import Derived.Test.YtnokbaiemimhjaaGreatQC2
import Derived.Test.YtnokbaiemimhjaaGreatProg
set_option linter.unusedVariables false
set_option linter.unusedSimpArgs false
namespace Go.Proofs.YtnokbaiemimhjaaGreat
open Go Go.RowKit
set_option linter.unusedVariables false
set_option linter.unusedSimpArgs false
def lnF (n:Nat) (c:Nat→Int) (d:List Int):Int:=sm n fun i=>c i * d.getD i 0
def qdF (n:Nat) (b:Nat→Nat→Int) (d:List Int):Int:=sm n fun i=>sm n fun k=>b i k * (d.getD i 0 * d.getD k 0)
theorem lnF_lin (n:Nat) (A B:Int) (c c':Nat→Int) (d:List Int):lnF n (fun i=>A * c i + B * c' i) d = A * lnF n c d + B * lnF n c' d:=by
  unfold lnF
  rw [← sm_mul,← sm_mul,← sm_add]
  exact sm_congr fun i _=>by rw [Int.add_mul,Int.mul_assoc,Int.mul_assoc]
theorem sm_mulr (c:Int) (f:Nat→Int) (n:Nat):sm n f * c = sm n fun i=>f i * c:=by
  rw [Int.mul_comm,← sm_mul]
  exact sm_congr fun i _=>Int.mul_comm _ _
theorem lnF_mul (n:Nat) (c c':Nat→Int) (d:List Int):lnF n c d * lnF n c' d = qdF n (fun i k=>c i * c' k) d:=by
  unfold lnF qdF
  rw [sm_mulr]
  refine sm_congr fun i _=>?_
  rw [← sm_mul]
  refine sm_congr fun k _=>?_
  rw [Int.mul_assoc,Int.mul_assoc,Int.mul_left_comm (d.getD i 0)]
theorem qdF_add (n:Nat) (b b':Nat→Nat→Int) (d:List Int):qdF n (fun i k=>b i k + b' i k) d = qdF n b d + qdF n b' d:=by
  unfold qdF
  rw [← sm_add]
  refine sm_congr fun i _=>?_
  rw [← sm_add]
  exact sm_congr fun k _=>Int.add_mul _ _ _
theorem qdF_mul (n:Nat) (A:Int) (b:Nat→Nat→Int) (d:List Int):qdF n (fun i k=>A * b i k) d = A * qdF n b d:=by
  unfold qdF
  rw [← sm_mul]
  refine sm_congr fun i _=>?_
  rw [← sm_mul]
  exact sm_congr fun k _=>Int.mul_assoc _ _ _
structure Q2 (n K:Nat) (D:Nat→List Int) (x:Nat→Sr) (z:Sr):Prop where
  sx:∀ k,k < K→Ser1 3 (x k)
  sz:Ser1 1 z
  v:∀ k,k < K→(x k).getD 0 0 = z.getD 0 0
  q:∃ c b,∀ k,k < K→(x k).getD 1 0 = md (lnF n c (D k))∧(x k).getD 2 0 = md (qdF n b (D k))
theorem pro_2 {a b:Sr} (h:2 < a.length):(proS a b).getD 2 0 = md (a.getD 0 0 * b.getD 2 0 + a.getD 1 0 * b.getD 1 0 + a.getD 2 0 * b.getD 0 0):=by
  rw [show (proS a b).getD 2 0 = _ from tab_get 0 h]
  show md (md (md (0 + a.getD 0 0 * b.getD 2 0) + a.getD 1 0 * b.getD 1 0) + a.getD 2 0 * b.getD 0 0) = _
  generalize a.getD 0 0 * b.getD 2 0 = x
  generalize a.getD 1 0 * b.getD 1 0 = y
  generalize a.getD 2 0 * b.getD 0 0 = z
  unfold md; omega
theorem quo_2 {a b:Sr} (h:2 < a.length):(quoS a b).getD 2 0 = md ((a.getD 2 0 - (quoS a b).getD 0 0 * b.getD 2 0 - (quoS a b).getD 1 0 * b.getD 1 0) * inv (b.getD 0 0)):=by
  rw [quoS_at h]
  show md (md (md (a.getD 2 0 - (quoS a b).getD 0 0 * b.getD 2 0) - (quoS a b).getD 1 0 * b.getD 1 0) * inv (b.getD 0 0)) = _
  rw [md_mull,← md_mul,md_subl,md_mul]
theorem Q2.op {n K:Nat} {D:Nat→List Int} {xa xb out:Nat→Sr} {za zb oz:Sr} {A B E F:Int} (ha:Q2 n K D xa za) (hb:Q2 n K D xb zb) (hz:Ser1 1 oz) (hx:∀ k,k < K→Ser1 3 (out k)) (hv:∀ k,k < K→(out k).getD 0 0 = oz.getD 0 0)
    (h1:∀ k,k < K→(out k).getD 1 0 = md (A * (xa k).getD 1 0 + B * (xb k).getD 1 0))
    (h2:∀ k,k < K→(out k).getD 2 0 = md ((A * (xa k).getD 2 0 + B * (xb k).getD 2 0) + (E * ((xa k).getD 1 0 * (xb k).getD 1 0) + F * ((xb k).getD 1 0 * (xb k).getD 1 0)))):Q2 n K D out oz:=by
  obtain ⟨ca,ba,qa⟩:=ha.q
  obtain ⟨cb,bb,qb⟩:=hb.q
  refine ⟨hx,hz,hv,fun i=>A * ca i + B * cb i,fun i k=>(A * ba i k + B * bb i k) + (E * (ca i * cb k) + F * (cb i * cb k)),fun k hk=>⟨?_,?_⟩⟩
  · rw [h1 k hk,(qa k hk).1,(qb k hk).1,lnF_lin,← md_add,md_mulr,md_mulr,md_add]
  · rw [h2 k hk,(qa k hk).1,(qb k hk).1,(qa k hk).2,(qb k hk).2,qdF_add,qdF_add,qdF_add,qdF_mul,qdF_mul,qdF_mul,qdF_mul,← lnF_mul,← lnF_mul]
    have e:∀ x y u v p q:Int,md (A * md x + B * md y + (E * (md u * md v) + F * (md p * md q))) = md (A * x + B * y + (E * (u * v) + F * (p * q))):=fun x y u v p q=>by
      rw [← md_add,← md_add (A * md x),← md_add (E * _),md_mulr A,md_mulr B,← md_mulr E,← md_mulr F,md_mul,md_mul,md_mulr E,md_mulr F,md_add (A * x),md_add (E * _),md_add]
    exact e _ _ _ _ _ _
theorem cst_3 (c:Int):(cst 3 c).getD 1 0 = 0∧(cst 3 c).getD 2 0 = 0:=⟨rfl,rfl⟩
theorem Q2.all (n K:Nat) (D:Nat→List Int):OpR K (fun _=>3) 1 (Q2 n K D) where
  zero:=fun x z h k hk=>by rw [h.v k hk]
  cst:=fun a ha=>⟨fun _ _=>cst_ser ha,cst_ser ha,fun _ _=>rfl,fun _=>0,fun _ _=>0,fun k _=>by
    have e1:lnF n (fun _=>0) (D k) = 0:=by
      unfold lnF; refine (sm_congr (g:=fun _=>0 * 0) fun i _=>by rw [Int.zero_mul,Int.zero_mul]).trans ?_
      rw [sm_mul,Int.zero_mul]
    have e2:qdF n (fun _ _=>0) (D k) = 0:=by
      have:=qdF_mul n 0 (fun _ _=>0) (D k)
      simpa using this
    rw [e1,e2]
    exact ⟨(cst_3 a).1,(cst_3 a).2⟩⟩
  add:=fun x z y w hx hy=>Q2.op (A:=1) (B:=1) (E:=0) (F:=0) hx hy ⟨by rw [addS_len]; exact hx.sz.1,addS_num _ _⟩ (fun k hk=>⟨by rw [addS_len]; exact (hx.sx k hk).1,addS_num _ _⟩)
    (fun k hk=>by rw [add_k (by rw [(hx.sx k hk).1]; decide),add_k (by rw [hx.sz.1]; decide),hx.v k hk,hy.v k hk]) (fun k hk=>by rw [add_k (by rw [(hx.sx k hk).1]; decide),Int.one_mul,Int.one_mul])
    (fun k hk=>by rw [add_k (by rw [(hx.sx k hk).1]; decide),Int.one_mul,Int.one_mul,Int.zero_mul,Int.zero_mul,Int.add_zero,Int.add_zero])
  red:=fun x z y w hx hy=>Q2.op (A:=1) (B:=-1) (E:=0) (F:=0) hx hy ⟨by rw [redS_len]; exact hx.sz.1,redS_num _ _⟩ (fun k hk=>⟨by rw [redS_len]; exact (hx.sx k hk).1,redS_num _ _⟩)
    (fun k hk=>by rw [red_k (by rw [(hx.sx k hk).1]; decide),red_k (by rw [hx.sz.1]; decide),hx.v k hk,hy.v k hk]) (fun k hk=>by rw [red_k (by rw [(hx.sx k hk).1]; decide)]; congr 1; omega)
    (fun k hk=>by rw [red_k (by rw [(hx.sx k hk).1]; decide),Int.zero_mul,Int.zero_mul]; congr 1; omega)
  pro:=fun x z y w hx hy=>Q2.op (A:=w.getD 0 0) (B:=z.getD 0 0) (E:=1) (F:=0) hx hy ⟨by rw [proS_len]; exact hx.sz.1,proS_num _ _⟩ (fun k hk=>⟨by rw [proS_len]; exact (hx.sx k hk).1,proS_num _ _⟩)
    (fun k hk=>by rw [pro_0 (by rw [(hx.sx k hk).1]; decide),pro_0 (by rw [hx.sz.1]; decide),hx.v k hk,hy.v k hk])
    (fun k hk=>by rw [pro_1 (by rw [(hx.sx k hk).1]; decide),md_addl,Int.zero_add,Int.add_comm,Int.mul_comm ((x k).getD 1 0),hx.v k hk,hy.v k hk])
    (fun k hk=>by rw [pro_2 (by rw [(hx.sx k hk).1]; decide),hx.v k hk,hy.v k hk,Int.one_mul,Int.zero_mul,Int.mul_comm ((x k).getD 2 0)]; congr 1; omega)
  scl:=fun x z hx=>Q2.op (A:=1000002) (B:=0) (E:=0) (F:=0) hx hx ⟨by rw [sclS_len]; exact hx.sz.1,sclS_num _ _⟩ (fun k hk=>⟨by rw [sclS_len]; exact (hx.sx k hk).1,sclS_num _ _⟩)
    (fun k hk=>by rw [scl_k (by rw [(hx.sx k hk).1]; decide),scl_k (by rw [hx.sz.1]; decide),hx.v k hk]) (fun k hk=>by rw [scl_k (by rw [(hx.sx k hk).1]; decide)]; congr 1; omega)
    (fun k hk=>by rw [scl_k (by rw [(hx.sx k hk).1]; decide),Int.zero_mul,Int.zero_mul]; congr 1; omega)
  quo:=fun x z y w hx hy h0=>by
    have hq:∀ k,k < K→(quoS (x k) (y k)).getD 0 0 = (quoS z w).getD 0 0:=fun k hk=>by rw [quo_0 (by rw [(hx.sx k hk).1]; decide),quo_0 (by rw [hx.sz.1]; decide),hx.v k hk,hy.v k hk]
    have hf:∀ a q b i:Int,md (md (a - q * b) * i) = md (i * a + (-(q * i)) * b):=fun a q b i=>by
      rw [md_mull]; congr 1
      rw [Int.sub_mul,Int.neg_mul,Int.mul_comm a i,Int.mul_assoc,Int.mul_assoc,Int.mul_comm b i]; omega
    have h1:∀ k,k < K→(quoS (x k) (y k)).getD 1 0 = md (inv (w.getD 0 0) * (x k).getD 1 0 + (-((quoS z w).getD 0 0 * inv (w.getD 0 0))) * (y k).getD 1 0):=fun k hk=>by rw [quo_1 (by rw [(hx.sx k hk).1]; decide),hf,hq k hk,hy.v k hk]
    refine Q2.op (A:=inv (w.getD 0 0)) (B:=-((quoS z w).getD 0 0 * inv (w.getD 0 0))) (E:=-(inv (w.getD 0 0) * inv (w.getD 0 0))) (F:=(quoS z w).getD 0 0 * inv (w.getD 0 0) * inv (w.getD 0 0)) hx hy ⟨by rw [quoS_len]; exact hx.sz.1,quoS_num _ _⟩ (fun k hk=>⟨by rw [quoS_len]; exact (hx.sx k hk).1,quoS_num _ _⟩) hq h1 fun k hk=>?_
    rw [quo_2 (by rw [(hx.sx k hk).1]; decide),h1 k hk,hq k hk,hy.v k hk]
    generalize inv (w.getD 0 0) = i
    generalize (quoS z w).getD 0 0 = q
    generalize (x k).getD 2 0 = a2
    generalize (x k).getD 1 0 = a1
    generalize (y k).getD 2 0 = b2
    generalize (y k).getD 1 0 = b1
    have e:∀ s t u:Int,md ((s - md t * u) * i) = md ((s - t * u) * i):=fun s t u=>by
      rw [← md_mull,← md_subr,md_mull t,md_subr,md_mull]
    rw [e]
    congr 1
    simp only [Int.sub_mul,Int.add_mul,Int.mul_sub,Int.mul_add,Int.neg_mul,Int.mul_neg,Int.mul_assoc,Int.mul_comm,Int.mul_left_comm]
    omega
end Go.Proofs.YtnokbaiemimhjaaGreat
namespace Go.Proofs.YtnokbaiemimhjaaGreat
open Go Go.RowKit
set_option linter.unusedVariables false
set_option linter.unusedSimpArgs false
section str
variable {P:Program} {ops:Array Oper} {w0:World} {Q:Act→World→Prop} {os:List Oper} {ks:List Nat} {N:Nat} {ρ:Nat→Value} {w:World}
  {d:Nat} {ty:TypeId} {pos:String} {aft:Array Edge} {g:Option (Nat × Bool)} {t e:TypeId}
theorem r_boxB {x:Operand} {u:Value} (hx:evF N ρ x = u) (hc:u.cells = #[u]) (hu:Up ops N ρ ⟨some d,.box t x,ty,pos,aft,g⟩)
    (h:∀ w1,Ext w w1→w1.heap.size = w.heap.size + 1→BX w1.heap w.heap.size [u]→LW P ops w0 Q os ks (mk N (upd ρ d (.pointer (some ⟨w.heap.size,0,none⟩)))) w1) :
    LW P ops w0 Q (⟨some d,.box t x,ty,pos,aft,g⟩ :: os) (3 :: ks) (mk N ρ) w:=by
  have hrun:(execOp (evF N ρ) ⟨some d,.box t x,ty,pos,aft,g⟩).run P w = .ok (.value (.pointer (some ⟨w.heap.size,0,none⟩))) (w.alloc (.cells #[u] t)):=by
    simp [execOp,Instr.box,newVar,newRow,hx,hc]
  refine lw_r rfl hu _ _ hrun (ext_alloc _ _) (h _ (ext_alloc _ _) (by simp) ⟨t,?_⟩)
  have:=heap_alloc_new w (.cells #[u] t)
  simpa using this
end str
section draw3
variable {P:Program}
end draw3
end Go.Proofs.YtnokbaiemimhjaaGreat
namespace Go.Proofs.YtnokbaiemimhjaaGreat
open Go Go.RowKit
set_option linter.unusedVariables false
set_option linter.unusedSimpArgs false
def cfR (p:List Fn) (f pk:Nat) (a d:List Int) (o:Nat):Int:=((evR p (o + 1) f (alS a d (o + 1))).getD pk []).getD o 0
def dl (i:Nat) (j:Nat):Int:=if i = j then 1 else 0
def heV (p:List Fn) (f pk:Nat) (a:List Int) (i k:Nat):Int:=if i = k then md (2 * cfR p f pk a (uniG a.length [((i:Nat):Int)] 1) 2) else md (cfR p f pk a (uniG a.length [((i:Nat):Int),((k:Nat):Int)] 2) 2 - (cfR p f pk a (uniG a.length [((i:Nat):Int)] 1) 2 + cfR p f pk a (uniG a.length [((k:Nat):Int)] 1) 2))
def heP (p:List Fn) (f pk:Nat) (a:List Int) (i k:Nat):List Int:=tab k (heV p f pk a i)
def heT (p:List Fn) (f pk:Nat) (a:List Int) (i:Nat):List (List Int):=tab i fun i=>heP p f pk a i a.length
@[simp] theorem heP_len (p:List Fn) (f pk:Nat) (a:List Int) (i k:Nat):(heP p f pk a i k).length = k:=by simp [heP]
@[simp] theorem heT_len (p:List Fn) (f pk:Nat) (a:List Int) (i:Nat):(heT p f pk a i).length = i:=by simp [heT]
end Go.Proofs.YtnokbaiemimhjaaGreat
namespace Go.Proofs.YtnokbaiemimhjaaGreat
open Go Go.RowKit
set_option linter.unusedVariables false
set_option linter.unusedSimpArgs false
def derL (a:Sr) (k:Nat):Sr:=tab a.length fun i=>if i < k then md (((i + 1:Nat):Int) * a.getD (i + 1) 0) else 0
def derS (a:Sr):Sr:=derL a (a.length - 1)
@[simp] theorem derL_len (a:Sr) (k:Nat):(derL a k).length = a.length:=by simp [derL]
@[simp] theorem derS_len (a:Sr):(derS a).length = a.length:=derL_len a _
structure PthD (m:Nat) (a:List Int) (X:List Sr):Prop where
  len:X.length = a.length
  ser:∀ i,i < a.length→Ser1 m (X.getD i [])
  at0:∀ i,i < a.length→(X.getD i []).getD 0 0 = a.getD i 0
section
variable {p:List Fn} {f m:Nat} {a:List Int} {X:List Sr} {b:Sr}
theorem PthD.one (h:PthD m a X) (hm:0 < m):X.map (cut 1) = sing a:=by
  refine extR (by rw [List.length_map,h.len]; unfold sing; rw [List.length_map]) fun i hi=>?_
  rw [List.length_map,h.len] at hi
  rw [map_getD (d:=[]) (by rw [h.len]; exact hi)]
  unfold sing
  rw [map_getD (d:=0) hi,← h.at0 i hi]
  have h1:=(h.ser i hi).1
  generalize X.getD i [] = s at h1 ⊢
  cases s with
  | nil=>simp at h1; omega
  | cons x s=>rfl
theorem PthD.code (h:PthD m a X) (hm:0 < m):evD p m f X = nxC p f a:=by
  unfold nxC
  rw [← h.one hm,evD_cut p (Nat.le_refl 1) hm]
end
end Go.Proofs.YtnokbaiemimhjaaGreat
namespace Go.Proofs.YtnokbaiemimhjaaGreat
open Go Go.RowKit
set_option linter.unusedVariables false
set_option linter.unusedSimpArgs false
theorem snoc_ind {α:Type} {P:List α→Prop} (h0:P []) (h1:∀ l c,P l→P (l++[c])) (l:List α):P l:=by
  have h:∀ l:List α,P l.reverse:=fun l=>by
    induction l with
    | nil=>exact h0
    | cons c l ih=>rw [List.reverse_cons]; exact h1 _ _ ih
  have:=h l.reverse
  rwa [List.reverse_reverse] at this
def regI (m:Nat) (A R:List Sr) (c:Ins):Sr :=
  if c.op = 1 then A.getD c.num.toNat [] else if c.op = 3 then addS (R.getD c.a.toNat []) (R.getD c.b.toNat []) else if c.op = 4 then redS (R.getD c.a.toNat []) (R.getD c.b.toNat [])
  else if c.op = 5 then proS (R.getD c.a.toNat []) (R.getD c.b.toNat []) else if c.op = 7 then sclS (R.getD c.a.toNat []) 1000002
  else if c.op = 6 then quoS (R.getD c.a.toNat []) (R.getD c.b.toNat []) else cst m c.num
def regs (m:Nat) (A:List Sr) (cs:List Ins):List Sr:=cs.foldl (fun R c=>R++[regI m A R c]) []
section
variable {m:Nat} {A:List Sr}
theorem regs_snoc (cs:List Ins) (c:Ins):regs m A (cs++[c]) = regs m A cs++[regI m A (regs m A cs) c]:=by unfold regs; rw [List.foldl_append]; rfl
@[simp] theorem regs_len (cs:List Ins):(regs m A cs).length = cs.length:=by
  induction cs using snoc_ind with
  | h0=>rfl
  | h1 l c ih=>rw [regs_snoc,List.length_append,ih,List.length_append]; rfl
theorem regs_pre (cs l:List Ins) {k:Nat} (hk:k < cs.length):(regs m A (cs++l)).getD k [] = (regs m A cs).getD k []:=by
  induction l using snoc_ind with
  | h0=>rw [List.append_nil]
  | h1 l c ih=>rw [← List.append_assoc,regs_snoc,gd_l (by rw [regs_len,List.length_append]; omega),ih]
theorem regs_last (cs:List Ins) (c:Ins):(regs m A (cs++[c])).getD cs.length [] = regI m A (regs m A cs) c:=by rw [regs_snoc,gd_r (by rw [regs_len])]
end
def InO (ni k:Nat) (c:Ins):Prop :=
  (c.op = 1∧c.a = 0∧c.b = 0∧0≤c.num∧c.num < ((ni:Nat):Int))∨(c.op = 2∧c.a = 0∧c.b = 0∧0≤c.num∧c.num < 1000003) ∨
  ((c.op = 3∨c.op = 4∨c.op = 5∨c.op = 6)∧(0≤c.a∧c.a < ((k:Nat):Int))∧(0≤c.b∧c.b < ((k:Nat):Int))∧c.num = 0)∨(c.op = 7∧(0≤c.a∧c.a < ((k:Nat):Int))∧c.b = 0∧c.num = 0)
theorem InO.bin {ni k:Nat} {op a b:Int} (h:op = 3∨op = 4∨op = 5∨op = 6) (ha:0≤a∧a < ((k:Nat):Int)) (hb:0≤b∧b < ((k:Nat):Int)):InO ni k ⟨op,a,b,0⟩:=.inr (.inr (.inl ⟨h,ha,hb,rfl⟩))
theorem InO.neg {ni k:Nat} {a:Int} (ha:0≤a∧a < ((k:Nat):Int)):InO ni k ⟨7,a,0,0⟩:=.inr (.inr (.inr ⟨rfl,ha,rfl,rfl⟩))
structure TpI (m:Nat) (A:List Sr) (T:Tp):Prop where
  cl:T.code.length = T.vals.length
  ser:∀ k,k < T.code.length→Ser1 m ((regs m A T.code).getD k [])∧((regs m A T.code).getD k []).getD 0 0 = T.vals.getD k 0
  form:∀ k,k < T.code.length→InO A.length k (T.code.getD k Ins.zero)
  dv:∀ k,k < T.code.length→(T.code.getD k Ins.zero).op = 6→T.at (T.code.getD k Ins.zero).b≠0
  gd:∀ k,k < T.grd.length→(0≤(T.grd.getD k Grd.zero).reg∧(T.grd.getD k Grd.zero).reg < ((T.vals.length:Nat):Int))∧(T.grd.getD k Grd.zero).z = decide (T.at (T.grd.getD k Grd.zero).reg = 0)
def TE (T T':Tp):Prop:=(∃ l,T'.code = T.code++l)∧∃ l,T'.vals = T.vals++l
theorem TE.refl (T:Tp):TE T T:=⟨⟨[],by simp⟩,[],by simp⟩
theorem TE.trans {T T' T'':Tp} (h:TE T T') (k:TE T' T''):TE T T'':=by
  obtain ⟨⟨l,h1⟩,l2,h2⟩:=h
  obtain ⟨⟨l3,h3⟩,l4,h4⟩:=k
  exact ⟨⟨l++l3,by rw [h3,h1,List.append_assoc]⟩,l2++l4,by rw [h4,h2,List.append_assoc]⟩
theorem TE.put (T:Tp) (c:Ins) (v:Int):TE T (T.put c v):=⟨⟨[c],rfl⟩,[v],rfl⟩
theorem TE.guard (T:Tp) (r:Int) (z:Bool):TE T (T.guard r z):=⟨⟨[],by simp [Tp.guard]⟩,[],by simp [Tp.guard]⟩
section
variable {m:Nat} {A:List Sr} {T T':Tp}
theorem TE.reg (h:TE T T') {k:Nat} (hk:k < T.code.length):(regs m A T'.code).getD k [] = (regs m A T.code).getD k []:=by
  obtain ⟨⟨l,h1⟩,_⟩:=h
  rw [h1,regs_pre _ _ hk]
theorem TE.at (h:TE T T') {r:Int} (hr:0≤r∧r < ((T.vals.length:Nat):Int)):T'.at r = T.at r:=by
  obtain ⟨_,l,h1⟩:=h
  unfold Tp.at
  rw [h1,gd_l (by omega)]
theorem TE.len (h:TE T T'):T.code.length≤T'.code.length∧T.vals.length≤T'.vals.length:=by
  obtain ⟨⟨l,h1⟩,l2,h2⟩:=h
  rw [h1,h2,List.length_append,List.length_append]; omega
def RgV (m:Nat) (A:List Sr) (T:Tp) (r:Int) (z:Sr):Prop:=(0≤r∧r < ((T.vals.length:Nat):Int))∧z = (regs m A T.code).getD r.toNat []
def RgL (m:Nat) (A:List Sr) (n:Nat) (T:Tp) (rs:List Int) (zs:List Sr):Prop:=rs.length = n∧zs.length = n∧∀ i,i < n→RgV m A T (rs.getD i 0) (zs.getD i [])
theorem RgV.mono {r:Int} {z:Sr} (hc:T.code.length = T.vals.length) (h:RgV m A T r z) (k:TE T T'):RgV m A T' r z:=by
  have:=k.len
  exact ⟨by have:=h.1; omega,by rw [k.reg (by have:=h.1; omega)]; exact h.2⟩
theorem RgL.mono {n:Nat} {rs:List Int} {zs:List Sr} (hc:T.code.length = T.vals.length) (h:RgL m A n T rs zs) (k:TE T T'):RgL m A n T' rs zs:=⟨h.1,h.2.1,fun i hi=>(h.2.2 i hi).mono hc k⟩
theorem RgL.snoc {n:Nat} {rs:List Int} {zs:List Sr} {r:Int} {z:Sr} (h:RgL m A n T rs zs) (h1:RgV m A T r z):RgL m A (n + 1) T (rs++[r]) (zs++[z]):=by
  refine ⟨by simp [h.1],by simp [h.2.1],fun i hi=>?_⟩
  by_cases e:i = n
  · rw [gd_r (by rw [h.1]; exact e),gd_r (by rw [h.2.1]; exact e)]; exact h1
  · rw [gd_l (by rw [h.1]; omega),gd_l (by rw [h.2.1]; omega)]; exact h.2.2 i (by omega)
theorem RgV.at (hI:TpI m A T) {r:Int} {z:Sr} (h:RgV m A T r z):Ser1 m z∧z.getD 0 0 = T.at r:=by
  have:=hI.ser r.toNat (by rw [hI.cl]; have:=h.1; omega)
  rw [h.2]; exact this
def RTs {α β:Type} (m:Nat) (A:List Sr) (T:Tp) (R:Tp→α→β→Prop) (r:Rs (α × Tp)) (rz:Rs β):Prop:=match r with
  | .ok x t=>∃ z,rz = .ok z t∧TpI m A x.2∧TE T x.2∧R x.2 x.1 z
  | .err c=>rz = .err c
theorem RTs.bind {α β α' β':Type} {R:Tp→α→β→Prop} {R':Tp→α'→β'→Prop} {r:Rs (α × Tp)} {rz:Rs β} {g:α × Tp→Nat→Rs (α' × Tp)} {gz:β→Nat→Rs β'} (h:RTs m A T R r rz)
    (hg:∀ x T' z t,TpI m A T'→TE T T'→R T' x z→RTs m A T' R' (g (x,T') t) (gz z t)):RTs m A T R' (r.bind g) (rz.bind gz):=by
  cases r with
  | err c=>have h9:rz = .err c:=h; subst h9; exact rfl
  | ok x t =>
    obtain ⟨z,h1,h2,h3,h4⟩:=h
    subst h1
    have h5:=hg x.1 x.2 z t h2 h3 h4
    rw [Rs.bind_ok,Rs.bind_ok]
    cases hr:g x t with
    | err c=>rw [hr] at h5; exact h5
    | ok y u =>
      rw [hr] at h5
      obtain ⟨v,q1,q2,q3,q4⟩:=h5
      exact ⟨v,q1,q2,h3.trans q3,q4⟩
theorem RTs.ret {α β:Type} {R:Tp→α→β→Prop} {x:α} {z:β} {t:Nat} (hI:TpI m A T') (hE:TE T T') (h:R T' x z):RTs m A T R (.ok (x,T') t) (.ok z t):=⟨z,rfl,hI,hE,h⟩
theorem TpI.put (h:TpI m A T) {c:Ins} {v:Int} (hs:Ser1 m (regI m A (regs m A T.code) c)) (hv:(regI m A (regs m A T.code) c).getD 0 0 = v) (hf:InO A.length T.code.length c) (hd:c.op = 6→T.at c.b≠0):TpI m A (T.put c v):=by
  have hE:=TE.put T c v
  have hcl:=h.cl
  have key:∀ k,k < (T.put c v).code.length→k < T.code.length∨k = T.code.length:=fun k hk=>by rw [put_cl] at hk; omega
  have cg:∀ k,k < T.code.length→(T.put c v).code.getD k Ins.zero = T.code.getD k Ins.zero:=fun k hk=>gd_l hk
  have cn:(T.put c v).code.getD T.code.length Ins.zero = c:=gd_r rfl
  refine ⟨by rw [put_cl,put_vl,hcl],fun k hk=>?_,fun k hk=>?_,fun k hk h6=>?_,fun k hk=>?_⟩
  · rcases key k hk with hk | rfl
    · rw [hE.reg hk,show (T.put c v).vals.getD k 0 = T.vals.getD k 0 from gd_l (by omega)]; exact h.ser k hk
    · rw [show (regs m A (T.put c v).code).getD T.code.length [] = _ from regs_last _ _,show (T.put c v).vals.getD T.code.length 0 = v from gd_r hcl]; exact ⟨hs,hv⟩
  · rcases key k hk with hk | rfl
    · rw [cg k hk]; exact h.form k hk
    · rw [cn]; exact hf
  · rcases key k hk with hk | rfl
    · rw [cg k hk] at h6 ⊢
      have:=h.form k hk
      unfold InO at this
      rw [hE.at (by omega)]; exact h.dv k hk h6
    · rw [cn] at h6 ⊢
      unfold InO at hf
      rw [hE.at (by omega)]; exact hd h6
  · have:=h.gd k hk
    rw [put_gl] at hk ⊢
    refine ⟨by rw [put_vl]; omega,?_⟩
    rw [hE.at this.1]; exact this.2
theorem TpI.guard (h:TpI m A T) {r:Int} (hr:0≤r∧r < ((T.vals.length:Nat):Int)):TpI m A (T.guard r (decide (T.at r = 0))):=by
  refine ⟨h.cl,h.ser,h.form,h.dv,fun k hk=>?_⟩
  rw [guard_gl] at hk
  by_cases e:k < T.grd.length
  · rw [show (T.guard r (decide (T.at r = 0))).grd.getD k Grd.zero = T.grd.getD k Grd.zero from gd_l e]; exact h.gd k e
  · rw [show (T.guard r (decide (T.at r = 0))).grd.getD k Grd.zero = ⟨r,decide (T.at r = 0)⟩ from gd_r (by omega)]; exact ⟨hr,rfl⟩
theorem RTs.put {R:Tp→Int→Sr→Prop} {c:Ins} {v:Int} {z:Sr} {t:Nat} (h:TpI m A T) (hz:regI m A (regs m A T.code) c = z) (hs:Ser1 m z) (hv:z.getD 0 0 = v) (hf:InO A.length T.code.length c) (hd:c.op = 6→T.at c.b≠0)
    (hR:∀ T' r z,RgV m A T' r z→R T' r z):RTs m A T R (.ok (((T.vals.length:Nat):Int),T.put c v) t) (.ok z t):=by
  subst hz
  refine RTs.ret (h.put hs hv hf hd) (TE.put T c v) (hR _ _ _ ⟨by rw [put_vl]; omega,?_⟩)
  rw [Int.toNat_natCast,← h.cl]; exact (regs_last _ _).symm
theorem RTs.imp {α β:Type} {R R':Tp→α→β→Prop} {r:Rs (α × Tp)} {rz:Rs β} (h:RTs m A T R r rz) (hi:∀ T' x z,R T' x z→R' T' x z):RTs m A T R' r rz:=by
  cases r with
  | err c=>exact h
  | ok x t=>obtain ⟨z,h1,h2,h3,h4⟩:=h; exact ⟨z,h1,h2,h3,hi _ _ _ h4⟩
theorem opG_T (hm:1≤m) (h:TpI m A T) {k:Int} {n t:Nat} {rs:List Int} {zs:List Sr} (hr:RgL m A n T rs zs) (hk:3≤k∧k≤7) (h1:k = 7→1≤n) (h2:k≠7→2≤n):RTs m A T (RgV m A) (opG k rs t T) (opV k zs t):=by
  have hn1:1≤n:=by by_cases e:k = 7; exact h1 e; have:=h2 e; omega
  have ha:=hr.2.2 0 (by omega)
  have hA:=ha.at h
  have hal:=hA.1.1
  have hac:=ha.1
  have hcl:=h.cl
  have fin:∀ T' r z,RgV m A T' r z→RgV m A T' r z:=fun _ _ _ h=>h
  by_cases k7:k = 7
  · subst k7
    rw [opG_ok (opZ_7 rfl),insO_7 rfl]
    refine RTs.put h ?_ ⟨(sclS_len _ _).trans hal,sclS_num _ _⟩ ?_ (InO.neg (by omega)) (fun h6=>absurd (show (7:Int) = 6 from h6) (by decide)) fin
    · rw [ha.2]; rfl
    · rw [scl_k (by omega),hA.2]
      show md (T.at (rs.getD 0 0) * 1000002) = md (0 - T.at (rs.getD 0 0))
      unfold md; omega
  have hb:=hr.2.2 1 (h2 k7)
  have hB:=hb.at h
  have hbl:=hB.1.1
  have hbc:=hb.1
  by_cases k3:k = 3
  · subst k3
    rw [opG_ok (fun h=>h.1 rfl),insO_2 (by decide)]
    refine RTs.put h ?_ ⟨(addS_len _ _).trans hal,addS_num _ _⟩ ?_ (InO.bin (.inl rfl) (by omega) (by omega)) (fun h6=>absurd (show (3:Int) = 6 from h6) (by decide)) fin
    · rw [ha.2,hb.2]; rfl
    · rw [add_k (by omega),hA.2,hB.2]; rfl
  by_cases k4:k = 4
  · subst k4
    rw [opG_ok (fun h=>h.2.1 rfl),insO_2 (by decide)]
    refine RTs.put h ?_ ⟨(redS_len _ _).trans hal,redS_num _ _⟩ ?_ (InO.bin (.inr (.inl rfl)) (by omega) (by omega)) (fun h6=>absurd (show (4:Int) = 6 from h6) (by decide)) fin
    · rw [ha.2,hb.2]; rfl
    · rw [red_k (by omega),hA.2,hB.2]; rfl
  by_cases k5:k = 5
  · subst k5
    rw [opG_ok (fun h=>h.2.2.1 rfl),insO_2 (by decide)]
    refine RTs.put h ?_ ⟨(proS_len _ _).trans hal,proS_num _ _⟩ ?_ (InO.bin (.inr (.inr (.inl rfl))) (by omega) (by omega)) (fun h6=>absurd (show (5:Int) = 6 from h6) (by decide)) fin
    · rw [ha.2,hb.2]; rfl
    · rw [pro_0 (by omega),hA.2,hB.2,Int.zero_add]; rfl
  have k6:k = 6:=by omega
  subst k6
  by_cases hz:T.at (rs.getD 1 0) = 0
  · rw [opG_err (by rw [insO_2 (by decide)]; exact ⟨by decide,by decide,by decide,by decide,hz⟩)]
    show opV 6 zs t = .err 6
    show (if (zs.getD 1 []).getD 0 0 = 0 then _ else _) = _
    rw [if_pos (by rw [hB.2]; exact hz)]
  · rw [opG_ok (by rw [insO_2 (by decide)]; exact fun h9=>hz h9.2.2.2.2),insO_2 (by decide)]
    have e:opV 6 zs t = .ok (quoS (zs.getD 0 []) (zs.getD 1 [])) t:=by
      show (if (zs.getD 1 []).getD 0 0 = 0 then _ else _) = _
      rw [if_neg (by rw [hB.2]; exact hz)]
    rw [e]
    refine RTs.put h ?_ ⟨(quoS_len _ _).trans hal,quoS_num _ _⟩ ?_ (InO.bin (.inr (.inr (.inr rfl))) (by omega) (by omega)) (fun _=>hz) fin
    · rw [ha.2,hb.2]; rfl
    · rw [quo_0 (by omega),hA.2,hB.2]; rfl
end
structure CaT (m:Nat) (A:List Sr) (p:List Fn) (F:Nat) (G:Cg) (C:Ca):Prop where
  one:∀ f j n T rs zs t,f < F→j < (p.getD f Fn.zero).outs.length→TpI m A T→RgL m A n T rs zs→((n:Nat):Int) = (p.getD f Fn.zero).params→RTs m A T (RgV m A) (G.one f j rs t T) (C.one f j zs t)
  all:∀ f n T rs zs t,f < F→TpI m A T→RgL m A n T rs zs→((n:Nat):Int) = (p.getD f Fn.zero).params→RTs m A T (RgL m A (p.getD f Fn.zero).outs.length) (G.all f rs t T) (C.all f zs t)
section
variable {m:Nat} {A:List Sr} {p:List Fn}
theorem rgs_T {G:Cg} {C:Ca} {env:List Int} {ez:List Sr} {n:Nat}:∀ (l:List Ex),(∀ e∈l,∀ s T,TpI m A T→RgL m A n T env ez→RTs m A T (RgV m A) (rgE G e env s T) (evE m C e ez s))→∀ s T,TpI m A T→RgL m A n T env ez→RTs m A T (RgL m A l.length) (rgs G l env s T) (evs m C l ez s)
  | [],_,s,T,hI,he=>by
    rw [rgs,evs]
    exact RTs.ret hI (TE.refl T) ⟨rfl,rfl,fun i hi=>absurd hi (Nat.not_lt_zero i)⟩
  | e :: l,h,s,T,hI,he=>by
    rw [rgs,evs]
    refine (h e (by simp) s T hI he).bind fun x T1 z t h1 h2 h3=>?_
    refine (rgs_T l (fun e' he'=>h e' (by simp [he'])) t T1 h1 (he.mono hI.cl h2)).bind fun xs T2 zs u q1 q2 q3=>?_
    refine RTs.ret q1 (TE.refl T2) ⟨by simp [q3.1],by simp [q3.2.1],fun i hi=>?_⟩
    cases i with
    | zero=>exact h3.mono h1.cl q2
    | succ i=>exact q3.2.2 i (by simpa using hi)
theorem lopg_T {F f:Nat} {G:Cg} {C:Ca} (hC:CaT m A p F G C) (hf:f < F) (ho:(((p.getD f Fn.zero).outs.length:Nat):Int) = (p.getD f Fn.zero).params):∀ (c:Nat) (rs:List Int) (zs:List Sr) (t:Nat) (T:Tp),TpI m A T→RgL m A (p.getD f Fn.zero).outs.length T rs zs →
    RTs m A T (RgL m A (p.getD f Fn.zero).outs.length) (lopg (G.all f) c rs t T) (lop (C.all f) c zs t)
  | 0,rs,zs,t,T,hI,h=>RTs.ret hI (TE.refl T) h
  | c + 1,rs,zs,t,T,hI,h=>(lopg_T hC hf ho c rs zs t T hI h).bind fun x T1 z u h1 h2 h3=>hC.all f _ T1 x z u hf h1 h3 ho
theorem rgE_T (hm:1≤m) {F:Nat} {G:Cg} {C:Ca} (hC:CaT m A p F G C):∀ (z:Nat) (e:Ex),e.size≤z→∀ (n:Nat) (env:List Int) (ez:List Sr) (s:Nat) (T:Tp),wf p ((F:Nat):Int) e ((n:Nat):Int) = true→TpI m A T→RgL m A n T env ez →
    RTs m A T (RgV m A) (rgE G e env s T) (evE m C e ez s)
  | 0,e,h,_,_,_,_,_,_,_,_=>by have:=size_kids e; omega
  | z + 1,e,h,n,env,ez,s,T,hw,hI,he=>by
    obtain ⟨w1,w2,w3,w4,w5,w6,w7,w8⟩:=wfN_all (wf_node hw)
    have hz:∀ j,j < e.kids.length→(e.kids.getD j Ex.zero).size≤z:=fun j hj=>by
      have:=size_kids e; have:=sizes_at hj; omega
    have hk:∀ j,j < e.kids.length→¬ (e.kind = 9∧j = 1)→∀ t T',TpI m A T'→RgL m A n T' env ez→RTs m A T' (RgV m A) (rgK G e.kids j env t T') (evK m C e.kids j ez t):=fun j hj hn t T' h1 h2=>by
      rw [rgK_at _ _ _ _ _ _ hj,evK_at _ _ _ _ _ _ hj]
      exact rgE_T hm hC z _ (hz j hj) n env ez t T' (wf_at0 hw hj hn) h1 h2
    rw [rgE_eq,evE_eq]
    by_cases hs3:3000≤s
    · rw [if_pos hs3,if_pos hs3]; exact rfl
    rw [if_neg hs3,if_neg hs3]
    by_cases k1:e.kind = 1
    · rw [if_pos k1,if_pos k1]
      have:=w8 k1
      exact RTs.put hI rfl (cst_ser (isN_iff.2 this)) (cst_at0 hm) (.inr (.inl ⟨rfl,rfl,rfl,this⟩)) (fun h6=>absurd (show (2:Int) = 6 from h6) (by decide)) fun _ _ _ h=>h
    rw [if_neg k1,if_neg k1]
    by_cases k2:e.kind = 2
    · rw [if_pos k2,if_pos k2]
      exact RTs.ret hI (TE.refl T) (he.2.2 _ (by have:=w2 k2; omega))
    rw [if_neg k2,if_neg k2]
    by_cases k8:e.kind = 8
    · rw [if_pos k8,if_pos k8]
      have h3:=w5 k8
      refine (hk 0 (by omega) (by omega) (s + 1) T hI he).bind fun x T1 y t h1 h2 hx=>?_
      have hq:=(hx.at h1).2
      have he1:=he.mono hI.cl h2
      dsimp only
      have fin:∀ {r:Rs RI} {rz:Rs Sr} {b:Bool},RTs m A (T1.guard x b) (RgV m A) r rz→RTs m A T1 (RgV m A) r rz:=fun {r rz b} hh=>by
        cases r with
        | err c=>exact hh
        | ok v u=>obtain ⟨q,a1,a2,a3,a4⟩:=hh; exact ⟨q,a1,a2,(TE.guard T1 x b).trans a3,a4⟩
      have hg:=h1.guard hx.1
      by_cases h0:T1.at x = 0
      · rw [if_pos h0,if_pos (by rw [hq]; exact h0)]
        rw [decide_eq_true h0] at hg
        exact fin (hk 1 (by omega) (by omega) t _ hg (he1.mono h1.cl (TE.guard T1 x true)))
      · rw [if_neg h0,if_neg (by rw [hq]; exact h0)]
        rw [decide_eq_false h0] at hg
        exact fin (hk 2 (by omega) (by omega) t _ hg (he1.mono h1.cl (TE.guard T1 x false)))
    rw [if_neg k8,if_neg k8]
    by_cases k9:e.kind = 9
    · rw [if_pos k9,if_pos k9]
      have h3:=w3 (by omega)
      refine (hk 0 (by omega) (by omega) (s + 1) T hI he).bind fun x T1 y t h1 h2 hx=>?_
      dsimp only
      rw [rgK_at _ _ _ _ _ _ (show 1 < e.kids.length by omega),evK_at _ _ _ _ _ _ (show 1 < e.kids.length by omega)]
      refine rgE_T hm hC z _ (hz 1 (by omega)) (n + 1) (env++[x]) (ez++[y]) t T1 ?_ h1 ((he.mono hI.cl h2).snoc hx)
      have:=wf_at1 hw (by omega) k9
      rw [Int.natCast_add]; exact this
    rw [if_neg k9,if_neg k9]
    have hc:=rgs_T (G:=G) (C:=C) (env:=env) (ez:=ez) (n:=n) e.kids (fun x hx t T' h1 h2=>by
      obtain ⟨j,hj,rfl⟩:=List.mem_iff_getElem.1 hx
      have:=hk j hj (by omega) t T' h1 h2
      rw [rgK_at _ _ _ _ _ _ hj,evK_at _ _ _ _ _ _ hj,gd_at hj] at this
      exact this) (s + 1) T hI he
    refine hc.bind fun xs T1 zs t h1 h2 hx=>?_
    dsimp only
    by_cases k10:e.kind = 10
    · rw [if_pos k10,if_pos k10]
      have h6:=w6 (.inl k10)
      exact hC.one _ _ _ T1 xs zs t (by omega) (by omega) h1 hx (by exact h6.2.2.1)
    rw [if_neg k10,if_neg k10]
    by_cases k11:e.kind = 11
    · rw [if_pos k11,if_pos k11]
      have h6:=w6 (.inr k11); have h7:=w7 k11
      have hl:e.kids.length = (p.getD e.num.toNat Fn.zero).outs.length:=by omega
      rw [hl] at hx
      refine (lopg_T hC (f:=e.num.toNat) (by omega) h7.1 e.count.toNat xs zs t T1 h1 hx).bind fun ys T2 ws u q1 q2 q3=>?_
      exact RTs.ret q1 (TE.refl T2) (q3.2.2 _ (by omega))
    rw [if_neg k11,if_neg k11]
    exact opG_T hm h1 hx (by omega) (fun h7=>by rw [w4 h7]; decide) (fun h7=>by rw [w3 (by omega)]; decide)
theorem rgC_T (hm:1≤m) (hv:VPr p):∀ F,F≤p.length→CaT m A p F (rgC p F) (evC p m F)
  | 0,_=>⟨fun f j n T rs zs t h=>by omega,fun f n T rs zs t h=>by omega⟩
  | F + 1,hF=>by
    have ih:=rgC_T hm hv F (by omega)
    have hO:∀ j n T rs zs t,j < (p.getD F Fn.zero).outs.length→TpI m A T→RgL m A n T rs zs→((n:Nat):Int) = (p.getD F Fn.zero).params→RTs m A T (RgV m A) (rgE (rgC p F) ((p.getD F Fn.zero).outs.getD j Ex.zero) rs t T) (evE m (evC p m F) ((p.getD F Fn.zero).outs.getD j Ex.zero) zs t):=fun j n T rs zs t h2 h1 h3 h4 =>
      rgE_T hm ih _ _ (Nat.le_refl _) n rs zs t T (by rw [h4]; exact hv.wf F (by omega) j h2) h1 h3
    refine ⟨fun f j n T rs zs t h1 h2 h0 h3 h4=>?_,fun f n T rs zs t h1 h0 h3 h4=>?_⟩
    · show RTs m A T _ (if f = F then _ else _) (if f = F then _ else _)
      by_cases e:f = F
      · subst e; rw [if_pos rfl,if_pos rfl]; exact hO j n T rs zs t h2 h0 h3 h4
      · rw [if_neg e,if_neg e]; exact ih.one f j n T rs zs t (by omega) h2 h0 h3 h4
    · show RTs m A T _ (if f = F then _ else _) (if f = F then _ else _)
      by_cases e:f = F
      · subst e; rw [if_pos rfl,if_pos rfl]
        refine rgs_T (n:=n) _ (fun e he s T' h5 h6=>?_) t T h0 h3
        obtain ⟨j,hj,rfl⟩:=List.mem_iff_getElem.1 he
        have:=hO j n T' rs zs s hj h5 h6 h4
        rwa [gd_at hj] at this
      · rw [if_neg e,if_neg e]; exact ih.all f n T rs zs t (by omega) h0 h3 h4
theorem inP_T {a:List Int} (hn:allN a = true) (hA:PthD m a A):∀ k,k≤a.length→TpI m A (inP a k)
  | 0,_=>⟨rfl,fun k hk=>absurd hk (Nat.not_lt_zero k),fun k hk=>absurd hk (Nat.not_lt_zero k),fun k hk=>absurd hk (Nat.not_lt_zero k),fun k hk=>absurd hk (Nat.not_lt_zero k)⟩
  | k + 1,h=>by
    have e:regI m A (regs m A (inP a k).code) ⟨1,0,0,((k:Nat):Int)⟩ = A.getD k []:=by
      show A.getD (((k:Nat):Int)).toNat [] = _
      rw [Int.toNat_natCast]
    refine (inP_T hn hA k (by omega)).put ?_ ?_ (.inl ⟨rfl,rfl,rfl,Int.natCast_nonneg k,by rw [hA.len]; exact Int.ofNat_lt.2 h⟩) (fun h6=>absurd (show (1:Int) = 6 from h6) (by decide))
    · rw [e]; exact hA.ser k h
    · rw [e]; exact hA.at0 k h
theorem inP_R {a:List Int} (hA:PthD m a A):RgL m A a.length (inP a a.length) (iotaI a.length) A:=by
  have hr:∀ k,k≤a.length→∀ j,j < k→(regs m A (inP a k).code).getD j [] = A.getD j []:=fun k=>by
    induction k with
    | zero=>exact fun _ j hj=>absurd hj (Nat.not_lt_zero j)
    | succ k ih =>
      intro hk j hj
      show (regs m A ((inP a k).code++[_])).getD j [] = _
      rw [regs_snoc]
      by_cases e:j = k
      · rw [gd_r (by rw [regs_len,inP_cl]; exact e),e]
        show A.getD (((k:Nat):Int)).toNat [] = _
        rw [Int.toNat_natCast]
      · rw [gd_l (by rw [regs_len,inP_cl]; omega)]; exact ih (by omega) j (by omega)
  refine ⟨iotaI_len _,hA.len,fun i hi=>?_⟩
  rw [iotaI_at hi]
  exact ⟨by rw [inP_vl]; omega,by rw [Int.toNat_natCast,hr _ (Nat.le_refl _) i hi]⟩
theorem rec_T {a:List Int} {f:Nat} (hm:1≤m) (hv:VPr p) (hf:f < p.length) (hn:allN a = true) (hA:PthD m a A) (hl:((a.length:Nat):Int) = (p.getD f Fn.zero).params) :
    RTs m A (inP a a.length) (RgL m A (p.getD f Fn.zero).outs.length) (recR p f a) (ev p m f A):=by
  have h:=(rgC_T (A:=A) hm hv (f + 1) (by omega)).all f a.length (inP a a.length) (iotaI a.length) A 0 (by omega) (inP_T hn hA _ (Nat.le_refl _)) (inP_R hA) hl
  rw [rgC_all (show f < f + 1 by omega),evC_all (show f < f + 1 by omega)] at h
  exact h
theorem rec_code {a:List Int} {f:Nat} (hm:1≤m) (hv:VPr p) (hf:f < p.length) (hn:allN a = true) (hA:PthD m a A) (hl:((a.length:Nat):Int) = (p.getD f Fn.zero).params) {xs:List Int} {T:Tp} {s:Nat} {c:Int} (h:RelV (recR p f a) (xs,T) s c):evD p m f A = c:=by
  have hT:=rec_T hm hv hf hn hA hl
  cases hr:recR p f a with
  | err d =>
    rw [hr] at h hT
    have h9:ev p m f A = .err d:=hT
    rw [evD_e h9]; exact h.1.symm
  | ok x t =>
    rw [hr] at h hT
    obtain ⟨z,h1,_⟩:=hT
    rw [evD_o h1]; exact h.2.2.symm
theorem rec_vals {a:List Int} {f:Nat} (hm:1≤m) (hv:VPr p) (hf:f < p.length) (hn:allN a = true) (hA:PthD m a A) (hl:((a.length:Nat):Int) = (p.getD f Fn.zero).params) {xs:List Int} {T:Tp} {s:Nat} {c:Int} (h:RelV (recR p f a) (xs,T) s c) (hc:c = 0) :
    TpI m A T∧evR p m f A = xs.map fun r=>(regs m A T.code).getD r.toNat []:=by
  have hT:=rec_T hm hv hf hn hA hl
  subst hc
  have hr:=h.ok
  rw [hr] at hT
  obtain ⟨z,h1,h2,h3,h4⟩:=hT
  refine ⟨h2,?_⟩
  rw [evR_o h1]
  refine extR (by rw [h4.2.1,List.length_map,h4.1]) fun i hi=>?_
  rw [h4.2.1] at hi
  rw [map_getD (d:=0) (by rw [h4.1]; exact hi)]
  exact (h4.2.2 i hi).2
end
end Go.Proofs.YtnokbaiemimhjaaGreat
namespace Go.Proofs.YtnokbaiemimhjaaGreat
open Go Go.RowKit
set_option linter.unusedVariables false
set_option linter.unusedSimpArgs false
def regZ (m:Nat) (A:List Sr) (cs:List Ins) (k:Nat):Prop:=∀ j,j < k→(cs.getD j Ins.zero).op = 6→((regs m A (cs.take j)).getD (cs.getD j Ins.zero).b.toNat []).getD 0 0≠0
section
variable {m k:Nat} {A R:List Sr} {cs:List Ins} {c:Ins}
theorem regs_take (hk:k < cs.length):regs m A (cs.take (k + 1)) = regs m A (cs.take k)++[regI m A (regs m A (cs.take k)) (cs.getD k Ins.zero)]:=by
  rw [take_snoc Ins.zero hk,regs_snoc]
theorem regI_in (h:c.op = 1):regI m A R c = A.getD c.num.toNat []:=if_pos h
theorem regI_add (h:c.op = 3):regI m A R c = addS (R.getD c.a.toNat []) (R.getD c.b.toNat []):=by unfold regI; rw [if_neg (by omega),if_pos h]
theorem regI_sub (h:c.op = 4):regI m A R c = redS (R.getD c.a.toNat []) (R.getD c.b.toNat []):=by unfold regI; rw [if_neg (by omega),if_neg (by omega),if_pos h]
theorem regI_mul (h:c.op = 5):regI m A R c = proS (R.getD c.a.toNat []) (R.getD c.b.toNat []):=by unfold regI; rw [if_neg (by omega),if_neg (by omega),if_neg (by omega),if_pos h]
theorem regI_neg (h:c.op = 7):regI m A R c = sclS (R.getD c.a.toNat []) 1000002:=by unfold regI; rw [if_neg (by omega),if_neg (by omega),if_neg (by omega),if_neg (by omega),if_pos h]
theorem regI_div (h:c.op = 6):regI m A R c = quoS (R.getD c.a.toNat []) (R.getD c.b.toNat []):=by unfold regI; rw [if_neg (by omega),if_neg (by omega),if_neg (by omega),if_neg (by omega),if_neg (by omega),if_pos h]
theorem regI_num (h:c.op≠1∧c.op≠3∧c.op≠4∧c.op≠5∧c.op≠7∧c.op≠6):regI m A R c = cst m c.num:=by
  unfold regI; rw [if_neg h.1,if_neg h.2.1,if_neg h.2.2.1,if_neg h.2.2.2.1,if_neg h.2.2.2.2.1,if_neg h.2.2.2.2.2]
theorem regI_ser (hA:SrE m A) (hR:SrE m R) (hl:R.length = k) (h:InO A.length k c):Ser1 m (regI m A R c):=by
  have hg:∀ x:Int,0≤x→x < ((k:Nat):Int)→Ser1 m (R.getD x.toNat []):=fun x h0 h1=>hR _ (by omega)
  rcases h with ⟨h1,_,_,h2,h3⟩ | ⟨h1,_,_,h2,h3⟩ | ⟨h1,h2,h3,_⟩ | ⟨h1,h2,_⟩
  · rw [regI_in h1]; exact hA _ (by omega)
  · rw [regI_num (by omega)]; exact cst_ser (isN_iff.2 ⟨h2,h3⟩)
  · have ha:=hg c.a h2.1 h2.2
    rcases h1 with h1 | h1 | h1 | h1
    · rw [regI_add h1]; exact addS_ser ha
    · rw [regI_sub h1]; exact redS_ser ha
    · rw [regI_mul h1]; exact proS_ser ha
    · rw [regI_div h1]; exact quoS_ser ha
  · rw [regI_neg h1]; exact sclS_ser (hg c.a h2.1 h2.2)
theorem regs_sr (h:SrE m (regs m A (cs.take k))) (hA:SrE m A) (hf:InO A.length k (cs.getD k Ins.zero)) (hk:k < cs.length):SrE m (regs m A (cs.take (k + 1))):=by
  rw [regs_take hk]
  exact SrE.snoc h (regI_ser hA h (by rw [regs_len,List.length_take]; omega) hf)
theorem regZ_0:regZ m A cs 0:=fun j hj=>absurd hj (Nat.not_lt_zero j)
theorem regZ_ne (h:regZ m A cs k) (hk:(cs.getD k Ins.zero).op≠6):regZ m A cs (k + 1):=fun j hj h6=>by
  by_cases e:j = k
  · subst e; exact absurd h6 hk
  · exact h j (by omega) h6
theorem regZ_dv (h:regZ m A cs k) (hk:((regs m A (cs.take k)).getD (cs.getD k Ins.zero).b.toNat []).getD 0 0≠0):regZ m A cs (k + 1):=fun j hj h6=>by
  by_cases e:j = k
  · subst e; exact hk
  · exact h j (by omega) h6
theorem regZ_not {n:Nat} (hk:k < n) (h6:(cs.getD k Ins.zero).op = 6) (hz:((regs m A (cs.take k)).getD (cs.getD k Ins.zero).b.toNat []).getD 0 0 = 0):¬ regZ m A cs n:=fun h=>h k hk h6 hz
end
theorem TpI.nz {m:Nat} {A:List Sr} {T:Tp} (h:TpI m A T):regZ m A T.code T.code.length:=fun j hj h6=>by
  have hf:=h.form j hj
  have hd:=h.dv j hj h6
  unfold InO at hf
  have hb:(T.code.getD j Ins.zero).b.toNat < j:=by omega
  have hs:=(h.ser (T.code.getD j Ins.zero).b.toNat (by omega)).2
  have e:(regs m A (T.code.take j)).getD (T.code.getD j Ins.zero).b.toNat [] = (regs m A T.code).getD (T.code.getD j Ins.zero).b.toNat []:=by
    have h9:=regs_pre (m:=m) (A:=A) (T.code.take j) (T.code.drop j) (k:=(T.code.getD j Ins.zero).b.toNat) (by rw [List.length_take]; omega)
    rw [List.take_append_drop] at h9
    exact h9.symm
  rw [e,hs]
  exact hd
section io
variable {ni k:Nat} {c:Ins}
theorem InO.i1 (h:InO ni k c) (h1:c.op = 1):(0≤c.num∧c.num < ((ni:Nat):Int)):=by unfold InO at h; omega
theorem InO.i2 (h:InO ni k c) (h1:3≤c.op∧c.op≤6):(0≤c.a∧c.a < ((k:Nat):Int))∧(0≤c.b∧c.b < ((k:Nat):Int)):=by unfold InO at h; omega
theorem InO.i7 (h:InO ni k c) (h1:c.op = 7):(0≤c.a∧c.a < ((k:Nat):Int)):=by unfold InO at h; omega
theorem InO.i0 (h:InO ni k c):1≤c.op∧c.op≤7:=by unfold InO at h; omega
end io
theorem rn_ins {S:List Nat} {H:Array Obj} {cs:List Value} {x:Ins} (h:RN S rIn H cs x):cs = inC x∧insR x:=by
  obtain ⟨F,h,_⟩:=h
  exact ⟨h.1,h.2.1⟩
def regC (m:Nat) (A:List Sr) (cs:List Ins) (c:Int):Prop:=(c = 0∧regZ m A cs cs.length)∨(c = 6∧¬ regZ m A cs cs.length)
end Go.Proofs.YtnokbaiemimhjaaGreat
namespace Go.Proofs.YtnokbaiemimhjaaGreat
open Go Go.RowKit
set_option linter.unusedVariables false
set_option linter.unusedSimpArgs false
def adP (B:List Sr) (r:Int) (s:Sr):List Sr:=B.set r.toNat (addS (B.getD r.toNat []) s)
def adI (cs:List Ins) (R:List Sr) (k:Nat) (B:List Sr):List Sr :=
  if (cs.getD k Ins.zero).op = 3 then adP (adP B (cs.getD k Ins.zero).a (B.getD k [])) (cs.getD k Ins.zero).b (B.getD k [])
  else if (cs.getD k Ins.zero).op = 4 then adP (adP B (cs.getD k Ins.zero).a (B.getD k [])) (cs.getD k Ins.zero).b (sclS (B.getD k []) 1000002)
  else if (cs.getD k Ins.zero).op = 5 then adP (adP B (cs.getD k Ins.zero).a (proS (B.getD k []) (R.getD (cs.getD k Ins.zero).b.toNat []))) (cs.getD k Ins.zero).b (proS (B.getD k []) (R.getD (cs.getD k Ins.zero).a.toNat []))
  else if (cs.getD k Ins.zero).op = 6 then adP (adP B (cs.getD k Ins.zero).a (quoS (B.getD k []) (R.getD (cs.getD k Ins.zero).b.toNat []))) (cs.getD k Ins.zero).b (sclS (proS (quoS (B.getD k []) (R.getD (cs.getD k Ins.zero).b.toNat [])) (R.getD k [])) 1000002)
  else if (cs.getD k Ins.zero).op = 7 then adP B (cs.getD k Ins.zero).a (sclS (B.getD k []) 1000002) else B
def adA (cs:List Ins) (R:List Sr):Nat→List Sr→List Sr
  | 0,B=>B
  | k + 1,B=>adA cs R k (adI cs R k B)
def wgt (os:List Int) (ws:List Int):Nat→List Sr→List Sr
  | 0,B=>B
  | k + 1,B=>(wgt os ws k B).set (os.getD k 0).toNat (((wgt os ws k B).getD (os.getD k 0).toNat []).set 0 (md (((wgt os ws k B).getD (os.getD k 0).toNat []).getD 0 0 + ws.getD k 0)))
def zrs (R:List Sr):List Sr:=R.map fun s=>List.replicate s.length 0
def adjS (cs:List Ins) (R:List Sr) (os ws:List Int):List Sr:=adA cs R cs.length (wgt os ws os.length (zrs R))
section
variable {m:Nat} {cs:List Ins} {R B:List Sr} {os ws:List Int}
theorem zrs_ser (h:SrE m R):SrE m (zrs R):=fun k hk=>by
  have hk':k < R.length:=by unfold zrs at hk; simpa using hk
  have e:(zrs R).getD k [] = List.replicate (R.getD k []).length 0:=by unfold zrs; simp [List.getD_eq_getElem?_getD,List.getElem?_map,hk']
  rw [e]
  exact ⟨by rw [List.length_replicate]; exact (h k hk').1,allN_rep _⟩
@[simp] theorem zrs_len:(zrs R).length = R.length:=by simp [zrs]
@[simp] theorem wgt_len (k:Nat):(wgt os ws k B).length = B.length:=by
  induction k with
  | zero=>rfl
  | succ k ih=>show ((wgt os ws k B).set _ _).length = _; rw [List.length_set,ih]
theorem SrE.set {k:Nat} {s:Sr} (h:SrE m B) (hs:Ser1 m s):SrE m (B.set k s):=fun j hj=>by
  rw [List.length_set] at hj
  by_cases e:j = k
  · rw [e,getD_set _ _ _ _ _ (by omega),if_pos rfl]; exact hs
  · rw [show (B.set k s).getD j [] = B.getD j [] from by rw [List.getD_eq_getElem?_getD,List.getElem?_set_ne (fun h=>e h.symm),← List.getD_eq_getElem?_getD]]; exact h j hj
theorem allN_set0 {s:Sr} {y:Int} (h:allN s = true) (hy:0≤y∧y < 1000003):allN (s.set 0 y) = true:=by
  cases s with
  | nil=>rfl
  | cons x s =>
    rw [List.set_cons_zero]
    unfold allN at h ⊢
    rw [List.all_cons] at h ⊢
    have:=Bool.and_eq_true_iff.1 h
    rw [this.2,Bool.and_true]
    exact isN_iff.2 hy
theorem wgt_ser (h:SrE m B) (ho:∀ k,k < os.length→(os.getD k 0).toNat < B.length):∀ k,k≤os.length→SrE m (wgt os ws k B)
  | 0,_=>h
  | k + 1,hk=>by
    have ih:=wgt_ser h ho k (by omega)
    have h9:=ih (os.getD k 0).toNat (by rw [wgt_len]; exact ho k (by omega))
    exact ih.set ⟨by rw [List.length_set]; exact h9.1,allN_set0 h9.2 (md_num _)⟩
@[simp] theorem adP_len {r:Int} {s:Sr}:(adP B r s).length = B.length:=by unfold adP; rw [List.length_set]
theorem adP_ser {r:Int} {s:Sr} (h:SrE m B) (hr:r.toNat < B.length):SrE m (adP B r s):=h.set (addS_ser (h _ hr))
theorem adI_len (k:Nat):(adI cs R k B).length = B.length:=by
  unfold adI
  split
  · rw [adP_len,adP_len]
  · split
    · rw [adP_len,adP_len]
    · split
      · rw [adP_len,adP_len]
      · split
        · rw [adP_len,adP_len]
        · split
          · rw [adP_len]
          · rfl
theorem adI_ser {ni k:Nat} (h:SrE m B) (hk:k≤B.length) (hf:InO ni k (cs.getD k Ins.zero)):SrE m (adI cs R k B):=by
  have h2:=fun h9=>hf.i2 h9
  have h7:=fun h9=>hf.i7 h9
  unfold adI
  split
  · have:=h2 (by omega); exact adP_ser (adP_ser h (by omega)) (by rw [adP_len]; omega)
  · split
    · have:=h2 (by omega); exact adP_ser (adP_ser h (by omega)) (by rw [adP_len]; omega)
    · split
      · have:=h2 (by omega); exact adP_ser (adP_ser h (by omega)) (by rw [adP_len]; omega)
      · split
        · have:=h2 (by omega); exact adP_ser (adP_ser h (by omega)) (by rw [adP_len]; omega)
        · split
          · have:=h7 (by omega); exact adP_ser h (by omega)
          · exact h
theorem adA_len:∀ (n:Nat) (B:List Sr),(adA cs R n B).length = B.length
  | 0,_=>rfl
  | n + 1,B=>by show (adA cs R n _).length = _; rw [adA_len n,adI_len]
theorem adA_ser {ni:Nat} (hf:∀ k,k < cs.length→InO ni k (cs.getD k Ins.zero)):∀ (n:Nat) (B:List Sr),n≤cs.length→n≤B.length→SrE m B→SrE m (adA cs R n B)
  | 0,_,_,_,h=>h
  | n + 1,B,hn,hb,h=>adA_ser hf n _ (by omega) (by rw [adI_len]; omega) (adI_ser h (by omega) (hf n (by omega)))
theorem adI_3 {k:Nat} (h:(cs.getD k Ins.zero).op = 3):adI cs R k B = adP (adP B (cs.getD k Ins.zero).a (B.getD k [])) (cs.getD k Ins.zero).b (B.getD k []):=if_pos h
theorem adI_4 {k:Nat} (h:(cs.getD k Ins.zero).op = 4):adI cs R k B = adP (adP B (cs.getD k Ins.zero).a (B.getD k [])) (cs.getD k Ins.zero).b (sclS (B.getD k []) 1000002):=by unfold adI; rw [if_neg (by omega),if_pos h]
theorem adI_5 {k:Nat} (h:(cs.getD k Ins.zero).op = 5):adI cs R k B = adP (adP B (cs.getD k Ins.zero).a (proS (B.getD k []) (R.getD (cs.getD k Ins.zero).b.toNat []))) (cs.getD k Ins.zero).b (proS (B.getD k []) (R.getD (cs.getD k Ins.zero).a.toNat [])):=by unfold adI; rw [if_neg (by omega),if_neg (by omega),if_pos h]
theorem adI_6 {k:Nat} (h:(cs.getD k Ins.zero).op = 6):adI cs R k B = adP (adP B (cs.getD k Ins.zero).a (quoS (B.getD k []) (R.getD (cs.getD k Ins.zero).b.toNat []))) (cs.getD k Ins.zero).b (sclS (proS (quoS (B.getD k []) (R.getD (cs.getD k Ins.zero).b.toNat [])) (R.getD k [])) 1000002):=by
  unfold adI; rw [if_neg (by omega),if_neg (by omega),if_neg (by omega),if_pos h]
theorem adI_7 {k:Nat} (h:(cs.getD k Ins.zero).op = 7):adI cs R k B = adP B (cs.getD k Ins.zero).a (sclS (B.getD k []) 1000002):=by unfold adI; rw [if_neg (by omega),if_neg (by omega),if_neg (by omega),if_neg (by omega),if_pos h]
theorem adI_0 {k:Nat} (h:(cs.getD k Ins.zero).op < 3∨7 < (cs.getD k Ins.zero).op):adI cs R k B = B:=by unfold adI; rw [if_neg (by omega),if_neg (by omega),if_neg (by omega),if_neg (by omega),if_neg (by omega)]
theorem adA_step {n k:Nat} {D B':List Sr} (h:adA cs R n B = D) (hn:n = k + 1) (hi:adI cs R k B = B'):adA cs R k B' = D:=by
  subst hn
  rw [← hi]; exact h
end
theorem owL_one {e:TypeId} {H:Array Obj} {v:Value} {us:List Value} {F:List Nat} (h:owL rV e H v us F) (hl:0 < us.length):∃ g cap,F = [g]∧v = .slice (some ⟨g,0,none⟩) us.length cap∧∀ k,k < us.length→ldH H (eptr v k 1) = some (us.getD k undef):=by
  rcases h with ⟨_,rfl,_⟩ | ⟨vs,g,cap,cur,F',hels,rfl,hg,r1,r2,r3,r4,rfl⟩
  · simp at hl
  · obtain ⟨rfl,rfl⟩:=els_rVe hels
    refine ⟨g,cap,rfl,rfl,fun k hk=>?_⟩
    have hu:vs[k]? = some (vs.getD k undef):=by simp [List.getD_eq_getElem?_getD,hk]
    rw [eptr_mk]
    simp only [ldH,cellH,hg,Nat.zero_add]
    rw [← r4,List.getElem?_take,if_pos hk] at hu
    rw [r4] at hu
    simpa using hu
section
variable {e:TypeId} {B:Nat} {w w':World} {v:Value} {xs:List (List Int)} {us:List Value} {F:List Nat}
theorem Bld.getF {S:List Nat} {H:Array Obj} (h:Bld e S B H v xs us F) {k:Nat} (hk:k < xs.length):∃ u,ldH H (eptr v k 1) = some u∧RN (S++F) (rdL rI) H u (xs.getD k []):=by
  obtain ⟨g,cap,_,_,h3⟩:=owL_one h.own (by rw [h.len]; omega)
  exact ⟨_,h3 k (by rw [h.len]; exact hk),h.els k hk⟩
theorem Bld.ofFr {S:List Nat} {e1:TypeId} {U:Nat} {H:Array Obj} (h:Fr (owL (owL rI e1) e) B U H v xs) (hS:∀ b∈S,b < B):∃ us F,Bld e S B H v xs us F∧∀ b∈F,b < U:=by
  obtain ⟨F,h1,h2,h3⟩:=h
  rcases h1 with ⟨rfl,rfl,rfl⟩ | ⟨us,g,cap,cur,F',hels,rfl,hg,r1,r2,r3,r4,rfl⟩
  · exact ⟨[],[],⟨.inl ⟨rfl,rfl,rfl⟩,List.nodup_nil,(fun b hb=>absurd hb List.not_mem_nil),rfl,(fun k hk=>absurd hk (Nat.not_lt_zero k))⟩,(fun b hb=>absurd hb List.not_mem_nil)⟩
  · have hl:=hels.length
    have hn:=List.nodup_cons.1 h2
    refine ⟨us,[g],⟨.inr ⟨us,g,cap,cur,[],els_rV (hels.cells1 o1),by rw [hl],hg,by omega,r2,r3,by rw [hl]; exact r4,rfl⟩,by simp,fun b hb=>?_,hl,fun k hk=>?_⟩,fun b hb=>?_⟩
    · have:=h3 b (by rw [List.mem_singleton.1 hb]; exact List.mem_cons_self ..); omega
    · obtain ⟨u,G,hu,q1,q2,q3,_⟩:=hels.at_ (k:=k) [] hk hn.2
      have e1:us.getD k undef = u:=by simp [List.getD_eq_getElem?_getD,hu]
      rw [e1]
      exact ⟨G,q1.rd id,fun b hb hm=>by
        have hb':=q3 b hb
        rcases List.mem_append.1 hm with hm | hm
        · have h8:=hS b hm
          have h9:=(h3 b (List.mem_cons_of_mem _ hb')).1
          omega
        · rw [List.mem_singleton.1 hm] at hb'
          exact hn.1 hb'⟩
    · exact (h3 b (by rw [List.mem_singleton.1 hb]; exact List.mem_cons_self ..)).2
end
section ops
variable {P:Program} {ops:Array Oper} {w0:World} {Q:Act→World→Prop} {os:List Oper} {ks:List Nat} {N:Nat} {ρ:Nat→Value} {w:World}
  {d:Nat} {ty:TypeId} {pos:String} {aft:Array Edge} {g:Option (Nat × Bool)} {t e:TypeId} {z:Value} {b:Nat}
theorem e_setL {S:List Nat} {st:TypeId} {x y:Operand} {v u:Value} {xs:List (List Int)} {r:List Int} {us:List Value} {F:List Nat} {B j:Nat} (hst:(P.info? st).map (·.size) = some 1) (hx:evF N ρ x = eptr v j 1) (hy:evF N ρ y = u)
    (hv:Bld e S B w.heap v xs us F) (hr:RN (S++F) (rdL rI) w.heap u r) (hj:j < xs.length) (hu:Up ops N ρ ⟨none,.store st x y,ty,pos,aft,g⟩)
    (h:∀ w1,Chg F w w1→w1.heap.size = w.heap.size→Bld e S B w1.heap v (xs.set j r) (us.set j u) F→LW P ops w0 Q os ks (mk N ρ) w1) :
    LW P ops w0 Q (⟨none,.store st x y,ty,pos,aft,g⟩ :: os) (4 :: ks) (mk N ρ) w:=by
  obtain ⟨g0,cap,hF,hvv,_⟩:=owL_one hv.own (by rw [hv.len]; omega)
  have hone:=hr.one1 g1
  obtain ⟨w1,F',q1,q2,q3,q4,q5,q6⟩:=run_set (P:=P) good_rV hst hv.own hv.nd (by rw [hv.len]; exact hj) (u:=u) (y:=u) (G:=[]) ⟨rfl,rfl,hone.1,hone.2⟩ List.nodup_nil (fun b hb=>by cases hb)
  obtain ⟨g2,cap2,hF2,hvv2,_⟩:=owL_one q2 (by rw [List.length_set,hv.len]; omega)
  have hg:g2 = g0:=by
    rw [hvv] at hvv2
    injection hvv2 with h1 _ _
    injection h1 with h1
    injection h1 with h1 _ _
    exact h1.symm
  have hFF:F' = F:=by rw [hF2,hF,hg]
  subst hFF
  have hc:Chg F' w w1:=q5.sub fun x hx=>List.mem_of_mem_take hx
  refine lw_s rfl hu w1 (exec_store hx hy q1) (h w1 hc q6 ⟨q2,hv.nd,hv.low,by rw [List.length_set,List.length_set]; exact hv.len,fun k hk=>?_⟩)
  rw [List.length_set] at hk
  have hku:k < us.length:=by rw [hv.len]; exact hk
  rw [getD_set _ _ _ _ _ (by rw [hv.len]; exact hj),getD_set _ _ _ _ _ hj]
  have hcS:Chg (S++F') w w1:=hc.sub fun b hb=>List.mem_append_right _ hb
  by_cases ek:k = j
  · rw [if_pos ek,if_pos ek]; exact hr.chg g1 hcS
  · rw [if_neg ek,if_neg ek]
    exact (hv.els k hk).chg g1 hcS
theorem e_setMO {st e':TypeId} {x y:Operand} {v u:Value} {n:Int} {xs:List (List Int)} {B T r j:Nat} {F:List Nat} (hst:(P.info? st).map (·.size) = some 1) (hx:evF N ρ x = eptr u j 1) (hy:evF N ρ y = .int .i64 n) (hn:-9223372036854775808≤n∧n≤9223372036854775807)
    (hv:Ow (owL (owL rI e) e') B T w.heap v xs F) (hr:r < xs.length) (hl:ldH w.heap (eptr v r 1) = some u) (hj:j < (xs.getD r []).length) (hu:Up ops N ρ ⟨none,.store st x y,ty,pos,aft,g⟩)
    (h:∀ w1 G,Chg G w w1→w1.heap.size = w.heap.size→(∀ c∈G,c∈F)→Ow (owL (owL rI e) e') B T w1.heap v (xs.set r ((xs.getD r []).set j n)) F→LW P ops w0 Q os ks (mk N ρ) w1) :
    LW P ops w0 Q (⟨none,.store st x y,ty,pos,aft,g⟩ :: os) (4 :: ks) (mk N ρ) w:=by
  obtain ⟨hown,hnd,hlow,hhigh⟩:=hv
  rcases hown with ⟨_,rfl,_⟩ | ⟨us,g0,cap,cur,F',hels,rfl,hg,r1,r2,r3,r4,rfl⟩
  · simp at hr
  · have hc:=List.nodup_cons.1 hnd
    obtain ⟨u',G,q0,q1,q2,q3,q4⟩:=hels.at_ (k:=r) [] hr hc.2
    have hlen:=hels.length
    have hu':u' = u:=by
      rw [eptr_mk] at hl
      simp only [ldH,cellH,hg,Nat.zero_add] at hl
      rw [← r4,List.getElem?_take,if_pos hr] at q0
      have:some u' = some u:=by rw [← q0,← hl]; simp
      exact Option.some.inj this
    subst hu'
    obtain ⟨w1,p1,p2,p3,p4⟩:=run_setI (P:=P) hst q1 q2 hj hn
    have hgG:g0∉G:=fun hm=>hc.1 (q3 g0 hm)
    refine lw_s rfl hu w1 (exec_store hx hy p1) (h w1 G p3 p4 (fun c hm=>List.mem_cons_of_mem _ (q3 c hm)) ⟨.inr ⟨us,g0,cap,cur,F',?_,by rw [List.length_set],?_,by rw [List.length_set]; exact r1,r2,r3,by rw [List.length_set]; exact r4,rfl⟩,hnd,hlow,hhigh⟩)
    · exact q4 (fun hE hC=>o1.stable hE fun b hb=>p3.block b (o1.lt hE b hb) (hC b hb).2) p2
    · have hlt:g0 < w.heap.size:=(Array.getElem?_eq_some_iff.1 hg).1
      rw [p3.block g0 hlt hgG]; exact hg
end ops
section
variable {e1 e:TypeId} {B T:Nat} {w:World} {v:Value} {xs:List (List Int)} {F:List Nat}
theorem Ow.rowO (h:Ow (owL (owL rI e1) e) B T w.heap v xs F) {k:Nat} (hk:k < xs.length):∃ u,ldH w.heap (eptr v k 1) = some u∧Rd (rdL rI) w.heap u (xs.getD k []):=by
  obtain ⟨u,G,q0,q1,_⟩:=h.fr.row o1 [] hk
  exact ⟨u,q0,G,q1.rd id⟩
theorem Ow.slO {H:Array Obj} (h:Ow (owL (owL rI e1) e) B T H v xs F):isSl v xs.length:=(owL.rd id h.own:rdL (owL rI e1) H v xs F).isSl
theorem Bld.ofOw {S:List Nat} (h:Ow (owL (owL rI e1) e) B T w.heap v xs F) (hS:∀ b∈S,b < B):∃ us F',Bld e S B w.heap v xs us F'∧∀ b∈F',b∈F:=by
  obtain ⟨h1,h2,h3,h4⟩:=h
  rcases h1 with ⟨rfl,rfl,rfl⟩ | ⟨us,g,cap,cur,F',hels,rfl,hg,r1,r2,r3,r4,rfl⟩
  · exact ⟨[],[],⟨.inl ⟨rfl,rfl,rfl⟩,List.nodup_nil,(fun b hb=>absurd hb List.not_mem_nil),rfl,(fun k hk=>absurd hk (Nat.not_lt_zero k))⟩,(fun b hb=>absurd hb List.not_mem_nil)⟩
  · have hl:=hels.length
    have hn:=List.nodup_cons.1 h2
    refine ⟨us,[g],⟨.inr ⟨us,g,cap,cur,[],els_rV (hels.cells1 o1),by rw [hl],hg,by omega,r2,r3,by rw [hl]; exact r4,rfl⟩,by simp,fun b hb=>?_,hl,fun k hk=>?_⟩,fun b hb=>?_⟩
    · exact h3 b (by rw [List.mem_singleton.1 hb]; exact List.mem_cons_self ..)
    · obtain ⟨u,G,hu,q1,q2,q3,_⟩:=hels.at_ (k:=k) [] hk hn.2
      have e1:us.getD k undef = u:=by simp [List.getD_eq_getElem?_getD,hu]
      rw [e1]
      exact ⟨G,q1.rd id,fun b hb hm=>by
        have hb':=q3 b hb
        rcases List.mem_append.1 hm with hm | hm
        · have h8:=hS b hm
          have h9:=h3 b (List.mem_cons_of_mem _ hb')
          omega
        · rw [List.mem_singleton.1 hm] at hb'
          exact hn.1 hb'⟩
    · rw [List.mem_singleton.1 hb]; exact List.mem_cons_self ..
end
theorem zrs_succ {R:List Sr} {k:Nat} (hk:k < R.length):zrs (R.take k)++[List.replicate (R.getD k []).length 0] = zrs (R.take (k + 1)):=by
  unfold zrs
  rw [take_snoc [] hk,List.map_append]; rfl
end Go.Proofs.YtnokbaiemimhjaaGreat
namespace Go.Proofs.YtnokbaiemimhjaaGreat
open Go Go.RowKit
set_option linter.unusedVariables false
set_option linter.unusedSimpArgs false
def byN (cs:List Ins) (L:List Sr):Nat→List Sr→List Sr
  | 0,B=>B
  | k + 1,B=>if (cs.getD k Ins.zero).op = 1 then adP (byN cs L k B) (cs.getD k Ins.zero).num (L.getD k []) else byN cs L k B
def byS (ni m:Nat) (cs:List Ins) (L:List Sr):List Sr:=byN cs L cs.length (List.replicate ni (List.replicate m 0))
section
variable {m ni:Nat} {cs:List Ins} {L B:List Sr}
theorem byN_1 {k:Nat} (h:(cs.getD k Ins.zero).op = 1):byN cs L (k + 1) B = adP (byN cs L k B) (cs.getD k Ins.zero).num (L.getD k []):=if_pos h
theorem byN_0 {k:Nat} (h:(cs.getD k Ins.zero).op≠1):byN cs L (k + 1) B = byN cs L k B:=if_neg h
@[simp] theorem byN_len (k:Nat):(byN cs L k B).length = B.length:=by
  induction k with
  | zero=>rfl
  | succ k ih =>
    by_cases h:(cs.getD k Ins.zero).op = 1
    · rw [byN_1 h,adP_len,ih]
    · rw [byN_0 h,ih]
theorem rep_ser (m ni:Nat):SrE m (List.replicate ni (List.replicate m 0)):=fun k hk=>by
  rw [List.length_replicate] at hk
  have e:(List.replicate ni (List.replicate m (0:Int))).getD k [] = List.replicate m 0:=by simp [List.getD_eq_getElem?_getD,hk]
  rw [e]
  exact ⟨List.length_replicate,allN_rep _⟩
theorem byN_ser (hf:∀ k,k < cs.length→InO B.length k (cs.getD k Ins.zero)) (h:SrE m B):∀ k,k≤cs.length→SrE m (byN cs L k B)
  | 0,_=>h
  | k + 1,hk=>by
    have ih:=byN_ser hf h k (by omega)
    by_cases h1:(cs.getD k Ins.zero).op = 1
    · rw [byN_1 h1]
      have:=(hf k (by omega)).i1 h1
      exact adP_ser ih (by rw [byN_len]; omega)
    · rw [byN_0 h1]; exact ih
@[simp] theorem byS_len:(byS ni m cs L).length = ni:=by unfold byS; rw [byN_len,List.length_replicate]
end
end Go.Proofs.YtnokbaiemimhjaaGreat
namespace Go.Proofs.YtnokbaiemimhjaaGreat
open Go Go.RowKit
set_option linter.unusedVariables false
set_option linter.unusedSimpArgs false
structure BldG {α:Type} (E:Stand α) (e:TypeId) (S:List Nat) (B:Nat) (H:Array Obj) (v:Value) (xs:List α) (us:List Value) (F:List Nat):Prop where
  own:owL rV e H v us F
  nd:F.Nodup
  low:∀ b∈F,B≤b
  len:us.length = xs.length
  els:∀ k x,xs[k]? = some x→RN (S++F) E H (us.getD k undef) x
section bld
variable {α:Type} {E:Stand α} {e:TypeId} {S F:List Nat} {B:Nat} {w w':World} {v:Value} {xs:List α} {us:List Value} {g:Nat}
theorem BldG.nil {U:Nat} {H:Array Obj} (h:Fr (owL rV e) B U H v []):∃ us F,BldG E e S B H v [] us F:=by
  obtain ⟨F,h1,h2,h3⟩:=h
  exact ⟨[],F,h1,h2,fun b hb=>(h3 b hb).1,rfl,fun k x hk=>by simp at hk⟩
theorem BldG.isSl {H:Array Obj} (h:BldG E e S B H v xs us F):Go.Proofs.YtnokbaiemimhjaaGreat.isSl v xs.length:=by
  have:=(h.own.rd id:rdL rV H v us F).isSl
  rwa [h.len] at this
theorem BldG.lt {H:Array Obj} (h:BldG E e S B H v xs us F):∀ b∈F,b < H.size:=(good_owL good_rV).lt h.own
theorem BldG.ext (hE:Good E) (h:BldG E e S B w.heap v xs us F) (k:Ext w w'):BldG E e S B w'.heap v xs us F :=
  ⟨(good_owL good_rV).stable h.own fun b hb=>k.heap (h.lt b hb),h.nd,h.low,h.len,fun i x hi=>(h.els i x hi).ext hE k⟩
theorem BldG.cap {H:Array Obj} (h:BldG E e S B H v xs us F):CapS v:=h.own.cap
theorem els_of_RNG {S:List Nat} {H:Array Obj}:∀ {us:List Value} {xs:List α},us.length = xs.length→(∀ k x,xs[k]? = some x→RN S E H (us.getD k undef) x)→∃ G,Go.Proofs.YtnokbaiemimhjaaGreat.els E H us xs G∧∀ b∈G,b∉S
  | [],[],_,_=>⟨[],rfl,fun b hb=>by cases hb⟩
  | u :: us,x :: xs,hl,h=>by
    obtain ⟨G1,q1,q2⟩:=h 0 x (by simp)
    obtain ⟨G2,r1,r2⟩:=els_of_RNG (us:=us) (xs:=xs) (by simpa using hl) fun k y hk=>by
      have:=h (k + 1) y (by simpa using hk)
      simpa using this
    exact ⟨G1++G2,⟨G1,G2,rfl,by simpa using q1,r1⟩,fun b hb=>(List.mem_append.1 hb).elim (q2 b) (r2 b)⟩
theorem BldG.done {H:Array Obj} (h:BldG E e S B H v xs us F) (hS:∀ b∈S,b < B):RN S (rdL E) H v xs:=by
  obtain ⟨G,g1,g2⟩:=els_of_RNG h.len h.els
  have g2':∀ b∈G,b∉S:=fun b hb hm=>g2 b hb (List.mem_append_left _ hm)
  rcases h.own with ⟨rfl,hus,rfl⟩ | ⟨vs,gb,cap,cur,F',hels,rfl,hg,r1,r2,r3,r4,hF⟩
  · have:xs = []:=List.eq_nil_of_length_eq_zero (by rw [← h.len,hus]; rfl)
    subst this
    exact ⟨[],.inl ⟨none,0,rfl,rfl,rfl⟩,fun b hb=>by cases hb⟩
  · obtain ⟨hv,hF0⟩:=els_rVe hels
    subst hv
    have hl:=h.len
    refine ⟨gb :: G,.inr ⟨vs,gb,0,cap,cur,e,(0,0),G,g1,by rw [hl],hg,by simpa [hl] using r4,by omega,rfl⟩,fun b hb hm=>?_⟩
    rcases List.mem_cons.1 hb with rfl | hb
    · have:=h.low b (by rw [hF]; exact List.mem_cons_self ..)
      have:=hS b hm
      omega
    · exact g2' b hb hm
end bld
section ops
variable {P:Program} {ops:Array Oper} {w0:World} {Q:Act→World→Prop} {os:List Oper} {ks:List Nat} {N:Nat} {ρ:Nat→Value} {w:World}
  {d:Nat} {ty:TypeId} {pos:String} {aft:Array Edge} {g:Option (Nat × Bool)} {t e:TypeId} {z:Value} {b:Nat}
theorem e_appBG {α:Type} {E:Stand α} (hE:Good E) {x y:Operand} {v a u:Value} {xs:List α} {r:α} {us:List Value} {S F:List Nat} {B B' U':Nat} (ht:P.underlying t = some (.slice e)) (hi:TI P e 1 z b) (hz:z.cells = #[z]) (hx:evF N ρ x = v) (hy:evF N ρ y = a)
    (hv:BldG E e S B w.heap v xs us F) (hB:B≤w.heap.size) (ha:Fr (owL rV e) B' U' w.heap a [u]) (hr:RN (S++F) E w.heap u r) (hbytes:(xs.length + 1) * b≤140737488355328) (hmx:xs.length + 1≤maxLen)
    (hu:Up ops N ρ ⟨some d,.call ⟨.builtin .append,#[x,y],#[t,t]⟩,ty,pos,aft,g⟩)
    (h:∀ v1 w1 F0,Chg F0 w w1→(∀ c∈F0,c∈F)→(∃ us F,BldG E e S B w1.heap v1 (xs++[r]) us F)→LW P ops w0 Q os ks (mk N (upd ρ d v1)) w1) :
    LW P ops w0 Q (⟨some d,.call ⟨.builtin .append,#[x,y],#[t,t]⟩,ty,pos,aft,g⟩ :: os) (4 :: ks) (mk N ρ) w:=by
  obtain ⟨G,g1',g2',g3'⟩:=ha
  have hG1:G.drop 1 = []:=by
    rcases g1' with ⟨_,hc,_⟩ | ⟨vs,gb,cap,cur,F',hels,_,_,_,_,_,_,rfl⟩
    · cases hc
    · rw [(els_rVe hels).2]; rfl
  obtain ⟨v',w',F',r1,r2,r3,r4,r5⟩:=run_app (P:=P) (ty:=ty) good_rV ht hi hz hv.own hv.nd (g1'.rd id) rfl (by rw [hv.len]; exact hbytes) (by rw [hv.len]; exact hmx) (by rw [hG1]; intro c hc; cases hc) (by rw [hG1]; exact List.nodup_nil)
  rw [hG1] at r4
  refine lw_e rfl hu v' w' (by simp only [execOp,resolve,invoke,builtin,List.map_toArray,List.map_cons,List.map_nil,Sem.run_bind,Sem.run_pure,Result.andThen_ok,hx,hy,r1]) (h v' w' (F.take 1) r5 (fun c hc=>List.mem_of_mem_take hc) ⟨us++[u],F',r2,r3,fun c hc=>?_,by simp [hv.len],fun k x0 hk0=>?_⟩)
  · rcases r4 c hc with hh | hh | hh
    · exact hv.low c hh
    · cases hh
    · omega
  · have key:∀ {v0:Value} {x0:α},RN (S++F) E w.heap v0 x0→RN (S++F') E w'.heap v0 x0:=by
      rintro v0 x0 ⟨K,k1,k2⟩
      have hlt:=hE.lt k1
      refine ⟨K,hE.stable k1 fun c hc=>r5.block c (hlt c hc) fun hm=>k2 c hc (List.mem_append_right _ (List.mem_of_mem_take hm)),fun c hc hm=>?_⟩
      rcases List.mem_append.1 hm with hm | hm
      · exact k2 c hc (List.mem_append_left _ hm)
      · rcases r4 c hm with hh | hh | hh
        · exact k2 c hc (List.mem_append_right _ hh)
        · cases hh
        · have:=hlt c hc; omega
    by_cases hkx:k < xs.length
    · have hku:k < us.length:=by rw [hv.len]; exact hkx
      rw [List.getElem?_append_left hkx] at hk0
      rw [gd_l hku]
      exact key (hv.els k x0 hk0)
    · rw [List.getElem?_append_right (by omega)] at hk0
      have e1:k = xs.length:=by
        rcases Nat.lt_or_ge (k - xs.length) 1 with h9 | h9
        · omega
        · rw [List.getElem?_eq_none (by simpa using h9)] at hk0; cases hk0
      subst e1
      rw [gd_r (hv.len).symm]
      simp at hk0
      subst hk0
      exact key hr
end ops
def sufV:Value→Value
  | .slice a n c=>.slice (if c = 1 then a else a.map (·.add 1)) (n - 1) (c - 1)
  | v=>v
def rdMx {α:Type} (E:Stand α):Stand (List α):=fun H v xs F=>rdL E H v xs F∧CapS v
theorem good_rdMx {α:Type} {E:Stand α} (hE:Good E):Good (rdMx E) where
  cells:=fun h=>(good_rdL hE).cells h.1
  one:=fun h=>(good_rdL hE).one h.1
  lt:=fun h=>(good_rdL hE).lt h.1
  stable:=fun h hb=>⟨(good_rdL hE).stable h.1 hb,h.2⟩
theorem gM:Good (rdMx (rdL rI)):=good_rdMx g1
theorem gMM:Good (rdL (rdMx (rdL rI))):=good_rdL gM
theorem RN.mk2 {S:List Nat} {H:Array Obj} {v:Value} {x:List Sr} (h:RN S (rdL (rdL rI)) H v x) (hc:CapS v):RN S (rdMx (rdL rI)) H v x:=by
  obtain ⟨F,h,hb⟩:=h
  exact ⟨F,⟨h,hc⟩,hb⟩
theorem RN.of2 {S:List Nat} {H:Array Obj} {v:Value} {x:List Sr} (h:RN S (rdMx (rdL rI)) H v x):RN S (rdL (rdL rI)) H v x∧CapS v:=by
  obtain ⟨F,h,hb⟩:=h
  exact ⟨⟨F,h.1,hb⟩,h.2⟩
theorem sufV_cap {v:Value} (h:CapS v):CapS (sufV v):=by
  cases v with
  | slice a n c=>have:n≤c:=h; show n - 1≤c - 1; omega
  | _=>exact h
def pkS (L:List Sr) (ps:List Int):List Sr:=ps.map fun i=>L.getD i.toNat []
theorem pkS_succ {L:List Sr} {ps:List Int} {k:Nat} (hk:k < ps.length):pkS L (ps.take (k + 1)) = pkS L (ps.take k)++[L.getD (ps.getD k 0).toNat []]:=by
  unfold pkS
  rw [take_snoc 0 hk,List.map_append]; rfl
def woS (X:List (List Sr)):List (List Sr):=X.map fun r=>r.drop 1
theorem woS_succ {X:List (List Sr)} {k:Nat} (hk:k < X.length):woS (X.take (k + 1)) = woS (X.take k)++[(X.getD k []).drop 1]:=by
  unfold woS
  rw [take_snoc [] hk,List.map_append]; rfl
theorem RN.suf {α:Type} {E:Stand α} {S:List Nat} {H:Array Obj} {v:Value} {xs:List α} (hE:Good E) (h:RN S (rdL E) H v xs) (hl:1≤xs.length) (hc:CapS v):RN S (rdL E) H (sufV v) (xs.drop 1):=by
  obtain ⟨F,h,hb⟩:=h
  rcases h with ⟨a,cap,rfl,rfl,rfl⟩ | ⟨us,g,off,cap,cur,e,fr,F',hels,rfl,hg,ht,hm,rfl⟩
  · simp at hl
  · have hlen:=hels.length
    cases us with
    | nil=>simp at hlen; omega
    | cons u us =>
      cases xs with
      | nil=>simp at hl
      | cons x xs =>
        obtain ⟨F1,F2,rfl,h1,h2⟩:=hels
        simp only [List.drop_succ_cons,List.drop_zero,List.length_cons] at *
        by_cases h1c:cap = 1
        · have hx0:xs = []:=by
            have:xs.length + 1≤cap:=hc
            exact List.eq_nil_of_length_eq_zero (by omega)
          subst hx0
          subst h1c
          refine ⟨[],.inl ⟨_,_,rfl,rfl,rfl⟩,fun b hb=>by cases hb⟩
        · refine ⟨g :: F2,.inr ⟨us,g,off + 1,cap - 1,cur,e,fr,F2,h2,?_,hg,?_,by omega,rfl⟩,fun b hm2=>hb b ?_⟩
          · simp [sufV,h1c,Addr.add]
          · have h9:(cur.toList.drop off).drop 1 = cur.toList.drop (off + 1):=by rw [List.drop_drop]
            rw [← h9]
            have h8:((cur.toList.drop off).take (xs.length + 1)).drop 1 = us:=by rw [ht]; rfl
            rw [List.drop_take] at h8
            simpa using h8
          · rcases List.mem_cons.1 hm2 with rfl | h9
            · exact List.mem_cons_self ..
            · exact List.mem_cons_of_mem _ (List.mem_append_right _ h9)
section ops
variable {P:Program} {ops:Array Oper} {w0:World} {Q:Act→World→Prop} {os:List Oper} {ks:List Nat} {N:Nat} {ρ:Nat→Value} {w:World}
  {d:Nat} {ty:TypeId} {pos:String} {aft:Array Edge} {g:Option (Nat × Bool)} {t e:TypeId} {z:Value} {b:Nat}
theorem q_suf {x y:Operand} {v z:Value} {n b:Nat} (ht:P.underlying t = some (.slice e)) (hi:TI P e 1 z b) (hx:evF N ρ x = v) (hs:isSl v n) (hc:CapS v) (hy:evF N ρ y = .int .i64 1) (hk:1≤n) (hu:Up ops N ρ ⟨some d,.slice t x (some y) none none,ty,pos,aft,g⟩)
    (h:LW P ops w0 Q os ks (mk N (upd ρ d (sufV v))) w):LW P ops w0 Q (⟨some d,.slice t x (some y) none none,ty,pos,aft,g⟩ :: os) (0 :: ks) (mk N ρ) w:=by
  obtain ⟨a,cap,rfl,_⟩:=hs
  obtain ⟨inf,h1,_,h3,_⟩:=hi.get
  refine lw_q (by decide) rfl hu _ (fun w' _=>?_) h
  have hl:n≤cap:=hc
  have e1:((1:Int)≤(n:Int)):=by omega
  by_cases hc1:cap = 1
  · subst hc1
    have:n = 1:=by omega
    subst this
    simp [execOp,hx,hy,Instr.sliceAt,Instr.slice,Instr.sliceBounds,Instr.sliceBound,asIntOf,run_underlying ht,sizeOf,typeInfo,h1,h3,sufV]
  · have e2:cap - 1≠0:=by omega
    simp [execOp,hx,hy,Instr.sliceAt,Instr.slice,Instr.sliceBounds,Instr.sliceBound,asIntOf,run_underlying ht,sizeOf,typeInfo,h1,h3,sufV,hk,hl,hc1,e2]
    intro h9; omega
end ops
end Go.Proofs.YtnokbaiemimhjaaGreat
namespace Go.Proofs.YtnokbaiemimhjaaGreat
open Go Go.RowKit
set_option linter.unusedVariables false
set_option linter.unusedSimpArgs false
theorem oOf_mH {m:Nat} {a:List (List Int)} (h0:1≤m) (ha:0 < a.length) (h:SrE m a):oOf a + 1 = m:=by
  have:=(h 0 ha).1
  unfold oOf; omega
def fstS (A:List Sr):List Int:=A.map fun s=>s.getD 0 0
def slO (m:Nat) (T:Tp) (xs:List Int) (A:List Sr) (i:Nat):List Sr:=byS A.length m T.code (adjS T.code (regs m A T.code) xs (uniG xs.length [((i:Nat):Int)] 1))
def slS (m:Nat) (T:Tp) (xs:List Int) (A:List Sr) (k:Nat):List (List Sr):=(List.range k).map (slO m T xs A)
section
variable {m:Nat} {A:List Sr} {T:Tp} {xs:List Int}
theorem slS_succ (k:Nat):slS m T xs A (k + 1) = slS m T xs A k++[slO m T xs A k]:=by unfold slS; rw [List.range_succ,List.map_append]; rfl
theorem slS_at {k i:Nat} (hi:i < k):(slS m T xs A k).getD i [] = slO m T xs A i:=by unfold slS; simp [List.getD_eq_getElem?_getD,hi]
@[simp] theorem slS_len (k:Nat):(slS m T xs A k).length = k:=by simp [slS]
@[simp] theorem fstS_len:(fstS A).length = A.length:=by simp [fstS]
theorem fstS_num (h:SrE m A):allN (fstS A) = true:=by
  unfold allN fstS
  rw [List.all_eq_true]
  intro x hx
  obtain ⟨s,hs,rfl⟩:=List.mem_map.1 hx
  obtain ⟨i,hi,rfl⟩:=List.mem_iff_getElem.1 hs
  have h9:=allN_get (h i hi).2 0
  rw [show A.getD i [] = A[i] from by simp [List.getD_eq_getElem?_getD,hi]] at h9
  exact isN_iff.2 h9
theorem fstS_path (h:SrE m A):PthD m (fstS A) A:=⟨fstS_len.symm,fun i hi=>h i (by rw [fstS_len] at hi; exact hi),fun i hi=>by
  rw [fstS_len] at hi
  unfold fstS
  rw [map_getD (d:=[]) hi]⟩
theorem TpI.regs (h:TpI m A T):SrE m (regs m A T.code):=fun k hk=>(h.ser k (by rw [regs_len] at hk; exact hk)).1
theorem TpI.outs (h:TpI m A T) (hE:EnB T xs):∀ k,k < xs.length→0≤xs.getD k 0∧xs.getD k 0 < ((T.code.length:Nat):Int):=fun k hk=>by have:=hE k hk; have:=h.cl; omega
theorem TpI.adj (h:TpI m A T) (hE:EnB T xs) {ws:List Int}:SrE m (adjS T.code (Go.Proofs.YtnokbaiemimhjaaGreat.regs m A T.code) xs ws):=by
  have ho:=h.outs hE
  refine adA_ser (ni:=A.length) h.form _ _ (Nat.le_refl _) (by rw [wgt_len,zrs_len,regs_len]; exact Nat.le_refl _) (wgt_ser (zrs_ser h.regs) (fun q hq=>?_) _ (Nat.le_refl _))
  have:=ho q hq
  rw [zrs_len,regs_len]; omega
theorem adjS_len {cs:List Ins} {R:List Sr} {os ws:List Int}:(adjS cs R os ws).length = R.length:=by unfold adjS; rw [adA_len,wgt_len,zrs_len]
end
end Go.Proofs.YtnokbaiemimhjaaGreat
namespace Go.Proofs.YtnokbaiemimhjaaGreat
open Go Go.RowKit
set_option linter.unusedVariables false
set_option linter.unusedSimpArgs false
def eqnB (a b:Int):Bool:=inB a 2 7 && decide (b = a - 1)
theorem eqn_0 {p:List Fn} {f:Int} (h:shF p f eqnB = 0):okP p = true∧(0≤f∧f < ((p.length:Nat):Int))∧(2≤(p.getD f.toNat Fn.zero).params∧(p.getD f.toNat Fn.zero).params≤7)∧(((p.getD f.toNat Fn.zero).outs.length:Nat):Int) = (p.getD f.toNat Fn.zero).params - 1:=by
  obtain ⟨h1,h2⟩:=shF_0 h
  obtain ⟨h3,h4⟩:=isF_0 h1
  unfold eqnB at h2
  rw [Bool.and_eq_true,inB_iff,decide_eq_true_eq] at h2
  exact ⟨h3,h4,h2.1,h2.2⟩
def gqC (p:List Fn) (f:Int) (y:List Sr):Int :=
  if shF p f eqnB = 0 then (if (argB y && decide (((y.length:Nat):Int) = (p.getD f.toNat Fn.zero).params - 1)) = true then 0 else 2) else shF p f eqnB
section
variable {p:List Fn} {f:Int} {y:List Sr}
theorem gqC_0 (h:gqC p f y = 0):okP p = true∧(0≤f∧f < ((p.length:Nat):Int))∧(2≤(p.getD f.toNat Fn.zero).params∧(p.getD f.toNat Fn.zero).params≤7)∧((((p.getD f.toNat Fn.zero).outs.length:Nat):Int) = (p.getD f.toNat Fn.zero).params - 1∧((y.length:Nat):Int) = (p.getD f.toNat Fn.zero).params - 1)∧SrE (oOf y + 1) y∧oOf y≤12:=by
  unfold gqC at h
  split at h
  · rename_i h1
    split at h
    · rename_i h2
      rw [Bool.and_eq_true,decide_eq_true_eq] at h2
      obtain ⟨q1,q2,q3,q4⟩:=eqn_0 h1
      have q5:=argB_ser h2.1 (by omega)
      exact ⟨q1,q2,q3,⟨q4,h2.2⟩,q5.1,q5.2⟩
    · omega
  · rename_i h1; exact absurd h h1
theorem gq_n (h:shF p f eqnB≠0):shF p f eqnB = gqC p f y:=by unfold gqC; rw [if_neg h]
theorem gq_2 (h:shF p f eqnB = 0) (h2:(argB y && decide (((y.length:Nat):Int) = (p.getD f.toNat Fn.zero).params - 1)) = false):2 = gqC p f y:=by unfold gqC; rw [if_pos h,h2]; rfl
theorem gq_3 (h:shF p f eqnB = 0) (h2:(argB y && decide (((y.length:Nat):Int) = (p.getD f.toNat Fn.zero).params - 1)) = true):shF p f eqnB = gqC p f y:=by unfold gqC; rw [if_pos h,h2,h]; rfl
theorem gq_l (h:shF p f eqnB = 0) (h2:¬ (((y.length:Nat):Int) = (p.getD f.toNat Fn.zero).params - 1)):2 = gqC p f y:=gq_2 h (by rw [decide_eq_false h2,Bool.and_false])
theorem gq_s (h:shF p f eqnB = 0) (h2:y.all (serB (y.getD 0 []).length) = false):2 = gqC p f y:=gq_2 h (by unfold argB; rw [h2,Bool.false_and])
theorem gq_0 (h:shF p f eqnB = 0) (h2:((y.length:Nat):Int) = (p.getD f.toNat Fn.zero).params - 1) (h3:y.all (serB (y.getD 0 []).length) = true):shF p f eqnB = gqC p f y:=gq_3 h (by unfold argB; rw [h3,decide_eq_true h2]; rfl)
end
def tmS (n:Nat):Sr:=(List.replicate n 0).set 1 1
def wiS (y:List Sr):List Sr:=tmS (y.getD 0 []).length :: y
theorem tmS_ser (n:Nat):Ser1 n (tmS n):=by
  refine ⟨by simp [tmS],?_⟩
  match n with
  | 0=>rfl
  | 1=>rfl
  | n + 2 =>
    show allN (0 :: 1 :: List.replicate n 0) = true
    have:=allN_rep n
    unfold allN at this ⊢
    rw [List.all_cons,List.all_cons,this]; rfl
@[simp] theorem wiS_len {y:List Sr}:(wiS y).length = y.length + 1:=rfl
theorem wiS_ser {m:Nat} {y:List Sr} (h:SrE m y) (h0:0 < y.length):SrE m (wiS y):=fun k hk=>by
  cases k with
  | zero=>show Ser1 m (tmS (y.getD 0 []).length); rw [(h 0 h0).1]; exact tmS_ser m
  | succ k=>exact h k (by rw [wiS_len] at hk; omega)
structure IsRO (rows:List Sr) (n r:Nat):Prop where
  le:r≤n
  z:∀ i,i < rows.length→∀ j,j < r→(rows.getD i []).getD j 0 = 0
  nz:r = n∨∃ i,i < rows.length∧(rows.getD i []).getD r 0≠0
theorem IsRO.uniq {rows:List Sr} {n r r':Nat} (h:IsRO rows n r) (h':IsRO rows n r'):r = r':=by
  have key:∀ {r r':Nat},IsRO rows n r→IsRO rows n r'→¬ r < r':=fun {r r'} h h' hl=>by
    rcases h.nz with e | ⟨i,hi,hn⟩
    · have:=h'.le; omega
    · exact hn (h'.z i hi r hl)
  have h1:=key h h'
  have h2:=key h' h
  omega
def roS (rows:List Sr) (n:Nat):Nat→Nat
  | 0=>n
  | k + 1=>if rows.any (fun s=>s.getD (n - (k + 1)) 0 != 0) = true then n - (k + 1) else roS rows n k
def roN (rows:List Sr) (n:Nat):Nat:=roS rows n n
theorem any_ne {rows:List Sr} {m:Nat} (h:rows.any (fun s=>s.getD m 0 != 0) = true):∃ i,i < rows.length∧(rows.getD i []).getD m 0≠0:=by
  rw [List.any_eq_true] at h
  obtain ⟨s,hs,h⟩:=h
  obtain ⟨i,hi,rfl⟩:=List.mem_iff_getElem.1 hs
  exact ⟨i,hi,by rw [show rows.getD i [] = rows[i] from by simp [List.getD_eq_getElem?_getD,hi]]; simpa using h⟩
theorem any_eq {rows:List Sr} {m:Nat} (h:rows.any (fun s=>s.getD m 0 != 0) = false):∀ i,i < rows.length→(rows.getD i []).getD m 0 = 0:=fun i hi=>by
  rw [List.any_eq_false] at h
  have:=h rows[i] (List.getElem_mem hi)
  rw [show rows.getD i [] = rows[i] from by simp [List.getD_eq_getElem?_getD,hi]]
  simpa using this
theorem roS_is {rows:List Sr} {n:Nat}:∀ k,k≤n→(∀ i,i < rows.length→∀ j,j < n - k→(rows.getD i []).getD j 0 = 0)→IsRO rows n (roS rows n k)
  | 0,_,hz=>⟨Nat.le_refl _,fun i hi j hj=>hz i hi j hj,.inl rfl⟩
  | k + 1,hk,hz=>by
    unfold roS
    split
    · rename_i h; exact ⟨by omega,hz,.inr (any_ne h)⟩
    · rename_i h
      refine roS_is k (by omega) fun i hi j hj=>?_
      by_cases e:j = n - (k + 1)
      · subst e; exact any_eq (Bool.not_eq_true _ ▸ h) i hi
      · exact hz i hi j (by omega)
theorem roN_is (rows:List Sr) (n:Nat):IsRO rows n (roN rows n):=roS_is n (Nat.le_refl _) fun i hi j hj=>by omega
theorem IsRO.eq {rows:List Sr} {n r:Nat} (h:IsRO rows n r):r = roN rows n:=h.uniq (roN_is rows n)
def rqC (p:List Fn) (f:Int) (y:List Sr):Int:=if gqC p f y = 0 then evD p (oOf y + 1) f.toNat (wiS y) else gqC p f y
def rqR (p:List Fn) (f:Int) (y:List Sr):Int:=if rqC p f y = 0 then ((roN (evR p (oOf y + 1) f.toNat (wiS y)) (y.getD 0 []).length:Nat):Int) else 0
theorem rqC_n {p:List Fn} {f:Int} {y:List Sr} (h:gqC p f y≠0):rqC p f y = gqC p f y:=if_neg h
theorem rqC_0 {p:List Fn} {f:Int} {y:List Sr} (h:gqC p f y = 0):rqC p f y = evD p (oOf y + 1) f.toNat (wiS y):=if_pos h
theorem rqR_n {p:List Fn} {f:Int} {y:List Sr} (h:rqC p f y≠0):rqR p f y = 0:=if_neg h
theorem rqR_0 {p:List Fn} {f:Int} {y:List Sr} (h:rqC p f y = 0):rqR p f y = ((roN (evR p (oOf y + 1) f.toNat (wiS y)) (y.getD 0 []).length:Nat):Int):=if_pos h
theorem cst_zH (n:Nat):cst n 0 = List.replicate n 0:=by
  unfold cst
  cases n with
  | zero=>rfl
  | succ n=>rfl
theorem Bld.one {e e1:TypeId} {B U B0 U0:Nat} {H:Array Obj} {v u:Value} {r:List Int} (h:Fr (owL rV e) B U H v [u]) (hr:Fr (owL rI e1) B0 U0 H u r) (hU:U0≤B):∃ us F,Bld e [] B H v [r] us F:=by
  obtain ⟨F,h1,h2,h3⟩:=h
  obtain ⟨G,g1',g2',g3'⟩:=hr
  refine ⟨[u],F,h1,h2,fun b hb=>(h3 b hb).1,rfl,fun k hk=>?_⟩
  have hk0:k = 0:=by simp at hk; omega
  subst hk0
  exact ⟨G,g1'.rd id,fun b hb hm=>by
    rw [List.nil_append] at hm
    have:=g3' b hb
    have:=h3 b hm
    omega⟩
theorem wiS_succ {y:List Sr} {t:Sr} {k:Nat} (hk:k < y.length):(t :: y.take k)++[y.getD k []] = t :: y.take (k + 1):=by rw [take_snoc [] hk]; rfl
theorem mq_b {p:List Fn} {f:Int} (h:isF p f = 0) (h1:(decide (((2:Nat):Int)≤(p.getD f.toNat Fn.zero).params) && decide ((p.getD f.toNat Fn.zero).params≤((7:Nat):Int))) = false):2 = shF p f eqnB:=by
  have h1':inB (p.getD f.toNat Fn.zero).params 2 7 = false:=h1
  unfold shF eqnB; rw [if_pos h,h1',Bool.false_and]; rfl
theorem mq_c {p:List Fn} {f:Int} (h:isF p f = 0) (h1:¬ ((((p.getD f.toNat Fn.zero).outs.length:Nat):Int) = (p.getD f.toNat Fn.zero).params - 1)):2 = shF p f eqnB:=by
  unfold shF eqnB; rw [if_pos h,decide_eq_false h1,Bool.and_false]; rfl
theorem mq_d {p:List Fn} {f:Int} (h:isF p f = 0) (h1:(decide (((2:Nat):Int)≤(p.getD f.toNat Fn.zero).params) && decide ((p.getD f.toNat Fn.zero).params≤((7:Nat):Int))) = true) (h2:(((p.getD f.toNat Fn.zero).outs.length:Nat):Int) = (p.getD f.toNat Fn.zero).params - 1):isF p f = shF p f eqnB:=by
  have h1':inB (p.getD f.toNat Fn.zero).params 2 7 = true:=h1
  unfold shF eqnB; rw [if_pos h,h1',decide_eq_true h2,h]; rfl
theorem RN.ofV {e:TypeId} {B U:Nat} {H:Array Obj} {v:Value} {us:List Value} {xs:List Sr} (h:Fr (owL rV e) B U H v us) (hl:us.length = xs.length) (hr:∀ k,k < xs.length→RN [] (rdL rI) H (us.getD k undef) (xs.getD k [])):RN [] (rdL (rdL rI)) H v xs∧CapS v:=by
  refine ⟨?_,h.cap⟩
  obtain ⟨F,h1,h2,h3⟩:=h
  obtain ⟨G,g1,g2⟩:=els_of_RN hl hr
  rcases h1 with ⟨rfl,hus,rfl⟩ | ⟨vs,gb,cap,cur,F',hels,rfl,hg,r1,r2,r3,r4,hF⟩
  · have:xs = []:=List.eq_nil_of_length_eq_zero (by rw [← hl,hus]; rfl)
    subst this
    exact ⟨[],.inl ⟨Option.none,0,rfl,rfl,rfl⟩,fun b hb=>by cases hb⟩
  · obtain ⟨hv,hF0⟩:=els_rVe hels
    subst hv
    exact ⟨gb :: G,.inr ⟨vs,gb,0,cap,cur,e,(0,0),G,g1,by rw [hl],hg,by simpa [hl] using r4,by omega,rfl⟩,fun b _ hm=>by cases hm⟩
end Go.Proofs.YtnokbaiemimhjaaGreat
namespace Go.Proofs.YtnokbaiemimhjaaGreat
open Go Go.RowKit
theorem mixed:Tryz.prog.follows .mixedOrders = true:=by kernel_rfl
theorem cf40:((Tryz.prog.funcs[40]?).map fun fn=>(fn.name != "runtime.NumGoroutine") && fn.body.isSome) = some true:=by kernel_rfl
theorem cf41:((Tryz.prog.funcs[41]?).map fun fn=>(fn.name != "runtime.NumGoroutine") && fn.body.isSome) = some true:=by kernel_rfl
theorem cf42:((Tryz.prog.funcs[42]?).map fun fn=>(fn.name != "runtime.NumGoroutine") && fn.body.isSome) = some true:=by kernel_rfl
theorem cf43:((Tryz.prog.funcs[43]?).map fun fn=>(fn.name != "runtime.NumGoroutine") && fn.body.isSome) = some true:=by kernel_rfl
theorem cf44:((Tryz.prog.funcs[44]?).map fun fn=>(fn.name != "runtime.NumGoroutine") && fn.body.isSome) = some true:=by kernel_rfl
theorem cf45:((Tryz.prog.funcs[45]?).map fun fn=>(fn.name != "runtime.NumGoroutine") && fn.body.isSome) = some true:=by kernel_rfl
theorem cf46:((Tryz.prog.funcs[46]?).map fun fn=>(fn.name != "runtime.NumGoroutine") && fn.body.isSome) = some true:=by kernel_rfl
theorem cf47:((Tryz.prog.funcs[47]?).map fun fn=>(fn.name != "runtime.NumGoroutine") && fn.body.isSome) = some true:=by kernel_rfl
theorem cf49:((Tryz.prog.funcs[49]?).map fun fn=>(fn.name != "runtime.NumGoroutine") && fn.body.isSome) = some true:=by kernel_rfl
theorem cf51:((Tryz.prog.funcs[51]?).map fun fn=>(fn.name != "runtime.NumGoroutine") && fn.body.isSome) = some true:=by kernel_rfl
theorem cf72:((Tryz.prog.funcs[72]?).map fun fn=>(fn.name != "runtime.NumGoroutine") && fn.body.isSome) = some true:=by kernel_rfl
theorem cf75:((Tryz.prog.funcs[75]?).map fun fn=>(fn.name != "runtime.NumGoroutine") && fn.body.isSome) = some true:=by kernel_rfl
theorem cf76:((Tryz.prog.funcs[76]?).map fun fn=>(fn.name != "runtime.NumGoroutine") && fn.body.isSome) = some true:=by kernel_rfl
theorem cf77:((Tryz.prog.funcs[77]?).map fun fn=>(fn.name != "runtime.NumGoroutine") && fn.body.isSome) = some true:=by kernel_rfl
theorem cf78:((Tryz.prog.funcs[78]?).map fun fn=>(fn.name != "runtime.NumGoroutine") && fn.body.isSome) = some true:=by kernel_rfl
theorem cf79:((Tryz.prog.funcs[79]?).map fun fn=>(fn.name != "runtime.NumGoroutine") && fn.body.isSome) = some true:=by kernel_rfl
theorem cf84:((Tryz.prog.funcs[84]?).map fun fn=>(fn.name != "runtime.NumGoroutine") && fn.body.isSome) = some true:=by kernel_rfl
theorem cf85:((Tryz.prog.funcs[85]?).map fun fn=>(fn.name != "runtime.NumGoroutine") && fn.body.isSome) = some true:=by kernel_rfl
theorem cf87:((Tryz.prog.funcs[87]?).map fun fn=>(fn.name != "runtime.NumGoroutine") && fn.body.isSome) = some true:=by kernel_rfl
theorem cf91:((Tryz.prog.funcs[91]?).map fun fn=>(fn.name != "runtime.NumGoroutine") && fn.body.isSome) = some true:=by kernel_rfl
theorem cf92:((Tryz.prog.funcs[92]?).map fun fn=>(fn.name != "runtime.NumGoroutine") && fn.body.isSome) = some true:=by kernel_rfl
theorem cf97:((Tryz.prog.funcs[97]?).map fun fn=>(fn.name != "runtime.NumGoroutine") && fn.body.isSome) = some true:=by kernel_rfl
theorem cf99:((Tryz.prog.funcs[99]?).map fun fn=>(fn.name != "runtime.NumGoroutine") && fn.body.isSome) = some true:=by kernel_rfl
theorem cf100:((Tryz.prog.funcs[100]?).map fun fn=>(fn.name != "runtime.NumGoroutine") && fn.body.isSome) = some true:=by kernel_rfl
theorem cf102:((Tryz.prog.funcs[102]?).map fun fn=>(fn.name != "runtime.NumGoroutine") && fn.body.isSome) = some true:=by kernel_rfl
theorem cf103:((Tryz.prog.funcs[103]?).map fun fn=>(fn.name != "runtime.NumGoroutine") && fn.body.isSome) = some true:=by kernel_rfl
theorem cf104:((Tryz.prog.funcs[104]?).map fun fn=>(fn.name != "runtime.NumGoroutine") && fn.body.isSome) = some true:=by kernel_rfl
theorem cf106:((Tryz.prog.funcs[106]?).map fun fn=>(fn.name != "runtime.NumGoroutine") && fn.body.isSome) = some true:=by kernel_rfl
theorem cf107:((Tryz.prog.funcs[107]?).map fun fn=>(fn.name != "runtime.NumGoroutine") && fn.body.isSome) = some true:=by kernel_rfl
theorem cf108:((Tryz.prog.funcs[108]?).map fun fn=>(fn.name != "runtime.NumGoroutine") && fn.body.isSome) = some true:=by kernel_rfl
theorem cf109:((Tryz.prog.funcs[109]?).map fun fn=>(fn.name != "runtime.NumGoroutine") && fn.body.isSome) = some true:=by kernel_rfl
theorem cf110:((Tryz.prog.funcs[110]?).map fun fn=>(fn.name != "runtime.NumGoroutine") && fn.body.isSome) = some true:=by kernel_rfl
theorem cf111:((Tryz.prog.funcs[111]?).map fun fn=>(fn.name != "runtime.NumGoroutine") && fn.body.isSome) = some true:=by kernel_rfl
theorem cf112:((Tryz.prog.funcs[112]?).map fun fn=>(fn.name != "runtime.NumGoroutine") && fn.body.isSome) = some true:=by kernel_rfl
theorem cf113:((Tryz.prog.funcs[113]?).map fun fn=>(fn.name != "runtime.NumGoroutine") && fn.body.isSome) = some true:=by kernel_rfl
theorem cf114:((Tryz.prog.funcs[114]?).map fun fn=>(fn.name != "runtime.NumGoroutine") && fn.body.isSome) = some true:=by kernel_rfl
theorem cf115:((Tryz.prog.funcs[115]?).map fun fn=>(fn.name != "runtime.NumGoroutine") && fn.body.isSome) = some true:=by kernel_rfl
theorem cf116:((Tryz.prog.funcs[116]?).map fun fn=>(fn.name != "runtime.NumGoroutine") && fn.body.isSome) = some true:=by kernel_rfl
theorem cf117:((Tryz.prog.funcs[117]?).map fun fn=>(fn.name != "runtime.NumGoroutine") && fn.body.isSome) = some true:=by kernel_rfl
theorem cf122:((Tryz.prog.funcs[122]?).map fun fn=>(fn.name != "runtime.NumGoroutine") && fn.body.isSome) = some true:=by kernel_rfl
theorem cf124:((Tryz.prog.funcs[124]?).map fun fn=>(fn.name != "runtime.NumGoroutine") && fn.body.isSome) = some true:=by kernel_rfl
theorem cf128:((Tryz.prog.funcs[128]?).map fun fn=>(fn.name != "runtime.NumGoroutine") && fn.body.isSome) = some true:=by kernel_rfl
theorem cf131:((Tryz.prog.funcs[131]?).map fun fn=>(fn.name != "runtime.NumGoroutine") && fn.body.isSome) = some true:=by kernel_rfl
theorem cf132:((Tryz.prog.funcs[132]?).map fun fn=>(fn.name != "runtime.NumGoroutine") && fn.body.isSome) = some true:=by kernel_rfl
theorem cf136:((Tryz.prog.funcs[136]?).map fun fn=>(fn.name != "runtime.NumGoroutine") && fn.body.isSome) = some true:=by kernel_rfl
theorem cf139:((Tryz.prog.funcs[139]?).map fun fn=>(fn.name != "runtime.NumGoroutine") && fn.body.isSome) = some true:=by kernel_rfl
theorem cf144:((Tryz.prog.funcs[144]?).map fun fn=>(fn.name != "runtime.NumGoroutine") && fn.body.isSome) = some true:=by kernel_rfl
theorem cf145:((Tryz.prog.funcs[145]?).map fun fn=>(fn.name != "runtime.NumGoroutine") && fn.body.isSome) = some true:=by kernel_rfl
theorem cf147:((Tryz.prog.funcs[147]?).map fun fn=>(fn.name != "runtime.NumGoroutine") && fn.body.isSome) = some true:=by kernel_rfl
theorem cf148:((Tryz.prog.funcs[148]?).map fun fn=>(fn.name != "runtime.NumGoroutine") && fn.body.isSome) = some true:=by kernel_rfl
theorem cf151:((Tryz.prog.funcs[151]?).map fun fn=>(fn.name != "runtime.NumGoroutine") && fn.body.isSome) = some true:=by kernel_rfl
theorem cf152:((Tryz.prog.funcs[152]?).map fun fn=>(fn.name != "runtime.NumGoroutine") && fn.body.isSome) = some true:=by kernel_rfl
theorem cf157:((Tryz.prog.funcs[157]?).map fun fn=>(fn.name != "runtime.NumGoroutine") && fn.body.isSome) = some true:=by kernel_rfl
theorem cf159:((Tryz.prog.funcs[159]?).map fun fn=>(fn.name != "runtime.NumGoroutine") && fn.body.isSome) = some true:=by kernel_rfl
theorem cf160:((Tryz.prog.funcs[160]?).map fun fn=>(fn.name != "runtime.NumGoroutine") && fn.body.isSome) = some true:=by kernel_rfl
theorem cf161:((Tryz.prog.funcs[161]?).map fun fn=>(fn.name != "runtime.NumGoroutine") && fn.body.isSome) = some true:=by kernel_rfl
theorem cf162:((Tryz.prog.funcs[162]?).map fun fn=>(fn.name != "runtime.NumGoroutine") && fn.body.isSome) = some true:=by kernel_rfl
theorem cf163:((Tryz.prog.funcs[163]?).map fun fn=>(fn.name != "runtime.NumGoroutine") && fn.body.isSome) = some true:=by kernel_rfl
theorem cf164:((Tryz.prog.funcs[164]?).map fun fn=>(fn.name != "runtime.NumGoroutine") && fn.body.isSome) = some true:=by kernel_rfl
theorem cf165:((Tryz.prog.funcs[165]?).map fun fn=>(fn.name != "runtime.NumGoroutine") && fn.body.isSome) = some true:=by kernel_rfl
theorem cf166:((Tryz.prog.funcs[166]?).map fun fn=>(fn.name != "runtime.NumGoroutine") && fn.body.isSome) = some true:=by kernel_rfl
theorem cf167:((Tryz.prog.funcs[167]?).map fun fn=>(fn.name != "runtime.NumGoroutine") && fn.body.isSome) = some true:=by kernel_rfl
theorem cf168:((Tryz.prog.funcs[168]?).map fun fn=>(fn.name != "runtime.NumGoroutine") && fn.body.isSome) = some true:=by kernel_rfl
theorem cf169:((Tryz.prog.funcs[169]?).map fun fn=>(fn.name != "runtime.NumGoroutine") && fn.body.isSome) = some true:=by kernel_rfl
theorem cf170:((Tryz.prog.funcs[170]?).map fun fn=>(fn.name != "runtime.NumGoroutine") && fn.body.isSome) = some true:=by kernel_rfl
theorem cf175:((Tryz.prog.funcs[175]?).map fun fn=>(fn.name != "runtime.NumGoroutine") && fn.body.isSome) = some true:=by kernel_rfl
theorem cf176:((Tryz.prog.funcs[176]?).map fun fn=>(fn.name != "runtime.NumGoroutine") && fn.body.isSome) = some true:=by kernel_rfl
theorem cf177:((Tryz.prog.funcs[177]?).map fun fn=>(fn.name != "runtime.NumGoroutine") && fn.body.isSome) = some true:=by kernel_rfl
theorem cf179:((Tryz.prog.funcs[179]?).map fun fn=>(fn.name != "runtime.NumGoroutine") && fn.body.isSome) = some true:=by kernel_rfl
theorem cf180:((Tryz.prog.funcs[180]?).map fun fn=>(fn.name != "runtime.NumGoroutine") && fn.body.isSome) = some true:=by kernel_rfl
theorem cf181:((Tryz.prog.funcs[181]?).map fun fn=>(fn.name != "runtime.NumGoroutine") && fn.body.isSome) = some true:=by kernel_rfl
theorem cf182:((Tryz.prog.funcs[182]?).map fun fn=>(fn.name != "runtime.NumGoroutine") && fn.body.isSome) = some true:=by kernel_rfl
theorem cf183:((Tryz.prog.funcs[183]?).map fun fn=>(fn.name != "runtime.NumGoroutine") && fn.body.isSome) = some true:=by kernel_rfl
theorem cf185:((Tryz.prog.funcs[185]?).map fun fn=>(fn.name != "runtime.NumGoroutine") && fn.body.isSome) = some true:=by kernel_rfl
theorem cf188:((Tryz.prog.funcs[188]?).map fun fn=>(fn.name != "runtime.NumGoroutine") && fn.body.isSome) = some true:=by kernel_rfl
theorem cf192:((Tryz.prog.funcs[192]?).map fun fn=>(fn.name != "runtime.NumGoroutine") && fn.body.isSome) = some true:=by kernel_rfl
theorem cf193:((Tryz.prog.funcs[193]?).map fun fn=>(fn.name != "runtime.NumGoroutine") && fn.body.isSome) = some true:=by kernel_rfl
theorem cf194:((Tryz.prog.funcs[194]?).map fun fn=>(fn.name != "runtime.NumGoroutine") && fn.body.isSome) = some true:=by kernel_rfl
theorem cf195:((Tryz.prog.funcs[195]?).map fun fn=>(fn.name != "runtime.NumGoroutine") && fn.body.isSome) = some true:=by kernel_rfl
theorem cf196:((Tryz.prog.funcs[196]?).map fun fn=>(fn.name != "runtime.NumGoroutine") && fn.body.isSome) = some true:=by kernel_rfl
theorem cf197:((Tryz.prog.funcs[197]?).map fun fn=>(fn.name != "runtime.NumGoroutine") && fn.body.isSome) = some true:=by kernel_rfl
theorem cf198:((Tryz.prog.funcs[198]?).map fun fn=>(fn.name != "runtime.NumGoroutine") && fn.body.isSome) = some true:=by kernel_rfl
theorem cf202:((Tryz.prog.funcs[202]?).map fun fn=>(fn.name != "runtime.NumGoroutine") && fn.body.isSome) = some true:=by kernel_rfl
theorem cf203:((Tryz.prog.funcs[203]?).map fun fn=>(fn.name != "runtime.NumGoroutine") && fn.body.isSome) = some true:=by kernel_rfl
theorem cf210:((Tryz.prog.funcs[210]?).map fun fn=>(fn.name != "runtime.NumGoroutine") && fn.body.isSome) = some true:=by kernel_rfl
theorem cf211:((Tryz.prog.funcs[211]?).map fun fn=>(fn.name != "runtime.NumGoroutine") && fn.body.isSome) = some true:=by kernel_rfl
theorem cf212:((Tryz.prog.funcs[212]?).map fun fn=>(fn.name != "runtime.NumGoroutine") && fn.body.isSome) = some true:=by kernel_rfl
theorem cf213:((Tryz.prog.funcs[213]?).map fun fn=>(fn.name != "runtime.NumGoroutine") && fn.body.isSome) = some true:=by kernel_rfl
theorem cf214:((Tryz.prog.funcs[214]?).map fun fn=>(fn.name != "runtime.NumGoroutine") && fn.body.isSome) = some true:=by kernel_rfl
theorem cf216:((Tryz.prog.funcs[216]?).map fun fn=>(fn.name != "runtime.NumGoroutine") && fn.body.isSome) = some true:=by kernel_rfl
theorem cf217:((Tryz.prog.funcs[217]?).map fun fn=>(fn.name != "runtime.NumGoroutine") && fn.body.isSome) = some true:=by kernel_rfl
theorem cf218:((Tryz.prog.funcs[218]?).map fun fn=>(fn.name != "runtime.NumGoroutine") && fn.body.isSome) = some true:=by kernel_rfl
theorem cf219:((Tryz.prog.funcs[219]?).map fun fn=>(fn.name != "runtime.NumGoroutine") && fn.body.isSome) = some true:=by kernel_rfl
theorem cf220:((Tryz.prog.funcs[220]?).map fun fn=>(fn.name != "runtime.NumGoroutine") && fn.body.isSome) = some true:=by kernel_rfl
theorem cf221:((Tryz.prog.funcs[221]?).map fun fn=>(fn.name != "runtime.NumGoroutine") && fn.body.isSome) = some true:=by kernel_rfl
theorem cf222:((Tryz.prog.funcs[222]?).map fun fn=>(fn.name != "runtime.NumGoroutine") && fn.body.isSome) = some true:=by kernel_rfl
theorem cf223:((Tryz.prog.funcs[223]?).map fun fn=>(fn.name != "runtime.NumGoroutine") && fn.body.isSome) = some true:=by kernel_rfl
theorem cf224:((Tryz.prog.funcs[224]?).map fun fn=>(fn.name != "runtime.NumGoroutine") && fn.body.isSome) = some true:=by kernel_rfl
theorem cf225:((Tryz.prog.funcs[225]?).map fun fn=>(fn.name != "runtime.NumGoroutine") && fn.body.isSome) = some true:=by kernel_rfl
theorem cf226:((Tryz.prog.funcs[226]?).map fun fn=>(fn.name != "runtime.NumGoroutine") && fn.body.isSome) = some true:=by kernel_rfl
theorem cf227:((Tryz.prog.funcs[227]?).map fun fn=>(fn.name != "runtime.NumGoroutine") && fn.body.isSome) = some true:=by kernel_rfl
theorem cf228:((Tryz.prog.funcs[228]?).map fun fn=>(fn.name != "runtime.NumGoroutine") && fn.body.isSome) = some true:=by kernel_rfl
theorem cf229:((Tryz.prog.funcs[229]?).map fun fn=>(fn.name != "runtime.NumGoroutine") && fn.body.isSome) = some true:=by kernel_rfl
theorem cf230:((Tryz.prog.funcs[230]?).map fun fn=>(fn.name != "runtime.NumGoroutine") && fn.body.isSome) = some true:=by kernel_rfl
theorem cf231:((Tryz.prog.funcs[231]?).map fun fn=>(fn.name != "runtime.NumGoroutine") && fn.body.isSome) = some true:=by kernel_rfl
theorem cf234:((Tryz.prog.funcs[234]?).map fun fn=>(fn.name != "runtime.NumGoroutine") && fn.body.isSome) = some true:=by kernel_rfl
theorem cf235:((Tryz.prog.funcs[235]?).map fun fn=>(fn.name != "runtime.NumGoroutine") && fn.body.isSome) = some true:=by kernel_rfl
theorem cf236:((Tryz.prog.funcs[236]?).map fun fn=>(fn.name != "runtime.NumGoroutine") && fn.body.isSome) = some true:=by kernel_rfl
theorem cf241:((Tryz.prog.funcs[241]?).map fun fn=>(fn.name != "runtime.NumGoroutine") && fn.body.isSome) = some true:=by kernel_rfl
theorem cf242:((Tryz.prog.funcs[242]?).map fun fn=>(fn.name != "runtime.NumGoroutine") && fn.body.isSome) = some true:=by kernel_rfl
theorem cf243:((Tryz.prog.funcs[243]?).map fun fn=>(fn.name != "runtime.NumGoroutine") && fn.body.isSome) = some true:=by kernel_rfl
theorem cf244:((Tryz.prog.funcs[244]?).map fun fn=>(fn.name != "runtime.NumGoroutine") && fn.body.isSome) = some true:=by kernel_rfl
theorem cf245:((Tryz.prog.funcs[245]?).map fun fn=>(fn.name != "runtime.NumGoroutine") && fn.body.isSome) = some true:=by kernel_rfl
theorem cf246:((Tryz.prog.funcs[246]?).map fun fn=>(fn.name != "runtime.NumGoroutine") && fn.body.isSome) = some true:=by kernel_rfl
theorem cf247:((Tryz.prog.funcs[247]?).map fun fn=>(fn.name != "runtime.NumGoroutine") && fn.body.isSome) = some true:=by kernel_rfl
theorem cf250:((Tryz.prog.funcs[250]?).map fun fn=>(fn.name != "runtime.NumGoroutine") && fn.body.isSome) = some true:=by kernel_rfl
theorem cf251:((Tryz.prog.funcs[251]?).map fun fn=>(fn.name != "runtime.NumGoroutine") && fn.body.isSome) = some true:=by kernel_rfl
theorem cf252:((Tryz.prog.funcs[252]?).map fun fn=>(fn.name != "runtime.NumGoroutine") && fn.body.isSome) = some true:=by kernel_rfl
theorem cf253:((Tryz.prog.funcs[253]?).map fun fn=>(fn.name != "runtime.NumGoroutine") && fn.body.isSome) = some true:=by kernel_rfl
theorem cf255:((Tryz.prog.funcs[255]?).map fun fn=>(fn.name != "runtime.NumGoroutine") && fn.body.isSome) = some true:=by kernel_rfl
theorem one2:oneTy Tryz.prog 2:=by unfold oneTy; kernel_rfl
theorem one3:oneTy Tryz.prog 3:=by unfold oneTy; kernel_rfl
theorem one9:oneTy Tryz.prog 9:=by unfold oneTy; kernel_rfl
theorem one24:oneTy Tryz.prog 24:=by unfold oneTy; kernel_rfl
theorem one27:oneTy Tryz.prog 27:=by unfold oneTy; kernel_rfl
theorem one32:oneTy Tryz.prog 32:=by unfold oneTy; kernel_rfl
theorem one53:oneTy Tryz.prog 53:=by unfold oneTy; kernel_rfl
theorem one66:oneTy Tryz.prog 66:=by unfold oneTy; kernel_rfl
theorem one93:oneTy Tryz.prog 93:=by unfold oneTy; kernel_rfl
theorem one183:oneTy Tryz.prog 183:=by unfold oneTy; kernel_rfl
theorem one196:oneTy Tryz.prog 196:=by unfold oneTy; kernel_rfl
theorem one197:oneTy Tryz.prog 197:=by unfold oneTy; kernel_rfl
theorem sz2:(Tryz.prog.info? 2).map (·.size) = some 1:=by kernel_rfl
theorem sz3:(Tryz.prog.info? 3).map (·.size) = some 1:=by kernel_rfl
theorem sz9:(Tryz.prog.info? 9).map (·.size) = some 1:=by kernel_rfl
theorem sz24:(Tryz.prog.info? 24).map (·.size) = some 1:=by kernel_rfl
theorem sz27:(Tryz.prog.info? 27).map (·.size) = some 1:=by kernel_rfl
theorem sz32:(Tryz.prog.info? 32).map (·.size) = some 1:=by kernel_rfl
theorem sz53:(Tryz.prog.info? 53).map (·.size) = some 1:=by kernel_rfl
theorem sz196:(Tryz.prog.info? 196).map (·.size) = some 1:=by kernel_rfl
theorem sz197:(Tryz.prog.info? 197).map (·.size) = some 1:=by kernel_rfl
theorem ti2:TI Tryz.prog 2 1 (.int .i64 0) 8:=by unfold TI; kernel_rfl
theorem ti27:TI Tryz.prog 27 1 (.slice none 0 0) 24:=by unfold TI; kernel_rfl
theorem ti32:TI Tryz.prog 32 1 (.slice none 0 0) 24:=by unfold TI; kernel_rfl
theorem u2:Tryz.prog.underlying 2 = some (.int .i64):=by kernel_rfl
theorem u4:Tryz.prog.underlying 4 = some (.bool):=by kernel_rfl
theorem u9:Tryz.prog.underlying 9 = some (.string):=by kernel_rfl
theorem u24:Tryz.prog.underlying 24 = some (.slice 55):=by kernel_rfl
theorem u27:Tryz.prog.underlying 27 = some (.slice 2):=by kernel_rfl
theorem u32:Tryz.prog.underlying 32 = some (.slice 27):=by kernel_rfl
theorem u53:Tryz.prog.underlying 53 = some (.slice 174):=by kernel_rfl
theorem u66:Tryz.prog.underlying 66 = some (.slice 185):=by kernel_rfl
theorem u132:Tryz.prog.underlying 132 = some (.slice 32):=by kernel_rfl
theorem u183:Tryz.prog.underlying 183 = some (.slice 248):=by kernel_rfl
theorem u196:Tryz.prog.underlying 196 = some (.slice 231):=by kernel_rfl
theorem u197:Tryz.prog.underlying 197 = some (.slice 255):=by kernel_rfl
theorem agg26:aggTy Tryz.prog 26 1 = true:=by kernel_rfl
theorem zr26:(Tryz.prog.info? 26).map (·.zero) = some (some (.agg #[.slice none 0 0])):=by kernel_rfl
theorem fd26_0:fdO Tryz.prog 26 0 0 = true:=by kernel_rfl
theorem agg55:aggTy Tryz.prog 55 3 = true:=by kernel_rfl
theorem zr55:(Tryz.prog.info? 55).map (·.zero) = some (some (.agg #[.string ByteArray.empty,.int .i64 0,.slice none 0 0])):=by kernel_rfl
theorem tiS55:TI Tryz.prog 55 3 (.agg #[.string ByteArray.empty,.int .i64 0,.slice none 0 0]) 48:=by unfold TI; kernel_rfl
theorem fd55_0:fdO Tryz.prog 55 0 0 = true:=by kernel_rfl
theorem fd55_1:fdO Tryz.prog 55 1 1 = true:=by kernel_rfl
theorem fd55_2:fdO Tryz.prog 55 2 2 = true:=by kernel_rfl
theorem agg68:aggTy Tryz.prog 68 1 = true:=by kernel_rfl
theorem fd68_0:fdO Tryz.prog 68 0 0 = true:=by kernel_rfl
theorem fd157_0:fdO Tryz.prog 157 0 0 = true:=by kernel_rfl
theorem fd157_1:fdO Tryz.prog 157 1 1 = true:=by kernel_rfl
theorem fd157_2:fdO Tryz.prog 157 2 2 = true:=by kernel_rfl
theorem fd157_3:fdO Tryz.prog 157 3 3 = true:=by kernel_rfl
theorem agg174:aggTy Tryz.prog 174 5 = true:=by kernel_rfl
theorem zr174:(Tryz.prog.info? 174).map (·.zero) = some (some (.agg #[.int .i64 0,.int .i64 0,.int .i64 0,.int .i64 0,.slice none 0 0])):=by kernel_rfl
theorem tiS174:TI Tryz.prog 174 5 (.agg #[.int .i64 0,.int .i64 0,.int .i64 0,.int .i64 0,.slice none 0 0]) 56:=by unfold TI; kernel_rfl
theorem fd174_0:fdO Tryz.prog 174 0 0 = true:=by kernel_rfl
theorem fd174_1:fdO Tryz.prog 174 1 1 = true:=by kernel_rfl
theorem fd174_2:fdO Tryz.prog 174 2 2 = true:=by kernel_rfl
theorem fd174_3:fdO Tryz.prog 174 3 3 = true:=by kernel_rfl
theorem fd174_4:fdO Tryz.prog 174 4 4 = true:=by kernel_rfl
theorem agg185:aggTy Tryz.prog 185 3 = true:=by kernel_rfl
theorem tiS185:TI Tryz.prog 185 3 (.agg #[.string ByteArray.empty,.int .i64 0,.slice none 0 0]) 48:=by unfold TI; kernel_rfl
theorem fd185_0:fdO Tryz.prog 185 0 0 = true:=by kernel_rfl
theorem fd185_1:fdO Tryz.prog 185 1 1 = true:=by kernel_rfl
theorem fd185_2:fdO Tryz.prog 185 2 2 = true:=by kernel_rfl
theorem agg199:aggTy Tryz.prog 199 4 = true:=by kernel_rfl
theorem zr199:(Tryz.prog.info? 199).map (·.zero) = some (some (.agg #[.int .i64 0,.slice none 0 0,.slice none 0 0,.slice none 0 0])):=by kernel_rfl
theorem fd199_0:fdO Tryz.prog 199 0 0 = true:=by kernel_rfl
theorem fd199_1:fdO Tryz.prog 199 1 1 = true:=by kernel_rfl
theorem fd199_2:fdO Tryz.prog 199 2 2 = true:=by kernel_rfl
theorem fd199_3:fdO Tryz.prog 199 3 3 = true:=by kernel_rfl
theorem fd228_0:fdO Tryz.prog 228 0 0 = true:=by kernel_rfl
theorem fd228_1:fdO Tryz.prog 228 1 1 = true:=by kernel_rfl
theorem fd228_2:fdO Tryz.prog 228 2 5 = true:=by kernel_rfl
theorem fd228_3:fdO Tryz.prog 228 3 6 = true:=by kernel_rfl
theorem fd228_4:fdO Tryz.prog 228 4 7 = true:=by kernel_rfl
theorem agg231:aggTy Tryz.prog 231 4 = true:=by kernel_rfl
theorem zr231:(Tryz.prog.info? 231).map (·.zero) = some (some (.agg #[.int .i64 0,.int .i64 0,.int .i64 0,.int .i64 0])):=by kernel_rfl
theorem tiS231:TI Tryz.prog 231 4 (.agg #[.int .i64 0,.int .i64 0,.int .i64 0,.int .i64 0]) 32:=by unfold TI; kernel_rfl
theorem fd231_0:fdO Tryz.prog 231 0 0 = true:=by kernel_rfl
theorem fd231_1:fdO Tryz.prog 231 1 1 = true:=by kernel_rfl
theorem fd231_2:fdO Tryz.prog 231 2 2 = true:=by kernel_rfl
theorem fd231_3:fdO Tryz.prog 231 3 3 = true:=by kernel_rfl
theorem agg237:aggTy Tryz.prog 237 2 = true:=by kernel_rfl
theorem fd237_0:fdO Tryz.prog 237 0 0 = true:=by kernel_rfl
theorem fd237_1:fdO Tryz.prog 237 1 1 = true:=by kernel_rfl
theorem agg248:aggTy Tryz.prog 248 5 = true:=by kernel_rfl
theorem tiS248:TI Tryz.prog 248 5 (.agg #[.int .i64 0,.int .i64 0,.int .i64 0,.int .i64 0,.slice none 0 0]) 56:=by unfold TI; kernel_rfl
theorem fd248_0:fdO Tryz.prog 248 0 0 = true:=by kernel_rfl
theorem fd248_1:fdO Tryz.prog 248 1 1 = true:=by kernel_rfl
theorem fd248_2:fdO Tryz.prog 248 2 2 = true:=by kernel_rfl
theorem fd248_3:fdO Tryz.prog 248 3 3 = true:=by kernel_rfl
theorem fd248_4:fdO Tryz.prog 248 4 4 = true:=by kernel_rfl
theorem tiS255:TI Tryz.prog 255 2 (.agg #[.int .i64 0,.bool false]) 16:=by unfold TI; kernel_rfl
end Go.Proofs.YtnokbaiemimhjaaGreat
namespace Go.Proofs.YtnokbaiemimhjaaGreat
open Go Go.RowKit
set_option linter.unusedVariables false
set_option linter.unusedSimpArgs false
set_option maxHeartbeats 4000000
set_option maxRecDepth 100000
attribute [local irreducible] LW
theorem c_impl_within (w:World) (n:Int) (low:Int) (high:Int) (_hn:-9223372036854775808≤n∧n≤9223372036854775807) (_hlow:-9223372036854775808≤low∧low≤9223372036854775807) (_hhigh:-9223372036854775808≤high∧high≤9223372036854775807)  :
  Calls Tryz.prog 72 #[.int .i64 n,.int .i64 low,.int .i64 high] w (fun e w'=>e = .returned (.bool (decide (low≤n) && decide (n≤high)))∧w' = w):=by
 refine calls_mk [.int .i64 n,.int .i64 low,.int .i64 high] 15 Tryz.func72 rfl rfl sM ?_
 have hE0:w = w:=rfl
 refine wp_seq (wp_plain _ [0] rfl (lw_tvn 1 rfl (wp_seq (wp_plain _ [0,0,0,0,0,0,0,0,0] rfl (lw_tv 2 rfl ?_)))))
 by_cases hc1:low≤n
 ·
  exact q_geq true rfl rfl (decide_eq_true hc1) zN (lw_tv 3 rfl (q_leq (decide (n≤high)) rfl rfl rfl (zS (e:=10) rfl rfl rfl) (lw_tvn 2 rfl (wp_ret (post_ret [6] rfl (.bool (decide (n≤high))) rfl ⟨(ret_bool (by simp [*])),hE0⟩)))))
 ·
  exact q_geq false rfl rfl (decide_eq_false hc1) zN (lw_tvn 6 rfl (wp_ret (post_ret [6] rfl (.bool false) rfl ⟨(ret_bool (by simp [*])),hE0⟩)))
theorem c_spec_l00In (w:World) (n:Int) (low:Int) (high:Int) (_hn:-9223372036854775808≤n∧n≤9223372036854775807) (_hlow:-9223372036854775808≤low∧low≤9223372036854775807) (_hhigh:-9223372036854775808≤high∧high≤9223372036854775807)  :
  Calls Tryz.prog 92 #[.int .i64 n,.int .i64 low,.int .i64 high] w (fun e w'=>e = .returned (.bool (decide (low≤n) && decide (n≤high)))∧w' = w):=by
 refine calls_mk [.int .i64 n,.int .i64 low,.int .i64 high] 15 Tryz.func92 rfl rfl sM ?_
 have hE0:w = w:=rfl
 refine wp_seq (wp_plain _ [0] rfl (lw_tvn 1 rfl (wp_seq (wp_plain _ [0,0,0,0,0,0,0,0,0] rfl (lw_tv 2 rfl ?_)))))
 by_cases hc1:low≤n
 ·
  exact q_geq true rfl rfl (decide_eq_true hc1) zN (lw_tv 3 rfl (q_leq (decide (n≤high)) rfl rfl rfl (zS (e:=10) rfl rfl rfl) (lw_tvn 2 rfl (wp_ret (post_ret [6] rfl (.bool (decide (n≤high))) rfl ⟨(ret_bool (by simp [*])),hE0⟩)))))
 ·
  exact q_geq false rfl rfl (decide_eq_false hc1) zN (lw_tvn 6 rfl (wp_ret (post_ret [6] rfl (.bool false) rfl ⟨(ret_bool (by simp [*])),hE0⟩)))
theorem c_impl_Residue (w:World) (n:Int) (_hn:-9223372036854775808≤n∧n≤9223372036854775807)  :
  Calls Tryz.prog 106 #[.int .i64 n] w (fun e w'=>e = .returned (.int .i64 (md n))∧w' = w):=by
 refine calls_mk [.int .i64 n] 7 Tryz.func106 rfl rfl sM ?_
 have hE0:w = w:=rfl
 exact wp_seq (wp_plain _ [0] rfl (lw_tvn 1 rfl (wp_seq (wp_plain _ [0,0,0,0,0] rfl (lw_tv 1 rfl (q_rem (n.tmod 1000003) rfl rfl (by decide) rfl zN (q_add (wr ((n.tmod 1000003) + ((1000003 :Nat):Int))) rfl rfl rfl zN (q_rem ((wr ((n.tmod 1000003) + ((1000003 :Nat):Int))).tmod 1000003) rfl rfl (by decide) rfl zN (lw_tvn 1 rfl (wp_ret (post_ret [2] rfl (.int .i64 ((wr ((n.tmod 1000003) + ((1000003 :Nat):Int))).tmod 1000003)) rfl ⟨(ret_int (res_eq n)),hE0⟩)))))))))))
theorem c_impl_Plus (w:World) (a:Int) (b:Int) (_ha:-9223372036854775808≤a∧a≤9223372036854775807) (_hb:-9223372036854775808≤b∧b≤9223372036854775807)  :
  Calls Tryz.prog 79 #[.int .i64 a,.int .i64 b] w (fun e w'=>e = .returned (.int .i64 (md (a + b)))∧w' = w):=by
 refine calls_mk [.int .i64 a,.int .i64 b] 11 Tryz.func79 rfl rfl sM ?_
 have hE0:w = w:=rfl
 exact wp_seq (wp_plain _ [0] rfl (lw_tvn 1 rfl (wp_seq (wp_plain _ [0,0,0,0,0,0,0] rfl (lw_tv 1 rfl (lw_callq 106 [] [] [(.int .i64 a)] rfl rfl cf106 zN (.int .i64 (md a)) (fun wq=>c_impl_Residue wq _ _ha) (lw_tv 1 rfl (lw_callq 106 [] [] [(.int .i64 b)] rfl rfl cf106 zN (.int .i64 (md b)) (fun wq=>c_impl_Residue wq _ _hb) (q_add (wr ((md a) + (md b))) rfl rfl rfl zN (q_rem ((wr ((md a) + (md b))).tmod 1000003) rfl rfl (by decide) rfl zN (lw_tvn 1 rfl (wp_ret (post_ret [4] rfl (.int .i64 ((wr ((md a) + (md b))).tmod 1000003)) rfl ⟨(ret_int (plus_eq a b)),hE0⟩)))))))))))))
theorem c_impl_Times (w:World) (a:Int) (b:Int) (_ha:-9223372036854775808≤a∧a≤9223372036854775807) (_hb:-9223372036854775808≤b∧b≤9223372036854775807)  :
  Calls Tryz.prog 147 #[.int .i64 a,.int .i64 b] w (fun e w'=>e = .returned (.int .i64 (md (a * b)))∧w' = w):=by
 refine calls_mk [.int .i64 a,.int .i64 b] 11 Tryz.func147 rfl rfl sM ?_
 have hE0:w = w:=rfl
 exact wp_seq (wp_plain _ [0] rfl (lw_tvn 1 rfl (wp_seq (wp_plain _ [0,0,0,0,0,0,0] rfl (lw_tv 1 rfl (lw_callq 106 [] [] [(.int .i64 a)] rfl rfl cf106 zN (.int .i64 (md a)) (fun wq=>c_impl_Residue wq _ _ha) (lw_tv 1 rfl (lw_callq 106 [] [] [(.int .i64 b)] rfl rfl cf106 zN (.int .i64 (md b)) (fun wq=>c_impl_Residue wq _ _hb) (q_mul (wr ((md a) * (md b))) rfl rfl rfl zN (q_rem ((wr ((md a) * (md b))).tmod 1000003) rfl rfl (by decide) rfl zN (lw_tvn 1 rfl (wp_ret (post_ret [4] rfl (.int .i64 ((wr ((md a) * (md b))).tmod 1000003)) rfl ⟨(ret_int (times_eq a b)),hE0⟩)))))))))))))
theorem c_impl_minus (w:World) (a:Int) (b:Int) (_ha:-9223372036854775808≤a∧a≤9223372036854775807) (_hb:-9223372036854775808≤b∧b≤9223372036854775807)  :
  Calls Tryz.prog 78 #[.int .i64 a,.int .i64 b] w (fun e w'=>e = .returned (.int .i64 (md (a - b)))∧w' = w):=by
 refine calls_mk [.int .i64 a,.int .i64 b] 10 Tryz.func78 rfl rfl sM ?_
 have hE0:w = w:=rfl
 exact wp_seq (wp_plain _ [0] rfl (lw_tvn 1 rfl (wp_seq (wp_plain _ [0,0,0,0,0,0] rfl (lw_tv 2 rfl (lw_callq 106 [] [] [(.int .i64 b)] rfl rfl cf106 zN (.int .i64 (md b)) (fun wq=>c_impl_Residue wq _ _hb) (q_sub (wr (((1000003 :Nat):Int) - (md b))) rfl rfl rfl zN (lw_callq 79 [] [] [(.int .i64 a),(.int .i64 (wr (((1000003 :Nat):Int) - (md b))))] rfl rfl cf79 zN (.int .i64 (md (a + (wr (((1000003 :Nat):Int) - (md b)))))) (fun wq=>c_impl_Plus wq _ _ _ha (wr_rng _)) (lw_tvn 1 rfl (wp_ret (post_ret [4] rfl (.int .i64 (md (a + (wr (((1000003 :Nat):Int) - (md b)))))) rfl ⟨(ret_int (minus_eq a b)),hE0⟩)))))))))))
theorem sres_a (n:Int) (h:n.tmod 1000003 < ((0:Nat):Int)):wr (n.tmod 1000003 + ((1000003:Nat):Int)) = md n:=by
  have h1:=md_nonneg n; have h2:=md_lt n; have h3:=md_nonneg (-n); have h4:=md_lt (-n)
  rw [tm n] at h ⊢
  split at h
  · omega
  · rename_i h0
    rw [if_neg h0,wr_of (by omega) (by omega)]
    have e1:md (-(md (-n)) + ((1000003:Nat):Int)) = md (-(md (-n))):=md_P _
    rw [md_neg,Int.neg_neg,md_of (by omega) (by omega)] at e1
    exact e1
theorem sres_b (n:Int) (h:¬ n.tmod 1000003 < ((0:Nat):Int)):n.tmod 1000003 = md n:=by
  have h1:=md_nonneg n; have h2:=md_lt n; have h3:=md_nonneg (-n); have h4:=md_lt (-n)
  rw [tm n] at h ⊢
  split
  · rfl
  · rename_i h0
    rw [if_neg h0] at h
    have e0:md (-n) = 0:=by omega
    have e1:=md_neg (-n)
    rw [e0,Int.neg_neg] at e1
    rw [e0,← e1]
    rfl
theorem z148_0 {p:Prop} (h:p:=by first | exact ret_int (sres_a n (by assumption)) | exact ret_int (sres_b n (by assumption))):p:=h
theorem c_spec_Residue (w:World) (n:Int) (_hn:-9223372036854775808≤n∧n≤9223372036854775807)  :
  Calls Tryz.prog 148 #[.int .i64 n] w (fun e w'=>e = .returned (.int .i64 (md n))∧w' = w):=by
 refine calls_mk [.int .i64 n] 11 Tryz.func148 rfl rfl sM ?_
 have hE0:w = w:=rfl
 refine wp_seq (wp_plain _ [0] rfl (lw_tvn 1 rfl (wp_seq (wp_plain _ [0,0,0] rfl (lw_tv 1 rfl (q_rem (n.tmod 1000003) rfl rfl (by decide) rfl zN (lw_tvn 1 rfl (wp_seq (wp_seq (wp_plain _ [0,0] rfl (lw_tv 1 rfl ?_)))))))))))
 by_cases hc1:n.tmod 1000003 < ((0 :Nat):Int)
 ·
  exact q_lss true rfl rfl (decide_eq_true hc1) zN (lw_nil (c_cond_t rfl (wp_plain _ [0,0,0] rfl (lw_tv 1 rfl (q_add (wr ((n.tmod 1000003) + ((1000003 :Nat):Int))) rfl rfl rfl zN (lw_tvn 1 rfl (wp_seq (wp_plain _ [0,0] rfl (lw_tvn 2 rfl (wp_ret (post_ret [2] rfl (.int .i64 (wr ((n.tmod 1000003) + ((1000003 :Nat):Int)))) rfl ⟨z148_0,hE0⟩)))))))))))
 ·
  exact q_lss false rfl rfl (decide_eq_false hc1) zN (lw_nil (c_cond_f rfl (wp_skip (wp_seq (wp_plain _ [0,0] rfl (lw_tvn 2 rfl (wp_ret (post_ret [2] rfl (.int .i64 (n.tmod 1000003)) rfl ⟨z148_0,hE0⟩))))))))
theorem c_spec_Plus (w:World) (a:Int) (b:Int) (_ha:-9223372036854775808≤a∧a≤9223372036854775807) (_hb:-9223372036854775808≤b∧b≤9223372036854775807)  :
  Calls Tryz.prog 75 #[.int .i64 a,.int .i64 b] w (fun e w'=>e = .returned (.int .i64 (md (a + b)))∧w' = w):=by
 refine calls_mk [.int .i64 a,.int .i64 b] 11 Tryz.func75 rfl rfl sM ?_
 have hE0:w = w:=rfl
 exact wp_seq (wp_plain _ [0] rfl (lw_tvn 1 rfl (wp_seq (wp_plain _ [0,0,0,0,0,0,0] rfl (lw_tv 1 rfl (lw_callq 148 [] [] [(.int .i64 a)] rfl rfl cf148 zN (.int .i64 (md a)) (fun wq=>c_spec_Residue wq _ _ha) (lw_tv 1 rfl (lw_callq 148 [] [] [(.int .i64 b)] rfl rfl cf148 zN (.int .i64 (md b)) (fun wq=>c_spec_Residue wq _ _hb) (q_add (wr ((md a) + (md b))) rfl rfl rfl zN (q_rem ((wr ((md a) + (md b))).tmod 1000003) rfl rfl (by decide) rfl zN (lw_tvn 1 rfl (wp_ret (post_ret [4] rfl (.int .i64 ((wr ((md a) + (md b))).tmod 1000003)) rfl ⟨(ret_int (plus_eq a b)),hE0⟩)))))))))))))
theorem c_spec_Times (w:World) (a:Int) (b:Int) (_ha:-9223372036854775808≤a∧a≤9223372036854775807) (_hb:-9223372036854775808≤b∧b≤9223372036854775807)  :
  Calls Tryz.prog 76 #[.int .i64 a,.int .i64 b] w (fun e w'=>e = .returned (.int .i64 (md (a * b)))∧w' = w):=by
 refine calls_mk [.int .i64 a,.int .i64 b] 11 Tryz.func76 rfl rfl sM ?_
 have hE0:w = w:=rfl
 exact wp_seq (wp_plain _ [0] rfl (lw_tvn 1 rfl (wp_seq (wp_plain _ [0,0,0,0,0,0,0] rfl (lw_tv 1 rfl (lw_callq 148 [] [] [(.int .i64 a)] rfl rfl cf148 zN (.int .i64 (md a)) (fun wq=>c_spec_Residue wq _ _ha) (lw_tv 1 rfl (lw_callq 148 [] [] [(.int .i64 b)] rfl rfl cf148 zN (.int .i64 (md b)) (fun wq=>c_spec_Residue wq _ _hb) (q_mul (wr ((md a) * (md b))) rfl rfl rfl zN (q_rem ((wr ((md a) * (md b))).tmod 1000003) rfl rfl (by decide) rfl zN (lw_tvn 1 rfl (wp_ret (post_ret [4] rfl (.int .i64 ((wr ((md a) * (md b))).tmod 1000003)) rfl ⟨(ret_int (times_eq a b)),hE0⟩)))))))))))))
theorem c_spec_l01Minus (w:World) (a:Int) (b:Int) (_ha:-9223372036854775808≤a∧a≤9223372036854775807) (_hb:-9223372036854775808≤b∧b≤9223372036854775807) (hs:-9223372036854775808≤a - b∧a - b≤9223372036854775807) :
  Calls Tryz.prog 124 #[.int .i64 a,.int .i64 b] w (fun e w'=>e = .returned (.int .i64 (md (a - b)))∧w' = w):=by
 refine calls_mk [.int .i64 a,.int .i64 b] 9 Tryz.func124 rfl rfl sM ?_
 have hE0:w = w:=rfl
 exact wp_seq (wp_plain _ [0] rfl (lw_tvn 1 rfl (wp_seq (wp_plain _ [0,0,0,0,0] rfl (lw_tv 2 rfl (q_sub (wr (a - b)) rfl rfl rfl zN (lw_callq 148 [] [] [(.int .i64 (wr (a - b)))] rfl rfl cf148 zN (.int .i64 (md (wr (a - b)))) (fun wq=>c_spec_Residue wq _ (wr_rng _)) (lw_tvn 1 rfl (wp_ret (post_ret [4] rfl (.int .i64 (md (wr (a - b)))) rfl ⟨(ret_int (by rw [wr_of hs.1 hs.2])),hE0⟩))))))))))
theorem z216_0 {p:Prop} (h:p:=by exact ⟨by omega,by first | exact pw_odd hI.2 oM (by assumption) | exact pw_even hI.2 oM (by assumption)⟩):p:=h
theorem c_spec_Power (w:World) (a:Int) (n:Int) (_ha:-9223372036854775808≤a∧a≤9223372036854775807) (_hn:-9223372036854775808≤n∧n≤9223372036854775807)  :
  Calls Tryz.prog 216 #[.int .i64 a,.int .i64 n] w (fun e w'=>e = .returned (.int .i64 (pw a n))∧w' = w):=by
 refine calls_mk [.int .i64 a,.int .i64 n] 25 Tryz.func216 rfl rfl sM ?_
 have hE0:w = w:=rfl
 refine wp_seq (wp_plain _ [0] rfl (lw_tvn 1 rfl (wp_seq (wp_seq (wp_plain _ [0,0] rfl (lw_tv 1 rfl ?_))))))
 by_cases hc1:n < ((0 :Nat):Int)
 ·
  exact q_lss true rfl rfl (decide_eq_true hc1) zN (lw_nil (c_cond_t rfl (wp_seq (wp_plain _ [0] rfl (lw_tvn 1 rfl (wp_ret (t_ret (post_ret [4] rfl (.int .i64 ((0 :Nat):Int)) rfl ⟨(ret_int (pw_neg (by assumption))),hE0⟩))))))))
 ·
  refine q_lss false rfl rfl (decide_eq_false hc1) zN (lw_nil (c_cond_f rfl (wp_skip (wp_seq (wp_plain _ [0] rfl (lw_tvn 1 rfl (wp_seq (wp_plain _ [0,0,0] rfl (lw_tv 1 rfl (lw_callq 148 [] [] [(.int .i64 a)] rfl rfl cf148 zN (.int .i64 (md a)) (fun wq=>c_spec_Residue wq _ _ha) (lw_tvn 1 rfl (wp_seq (wp_block ?_)))))))))))))
  refine c_loop (S:=Int × Int × Int) (fun (⟨m,x,b⟩:Int × Int × Int)=>([(1,(.int .i64 m)),(5,(.int .i64 x)),(6,(.int .i64 b))]:List (Nat × Value))) (fun (⟨m,x,b⟩:Int × Int × Int) (W:World)=>W = w∧(0≤m∧md (x * b ^ m.toNat) = md (a ^ n.toNat))∧m≤9223372036854775807∧(0≤x∧x < 1000003)∧(0≤b∧b < 1000003)) (fun (⟨m,x,b⟩:Int × Int × Int)=>m.toNat) (n,((1 :Nat):Int),(md a)) ⟨rfl,rfl,rfl,trivial⟩ ⟨hE0,(by exact ⟨by omega,pw_start a n.toNat⟩),oM,oM,(by exact md_num _)⟩ ?_
  clear hE0
  rintro ⟨m,x,b⟩ ρ3 w3 ⟨hE3,hI,hm,hx,hb⟩
  refine wp_seq (wp_seq (wp_plain _ [0,0] rfl (lw_tv 1 rfl ?_)))
  by_cases hc4:((0 :Nat):Int) < m
  ·
   refine q_gtr true rfl rfl (decide_eq_true hc4) zN (lw_nil (c_cond_t rfl (wp_skip (wp_block (wp_seq (wp_seq (wp_plain _ [0,0,0] rfl (lw_tv 1 rfl (q_rem (m % 2) rfl rfl (by decide) (tm2 hI.1) zN ?_)))))))))
   by_cases hc5:m % 2 = ((1 :Nat):Int)
   ·
    refine q_eql true rfl rfl (decide_eq_true hc5) zN (lw_nil (c_cond_t rfl (wp_plain _ [0,0,0,0] rfl (lw_tv 2 rfl (lw_callq 76 [] [] [(.int .i64 x),(.int .i64 b)] rfl rfl cf76 zN (.int .i64 (md (x * b))) (fun wq=>c_spec_Times wq _ _ oM oM) (lw_tvn 1 rfl (wp_seq (wp_plain _ [0,0,0,0] rfl (lw_tv 2 rfl (lw_callq 76 [] [] [(.int .i64 b),(.int .i64 b)] rfl rfl cf76 zN (.int .i64 (md (b * b))) (fun wq=>c_spec_Times wq _ _ oM oM) (lw_tvn 1 rfl (wp_plain _ [0,0,0] rfl (lw_tv 1 rfl (q_quo (m / 2) rfl rfl (by decide) (td2 hI.1 hm) zN (lw_tvn 1 rfl ?_)))))))))))))))
    exact ⟨((m / 2),(md (x * b)),(md (b * b))),_,rfl,⟨rfl,rfl,rfl,trivial⟩,⟨hE3,z216_0,oM,(by first | exact hx | exact md_num _),(by exact md_num _)⟩,by first | omega | (dsimp only; omega)⟩
   ·
    exact q_eql false rfl rfl (decide_eq_false hc5) zN (lw_nil (c_cond_f rfl (wp_skip (wp_seq (wp_plain _ [0,0,0,0] rfl (lw_tv 2 rfl (lw_callq 76 [] [] [(.int .i64 b),(.int .i64 b)] rfl rfl cf76 zN (.int .i64 (md (b * b))) (fun wq=>c_spec_Times wq _ _ oM oM) (lw_tvn 1 rfl (wp_plain _ [0,0,0] rfl (lw_tv 1 rfl (q_quo (m / 2) rfl rfl (by decide) (td2 hI.1 hm) zN (lw_tvn 1 rfl ⟨((m / 2),x,(md (b * b))),_,rfl,⟨rfl,rfl,rfl,trivial⟩,⟨hE3,z216_0,oM,(by first | exact hx | exact md_num _),(by exact md_num _)⟩,by first | omega | (dsimp only; omega)⟩))))))))))))
  ·
   exact q_gtr false rfl rfl (decide_eq_false hc4) zN (lw_nil (c_cond_f rfl (wp_exit (t_exit (t_exit (c_exit_here (wp_seq (wp_plain _ [0,0] rfl (lw_tvn 2 rfl (wp_ret (post_ret [4] rfl (.int .i64 x) rfl ⟨(ret_int (pw_end hI.2 hI.1 (by assumption) (by assumption) hx)),hE3⟩)))))))))))
theorem z162_0 {p:Prop} (h:p:=by exact ⟨by omega,by first | exact pw_odd hI.2 oM (by assumption) | exact pw_even hI.2 oM (by assumption)⟩):p:=h
theorem c_impl_Power (w:World) (a:Int) (n:Int) (_ha:-9223372036854775808≤a∧a≤9223372036854775807) (_hn:-9223372036854775808≤n∧n≤9223372036854775807)  :
  Calls Tryz.prog 162 #[.int .i64 a,.int .i64 n] w (fun e w'=>e = .returned (.int .i64 (pw a n))∧w' = w):=by
 refine calls_mk [.int .i64 a,.int .i64 n] 27 Tryz.func162 rfl rfl sM ?_
 have hE0:w = w:=rfl
 refine wp_seq (wp_plain _ [0] rfl (lw_tvn 1 rfl (wp_seq (wp_seq (wp_plain _ [0,0] rfl (lw_tv 1 rfl ?_))))))
 by_cases hc1:n < ((0 :Nat):Int)
 ·
  exact q_lss true rfl rfl (decide_eq_true hc1) zN (lw_nil (c_cond_t rfl (wp_seq (wp_plain _ [0] rfl (lw_tvn 1 rfl (wp_ret (t_ret (post_ret [4] rfl (.int .i64 ((0 :Nat):Int)) rfl ⟨(ret_int (pw_neg (by assumption))),hE0⟩))))))))
 ·
  refine q_lss false rfl rfl (decide_eq_false hc1) zN (lw_nil (c_cond_f rfl (wp_skip (wp_seq (wp_plain _ [0] rfl (lw_tvn 1 rfl (wp_seq (wp_seq (wp_plain _ [0,0,0] rfl (lw_tv 1 rfl (lw_callq 106 [] [] [(.int .i64 a)] rfl rfl cf106 zN (.int .i64 (md a)) (fun wq=>c_impl_Residue wq _ _ha) (lw_tvn 1 rfl (wp_block ?_)))))))))))))
  refine c_loop (S:=Int × Int × Int) (fun (⟨m,x,b⟩:Int × Int × Int)=>([(1,(.int .i64 m)),(5,(.int .i64 x)),(6,(.int .i64 b))]:List (Nat × Value))) (fun (⟨m,x,b⟩:Int × Int × Int) (W:World)=>W = w∧(0≤m∧md (x * b ^ m.toNat) = md (a ^ n.toNat))∧m≤9223372036854775807∧(0≤x∧x < 1000003)∧(0≤b∧b < 1000003)) (fun (⟨m,x,b⟩:Int × Int × Int)=>m.toNat) (n,((1 :Nat):Int),(md a)) ⟨rfl,rfl,rfl,trivial⟩ ⟨hE0,(by exact ⟨by omega,pw_start a n.toNat⟩),oM,oM,(by exact md_num _)⟩ ?_
  clear hE0
  rintro ⟨m,x,b⟩ ρ3 w3 ⟨hE3,hI,hm,hx,hb⟩
  refine wp_seq (wp_seq (wp_plain _ [0,0] rfl (lw_tv 1 rfl ?_)))
  by_cases hc4:((0 :Nat):Int) < m
  ·
   refine q_gtr true rfl rfl (decide_eq_true hc4) zN (lw_nil (c_cond_t rfl (wp_skip (wp_seq (wp_block (wp_seq (wp_seq (wp_plain _ [0,0,0] rfl (lw_tv 1 rfl (q_rem (m % 2) rfl rfl (by decide) (tm2 hI.1) zN ?_))))))))))
   by_cases hc5:m % 2 = ((1 :Nat):Int)
   ·
    refine q_eql true rfl rfl (decide_eq_true hc5) zN (lw_nil (c_cond_t rfl (wp_plain _ [0,0,0,0,0] rfl (lw_tv 2 rfl (q_mul (wr (x * b)) rfl rfl rfl zN (q_rem (md (x * b)) rfl rfl (by decide) (nm_eq hx hb) zN (lw_tvn 1 rfl (wp_plain _ [0,0,0,0,0] rfl (lw_tv 2 rfl (q_mul (wr (b * b)) rfl rfl rfl zN (q_rem (md (b * b)) rfl rfl (by decide) (nm_eq hb hb) zN (lw_tvn 1 rfl (wp_plain _ [0,0,0] rfl (lw_tv 1 rfl (q_quo (m / 2) rfl rfl (by decide) (td2 hI.1 hm) zN (lw_tvn 1 rfl ?_))))))))))))))))
    exact ⟨((m / 2),(md (x * b)),(md (b * b))),_,rfl,⟨rfl,rfl,rfl,trivial⟩,⟨hE3,z162_0,oM,(by first | exact hx | exact md_num _),(by exact md_num _)⟩,by first | omega | (dsimp only; omega)⟩
   ·
    exact q_eql false rfl rfl (decide_eq_false hc5) zN (lw_nil (c_cond_f rfl (wp_skip (wp_plain _ [0,0,0,0,0] rfl (lw_tv 2 rfl (q_mul (wr (b * b)) rfl rfl rfl zN (q_rem (md (b * b)) rfl rfl (by decide) (nm_eq hb hb) zN (lw_tvn 1 rfl (wp_plain _ [0,0,0] rfl (lw_tv 1 rfl (q_quo (m / 2) rfl rfl (by decide) (td2 hI.1 hm) zN (lw_tvn 1 rfl ⟨((m / 2),x,(md (b * b))),_,rfl,⟨rfl,rfl,rfl,trivial⟩,⟨hE3,z162_0,oM,(by first | exact hx | exact md_num _),(by exact md_num _)⟩,by first | omega | (dsimp only; omega)⟩))))))))))))
  ·
   exact q_gtr false rfl rfl (decide_eq_false hc4) zN (lw_nil (c_cond_f rfl (wp_exit (t_exit (t_exit (c_exit_here (wp_seq (wp_plain _ [0,0] rfl (lw_tvn 2 rfl (wp_ret (post_ret [4] rfl (.int .i64 x) rfl ⟨(ret_int (pw_end hI.2 hI.1 (by assumption) (by assumption) hx)),hE3⟩)))))))))))
theorem c_spec_l01Inv (w:World) (a:Int) (_ha:-9223372036854775808≤a∧a≤9223372036854775807)  :
  Calls Tryz.prog 175 #[.int .i64 a] w (fun e w'=>e = .returned (.int .i64 (inv a))∧w' = w):=by
 refine calls_mk [.int .i64 a] 5 Tryz.func175 rfl rfl sM ?_
 have hE0:w = w:=rfl
 exact wp_seq (wp_plain _ [0] rfl (lw_tvn 1 rfl (wp_seq (wp_plain _ [0,0,0] rfl (lw_tv 1 rfl (lw_callq 216 [] [] [(.int .i64 a),(.int .i64 ((1000001 :Nat):Int))] rfl rfl cf216 zN (.int .i64 (pw a ((1000001 :Nat):Int))) (fun wq=>c_spec_Power wq _ _ _ha oM) (lw_tvn 1 rfl (wp_ret (post_ret [2] rfl (.int .i64 (pw a ((1000001 :Nat):Int))) rfl ⟨rfl,hE0⟩)))))))))
theorem c_impl_inverse (w:World) (a:Int) (_ha:-9223372036854775808≤a∧a≤9223372036854775807)  :
  Calls Tryz.prog 104 #[.int .i64 a] w (fun e w'=>e = .returned (.int .i64 (inv a))∧w' = w):=by
 refine calls_mk [.int .i64 a] 5 Tryz.func104 rfl rfl sM ?_
 have hE0:w = w:=rfl
 exact wp_seq (wp_plain _ [0] rfl (lw_tvn 1 rfl (wp_seq (wp_plain _ [0,0,0] rfl (lw_tv 1 rfl (lw_callq 162 [] [] [(.int .i64 a),(.int .i64 ((1000001 :Nat):Int))] rfl rfl cf162 zN (.int .i64 (pw a ((1000001 :Nat):Int))) (fun wq=>c_impl_Power wq _ _ _ha oM) (lw_tvn 1 rfl (wp_ret (post_ret [2] rfl (.int .i64 (pw a ((1000001 :Nat):Int))) rfl ⟨rfl,hE0⟩)))))))))
theorem c_impl_isNumber (w:World) (n:Int) (_hn:-9223372036854775808≤n∧n≤9223372036854775807)  :
  Calls Tryz.prog 161 #[.int .i64 n] w (fun e w'=>e = .returned (.bool (isN n))∧w' = w):=by
 refine calls_mk [.int .i64 n] 5 Tryz.func161 rfl rfl sM ?_
 have hE0:w = w:=rfl
 exact wp_seq (wp_plain _ [0] rfl (lw_tvn 1 rfl (wp_seq (wp_plain _ [0,0,0] rfl (lw_tv 1 rfl (lw_callq 72 [] [] [(.int .i64 n),(.int .i64 ((0 :Nat):Int)),(.int .i64 ((1000002 :Nat):Int))] rfl rfl cf72 zN (.bool (decide (((0 :Nat):Int)≤n) && decide (n≤((1000002 :Nat):Int)))) (fun wq=>c_impl_within wq _ _ _ _hn oM oM) (lw_tvn 1 rfl (wp_ret (post_ret [2] rfl (.bool (decide (((0 :Nat):Int)≤n) && decide (n≤((1000002 :Nat):Int)))) rfl ⟨(ret_bool (by unfold isN; rfl)),hE0⟩)))))))))
theorem c_spec_l01Number (w:World) (n:Int) (_hn:-9223372036854775808≤n∧n≤9223372036854775807)  :
  Calls Tryz.prog 192 #[.int .i64 n] w (fun e w'=>e = .returned (.bool (isN n))∧w' = w):=by
 refine calls_mk [.int .i64 n] 5 Tryz.func192 rfl rfl sM ?_
 have hE0:w = w:=rfl
 exact wp_seq (wp_plain _ [0] rfl (lw_tvn 1 rfl (wp_seq (wp_plain _ [0,0,0] rfl (lw_tv 1 rfl (lw_callq 92 [] [] [(.int .i64 n),(.int .i64 ((0 :Nat):Int)),(.int .i64 ((1000002 :Nat):Int))] rfl rfl cf92 zN (.bool (decide (((0 :Nat):Int)≤n) && decide (n≤((1000002 :Nat):Int)))) (fun wq=>c_spec_l00In wq _ _ _ _hn oM oM) (lw_tvn 1 rfl (wp_ret (post_ret [2] rfl (.bool (decide (((0 :Nat):Int)≤n) && decide (n≤((1000002 :Nat):Int)))) rfl ⟨(ret_bool (by unfold isN; rfl)),hE0⟩)))))))))
theorem c_impl_areNumbers_1 (w:World) (n:Int) (_hn:-9223372036854775808≤n∧n≤9223372036854775807)  :
  Calls Tryz.prog 160 #[.int .i64 n] w (fun e w'=>e = .returned (.bool (!isN n))∧Ext w w'):=by
 refine calls_mk [.int .i64 n] 6 Tryz.func160 rfl rfl sM ?_
 have hE0:Ext w w:=Ext.refl w
 exact wp_seq (wp_plain _ [0] rfl (lw_tvn 1 rfl (wp_seq (wp_plain _ [0,0,0,0] rfl (lw_tv 1 rfl (lw_callq 161 [] [] [(.int .i64 n)] rfl rfl cf161 zN (.bool (isN n)) (fun wq=>c_impl_isNumber wq _ _hn) (q_not (!(isN n)) rfl rfl zN (lw_tvn 1 rfl (wp_ret (post_ret [2] rfl (.bool (!(isN n))) rfl ⟨rfl,hE0⟩))))))))))
end Go.Proofs.YtnokbaiemimhjaaGreat
namespace Go.Proofs.YtnokbaiemimhjaaGreat
open Go Go.RowKit
set_option linter.unusedVariables false
set_option linter.unusedSimpArgs false
set_option maxHeartbeats 4000000
set_option maxRecDepth 100000
attribute [local irreducible] LW
def ixF {α:Type} (p:α→Bool) (l:List α):Int:=if l.any p then ((l.findIdx p:Nat):Int) else -1
theorem ix_yes {α:Type} {p:α→Bool} {l:List α} {k:Nat} (d:α) (h:∀ j,j < k→p (l.getD j d) = false) (hk:k < l.length) (hp:p (l.getD k d) = true):((k:Nat):Int) = ixF p l:=by
  have e:∀ j,(hj:j < l.length)→l.getD j d = l[j]:=fun j hj=>by simp [hj]
  have h1:l.any p = true:=List.any_eq_true.2 ⟨l[k],List.getElem_mem hk,by rw [← e k hk]; exact hp⟩
  have h2:l.findIdx p = k:=by
    rw [List.findIdx_eq hk]
    refine ⟨by rw [← e k hk]; exact hp,fun j hj=>?_⟩
    have:=h j hj
    rw [e j (by omega)] at this
    exact this
  unfold ixF; rw [if_pos h1,h2]
theorem ix_no {α:Type} {p:α→Bool} {l:List α} {k:Nat} (d:α) (h:∀ j,j < k→p (l.getD j d) = false) (hk:l.length≤k):(-1:Int) = ixF p l:=by
  have h1:l.any p = false:=by
    rw [List.any_eq_false]
    intro x hx
    obtain ⟨j,hj,rfl⟩:=List.getElem_of_mem hx
    have:=h j (by omega)
    have e:l.getD j d = l[j]:=by simp [hj]
    rw [e] at this
    simp [this]
  unfold ixF; rw [h1]; rfl
theorem ix_ge {α:Type} (p:α→Bool) (l:List α):decide (((0:Nat):Int)≤ixF p l) = l.any p:=by
  unfold ixF
  split
  · rename_i h; rw [h]; exact decide_eq_true (by omega)
  · rename_i h; rw [Bool.not_eq_true] at h; rw [h]; exact decide_eq_false (by omega)
theorem ix_step {α:Type} {p:α→Bool} {l:List α} {k:Nat} {d:α} (h:∀ j,j < k→p (l.getD j d) = false) (hp:p (l.getD k d) = false):∀ j,j < k + 1→p (l.getD j d) = false:=by
  intro j hj
  by_cases e:j = k
  · subst e; exact hp
  · exact h j (by omega)
theorem c_slices_IndexFunc___int64_int64_ (w:World) (va:Value) (a:List Int) (q:Nat) (qf qc:List Value) (p:Int→Bool) (ha:Rd (rdL rI) w.heap va a) (hcf_q:((Tryz.prog.funcs[q]?).map fun fn=>(fn.name != "runtime.NumGoroutine") && fn.body.isSome) = some true) (hp:∀ (x:Int),-9223372036854775808≤x∧x≤9223372036854775807→∀ w1,Ext w w1→Calls Tryz.prog q (qf++[Value.int .i64 x]++qc).toArray w1 (fun e w2=>e = .returned (.bool (p x))∧Ext w1 w2))  :
  Calls Tryz.prog 210 #[va,.func (.func q) qf.toArray qc.toArray] w (fun e w'=>e = .returned (.int .i64 (ixF p a))∧Ext w w'):=by
 refine calls_mk [va,.func (.func q) qf.toArray qc.toArray] 19 Tryz.func210 rfl rfl sM ?_
 have hE0:Ext w w:=Ext.refl w
 have hl_va:=ha.lenle
 refine wp_seq (wp_plain _ [0] rfl (lw_tvn 1 rfl (wp_seq (wp_seq (wp_plain _ [0,0,0] rfl (lw_tv 1 rfl (q_len (v:=va) u27 rfl ha.isSl zN (lw_tvn 1 rfl (wp_block ?_)))))))))
 refine c_loop (S:=Nat) (fun (k:Nat)=>([(8,(.int .i64 ((k :Nat):Int))),(0,va),(1,(.func (.func q) qf.toArray qc.toArray)),(7,(.int .i64 ((a.length :Nat):Int)))]:List (Nat × Value))) (fun (k:Nat) (W:World)=>Ext w W∧k≤a.length∧(∀ j,j < k→p (a.getD j 0) = false)) (fun (k:Nat)=>a.length - k) 0 ⟨rfl,rfl,rfl,rfl,trivial⟩ ⟨hE0,sD,(by intro j hj; omega)⟩ ?_
 clear hE0
 rintro k ρ1 w1 ⟨hE1,hp1_0,hq⟩
 have hzs1:w.heap.size≤w1.heap.size:=hE1.size
 refine wp_seq (wp_plain _ [0] rfl ?_)
 by_cases hc2:((k :Nat):Int) < ((a.length :Nat):Int)
 ·
  refine q_lss true rfl rfl (decide_eq_true hc2) zN (lw_nil (wp_seq (c_cond_t rfl (wp_skip (wp_seq (wp_block (wp_seq (wp_plain _ [0,0] rfl (lw_tvn 2 rfl (wp_seq (wp_plain _ [0,0,0,0,2,3] rfl (lw_tv 3 rfl (q_idx (v:=va) k u27 ti2 rfl rfl ha.isSl rfl sD zN ?_)))))))))))))
  refine q_load (p:=eptr va k 1) (.inr rfl) (.int .i64 (a.getD k 0)) one2 rfl (ldH_ext hE1 (ha.getI sD).1) zN ?_
  have hcall3:=hp (a.getD k 0) (ha.getI sD).2 _ hE1
  refine lw_call q qf qc _ rfl rfl hcf_q zN hcall3 ?_
  rintro e3 w3 ⟨rfl,hX3⟩
  refine ⟨_,rfl,hX3,?_⟩
  have hzs3:=hX3.size
  have hE3:=hE1.trans hX3
  cases hc3:p (a.getD k 0)
  ·
   refine lw_nil (c_cond_f rfl (wp_skip (wp_plain _ [0,0] rfl (q_add ((k + 1 :Nat):Int) rfl rfl (w64n oM sD) zN (lw_tvn 1 rfl ?_)))))
   exact ⟨(k + 1),_,rfl,⟨rfl,rfl,rfl,rfl,trivial⟩,⟨hE3,sD,(by exact ix_step hq (by assumption))⟩,by first | omega | (dsimp only; omega)⟩
  ·
   exact lw_nil (c_cond_t rfl (wp_seq (wp_plain _ [0,0] rfl (lw_tvn 2 rfl (wp_ret (b_ret (t_ret (t_ret (b_ret (t_ret (post_ret [4] rfl (.int .i64 ((k :Nat):Int)) rfl ⟨(ret_int (ix_yes 0 hq oM (by assumption))),hE3⟩)))))))))))
 ·
  exact q_lss false rfl rfl (decide_eq_false hc2) zN (lw_nil (wp_seq (c_cond_f rfl (wp_exit (t_exit (t_exit (c_exit_here (wp_seq (wp_plain _ [0] rfl (lw_tvn 1 rfl (wp_ret (post_ret [4] rfl (.int .i64 (-1)) rfl ⟨(ret_int (ix_no 0 hq oM)),hE1⟩))))))))))))
theorem c_slices_ContainsFunc___int64_int64_ (w:World) (va:Value) (a:List Int) (q:Nat) (qf qc:List Value) (p:Int→Bool) (ha:Rd (rdL rI) w.heap va a) (hcf_q:((Tryz.prog.funcs[q]?).map fun fn=>(fn.name != "runtime.NumGoroutine") && fn.body.isSome) = some true) (hp:∀ (x:Int),-9223372036854775808≤x∧x≤9223372036854775807→∀ w1,Ext w w1→Calls Tryz.prog q (qf++[Value.int .i64 x]++qc).toArray w1 (fun e w2=>e = .returned (.bool (p x))∧Ext w1 w2))  :
  Calls Tryz.prog 159 #[va,.func (.func q) qf.toArray qc.toArray] w (fun e w'=>e = .returned (.bool (a.any p))∧Ext w w'):=by
 refine calls_mk [va,.func (.func q) qf.toArray qc.toArray] 9 Tryz.func159 rfl rfl sM ?_
 have hE0:Ext w w:=Ext.refl w
 have hl_va:=ha.lenle
 refine wp_seq (wp_plain _ [0] rfl (lw_tvn 1 rfl (wp_seq (wp_plain _ [0,0,3,0,0] rfl (lw_tv 2 rfl (lw_call 210 [] [] [va,(.func (.func q) qf.toArray qc.toArray)] rfl rfl cf210 zN (c_slices_IndexFunc___int64_int64_ _ _ _ q qf qc p (ha.ext g1 hE0) hcf_q (fun x hx w1 hw=>hp x hx w1 (hE0.trans hw))) ?_))))))
 rintro e1 w1 ⟨rfl,hX1⟩
 refine ⟨_,rfl,hX1,?_⟩
 have hzs1:=hX1.size
 have hE1:=hE0.trans hX1
 exact q_geq (decide (((0 :Nat):Int)≤ixF p a)) rfl rfl rfl zN (lw_tvn 1 rfl (wp_ret (post_ret [4] rfl (.bool (decide (((0 :Nat):Int)≤ixF p a))) rfl ⟨(ret_bool (ix_ge p a)),hE1⟩)))
theorem c_impl_areNumbers (w:World) (va:Value) (a:List Int) (count:Int) (ha:Rd (rdL rI) w.heap va a) (_hcount:-9223372036854775808≤count∧count≤9223372036854775807)  :
  Calls Tryz.prog 97 #[va,.int .i64 count] w (fun e w'=>e = .returned (.bool (decide (((a.length :Nat):Int) = count) && allN a))∧Ext w w'):=by
 refine calls_mk [va,.int .i64 count] 14 Tryz.func97 rfl rfl sM ?_
 have hE0:Ext w w:=Ext.refl w
 have hl_va:=ha.lenle
 refine wp_seq (wp_plain _ [0] rfl (lw_tvn 1 rfl (wp_seq (wp_plain _ [0,0,0,0,0,0,3,0,0,0] rfl (lw_tv 1 rfl (q_len (v:=va) u27 rfl ha.isSl zN (lw_tv 1 rfl ?_)))))))
 by_cases hc1:((a.length :Nat):Int) = count
 ·
  refine q_eql true rfl rfl (decide_eq_true hc1) zN (lw_tv 2 rfl (lw_call 159 [] [] [va,(.func (.func 160) #[] #[])] rfl rfl cf159 (zS (e:=9) rfl rfl rfl) (c_slices_ContainsFunc___int64_int64_ _ _ _ 160 [] [] (fun x=>!isN x) (ha.ext g1 hE0) cf160 (fun x hx w1 hw=>c_impl_areNumbers_1 w1 x hx)) ?_))
  rintro e2 w2 ⟨rfl,hX2⟩
  refine ⟨_,rfl,hX2,?_⟩
  have hzs2:=hX2.size
  have hE2:=hE0.trans hX2
  exact q_not (!(a.any (fun x=>!isN x))) rfl rfl (zS (e:=9) rfl rfl rfl) (lw_tvn 2 rfl (wp_ret (post_ret [4] rfl (.bool (!(a.any (fun x=>!isN x)))) rfl ⟨(ret_bool (by first | (rw [any_not]; simp [*]; done) | simp [*])),hE2⟩)))
 ·
  exact q_eql false rfl rfl (decide_eq_false hc1) zN (lw_tvn 6 rfl (wp_ret (post_ret [4] rfl (.bool false) rfl ⟨(ret_bool (by first | (rw [any_not]; simp [*]; done) | simp [*])),hE0⟩)))
theorem c_spec_l01Numbers (w:World) (va:Value) (a:List Int) (ha:Rd (rdL rI) w.heap va a)  :
  Calls Tryz.prog 144 #[va] w (fun e w'=>e = .returned (.bool (allN a))∧Ext w w'):=by
 refine calls_mk [va] 16 Tryz.func144 rfl rfl sM ?_
 have hE0:Ext w w:=Ext.refl w
 have hl_va:=ha.lenle
 refine wp_seq (wp_plain _ [0] rfl (lw_tvn 1 rfl (wp_seq (wp_seq (wp_plain _ [0] rfl (lw_tvn 1 rfl (wp_block (c_loop (S:=Nat) (fun (k:Nat)=>([(3,(.int .i64 ((k :Nat):Int))),(0,va)]:List (Nat × Value))) (fun (k:Nat) (W:World)=>Ext w W∧k≤a.length∧((a.take k).all isN = true)) (fun (k:Nat)=>a.length - k) 0 ⟨rfl,rfl,trivial⟩ ⟨hE0,sD,(by exact all_none _ _)⟩ ?_))))))))
 clear hE0
 rintro k ρ1 w1 ⟨hE1,hp1_0,hq⟩
 have hzs1:w.heap.size≤w1.heap.size:=hE1.size
 refine wp_seq (wp_seq (wp_plain _ [0,0,0,0] rfl (lw_tv 2 rfl (q_len (v:=va) u27 rfl ha.isSl zN ?_))))
 by_cases hc2:((k :Nat):Int) < ((a.length :Nat):Int)
 ·
  refine q_lss true rfl rfl (decide_eq_true hc2) zN (lw_nil (c_cond_t rfl (wp_skip (wp_seq (wp_block (wp_seq (wp_plain _ [0,0,0,2,0,0] rfl (lw_tv 2 rfl (q_idx (v:=va) k u27 ti2 rfl rfl ha.isSl rfl sD zN ?_)))))))))
  refine q_load (p:=eptr va k 1) (.inr rfl) (.int .i64 (a.getD k 0)) one2 rfl (ldH_ext hE1 (ha.getI sD).1) zN ?_
  refine lw_callq 192 [] [] [(.int .i64 (a.getD k 0))] rfl rfl cf192 zN (.bool (isN (a.getD k 0))) (fun wq=>c_spec_l01Number wq _ (ha.getI sD).2) (q_not (!(isN (a.getD k 0))) rfl rfl zN (lw_nil ?_))
  cases hb4:(!(isN (a.getD k 0)))
  ·
   refine c_cond_f (by first | rfl | (show Value.bool _ = _; rw [hb4])) (wp_skip (wp_plain _ [0,0,0] rfl (lw_tv 1 rfl (q_add ((k + 1 :Nat):Int) rfl rfl (w64n oM sD) zN (lw_tvn 1 rfl ?_)))))
   exact ⟨(k + 1),_,rfl,⟨rfl,rfl,trivial⟩,⟨hE1,sD,(by exact all_succ 0 hq oM (by simpa using ‹(!isN (a.getD k 0)) = false›))⟩,by first | omega | (dsimp only; omega)⟩
  ·
   exact c_cond_t (by first | rfl | (show Value.bool _ = _; rw [hb4])) (wp_seq (wp_plain _ [0] rfl (lw_tvn 1 rfl (wp_ret (b_ret (t_ret (t_ret (b_ret (t_ret (post_ret [2] rfl (.bool false) rfl ⟨(ret_bool (all_fail (k:=k) 0 oM (by simpa using ‹(!isN (a.getD k 0)) = true›)).symm),hE1⟩))))))))))
 ·
  exact q_lss false rfl rfl (decide_eq_false hc2) zN (lw_nil (c_cond_f rfl (wp_exit (t_exit (t_exit (c_exit_here (wp_seq (wp_plain _ [0] rfl (lw_tvn 1 rfl (wp_ret (post_ret [2] rfl (.bool true) rfl ⟨(ret_bool (all_done hq oM).symm),hE1⟩)))))))))))
theorem c_spec_l00Own (w:World) (va:Value) (a:List Int) (ha:Rd (rdL rI) w.heap va a) (hla:a.length≤1000000000000) :
  Calls Tryz.prog 165 #[va] w (fun e w'=>∃ v0:Value,e = .returned (v0)∧Ext w w'∧Fr (owL rI 2) w.heap.size w'.heap.size w'.heap v0 a):=by
 refine calls_mk [va] 6 Tryz.func165 rfl rfl sM ?_
 have hE0:Ext w w:=Ext.refl w
 have hl_va:=ha.lenle
 refine wp_seq (wp_plain _ [0] rfl (lw_tvn 1 rfl (wp_seq (wp_plain _ [3,0,4,0] rfl (r_nil (rI) good_rI u27 ti2 zN fun v1 w1 hX1 hz1 hO1=>?_)))))
 have hzs1:=hX1.size
 have hE1:=hE0.trans hX1
 refine lw_tv 1 rfl (e_appI (v:=v1) (a:=va) u27 ti2 rfl rfl rfl hO1 hE1.size (ha.ext g1 hE1) sD (by unfold maxLen; first | omega | assumption | (simp; done) | (simp; omega)) zN fun v2 w2 F2 hC2 hF2 hO2=>?_)
 have hE2:Ext w w2:=hC2.below hE1 (fun c hc=>Nat.le_trans (Nat.le_refl _) (hF2 c hc).1) hE1.size
 have hzs2:=hC2.size
 exact lw_tvn 1 rfl (wp_ret (post_ret [2] rfl v2 rfl ⟨v2,rfl,hE2,hO2.up o1⟩))
end Go.Proofs.YtnokbaiemimhjaaGreat
namespace Go.Proofs.YtnokbaiemimhjaaGreat
open Go Go.RowKit
set_option linter.unusedVariables false
set_option linter.unusedSimpArgs false
set_option maxHeartbeats 4000000
set_option maxRecDepth 100000
attribute [local irreducible] LW
theorem c_laws_eqInt64S (w:World) (va:Value) (a:List Int) (vb:Value) (b:List Int) (ha:Rd (rdL rI) w.heap va a) (hb:Rd (rdL rI) w.heap vb b)  :
  Calls Tryz.prog 51 #[va,vb] w (fun e w'=>e = .returned (.bool (decide (a = b)))∧Ext w w'):=by
 refine calls_mk [va,vb] 26 Tryz.func51 rfl rfl sM ?_
 have hE0:Ext w w:=Ext.refl w
 have hl_va:=ha.lenle
 have hl_vb:=hb.lenle
 refine wp_seq (wp_plain _ [0] rfl (lw_tvn 1 rfl (wp_seq (wp_seq (wp_plain _ [0,0,0,0,0] rfl (lw_tv 1 rfl (q_len (v:=va) u27 rfl ha.isSl zN (lw_tv 1 rfl (q_len (v:=vb) u27 rfl hb.isSl zN ?_)))))))))
 by_cases hc1:((a.length :Nat):Int)≠((b.length :Nat):Int)
 ·
  exact q_neq true rfl rfl (decide_eq_true hc1) zN (lw_nil (c_cond_t rfl (wp_seq (wp_plain _ [0] rfl (lw_tvn 1 rfl (wp_ret (t_ret (post_ret [4] rfl (.bool false) rfl ⟨(ret_bool (decide_eq_false (leq_len oM)).symm),hE0⟩))))))))
 ·
  refine q_neq false rfl rfl (decide_eq_false hc1) zN (lw_nil (c_cond_f rfl (wp_skip (wp_seq (wp_seq (wp_plain _ [0] rfl (lw_tvn 1 rfl (wp_block (c_loop (S:=Nat) (fun (k:Nat)=>([(5,(.int .i64 ((k :Nat):Int))),(0,va),(1,vb)]:List (Nat × Value))) (fun (k:Nat) (W:World)=>Ext w W∧k≤a.length∧(∀ j,j < k→a.getD j 0 = b.getD j 0)) (fun (k:Nat)=>a.length - k) 0 ⟨rfl,rfl,rfl,trivial⟩ ⟨hE0,sD,(by intro j hj; omega)⟩ ?_)))))))))
  clear hE0
  rintro k ρ2 w2 ⟨hE2,hp2_0,hq⟩
  have hzs2:w.heap.size≤w2.heap.size:=hE2.size
  refine wp_seq (wp_seq (wp_plain _ [0,0,0,0] rfl (lw_tv 2 rfl (q_len (v:=va) u27 rfl ha.isSl zN ?_))))
  by_cases hc3:((k :Nat):Int) < ((a.length :Nat):Int)
  ·
   refine q_lss true rfl rfl (decide_eq_true hc3) zN (lw_nil (c_cond_t rfl (wp_skip (wp_seq (wp_block (wp_seq (wp_draw _ [0,0,0,1,0,0,0,1,0] mixed (by kernel_rfl) (lw_tv 2 rfl (q_idx (v:=va) k u27 ti2 rfl rfl ha.isSl rfl sD zN ?_)))))))))
   refine q_load (p:=eptr va k 1) (.inl rfl) (.int .i64 (a.getD k 0)) one2 rfl (ldH_ext hE2.drew (ha.getI sD).1) zN (lw_tv 2 rfl ?_)
   refine q_idx (v:=vb) k u27 ti2 rfl rfl hb.isSl rfl sD zN ?_
   refine q_load (p:=eptr vb k 1) (.inl rfl) (.int .i64 (b.getD k 0)) one2 rfl (ldH_ext hE2.drew (hb.getI sD).1) zN ?_
   by_cases hc4:a.getD k 0≠b.getD k 0
   ·
    exact q_neq true rfl rfl (decide_eq_true hc4) zN (lw_nil (c_cond_t rfl (wp_seq (wp_plain _ [0] rfl (lw_tvn 1 rfl (wp_ret (b_ret (t_ret (t_ret (b_ret (t_ret (post_ret [4] rfl (.bool false) rfl ⟨(ret_bool (decide_eq_false (leq_fail (d:=0) (k:=k) oM)).symm),hE2.drew⟩))))))))))))
   ·
    refine q_neq false rfl rfl (decide_eq_false hc4) zN (lw_nil (c_cond_f rfl (wp_skip (wp_plain _ [0,0,0] rfl (lw_tv 1 rfl (q_add ((k + 1 :Nat):Int) rfl rfl (w64n oM sD) zN (lw_tvn 1 rfl ?_)))))))
    exact ⟨(k + 1),_,rfl,⟨rfl,rfl,rfl,trivial⟩,⟨hE2.drew,sD,(by exact leq_step hq oM)⟩,by first | omega | (dsimp only; omega)⟩
  ·
   exact q_lss false rfl rfl (decide_eq_false hc3) zN (lw_nil (c_cond_f rfl (wp_exit (t_exit (t_exit (c_exit_here (wp_seq (wp_plain _ [0] rfl (lw_tvn 1 rfl (wp_ret (post_ret [4] rfl (.bool true) rfl ⟨(ret_bool (decide_eq_true (leq_done hq oM oM)).symm),hE2⟩)))))))))))
theorem c_laws_eqInt64SS (w:World) (va:Value) (a:List (List Int)) (vb:Value) (b:List (List Int)) (ha:Rd (rdL (rdL rI)) w.heap va a) (hb:Rd (rdL (rdL rI)) w.heap vb b)  :
  Calls Tryz.prog 47 #[va,vb] w (fun e w'=>e = .returned (.bool (decide (a = b)))∧Ext w w'):=by
 refine calls_mk [va,vb] 27 Tryz.func47 rfl rfl sM ?_
 have hE0:Ext w w:=Ext.refl w
 have hl_va:=ha.lenle
 have hl_vb:=hb.lenle
 refine wp_seq (wp_plain _ [0] rfl (lw_tvn 1 rfl (wp_seq (wp_seq (wp_plain _ [0,0,0,0,0] rfl (lw_tv 1 rfl (q_len (v:=va) u32 rfl ha.isSl zN (lw_tv 1 rfl (q_len (v:=vb) u32 rfl hb.isSl zN ?_)))))))))
 by_cases hc1:((a.length :Nat):Int)≠((b.length :Nat):Int)
 ·
  exact q_neq true rfl rfl (decide_eq_true hc1) zN (lw_nil (c_cond_t rfl (wp_seq (wp_plain _ [0] rfl (lw_tvn 1 rfl (wp_ret (t_ret (post_ret [4] rfl (.bool false) rfl ⟨(ret_bool (decide_eq_false (leq_len oM)).symm),hE0⟩))))))))
 ·
  refine q_neq false rfl rfl (decide_eq_false hc1) zN (lw_nil (c_cond_f rfl (wp_skip (wp_seq (wp_seq (wp_plain _ [0] rfl (lw_tvn 1 rfl (wp_block (c_loop (S:=Nat) (fun (k:Nat)=>([(5,(.int .i64 ((k :Nat):Int))),(0,va),(1,vb)]:List (Nat × Value))) (fun (k:Nat) (W:World)=>Ext w W∧k≤a.length∧(∀ j,j < k→a.getD j [] = b.getD j [])) (fun (k:Nat)=>a.length - k) 0 ⟨rfl,rfl,rfl,trivial⟩ ⟨hE0,sD,(by intro j hj; omega)⟩ ?_)))))))))
  clear hE0
  rintro k ρ2 w2 ⟨hE2,hp2_0,hq⟩
  have hzs2:w.heap.size≤w2.heap.size:=hE2.size
  refine wp_seq (wp_seq (wp_plain _ [0,0,0,0] rfl (lw_tv 2 rfl (q_len (v:=va) u32 rfl ha.isSl zN ?_))))
  by_cases hc3:((k :Nat):Int) < ((a.length :Nat):Int)
  ·
   refine q_lss true rfl rfl (decide_eq_true hc3) zN (lw_nil (c_cond_t rfl (wp_skip (wp_seq (wp_block (wp_seq (wp_draw _ [0,0,0,1,0,0,0,1,3,0] mixed (by kernel_rfl) (lw_tv 2 rfl (q_idx (v:=va) k u32 ti27 rfl rfl ha.isSl rfl sD zN ?_)))))))))
   obtain ⟨ue4,hl4,hd4⟩:=ha.get (k:=k) [] sD
   have hln4:=hd4.lenle
   refine q_load (p:=eptr va k 1) (.inl rfl) ue4 one27 rfl (ldH_ext hE2.drew hl4) zN (lw_tv 2 rfl (q_idx (v:=vb) k u32 ti27 rfl rfl hb.isSl rfl sD zN ?_))
   obtain ⟨ue5,hl5,hd5⟩:=hb.get (k:=k) [] sD
   have hln5:=hd5.lenle
   refine q_load (p:=eptr vb k 1) (.inl rfl) ue5 one27 rfl (ldH_ext hE2.drew hl5) zN (lw_call 51 [] [] [ue4,ue5] rfl rfl cf51 zN (c_laws_eqInt64S _ _ _ _ _ (hd4.ext g1 hE2.drew) (hd5.ext g1 hE2.drew)) ?_)
   rintro e6 w6 ⟨rfl,hX6⟩
   refine ⟨_,rfl,hX6,?_⟩
   replace hX6:=hX6.of_drew
   have hzs6:=hX6.size
   have hE6:=hE2.trans hX6
   refine q_not (!(decide ((a.getD k []) = (b.getD k [])))) rfl rfl zN (lw_nil ?_)
   cases hb7:(!(decide ((a.getD k []) = (b.getD k []))))
   ·
    refine c_cond_f (by first | rfl | (show Value.bool _ = _; rw [hb7])) (wp_skip (wp_plain _ [0,0,0] rfl (lw_tv 1 rfl (q_add ((k + 1 :Nat):Int) rfl rfl (w64n oM sD) zN (lw_tvn 1 rfl ?_)))))
    exact ⟨(k + 1),_,rfl,⟨rfl,rfl,rfl,trivial⟩,⟨hE6,sD,(by exact leq_step hq (by simpa using ‹(!decide (a.getD k [] = b.getD k [])) = false›))⟩,by first | omega | (dsimp only; omega)⟩
   ·
    exact c_cond_t (by first | rfl | (show Value.bool _ = _; rw [hb7])) (wp_seq (wp_plain _ [0] rfl (lw_tvn 1 rfl (wp_ret (b_ret (t_ret (t_ret (b_ret (t_ret (post_ret [4] rfl (.bool false) rfl ⟨(ret_bool (decide_eq_false (leq_fail (d:=[]) (k:=k) (by simpa using ‹(!decide (a.getD k [] = b.getD k [])) = true›))).symm),hE6⟩))))))))))
  ·
   exact q_lss false rfl rfl (decide_eq_false hc3) zN (lw_nil (c_cond_f rfl (wp_exit (t_exit (t_exit (c_exit_here (wp_seq (wp_plain _ [0] rfl (lw_tvn 1 rfl (wp_ret (post_ret [4] rfl (.bool true) rfl ⟨(ret_bool (decide_eq_true (leq_done hq oM oM)).symm),hE2⟩)))))))))))
theorem c_laws_toInt64S (w:World) (va:Value) (a:List Int) (ha:Rd (rdL rI) w.heap va a) (hla:a.length≤1000000000000) :
  Calls Tryz.prog 49 #[va] w (fun e w'=>∃ v0:Value,e = .returned (v0)∧Ext w w'∧Fr (owL rI 2) w.heap.size w'.heap.size w'.heap v0 a):=by
 refine calls_mk [va] 22 Tryz.func49 rfl rfl sM ?_
 have hE0:Ext w w:=Ext.refl w
 have hl_va:=ha.lenle
 refine wp_seq (wp_plain _ [0] rfl (lw_tvn 1 rfl (wp_seq (wp_plain _ [0,0,3,0] rfl (lw_tv 1 rfl (q_len (v:=va) u27 rfl ha.isSl zN (r_make (n:=a.length) u27 ti2 rfl rfl rfl sD zN fun v1 w1 hX1 hz1 hO1=>?_)))))))
 have hzs1:=hX1.size
 have hE1:=hE0.trans hX1
 refine lw_tvn 1 rfl (wp_seq (wp_seq (wp_plain _ [0] rfl (lw_tvn 1 rfl (wp_block (c_loop (S:=Nat) (fun (k:Nat)=>([(4,(.int .i64 ((k :Nat):Int))),(0,va),(3,v1)]:List (Nat × Value))) (fun (k:Nat) (W:World)=>Ext w W∧Fr (owL rI 2) w.heap.size W.heap.size W.heap v1 (mix k a (List.replicate a.length 0))∧k≤a.length) (fun (k:Nat)=>a.length - k) 0 ⟨rfl,rfl,rfl,trivial⟩ ⟨hE1,(by rw [mix_zero]; exact hO1.up o1),sD⟩ ?_))))))
 clear hE0 hO1 hz1 hX1 hzs1 hE1
 rintro k ρ2 w2 ⟨hE2,hL2_0,hp2_0⟩
 have hzs2:w.heap.size≤w2.heap.size:=hE2.size
 have hml:=mix_len k a (List.replicate a.length 0) sM
 rw [List.length_replicate] at hml
 refine wp_seq (wp_seq (wp_plain _ [0,0,0,0] rfl (lw_tv 2 rfl (q_len (v:=va) u27 rfl ha.isSl zN ?_))))
 by_cases hc3:((k :Nat):Int) < ((a.length :Nat):Int)
 ·
  refine q_lss true rfl rfl (decide_eq_true hc3) zN (lw_nil (c_cond_t rfl (wp_skip (wp_seq (wp_block (wp_plain _ [0,0,0,0,0,2,0,4] rfl (lw_tv 4 rfl (q_idx (v:=va) k u27 ti2 rfl rfl ha.isSl rfl sD zN ?_))))))))
  refine q_load (p:=eptr va k 1) (.inr rfl) (.int .i64 (a.getD k 0)) one2 rfl (ldH_ext hE2 (ha.getI sD).1) zN ?_
  refine q_idx (v:=v1) k u27 ti2 rfl rfl hL2_0.isSl rfl sD zN ?_
  refine e_setI (v:=v1) (w:=w2) sz2 rfl rfl (ha.getI sD).2 hL2_0 sD zN fun w4 F4 hC4 hz4 hF4 hO4=>?_
  have hE4:Ext w w4:=hC4.below hE2 (fun c hc=>Nat.le_trans (Nat.le_refl _) (hF4 c hc).1) hE2.size
  have hzs4:=hC4.size
  refine lw_nil (wp_plain _ [0,0,0] rfl (lw_tv 1 rfl (q_add ((k + 1 :Nat):Int) rfl rfl (w64n oM sD) zN (lw_tvn 1 rfl ?_))))
  exact ⟨(k + 1),_,rfl,⟨rfl,rfl,rfl,trivial⟩,⟨hE4,(by rw [← mix_set 0 sM (by simp; omega)]; exact hO4.up o1),sD⟩,by first | omega | (dsimp only; omega)⟩
 ·
  exact q_lss false rfl rfl (decide_eq_false hc3) zN (lw_nil (c_cond_f rfl (wp_exit (t_exit (t_exit (c_exit_here (wp_seq (wp_plain _ [0,0] rfl (lw_tvn 2 rfl (wp_ret (post_ret [2] rfl v1 rfl ⟨v1,rfl,hE2,(by have h:=hL2_0.up o1; rwa [mix_all sM (by simp; omega)] at h)⟩)))))))))))
theorem c_laws_toInt64SS (w:World) (va:Value) (a:List (List Int)) (ha:Rd (rdL (rdL rI)) w.heap va a) (hla:a.length≤1000000000000) (hlr:∀ k,(a.getD k []).length≤1000000000000) :
  Calls Tryz.prog 44 #[va] w (fun e w'=>∃ v0:Value,e = .returned (v0)∧Ext w w'∧Fr (owL (owL rI 2) 27) w.heap.size w'.heap.size w'.heap v0 a):=by
 refine calls_mk [va] 23 Tryz.func44 rfl rfl sM ?_
 have hE0:Ext w w:=Ext.refl w
 have hl_va:=ha.lenle
 refine wp_seq (wp_plain _ [0] rfl (lw_tvn 1 rfl (wp_seq (wp_plain _ [0,0,3,0] rfl (lw_tv 1 rfl (q_len (v:=va) u32 rfl ha.isSl zN (r_make2 (owL rI 2) o1 (fun _=>.inl ⟨rfl,rfl,rfl⟩) (n:=a.length) u32 ti27 rfl rfl rfl sD zN fun v1 w1 hX1 hz1 hO1=>?_)))))))
 have hzs1:=hX1.size
 have hE1:=hE0.trans hX1
 refine lw_tvn 1 rfl (wp_seq (wp_seq (wp_plain _ [0] rfl (lw_tvn 1 rfl (wp_block (c_loop (S:=Nat) (fun (k:Nat)=>([(4,(.int .i64 ((k :Nat):Int))),(0,va),(3,v1)]:List (Nat × Value))) (fun (k:Nat) (W:World)=>Ext w W∧Fr (owL (owL rI 2) 27) w.heap.size W.heap.size W.heap v1 (mix k a (List.replicate a.length []))∧k≤a.length) (fun (k:Nat)=>a.length - k) 0 ⟨rfl,rfl,rfl,trivial⟩ ⟨hE1,(by rw [mix_zero]; exact hO1.up o2),sD⟩ ?_))))))
 clear hE0 hO1 hz1 hX1 hzs1 hE1
 rintro k ρ2 w2 ⟨hE2,hL2_0,hp2_0⟩
 have hzs2:w.heap.size≤w2.heap.size:=hE2.size
 have hml:=mix_len k a (List.replicate a.length []) sM
 rw [List.length_replicate] at hml
 refine wp_seq (wp_seq (wp_plain _ [0,0,0,0] rfl (lw_tv 2 rfl (q_len (v:=va) u32 rfl ha.isSl zN ?_))))
 by_cases hc3:((k :Nat):Int) < ((a.length :Nat):Int)
 ·
  refine q_lss true rfl rfl (decide_eq_true hc3) zN (lw_nil (c_cond_t rfl (wp_skip (wp_seq (wp_block (wp_plain _ [0,0,0,0,0,2,3,0,4] rfl (lw_tv 4 rfl (q_idx (v:=va) k u32 ti27 rfl rfl ha.isSl rfl sD zN ?_))))))))
  obtain ⟨ue4,hl4,hd4⟩:=ha.get (k:=k) [] sD
  have hln4:=hd4.lenle
  refine q_load (p:=eptr va k 1) (.inr rfl) ue4 one27 rfl (ldH_ext hE2 hl4) zN (lw_call 49 [] [] [ue4] rfl rfl cf49 zN (c_laws_toInt64S _ _ _ (hd4.ext g1 hE2) (by exact hlr _)) ?_)
  rintro e5 w5 ⟨v5_0,rfl,hX5,hO5_0⟩
  refine ⟨_,rfl,hX5,?_⟩
  have hzs5:=hX5.size
  have hE5:=hE2.trans hX5
  have hL2_0x5:=hL2_0.ext (o2) hX5
  refine q_idx (v:=v1) k u32 ti27 rfl rfl hL2_0x5.isSl rfl sD zN ?_
  refine e_setF o1 (v:=v1) (u:=v5_0) (w:=w5) sz27 rfl rfl hL2_0x5 hO5_0 oM hE2.size sD zN fun w6 F6 hC6 hz6 hF6 hO6=>?_
  have hE6:Ext w w6:=hC6.below hE5 (fun c hc=>Nat.le_trans (Nat.le_refl _) (hF6 c hc).1) hE5.size
  have hzs6:=hC6.size
  refine lw_nil (wp_plain _ [0,0,0] rfl (lw_tv 1 rfl (q_add ((k + 1 :Nat):Int) rfl rfl (w64n oM sD) zN (lw_tvn 1 rfl ?_))))
  exact ⟨(k + 1),_,rfl,⟨rfl,rfl,rfl,trivial⟩,⟨hE6,(by rw [← mix_set [] sM (by simp; omega)]; exact hO6.up o2),sD⟩,by first | omega | (dsimp only; omega)⟩
 ·
  exact q_lss false rfl rfl (decide_eq_false hc3) zN (lw_nil (c_cond_f rfl (wp_exit (t_exit (t_exit (c_exit_here (wp_seq (wp_plain _ [0,0] rfl (lw_tvn 2 rfl (wp_ret (post_ret [2] rfl v1 rfl ⟨v1,rfl,hE2,(by have h:=hL2_0.up o2; rwa [mix_all sM (by simp; omega)] at h)⟩)))))))))))
theorem c_laws_szInt64S (w:World) (va:Value) (a:List Int) (left:Int) (ha:Rd (rdL rI) w.heap va a) (_hleft:-9223372036854775808≤left∧left≤9223372036854775807) (hL:0≤left∧left≤1048576) :
  Calls Tryz.prog 108 #[va,.int .i64 left] w (fun e w'=>e = .returned (.int .i64 (szI a.length left))∧Ext w w'):=by
 refine calls_mk [va,.int .i64 left] 12 Tryz.func108 rfl rfl sM ?_
 have hE0:Ext w w:=Ext.refl w
 have hl_va:=ha.lenle
 refine wp_seq (wp_plain _ [0] rfl (lw_tvn 1 rfl (wp_seq (wp_plain _ [0,0,0,0,0] rfl (lw_tv 2 rfl (q_len (v:=va) u27 rfl ha.isSl zN ?_))))))
 refine q_sub (left - ((a.length :Nat):Int)) rfl rfl (w64 sD sD) zN (lw_tvn 1 rfl (wp_seq (wp_seq ?_)))
 refine wp_plain _ [0,0] rfl (lw_tv 1 rfl ?_)
 by_cases hc1:left - ((a.length :Nat):Int) < ((0 :Nat):Int)
 ·
  exact q_lss true rfl rfl (decide_eq_true hc1) zN (lw_nil (c_cond_t rfl (wp_seq (wp_plain _ [0] rfl (lw_tvn 1 rfl (wp_ret (t_ret (post_ret [4] rfl (.int .i64 (-1)) rfl ⟨(ret_int (by unfold szI; rw [if_pos oM])),hE0⟩))))))))
 ·
  exact q_lss false rfl rfl (decide_eq_false hc1) zN (lw_nil (c_cond_f rfl (wp_skip (wp_seq (wp_plain _ [0,0] rfl (lw_tvn 2 rfl (wp_ret (post_ret [4] rfl (.int .i64 (left - ((a.length :Nat):Int))) rfl ⟨(ret_int (by unfold szI; rw [if_neg oM])),hE0⟩))))))))
theorem c_laws_szInt64SS (w:World) (va:Value) (a:List (List Int)) (left:Int) (ha:Rd (rdL (rdL rI)) w.heap va a) (_hleft:-9223372036854775808≤left∧left≤9223372036854775807) (hL:0≤left∧left≤1048576) :
  Calls Tryz.prog 41 #[va,.int .i64 left] w (fun e w'=>e = .returned (.int .i64 (szM a left))∧Ext w w'):=by
 refine calls_mk [va,.int .i64 left] 27 Tryz.func41 rfl rfl sM ?_
 have hE0:Ext w w:=Ext.refl w
 have hl_va:=ha.lenle
 refine wp_seq (wp_plain _ [0] rfl (lw_tvn 1 rfl (wp_seq (wp_plain _ [0,0,0,0,0] rfl (lw_tv 2 rfl (q_len (v:=va) u32 rfl ha.isSl zN ?_))))))
 refine q_sub (left - ((a.length :Nat):Int)) rfl rfl (w64 sD sD) zN (lw_tvn 1 rfl (wp_seq (wp_seq ?_)))
 refine wp_plain _ [0,0] rfl (lw_tv 1 rfl ?_)
 by_cases hc1:left - ((a.length :Nat):Int) < ((0 :Nat):Int)
 ·
  exact q_lss true rfl rfl (decide_eq_true hc1) zN (lw_nil (c_cond_t rfl (wp_seq (wp_plain _ [0] rfl (lw_tvn 1 rfl (wp_ret (t_ret (post_ret [4] rfl (.int .i64 (-1)) rfl ⟨(ret_int (by unfold szM; rw [if_pos oM])),hE0⟩))))))))
 ·
  refine q_lss false rfl rfl (decide_eq_false hc1) zN (lw_nil (c_cond_f rfl (wp_skip (wp_seq (wp_seq (wp_plain _ [0] rfl (lw_tvn 1 rfl (wp_block ?_))))))))
  refine c_loop (S:=Nat × Int) (fun (⟨k,l⟩:Nat × Int)=>([(1,(.int .i64 l)),(5,(.int .i64 ((k :Nat):Int))),(0,va)]:List (Nat × Value))) (fun (⟨k,l⟩:Nat × Int) (W:World)=>Ext w W∧k≤a.length∧(0≤l∧l≤1048576)∧szR (a.drop k) l = szM a left) (fun (⟨k,l⟩:Nat × Int)=>a.length - k) (0,(left - ((a.length :Nat):Int))) ⟨rfl,rfl,rfl,trivial⟩ ⟨hE0,sD,oM,(by unfold szM; rw [if_neg oM,List.drop_zero])⟩ ?_
  clear hE0
  rintro ⟨k,l⟩ ρ2 w2 ⟨hE2,hp2_0,hl,hz⟩
  have hzs2:w.heap.size≤w2.heap.size:=hE2.size
  refine wp_seq (wp_seq (wp_plain _ [0,0,0,0] rfl (lw_tv 2 rfl (q_len (v:=va) u32 rfl ha.isSl zN ?_))))
  by_cases hc3:((k :Nat):Int) < ((a.length :Nat):Int)
  ·
   refine q_lss true rfl rfl (decide_eq_true hc3) zN (lw_nil (c_cond_t rfl (wp_skip (wp_seq (wp_block (wp_seq (wp_plain _ [0,0,0,2,0,3,0] rfl (lw_tv 2 rfl (q_idx (v:=va) k u32 ti27 rfl rfl ha.isSl rfl sD zN ?_)))))))))
   obtain ⟨ue4,hl4,hd4⟩:=ha.get (k:=k) [] sD
   have hln4:=hd4.lenle
   refine q_load (p:=eptr va k 1) (.inr rfl) ue4 one27 rfl (ldH_ext hE2 hl4) zN (lw_tv 1 rfl (lw_call 108 [] [] [ue4,(.int .i64 l)] rfl rfl cf108 zN (c_laws_szInt64S _ _ _ _ (hd4.ext g1 hE2) oM (by exact hl)) ?_))
   rintro e5 w5 ⟨rfl,hX5⟩
   refine ⟨_,rfl,hX5,?_⟩
   have hzs5:=hX5.size
   have hE5:=hE2.trans hX5
   refine lw_tvn 1 rfl (wp_seq (wp_plain _ [0,0] rfl (lw_tv 1 rfl ?_)))
   by_cases hc6:szI (a.getD k []).length l < ((0 :Nat):Int)
   ·
    exact q_lss true rfl rfl (decide_eq_true hc6) zN (lw_nil (c_cond_t rfl (wp_seq (wp_plain _ [0] rfl (lw_tvn 1 rfl (wp_ret (b_ret (t_ret (t_ret (b_ret (t_ret (post_ret [4] rfl (.int .i64 (-1)) rfl ⟨(ret_int (by rw [← hz,szR_drop oM,if_pos oM])),hE5⟩))))))))))))
   ·
    refine q_lss false rfl rfl (decide_eq_false hc6) zN (lw_nil (c_cond_f rfl (wp_skip (wp_plain _ [0,0,0] rfl (lw_tv 1 rfl (q_add ((k + 1 :Nat):Int) rfl rfl (w64n oM sD) zN (lw_tvn 1 rfl ?_)))))))
    exact ⟨((k + 1),(szI (a.getD k []).length l)),_,rfl,⟨rfl,rfl,rfl,trivial⟩,⟨hE5,sD,(by have:=szI_le (n:=(a.getD k []).length) (l:=l) oM; omega),(by have h:=hz; rw [szR_drop oM,if_neg oM] at h; exact h)⟩,by first | omega | (dsimp only; omega)⟩
  ·
   exact q_lss false rfl rfl (decide_eq_false hc3) zN (lw_nil (c_cond_f rfl (wp_exit (t_exit (t_exit (c_exit_here (wp_seq (wp_plain _ [0,0] rfl (lw_tvn 2 rfl (wp_ret (post_ret [4] rfl (.int .i64 l) rfl ⟨(ret_int (by rw [← hz,List.drop_of_length_le oM]; rfl)),hE2⟩)))))))))))
end Go.Proofs.YtnokbaiemimhjaaGreat
namespace Go.Proofs.YtnokbaiemimhjaaGreat
open Go Go.RowKit
set_option linter.unusedVariables false
set_option linter.unusedSimpArgs false
set_option maxHeartbeats 4000000
set_option maxRecDepth 100000
attribute [local irreducible] LW
theorem c_spec_l01Scale (w:World) (va:Value) (a:List Int) (y:Int) (ha:Rd (rdL rI) w.heap va a) (_hy:-9223372036854775808≤y∧y≤9223372036854775807) (hla:a.length≤1000000000000) :
  Calls Tryz.prog 176 #[va,.int .i64 y] w (fun e w'=>∃ v0:Value,e = .returned (v0)∧Ext w w'∧Fr (owL rI 2) w.heap.size w'.heap.size w'.heap v0 (scl a y)):=by
 refine calls_mk [va,.int .i64 y] 24 Tryz.func176 rfl rfl sM ?_
 have hE0:Ext w w:=Ext.refl w
 have hl_va:=ha.lenle
 refine wp_seq (wp_plain _ [0] rfl (lw_tvn 1 rfl (wp_seq (wp_plain _ [3,0] rfl (r_nil (rI) good_rI u27 ti2 zN fun v1 w1 hX1 hz1 hO1=>?_)))))
 have hzs1:=hX1.size
 have hE1:=hE0.trans hX1
 refine lw_tvn 1 rfl (wp_seq (wp_seq (wp_plain _ [0] rfl (lw_tvn 1 rfl (wp_block ?_)))))
 refine c_loop (S:=Nat × Value) (fun (⟨k,vo⟩:Nat × Value)=>([(5,vo),(6,(.int .i64 ((k :Nat):Int))),(0,va),(1,(.int .i64 y))]:List (Nat × Value))) (fun (⟨k,vo⟩:Nat × Value) (W:World)=>Ext w W∧Fr (owL rI 2) w.heap.size W.heap.size W.heap vo ((a.take k).map (fun x=>md (x * y)))∧k≤a.length) (fun (⟨k,vo⟩:Nat × Value)=>a.length - k) (0,v1) ⟨rfl,rfl,rfl,rfl,trivial⟩ ⟨hE1,hO1.up o1,sD⟩ ?_
 clear hE0 hO1 hz1 hX1 hzs1 hE1
 rintro ⟨k,vo⟩ ρ2 w2 ⟨hE2,hL2_0,hp2_0⟩
 have hzs2:w.heap.size≤w2.heap.size:=hE2.size
 refine wp_seq (wp_seq (wp_plain _ [0,0,0,0] rfl (lw_tv 2 rfl (q_len (v:=va) u27 rfl ha.isSl zN ?_))))
 by_cases hc3:((k :Nat):Int) < ((a.length :Nat):Int)
 ·
  refine q_lss true rfl rfl (decide_eq_true hc3) zN (lw_nil (c_cond_t rfl (wp_skip (wp_seq (wp_block (wp_plain _ [0,0,0,0,2,0,0,3,4,0] rfl (lw_tv 3 rfl (q_idx (v:=va) k u27 ti2 rfl rfl ha.isSl rfl sD zN ?_))))))))
  refine q_load (p:=eptr va k 1) (.inr rfl) (.int .i64 (a.getD k 0)) one2 rfl (ldH_ext hE2 (ha.getI sD).1) zN (lw_tv 1 rfl ?_)
  refine lw_callq 76 [] [] [(.int .i64 (a.getD k 0)),(.int .i64 y)] rfl rfl cf76 zN (.int .i64 (md ((a.getD k 0) * y))) (fun wq=>c_spec_Times wq _ _ (ha.getI sD).2 _hy) (r_one (u:=(.int .i64 (md ((a.getD k 0) * y)))) (B:=w2.heap.size) good_rI u27 ti2 rfl rfl (frI w2.heap.size w2.heap.size _ _ (md_rng _)) (Nat.le_refl _) zN fun v5 w5 hX5 hz5 hO5=>?_)
  have hzs5:=hX5.size
  have hE5:=hE2.trans hX5
  have hL2_0x5:=hL2_0.ext (o1) hX5
  refine e_appI (v:=vo) (a:=v5) u27 ti2 rfl rfl rfl hL2_0x5 hE5.size hO5.rd1 sD (by unfold maxLen; first | omega | assumption | (simp; done) | (simp; omega)) zN fun v6 w6 F6 hC6 hF6 hO6=>?_
  have hE6:Ext w w6:=hC6.below hE5 (fun c hc=>Nat.le_trans (Nat.le_refl _) (hF6 c hc).1) hE5.size
  have hzs6:=hC6.size
  have hF7:=hO5.chg (o1) hC6 (fun c hc=>by have:=hF6 c hc; omega)
  refine lw_tvn 1 rfl (wp_plain _ [0,0,0] rfl (lw_tv 1 rfl (q_add ((k + 1 :Nat):Int) rfl rfl (w64n oM sD) zN (lw_tvn 1 rfl ?_))))
  exact ⟨((k + 1),v6),_,rfl,⟨rfl,rfl,rfl,rfl,trivial⟩,⟨hE6,(by rw [map_snoc 0 oM]; exact hO6.up o1),sD⟩,by first | omega | (dsimp only; omega)⟩
 ·
  exact q_lss false rfl rfl (decide_eq_false hc3) zN (lw_nil (c_cond_f rfl (wp_exit (t_exit (t_exit (c_exit_here (wp_seq (wp_plain _ [0,0] rfl (lw_tvn 2 rfl (wp_ret (post_ret [4] rfl vo rfl ⟨vo,rfl,hE2,(by have h:=hL2_0.up o1; rwa [List.take_of_length_le oM] at h)⟩)))))))))))
end Go.Proofs.YtnokbaiemimhjaaGreat
namespace Go.Proofs.YtnokbaiemimhjaaGreat
open Go Go.RowKit
set_option linter.unusedVariables false
set_option linter.unusedSimpArgs false
set_option maxHeartbeats 4000000
set_option maxRecDepth 100000
attribute [local irreducible] LW
theorem c_impl_scaled (w:World) (va:Value) (a:List Int) (y:Int) (ha:Rd (rdL rI) w.heap va a) (_hy:-9223372036854775808≤y∧y≤9223372036854775807) (hla:a.length≤1000000000000) (hqa:allN a = true) (hy:0≤y∧y < 1000003) :
  Calls Tryz.prog 103 #[va,.int .i64 y] w (fun e w'=>∃ v0:Value,e = .returned (v0)∧Ext w w'∧Fr (owL rI 2) w.heap.size w'.heap.size w'.heap v0 (sclS a y)):=by
 refine calls_mk [va,.int .i64 y] 27 Tryz.func103 rfl rfl sM ?_
 have hE0:Ext w w:=Ext.refl w
 have hl_va:=ha.lenle
 refine wp_seq (wp_plain _ [0] rfl (lw_tvn 1 rfl (wp_seq (wp_plain _ [0,0,3,0] rfl (lw_tv 1 rfl (q_len (v:=va) u27 rfl ha.isSl zN (r_make (n:=a.length) u27 ti2 rfl rfl rfl sD zN fun v1 w1 hX1 hz1 hO1=>?_)))))))
 have hzs1:=hX1.size
 have hE1:=hE0.trans hX1
 refine lw_tvn 1 rfl (wp_seq (wp_seq (wp_plain _ [0,0,0] rfl (lw_tv 1 rfl (q_len (v:=va) u27 rfl ha.isSl zN (lw_tvn 1 rfl (wp_block ?_)))))))
 refine c_loop (S:=Nat) (fun (k:Nat)=>([(12,(.int .i64 ((k :Nat):Int))),(0,va),(1,(.int .i64 y)),(5,v1),(11,(.int .i64 ((a.length :Nat):Int)))]:List (Nat × Value))) (fun (k:Nat) (W:World)=>Ext w W∧Fr (owL rI 2) w.heap.size W.heap.size W.heap v1 (mix k (sclS a y) (List.replicate a.length 0))∧k≤a.length) (fun (k:Nat)=>a.length - k) 0 ⟨rfl,rfl,rfl,rfl,rfl,trivial⟩ ⟨hE1,(by rw [mix_zero]; exact hO1.up o1),sD⟩ ?_
 clear hE0 hO1 hz1 hX1 hzs1 hE1
 rintro k ρ2 w2 ⟨hE2,hL2_0,hp2_0⟩
 have hzs2:w.heap.size≤w2.heap.size:=hE2.size
 have hml:=mix_len k (sclS a y) (List.replicate a.length 0) sM
 rw [List.length_replicate] at hml
 have hga:=allN_get hqa k
 refine wp_seq (wp_plain _ [0] rfl ?_)
 by_cases hc3:((k :Nat):Int) < ((a.length :Nat):Int)
 ·
  refine q_lss true rfl rfl (decide_eq_true hc3) zN (lw_nil (wp_seq (c_cond_t rfl (wp_skip (wp_seq (wp_block (wp_seq (wp_plain _ [0,0] rfl (lw_tvn 2 rfl (wp_plain _ [0,0,0,0,0,2,0,0,0,0,4] rfl (lw_tv 4 rfl (q_idx (v:=va) k u27 ti2 rfl rfl ha.isSl rfl sD zN ?_))))))))))))
  refine q_load (p:=eptr va k 1) (.inr rfl) (.int .i64 (a.getD k 0)) one2 rfl (ldH_ext hE2 (ha.getI sD).1) zN (lw_tv 1 rfl (q_mul (wr ((a.getD k 0) * y)) rfl rfl rfl zN (q_rem (md (a.getD k 0 * y)) rfl rfl (by decide) (nm_eq hga hy) zN ?_)))
  refine q_idx (v:=v1) k u27 ti2 rfl rfl hL2_0.isSl rfl sD zN (e_setI (v:=v1) (w:=w2) sz2 rfl rfl (md_rng _) hL2_0 sD zN fun w4 F4 hC4 hz4 hF4 hO4=>?_)
  have hE4:Ext w w4:=hC4.below hE2 (fun c hc=>Nat.le_trans (Nat.le_refl _) (hF4 c hc).1) hE2.size
  have hzs4:=hC4.size
  refine lw_nil (wp_plain _ [0,0] rfl (q_add ((k + 1 :Nat):Int) rfl rfl (w64n oM sD) zN (lw_tvn 1 rfl ?_)))
  exact ⟨(k + 1),_,rfl,⟨rfl,rfl,rfl,rfl,rfl,trivial⟩,⟨hE4,(by unfold sclS; rw [mix_tab sM oM]; exact hO4.up o1),sD⟩,by first | omega | (dsimp only; omega)⟩
 ·
  exact q_lss false rfl rfl (decide_eq_false hc3) zN (lw_nil (wp_seq (c_cond_f rfl (wp_exit (t_exit (t_exit (c_exit_here (wp_seq (wp_plain _ [0,0] rfl (lw_tvn 2 rfl (wp_ret (post_ret [4] rfl v1 rfl ⟨v1,rfl,hE2,(by have h:=hL2_0.up o1; rwa [mix_all sM (by simp; omega)] at h)⟩))))))))))))
theorem c_impl_added (w:World) (va:Value) (a:List Int) (vb:Value) (b:List Int) (ha:Rd (rdL rI) w.heap va a) (hb:Rd (rdL rI) w.heap vb b) (hla:a.length≤1000000000000) (hl:a.length≤b.length) (hqa:allN a = true) (hqb:allN b = true) :
  Calls Tryz.prog 102 #[va,vb] w (fun e w'=>∃ v0:Value,e = .returned (v0)∧Ext w w'∧Fr (owL rI 2) w.heap.size w'.heap.size w'.heap v0 (addS a b)):=by
 refine calls_mk [va,vb] 30 Tryz.func102 rfl rfl sM ?_
 have hE0:Ext w w:=Ext.refl w
 have hl_va:=ha.lenle
 have hl_vb:=hb.lenle
 refine wp_seq (wp_plain _ [0] rfl (lw_tvn 1 rfl (wp_seq (wp_plain _ [0,0,3,0] rfl (lw_tv 1 rfl (q_len (v:=va) u27 rfl ha.isSl zN (r_make (n:=a.length) u27 ti2 rfl rfl rfl sD zN fun v1 w1 hX1 hz1 hO1=>?_)))))))
 have hzs1:=hX1.size
 have hE1:=hE0.trans hX1
 refine lw_tvn 1 rfl (wp_seq (wp_seq (wp_plain _ [0,0,0] rfl (lw_tv 1 rfl (q_len (v:=va) u27 rfl ha.isSl zN (lw_tvn 1 rfl (wp_block ?_)))))))
 refine c_loop (S:=Nat) (fun (k:Nat)=>([(12,(.int .i64 ((k :Nat):Int))),(0,va),(1,vb),(5,v1),(11,(.int .i64 ((a.length :Nat):Int)))]:List (Nat × Value))) (fun (k:Nat) (W:World)=>Ext w W∧Fr (owL rI 2) w.heap.size W.heap.size W.heap v1 (mix k (addS a b) (List.replicate a.length 0))∧k≤a.length) (fun (k:Nat)=>a.length - k) 0 ⟨rfl,rfl,rfl,rfl,rfl,trivial⟩ ⟨hE1,(by rw [mix_zero]; exact hO1.up o1),sD⟩ ?_
 clear hE0 hO1 hz1 hX1 hzs1 hE1
 rintro k ρ2 w2 ⟨hE2,hL2_0,hp2_0⟩
 have hzs2:w.heap.size≤w2.heap.size:=hE2.size
 have hml:=mix_len k (addS a b) (List.replicate a.length 0) sM
 rw [List.length_replicate] at hml
 have hga:=allN_get hqa k
 have hgb:=allN_get hqb k
 refine wp_seq (wp_plain _ [0] rfl ?_)
 by_cases hc3:((k :Nat):Int) < ((a.length :Nat):Int)
 ·
  refine q_lss true rfl rfl (decide_eq_true hc3) zN (lw_nil (wp_seq (c_cond_t rfl (wp_skip (wp_seq (wp_block (wp_seq (wp_plain _ [0,0] rfl (lw_tvn 2 rfl (wp_draw _ [0,0,0,0,0,1,0,0,0,1,0,0,0,4] mixed (by kernel_rfl) (lw_tv 4 rfl (q_idx (v:=va) k u27 ti2 rfl rfl ha.isSl rfl sD zN ?_))))))))))))
  refine q_load (p:=eptr va k 1) (.inl rfl) (.int .i64 (a.getD k 0)) one2 rfl (ldH_ext hE2.drew (ha.getI sD).1) zN (lw_tv 2 rfl ?_)
  refine q_idx (v:=vb) k u27 ti2 rfl rfl hb.isSl rfl sD zN ?_
  refine q_load (p:=eptr vb k 1) (.inl rfl) (.int .i64 (b.getD k 0)) one2 rfl (ldH_ext hE2.drew (hb.getI sD).1) zN (q_add (wr ((a.getD k 0) + (b.getD k 0))) rfl rfl rfl zN (q_rem (md (a.getD k 0 + b.getD k 0)) rfl rfl (by decide) (nadd_eq hga hgb) zN ?_))
  refine q_idx (v:=v1) k u27 ti2 rfl rfl hL2_0.isSl rfl sD zN (e_setI (v:=v1) (w:=w2.drew) sz2 rfl rfl (md_rng _) hL2_0 sD zN fun w4 F4 hC4 hz4 hF4 hO4=>?_)
  replace hC4:=hC4.of_drew
  have hE4:Ext w w4:=hC4.below hE2 (fun c hc=>Nat.le_trans (Nat.le_refl _) (hF4 c hc).1) hE2.size
  have hzs4:=hC4.size
  refine lw_nil (wp_plain _ [0,0] rfl (q_add ((k + 1 :Nat):Int) rfl rfl (w64n oM sD) zN (lw_tvn 1 rfl ?_)))
  exact ⟨(k + 1),_,rfl,⟨rfl,rfl,rfl,rfl,rfl,trivial⟩,⟨hE4,(by unfold addS; rw [mix_tab sM oM]; exact hO4.up o1),sD⟩,by first | omega | (dsimp only; omega)⟩
 ·
  exact q_lss false rfl rfl (decide_eq_false hc3) zN (lw_nil (wp_seq (c_cond_f rfl (wp_exit (t_exit (t_exit (c_exit_here (wp_seq (wp_plain _ [0,0] rfl (lw_tvn 2 rfl (wp_ret (post_ret [4] rfl v1 rfl ⟨v1,rfl,hE2,(by have h:=hL2_0.up o1; rwa [mix_all sM (by simp; omega)] at h)⟩))))))))))))
theorem c_impl_reduced (w:World) (va:Value) (a:List Int) (vb:Value) (b:List Int) (ha:Rd (rdL rI) w.heap va a) (hb:Rd (rdL rI) w.heap vb b) (hla:a.length≤1000000000000) (hlb:b.length≤1000000000000) (hl:a.length≤b.length) (hqa:allN a = true) (hqb:allN b = true) :
  Calls Tryz.prog 132 #[va,vb] w (fun e w'=>∃ v0:Value,e = .returned (v0)∧Ext w w'∧Fr (owL rI 2) w.heap.size w'.heap.size w'.heap v0 (redS a b)):=by
 refine calls_mk [va,vb] 9 Tryz.func132 rfl rfl sM ?_
 have hE0:Ext w w:=Ext.refl w
 have hl_va:=ha.lenle
 have hl_vb:=hb.lenle
 refine wp_seq (wp_plain _ [0] rfl (lw_tvn 1 rfl (wp_seq (wp_plain _ [0,0,3,3,0] rfl (lw_tv 2 rfl (lw_call 103 [] [] [vb,(.int .i64 ((1000002 :Nat):Int))] rfl rfl cf103 zN (c_impl_scaled _ _ _ _ (hb.ext g1 hE0) oM (by exact hlb) (by exact hqb) oM) ?_))))))
 rintro e1 w1 ⟨v1_0,rfl,hX1,hO1_0⟩
 refine ⟨_,rfl,hX1,?_⟩
 have hzs1:=hX1.size
 have hE1:=hE0.trans hX1
 refine lw_call 102 [] [] [va,v1_0] rfl rfl cf102 zN (c_impl_added _ _ _ _ _ (ha.ext g1 hE1) hO1_0.rd1 (by exact hla) (by simp; omega) (by exact hqa) (by exact sclS_num _ _)) ?_
 rintro e2 w2 ⟨v2_0,rfl,hX2,hO2_0⟩
 refine ⟨_,rfl,hX2,?_⟩
 have hzs2:=hX2.size
 have hE2:=hE1.trans hX2
 have hO1_0x2:=hO1_0.ext (o1) hX2
 exact lw_tvn 1 rfl (wp_ret (post_ret [4] rfl v2_0 rfl ⟨v2_0,rfl,hE2,(by rw [← red_eq hl]; exact (hO2_0.up o1).low hE1.size)⟩))
theorem c_impl_product (w:World) (va:Value) (a:List Int) (vb:Value) (b:List Int) (ha:Rd (rdL rI) w.heap va a) (hb:Rd (rdL rI) w.heap vb b) (hla:a.length≤1000000000000) (hl:a.length≤b.length) (hqa:allN a = true) (hqb:allN b = true) :
  Calls Tryz.prog 151 #[va,vb] w (fun e w'=>∃ v0:Value,e = .returned (v0)∧Ext w w'∧Fr (owL rI 2) w.heap.size w'.heap.size w'.heap v0 (proS a b)):=by
 refine calls_mk [va,vb] 43 Tryz.func151 rfl rfl sM ?_
 have hE0:Ext w w:=Ext.refl w
 have hl_va:=ha.lenle
 have hl_vb:=hb.lenle
 refine wp_seq (wp_plain _ [0] rfl (lw_tvn 1 rfl (wp_seq (wp_plain _ [0,0,3,0] rfl (lw_tv 1 rfl (q_len (v:=va) u27 rfl ha.isSl zN (r_make (n:=a.length) u27 ti2 rfl rfl rfl sD zN fun v1 w1 hX1 hz1 hO1=>?_)))))))
 have hzs1:=hX1.size
 have hE1:=hE0.trans hX1
 refine lw_tvn 1 rfl (wp_seq (wp_seq (wp_plain _ [0,0,0] rfl (lw_tv 1 rfl (q_len (v:=va) u27 rfl ha.isSl zN (lw_tvn 1 rfl (wp_block ?_)))))))
 refine c_loop (S:=Nat) (fun (k:Nat)=>([(13,(.int .i64 ((k :Nat):Int))),(0,va),(1,vb),(5,v1),(12,(.int .i64 ((a.length :Nat):Int)))]:List (Nat × Value))) (fun (k:Nat) (W:World)=>Ext w W∧Fr (owL rI 2) w.heap.size W.heap.size W.heap v1 (mix k (proS a b) (List.replicate a.length 0))∧k≤a.length) (fun (k:Nat)=>a.length - k) 0 ⟨rfl,rfl,rfl,rfl,rfl,trivial⟩ ⟨hE1,(by rw [mix_zero]; exact hO1.up o1),sD⟩ ?_
 clear hE0 hO1 hz1 hX1 hzs1 hE1
 rintro k ρ2 w2 ⟨hE2,hL2_0,hp2_0⟩
 have hzs2:w.heap.size≤w2.heap.size:=hE2.size
 have hml:=mix_len k (proS a b) (List.replicate a.length 0) sM
 rw [List.length_replicate] at hml
 have hga:=allN_get hqa k
 refine wp_seq (wp_plain _ [0] rfl ?_)
 by_cases hc3:((k :Nat):Int) < ((a.length :Nat):Int)
 ·
  refine q_lss true rfl rfl (decide_eq_true hc3) zN (lw_nil (wp_seq (c_cond_t rfl (wp_skip (wp_seq (wp_block (wp_seq (wp_plain _ [0,0] rfl (lw_tvn 2 rfl (wp_seq (wp_plain _ [0] rfl (lw_tvn 1 rfl (wp_block ?_)))))))))))))
  refine c_loop (S:=Nat) (fun (i:Nat)=>([(7,(.int .i64 ((i :Nat):Int))),(0,va),(1,vb),(5,v1),(6,(.int .i64 ((k :Nat):Int))),(12,(.int .i64 ((a.length :Nat):Int))),(13,(.int .i64 ((k :Nat):Int)))]:List (Nat × Value))) (fun (i:Nat) (W:World)=>Ext w W∧Fr (owL rI 2) w.heap.size W.heap.size W.heap v1 ((mix k (proS a b) (List.replicate a.length 0)).set k (prk a b k i))∧i≤k + 1) (fun (i:Nat)=>k + 1 - i) 0 ⟨rfl,rfl,rfl,rfl,rfl,rfl,rfl,trivial⟩ ⟨hE2,(by have h:=hL2_0.up o1; rw [← mix_rep0 (T:=proS a b) sM oM] at h; exact h),sD⟩ ?_
  clear hL2_0 hE2 hzs2
  rintro i ρ4 w4 ⟨hE4,hL4_0,hp4_0⟩
  have hzs4:w.heap.size≤w4.heap.size:=hE4.size
  have hms:((mix k (proS a b) (List.replicate a.length 0)).set k (prk a b k i)).length = a.length:=by rw [List.length_set]; exact hml
  refine wp_seq (wp_seq (wp_plain _ [0,0,0] rfl (lw_tv 2 rfl ?_)))
  by_cases hc5:((i :Nat):Int)≤((k :Nat):Int)
  ·
   refine q_leq true rfl rfl (decide_eq_true hc5) zN (lw_nil (c_cond_t rfl (wp_skip (wp_seq (wp_block (wp_draw _ [0,0,0,0,0,1,0,0,0,1,0,0,0,0,0,1,0,0,0,0,4] mixed (by kernel_rfl) (lw_tv 4 rfl (q_idx (v:=v1) k u27 ti2 rfl rfl hL4_0.isSl rfl sD zN ?_))))))))
   refine q_load (p:=eptr v1 k 1) (.inl rfl) (.int .i64 (((mix k (proS a b) (List.replicate a.length 0)).set k (prk a b k i)).getD k 0)) one2 rfl (hL4_0.rd1.getI sD).1 zN (lw_tv 2 rfl ?_)
   refine q_idx (v:=va) i u27 ti2 rfl rfl ha.isSl rfl sD zN ?_
   refine q_load (p:=eptr va i 1) (.inl rfl) (.int .i64 (a.getD i 0)) one2 rfl (ldH_ext hE4.drew (ha.getI sD).1) zN (lw_tv 3 rfl (q_sub ((k - i :Nat):Int) rfl rfl (w64n oM oM) zN ?_))
   refine q_idx (v:=vb) (k - i) u27 ti2 rfl rfl hb.isSl rfl sD zN ?_
   refine q_load (p:=eptr vb (k - i) 1) (.inl rfl) (.int .i64 (b.getD (k - i) 0)) one2 rfl (ldH_ext hE4.drew (hb.getI sD).1) zN (q_mul (wr ((a.getD i 0) * (b.getD (k - i) 0))) rfl rfl rfl zN (q_add (wr ((((mix k (proS a b) (List.replicate a.length 0)).set k (prk a b k i)).getD k 0) + (wr ((a.getD i 0) * (b.getD (k - i) 0))))) rfl rfl rfl zN ?_))
   refine q_rem (md (prk a b k i + a.getD i 0 * b.getD (k - i) 0)) rfl rfl (by decide) (by rw [getD_set _ _ _ _ _ oM,if_pos rfl]; exact dot_eq (prk_num _ _ _ _) (allN_get hqa _) (allN_get hqb _)) zN (q_idx (v:=v1) k u27 ti2 rfl rfl hL4_0.isSl rfl sD zN ?_)
   refine e_setI (v:=v1) (w:=w4.drew) sz2 rfl rfl (md_rng _) hL4_0 sD zN fun w6 F6 hC6 hz6 hF6 hO6=>?_
   replace hC6:=hC6.of_drew
   have hE6:Ext w w6:=hC6.below hE4 (fun c hc=>Nat.le_trans (Nat.le_refl _) (hF6 c hc).1) hE4.size
   have hzs6:=hC6.size
   refine lw_nil (wp_plain _ [0,0,0] rfl (lw_tv 1 rfl (q_add ((i + 1 :Nat):Int) rfl rfl (w64n oM sD) zN (lw_tvn 1 rfl ?_))))
   exact ⟨(i + 1),_,rfl,⟨rfl,rfl,rfl,rfl,rfl,rfl,rfl,trivial⟩,⟨hE6,(by have h:=hO6.up o1; rw [List.set_set] at h; exact h),sD⟩,by first | omega | (dsimp only; omega)⟩
  ·
   refine q_leq false rfl rfl (decide_eq_false hc5) zN (lw_nil (c_cond_f rfl (wp_exit (t_exit (t_exit (c_exit_here (wp_plain _ [0,0] rfl (q_add ((k + 1 :Nat):Int) rfl rfl (w64n oM sD) zN (lw_tvn 1 rfl ?_)))))))))
   exact ⟨(k + 1),_,rfl,⟨rfl,rfl,rfl,rfl,rfl,trivial⟩,⟨hE4,(by have h:=hL4_0.up o1; rw [show i = k + 1 from by omega] at h; unfold proS; rw [mix_tab sM oM]; exact h),sD⟩,by first | omega | (dsimp only; omega)⟩
 ·
  exact q_lss false rfl rfl (decide_eq_false hc3) zN (lw_nil (wp_seq (c_cond_f rfl (wp_exit (t_exit (t_exit (c_exit_here (wp_seq (wp_plain _ [0,0] rfl (lw_tvn 2 rfl (wp_ret (post_ret [4] rfl v1 rfl ⟨v1,rfl,hE2,(by have h:=hL2_0.up o1; rwa [mix_all sM (by simp; omega)] at h)⟩))))))))))))
theorem c_impl_quotient (w:World) (va:Value) (a:List Int) (vb:Value) (b:List Int) (ha:Rd (rdL rI) w.heap va a) (hb:Rd (rdL rI) w.heap vb b) (hla:a.length≤1000000000000) (hl:a.length≤b.length) (h1:0 < b.length) (hqa:allN a = true) (hqb:allN b = true) :
  Calls Tryz.prog 185 #[va,vb] w (fun e w'=>∃ v0:Value,e = .returned (v0)∧Ext w w'∧Fr (owL rI 2) w.heap.size w'.heap.size w'.heap v0 (quoS a b)):=by
 refine calls_mk [va,vb] 53 Tryz.func185 rfl rfl sM ?_
 have hE0:Ext w w:=Ext.refl w
 have hl_va:=ha.lenle
 have hl_vb:=hb.lenle
 refine wp_seq (wp_plain _ [0] rfl (lw_tvn 1 rfl (wp_seq (wp_draw _ [0,0,3,0,0,1,0,0,0] mixed (by kernel_rfl) (lw_tv 1 rfl (q_len (v:=va) u27 rfl ha.isSl zN (r_make (n:=a.length) u27 ti2 rfl rfl rfl sD zN fun v1 w1 hX1 hz1 hO1=>?_)))))))
 replace hX1:=hX1.of_drew
 have hzs1:=hX1.size
 have hE1:=hE0.trans hX1
 refine lw_tv 1 rfl (q_idx (v:=vb) 0 u27 ti2 rfl rfl hb.isSl rfl sD zN ?_)
 refine q_load (p:=eptr vb 0 1) (.inl rfl) (.int .i64 (b.getD 0 0)) one2 rfl (ldH_ext hE0.drew (hb.getI sD).1) zN ?_
 refine lw_callq 104 [] [] [(.int .i64 (b.getD 0 0))] rfl rfl cf104 zN (.int .i64 (inv (b.getD 0 0))) (fun wq=>c_impl_inverse wq _ (hb.getI sD).2) (lw_tvn 2 rfl (wp_seq (wp_seq (wp_plain _ [0,0,0] rfl (lw_tv 1 rfl (q_len (v:=va) u27 rfl ha.isSl zN (lw_tvn 1 rfl (wp_block ?_))))))))
 refine c_loop (S:=Nat) (fun (k:Nat)=>([(19,(.int .i64 ((k :Nat):Int))),(0,va),(1,vb),(5,v1),(6,(.int .i64 (inv (b.getD 0 0)))),(18,(.int .i64 ((a.length :Nat):Int)))]:List (Nat × Value))) (fun (k:Nat) (W:World)=>Ext w W∧Fr (owL rI 2) w.heap.size W.heap.size W.heap v1 (mix k (quoS a b) (List.replicate a.length 0))∧k≤a.length) (fun (k:Nat)=>a.length - k) 0 ⟨rfl,rfl,rfl,rfl,rfl,rfl,trivial⟩ ⟨hE1,(by rw [mix_zero]; exact hO1.up o1),sD⟩ ?_
 clear hE0 hO1 hz1 hX1 hzs1 hE1
 rintro k ρ3 w3 ⟨hE3,hL3_0,hp3_0⟩
 have hzs3:w.heap.size≤w3.heap.size:=hE3.size
 have hml:=mix_len k (quoS a b) (List.replicate a.length 0) sM
 rw [List.length_replicate] at hml
 have hga:=allN_get hqa k
 refine wp_seq (wp_plain _ [0] rfl ?_)
 by_cases hc4:((k :Nat):Int) < ((a.length :Nat):Int)
 ·
  refine q_lss true rfl rfl (decide_eq_true hc4) zN (lw_nil (wp_seq (c_cond_t rfl (wp_skip (wp_seq (wp_block (wp_seq (wp_plain _ [0,0] rfl (lw_tvn 2 rfl (wp_seq (wp_plain _ [0,0,0,2,0] rfl (lw_tv 2 rfl (q_idx (v:=va) k u27 ti2 rfl rfl ha.isSl rfl sD zN ?_)))))))))))))
  refine q_load (p:=eptr va k 1) (.inr rfl) (.int .i64 (a.getD k 0)) one2 rfl (ldH_ext hE3 (ha.getI sD).1) zN (lw_tvn 1 rfl (wp_seq (wp_seq (wp_plain _ [0] rfl (lw_tvn 1 rfl (wp_block ?_))))))
  refine c_loop (S:=Nat × Int) (fun (⟨i,t⟩:Nat × Int)=>([(8,(.int .i64 t)),(9,(.int .i64 ((i :Nat):Int))),(0,va),(1,vb),(5,v1),(6,(.int .i64 (inv (b.getD 0 0)))),(7,(.int .i64 ((k :Nat):Int))),(18,(.int .i64 ((a.length :Nat):Int))),(19,(.int .i64 ((k :Nat):Int)))]:List (Nat × Value))) (fun (⟨i,t⟩:Nat × Int) (W:World)=>Ext w W∧Fr (owL rI 2) w.heap.size w3.heap.size W.heap v1 (mix k (quoS a b) (List.replicate a.length 0))∧i≤k∧t = qrk a b (quoS a b) k i∧(0≤t∧t < 1000003)) (fun (⟨i,t⟩:Nat × Int)=>k - i) (0,(a.getD k 0)) ⟨rfl,rfl,rfl,rfl,rfl,rfl,rfl,rfl,rfl,trivial⟩ ⟨hE3,hL3_0,sD,(by rfl),(by exact allN_get hqa k)⟩ ?_
  clear hL3_0
  rintro ⟨i,t⟩ ρ5 w5 ⟨hE5,hL5_0,hp5_0,ht,htr⟩
  have hzs5:w.heap.size≤w5.heap.size:=hE5.size
  refine wp_seq (wp_seq (wp_plain _ [0,0,0] rfl (lw_tv 2 rfl ?_)))
  by_cases hc6:((i :Nat):Int) < ((k :Nat):Int)
  ·
   refine q_lss true rfl rfl (decide_eq_true hc6) zN (lw_nil (c_cond_t rfl (wp_skip (wp_seq (wp_block (wp_draw _ [0,0,0,0,1,0,0,0,0,0,1,0,0,0] mixed (by kernel_rfl) (lw_tv 3 rfl (q_idx (v:=v1) i u27 ti2 rfl rfl hL5_0.isSl rfl sD zN ?_))))))))
   refine q_load (p:=eptr v1 i 1) (.inl rfl) (.int .i64 ((mix k (quoS a b) (List.replicate a.length 0)).getD i 0)) one2 rfl (hL5_0.rd1.getI sD).1 zN (lw_tv 3 rfl (q_sub ((k - i :Nat):Int) rfl rfl (w64n oM oM) zN ?_))
   refine q_idx (v:=vb) (k - i) u27 ti2 rfl rfl hb.isSl rfl sD zN ?_
   refine q_load (p:=eptr vb (k - i) 1) (.inl rfl) (.int .i64 (b.getD (k - i) 0)) one2 rfl (ldH_ext hE5.drew (hb.getI sD).1) zN (q_mul (wr (((mix k (quoS a b) (List.replicate a.length 0)).getD i 0) * (b.getD (k - i) 0))) rfl rfl rfl zN ?_)
   refine lw_callq 78 [] [] [(.int .i64 t),(.int .i64 (wr (((mix k (quoS a b) (List.replicate a.length 0)).getD i 0) * (b.getD (k - i) 0))))] rfl rfl cf78 zN (.int .i64 (md (t - (wr (((mix k (quoS a b) (List.replicate a.length 0)).getD i 0) * (b.getD (k - i) 0)))))) (fun wq=>c_impl_minus wq _ _ oM (wr_rng _)) (lw_tvn 1 rfl (wp_plain _ [0,0,0] rfl (lw_tv 1 rfl (q_add ((i + 1 :Nat):Int) rfl rfl (w64n oM sD) zN (lw_tvn 1 rfl ?_)))))
   exact ⟨((i + 1),(md (t - (wr (((mix k (quoS a b) (List.replicate a.length 0)).getD i 0) * (b.getD (k - i) 0)))))),_,rfl,⟨rfl,rfl,rfl,rfl,rfl,rfl,rfl,rfl,rfl,trivial⟩,⟨hE5.drew,hL5_0,sD,(by rw [ht,mix_lt 0 oM (by simp; omega)]; exact quo_step (quoS_num a b) hqb),(by exact md_num _)⟩,by first | omega | (dsimp only; omega)⟩
  ·
   refine q_lss false rfl rfl (decide_eq_false hc6) zN (lw_nil (c_cond_f rfl (wp_exit (t_exit (t_exit (c_exit_here (wp_plain _ [0,0,0,0,0,0,0,4] rfl (lw_tv 4 rfl (q_mul (wr (t * (inv (b.getD 0 0)))) rfl rfl rfl zN (q_rem (md (t * inv (b.getD 0 0))) rfl rfl (by decide) (nm_eq htr (inv_num _)) zN (q_idx (v:=v1) k u27 ti2 rfl rfl hL5_0.isSl rfl sD zN ?_)))))))))))
   refine e_setI (v:=v1) (w:=w5) sz2 rfl rfl (md_rng _) hL5_0 sD zN fun w8 F8 hC8 hz8 hF8 hO8=>?_
   have hE8:Ext w w8:=hC8.below hE5 (fun c hc=>Nat.le_trans (Nat.le_refl _) (hF8 c hc).1) hE5.size
   have hzs8:=hC8.size
   refine lw_nil (wp_plain _ [0,0] rfl (q_add ((k + 1 :Nat):Int) rfl rfl (w64n oM sD) zN (lw_tvn 1 rfl ?_)))
   exact ⟨(k + 1),_,rfl,⟨rfl,rfl,rfl,rfl,rfl,rfl,trivial⟩,⟨hE8,(by have h:=hO8.up o1; rw [ht,show i = k from by omega] at h; rw [← quo_set oM sM]; exact h),sD⟩,by first | omega | (dsimp only; omega)⟩
 ·
  exact q_lss false rfl rfl (decide_eq_false hc4) zN (lw_nil (wp_seq (c_cond_f rfl (wp_exit (t_exit (t_exit (c_exit_here (wp_seq (wp_plain _ [0,0] rfl (lw_tvn 2 rfl (wp_ret (post_ret [4] rfl v1 rfl ⟨v1,rfl,hE3,(by have h:=hL3_0.up o1; rwa [mix_all sM (by simp; omega)] at h)⟩))))))))))))
theorem c_impl_firsts (w:World) (va:Value) (a:List (List Int)) (ha:Rd (rdL (rdL rI)) w.heap va a) (hla:a.length≤1000000000000) (h1:∀ k,k < a.length→0 < (a.getD k []).length) :
  Calls Tryz.prog 99 #[va] w (fun e w'=>∃ v0:Value,e = .returned (v0)∧Ext w w'∧Fr (owL rI 2) w.heap.size w'.heap.size w'.heap v0 (a.map (fun s=>s.getD 0 0))):=by
 refine calls_mk [va] 21 Tryz.func99 rfl rfl sM ?_
 have hE0:Ext w w:=Ext.refl w
 have hl_va:=ha.lenle
 refine wp_seq (wp_plain _ [0] rfl (lw_tvn 1 rfl (wp_seq (wp_plain _ [3,0] rfl (r_nil (rI) good_rI u27 ti2 zN fun v1 w1 hX1 hz1 hO1=>?_)))))
 have hzs1:=hX1.size
 have hE1:=hE0.trans hX1
 refine lw_tvn 1 rfl (wp_seq (wp_seq (wp_plain _ [0,0,0] rfl (lw_tv 1 rfl (q_len (v:=va) u32 rfl ha.isSl zN (lw_tvn 1 rfl (wp_block ?_)))))))
 refine c_loop (S:=Nat × Value) (fun (⟨k,vo⟩:Nat × Value)=>([(3,vo),(9,(.int .i64 ((k :Nat):Int))),(7,va),(8,(.int .i64 ((a.length :Nat):Int)))]:List (Nat × Value))) (fun (⟨k,vo⟩:Nat × Value) (W:World)=>Ext w W∧Fr (owL rI 2) w.heap.size W.heap.size W.heap vo ((a.take k).map (fun s=>s.getD 0 0))∧k≤a.length) (fun (⟨k,vo⟩:Nat × Value)=>a.length - k) (0,v1) ⟨rfl,rfl,rfl,rfl,trivial⟩ ⟨hE1,hO1.up o1,sD⟩ ?_
 clear hE0 hO1 hz1 hX1 hzs1 hE1
 rintro ⟨k,vo⟩ ρ2 w2 ⟨hE2,hL2_0,hp2_0⟩
 have hzs2:w.heap.size≤w2.heap.size:=hE2.size
 refine wp_seq (wp_plain _ [0] rfl ?_)
 by_cases hc3:((k :Nat):Int) < ((a.length :Nat):Int)
 ·
  refine q_lss true rfl rfl (decide_eq_true hc3) zN (lw_nil (wp_seq (c_cond_t rfl (wp_skip (wp_seq (wp_block (wp_seq (wp_plain _ [0,2,0] rfl (q_idx (v:=va) k u32 ti27 rfl rfl ha.isSl rfl sD zN ?_)))))))))
  obtain ⟨ue4,hl4,hd4⟩:=ha.get (k:=k) [] sD
  have hln4:=hd4.lenle
  refine q_load (p:=eptr va k 1) (.inr rfl) ue4 one27 rfl (ldH_ext hE2 hl4) zN (lw_tvn 1 rfl (wp_plain _ [0,0,0,2,3,4,0] rfl ?_))
  have hr1:=h1 k oM
  refine lw_tv 2 rfl (q_idx (v:=ue4) 0 u27 ti2 rfl rfl hd4.isSl rfl sD zN ?_)
  refine q_load (p:=eptr ue4 0 1) (.inr rfl) (.int .i64 ((a.getD k []).getD 0 0)) one2 rfl (ldH_ext hE2 (hd4.getI sD).1) zN ?_
  refine r_one (u:=(.int .i64 ((a.getD k []).getD 0 0))) (B:=w2.heap.size) good_rI u27 ti2 rfl rfl (frI w2.heap.size w2.heap.size _ _ (hd4.getI sD).2) (Nat.le_refl _) zN fun v5 w5 hX5 hz5 hO5=>?_
  have hzs5:=hX5.size
  have hE5:=hE2.trans hX5
  have hL2_0x5:=hL2_0.ext (o1) hX5
  refine e_appI (v:=vo) (a:=v5) u27 ti2 rfl rfl rfl hL2_0x5 hE5.size hO5.rd1 sD (by unfold maxLen; first | omega | assumption | (simp; done) | (simp; omega)) zN fun v6 w6 F6 hC6 hF6 hO6=>?_
  have hE6:Ext w w6:=hC6.below hE5 (fun c hc=>Nat.le_trans (Nat.le_refl _) (hF6 c hc).1) hE5.size
  have hzs6:=hC6.size
  have hF7:=hO5.chg (o1) hC6 (fun c hc=>by have:=hF6 c hc; omega)
  refine lw_tvn 1 rfl (wp_plain _ [0,0] rfl (q_add ((k + 1 :Nat):Int) rfl rfl (w64n oM sD) zN (lw_tvn 1 rfl ?_)))
  exact ⟨((k + 1),v6),_,rfl,⟨rfl,rfl,rfl,rfl,trivial⟩,⟨hE6,(by rw [map_snoc [] oM]; exact hO6.up o1),sD⟩,by first | omega | (dsimp only; omega)⟩
 ·
  exact q_lss false rfl rfl (decide_eq_false hc3) zN (lw_nil (wp_seq (c_cond_f rfl (wp_exit (t_exit (t_exit (c_exit_here (wp_seq (wp_plain _ [0,0] rfl (lw_tvn 2 rfl (wp_ret (post_ret [2] rfl vo rfl ⟨vo,rfl,hE2,(by have h:=hL2_0.up o1; rwa [List.take_of_length_le oM] at h)⟩))))))))))))
end Go.Proofs.YtnokbaiemimhjaaGreat
namespace Go.Proofs.YtnokbaiemimhjaaGreat
open Go Go.RowKit
set_option linter.unusedVariables false
set_option linter.unusedSimpArgs false
set_option maxHeartbeats 4000000
set_option maxRecDepth 100000
attribute [local irreducible] LW
theorem c_impl_ExprSize (w:World) (dex:Nat) (ve:Value) (ex:Ex) (hex:RX [] dex w.heap ve ex) (hs:ex.size≤1000000000) :
  Calls Tryz.prog 198 #[(.agg #[(.int .i64 ex.kind),(.int .i64 ex.num),(.int .i64 ex.pick),(.int .i64 ex.count),ve])] w (fun e w'=>e = .returned (.int .i64 ((ex.size :Nat):Int))∧Ext w w'):=by
 induction dex using Nat.strongRecOn generalizing w ve ex
 rename_i dex ih
 refine calls_mk [(.agg #[(.int .i64 ex.kind),(.int .i64 ex.num),(.int .i64 ex.pick),(.int .i64 ex.count),ve])] 19 Tryz.func198 rfl rfl sM ?_
 have hE0:Ext w w:=Ext.refl w
 have hl_ve:=hex.rn.lenle
 unfold maxLen at hl_ve
 have hsk:=size_kids ex
 refine wp_seq (wp_plain _ [3,0] rfl (r_boxA (cs:=#[(.int .i64 ex.kind),(.int .i64 ex.num),(.int .i64 ex.pick),(.int .i64 ex.count),ve]) rfl zN fun w1 hX1 hz1 hB1=>?_))
 have hzs1:=hX1.size
 have hE1:=hE0.trans hX1
 replace hB1:BX w1.heap w.heap.size [(.int .i64 ex.kind),(.int .i64 ex.num),(.int .i64 ex.pick),(.int .i64 ex.count),ve]:=hB1
 refine lw_tvn 1 rfl (wp_seq (wp_plain _ [0] rfl (lw_tvn 1 rfl (wp_seq (wp_seq (wp_plain _ [0,2,0,0] rfl (q_fldP (p:=(.pointer (some ⟨w.heap.size,0,none⟩))) (b:=w.heap.size) (o:=0) 4 fd174_4 rfl rfl zN (q_load (p:=(padd (.pointer (some ⟨w.heap.size,0,none⟩)) 4)) (.inr rfl) ve one53 rfl (hB1.ldp (i:=4) sM) zN (q_len (v:=ve) u53 rfl hex.rn.isSl zN (lw_tvn 1 rfl (wp_block ?_)))))))))))
 refine c_loop (S:=Nat × Nat) (fun (⟨k,sz⟩:Nat × Nat)=>([(3,(.int .i64 ((sz :Nat):Int))),(9,(.int .i64 ((k :Nat):Int))),(7,ve),(8,(.int .i64 ((ex.kids.length :Nat):Int)))]:List (Nat × Value))) (fun (⟨k,sz⟩:Nat × Nat) (W:World)=>Ext w W∧k≤ex.kids.length∧sz = 1 + Ex.sizes (ex.kids.take k)) (fun (⟨k,sz⟩:Nat × Nat)=>ex.kids.length - k) (0,1) ⟨rfl,rfl,rfl,rfl,trivial⟩ ⟨hE1,sD,(by rw [List.take_zero,sizes_nil])⟩ ?_
 clear hE0 hz1 hX1 hzs1 hE1
 rintro ⟨k,sz⟩ ρ2 w2 ⟨hE2,hp2_0,hsz⟩
 have hzs2:w.heap.size≤w2.heap.size:=hE2.size
 refine wp_seq (wp_plain _ [0] rfl ?_)
 by_cases hc3:((k :Nat):Int) < ((ex.kids.length :Nat):Int)
 ·
  refine q_lss true rfl rfl (decide_eq_true hc3) zN (lw_nil (wp_seq (c_cond_t rfl (wp_skip (wp_seq (wp_block (wp_seq (wp_plain _ [0,2,3,4] rfl ?_))))))))
  have hst:=sizes_step (l:=ex.kids) (k:=k) oM
  have hle:=sizes_take ex.kids (k + 1)
  have hdt:=deeps_step (l:=ex.kids) (k:=k) oM
  have hda:=deep_size (ex.kids.getD k Ex.zero)
  refine q_idx (v:=ve) k u53 tiS174 rfl rfl hex.rn.isSl rfl sD zN ?_
  obtain ⟨cs4,hr4,hl4⟩:=hex.rn.get (good_rEx dex) Ex.zero (k:=k) sD
  obtain ⟨dd4,ve4,hd4,rfl,hx4⟩:=RX.of hr4
  have hln4:=hx4.rn.lenle
  unfold maxLen at hln4
  refine q_loadA (p:=eptr ve k 5) (.inr rfl) [(.int .i64 ((ex.kids.getD k Ex.zero).kind)),(.int .i64 ((ex.kids.getD k Ex.zero).num)),(.int .i64 ((ex.kids.getD k Ex.zero).pick)),(.int .i64 ((ex.kids.getD k Ex.zero).count)),ve4] agg174 rfl (fun wq9 hw9=>hl4 wq9 (Chg.of_ext [] (hE2.trans hw9))) rfl zN (r_allocA (z:=.agg #[.int .i64 0,.int .i64 0,.int .i64 0,.int .i64 0,.slice none 0 0]) zr174 zN fun w5 hX5 hz5 hB5=>?_)
  have hzs5:=hX5.size
  have hE5:=hE2.trans hX5
  replace hB5:BX w5.heap w2.heap.size [(.int .i64 0),(.int .i64 0),(.int .i64 0),(.int .i64 0),(.slice none 0 0)]:=hB5
  refine e_setA (vs:=[(.int .i64 ((ex.kids.getD k Ex.zero).kind)),(.int .i64 ((ex.kids.getD k Ex.zero).num)),(.int .i64 ((ex.kids.getD k Ex.zero).pick)),(.int .i64 ((ex.kids.getD k Ex.zero).count)),ve4]) agg174 rfl rfl hx4.ones hB5 rfl rfl zN fun w6 hC6 hz6 hB6=>?_
  replace hB6:BX w6.heap w2.heap.size [(.int .i64 ((ex.kids.getD k Ex.zero).kind)),(.int .i64 ((ex.kids.getD k Ex.zero).num)),(.int .i64 ((ex.kids.getD k Ex.zero).pick)),(.int .i64 ((ex.kids.getD k Ex.zero).count)),ve4]:=hB6
  have hE6:Ext w w6:=hC6.below hE5 (fun c hc=>by have:=List.mem_singleton.1 hc; omega) hE5.size
  have hzs6:=hC6.size
  refine lw_nil (wp_plain _ [0,2,3,0,0] rfl (lw_tv 1 rfl (q_loadA (p:=(.pointer (some ⟨w2.heap.size,0,none⟩))) (.inr rfl) [(.int .i64 ((ex.kids.getD k Ex.zero).kind)),(.int .i64 ((ex.kids.getD k Ex.zero).num)),(.int .i64 ((ex.kids.getD k Ex.zero).pick)),(.int .i64 ((ex.kids.getD k Ex.zero).count)),ve4] agg174 rfl (fun wq9 hw9=>LD.of_box (BX.ext (w:=w6) hB6 hw9)) rfl zN (lw_call 198 [] [] [(.agg #[(.int .i64 ((ex.kids.getD k Ex.zero).kind)),(.int .i64 ((ex.kids.getD k Ex.zero).num)),(.int .i64 ((ex.kids.getD k Ex.zero).pick)),(.int .i64 ((ex.kids.getD k Ex.zero).count)),ve4])] rfl rfl cf198 zN (ih dd4 oM _ ve4 (ex.kids.getD k Ex.zero) (hx4.ext hE6) oM) ?_))))
  rintro e7 w7 ⟨rfl,hX7⟩
  refine ⟨_,rfl,hX7,?_⟩
  have hzs7:=hX7.size
  have hE7:=hE6.trans hX7
  have hB6x7:=hB6.ext hX7
  refine q_add ((sz + (ex.kids.getD k Ex.zero).size :Nat):Int) rfl rfl (w64n oM oM) zN (lw_tvn 1 rfl (wp_plain _ [0,0] rfl (q_add ((k + 1 :Nat):Int) rfl rfl (w64n oM sD) zN (lw_tvn 1 rfl ?_))))
  exact ⟨((k + 1),(sz + (ex.kids.getD k Ex.zero).size)),_,rfl,⟨rfl,rfl,rfl,rfl,trivial⟩,⟨hE7,sD,oM⟩,by first | omega | (dsimp only; omega)⟩
 ·
  exact q_lss false rfl rfl (decide_eq_false hc3) zN (lw_nil (wp_seq (c_cond_f rfl (wp_exit (t_exit (t_exit (c_exit_here (wp_seq (wp_plain _ [0,0] rfl (lw_tvn 2 rfl (wp_ret (post_ret [2] rfl (.int .i64 ((sz :Nat):Int)) rfl ⟨(ret_int (by rw [hsz,sizes_all oM,hsk])),hE2⟩))))))))))))
theorem c_impl_ExprDepth (w:World) (dex:Nat) (ve:Value) (ex:Ex) (hex:RX [] dex w.heap ve ex) (hs:ex.size≤1000000000) :
  Calls Tryz.prog 230 #[(.agg #[(.int .i64 ex.kind),(.int .i64 ex.num),(.int .i64 ex.pick),(.int .i64 ex.count),ve])] w (fun e w'=>e = .returned (.int .i64 ((ex.deep :Nat):Int))∧Ext w w'):=by
 induction dex using Nat.strongRecOn generalizing w ve ex
 rename_i dex ih
 refine calls_mk [(.agg #[(.int .i64 ex.kind),(.int .i64 ex.num),(.int .i64 ex.pick),(.int .i64 ex.count),ve])] 20 Tryz.func230 rfl rfl sM ?_
 have hE0:Ext w w:=Ext.refl w
 have hl_ve:=hex.rn.lenle
 unfold maxLen at hl_ve
 have hsk:=size_kids ex
 have hdk:=deep_kids ex
 refine wp_seq (wp_plain _ [3,0] rfl (r_boxA (cs:=#[(.int .i64 ex.kind),(.int .i64 ex.num),(.int .i64 ex.pick),(.int .i64 ex.count),ve]) rfl zN fun w1 hX1 hz1 hB1=>?_))
 have hzs1:=hX1.size
 have hE1:=hE0.trans hX1
 replace hB1:BX w1.heap w.heap.size [(.int .i64 ex.kind),(.int .i64 ex.num),(.int .i64 ex.pick),(.int .i64 ex.count),ve]:=hB1
 refine lw_tvn 1 rfl (wp_seq (wp_plain _ [0] rfl (lw_tvn 1 rfl (wp_seq (wp_seq (wp_plain _ [0,2,0,0] rfl (q_fldP (p:=(.pointer (some ⟨w.heap.size,0,none⟩))) (b:=w.heap.size) (o:=0) 4 fd174_4 rfl rfl zN (q_load (p:=(padd (.pointer (some ⟨w.heap.size,0,none⟩)) 4)) (.inr rfl) ve one53 rfl (hB1.ldp (i:=4) sM) zN (q_len (v:=ve) u53 rfl hex.rn.isSl zN (lw_tvn 1 rfl (wp_block ?_)))))))))))
 refine c_loop (S:=Nat × Nat) (fun (⟨k,sz⟩:Nat × Nat)=>([(3,(.int .i64 ((sz :Nat):Int))),(9,(.int .i64 ((k :Nat):Int))),(7,ve),(8,(.int .i64 ((ex.kids.length :Nat):Int)))]:List (Nat × Value))) (fun (⟨k,sz⟩:Nat × Nat) (W:World)=>Ext w W∧k≤ex.kids.length∧sz = Ex.deeps (ex.kids.take k)) (fun (⟨k,sz⟩:Nat × Nat)=>ex.kids.length - k) (0,0) ⟨rfl,rfl,rfl,rfl,trivial⟩ ⟨hE1,sD,(by rw [List.take_zero,deeps_nil])⟩ ?_
 clear hE0 hz1 hX1 hzs1 hE1
 rintro ⟨k,sz⟩ ρ2 w2 ⟨hE2,hp2_0,hsz⟩
 have hzs2:w.heap.size≤w2.heap.size:=hE2.size
 refine wp_seq (wp_plain _ [0] rfl ?_)
 by_cases hc3:((k :Nat):Int) < ((ex.kids.length :Nat):Int)
 ·
  refine q_lss true rfl rfl (decide_eq_true hc3) zN (lw_nil (wp_seq (c_cond_t rfl (wp_skip (wp_seq (wp_block (wp_seq (wp_plain _ [0,2,3,4] rfl ?_))))))))
  have hst:=sizes_step (l:=ex.kids) (k:=k) oM
  have hle:=sizes_take ex.kids (k + 1)
  have hdt:=deeps_step (l:=ex.kids) (k:=k) oM
  have hda:=deep_size (ex.kids.getD k Ex.zero)
  refine q_idx (v:=ve) k u53 tiS174 rfl rfl hex.rn.isSl rfl sD zN ?_
  obtain ⟨cs4,hr4,hl4⟩:=hex.rn.get (good_rEx dex) Ex.zero (k:=k) sD
  obtain ⟨dd4,ve4,hd4,rfl,hx4⟩:=RX.of hr4
  have hln4:=hx4.rn.lenle
  unfold maxLen at hln4
  refine q_loadA (p:=eptr ve k 5) (.inr rfl) [(.int .i64 ((ex.kids.getD k Ex.zero).kind)),(.int .i64 ((ex.kids.getD k Ex.zero).num)),(.int .i64 ((ex.kids.getD k Ex.zero).pick)),(.int .i64 ((ex.kids.getD k Ex.zero).count)),ve4] agg174 rfl (fun wq9 hw9=>hl4 wq9 (Chg.of_ext [] (hE2.trans hw9))) rfl zN (r_allocA (z:=.agg #[.int .i64 0,.int .i64 0,.int .i64 0,.int .i64 0,.slice none 0 0]) zr174 zN fun w5 hX5 hz5 hB5=>?_)
  have hzs5:=hX5.size
  have hE5:=hE2.trans hX5
  replace hB5:BX w5.heap w2.heap.size [(.int .i64 0),(.int .i64 0),(.int .i64 0),(.int .i64 0),(.slice none 0 0)]:=hB5
  refine e_setA (vs:=[(.int .i64 ((ex.kids.getD k Ex.zero).kind)),(.int .i64 ((ex.kids.getD k Ex.zero).num)),(.int .i64 ((ex.kids.getD k Ex.zero).pick)),(.int .i64 ((ex.kids.getD k Ex.zero).count)),ve4]) agg174 rfl rfl hx4.ones hB5 rfl rfl zN fun w6 hC6 hz6 hB6=>?_
  replace hB6:BX w6.heap w2.heap.size [(.int .i64 ((ex.kids.getD k Ex.zero).kind)),(.int .i64 ((ex.kids.getD k Ex.zero).num)),(.int .i64 ((ex.kids.getD k Ex.zero).pick)),(.int .i64 ((ex.kids.getD k Ex.zero).count)),ve4]:=hB6
  have hE6:Ext w w6:=hC6.below hE5 (fun c hc=>by have:=List.mem_singleton.1 hc; omega) hE5.size
  have hzs6:=hC6.size
  refine lw_nil (wp_plain _ [0,2,3,0,0] rfl (lw_tv 1 rfl (q_loadA (p:=(.pointer (some ⟨w2.heap.size,0,none⟩))) (.inr rfl) [(.int .i64 ((ex.kids.getD k Ex.zero).kind)),(.int .i64 ((ex.kids.getD k Ex.zero).num)),(.int .i64 ((ex.kids.getD k Ex.zero).pick)),(.int .i64 ((ex.kids.getD k Ex.zero).count)),ve4] agg174 rfl (fun wq9 hw9=>LD.of_box (BX.ext (w:=w6) hB6 hw9)) rfl zN (lw_call 230 [] [] [(.agg #[(.int .i64 ((ex.kids.getD k Ex.zero).kind)),(.int .i64 ((ex.kids.getD k Ex.zero).num)),(.int .i64 ((ex.kids.getD k Ex.zero).pick)),(.int .i64 ((ex.kids.getD k Ex.zero).count)),ve4])] rfl rfl cf230 zN (ih dd4 oM _ ve4 (ex.kids.getD k Ex.zero) (hx4.ext hE6) oM) ?_))))
  rintro e7 w7 ⟨rfl,hX7⟩
  refine ⟨_,rfl,hX7,?_⟩
  have hzs7:=hX7.size
  have hE7:=hE6.trans hX7
  have hB6x7:=hB6.ext hX7
  refine q_max ((max sz ((ex.kids.getD k Ex.zero).deep) :Nat):Int) oM rfl rfl zN (lw_tvn 1 rfl (wp_plain _ [0,0] rfl (q_add ((k + 1 :Nat):Int) rfl rfl (w64n oM sD) zN (lw_tvn 1 rfl ?_))))
  exact ⟨((k + 1),(max sz ((ex.kids.getD k Ex.zero).deep))),_,rfl,⟨rfl,rfl,rfl,rfl,trivial⟩,⟨hE7,sD,oM⟩,by first | omega | (dsimp only; omega)⟩
 ·
  refine q_lss false rfl rfl (decide_eq_false hc3) zN (lw_nil (wp_seq (c_cond_f rfl (wp_exit (t_exit (t_exit (c_exit_here (wp_seq (wp_plain _ [0,0,0] rfl ?_)))))))))
  have h8:=deeps_all (l:=ex.kids) (k:=k) oM
  have h9:=deep_size ex
  exact lw_tv 1 rfl (q_add ((sz + 1 :Nat):Int) rfl rfl (w64n oM oM) zN (lw_tvn 1 rfl (wp_ret (post_ret [2] rfl (.int .i64 ((sz + 1 :Nat):Int)) rfl ⟨(ret_int (by rw [hsz,deeps_all oM,hdk])),hE2⟩))))
end Go.Proofs.YtnokbaiemimhjaaGreat
namespace Go.Proofs.YtnokbaiemimhjaaGreat
open Go Go.RowKit
set_option linter.unusedVariables false
set_option linter.unusedSimpArgs false
set_option maxHeartbeats 4000000
set_option maxRecDepth 100000
attribute [local irreducible] LW
theorem not_f {b:Bool} (h:(!b) = false):b = true:=by cases b <;> simp_all
theorem not_t {b:Bool} (h:(!b) = true):b = false:=by cases b <;> simp_all
theorem wf_ret {p:List Fn} {funcs vars:Int} {e:Ex} {b:Bool} (h:e.kids.length = 0∨b = false) (hb:wfN p funcs vars e = b):Ending.returned (.bool b) = .returned (.bool (wf p funcs e vars)):=by
  rcases h with h | h
  · rw [wf_leaf h,hb]
  · subst h; rw [← wf_bad hb]
theorem z231_0 {p:Prop} (h:p:=by first | exact ret_bool (wf_good hwn fun j hj=>hall j oM) | exact ret_bool (wf_kid (k:=k) oM (by first | (rw [if_pos oM]) | (rw [if_neg oM])) (not_t ‹_›)) | exact wf_ret (by first | exact .inr rfl | (left; omega) | (left; simp_all <;> omega)) (by (have hp9:=hpl.symm; clear hpl; unfold wfN inB; first | (simp [*]; done) | (simp [*]; omega) | (simp [*] <;> intros <;> omega) | (simp_all <;> omega)))):p:=h
theorem z231_1 {p:Prop} (h:p:=by (have hp9:=hpl.symm; clear hpl; unfold wfN inB; first | (simp [*]; done) | (simp [*]; omega) | (simp [*] <;> intros <;> omega) | (simp_all <;> omega))):p:=h
theorem z231_2 {p:Prop} (h:p:=by intro j hj; by_cases e9:j = k; (rw [e9]; first | (rw [if_pos oM]; exact not_f ‹_›) | (rw [if_neg oM]; exact not_f ‹_›)); exact hall j oM):p:=h
theorem z231_3 {p:Prop} (h:p:=by unfold plainB; first | (simp [*]; done) | (simp [*]; intros; omega) | (simp [*]; omega)):p:=h
theorem z231_4 {p:Prop} (h:p:=by first | exact (decide_eq_true oM).symm | exact decide_eq_decide.2 oM):p:=h
theorem c_impl_checker_isFormed (w:World) (dp:Nat) (vp:Value) (p:List Fn) (funcs:Int) (dex:Nat) (ve:Value) (ex:Ex) (vars:Int) (hp:RP [] dp w.heap vp p) (_hfuncs:-9223372036854775808≤funcs∧funcs≤9223372036854775807) (hex:RX [] dex w.heap ve ex) (_hvars:-9223372036854775808≤vars∧vars≤9223372036854775807) (hs:0≤vars∧vars + (ex.deep:Int)≤2000000000) (hf:0≤funcs∧funcs≤(p.length:Int)) :
  Calls Tryz.prog 231 #[(.agg #[vp,(.int .i64 funcs)]),(.agg #[(.int .i64 ex.kind),(.int .i64 ex.num),(.int .i64 ex.pick),(.int .i64 ex.count),ve]),.int .i64 vars] w (fun e w'=>e = .returned (.bool (wf p funcs ex vars))∧Ext w w'):=by
 induction dex using Nat.strongRecOn generalizing w dp vp p funcs ve ex vars
 rename_i dex ih
 refine calls_mk [(.agg #[vp,(.int .i64 funcs)]),(.agg #[(.int .i64 ex.kind),(.int .i64 ex.num),(.int .i64 ex.pick),(.int .i64 ex.count),ve]),.int .i64 vars] 177 Tryz.func231 rfl rfl sM ?_
 have hE0:Ext w w:=Ext.refl w
 have hl_vp:=hp.lenle
 unfold maxLen at hl_vp
 have hl_ve:=hex.rn.lenle
 unfold maxLen at hl_ve
 have hdk:=deep_kids ex
 refine wp_seq (wp_plain _ [3,3,0] rfl (r_boxA (cs:=#[vp,(.int .i64 funcs)]) rfl zN fun w1 hX1 hz1 hB1=>?_))
 have hzs1:=hX1.size
 have hE1:=hE0.trans hX1
 replace hB1:BX w1.heap w.heap.size [vp,(.int .i64 funcs)]:=hB1
 have hq3:=hB1.lt
 refine r_boxA (cs:=#[(.int .i64 ex.kind),(.int .i64 ex.num),(.int .i64 ex.pick),(.int .i64 ex.count),ve]) rfl zN fun w2 hX2 hz2 hB2=>?_
 have hzs2:=hX2.size
 have hE2:=hE1.trans hX2
 have hB1x2:=hB1.ext hX2
 replace hB2:BX w2.heap w1.heap.size [(.int .i64 ex.kind),(.int .i64 ex.num),(.int .i64 ex.pick),(.int .i64 ex.count),ve]:=hB2
 refine lw_tvn 1 rfl (wp_seq (wp_plain _ [0,2,0,0] rfl (q_fldP (p:=(.pointer (some ⟨w1.heap.size,0,none⟩))) (b:=w1.heap.size) (o:=0) 4 fd174_4 rfl rfl zN (q_load (p:=(padd (.pointer (some ⟨w1.heap.size,0,none⟩)) 4)) (.inr rfl) ve one53 rfl (hB2.ldp (i:=4) sM) zN (q_len (v:=ve) u53 rfl hex.rn.isSl zN (lw_tvn 1 rfl (wp_seq (c_cut (S:=Bool) (fun (pl:Bool)=>([(8,(.bool pl)),(2,(.int .i64 vars)),(3,(.pointer (some ⟨w.heap.size,0,none⟩))),(4,(.pointer (some ⟨w1.heap.size,0,none⟩))),(7,(.int .i64 ((ex.kids.length :Nat):Int)))]:List (Nat × Value))) (fun (pl:Bool) (W:World)=>Ext w W∧BX W.heap w.heap.size [vp,(.int .i64 funcs)]∧BX W.heap w1.heap.size [(.int .i64 ex.kind),(.int .i64 ex.num),(.int .i64 ex.pick),(.int .i64 ex.count),ve]∧pl = plainB ex) ?_ ?_))))))))
 ·
  refine wp_plain _ [0,2,0,0,0,2,0,0,0] rfl (q_fldP (p:=(.pointer (some ⟨w1.heap.size,0,none⟩))) (b:=w1.heap.size) (o:=0) 2 fd174_2 rfl rfl zN (q_load (p:=(padd (.pointer (some ⟨w1.heap.size,0,none⟩)) 2)) (.inr rfl) (.int .i64 ex.pick) one2 rfl (hB2.ldp (i:=2) sM) zN ?_))
  by_cases hc5:ex.pick = ((0 :Nat):Int)
  ·
   exact q_eql true rfl rfl (decide_eq_true hc5) zN (lw_tv 1 rfl (q_fldP (p:=(.pointer (some ⟨w1.heap.size,0,none⟩))) (b:=w1.heap.size) (o:=0) 3 fd174_3 rfl rfl (zS (e:=19) rfl rfl rfl) (q_load (p:=(padd (.pointer (some ⟨w1.heap.size,0,none⟩)) 3)) (.inr rfl) (.int .i64 ex.count) one2 rfl (hB2.ldp (i:=3) sM) (zS (e:=19) rfl rfl rfl) (q_eql (decide (ex.count = ((0 :Nat):Int))) rfl rfl rfl (zS (e:=19) rfl rfl rfl) (lw_tvn 2 rfl ⟨(decide (ex.count = ((0 :Nat):Int))),_,rfl,⟨rfl,rfl,rfl,rfl,rfl,trivial⟩,⟨hE2,hB1x2,hB2,z231_3⟩⟩)))))
  ·
   exact q_eql false rfl rfl (decide_eq_false hc5) zN (lw_tvn 6 rfl ⟨false,_,rfl,⟨rfl,rfl,rfl,rfl,rfl,trivial⟩,⟨hE2,hB1x2,hB2,z231_3⟩⟩)
 ·
  clear hE0 hz1 hX1 hzs1 hE1 hz2 hX2 hzs2 hE2
  rintro pl ρ4 w4 ⟨hE4,hL4_0,hL4_1,hpl⟩
  have hzs4:w.heap.size≤w4.heap.size:=hE4.size
  have hq6:=hL4_0.lt
  have hq7:=hL4_1.lt
  refine wp_seq (c_cut (S:=Unit) (fun (u:Unit)=>([(2,(.int .i64 vars)),(3,(.pointer (some ⟨w.heap.size,0,none⟩))),(4,(.pointer (some ⟨w1.heap.size,0,none⟩)))]:List (Nat × Value))) (fun (u:Unit) (W:World)=>Ext w W∧BX W.heap w.heap.size [vp,(.int .i64 funcs)]∧BX W.heap w1.heap.size [(.int .i64 ex.kind),(.int .i64 ex.num),(.int .i64 ex.pick),(.int .i64 ex.count),ve]∧wfN p funcs vars ex = true) ?_ ?_)
  ·
   refine wp_seq (wp_plain _ [0,2] rfl (q_fldP (p:=(.pointer (some ⟨w1.heap.size,0,none⟩))) (b:=w1.heap.size) (o:=0) 0 fd174_0 rfl rfl zN (q_load (p:=(padd (.pointer (some ⟨w1.heap.size,0,none⟩)) 0)) (.inr rfl) (.int .i64 ex.kind) one2 rfl (hL4_1.ldp (i:=0) sM) zN (lw_nil (wp_block (wp_seq (wp_plain _ [0,0] rfl ?_)))))))
   by_cases hc9:ex.kind = ((1 :Nat):Int)
   ·
    refine q_eql true rfl rfl (decide_eq_true hc9) zN (lw_tvn 1 rfl (c_cond_t rfl (wp_seq (wp_plain _ [0,0,0,0,0,0,0,2,0,0,0] rfl (lw_tv 2 rfl ?_)))))
    cases hb10:pl
    ·
     exact lw_tvn 9 rfl (wp_ret (b_ret (t_ret (post_ret [6] rfl (.bool false) rfl ⟨z231_0,hE4⟩))))
    ·
     refine lw_tv 1 rfl ?_
     by_cases hc11:((ex.kids.length :Nat):Int) = ((0 :Nat):Int)
     ·
      refine q_eql true rfl rfl (decide_eq_true hc11) (zS (e:=29) rfl rfl rfl) (lw_tv 2 rfl (q_fldP (p:=(.pointer (some ⟨w1.heap.size,0,none⟩))) (b:=w1.heap.size) (o:=0) 1 fd174_1 rfl rfl (zS (e:=33) rfl rfl rfl) (q_load (p:=(padd (.pointer (some ⟨w1.heap.size,0,none⟩)) 1)) (.inr rfl) (.int .i64 ex.num) one2 rfl (hL4_1.ldp (i:=1) sM) (zS (e:=33) rfl rfl rfl) (lw_callq 161 [] [] [(.int .i64 ex.num)] rfl rfl cf161 (zS (e:=33) rfl rfl rfl) (.bool (isN ex.num)) (fun wq=>c_impl_isNumber wq _ hex.rng.num) (lw_tvn 2 rfl (wp_ret (b_ret (t_ret ?_))))))))
      exact post_ret [6] rfl (.bool (isN ex.num)) rfl ⟨z231_0,hE4⟩
     ·
      exact q_eql false rfl rfl (decide_eq_false hc11) (zS (e:=29) rfl rfl rfl) (lw_tvn 7 rfl (wp_ret (b_ret (t_ret (post_ret [6] rfl (.bool false) rfl ⟨z231_0,hE4⟩)))))
   ·
    refine q_eql false rfl rfl (decide_eq_false hc9) zN (lw_tvn 1 rfl (c_cond_f rfl (wp_seq (wp_plain _ [0,0] rfl ?_))))
    by_cases hc13:ex.kind = ((2 :Nat):Int)
    ·
     refine q_eql true rfl rfl (decide_eq_true hc13) zN (lw_tvn 1 rfl (c_cond_t rfl (wp_seq (wp_plain _ [0,0,0,0,0,0,0,2,0,0,0,0,0] rfl (lw_tv 2 rfl ?_)))))
     cases hb14:pl
     ·
      exact lw_tvn 11 rfl (wp_ret (b_ret (t_ret (post_ret [6] rfl (.bool false) rfl ⟨z231_0,hE4⟩))))
     ·
      refine lw_tv 1 rfl ?_
      by_cases hc15:((ex.kids.length :Nat):Int) = ((0 :Nat):Int)
      ·
       refine q_eql true rfl rfl (decide_eq_true hc15) (zS (e:=41) rfl rfl rfl) (lw_tv 2 rfl (q_fldP (p:=(.pointer (some ⟨w1.heap.size,0,none⟩))) (b:=w1.heap.size) (o:=0) 1 fd174_1 rfl rfl (zS (e:=45) rfl rfl rfl) (q_load (p:=(padd (.pointer (some ⟨w1.heap.size,0,none⟩)) 1)) (.inr rfl) (.int .i64 ex.num) one2 rfl (hL4_1.ldp (i:=1) sM) (zS (e:=45) rfl rfl rfl) (lw_tv 1 rfl (q_sub (vars - 1) rfl rfl (w64 oM oM) (zS (e:=45) rfl rfl rfl) (lw_callq 72 [] [] [(.int .i64 ex.num),(.int .i64 ((0 :Nat):Int)),(.int .i64 (vars - 1))] rfl rfl cf72 (zS (e:=45) rfl rfl rfl) (.bool (decide (((0 :Nat):Int)≤ex.num) && decide (ex.num≤(vars - 1)))) (fun wq=>c_impl_within wq _ _ _ hex.rng.num oM oM) (lw_tvn 2 rfl (wp_ret (b_ret ?_)))))))))
       exact t_ret (post_ret [6] rfl (.bool (decide (((0 :Nat):Int)≤ex.num) && decide (ex.num≤(vars - 1)))) rfl ⟨z231_0,hE4⟩)
      ·
       exact q_eql false rfl rfl (decide_eq_false hc15) (zS (e:=41) rfl rfl rfl) (lw_tvn 9 rfl (wp_ret (b_ret (t_ret (post_ret [6] rfl (.bool false) rfl ⟨z231_0,hE4⟩)))))
    ·
     refine q_eql false rfl rfl (decide_eq_false hc13) zN (lw_tvn 1 rfl (c_cond_f rfl (wp_seq (c_cut (S:=Bool) (fun (b5:Bool)=>([(52,(.bool b5)),(2,(.int .i64 vars)),(3,(.pointer (some ⟨w.heap.size,0,none⟩))),(4,(.pointer (some ⟨w1.heap.size,0,none⟩))),(7,(.int .i64 ((ex.kids.length :Nat):Int))),(8,(.bool pl)),(25,(.int .i64 ex.kind))]:List (Nat × Value))) (fun (b5:Bool) (W:World)=>Ext w W∧BX W.heap w.heap.size [vp,(.int .i64 funcs)]∧BX W.heap w1.heap.size [(.int .i64 ex.kind),(.int .i64 ex.num),(.int .i64 ex.pick),(.int .i64 ex.count),ve]∧b5 = decide (ex.kind = 3∨ex.kind = 4∨ex.kind = 5∨ex.kind = 6∨ex.kind = 9)) ?_ ?_))))
     ·
      refine wp_seq (wp_plain _ [0,0] rfl ?_)
      by_cases hc18:ex.kind = ((3 :Nat):Int)
      ·
       exact q_eql true rfl rfl (decide_eq_true hc18) zN (lw_tvn 1 rfl (c_cond_t rfl (wp_skip ⟨true,_,rfl,⟨rfl,rfl,rfl,rfl,rfl,rfl,rfl,trivial⟩,⟨hE4,hL4_0,hL4_1,z231_4⟩⟩)))
      ·
       refine q_eql false rfl rfl (decide_eq_false hc18) zN (lw_tvn 1 rfl (c_cond_f rfl (wp_seq (wp_plain _ [0,0] rfl ?_))))
       by_cases hc19:ex.kind = ((4 :Nat):Int)
       ·
        exact q_eql true rfl rfl (decide_eq_true hc19) zN (lw_tvn 1 rfl (c_cond_t rfl (wp_skip ⟨true,_,rfl,⟨rfl,rfl,rfl,rfl,rfl,rfl,rfl,trivial⟩,⟨hE4,hL4_0,hL4_1,z231_4⟩⟩)))
       ·
        refine q_eql false rfl rfl (decide_eq_false hc19) zN (lw_tvn 1 rfl (c_cond_f rfl (wp_seq (wp_plain _ [0,0] rfl ?_))))
        by_cases hc20:ex.kind = ((5 :Nat):Int)
        ·
         exact q_eql true rfl rfl (decide_eq_true hc20) zN (lw_tvn 1 rfl (c_cond_t rfl (wp_skip ⟨true,_,rfl,⟨rfl,rfl,rfl,rfl,rfl,rfl,rfl,trivial⟩,⟨hE4,hL4_0,hL4_1,z231_4⟩⟩)))
        ·
         refine q_eql false rfl rfl (decide_eq_false hc20) zN (lw_tvn 1 rfl (c_cond_f rfl (wp_seq (wp_plain _ [0,0] rfl ?_))))
         by_cases hc21:ex.kind = ((6 :Nat):Int)
         ·
          exact q_eql true rfl rfl (decide_eq_true hc21) zN (lw_tvn 1 rfl (c_cond_t rfl (wp_skip ⟨true,_,rfl,⟨rfl,rfl,rfl,rfl,rfl,rfl,rfl,trivial⟩,⟨hE4,hL4_0,hL4_1,z231_4⟩⟩)))
         ·
          exact q_eql false rfl rfl (decide_eq_false hc21) zN (lw_tvn 1 rfl (c_cond_f rfl (wp_plain _ [0,0] rfl (q_eql (decide (ex.kind = ((9 :Nat):Int))) rfl rfl rfl zN (lw_tvn 1 rfl ⟨(decide (ex.kind = ((9 :Nat):Int))),_,rfl,⟨rfl,rfl,rfl,rfl,rfl,rfl,rfl,trivial⟩,⟨hE4,hL4_0,hL4_1,z231_4⟩⟩)))))
     ·
      clear hL4_1 hL4_0 hE4 hzs4
      rintro b5 ρ17 w17 ⟨hE17,hL17_0,hL17_1,h5b⟩
      have hzs17:w.heap.size≤w17.heap.size:=hE17.size
      have hq22:=hL17_0.lt
      have hq23:=hL17_1.lt
      cases hb24:b5
      ·
       refine c_cond_f (by first | rfl | (show Value.bool _ = _; rw [hb24])) (wp_seq (wp_plain _ [0,0] rfl ?_))
       have h5n:=of_decide_eq_false (h5b.symm.trans ‹_›)
       clear h5b
       by_cases hc25:ex.kind = ((7 :Nat):Int)
       ·
        refine q_eql true rfl rfl (decide_eq_true hc25) zN (lw_tvn 1 rfl (c_cond_t rfl (wp_seq (wp_plain _ [0,0,0,0,2,0,0,0,0,0,0] rfl (lw_tv 1 rfl (q_not (!pl) rfl rfl zN (lw_tv 1 rfl ?_)))))))
        cases hb26:(!pl)
        ·
         refine q_fldP (p:=(.pointer (some ⟨w1.heap.size,0,none⟩))) (b:=w1.heap.size) (o:=0) 1 fd174_1 rfl rfl (zS (e:=73) rfl rfl rfl) (q_load (p:=(padd (.pointer (some ⟨w1.heap.size,0,none⟩)) 1)) (.inr rfl) (.int .i64 ex.num) one2 rfl (hL17_1.ldp (i:=1) sM) (zS (e:=73) rfl rfl rfl) ?_)
         by_cases hc27:ex.num≠((0 :Nat):Int)
         ·
          exact q_neq true rfl rfl (decide_eq_true hc27) (zS (e:=73) rfl rfl rfl) (lw_tvn 5 rfl (c_cond_t rfl (wp_seq (wp_plain _ [0] rfl (lw_tvn 1 rfl (wp_ret (b_ret (t_ret (post_ret [6] rfl (.bool false) rfl ⟨z231_0,hE17⟩)))))))))
         ·
          refine q_neq false rfl rfl (decide_eq_false hc27) (zS (e:=73) rfl rfl rfl) (lw_tv 3 rfl ?_)
          by_cases hc28:((ex.kids.length :Nat):Int)≠((1 :Nat):Int)
          ·
           exact q_neq true rfl rfl (decide_eq_true hc28) (zS (e:=78) rfl rfl rfl) (lw_tvn 1 rfl (c_cond_t rfl (wp_seq (wp_plain _ [0] rfl (lw_tvn 1 rfl (wp_ret (b_ret (t_ret (post_ret [6] rfl (.bool false) rfl ⟨z231_0,hE17⟩)))))))))
          ·
           exact q_neq false rfl rfl (decide_eq_false hc28) (zS (e:=78) rfl rfl rfl) (lw_tvn 1 rfl (c_cond_f rfl (wp_skip ⟨(),_,rfl,⟨rfl,rfl,rfl,trivial⟩,⟨hE17,hL17_0,hL17_1,z231_1⟩⟩)))
        ·
         exact lw_tvn 8 rfl (c_cond_t rfl (wp_seq (wp_plain _ [0] rfl (lw_tvn 1 rfl (wp_ret (b_ret (t_ret (post_ret [6] rfl (.bool false) rfl ⟨z231_0,hE17⟩))))))))
       ·
        refine q_eql false rfl rfl (decide_eq_false hc25) zN (lw_tvn 1 rfl (c_cond_f rfl (wp_seq (wp_plain _ [0,0] rfl ?_))))
        by_cases hc29:ex.kind = ((8 :Nat):Int)
        ·
         refine q_eql true rfl rfl (decide_eq_true hc29) zN (lw_tvn 1 rfl (c_cond_t rfl (wp_seq (wp_plain _ [0,0,0,0,2,0,0,0,0,0,0] rfl (lw_tv 1 rfl (q_not (!pl) rfl rfl zN (lw_tv 1 rfl ?_)))))))
         cases hb30:(!pl)
         ·
          refine q_fldP (p:=(.pointer (some ⟨w1.heap.size,0,none⟩))) (b:=w1.heap.size) (o:=0) 1 fd174_1 rfl rfl (zS (e:=86) rfl rfl rfl) (q_load (p:=(padd (.pointer (some ⟨w1.heap.size,0,none⟩)) 1)) (.inr rfl) (.int .i64 ex.num) one2 rfl (hL17_1.ldp (i:=1) sM) (zS (e:=86) rfl rfl rfl) ?_)
          by_cases hc31:ex.num≠((0 :Nat):Int)
          ·
           exact q_neq true rfl rfl (decide_eq_true hc31) (zS (e:=86) rfl rfl rfl) (lw_tvn 5 rfl (c_cond_t rfl (wp_seq (wp_plain _ [0] rfl (lw_tvn 1 rfl (wp_ret (b_ret (t_ret (post_ret [6] rfl (.bool false) rfl ⟨z231_0,hE17⟩)))))))))
          ·
           refine q_neq false rfl rfl (decide_eq_false hc31) (zS (e:=86) rfl rfl rfl) (lw_tv 3 rfl ?_)
           by_cases hc32:((ex.kids.length :Nat):Int)≠((3 :Nat):Int)
           ·
            exact q_neq true rfl rfl (decide_eq_true hc32) (zS (e:=91) rfl rfl rfl) (lw_tvn 1 rfl (c_cond_t rfl (wp_seq (wp_plain _ [0] rfl (lw_tvn 1 rfl (wp_ret (b_ret (t_ret (post_ret [6] rfl (.bool false) rfl ⟨z231_0,hE17⟩)))))))))
           ·
            exact q_neq false rfl rfl (decide_eq_false hc32) (zS (e:=91) rfl rfl rfl) (lw_tvn 1 rfl (c_cond_f rfl (wp_skip ⟨(),_,rfl,⟨rfl,rfl,rfl,trivial⟩,⟨hE17,hL17_0,hL17_1,z231_1⟩⟩)))
         ·
          exact lw_tvn 8 rfl (c_cond_t rfl (wp_seq (wp_plain _ [0] rfl (lw_tvn 1 rfl (wp_ret (b_ret (t_ret (post_ret [6] rfl (.bool false) rfl ⟨z231_0,hE17⟩))))))))
        ·
         refine q_eql false rfl rfl (decide_eq_false hc29) zN (lw_tvn 1 rfl (c_cond_f rfl (wp_seq (c_cut (S:=Bool) (fun (b10:Bool)=>([(95,(.bool b10)),(2,(.int .i64 vars)),(3,(.pointer (some ⟨w.heap.size,0,none⟩))),(4,(.pointer (some ⟨w1.heap.size,0,none⟩))),(7,(.int .i64 ((ex.kids.length :Nat):Int)))]:List (Nat × Value))) (fun (b10:Bool) (W:World)=>Ext w W∧BX W.heap w.heap.size [vp,(.int .i64 funcs)]∧BX W.heap w1.heap.size [(.int .i64 ex.kind),(.int .i64 ex.num),(.int .i64 ex.pick),(.int .i64 ex.count),ve]∧b10 = decide (ex.kind = 10∨ex.kind = 11)) ?_ ?_))))
         ·
          refine wp_seq (wp_plain _ [0,0] rfl ?_)
          by_cases hc34:ex.kind = ((10 :Nat):Int)
          ·
           exact q_eql true rfl rfl (decide_eq_true hc34) zN (lw_tvn 1 rfl (c_cond_t rfl (wp_skip ⟨true,_,rfl,⟨rfl,rfl,rfl,rfl,rfl,trivial⟩,⟨hE17,hL17_0,hL17_1,z231_4⟩⟩)))
          ·
           exact q_eql false rfl rfl (decide_eq_false hc34) zN (lw_tvn 1 rfl (c_cond_f rfl (wp_plain _ [0,0] rfl (q_eql (decide (ex.kind = ((11 :Nat):Int))) rfl rfl rfl zN (lw_tvn 1 rfl ⟨(decide (ex.kind = ((11 :Nat):Int))),_,rfl,⟨rfl,rfl,rfl,rfl,rfl,trivial⟩,⟨hE17,hL17_0,hL17_1,z231_4⟩⟩)))))
         ·
          clear hL17_1 hL17_0 hE17 hzs17
          rintro b10 ρ33 w33 ⟨hE33,hL33_0,hL33_1,h10b⟩
          have hzs33:w.heap.size≤w33.heap.size:=hE33.size
          have hq35:=hL33_0.lt
          have hq36:=hL33_1.lt
          cases hb37:b10
          ·
           refine c_cond_f (by first | rfl | (show Value.bool _ = _; rw [hb37])) (wp_seq (wp_plain _ [0] rfl ?_))
           have h10n:=of_decide_eq_false (h10b.symm.trans ‹_›)
           clear h10b
           exact lw_tvn 1 rfl (wp_ret (b_ret (t_ret (post_ret [6] rfl (.bool false) rfl ⟨z231_0,hE33⟩))))
          ·
           refine c_cond_t (by first | rfl | (show Value.bool _ = _; rw [hb37])) (wp_seq (wp_seq (wp_plain _ [0,2,0,2,0,0,0] rfl ?_)))
           have h5k:=of_decide_eq_true (h10b.symm.trans ‹_›)
           clear h10b
           refine q_fldP (p:=(.pointer (some ⟨w1.heap.size,0,none⟩))) (b:=w1.heap.size) (o:=0) 1 fd174_1 rfl rfl zN (q_load (p:=(padd (.pointer (some ⟨w1.heap.size,0,none⟩)) 1)) (.inr rfl) (.int .i64 ex.num) one2 rfl (hL33_1.ldp (i:=1) sM) zN (q_fldP (p:=(.pointer (some ⟨w.heap.size,0,none⟩))) (b:=w.heap.size) (o:=0) 1 fd237_1 rfl rfl zN (q_load (p:=(padd (.pointer (some ⟨w.heap.size,0,none⟩)) 1)) (.inr rfl) (.int .i64 funcs) one2 rfl (hL33_0.ldp (i:=1) sM) zN (q_sub (funcs - 1) rfl rfl (w64 oM oM) zN (lw_callq 72 [] [] [(.int .i64 ex.num),(.int .i64 ((0 :Nat):Int)),(.int .i64 (funcs - 1))] rfl rfl cf72 zN (.bool (decide (((0 :Nat):Int)≤ex.num) && decide (ex.num≤(funcs - 1)))) (fun wq=>c_impl_within wq _ _ _ hex.rng.num oM oM) ?_)))))
           refine q_not (!(decide (((0 :Nat):Int)≤ex.num) && decide (ex.num≤(funcs - 1)))) rfl rfl zN (lw_nil ?_)
           cases hb39:(!(decide (((0 :Nat):Int)≤ex.num) && decide (ex.num≤(funcs - 1))))
           ·
            refine c_cond_f (by first | rfl | (show Value.bool _ = _; rw [hb39])) (wp_skip (wp_seq (wp_plain _ [0,0,2,0,2,0,2,3,4] rfl ?_)))
            have hnr:0≤ex.num∧ex.num≤funcs - 1:=by have h9:=‹(!(decide (((0 :Nat):Int)≤ex.num) && decide (ex.num≤funcs - 1))) = false›; simpa using h9
            refine q_fldP (p:=(.pointer (some ⟨w.heap.size,0,none⟩))) (b:=w.heap.size) (o:=0) 0 fd237_0 rfl rfl zN (q_fldP (p:=(padd (.pointer (some ⟨w.heap.size,0,none⟩)) 0)) (b:=w.heap.size) (o:=0) 0 fd26_0 rfl rfl zN (q_load (p:=(padd (padd (.pointer (some ⟨w.heap.size,0,none⟩)) 0) 0)) (.inr rfl) vp one24 rfl (hL33_0.ldp (i:=0) sM) zN (q_fldP (p:=(.pointer (some ⟨w1.heap.size,0,none⟩))) (b:=w1.heap.size) (o:=0) 1 fd174_1 rfl rfl zN (q_load (p:=(padd (.pointer (some ⟨w1.heap.size,0,none⟩)) 1)) (.inr rfl) (.int .i64 ex.num) one2 rfl (hL33_1.ldp (i:=1) sM) zN ?_))))
            refine q_idx (v:=vp) ((ex.num).toNat) u24 tiS55 rfl rfl hp.isSl oM sD zN ?_
            obtain ⟨cs40,hr40,hl40⟩:=hp.get (good_rFn dp) Fn.zero (k:=((ex.num).toNat)) sD
            obtain ⟨ve40,rfl,hx40⟩:=RF.of hr40
            have hln40:=hx40.rn.lenle
            unfold maxLen at hln40
            refine q_loadA (p:=eptr vp ((ex.num).toNat) 3) (.inr rfl) [(.string ((p.getD ((ex.num).toNat) Fn.zero).name)),(.int .i64 ((p.getD ((ex.num).toNat) Fn.zero).params)),ve40] agg55 rfl (fun wq9 hw9=>hl40 wq9 (Chg.of_ext [] (hE33.trans hw9))) rfl zN ?_
            have hq42:=hL33_0.lt
            have hq43:=hL33_1.lt
            refine r_allocA (z:=.agg #[.string ByteArray.empty,.int .i64 0,.slice none 0 0]) zr55 zN fun w41 hX41 hz41 hB41=>?_
            have hzs41:=hX41.size
            have hE41:=hE33.trans hX41
            have hL33_0x41:=hL33_0.ext hX41
            have hL33_1x41:=hL33_1.ext hX41
            replace hB41:BX w41.heap w33.heap.size [(.string ByteArray.empty),(.int .i64 0),(.slice none 0 0)]:=hB41
            refine e_setA (vs:=[(.string ((p.getD ((ex.num).toNat) Fn.zero).name)),(.int .i64 ((p.getD ((ex.num).toNat) Fn.zero).params)),ve40]) agg55 rfl rfl hx40.ones hB41 rfl rfl zN fun w44 hC44 hz44 hB44=>?_
            replace hB44:BX w44.heap w33.heap.size [(.string ((p.getD ((ex.num).toNat) Fn.zero).name)),(.int .i64 ((p.getD ((ex.num).toNat) Fn.zero).params)),ve40]:=hB44
            have hE44:Ext w w44:=hC44.below hE41 (fun c hc=>by have:=List.mem_singleton.1 hc; omega) hE41.size
            have hzs44:=hC44.size
            have hF45:=hL33_0x41.chg hC44 (fun hm=>by have:=List.mem_singleton.1 hm; omega)
            have hF46:=hL33_1x41.chg hC44 (fun hm=>by have:=List.mem_singleton.1 hm; omega)
            refine lw_nil (wp_seq (wp_seq (wp_plain _ [0,0,2,0,0,0,2,0,2,0,0,0,0,0] rfl (lw_tv 1 rfl (q_fldP (p:=(.pointer (some ⟨w33.heap.size,0,none⟩))) (b:=w33.heap.size) (o:=0) 1 fd55_1 rfl rfl zN (q_load (p:=(padd (.pointer (some ⟨w33.heap.size,0,none⟩)) 1)) (.inr rfl) (.int .i64 ((p.getD ((ex.num).toNat) Fn.zero).params)) one2 rfl (hB44.ldp (i:=1) sM) zN ?_))))))
            by_cases hc47:((ex.kids.length :Nat):Int)≠(p.getD ((ex.num).toNat) Fn.zero).params
            ·
             exact q_neq true rfl rfl (decide_eq_true hc47) zN (lw_tvn 10 rfl (c_cond_t rfl (wp_seq (wp_plain _ [0] rfl (lw_tvn 1 rfl (wp_ret (t_ret (b_ret (t_ret (post_ret [6] rfl (.bool false) rfl ⟨z231_0,hE44⟩))))))))))
            ·
             refine q_neq false rfl rfl (decide_eq_false hc47) zN (lw_tv 1 rfl (q_fldP (p:=(.pointer (some ⟨w1.heap.size,0,none⟩))) (b:=w1.heap.size) (o:=0) 2 fd174_2 rfl rfl (zS (e:=116) rfl rfl rfl) (q_load (p:=(padd (.pointer (some ⟨w1.heap.size,0,none⟩)) 2)) (.inr rfl) (.int .i64 ex.pick) one2 rfl (hF46.ldp (i:=2) sM) (zS (e:=116) rfl rfl rfl) (q_fldP (p:=(.pointer (some ⟨w33.heap.size,0,none⟩))) (b:=w33.heap.size) (o:=0) 2 fd55_2 rfl rfl (zS (e:=116) rfl rfl rfl) (q_load (p:=(padd (.pointer (some ⟨w33.heap.size,0,none⟩)) 2)) (.inr rfl) ve40 one53 rfl (hB44.ldp (i:=2) sM) (zS (e:=116) rfl rfl rfl) (q_len (v:=ve40) u53 rfl hx40.rn.isSl (zS (e:=116) rfl rfl rfl) ?_))))))
             refine q_sub (((p.getD (ex.num).toNat Fn.zero).outs.length:Int) - 1) rfl rfl (w64 oM oM) (zS (e:=116) rfl rfl rfl) (lw_callq 72 [] [] [(.int .i64 ex.pick),(.int .i64 ((0 :Nat):Int)),(.int .i64 (((p.getD (ex.num).toNat Fn.zero).outs.length:Int) - 1))] rfl rfl cf72 (zS (e:=116) rfl rfl rfl) (.bool (decide (((0 :Nat):Int)≤ex.pick) && decide (ex.pick≤(((p.getD (ex.num).toNat Fn.zero).outs.length:Int) - 1)))) (fun wq=>c_impl_within wq _ _ _ hex.rng.pick oM oM) (q_not (!(decide (((0 :Nat):Int)≤ex.pick) && decide (ex.pick≤(((p.getD (ex.num).toNat Fn.zero).outs.length:Int) - 1)))) rfl rfl (zS (e:=116) rfl rfl rfl) (lw_tvn 1 rfl ?_)))
             cases hb49:(!(decide (((0 :Nat):Int)≤ex.pick) && decide (ex.pick≤(((p.getD (ex.num).toNat Fn.zero).outs.length:Int) - 1))))
             ·
              refine c_cond_f (by first | rfl | (show Value.bool _ = _; rw [hb49])) (wp_skip (wp_seq (wp_plain _ [0,2,0,0,0,2,0,0,0,0,2,0,0,0,2,0,0,2,0,0,0,2,0,0,0,0,0] rfl (q_fldP (p:=(.pointer (some ⟨w1.heap.size,0,none⟩))) (b:=w1.heap.size) (o:=0) 0 fd174_0 rfl rfl zN (q_load (p:=(padd (.pointer (some ⟨w1.heap.size,0,none⟩)) 0)) (.inr rfl) (.int .i64 ex.kind) one2 rfl (hF46.ldp (i:=0) sM) zN ?_)))))
              by_cases hc50:ex.kind = ((10 :Nat):Int)
              ·
               refine q_eql true rfl rfl (decide_eq_true hc50) zN (lw_tv 1 rfl (q_fldP (p:=(.pointer (some ⟨w1.heap.size,0,none⟩))) (b:=w1.heap.size) (o:=0) 3 fd174_3 rfl rfl (zS (e:=129) rfl rfl rfl) (q_load (p:=(padd (.pointer (some ⟨w1.heap.size,0,none⟩)) 3)) (.inr rfl) (.int .i64 ex.count) one2 rfl (hF46.ldp (i:=3) sM) (zS (e:=129) rfl rfl rfl) ?_)))
               by_cases hc51:ex.count≠((0 :Nat):Int)
               ·
                exact q_neq true rfl rfl (decide_eq_true hc51) (zS (e:=129) rfl rfl rfl) (lw_tvn 20 rfl (c_cond_t rfl (wp_seq (wp_plain _ [0] rfl (lw_tvn 1 rfl (wp_ret (b_ret (t_ret (post_ret [6] rfl (.bool false) rfl ⟨z231_0,hE44⟩)))))))))
               ·
                refine q_neq false rfl rfl (decide_eq_false hc51) (zS (e:=129) rfl rfl rfl) (lw_tv 2 rfl (q_fldP (p:=(.pointer (some ⟨w1.heap.size,0,none⟩))) (b:=w1.heap.size) (o:=0) 0 fd174_0 rfl rfl (zS (e:=134) rfl rfl rfl) (q_load (p:=(padd (.pointer (some ⟨w1.heap.size,0,none⟩)) 0)) (.inr rfl) (.int .i64 ex.kind) one2 rfl (hF46.ldp (i:=0) sM) (zS (e:=134) rfl rfl rfl) ?_)))
                by_cases hc52:ex.kind = ((11 :Nat):Int)
                ·
                 refine q_eql true rfl rfl (decide_eq_true hc52) (zS (e:=134) rfl rfl rfl) (lw_tv 1 rfl (q_fldP (p:=(.pointer (some ⟨w33.heap.size,0,none⟩))) (b:=w33.heap.size) (o:=0) 2 fd55_2 rfl rfl (zS (e:=138) rfl rfl rfl) (q_load (p:=(padd (.pointer (some ⟨w33.heap.size,0,none⟩)) 2)) (.inr rfl) ve40 one53 rfl (hB44.ldp (i:=2) sM) (zS (e:=138) rfl rfl rfl) (q_len (v:=ve40) u53 rfl hx40.rn.isSl (zS (e:=138) rfl rfl rfl) (q_fldP (p:=(.pointer (some ⟨w33.heap.size,0,none⟩))) (b:=w33.heap.size) (o:=0) 1 fd55_1 rfl rfl (zS (e:=138) rfl rfl rfl) (q_load (p:=(padd (.pointer (some ⟨w33.heap.size,0,none⟩)) 1)) (.inr rfl) (.int .i64 ((p.getD ((ex.num).toNat) Fn.zero).params)) one2 rfl (hB44.ldp (i:=1) sM) (zS (e:=138) rfl rfl rfl) ?_))))))
                 by_cases hc53:((((p.getD ((ex.num).toNat) Fn.zero).outs).length :Nat):Int)≠(p.getD ((ex.num).toNat) Fn.zero).params
                 ·
                  exact q_neq true rfl rfl (decide_eq_true hc53) (zS (e:=138) rfl rfl rfl) (lw_tvn 8 rfl (c_cond_t rfl (wp_seq (wp_plain _ [0] rfl (lw_tvn 1 rfl (wp_ret (b_ret (t_ret (post_ret [6] rfl (.bool false) rfl ⟨z231_0,hE44⟩)))))))))
                 ·
                  refine q_neq false rfl rfl (decide_eq_false hc53) (zS (e:=138) rfl rfl rfl) (lw_tv 1 rfl (q_fldP (p:=(.pointer (some ⟨w1.heap.size,0,none⟩))) (b:=w1.heap.size) (o:=0) 3 fd174_3 rfl rfl (zS (e:=145) rfl rfl rfl) (q_load (p:=(padd (.pointer (some ⟨w1.heap.size,0,none⟩)) 3)) (.inr rfl) (.int .i64 ex.count) one2 rfl (hF46.ldp (i:=3) sM) (zS (e:=145) rfl rfl rfl) (lw_callq 72 [] [] [(.int .i64 ex.count),(.int .i64 ((0 :Nat):Int)),(.int .i64 ((8 :Nat):Int))] rfl rfl cf72 (zS (e:=145) rfl rfl rfl) (.bool (decide (((0 :Nat):Int)≤ex.count) && decide (ex.count≤((8 :Nat):Int)))) (fun wq=>c_impl_within wq _ _ _ hex.rng.count oM oM) (q_not (!(decide (((0 :Nat):Int)≤ex.count) && decide (ex.count≤((8 :Nat):Int)))) rfl rfl (zS (e:=145) rfl rfl rfl) ?_)))))
                  refine lw_tvn 3 rfl ?_
                  cases hb55:(!(decide (((0 :Nat):Int)≤ex.count) && decide (ex.count≤((8 :Nat):Int))))
                  ·
                   exact c_cond_f (by first | rfl | (show Value.bool _ = _; rw [hb55])) (wp_skip ⟨(),_,rfl,⟨rfl,rfl,rfl,trivial⟩,⟨hE44,hF45,hF46,z231_1⟩⟩)
                  ·
                   exact c_cond_t (by first | rfl | (show Value.bool _ = _; rw [hb55])) (wp_seq (wp_plain _ [0] rfl (lw_tvn 1 rfl (wp_ret (b_ret (t_ret (post_ret [6] rfl (.bool false) rfl ⟨z231_0,hE44⟩)))))))
                ·
                 exact q_eql false rfl rfl (decide_eq_false hc52) (zS (e:=134) rfl rfl rfl) (lw_tvn 15 rfl (c_cond_f rfl (wp_skip ⟨(),_,rfl,⟨rfl,rfl,rfl,trivial⟩,⟨hE44,hF45,hF46,z231_1⟩⟩)))
              ·
               refine q_eql false rfl rfl (decide_eq_false hc50) zN (lw_tv 6 rfl (q_fldP (p:=(.pointer (some ⟨w1.heap.size,0,none⟩))) (b:=w1.heap.size) (o:=0) 0 fd174_0 rfl rfl (zS (e:=134) rfl rfl rfl) (q_load (p:=(padd (.pointer (some ⟨w1.heap.size,0,none⟩)) 0)) (.inr rfl) (.int .i64 ex.kind) one2 rfl (hF46.ldp (i:=0) sM) (zS (e:=134) rfl rfl rfl) ?_)))
               by_cases hc56:ex.kind = ((11 :Nat):Int)
               ·
                refine q_eql true rfl rfl (decide_eq_true hc56) (zS (e:=134) rfl rfl rfl) (lw_tv 1 rfl (q_fldP (p:=(.pointer (some ⟨w33.heap.size,0,none⟩))) (b:=w33.heap.size) (o:=0) 2 fd55_2 rfl rfl (zS (e:=138) rfl rfl rfl) (q_load (p:=(padd (.pointer (some ⟨w33.heap.size,0,none⟩)) 2)) (.inr rfl) ve40 one53 rfl (hB44.ldp (i:=2) sM) (zS (e:=138) rfl rfl rfl) (q_len (v:=ve40) u53 rfl hx40.rn.isSl (zS (e:=138) rfl rfl rfl) (q_fldP (p:=(.pointer (some ⟨w33.heap.size,0,none⟩))) (b:=w33.heap.size) (o:=0) 1 fd55_1 rfl rfl (zS (e:=138) rfl rfl rfl) (q_load (p:=(padd (.pointer (some ⟨w33.heap.size,0,none⟩)) 1)) (.inr rfl) (.int .i64 ((p.getD ((ex.num).toNat) Fn.zero).params)) one2 rfl (hB44.ldp (i:=1) sM) (zS (e:=138) rfl rfl rfl) ?_))))))
                by_cases hc57:((((p.getD ((ex.num).toNat) Fn.zero).outs).length :Nat):Int)≠(p.getD ((ex.num).toNat) Fn.zero).params
                ·
                 exact q_neq true rfl rfl (decide_eq_true hc57) (zS (e:=138) rfl rfl rfl) (lw_tvn 8 rfl (c_cond_t rfl (wp_seq (wp_plain _ [0] rfl (lw_tvn 1 rfl (wp_ret (b_ret (t_ret (post_ret [6] rfl (.bool false) rfl ⟨z231_0,hE44⟩)))))))))
                ·
                 refine q_neq false rfl rfl (decide_eq_false hc57) (zS (e:=138) rfl rfl rfl) (lw_tv 1 rfl (q_fldP (p:=(.pointer (some ⟨w1.heap.size,0,none⟩))) (b:=w1.heap.size) (o:=0) 3 fd174_3 rfl rfl (zS (e:=145) rfl rfl rfl) (q_load (p:=(padd (.pointer (some ⟨w1.heap.size,0,none⟩)) 3)) (.inr rfl) (.int .i64 ex.count) one2 rfl (hF46.ldp (i:=3) sM) (zS (e:=145) rfl rfl rfl) (lw_callq 72 [] [] [(.int .i64 ex.count),(.int .i64 ((0 :Nat):Int)),(.int .i64 ((8 :Nat):Int))] rfl rfl cf72 (zS (e:=145) rfl rfl rfl) (.bool (decide (((0 :Nat):Int)≤ex.count) && decide (ex.count≤((8 :Nat):Int)))) (fun wq=>c_impl_within wq _ _ _ hex.rng.count oM oM) (q_not (!(decide (((0 :Nat):Int)≤ex.count) && decide (ex.count≤((8 :Nat):Int)))) rfl rfl (zS (e:=145) rfl rfl rfl) ?_)))))
                 refine lw_tvn 3 rfl ?_
                 cases hb59:(!(decide (((0 :Nat):Int)≤ex.count) && decide (ex.count≤((8 :Nat):Int))))
                 ·
                  exact c_cond_f (by first | rfl | (show Value.bool _ = _; rw [hb59])) (wp_skip ⟨(),_,rfl,⟨rfl,rfl,rfl,trivial⟩,⟨hE44,hF45,hF46,z231_1⟩⟩)
                 ·
                  exact c_cond_t (by first | rfl | (show Value.bool _ = _; rw [hb59])) (wp_seq (wp_plain _ [0] rfl (lw_tvn 1 rfl (wp_ret (b_ret (t_ret (post_ret [6] rfl (.bool false) rfl ⟨z231_0,hE44⟩)))))))
               ·
                exact q_eql false rfl rfl (decide_eq_false hc56) (zS (e:=134) rfl rfl rfl) (lw_tvn 15 rfl (c_cond_f rfl (wp_skip ⟨(),_,rfl,⟨rfl,rfl,rfl,trivial⟩,⟨hE44,hF45,hF46,z231_1⟩⟩)))
             ·
              exact c_cond_t (by first | rfl | (show Value.bool _ = _; rw [hb49])) (wp_seq (wp_plain _ [0] rfl (lw_tvn 1 rfl (wp_ret (t_ret (b_ret (t_ret (post_ret [6] rfl (.bool false) rfl ⟨z231_0,hE44⟩))))))))
           ·
            exact c_cond_t (by first | rfl | (show Value.bool _ = _; rw [hb39])) (wp_seq (wp_plain _ [0] rfl (lw_tvn 1 rfl (wp_ret (t_ret (b_ret (t_ret (post_ret [6] rfl (.bool false) rfl ⟨z231_0,hE33⟩))))))))
      ·
       refine c_cond_t (by first | rfl | (show Value.bool _ = _; rw [hb24])) (wp_seq (wp_plain _ [0,0,0,0,2,0,0,0,0,0,0] rfl ?_))
       have h5k:=of_decide_eq_true (h5b.symm.trans ‹_›)
       clear h5b
       refine lw_tv 1 rfl (q_not (!pl) rfl rfl zN (lw_tv 1 rfl ?_))
       cases hb60:(!pl)
       ·
        refine q_fldP (p:=(.pointer (some ⟨w1.heap.size,0,none⟩))) (b:=w1.heap.size) (o:=0) 1 fd174_1 rfl rfl (zS (e:=60) rfl rfl rfl) (q_load (p:=(padd (.pointer (some ⟨w1.heap.size,0,none⟩)) 1)) (.inr rfl) (.int .i64 ex.num) one2 rfl (hL17_1.ldp (i:=1) sM) (zS (e:=60) rfl rfl rfl) ?_)
        by_cases hc61:ex.num≠((0 :Nat):Int)
        ·
         exact q_neq true rfl rfl (decide_eq_true hc61) (zS (e:=60) rfl rfl rfl) (lw_tvn 5 rfl (c_cond_t rfl (wp_seq (wp_plain _ [0] rfl (lw_tvn 1 rfl (wp_ret (b_ret (t_ret (post_ret [6] rfl (.bool false) rfl ⟨z231_0,hE17⟩)))))))))
        ·
         refine q_neq false rfl rfl (decide_eq_false hc61) (zS (e:=60) rfl rfl rfl) (lw_tv 3 rfl ?_)
         by_cases hc62:((ex.kids.length :Nat):Int)≠((2 :Nat):Int)
         ·
          exact q_neq true rfl rfl (decide_eq_true hc62) (zS (e:=65) rfl rfl rfl) (lw_tvn 1 rfl (c_cond_t rfl (wp_seq (wp_plain _ [0] rfl (lw_tvn 1 rfl (wp_ret (b_ret (t_ret (post_ret [6] rfl (.bool false) rfl ⟨z231_0,hE17⟩)))))))))
         ·
          exact q_neq false rfl rfl (decide_eq_false hc62) (zS (e:=65) rfl rfl rfl) (lw_tvn 1 rfl (c_cond_f rfl (wp_skip ⟨(),_,rfl,⟨rfl,rfl,rfl,trivial⟩,⟨hE17,hL17_0,hL17_1,z231_1⟩⟩)))
       ·
        exact lw_tvn 8 rfl (c_cond_t rfl (wp_seq (wp_plain _ [0] rfl (lw_tvn 1 rfl (wp_ret (b_ret (t_ret (post_ret [6] rfl (.bool false) rfl ⟨z231_0,hE17⟩))))))))
  ·
   clear hL4_1 hL4_0 hE4 hzs4
   rintro u ρ8 w8 ⟨hE8,hL8_0,hL8_1,hwn⟩
   have hzs8:w.heap.size≤w8.heap.size:=hE8.size
   have hq63:=hL8_0.lt
   have hq64:=hL8_1.lt
   refine wp_seq (wp_seq (wp_plain _ [0,2,0,0] rfl (q_fldP (p:=(.pointer (some ⟨w1.heap.size,0,none⟩))) (b:=w1.heap.size) (o:=0) 4 fd174_4 rfl rfl zN (q_load (p:=(padd (.pointer (some ⟨w1.heap.size,0,none⟩)) 4)) (.inr rfl) ve one53 rfl (hL8_1.ldp (i:=4) sM) zN (q_len (v:=ve) u53 rfl hex.rn.isSl zN (lw_tvn 1 rfl (wp_block ?_)))))))
   refine c_loop (S:=Nat) (fun (k:Nat)=>([(156,(.int .i64 ((k :Nat):Int))),(2,(.int .i64 vars)),(3,(.pointer (some ⟨w.heap.size,0,none⟩))),(4,(.pointer (some ⟨w1.heap.size,0,none⟩))),(154,ve),(155,(.int .i64 ((ex.kids.length :Nat):Int)))]:List (Nat × Value))) (fun (k:Nat) (W:World)=>Ext w W∧BX W.heap w.heap.size [vp,(.int .i64 funcs)]∧BX W.heap w1.heap.size [(.int .i64 ex.kind),(.int .i64 ex.num),(.int .i64 ex.pick),(.int .i64 ex.count),ve]∧k≤ex.kids.length∧(∀ j,j < k→wf p funcs (ex.kids.getD j Ex.zero) (if ex.kind = 9∧j = 1 then vars + 1 else vars) = true)) (fun (k:Nat)=>ex.kids.length - k) 0 ⟨rfl,rfl,rfl,rfl,rfl,rfl,trivial⟩ ⟨hE8,hL8_0,hL8_1,sD,(by intro j hj; omega)⟩ ?_
   clear hL8_1 hL8_0 hE8 hzs8
   rintro k ρ65 w65 ⟨hE65,hL65_0,hL65_1,hp65_0,hall⟩
   have hzs65:w.heap.size≤w65.heap.size:=hE65.size
   have hq66:=hL65_0.lt
   have hq67:=hL65_1.lt
   refine wp_seq (wp_plain _ [0] rfl ?_)
   by_cases hc68:((k :Nat):Int) < ((ex.kids.length :Nat):Int)
   ·
    refine q_lss true rfl rfl (decide_eq_true hc68) zN (lw_nil (wp_seq (c_cond_t rfl (wp_skip (wp_seq (wp_block (wp_seq (wp_plain _ [0,0,2,3,0,4] rfl ?_))))))))
    have hkd:=kd_at (l:=ex.kids) (k:=k) oM
    refine lw_tv 1 rfl (q_idx (v:=ve) k u53 tiS174 rfl rfl hex.rn.isSl rfl sD zN ?_)
    obtain ⟨cs69,hr69,hl69⟩:=hex.rn.get (good_rEx dex) Ex.zero (k:=k) sD
    obtain ⟨dd69,ve69,hd69,rfl,hx69⟩:=RX.of hr69
    have hln69:=hx69.rn.lenle
    unfold maxLen at hln69
    refine q_loadA (p:=eptr ve k 5) (.inr rfl) [(.int .i64 ((ex.kids.getD k Ex.zero).kind)),(.int .i64 ((ex.kids.getD k Ex.zero).num)),(.int .i64 ((ex.kids.getD k Ex.zero).pick)),(.int .i64 ((ex.kids.getD k Ex.zero).count)),ve69] agg174 rfl (fun wq9 hw9=>hl69 wq9 (Chg.of_ext [] (hE65.trans hw9))) rfl zN ?_
    have hq71:=hL65_0.lt
    have hq72:=hL65_1.lt
    refine r_allocA (z:=.agg #[.int .i64 0,.int .i64 0,.int .i64 0,.int .i64 0,.slice none 0 0]) zr174 zN fun w70 hX70 hz70 hB70=>?_
    have hzs70:=hX70.size
    have hE70:=hE65.trans hX70
    have hL65_0x70:=hL65_0.ext hX70
    have hL65_1x70:=hL65_1.ext hX70
    replace hB70:BX w70.heap w65.heap.size [(.int .i64 0),(.int .i64 0),(.int .i64 0),(.int .i64 0),(.slice none 0 0)]:=hB70
    refine lw_tv 1 rfl (e_setA (vs:=[(.int .i64 ((ex.kids.getD k Ex.zero).kind)),(.int .i64 ((ex.kids.getD k Ex.zero).num)),(.int .i64 ((ex.kids.getD k Ex.zero).pick)),(.int .i64 ((ex.kids.getD k Ex.zero).count)),ve69]) agg174 rfl rfl hx69.ones hB70 rfl rfl zN fun w73 hC73 hz73 hB73=>?_)
    replace hB73:BX w73.heap w65.heap.size [(.int .i64 ((ex.kids.getD k Ex.zero).kind)),(.int .i64 ((ex.kids.getD k Ex.zero).num)),(.int .i64 ((ex.kids.getD k Ex.zero).pick)),(.int .i64 ((ex.kids.getD k Ex.zero).count)),ve69]:=hB73
    have hE73:Ext w w73:=hC73.below hE70 (fun c hc=>by have:=List.mem_singleton.1 hc; omega) hE70.size
    have hzs73:=hC73.size
    have hF74:=hL65_0x70.chg hC73 (fun hm=>by have:=List.mem_singleton.1 hm; omega)
    have hF75:=hL65_1x70.chg hC73 (fun hm=>by have:=List.mem_singleton.1 hm; omega)
    refine lw_nil (wp_seq (wp_plain _ [0,0] rfl (lw_tvn 2 rfl (wp_seq (wp_seq (wp_plain _ [0,2,0,0,0,0,0] rfl (q_fldP (p:=(.pointer (some ⟨w1.heap.size,0,none⟩))) (b:=w1.heap.size) (o:=0) 0 fd174_0 rfl rfl zN (q_load (p:=(padd (.pointer (some ⟨w1.heap.size,0,none⟩)) 0)) (.inr rfl) (.int .i64 ex.kind) one2 rfl (hF75.ldp (i:=0) sM) zN ?_))))))))
    by_cases hc76:ex.kind = ((9 :Nat):Int)
    ·
     refine q_eql true rfl rfl (decide_eq_true hc76) zN (lw_tv 2 rfl ?_)
     by_cases hc77:((k :Nat):Int) = ((1 :Nat):Int)
     ·
      refine q_eql true rfl rfl (decide_eq_true hc77) (zS (e:=165) rfl rfl rfl) (lw_tvn 1 rfl (c_cond_t rfl (wp_plain _ [0,0,0] rfl (lw_tv 1 rfl (q_add (vars + 1) rfl rfl (w64 oM oM) zN (lw_tvn 1 rfl (wp_seq (wp_plain _ [2,2,0,3,0] rfl (q_loadA (p:=(.pointer (some ⟨w.heap.size,0,none⟩))) (.inr rfl) [vp,(.int .i64 funcs)] agg237 rfl (fun wq9 hw9=>LD.of_box (BX.ext (w:=w73) hF74 hw9)) rfl zN (q_loadA (p:=(.pointer (some ⟨w65.heap.size,0,none⟩))) (.inr rfl) [(.int .i64 ((ex.kids.getD k Ex.zero).kind)),(.int .i64 ((ex.kids.getD k Ex.zero).num)),(.int .i64 ((ex.kids.getD k Ex.zero).pick)),(.int .i64 ((ex.kids.getD k Ex.zero).count)),ve69] agg174 rfl (fun wq9 hw9=>LD.of_box (BX.ext (w:=w73) hB73 hw9)) rfl zN (lw_tv 1 rfl ?_)))))))))))
      refine lw_call 231 [] [] [(.agg #[vp,(.int .i64 funcs)]),(.agg #[(.int .i64 ((ex.kids.getD k Ex.zero).kind)),(.int .i64 ((ex.kids.getD k Ex.zero).num)),(.int .i64 ((ex.kids.getD k Ex.zero).pick)),(.int .i64 ((ex.kids.getD k Ex.zero).count)),ve69]),(.int .i64 (vars + 1))] rfl rfl cf231 zN (ih dd69 oM _ dp vp (p) (funcs) ve69 (ex.kids.getD k Ex.zero) _ (hp.ext (good_rdS (good_rFn dp)) hE73) _hfuncs (hx69.ext hE73) oM oM oM) ?_
      rintro e78 w78 ⟨rfl,hX78⟩
      refine ⟨_,rfl,hX78,?_⟩
      have hzs78:=hX78.size
      have hE78:=hE73.trans hX78
      have hF74x78:=hF74.ext hX78
      have hF75x78:=hF75.ext hX78
      have hB73x78:=hB73.ext hX78
      refine q_not (!(wf p funcs (ex.kids.getD k Ex.zero) (vars + 1))) rfl rfl zN (lw_nil ?_)
      cases hb79:(!(wf p funcs (ex.kids.getD k Ex.zero) (vars + 1)))
      ·
       refine c_cond_f (by first | rfl | (show Value.bool _ = _; rw [hb79])) (wp_skip (wp_plain _ [0,0] rfl (q_add ((k + 1 :Nat):Int) rfl rfl (w64n oM sD) zN (lw_tvn 1 rfl ?_))))
       exact ⟨(k + 1),_,rfl,⟨rfl,rfl,rfl,rfl,rfl,rfl,trivial⟩,⟨hE78,hF74x78,hF75x78,sD,z231_2⟩,by first | omega | (dsimp only; omega)⟩
      ·
       exact c_cond_t (by first | rfl | (show Value.bool _ = _; rw [hb79])) (wp_seq (wp_plain _ [0] rfl (lw_tvn 1 rfl (wp_ret (b_ret (t_ret (t_ret (b_ret (t_ret (post_ret [6] rfl (.bool false) rfl ⟨z231_0,hE78⟩))))))))))
     ·
      refine q_eql false rfl rfl (decide_eq_false hc77) (zS (e:=165) rfl rfl rfl) (lw_tvn 1 rfl (c_cond_f rfl (wp_skip (wp_seq (wp_plain _ [2,2,0,3,0] rfl (q_loadA (p:=(.pointer (some ⟨w.heap.size,0,none⟩))) (.inr rfl) [vp,(.int .i64 funcs)] agg237 rfl (fun wq9 hw9=>LD.of_box (BX.ext (w:=w73) hF74 hw9)) rfl zN (q_loadA (p:=(.pointer (some ⟨w65.heap.size,0,none⟩))) (.inr rfl) [(.int .i64 ((ex.kids.getD k Ex.zero).kind)),(.int .i64 ((ex.kids.getD k Ex.zero).num)),(.int .i64 ((ex.kids.getD k Ex.zero).pick)),(.int .i64 ((ex.kids.getD k Ex.zero).count)),ve69] agg174 rfl (fun wq9 hw9=>LD.of_box (BX.ext (w:=w73) hB73 hw9)) rfl zN (lw_tv 1 rfl ?_))))))))
      refine lw_call 231 [] [] [(.agg #[vp,(.int .i64 funcs)]),(.agg #[(.int .i64 ((ex.kids.getD k Ex.zero).kind)),(.int .i64 ((ex.kids.getD k Ex.zero).num)),(.int .i64 ((ex.kids.getD k Ex.zero).pick)),(.int .i64 ((ex.kids.getD k Ex.zero).count)),ve69]),(.int .i64 vars)] rfl rfl cf231 zN (ih dd69 oM _ dp vp (p) (funcs) ve69 (ex.kids.getD k Ex.zero) _ (hp.ext (good_rdS (good_rFn dp)) hE73) _hfuncs (hx69.ext hE73) _hvars oM oM) ?_
      rintro e80 w80 ⟨rfl,hX80⟩
      refine ⟨_,rfl,hX80,?_⟩
      have hzs80:=hX80.size
      have hE80:=hE73.trans hX80
      have hF74x80:=hF74.ext hX80
      have hF75x80:=hF75.ext hX80
      have hB73x80:=hB73.ext hX80
      refine q_not (!(wf p funcs (ex.kids.getD k Ex.zero) vars)) rfl rfl zN (lw_nil ?_)
      cases hb81:(!(wf p funcs (ex.kids.getD k Ex.zero) vars))
      ·
       refine c_cond_f (by first | rfl | (show Value.bool _ = _; rw [hb81])) (wp_skip (wp_plain _ [0,0] rfl (q_add ((k + 1 :Nat):Int) rfl rfl (w64n oM sD) zN (lw_tvn 1 rfl ?_))))
       exact ⟨(k + 1),_,rfl,⟨rfl,rfl,rfl,rfl,rfl,rfl,trivial⟩,⟨hE80,hF74x80,hF75x80,sD,z231_2⟩,by first | omega | (dsimp only; omega)⟩
      ·
       exact c_cond_t (by first | rfl | (show Value.bool _ = _; rw [hb81])) (wp_seq (wp_plain _ [0] rfl (lw_tvn 1 rfl (wp_ret (b_ret (t_ret (t_ret (b_ret (t_ret (post_ret [6] rfl (.bool false) rfl ⟨z231_0,hE80⟩))))))))))
    ·
     refine q_eql false rfl rfl (decide_eq_false hc76) zN (lw_tvn 4 rfl (c_cond_f rfl (wp_skip (wp_seq (wp_plain _ [2,2,0,3,0] rfl (q_loadA (p:=(.pointer (some ⟨w.heap.size,0,none⟩))) (.inr rfl) [vp,(.int .i64 funcs)] agg237 rfl (fun wq9 hw9=>LD.of_box (BX.ext (w:=w73) hF74 hw9)) rfl zN (q_loadA (p:=(.pointer (some ⟨w65.heap.size,0,none⟩))) (.inr rfl) [(.int .i64 ((ex.kids.getD k Ex.zero).kind)),(.int .i64 ((ex.kids.getD k Ex.zero).num)),(.int .i64 ((ex.kids.getD k Ex.zero).pick)),(.int .i64 ((ex.kids.getD k Ex.zero).count)),ve69] agg174 rfl (fun wq9 hw9=>LD.of_box (BX.ext (w:=w73) hB73 hw9)) rfl zN (lw_tv 1 rfl ?_))))))))
     refine lw_call 231 [] [] [(.agg #[vp,(.int .i64 funcs)]),(.agg #[(.int .i64 ((ex.kids.getD k Ex.zero).kind)),(.int .i64 ((ex.kids.getD k Ex.zero).num)),(.int .i64 ((ex.kids.getD k Ex.zero).pick)),(.int .i64 ((ex.kids.getD k Ex.zero).count)),ve69]),(.int .i64 vars)] rfl rfl cf231 zN (ih dd69 oM _ dp vp (p) (funcs) ve69 (ex.kids.getD k Ex.zero) _ (hp.ext (good_rdS (good_rFn dp)) hE73) _hfuncs (hx69.ext hE73) _hvars oM oM) ?_
     rintro e82 w82 ⟨rfl,hX82⟩
     refine ⟨_,rfl,hX82,?_⟩
     have hzs82:=hX82.size
     have hE82:=hE73.trans hX82
     have hF74x82:=hF74.ext hX82
     have hF75x82:=hF75.ext hX82
     have hB73x82:=hB73.ext hX82
     refine q_not (!(wf p funcs (ex.kids.getD k Ex.zero) vars)) rfl rfl zN (lw_nil ?_)
     cases hb83:(!(wf p funcs (ex.kids.getD k Ex.zero) vars))
     ·
      refine c_cond_f (by first | rfl | (show Value.bool _ = _; rw [hb83])) (wp_skip (wp_plain _ [0,0] rfl (q_add ((k + 1 :Nat):Int) rfl rfl (w64n oM sD) zN (lw_tvn 1 rfl ?_))))
      exact ⟨(k + 1),_,rfl,⟨rfl,rfl,rfl,rfl,rfl,rfl,trivial⟩,⟨hE82,hF74x82,hF75x82,sD,z231_2⟩,by first | omega | (dsimp only; omega)⟩
     ·
      exact c_cond_t (by first | rfl | (show Value.bool _ = _; rw [hb83])) (wp_seq (wp_plain _ [0] rfl (lw_tvn 1 rfl (wp_ret (b_ret (t_ret (t_ret (b_ret (t_ret (post_ret [6] rfl (.bool false) rfl ⟨z231_0,hE82⟩))))))))))
   ·
    exact q_lss false rfl rfl (decide_eq_false hc68) zN (lw_nil (wp_seq (c_cond_f rfl (wp_exit (t_exit (t_exit (c_exit_here (wp_seq (wp_plain _ [0] rfl (lw_tvn 1 rfl (wp_ret (post_ret [6] rfl (.bool true) rfl ⟨z231_0,hE65⟩))))))))))))
end Go.Proofs.YtnokbaiemimhjaaGreat
namespace Go.Proofs.YtnokbaiemimhjaaGreat
open Go Go.RowKit
set_option linter.unusedVariables false
set_option linter.unusedSimpArgs false
set_option maxHeartbeats 4000000
set_option maxRecDepth 100000
attribute [local irreducible] LW
theorem nm_bad {s:ByteArray} {k:Nat} (hk:k < s.size) (h:(sAt s k < 97∨122 < sAt s k)∧(k = 0∨sAt s k < 48∨57 < sAt s k)):false = nmB s:=by
  have hc:chB s k = false:=by
    unfold chB
    rcases h with ⟨h1 | h1,h2 | h2 | h2⟩ <;> simp <;> omega
  unfold nmB
  rw [allR_fail hk hc,Bool.and_false]
theorem ch_ok {s:ByteArray} {k:Nat} (h:(97≤sAt s k∧sAt s k≤122)∨(k≠0∧48≤sAt s k∧sAt s k≤57)):chB s k = true:=by
  unfold chB
  rcases h with h | h <;> simp <;> omega
theorem nm_end {s:ByteArray} {k:Nat} {b:Bool} (h:(List.range k).all (chB s) = true) (hk:k = s.size) (hb:b = (decide (1≤s.size) && decide (s.size≤12))):b = nmB s:=by
  subst hk
  unfold nmB
  rw [h,Bool.and_true,hb]
theorem z194_0 {p:Prop} (h:p:=by first | exact ret_bool (nm_bad (k:=k) oM oM) | exact ret_bool (nm_end hq oM (by first | (rw [decide_eq_true (show 1≤s.size by omega),Bool.true_and]; exact decide_eq_decide.2 oM) | (rw [decide_eq_false (show ¬ 1≤s.size by omega)]; rfl)))):p:=h
theorem c_impl_IsName (w:World) (s:ByteArray)  (hl:s.size≤1000000000) :
  Calls Tryz.prog 194 #[.string s] w (fun e w'=>e = .returned (.bool (nmB s))∧w' = w):=by
 refine calls_mk [.string s] 44 Tryz.func194 rfl rfl sM ?_
 have hE0:w = w:=rfl
 refine wp_seq (wp_plain _ [0] rfl (lw_tvn 1 rfl (wp_seq (wp_seq (wp_plain _ [0,0,0] rfl (lw_tv 1 rfl (q_lens (s:=s) u9 rfl zN (lw_tvn 1 rfl (wp_block ?_)))))))))
 refine c_loop (S:=Nat) (fun (k:Nat)=>([(6,(.int .i64 ((k :Nat):Int))),(0,(.string s)),(5,(.int .i64 ((s.size :Nat):Int)))]:List (Nat × Value))) (fun (k:Nat) (W:World)=>W = w∧k≤s.size∧(List.range k).all (chB s) = true) (fun (k:Nat)=>s.size - k) 0 ⟨rfl,rfl,rfl,trivial⟩ ⟨hE0,sD,(by rfl)⟩ ?_
 clear hE0
 rintro k ρ1 w1 ⟨hE1,hp1_0,hq⟩
 refine wp_seq (wp_plain _ [0] rfl ?_)
 by_cases hc2:((k :Nat):Int) < ((s.size :Nat):Int)
 ·
  refine q_lss true rfl rfl (decide_eq_true hc2) zN (lw_nil (wp_seq (c_cond_t rfl (wp_skip (wp_seq (wp_block (wp_seq (wp_plain _ [0,0] rfl (lw_tvn 2 rfl (wp_seq (wp_plain _ [0,0,0,0,0,0,0,0,0,0,0,0,0,0,0,0,0,0,0,0,0,0,0,0,0,0] rfl (lw_tv 2 rfl (q_index (s:=s) k u9 rfl rfl rfl sD zN ?_)))))))))))))
  by_cases hc3:((sAt s k :Nat):Int) < 97
  ·
   refine q_lss true rfl rfl (decide_eq_true hc3) zN (lw_tv 8 rfl ?_)
   by_cases hc4:((k :Nat):Int) = ((0 :Nat):Int)
   ·
    exact q_eql true rfl rfl (decide_eq_true hc4) (zS (e:=19) rfl rfl rfl) (lw_tvn 13 rfl (c_cond_t rfl (wp_seq (wp_plain _ [0] rfl (lw_tvn 1 rfl (wp_ret (b_ret (t_ret (t_ret (b_ret (t_ret (post_ret [2] rfl (.bool false) rfl ⟨z194_0,hE1⟩))))))))))))
   ·
    refine q_eql false rfl rfl (decide_eq_false hc4) (zS (e:=19) rfl rfl rfl) (lw_tv 3 rfl (q_index (s:=s) k u9 rfl rfl rfl sD (zS (e:=22) rfl rfl rfl) ?_))
    by_cases hc5:((sAt s k :Nat):Int) < 48
    ·
     exact q_lss true rfl rfl (decide_eq_true hc5) (zS (e:=22) rfl rfl rfl) (lw_tvn 8 rfl (c_cond_t rfl (wp_seq (wp_plain _ [0] rfl (lw_tvn 1 rfl (wp_ret (b_ret (t_ret (t_ret (b_ret (t_ret (post_ret [2] rfl (.bool false) rfl ⟨z194_0,hE1⟩))))))))))))
    ·
     refine q_lss false rfl rfl (decide_eq_false hc5) (zS (e:=22) rfl rfl rfl) (lw_tv 4 rfl (q_index (s:=s) k u9 rfl rfl rfl sD (zS (e:=28) rfl rfl rfl) ?_))
     by_cases hc6:57 < ((sAt s k :Nat):Int)
     ·
      exact q_gtr true rfl rfl (decide_eq_true hc6) (zS (e:=28) rfl rfl rfl) (lw_tvn 2 rfl (c_cond_t rfl (wp_seq (wp_plain _ [0] rfl (lw_tvn 1 rfl (wp_ret (b_ret (t_ret (t_ret (b_ret (t_ret (post_ret [2] rfl (.bool false) rfl ⟨z194_0,hE1⟩))))))))))))
     ·
      refine q_gtr false rfl rfl (decide_eq_false hc6) (zS (e:=28) rfl rfl rfl) (lw_tvn 2 rfl (c_cond_f rfl (wp_skip (wp_plain _ [0,0] rfl (q_add ((k + 1 :Nat):Int) rfl rfl (w64n oM sD) zN (lw_tvn 1 rfl ?_))))))
      exact ⟨(k + 1),_,rfl,⟨rfl,rfl,rfl,trivial⟩,⟨hE1,sD,(by exact allR_succ hq (ch_ok oM))⟩,by first | omega | (dsimp only; omega)⟩
  ·
   refine q_lss false rfl rfl (decide_eq_false hc3) zN (lw_tv 3 rfl (q_index (s:=s) k u9 rfl rfl rfl sD (zS (e:=13) rfl rfl rfl) ?_))
   by_cases hc7:122 < ((sAt s k :Nat):Int)
   ·
    refine q_gtr true rfl rfl (decide_eq_true hc7) (zS (e:=13) rfl rfl rfl) (lw_tv 3 rfl ?_)
    by_cases hc8:((k :Nat):Int) = ((0 :Nat):Int)
    ·
     exact q_eql true rfl rfl (decide_eq_true hc8) (zS (e:=19) rfl rfl rfl) (lw_tvn 13 rfl (c_cond_t rfl (wp_seq (wp_plain _ [0] rfl (lw_tvn 1 rfl (wp_ret (b_ret (t_ret (t_ret (b_ret (t_ret (post_ret [2] rfl (.bool false) rfl ⟨z194_0,hE1⟩))))))))))))
    ·
     refine q_eql false rfl rfl (decide_eq_false hc8) (zS (e:=19) rfl rfl rfl) (lw_tv 3 rfl (q_index (s:=s) k u9 rfl rfl rfl sD (zS (e:=22) rfl rfl rfl) ?_))
     by_cases hc9:((sAt s k :Nat):Int) < 48
     ·
      exact q_lss true rfl rfl (decide_eq_true hc9) (zS (e:=22) rfl rfl rfl) (lw_tvn 8 rfl (c_cond_t rfl (wp_seq (wp_plain _ [0] rfl (lw_tvn 1 rfl (wp_ret (b_ret (t_ret (t_ret (b_ret (t_ret (post_ret [2] rfl (.bool false) rfl ⟨z194_0,hE1⟩))))))))))))
     ·
      refine q_lss false rfl rfl (decide_eq_false hc9) (zS (e:=22) rfl rfl rfl) (lw_tv 4 rfl (q_index (s:=s) k u9 rfl rfl rfl sD (zS (e:=28) rfl rfl rfl) ?_))
      by_cases hc10:57 < ((sAt s k :Nat):Int)
      ·
       exact q_gtr true rfl rfl (decide_eq_true hc10) (zS (e:=28) rfl rfl rfl) (lw_tvn 2 rfl (c_cond_t rfl (wp_seq (wp_plain _ [0] rfl (lw_tvn 1 rfl (wp_ret (b_ret (t_ret (t_ret (b_ret (t_ret (post_ret [2] rfl (.bool false) rfl ⟨z194_0,hE1⟩))))))))))))
      ·
       refine q_gtr false rfl rfl (decide_eq_false hc10) (zS (e:=28) rfl rfl rfl) (lw_tvn 2 rfl (c_cond_f rfl (wp_skip (wp_plain _ [0,0] rfl (q_add ((k + 1 :Nat):Int) rfl rfl (w64n oM sD) zN (lw_tvn 1 rfl ?_))))))
       exact ⟨(k + 1),_,rfl,⟨rfl,rfl,rfl,trivial⟩,⟨hE1,sD,(by exact allR_succ hq (ch_ok oM))⟩,by first | omega | (dsimp only; omega)⟩
   ·
    refine q_gtr false rfl rfl (decide_eq_false hc7) (zS (e:=13) rfl rfl rfl) (lw_tvn 17 rfl (c_cond_f rfl (wp_skip (wp_plain _ [0,0] rfl (q_add ((k + 1 :Nat):Int) rfl rfl (w64n oM sD) zN (lw_tvn 1 rfl ?_))))))
    exact ⟨(k + 1),_,rfl,⟨rfl,rfl,rfl,trivial⟩,⟨hE1,sD,(by exact allR_succ hq (ch_ok oM))⟩,by first | omega | (dsimp only; omega)⟩
 ·
  refine q_lss false rfl rfl (decide_eq_false hc2) zN (lw_nil (wp_seq (c_cond_f rfl (wp_exit (t_exit (t_exit (c_exit_here (wp_seq (wp_plain _ [0,0,0,0,0,0,0,0,0] rfl (lw_tv 1 rfl (q_lens (s:=s) u9 rfl zN ?_)))))))))))
  by_cases hc11:((1 :Nat):Int)≤((s.size :Nat):Int)
  ·
   exact q_geq true rfl rfl (decide_eq_true hc11) zN (lw_tv 2 rfl (q_lens (s:=s) u9 rfl (zS (e:=39) rfl rfl rfl) (q_leq (decide (((s.size :Nat):Int)≤((12 :Nat):Int))) rfl rfl rfl (zS (e:=39) rfl rfl rfl) (lw_tvn 2 rfl (wp_ret (post_ret [2] rfl (.bool (decide (((s.size :Nat):Int)≤((12 :Nat):Int)))) rfl ⟨z194_0,hE1⟩))))))
  ·
   exact q_geq false rfl rfl (decide_eq_false hc11) zN (lw_tvn 6 rfl (wp_ret (post_ret [2] rfl (.bool false) rfl ⟨z194_0,hE1⟩)))
theorem c_impl_ValidProgram_1 (w:World) (dx:Nat) (vo:Value) (x:Fn) (bf:Nat) (vf:Value) (f:Fn) (hx:RF [] dx w.heap vo x) (hBf:BX w.heap bf [.string f.name,.int .i64 f.params,vf])  :
  Calls Tryz.prog 196 #[(.agg #[(.string x.name),(.int .i64 x.params),vo]),.pointer (some ⟨bf,0,none⟩)] w (fun e w'=>e = .returned (.bool (strE x.name f.name))∧Ext w w'):=by
 refine calls_mk [(.agg #[(.string x.name),(.int .i64 x.params),vo]),.pointer (some ⟨bf,0,none⟩)] 9 Tryz.func196 rfl rfl sM ?_
 have hE0:Ext w w:=Ext.refl w
 have hl_vo:=hx.rn.lenle
 unfold maxLen at hl_vo
 refine wp_seq (wp_plain _ [3,0] rfl ?_)
 have hq2:=hBf.lt
 refine r_boxA (cs:=#[(.string x.name),(.int .i64 x.params),vo]) rfl zN fun w1 hX1 hz1 hB1=>?_
 have hzs1:=hX1.size
 have hE1:=hE0.trans hX1
 have hBfx1:=hBf.ext hX1
 replace hB1:BX w1.heap w.heap.size [(.string x.name),(.int .i64 x.params),vo]:=hB1
 exact lw_tvn 1 rfl (wp_seq (wp_plain _ [0,2,0,2,0,0] rfl (q_fldP (p:=(.pointer (some ⟨w.heap.size,0,none⟩))) (b:=w.heap.size) (o:=0) 0 fd55_0 rfl rfl zN (q_load (p:=(padd (.pointer (some ⟨w.heap.size,0,none⟩)) 0)) (.inr rfl) (.string x.name) one9 rfl (hB1.ldp (i:=0) sM) zN (q_fldP (p:=(.pointer (some ⟨bf,0,none⟩))) (b:=bf) (o:=0) 0 fd55_0 rfl rfl zN (q_load (p:=(padd (.pointer (some ⟨bf,0,none⟩)) 0)) (.inr rfl) (.string f.name) one9 rfl (hBfx1.ldp (i:=0) sM) zN (q_eqls (strE x.name f.name) u9 rfl rfl rfl zN (lw_tvn 1 rfl (wp_ret (post_ret [3] rfl (.bool (strE x.name f.name)) rfl ⟨rfl,hE1⟩))))))))))
theorem c_slices_IndexFunc___impl_Func_impl_Func_ (w:World) (da:Nat) (va:Value) (a:List Fn) (q:Nat) (qf qc:List Value) (pr:Fn→Bool) (ha:RP [] da w.heap va a) (hcf_q:((Tryz.prog.funcs[q]?).map fun fn=>(fn.name != "runtime.NumGoroutine") && fn.body.isSome) = some true) (hpr:∀ (d9:Nat) (u:Value) (x:Fn) w1,RF [] d9 w1.heap u x→Ext w w1→Calls Tryz.prog q (qf++[Value.agg #[Value.string x.name,Value.int .i64 x.params,u]]++qc).toArray w1 (fun e w2=>e = .returned (.bool (pr x))∧Ext w1 w2))  :
  Calls Tryz.prog 228 #[va,.func (.func q) qf.toArray qc.toArray] w (fun e w'=>e = .returned (.int .i64 (ixF pr a))∧Ext w w'):=by
 refine calls_mk [va,.func (.func q) qf.toArray qc.toArray] 19 Tryz.func228 rfl rfl sM ?_
 have hE0:Ext w w:=Ext.refl w
 have hl_va:=ha.lenle
 unfold maxLen at hl_va
 refine wp_seq (wp_plain _ [0] rfl (lw_tvn 1 rfl (wp_seq (wp_seq (wp_plain _ [0,0,0] rfl (lw_tv 1 rfl (q_len (v:=va) u24 rfl ha.isSl zN (lw_tvn 1 rfl (wp_block ?_)))))))))
 refine c_loop (S:=Nat) (fun (k:Nat)=>([(8,(.int .i64 ((k :Nat):Int))),(0,va),(1,(.func (.func q) qf.toArray qc.toArray)),(7,(.int .i64 ((a.length :Nat):Int)))]:List (Nat × Value))) (fun (k:Nat) (W:World)=>Ext w W∧k≤a.length∧(∀ j,j < k→pr (a.getD j Fn.zero) = false)) (fun (k:Nat)=>a.length - k) 0 ⟨rfl,rfl,rfl,rfl,trivial⟩ ⟨hE0,sD,(by intro j hj; omega)⟩ ?_
 clear hE0
 rintro k ρ1 w1 ⟨hE1,hp1_0,hq⟩
 have hzs1:w.heap.size≤w1.heap.size:=hE1.size
 refine wp_seq (wp_plain _ [0] rfl ?_)
 by_cases hc2:((k :Nat):Int) < ((a.length :Nat):Int)
 ·
  refine q_lss true rfl rfl (decide_eq_true hc2) zN (lw_nil (wp_seq (c_cond_t rfl (wp_skip (wp_seq (wp_block (wp_seq (wp_plain _ [0,0] rfl (lw_tvn 2 rfl (wp_seq (wp_plain _ [0,0,0,0,2,3] rfl (lw_tv 3 rfl (q_idx (v:=va) k u24 tiS55 rfl rfl ha.isSl rfl sD zN ?_)))))))))))))
  obtain ⟨cs3,hr3,hl3⟩:=ha.get (good_rFn da) Fn.zero (k:=k) sD
  obtain ⟨ve3,rfl,hx3⟩:=RF.of hr3
  have hln3:=hx3.rn.lenle
  unfold maxLen at hln3
  refine q_loadA (p:=eptr va k 3) (.inr rfl) [(.string ((a.getD k Fn.zero).name)),(.int .i64 ((a.getD k Fn.zero).params)),ve3] agg55 rfl (fun wq9 hw9=>hl3 wq9 (Chg.of_ext [] (hE1.trans hw9))) rfl zN ?_
  have hcall4:=hpr da ve3 (a.getD k Fn.zero) w1 ⟨hx3.rng,(hx3.rn.ext (good_rdS (good_rEx da)) hE1)⟩ hE1
  refine lw_call q qf qc _ rfl rfl hcf_q zN hcall4 ?_
  rintro e4 w4 ⟨rfl,hX4⟩
  refine ⟨_,rfl,hX4,?_⟩
  have hzs4:=hX4.size
  have hE4:=hE1.trans hX4
  cases hc4:pr (a.getD k Fn.zero)
  ·
   refine lw_nil (c_cond_f rfl (wp_skip (wp_plain _ [0,0] rfl (q_add ((k + 1 :Nat):Int) rfl rfl (w64n oM sD) zN (lw_tvn 1 rfl ?_)))))
   exact ⟨(k + 1),_,rfl,⟨rfl,rfl,rfl,rfl,trivial⟩,⟨hE4,sD,(by exact ix_step hq (by assumption))⟩,by first | omega | (dsimp only; omega)⟩
  ·
   exact lw_nil (c_cond_t rfl (wp_seq (wp_plain _ [0,0] rfl (lw_tvn 2 rfl (wp_ret (b_ret (t_ret (t_ret (b_ret (t_ret (post_ret [4] rfl (.int .i64 ((k :Nat):Int)) rfl ⟨(ret_int (ix_yes Fn.zero hq oM (by assumption))),hE4⟩)))))))))))
 ·
  exact q_lss false rfl rfl (decide_eq_false hc2) zN (lw_nil (wp_seq (c_cond_f rfl (wp_exit (t_exit (t_exit (c_exit_here (wp_seq (wp_plain _ [0] rfl (lw_tvn 1 rfl (wp_ret (post_ret [4] rfl (.int .i64 (-1)) rfl ⟨(ret_int (ix_no Fn.zero hq oM)),hE1⟩))))))))))))
theorem c_slices_ContainsFunc___impl_Func_impl_Func_ (w:World) (da:Nat) (va:Value) (a:List Fn) (q:Nat) (qf qc:List Value) (pr:Fn→Bool) (ha:RP [] da w.heap va a) (hcf_q:((Tryz.prog.funcs[q]?).map fun fn=>(fn.name != "runtime.NumGoroutine") && fn.body.isSome) = some true) (hpr:∀ (d9:Nat) (u:Value) (x:Fn) w1,RF [] d9 w1.heap u x→Ext w w1→Calls Tryz.prog q (qf++[Value.agg #[Value.string x.name,Value.int .i64 x.params,u]]++qc).toArray w1 (fun e w2=>e = .returned (.bool (pr x))∧Ext w1 w2))  :
  Calls Tryz.prog 195 #[va,.func (.func q) qf.toArray qc.toArray] w (fun e w'=>e = .returned (.bool (a.any pr))∧Ext w w'):=by
 refine calls_mk [va,.func (.func q) qf.toArray qc.toArray] 9 Tryz.func195 rfl rfl sM ?_
 have hE0:Ext w w:=Ext.refl w
 have hl_va:=ha.lenle
 unfold maxLen at hl_va
 refine wp_seq (wp_plain _ [0] rfl (lw_tvn 1 rfl (wp_seq (wp_plain _ [0,0,3,0,0] rfl (lw_tv 2 rfl (lw_call 228 [] [] [va,(.func (.func q) qf.toArray qc.toArray)] rfl rfl cf228 zN (c_slices_IndexFunc___impl_Func_impl_Func_ _ da va (a) q qf qc pr (ha.ext (good_rdS (good_rFn da)) hE0) hcf_q (fun d9 u x w1 hx hw=>hpr d9 u x w1 hx (hE0.trans hw))) ?_))))))
 rintro e1 w1 ⟨rfl,hX1⟩
 refine ⟨_,rfl,hX1,?_⟩
 have hzs1:=hX1.size
 have hE1:=hE0.trans hX1
 exact q_geq (decide (((0 :Nat):Int)≤ixF pr a)) rfl rfl rfl zN (lw_tvn 1 rfl (wp_ret (post_ret [4] rfl (.bool (decide (((0 :Nat):Int)≤ixF pr a))) rfl ⟨(ret_bool (ix_ge pr a)),hE1⟩)))
theorem c_impl_areVars (w:World) (vars:Int) (_hvars:-9223372036854775808≤vars∧vars≤9223372036854775807)  :
  Calls Tryz.prog 229 #[.int .i64 vars] w (fun e w'=>e = .returned (.bool (inB vars 0 412))∧w' = w):=by
 refine calls_mk [.int .i64 vars] 5 Tryz.func229 rfl rfl sM ?_
 have hE0:w = w:=rfl
 exact wp_seq (wp_plain _ [0] rfl (lw_tvn 1 rfl (wp_seq (wp_plain _ [0,0,0] rfl (lw_tv 1 rfl (lw_callq 72 [] [] [(.int .i64 vars),(.int .i64 ((0 :Nat):Int)),(.int .i64 ((412 :Nat):Int))] rfl rfl cf72 zN (.bool (decide (((0 :Nat):Int)≤vars) && decide (vars≤((412 :Nat):Int)))) (fun wq=>c_impl_within wq _ _ _ _hvars oM oM) (lw_tvn 1 rfl (wp_ret (post_ret [2] rfl (.bool (decide (((0 :Nat):Int)≤vars) && decide (vars≤((412 :Nat):Int)))) rfl ⟨rfl,hE0⟩)))))))))
theorem exB_t {p:List Fn} {e:Ex} {vars funcs:Int} (h:(0≤vars∧vars≤412)∧(0≤funcs∧funcs≤((p.length:Nat):Int))∧e.size≤400∧e.deep≤60):wf p funcs e vars = exB p e vars funcs:=by
  unfold exB
  rw [inB_iff.2 h.1,inB_iff.2 h.2.1,decide_eq_true h.2.2.1,decide_eq_true h.2.2.2]; rfl
theorem exB_f {p:List Fn} {e:Ex} {vars funcs:Int} (h:¬ ((0≤vars∧vars≤412)∧(0≤funcs∧funcs≤((p.length:Nat):Int))∧e.size≤400∧e.deep≤60)):false = exB p e vars funcs:=by
  cases hh:exB p e vars funcs with
  | false=>rfl
  | true =>
    unfold exB at hh
    simp only [Bool.and_eq_true,decide_eq_true_eq,inB_iff] at hh
    exact absurd ⟨hh.1,hh.2.1,hh.2.2.1,hh.2.2.2.1⟩ h
theorem exB_w {p:List Fn} {e:Ex} {vars funcs:Int} (h:wf p funcs e vars = false):false = exB p e vars funcs:=by
  unfold exB; rw [h]; simp
theorem inB_f {x a b:Int} (h:inB x a b = false):¬ (a≤x∧x≤b):=fun hh=>by rw [inB_iff.2 hh] at h; cases h
theorem inB_d {x a b:Int} (h:(decide (a≤x) && decide (x≤b)) = false):¬ (a≤x∧x≤b):=inB_f h
theorem inB_e {x a b:Int} (h:(decide (a≤x) && decide (x≤b)) = true):a≤x∧x≤b:=inB_iff.1 h
theorem z197_0 {p:Prop} (h:p:=by first | exact ret_bool (exB_w (by assumption)) | exact ret_bool (exB_t ⟨inB_iff.1 (by assumption),inB_e (by assumption),by omega,by omega⟩) | exact ret_bool ((by assumption:wf p funcs ex vars = true).symm.trans (exB_t ⟨inB_iff.1 (by assumption),inB_e (by assumption),by omega,by omega⟩)) | exact ret_bool (exB_f fun hh=>inB_f (by assumption) hh.1) | exact ret_bool (exB_f fun hh=>inB_d (by assumption) hh.2.1) | exact ret_bool (exB_f oM)):p:=h
theorem c_impl_ValidExpr (w:World) (dp:Nat) (vp:Value) (p:List Fn) (dex:Nat) (ve:Value) (ex:Ex) (vars:Int) (funcs:Int) (hp:RP [] dp w.heap vp p) (hex:RX [] dex w.heap ve ex) (_hvars:-9223372036854775808≤vars∧vars≤9223372036854775807) (_hfuncs:-9223372036854775808≤funcs∧funcs≤9223372036854775807) (hs:ex.size≤1000000000) :
  Calls Tryz.prog 197 #[(.agg #[vp]),(.agg #[(.int .i64 ex.kind),(.int .i64 ex.num),(.int .i64 ex.pick),(.int .i64 ex.count),ve]),.int .i64 vars,.int .i64 funcs] w (fun e w'=>e = .returned (.bool (exB p ex vars funcs))∧Ext w w'):=by
 refine calls_mk [(.agg #[vp]),(.agg #[(.int .i64 ex.kind),(.int .i64 ex.num),(.int .i64 ex.pick),(.int .i64 ex.count),ve]),.int .i64 vars,.int .i64 funcs] 36 Tryz.func197 rfl rfl sM ?_
 have hE0:Ext w w:=Ext.refl w
 have hl_vp:=hp.lenle
 unfold maxLen at hl_vp
 have hl_ve:=hex.rn.lenle
 unfold maxLen at hl_ve
 refine wp_seq (wp_plain _ [3,3,0] rfl (r_boxA (cs:=#[vp]) rfl zN fun w1 hX1 hz1 hB1=>?_))
 have hzs1:=hX1.size
 have hE1:=hE0.trans hX1
 replace hB1:BX w1.heap w.heap.size [vp]:=hB1
 have hq3:=hB1.lt
 refine r_boxA (cs:=#[(.int .i64 ex.kind),(.int .i64 ex.num),(.int .i64 ex.pick),(.int .i64 ex.count),ve]) rfl zN fun w2 hX2 hz2 hB2=>?_
 have hzs2:=hX2.size
 have hE2:=hE1.trans hX2
 have hB1x2:=hB1.ext hX2
 replace hB2:BX w2.heap w1.heap.size [(.int .i64 ex.kind),(.int .i64 ex.num),(.int .i64 ex.pick),(.int .i64 ex.count),ve]:=hB2
 refine lw_tvn 1 rfl (wp_seq (wp_plain _ [0,0,0,0,0,2,0,0,0,0,2,3,0,0,0,2,3,0,0,0,2,0,0,2,0,3,0,0] rfl (lw_tv 1 rfl (lw_callq 229 [] [] [(.int .i64 vars)] rfl rfl cf229 zN (.bool (inB vars 0 412)) (fun wq=>c_impl_areVars wq _ _hvars) (lw_tv 1 rfl ?_)))))
 cases hb5:(inB vars 0 412)
 ·
  exact lw_tvn 25 rfl (wp_ret (post_ret [8] rfl (.bool false) rfl ⟨z197_0,hE2⟩))
 ·
  refine lw_tv 1 rfl (q_fldP (p:=(.pointer (some ⟨w.heap.size,0,none⟩))) (b:=w.heap.size) (o:=0) 0 fd26_0 rfl rfl (zS (e:=11) rfl rfl rfl) (q_load (p:=(padd (.pointer (some ⟨w.heap.size,0,none⟩)) 0)) (.inr rfl) vp one24 rfl (hB1x2.ldp (i:=0) sM) (zS (e:=11) rfl rfl rfl) (q_len (v:=vp) u24 rfl hp.isSl (zS (e:=11) rfl rfl rfl) (lw_callq 72 [] [] [(.int .i64 funcs),(.int .i64 ((0 :Nat):Int)),(.int .i64 ((p.length :Nat):Int))] rfl rfl cf72 (zS (e:=11) rfl rfl rfl) (.bool (decide (((0 :Nat):Int)≤funcs) && decide (funcs≤((p.length :Nat):Int)))) (fun wq=>c_impl_within wq _ _ _ _hfuncs oM oM) (lw_tv 2 rfl ?_)))))
  cases hb7:(decide (((0 :Nat):Int)≤funcs) && decide (funcs≤((p.length :Nat):Int)))
  ·
   exact lw_tvn 18 rfl (wp_ret (post_ret [8] rfl (.bool false) rfl ⟨z197_0,hE2⟩))
  ·
   refine q_loadA (p:=(.pointer (some ⟨w1.heap.size,0,none⟩))) (.inr rfl) [(.int .i64 ex.kind),(.int .i64 ex.num),(.int .i64 ex.pick),(.int .i64 ex.count),ve] agg174 rfl (fun wq9 hw9=>LD.of_box (BX.ext (w:=w2) hB2 hw9)) rfl (zS (e:=18) rfl rfl rfl) (lw_call 198 [] [] [(.agg #[(.int .i64 ex.kind),(.int .i64 ex.num),(.int .i64 ex.pick),(.int .i64 ex.count),ve])] rfl rfl cf198 (zS (e:=18) rfl rfl rfl) (c_impl_ExprSize _ dex ve (ex) (hex.ext hE2) oM) ?_)
   rintro e8 w8 ⟨rfl,hX8⟩
   refine ⟨_,rfl,hX8,?_⟩
   have hzs8:=hX8.size
   have hE8:=hE2.trans hX8
   have hB1x8:=hB1x2.ext hX8
   have hB2x8:=hB2.ext hX8
   by_cases hc9:((ex.size :Nat):Int)≤((400 :Nat):Int)
   ·
    refine q_leq true rfl rfl (decide_eq_true hc9) (zS (e:=18) rfl rfl rfl) (lw_tv 2 rfl (q_loadA (p:=(.pointer (some ⟨w1.heap.size,0,none⟩))) (.inr rfl) [(.int .i64 ex.kind),(.int .i64 ex.num),(.int .i64 ex.pick),(.int .i64 ex.count),ve] agg174 rfl (fun wq9 hw9=>LD.of_box (BX.ext (w:=w8) hB2x8 hw9)) rfl (zS (e:=23) rfl rfl rfl) (lw_call 230 [] [] [(.agg #[(.int .i64 ex.kind),(.int .i64 ex.num),(.int .i64 ex.pick),(.int .i64 ex.count),ve])] rfl rfl cf230 (zS (e:=23) rfl rfl rfl) (c_impl_ExprDepth _ dex ve (ex) (hex.ext hE8) oM) ?_)))
    rintro e10 w10 ⟨rfl,hX10⟩
    refine ⟨_,rfl,hX10,?_⟩
    have hzs10:=hX10.size
    have hE10:=hE8.trans hX10
    have hB1x10:=hB1x8.ext hX10
    have hB2x10:=hB2x8.ext hX10
    by_cases hc11:((ex.deep :Nat):Int)≤((60 :Nat):Int)
    ·
     refine q_leq true rfl rfl (decide_eq_true hc11) (zS (e:=23) rfl rfl rfl) (lw_tv 2 rfl (q_loadA (p:=(.pointer (some ⟨w.heap.size,0,none⟩))) (.inr rfl) [vp] agg26 rfl (fun wq9 hw9=>LD.of_box (BX.ext (w:=w10) hB1x10 hw9)) rfl (zS (e:=28) rfl rfl rfl) (lw_tv 1 rfl ?_)))
     have hbd12:∀ (vp:Value) (m12_0:Nat) (h12_0:isSl vp m12_0) (wq:World),(Instr.build 237 #[(0,(.agg #[vp])),(1,(.int .i64 funcs))]).run Tryz.prog wq = .ok (.agg #[vp,(.int .i64 funcs)]) wq:=by intro vp m12_0 h12_0 wq; obtain ⟨a12_0,c12_0,rfl,_⟩:=h12_0; kernel_rfl
     refine q_build (ps:=#[(0,(.agg #[vp])),(1,(.int .i64 funcs))]) (.agg #[vp,(.int .i64 funcs)]) (by simp only [List.map_toArray,List.map_cons,List.map_nil]; rfl) (fun wq=>hbd12 vp _ hp.isSl wq) (zS (e:=28) rfl rfl rfl) (q_loadA (p:=(.pointer (some ⟨w1.heap.size,0,none⟩))) (.inr rfl) [(.int .i64 ex.kind),(.int .i64 ex.num),(.int .i64 ex.pick),(.int .i64 ex.count),ve] agg174 rfl (fun wq9 hw9=>LD.of_box (BX.ext (w:=w10) hB2x10 hw9)) rfl (zS (e:=28) rfl rfl rfl) (lw_tv 1 rfl ?_))
     refine lw_call 231 [] [] [(.agg #[vp,(.int .i64 funcs)]),(.agg #[(.int .i64 ex.kind),(.int .i64 ex.num),(.int .i64 ex.pick),(.int .i64 ex.count),ve]),(.int .i64 vars)] rfl rfl cf231 (zS (e:=28) rfl rfl rfl) (c_impl_checker_isFormed _ dp vp (p) (funcs) dex ve (ex) _ (hp.ext (good_rdS (good_rFn dp)) hE10) _hfuncs (hex.ext hE10) _hvars (by have h1:=inB_iff.1 (by assumption:inB vars 0 412 = true); omega) (by have h2:=inB_e (by assumption:(decide (((0 :Nat):Int)≤funcs) && decide (funcs≤((p.length :Nat):Int))) = true); omega)) ?_
     rintro e13 w13 ⟨rfl,hX13⟩
     refine ⟨_,rfl,hX13,?_⟩
     have hzs13:=hX13.size
     have hE13:=hE10.trans hX13
     have hB1x13:=hB1x10.ext hX13
     have hB2x13:=hB2x10.ext hX13
     exact lw_tvn 2 rfl (wp_ret (post_ret [8] rfl (.bool (wf p funcs ex vars)) rfl ⟨z197_0,hE13⟩))
    ·
     exact q_leq false rfl rfl (decide_eq_false hc11) (zS (e:=23) rfl rfl rfl) (lw_tvn 10 rfl (wp_ret (post_ret [8] rfl (.bool false) rfl ⟨z197_0,hE10⟩)))
   ·
    exact q_leq false rfl rfl (decide_eq_false hc9) (zS (e:=18) rfl rfl rfl) (lw_tvn 15 rfl (wp_ret (post_ret [8] rfl (.bool false) rfl ⟨z197_0,hE8⟩)))
theorem ok_big {p:List Fn} (h:¬ p.length≤16):false = okP p:=by unfold okP; rw [decide_eq_false h]; rfl
theorem ok_bad {p:List Fn} {k:Nat} (hk:k < p.length) (h:fnB p k = false):false = okP p:=by unfold okP; rw [allR_fail hk h,Bool.and_false]
theorem ok_end {p:List Fn} {k:Nat} (hl:p.length≤16) (hk:p.length≤k) (hk2:k≤p.length) (h:(List.range k).all (fnB p) = true):true = okP p:=by
  have:k = p.length:=by omega
  subst this; unfold okP; rw [h,decide_eq_true hl]; rfl
section
variable {p:List Fn} {k:Nat}
theorem fn_1 (h:nmB (p.getD k Fn.zero).name = false):fnB p k = false:=by unfold fnB; rw [h]; rfl
theorem fn_2 (h:(p.take k).any (fun g=>strE g.name (p.getD k Fn.zero).name) = true):fnB p k = false:=by unfold fnB newB; rw [h]; simp
theorem fn_3 (h:(decide (((0:Nat):Int)≤(p.getD k Fn.zero).params) && decide ((p.getD k Fn.zero).params≤((12:Nat):Int))) = false):fnB p k = false:=by
  have h':inB (p.getD k Fn.zero).params 0 12 = false:=h
  unfold fnB; rw [h']; simp
theorem fn_4 (h:(decide (((1:Nat):Int)≤(((p.getD k Fn.zero).outs.length:Nat):Int)) && decide ((((p.getD k Fn.zero).outs.length:Nat):Int)≤((12:Nat):Int))) = false):fnB p k = false:=by
  have h':inB (((p.getD k Fn.zero).outs.length:Nat):Int) 1 12 = false:=h
  unfold fnB; rw [h']; simp
theorem fn_5 {j:Nat} (hj:j < (p.getD k Fn.zero).outs.length) (h:exB p ((p.getD k Fn.zero).outs.getD j Ex.zero) (p.getD k Fn.zero).params ((k:Nat):Int) = false):fnB p k = false:=by
  unfold fnB
  rw [allR_fail hj h]; simp
theorem fn_6 (h:¬ Ex.sizes (p.getD k Fn.zero).outs≤400):fnB p k = false:=by
  unfold fnB; rw [decide_eq_false h]; simp
theorem fn_ok {j:Nat} (h1:nmB (p.getD k Fn.zero).name = true) (h2:(p.take k).any (fun g=>strE g.name (p.getD k Fn.zero).name) = false) (h3:(decide (((0:Nat):Int)≤(p.getD k Fn.zero).params) && decide ((p.getD k Fn.zero).params≤((12:Nat):Int))) = true) (h4:(decide (((1:Nat):Int)≤(((p.getD k Fn.zero).outs.length:Nat):Int)) && decide ((((p.getD k Fn.zero).outs.length:Nat):Int)≤((12:Nat):Int))) = true) (h5:(List.range j).all (fun j=>exB p ((p.getD k Fn.zero).outs.getD j Ex.zero) (p.getD k Fn.zero).params ((k:Nat):Int)) = true) (hj:j = (p.getD k Fn.zero).outs.length) (h6:Ex.sizes (p.getD k Fn.zero).outs≤400):fnB p k = true:=by
  have h3':inB (p.getD k Fn.zero).params 0 12 = true:=h3
  have h4':inB (((p.getD k Fn.zero).outs.length:Nat):Int) 1 12 = true:=h4
  subst hj
  unfold fnB newB
  rw [h1,h2,h3',h4',h5,decide_eq_true h6]; rfl
end
theorem bn_f {b:Bool} (h:(!b) = false):b = true:=by cases b <;> simp_all
theorem bn_t {b:Bool} (h:(!b) = true):b = false:=by cases b <;> simp_all
theorem z152_0 {p:Prop} (h:p:=by first | exact ret_bool (ok_big oM) | exact ret_bool (ok_end oM oM oM hq) | exact ret_bool (ok_bad (k:=k) oM (fn_1 (bn_t (by assumption)))) | exact ret_bool (ok_bad (k:=k) oM (fn_2 (by assumption))) | exact ret_bool (ok_bad (k:=k) oM (fn_3 (bn_t (by assumption)))) | exact ret_bool (ok_bad (k:=k) oM (fn_4 (bn_t (by assumption)))) | exact ret_bool (ok_bad (k:=k) oM (fn_5 (j:=j) oM (bn_t (by assumption)))) | exact ret_bool (ok_bad (k:=k) oM (fn_6 oM))):p:=h
theorem c_impl_ValidProgram (w:World) (dp:Nat) (vp:Value) (p:List Fn) (hp:RP [] dp w.heap vp p) (hz:SzP p) :
  Calls Tryz.prog 152 #[(.agg #[vp])] w (fun e w'=>e = .returned (.bool (okP p))∧Ext w w'):=by
 refine calls_mk [(.agg #[vp])] 65 Tryz.func152 rfl rfl sM ?_
 have hE0:Ext w w:=Ext.refl w
 have hl_vp:=hp.lenle
 unfold maxLen at hl_vp
 refine wp_seq (wp_plain _ [3,0] rfl (r_boxA (cs:=#[vp]) rfl zN fun w1 hX1 hz1 hB1=>?_))
 have hzs1:=hX1.size
 have hE1:=hE0.trans hX1
 replace hB1:BX w1.heap w.heap.size [vp]:=hB1
 refine lw_tvn 1 rfl (wp_seq (wp_seq (wp_plain _ [0,2,0,0] rfl (q_fldP (p:=(.pointer (some ⟨w.heap.size,0,none⟩))) (b:=w.heap.size) (o:=0) 0 fd26_0 rfl rfl zN (q_load (p:=(padd (.pointer (some ⟨w.heap.size,0,none⟩)) 0)) (.inr rfl) vp one24 rfl (hB1.ldp (i:=0) sM) zN (q_len (v:=vp) u24 rfl hp.isSl zN ?_))))))
 by_cases hc2:((16 :Nat):Int) < ((p.length :Nat):Int)
 ·
  exact q_gtr true rfl rfl (decide_eq_true hc2) zN (lw_nil (c_cond_t rfl (wp_seq (wp_plain _ [0] rfl (lw_tvn 1 rfl (wp_ret (t_ret (post_ret [2] rfl (.bool false) rfl ⟨z152_0,hE1⟩))))))))
 ·
  refine q_gtr false rfl rfl (decide_eq_false hc2) zN (lw_nil (c_cond_f rfl (wp_skip (wp_seq (wp_seq (wp_plain _ [0,2,0,0] rfl (q_fldP (p:=(.pointer (some ⟨w.heap.size,0,none⟩))) (b:=w.heap.size) (o:=0) 0 fd26_0 rfl rfl zN (q_load (p:=(padd (.pointer (some ⟨w.heap.size,0,none⟩)) 0)) (.inr rfl) vp one24 rfl (hB1.ldp (i:=0) sM) zN (q_len (v:=vp) u24 rfl hp.isSl zN (lw_tvn 1 rfl (wp_block ?_)))))))))))
  refine c_loop (S:=Nat) (fun (k:Nat)=>([(15,(.int .i64 ((k :Nat):Int))),(1,(.pointer (some ⟨w.heap.size,0,none⟩))),(13,vp),(14,(.int .i64 ((p.length :Nat):Int)))]:List (Nat × Value))) (fun (k:Nat) (W:World)=>Ext w W∧BX W.heap w.heap.size [vp]∧k≤p.length∧(List.range k).all (fnB p) = true) (fun (k:Nat)=>p.length - k) 0 ⟨rfl,rfl,rfl,rfl,trivial⟩ ⟨hE1,hB1,sD,(by rfl)⟩ ?_
  clear hE0 hz1 hX1 hzs1 hE1
  rintro k ρ3 w3 ⟨hE3,hL3_0,hp3_0,hq⟩
  have hzs3:w.heap.size≤w3.heap.size:=hE3.size
  have hq4:=hL3_0.lt
  refine wp_seq (wp_plain _ [0] rfl ?_)
  by_cases hc5:((k :Nat):Int) < ((p.length :Nat):Int)
  ·
   refine q_lss true rfl rfl (decide_eq_true hc5) zN (lw_nil (wp_seq (c_cond_t rfl (wp_skip (wp_seq (wp_block (wp_seq (wp_plain _ [0,0,2,3,0,4] rfl (lw_tv 1 rfl (q_idx (v:=vp) k u24 tiS55 rfl rfl hp.isSl rfl sD zN ?_))))))))))
   obtain ⟨cs6,hr6,hl6⟩:=hp.get (good_rFn dp) Fn.zero (k:=k) sD
   obtain ⟨ve6,rfl,hx6⟩:=RF.of hr6
   have hln6:=hx6.rn.lenle
   unfold maxLen at hln6
   refine q_loadA (p:=eptr vp k 3) (.inr rfl) [(.string ((p.getD k Fn.zero).name)),(.int .i64 ((p.getD k Fn.zero).params)),ve6] agg55 rfl (fun wq9 hw9=>hl6 wq9 (Chg.of_ext [] (hE3.trans hw9))) rfl zN ?_
   have hq8:=hL3_0.lt
   refine r_allocA (z:=.agg #[.string ByteArray.empty,.int .i64 0,.slice none 0 0]) zr55 zN fun w7 hX7 hz7 hB7=>?_
   have hzs7:=hX7.size
   have hE7:=hE3.trans hX7
   have hL3_0x7:=hL3_0.ext hX7
   replace hB7:BX w7.heap w3.heap.size [(.string ByteArray.empty),(.int .i64 0),(.slice none 0 0)]:=hB7
   refine lw_tv 1 rfl (e_setA (vs:=[(.string ((p.getD k Fn.zero).name)),(.int .i64 ((p.getD k Fn.zero).params)),ve6]) agg55 rfl rfl hx6.ones hB7 rfl rfl zN fun w9 hC9 hz9 hB9=>?_)
   replace hB9:BX w9.heap w3.heap.size [(.string ((p.getD k Fn.zero).name)),(.int .i64 ((p.getD k Fn.zero).params)),ve6]:=hB9
   have hE9:Ext w w9:=hC9.below hE7 (fun c hc=>by have:=List.mem_singleton.1 hc; omega) hE7.size
   have hzs9:=hC9.size
   have hF10:=hL3_0x7.chg hC9 (fun hm=>by have:=List.mem_singleton.1 hm; omega)
   refine lw_nil (wp_seq (wp_seq (wp_plain _ [0,2,0,0,0,0,2,0,0,0,3,0] rfl ?_)))
   have hzk:=hz k oM
   refine q_fldP (p:=(.pointer (some ⟨w3.heap.size,0,none⟩))) (b:=w3.heap.size) (o:=0) 0 fd55_0 rfl rfl zN (q_load (p:=(padd (.pointer (some ⟨w3.heap.size,0,none⟩)) 0)) (.inr rfl) (.string ((p.getD k Fn.zero).name)) one9 rfl (hB9.ldp (i:=0) sM) zN (lw_callq 194 [] [] [(.string ((p.getD k Fn.zero).name))] rfl rfl cf194 zN (.bool (nmB ((p.getD k Fn.zero).name))) (fun wq=>c_impl_IsName wq ((p.getD k Fn.zero).name) oM) (q_not (!(nmB ((p.getD k Fn.zero).name))) rfl rfl zN (lw_tv 1 rfl ?_))))
   cases hb12:(!(nmB ((p.getD k Fn.zero).name)))
   ·
    refine q_fldP (p:=(.pointer (some ⟨w.heap.size,0,none⟩))) (b:=w.heap.size) (o:=0) 0 fd26_0 rfl rfl (zS (e:=24) rfl rfl rfl) (q_load (p:=(padd (.pointer (some ⟨w.heap.size,0,none⟩)) 0)) (.inr rfl) vp one24 rfl (hF10.ldp (i:=0) sM) (zS (e:=24) rfl rfl rfl) (lw_tv 1 rfl (q_pref (v:=vp) (k:=k) u24 tiS55 rfl hp.isSl hp.capS rfl sD (zS (e:=24) rfl rfl rfl) ?_)))
    have hpf13:=RN.pref (good_rFn dp) (k:=k) hp sD
    refine q_func [] [(.pointer (some ⟨w3.heap.size,0,none⟩))] rfl rfl (zS (e:=24) rfl rfl rfl) (lw_call 195 [] [] [(prefV vp k),(.func (.func 196) #[] #[(.pointer (some ⟨w3.heap.size,0,none⟩))])] rfl rfl cf195 (zS (e:=24) rfl rfl rfl) (c_slices_ContainsFunc___impl_Func_impl_Func_ _ dp (prefV vp k) (p.take k) 196 [] [(.pointer (some ⟨w3.heap.size,0,none⟩))] (fun g=>strE g.name (p.getD k Fn.zero).name) (hpf13.ext (good_rdS (good_rFn dp)) hE9) cf196 (fun d9 u x w1 hx hw=>c_impl_ValidProgram_1 w1 d9 u x w3.heap.size ve6 (p.getD k Fn.zero) hx (hB9.ext hw))) ?_)
    rintro e14 w14 ⟨rfl,hX14⟩
    refine ⟨_,rfl,hX14,?_⟩
    have hzs14:=hX14.size
    have hE14:=hE9.trans hX14
    have hF10x14:=hF10.ext hX14
    have hB9x14:=hB9.ext hX14
    refine lw_tvn 1 rfl ?_
    cases hb15:((p.take k).any (fun g=>strE g.name (p.getD k Fn.zero).name))
    ·
     refine c_cond_f (by first | rfl | (show Value.bool _ = _; rw [hb15])) (wp_skip (wp_seq (wp_seq (wp_plain _ [0,2,0,0,0,0,2,0,0,0,0] rfl (q_fldP (p:=(.pointer (some ⟨w3.heap.size,0,none⟩))) (b:=w3.heap.size) (o:=0) 1 fd55_1 rfl rfl zN (q_load (p:=(padd (.pointer (some ⟨w3.heap.size,0,none⟩)) 1)) (.inr rfl) (.int .i64 ((p.getD k Fn.zero).params)) one2 rfl (hB9x14.ldp (i:=1) sM) zN (lw_callq 72 [] [] [(.int .i64 ((p.getD k Fn.zero).params)),(.int .i64 ((0 :Nat):Int)),(.int .i64 ((12 :Nat):Int))] rfl rfl cf72 zN (.bool (decide (((0 :Nat):Int)≤((p.getD k Fn.zero).params)) && decide (((p.getD k Fn.zero).params)≤((12 :Nat):Int)))) (fun wq=>c_impl_within wq _ _ _ hx6.rng oM oM) ?_)))))))
     refine q_not (!(decide (((0 :Nat):Int)≤((p.getD k Fn.zero).params)) && decide (((p.getD k Fn.zero).params)≤((12 :Nat):Int)))) rfl rfl zN (lw_tv 1 rfl ?_)
     cases hb17:(!(decide (((0 :Nat):Int)≤((p.getD k Fn.zero).params)) && decide (((p.getD k Fn.zero).params)≤((12 :Nat):Int))))
     ·
      refine q_fldP (p:=(.pointer (some ⟨w3.heap.size,0,none⟩))) (b:=w3.heap.size) (o:=0) 2 fd55_2 rfl rfl (zS (e:=36) rfl rfl rfl) (q_load (p:=(padd (.pointer (some ⟨w3.heap.size,0,none⟩)) 2)) (.inr rfl) ve6 one53 rfl (hB9x14.ldp (i:=2) sM) (zS (e:=36) rfl rfl rfl) (q_len (v:=ve6) u53 rfl hx6.rn.isSl (zS (e:=36) rfl rfl rfl) (lw_callq 72 [] [] [(.int .i64 ((((p.getD k Fn.zero).outs).length :Nat):Int)),(.int .i64 ((1 :Nat):Int)),(.int .i64 ((12 :Nat):Int))] rfl rfl cf72 (zS (e:=36) rfl rfl rfl) (.bool (decide (((1 :Nat):Int)≤((((p.getD k Fn.zero).outs).length :Nat):Int)) && decide (((((p.getD k Fn.zero).outs).length :Nat):Int)≤((12 :Nat):Int)))) (fun wq=>c_impl_within wq _ _ _ oM oM oM) ?_)))
      refine q_not (!(decide (((1 :Nat):Int)≤((((p.getD k Fn.zero).outs).length :Nat):Int)) && decide (((((p.getD k Fn.zero).outs).length :Nat):Int)≤((12 :Nat):Int)))) rfl rfl (zS (e:=36) rfl rfl rfl) (lw_tvn 1 rfl ?_)
      cases hb19:(!(decide (((1 :Nat):Int)≤((((p.getD k Fn.zero).outs).length :Nat):Int)) && decide (((((p.getD k Fn.zero).outs).length :Nat):Int)≤((12 :Nat):Int))))
      ·
       refine c_cond_f (by first | rfl | (show Value.bool _ = _; rw [hb19])) (wp_skip (wp_seq (wp_plain _ [0] rfl (lw_tvn 1 rfl (wp_seq (wp_seq (wp_plain _ [0,2,0,0] rfl (q_fldP (p:=(.pointer (some ⟨w3.heap.size,0,none⟩))) (b:=w3.heap.size) (o:=0) 2 fd55_2 rfl rfl zN (q_load (p:=(padd (.pointer (some ⟨w3.heap.size,0,none⟩)) 2)) (.inr rfl) ve6 one53 rfl (hB9x14.ldp (i:=2) sM) zN (q_len (v:=ve6) u53 rfl hx6.rn.isSl zN (lw_tvn 1 rfl (wp_block ?_))))))))))))
       refine c_loop (S:=Nat × Nat) (fun (⟨j,sz⟩:Nat × Nat)=>([(5,(.int .i64 ((sz :Nat):Int))),(46,(.int .i64 ((j :Nat):Int))),(1,(.pointer (some ⟨w.heap.size,0,none⟩))),(3,(.int .i64 ((k :Nat):Int))),(4,(.pointer (some ⟨w3.heap.size,0,none⟩))),(13,vp),(14,(.int .i64 ((p.length :Nat):Int))),(15,(.int .i64 ((k :Nat):Int))),(44,ve6),(45,(.int .i64 ((((p.getD k Fn.zero).outs).length :Nat):Int)))]:List (Nat × Value))) (fun (⟨j,sz⟩:Nat × Nat) (W:World)=>Ext w W∧BX W.heap w.heap.size [vp]∧BX W.heap w3.heap.size [(.string ((p.getD k Fn.zero).name)),(.int .i64 ((p.getD k Fn.zero).params)),ve6]∧j≤(p.getD k Fn.zero).outs.length∧sz = Ex.sizes ((p.getD k Fn.zero).outs.take j)∧(List.range j).all (fun j=>exB p ((p.getD k Fn.zero).outs.getD j Ex.zero) (p.getD k Fn.zero).params ((k :Nat):Int)) = true) (fun (⟨j,sz⟩:Nat × Nat)=>(p.getD k Fn.zero).outs.length - j) (0,0) ⟨rfl,rfl,rfl,rfl,rfl,rfl,rfl,rfl,rfl,rfl,trivial⟩ ⟨hE14,hF10x14,hB9x14,sD,(by rw [List.take_zero,sizes_nil]),(by rfl)⟩ ?_
       clear hL3_0 hE3 hzs3 hln6 hz7 hX7 hzs7 hE7 hL3_0x7 hz9 hC9 hE9 hzs9 hF10 hX14 hzs14 hE14 hF10x14
       rintro ⟨j,sz⟩ ρ20 w20 ⟨hE20,hL20_0,hL20_1,hp20_0,hsz,hqe⟩
       have hzs20:w.heap.size≤w20.heap.size:=hE20.size
       have hq21:=hL20_0.lt
       have hq22:=hL20_1.lt
       refine wp_seq (wp_plain _ [0] rfl ?_)
       by_cases hc23:((j :Nat):Int) < ((((p.getD k Fn.zero).outs).length :Nat):Int)
       ·
        refine q_lss true rfl rfl (decide_eq_true hc23) zN (lw_nil (wp_seq (c_cond_t rfl (wp_skip (wp_seq (wp_block (wp_seq (wp_plain _ [0,2,3,4] rfl (q_idx (v:=ve6) j u53 tiS174 rfl rfl hx6.rn.isSl rfl sD zN ?_)))))))))
        obtain ⟨cs24,hr24,hl24⟩:=hx6.rn.get (good_rEx dp) Ex.zero (k:=j) sD
        obtain ⟨dd24,ve24,hd24,rfl,hx24⟩:=RX.of hr24
        have hln24:=hx24.rn.lenle
        unfold maxLen at hln24
        refine q_loadA (p:=eptr ve6 j 5) (.inr rfl) [(.int .i64 ((((p.getD k Fn.zero).outs).getD j Ex.zero).kind)),(.int .i64 ((((p.getD k Fn.zero).outs).getD j Ex.zero).num)),(.int .i64 ((((p.getD k Fn.zero).outs).getD j Ex.zero).pick)),(.int .i64 ((((p.getD k Fn.zero).outs).getD j Ex.zero).count)),ve24] agg174 rfl (fun wq9 hw9=>hl24 wq9 (Chg.of_ext [] (hE20.trans hw9))) rfl zN ?_
        have hq26:=hL20_0.lt
        have hq27:=hL20_1.lt
        refine r_allocA (z:=.agg #[.int .i64 0,.int .i64 0,.int .i64 0,.int .i64 0,.slice none 0 0]) zr174 zN fun w25 hX25 hz25 hB25=>?_
        have hzs25:=hX25.size
        have hE25:=hE20.trans hX25
        have hL20_0x25:=hL20_0.ext hX25
        have hL20_1x25:=hL20_1.ext hX25
        replace hB25:BX w25.heap w20.heap.size [(.int .i64 0),(.int .i64 0),(.int .i64 0),(.int .i64 0),(.slice none 0 0)]:=hB25
        refine e_setA (vs:=[(.int .i64 ((((p.getD k Fn.zero).outs).getD j Ex.zero).kind)),(.int .i64 ((((p.getD k Fn.zero).outs).getD j Ex.zero).num)),(.int .i64 ((((p.getD k Fn.zero).outs).getD j Ex.zero).pick)),(.int .i64 ((((p.getD k Fn.zero).outs).getD j Ex.zero).count)),ve24]) agg174 rfl rfl hx24.ones hB25 rfl rfl zN fun w28 hC28 hz28 hB28=>?_
        replace hB28:BX w28.heap w20.heap.size [(.int .i64 ((((p.getD k Fn.zero).outs).getD j Ex.zero).kind)),(.int .i64 ((((p.getD k Fn.zero).outs).getD j Ex.zero).num)),(.int .i64 ((((p.getD k Fn.zero).outs).getD j Ex.zero).pick)),(.int .i64 ((((p.getD k Fn.zero).outs).getD j Ex.zero).count)),ve24]:=hB28
        have hE28:Ext w w28:=hC28.below hE25 (fun c hc=>by have:=List.mem_singleton.1 hc; omega) hE25.size
        have hzs28:=hC28.size
        have hF29:=hL20_0x25.chg hC28 (fun hm=>by have:=List.mem_singleton.1 hm; omega)
        have hF30:=hL20_1x25.chg hC28 (fun hm=>by have:=List.mem_singleton.1 hm; omega)
        refine lw_nil (wp_seq (wp_seq (wp_plain _ [2,2,0,2,0,3,0] rfl ?_)))
        have hst:=sizes_step (l:=(p.getD k Fn.zero).outs) (k:=j) oM
        have hle:=sizes_take (p.getD k Fn.zero).outs (j + 1)
        refine q_loadA (p:=(.pointer (some ⟨w.heap.size,0,none⟩))) (.inr rfl) [vp] agg26 rfl (fun wq9 hw9=>LD.of_box (BX.ext (w:=w28) hF29 hw9)) rfl zN (q_loadA (p:=(.pointer (some ⟨w20.heap.size,0,none⟩))) (.inr rfl) [(.int .i64 ((((p.getD k Fn.zero).outs).getD j Ex.zero).kind)),(.int .i64 ((((p.getD k Fn.zero).outs).getD j Ex.zero).num)),(.int .i64 ((((p.getD k Fn.zero).outs).getD j Ex.zero).pick)),(.int .i64 ((((p.getD k Fn.zero).outs).getD j Ex.zero).count)),ve24] agg174 rfl (fun wq9 hw9=>LD.of_box (BX.ext (w:=w28) hB28 hw9)) rfl zN (q_fldP (p:=(.pointer (some ⟨w3.heap.size,0,none⟩))) (b:=w3.heap.size) (o:=0) 1 fd55_1 rfl rfl zN (q_load (p:=(padd (.pointer (some ⟨w3.heap.size,0,none⟩)) 1)) (.inr rfl) (.int .i64 ((p.getD k Fn.zero).params)) one2 rfl (hF30.ldp (i:=1) sM) zN (lw_tv 1 rfl ?_))))
        refine lw_call 197 [] [] [(.agg #[vp]),(.agg #[(.int .i64 ((((p.getD k Fn.zero).outs).getD j Ex.zero).kind)),(.int .i64 ((((p.getD k Fn.zero).outs).getD j Ex.zero).num)),(.int .i64 ((((p.getD k Fn.zero).outs).getD j Ex.zero).pick)),(.int .i64 ((((p.getD k Fn.zero).outs).getD j Ex.zero).count)),ve24]),(.int .i64 ((p.getD k Fn.zero).params)),(.int .i64 ((k :Nat):Int))] rfl rfl cf197 zN (c_impl_ValidExpr _ dp vp (p) dd24 ve24 (((p.getD k Fn.zero).outs).getD j Ex.zero) _ _ (hp.ext (good_rdS (good_rFn dp)) hE28) (hx24.ext hE28) hx6.rng oM oM) ?_
        rintro e31 w31 ⟨rfl,hX31⟩
        refine ⟨_,rfl,hX31,?_⟩
        have hzs31:=hX31.size
        have hE31:=hE28.trans hX31
        have hF29x31:=hF29.ext hX31
        have hF30x31:=hF30.ext hX31
        have hB28x31:=hB28.ext hX31
        refine q_not (!(exB p (((p.getD k Fn.zero).outs).getD j Ex.zero) ((p.getD k Fn.zero).params) ((k :Nat):Int))) rfl rfl zN (lw_nil ?_)
        cases hb32:(!(exB p (((p.getD k Fn.zero).outs).getD j Ex.zero) ((p.getD k Fn.zero).params) ((k :Nat):Int)))
        ·
         refine c_cond_f (by first | rfl | (show Value.bool _ = _; rw [hb32])) (wp_skip (wp_plain _ [0,2,3,0,0] rfl (lw_tv 1 rfl (q_loadA (p:=(.pointer (some ⟨w20.heap.size,0,none⟩))) (.inr rfl) [(.int .i64 ((((p.getD k Fn.zero).outs).getD j Ex.zero).kind)),(.int .i64 ((((p.getD k Fn.zero).outs).getD j Ex.zero).num)),(.int .i64 ((((p.getD k Fn.zero).outs).getD j Ex.zero).pick)),(.int .i64 ((((p.getD k Fn.zero).outs).getD j Ex.zero).count)),ve24] agg174 rfl (fun wq9 hw9=>LD.of_box (BX.ext (w:=w31) hB28x31 hw9)) rfl zN ?_))))
         refine lw_call 198 [] [] [(.agg #[(.int .i64 ((((p.getD k Fn.zero).outs).getD j Ex.zero).kind)),(.int .i64 ((((p.getD k Fn.zero).outs).getD j Ex.zero).num)),(.int .i64 ((((p.getD k Fn.zero).outs).getD j Ex.zero).pick)),(.int .i64 ((((p.getD k Fn.zero).outs).getD j Ex.zero).count)),ve24])] rfl rfl cf198 zN (c_impl_ExprSize _ dd24 ve24 (((p.getD k Fn.zero).outs).getD j Ex.zero) (hx24.ext hE31) oM) ?_
         rintro e33 w33 ⟨rfl,hX33⟩
         refine ⟨_,rfl,hX33,?_⟩
         have hzs33:=hX33.size
         have hE33:=hE31.trans hX33
         have hF29x33:=hF29x31.ext hX33
         have hF30x33:=hF30x31.ext hX33
         have hB28x33:=hB28x31.ext hX33
         refine q_add ((sz + ((p.getD k Fn.zero).outs.getD j Ex.zero).size :Nat):Int) rfl rfl (w64n oM oM) zN (lw_tvn 1 rfl (wp_plain _ [0,0] rfl (q_add ((j + 1 :Nat):Int) rfl rfl (w64n oM sD) zN (lw_tvn 1 rfl ?_))))
         exact ⟨((j + 1),(sz + ((p.getD k Fn.zero).outs.getD j Ex.zero).size)),_,rfl,⟨rfl,rfl,rfl,rfl,rfl,rfl,rfl,rfl,rfl,rfl,trivial⟩,⟨hE33,hF29x33,hF30x33,sD,oM,(by exact allR_succ hqe (bn_f (by assumption)))⟩,by first | omega | (dsimp only; omega)⟩
        ·
         refine c_cond_t (by first | rfl | (show Value.bool _ = _; rw [hb32])) (wp_seq (wp_plain _ [0] rfl (lw_tvn 1 rfl (wp_ret (t_ret (b_ret (t_ret (t_ret (b_ret (t_ret (b_ret (t_ret (t_ret (b_ret (t_ret ?_)))))))))))))))
         exact post_ret [2] rfl (.bool false) rfl ⟨z152_0,hE31⟩
       ·
        refine q_lss false rfl rfl (decide_eq_false hc23) zN (lw_nil (wp_seq (c_cond_f rfl (wp_exit (t_exit (t_exit (c_exit_here (wp_seq (wp_plain _ [0,0] rfl ?_)))))))))
        have hal:=sizes_all (l:=(p.getD k Fn.zero).outs) (k:=j) oM
        refine lw_tv 1 rfl ?_
        by_cases hc34:((400 :Nat):Int) < ((sz :Nat):Int)
        ·
         exact q_gtr true rfl rfl (decide_eq_true hc34) zN (lw_nil (c_cond_t rfl (wp_seq (wp_plain _ [0] rfl (lw_tvn 1 rfl (wp_ret (b_ret (t_ret (t_ret (b_ret (t_ret (post_ret [2] rfl (.bool false) rfl ⟨z152_0,hE20⟩))))))))))))
        ·
         refine q_gtr false rfl rfl (decide_eq_false hc34) zN (lw_nil (c_cond_f rfl (wp_skip (wp_plain _ [0,0] rfl (q_add ((k + 1 :Nat):Int) rfl rfl (w64n oM sD) zN (lw_tvn 1 rfl ?_))))))
         exact ⟨(k + 1),_,rfl,⟨rfl,rfl,rfl,rfl,trivial⟩,⟨hE20,hL20_0,sD,(by exact allR_succ hq (fn_ok (bn_f (by assumption)) (by assumption) (bn_f (by assumption)) (bn_f (by assumption)) hqe oM oM))⟩,by first | omega | (dsimp only; omega)⟩
      ·
       exact c_cond_t (by first | rfl | (show Value.bool _ = _; rw [hb19])) (wp_seq (wp_plain _ [0] rfl (lw_tvn 1 rfl (wp_ret (t_ret (b_ret (t_ret (t_ret (b_ret (t_ret (post_ret [2] rfl (.bool false) rfl ⟨z152_0,hE14⟩)))))))))))
     ·
      exact lw_tvn 6 rfl (c_cond_t rfl (wp_seq (wp_plain _ [0] rfl (lw_tvn 1 rfl (wp_ret (t_ret (b_ret (t_ret (t_ret (b_ret (t_ret (post_ret [2] rfl (.bool false) rfl ⟨z152_0,hE14⟩))))))))))))
    ·
     exact c_cond_t (by first | rfl | (show Value.bool _ = _; rw [hb15])) (wp_seq (wp_plain _ [0] rfl (lw_tvn 1 rfl (wp_ret (t_ret (b_ret (t_ret (t_ret (b_ret (t_ret (post_ret [2] rfl (.bool false) rfl ⟨z152_0,hE14⟩)))))))))))
   ·
    exact lw_tvn 7 rfl (c_cond_t rfl (wp_seq (wp_plain _ [0] rfl (lw_tvn 1 rfl (wp_ret (t_ret (b_ret (t_ret (t_ret (b_ret (t_ret (post_ret [2] rfl (.bool false) rfl ⟨z152_0,hE9⟩))))))))))))
  ·
   exact q_lss false rfl rfl (decide_eq_false hc5) zN (lw_nil (wp_seq (c_cond_f rfl (wp_exit (t_exit (t_exit (c_exit_here (wp_seq (wp_plain _ [0] rfl (lw_tvn 1 rfl (wp_ret (post_ret [2] rfl (.bool true) rfl ⟨z152_0,hE3⟩))))))))))))
end Go.Proofs.YtnokbaiemimhjaaGreat
