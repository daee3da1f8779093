/- Vn, Vo, Vq, Vr, Vt, FwZ: texts of this claim, joined; what the claim does not come to is left out. -/
import Derived.Test.YtnofbmdpabcjaaaGreatQB6
import Derived.Test.YtnofbmdpabcjaaaGreatProg
import Derived.Deep.Strs
set_option linter.unusedVariables false
set_option linter.unusedSimpArgs false
namespace Go.Proofs.YtnofbmdpabcjaaaGreat
open Go Go.RowKit
set_option linter.unusedVariables false
set_option linter.unusedSimpArgs false
attribute [local irreducible] LW
theorem c_call (F d : Nat) (IH1 : ∀ F',F' < F → ∀ d,SV F' d) (IH2 : ∀ d',d' < d → SV F d') : SC F d := by
 intro w S g pp dp n s0 c0 p ve ex vv env hS hgS hB0 hp hn hs0 hc0 hex henv hqenv hvp hF hwf hse hdp hk
 exact c_spec_l02Run_call w S F g pp dp n s0 c0 p d ve ex vv env hS hgS hB0 hp hn hs0 hc0 hex henv hqenv hvp hF hwf hse hdp hk IH1 IH2
set_option maxHeartbeats 4000000 in
set_option maxRecDepth 100000 in
theorem c_spec_l02Run_expr (w : World) (S : List Nat) (F : Nat) (g : Nat) (pp : Value) (dp n s0 : Nat) (c0 : Int) (p : List Fn) (dex : Nat) (ve : Value) (ex : Ex) (vv : Value) (env : List (List Int)) (hS : ∀ b ∈ S,b < w.heap.size) (hgS : g ∈ S) (hB0 : BX w.heap g [pp,.int .i64 ((n :Nat):Int),.int .i64 ((s0 :Nat):Int),.int .i64 c0]) (hp : RN S (rP (rPr dp)) w.heap pp p) (hn : 1 ≤ n ∧ n ≤ 13) (hs0 : s0 ≤ 3000) (hc0 : 0 ≤ c0 ∧ c0 ≤ 9) (hex : RN S (rP (rEx dex)) w.heap ve ex) (henv : RN S (rdL (rdL rI)) w.heap vv env) (hqenv : CapS vv) (hvp : VPr p) (hF : F ≤ p.length) (hwf : wf p ((F :Nat):Int) ex ((env.length :Nat):Int) = true) (hse : SrE n env) (hdp : env.length + ex.deep ≤ 1000000) (IH1 : ∀ F',F' < F → ∀ d,SV F' d) (IH2 : ∀ d',d' < dex → SV F d') :
  Calls Tryz.prog 134 #[.pointer (some ⟨g,0,none⟩),ve,vv] w (fun e w' => ∃ (v : Value) (x : List Int) (s1 : Nat) (c1 : Int),e = .returned v ∧ Chg [g] w w' ∧ BX w'.heap g [pp,.int .i64 ((n :Nat):Int),.int .i64 ((s1 :Nat):Int),.int .i64 c1] ∧ RN S (rdL rI) w'.heap v x ∧ Ser1 n x ∧ s1 ≤ 3000 ∧ (0 ≤ c1 ∧ c1 ≤ 9) ∧ RelV (go c0 (evE n (evC p n F) ex env s0)) x s1 c1) := by
 refine calls_mk [.pointer (some ⟨g,0,none⟩),ve,vv] 186 Tryz.func134 rfl rfl (by simp) ?_
 have hE0 : Chg [g] w w := Chg.refl [g] w
 have hl_vv := henv.lenL
 unfold maxLen at hl_vv
 have hgl := hB0.lt
 have hq0 := wfN_all (wf_node hwf)
 have hdk := deep_kids ex
 refine wp_seq ?_
 refine wp_plain _ [0] rfl ?_
 refine q_assign (.slice none 0 0) rfl zN ?_
 refine lw_nil ?_
 refine wp_seq ?_
 refine wp_seq ?_
 refine wp_plain _ [0,0,0,2,0] rfl ?_
 refine q_move (.pointer (some ⟨g,0,none⟩)) rfl zN ?_
 refine q_nil rfl zN ?_
 refine q_fldP (p := (.pointer (some ⟨g,0,none⟩))) (b := g) (o := 0) 3 fd123_3 rfl rfl zN ?_
 refine q_load (p := (padd (.pointer (some ⟨g,0,none⟩)) 3)) (.inr rfl) (.int .i64 c0) one2 rfl (hB0.ldp (i := 3) (by simp)) zN ?_
 by_cases hc1 : c0 ≠ ((0 :Nat):Int)
 ·
  refine q_neq true rfl rfl (decide_eq_true hc1) zN ?_
  refine lw_nil ?_
  refine c_cond_t rfl ?_
  refine wp_seq ?_
  refine wp_plain _ [0,0,0,0,2,4,0] rfl ?_
  refine q_move (.pointer (some ⟨g,0,none⟩)) rfl zN ?_
  refine q_move (.pointer (some ⟨g,0,none⟩)) rfl zN ?_
  refine q_nil rfl zN ?_
  refine q_fldP (p := (.pointer (some ⟨g,0,none⟩))) (b := g) (o := 0) 3 fd123_3 rfl rfl zN ?_
  refine q_load (p := (padd (.pointer (some ⟨g,0,none⟩)) 3)) (.inr rfl) (.int .i64 c0) one2 rfl (hB0.ldp (i := 3) (by simp)) zN ?_
  refine lw_callE 148 [] [] [(.pointer (some ⟨g,0,none⟩)),(.int .i64 c0)] rfl rfl cf148 zN (c_spec_l02Run_fail _ S g pp dp (n) (s0) (c0) (p) (c0) (fun b hb => (by have := hS b hb; omega : b < w.heap.size)) hgS hB0 (hp.chg (good_rP (good_rPr dp)) (hE0.sub (subS hgS))) (by omega) (by omega) (by omega) (by omega) (by omega)) ?_
  rintro e2 w2 ⟨v2,x2,s2,c2,rfl,hC2,hB2,hr2,hse2,hsb2,hcb2,hrl2⟩
  refine ⟨_,rfl,?_⟩
  have hzs2:=hC2.size
  have hE2 : Chg [g] w w2 := hE0.trans hC2
  have hsn2 := hse2.1
  have hfs := hrl2.1
  have hff := hrl2.2
  refine q_assign v2 rfl zN ?_
  refine lw_nil ?_
  refine wp_ret ?_
  refine t_ret ?_
  exact post_ret [6] rfl v2 rfl ⟨v2,x2,s2,c2,rfl,hE2,hB2,hr2,(by assumption),(by omega),(by omega),(by rw [hff,if_neg (by omega)]; exact rel_code (by omega))⟩
 ·
  refine q_neq false rfl rfl (decide_eq_false hc1) zN ?_
  refine lw_nil ?_
  refine c_cond_f rfl ?_
  refine wp_skip ?_
  refine wp_seq ?_
  refine wp_seq ?_
  refine wp_plain _ [0,0,0,2,0] rfl ?_
  refine q_move (.pointer (some ⟨g,0,none⟩)) rfl zN ?_
  refine q_nil rfl zN ?_
  refine q_fldP (p := (.pointer (some ⟨g,0,none⟩))) (b := g) (o := 0) 2 fd123_2 rfl rfl zN ?_
  refine q_load (p := (padd (.pointer (some ⟨g,0,none⟩)) 2)) (.inr rfl) (.int .i64 ((s0 :Nat):Int)) one2 rfl (hB0.ldp (i := 2) (by simp)) zN ?_
  by_cases hc6 : ((s0 :Nat):Int) = ((3000 :Nat):Int)
  ·
   refine q_eql true rfl rfl (decide_eq_true hc6) zN ?_
   refine lw_nil ?_
   refine c_cond_t rfl ?_
   refine wp_seq ?_
   refine wp_plain _ [0,4,0] rfl ?_
   refine q_move (.pointer (some ⟨g,0,none⟩)) rfl zN ?_
   refine lw_callE 148 [] [] [(.pointer (some ⟨g,0,none⟩)),(.int .i64 ((7 :Nat):Int))] rfl rfl cf148 zN (c_spec_l02Run_fail _ S g pp dp (n) (s0) (c0) (p) (((7 :Nat):Int)) (fun b hb => (by have := hS b hb; omega : b < w.heap.size)) hgS hB0 (hp.chg (good_rP (good_rPr dp)) (hE0.sub (subS hgS))) (by omega) (by omega) (by omega) (by omega) (by omega)) ?_
   rintro e7 w7 ⟨v7,x7,s7,c7,rfl,hC7,hB7,hr7,hse7,hsb7,hcb7,hrl7⟩
   refine ⟨_,rfl,?_⟩
   have hzs7:=hC7.size
   have hE7 : Chg [g] w w7 := hE0.trans hC7
   have hsn7 := hse7.1
   have hfs := hrl7.1
   have hff := hrl7.2
   refine q_assign v7 rfl zN ?_
   refine lw_nil ?_
   refine wp_ret ?_
   refine t_ret ?_
   exact post_ret [6] rfl v7 rfl ⟨v7,x7,s7,c7,rfl,hE7,hB7,hr7,(by assumption),(by omega),(by omega),(by rw [hff,if_pos (by omega)]; exact rel_budget (by omega) (by omega))⟩
  ·
   refine q_eql false rfl rfl (decide_eq_false hc6) zN ?_
   refine lw_nil ?_
   refine c_cond_f rfl ?_
   refine wp_skip ?_
   refine wp_seq ?_
   refine wp_plain _ [0,0,0,2,0,0,0,4] rfl ?_
   refine q_move (.pointer (some ⟨g,0,none⟩)) rfl zN ?_
   refine q_nil rfl zN ?_
   refine q_fldP (p := (.pointer (some ⟨g,0,none⟩))) (b := g) (o := 0) 2 fd123_2 rfl rfl zN ?_
   refine q_load (p := (padd (.pointer (some ⟨g,0,none⟩)) 2)) (.inr rfl) (.int .i64 ((s0 :Nat):Int)) one2 rfl (hB0.ldp (i := 2) (by simp)) zN ?_
   refine q_add ((s0 + 1 :Nat):Int) rfl rfl (w64n (by omega) (by omega)) zN ?_
   refine q_nil rfl zN ?_
   refine q_fldP (p := (.pointer (some ⟨g,0,none⟩))) (b := g) (o := 0) 2 fd123_2 rfl rfl zN ?_
   refine e_setB (k := 2) (w := w) sz2 rfl rfl ⟨rfl,rfl⟩ hB0 (by simp) zN ?_
   intro w11 hC11 hz11 hB11
   replace hB11 : BX w11.heap g [pp,(.int .i64 ((n :Nat):Int)),(.int .i64 ((s0 + 1 :Nat):Int)),(.int .i64 c0)] := hB11
   have hE11 : Chg [g] w w11 := hE0.trans hC11
   have hzs11:=hC11.size
   refine lw_nil ?_
   refine wp_seq ?_
   refine wp_seq ?_
   refine wp_plain _ [0,0,0,2] rfl ?_
   have hc00 : c0 = 0 := by omega
   have hs1 : s0 + 1 ≤ 3000 := by omega
   refine q_move ve rfl zN ?_
   refine q_nilP (hex.isPtr) rfl zN ?_
   obtain ⟨cs12,hr12,hl12⟩ := RN.at (good_rEx _) hex
   obtain ⟨dd12,ve12,hd12,rfl,hx12⟩ := RX.of hr12
   have hln12 := hx12.rn.lenle
   unfold maxLen at hln12
   refine q_fldL (p := ve) 0 fd94_0 rfl (hl12 _ (hE11.sub (subS hgS))) zN ?_
   refine q_load (p := (padd ve 0)) (.inr rfl) (.int .i64 ex.kind) one2 rfl ((hl12 _ (hE11.sub (subS hgS))).ld (i := 0) (by simp [exC,fnC])) zN ?_
   refine lw_nil ?_
   refine wp_block ?_
   refine wp_seq ?_
   refine wp_plain _ [0,0] rfl ?_
   by_cases hc13 : ex.kind = ((1 :Nat):Int)
   ·
    refine q_eql true rfl rfl (decide_eq_true hc13) zN ?_
    refine q_assign (.bool true) rfl zN ?_
    refine lw_nil ?_
    refine c_cond_t rfl ?_
    refine wp_seq ?_
    refine wp_draw _ [0,0,0,1,0,0,0,1,3,0] mixed (by kernel_rfl) ?_
    refine q_move ve rfl zN ?_
    refine q_nilP (hex.isPtr) rfl zN ?_
    refine q_fldL (p := ve) 1 fd94_1 rfl (hl12 _ (hE11.drew.sub (subS hgS))) zN ?_
    refine q_load (p := (padd ve 1)) (.inl rfl) (.int .i64 ex.num) one2 rfl ((hl12 _ (hE11.drew.sub (subS hgS))).ld (i := 1) (by simp [exC,fnC])) zN ?_
    refine q_move (.pointer (some ⟨g,0,none⟩)) rfl zN ?_
    refine q_nil rfl zN ?_
    refine q_fldP (p := (.pointer (some ⟨g,0,none⟩))) (b := g) (o := 0) 1 fd123_1 rfl rfl zN ?_
    refine q_load (p := (padd (.pointer (some ⟨g,0,none⟩)) 1)) (.inl rfl) (.int .i64 ((n :Nat):Int)) one3 rfl (hB11.ldp (i := 1) (by simp)) zN ?_
    refine lw_call 93 [] [] [(.int .i64 ex.num),(.int .i64 ((n :Nat):Int))] rfl rfl cf93 zN (c_spec_l01Const _ _ (n) hx12.rng.num (by first | omega | assumption | (simp; done) | (simp; omega)) (by omega)) ?_
    rintro e14 w14 ⟨v14_0,rfl,hX14,hO14_0⟩
    refine ⟨_,rfl,hX14,?_⟩
    replace hX14 := hX14.of_drew
    have hzs14:=hX14.size
    have hE14 : Chg [g] w w14 := hE11.ext hX14
    have hB11x14 := hB11.ext hX14
    replace hO14_0 := hO14_0.low (B' := w11.heap.size) (Nat.le_refl _)
    refine q_assign v14_0 rfl zN ?_
    refine lw_nil ?_
    refine wp_ret ?_
    refine b_ret ?_
    refine t_ret ?_
    exact post_ret [6] rfl v14_0 rfl ⟨v14_0,cst n ex.num,s0 + 1,c0,rfl,hE14,hB11x14,(RN.of_fr1 hO14_0 (fun b hb => by have := hS b hb; omega)),(by exact cst_ser (isN_iff.2 (by omega))),(by omega),(by omega),(by exact rel_num hc00 hs1 (by omega))⟩
   ·
    refine q_eql false rfl rfl (decide_eq_false hc13) zN ?_
    refine q_assign (.bool false) rfl zN ?_
    refine lw_nil ?_
    refine c_cond_f rfl ?_
    refine wp_seq ?_
    refine wp_plain _ [0,0] rfl ?_
    by_cases hc15 : ex.kind = ((2 :Nat):Int)
    ·
     refine q_eql true rfl rfl (decide_eq_true hc15) zN ?_
     refine q_assign (.bool true) rfl zN ?_
     refine lw_nil ?_
     refine c_cond_t rfl ?_
     refine wp_seq ?_
     refine wp_plain _ [0,0,0,0,2,0,2,0] rfl ?_
     refine q_move vv rfl zN ?_
     refine q_move ve rfl zN ?_
     refine q_nilP (hex.isPtr) rfl zN ?_
     refine q_fldL (p := ve) 1 fd94_1 rfl (hl12 _ (hE11.sub (subS hgS))) zN ?_
     refine q_load (p := (padd ve 1)) (.inr rfl) (.int .i64 ex.num) one2 rfl ((hl12 _ (hE11.sub (subS hgS))).ld (i := 1) (by simp [exC,fnC])) zN ?_
     refine q_idx (v := vv) ((ex.num).toNat) u27 ti25 rfl rfl henv.slL (by omega) (by first | omega | assumption | (simp; done) | (simp; omega)) zN ?_
     obtain ⟨ue16,hl16,hr16⟩ := RN.getL (w := w) g1 [] (k := (ex.num).toNat) henv (by first | omega | assumption | (simp; done) | (simp; omega))
     have hln16 := hr16.lenL
     unfold maxLen at hln16
     refine q_load (p := eptr vv ((ex.num).toNat) 1) (.inr rfl) ue16 one25 rfl (hl16 _ (hE11.sub (subS hgS))) zN ?_
     refine q_assign ue16 rfl zN ?_
     refine lw_nil ?_
     refine wp_ret ?_
     refine b_ret ?_
     refine t_ret ?_
     exact post_ret [6] rfl ue16 rfl ⟨ue16,env.getD ((ex.num).toNat) [],s0 + 1,c0,rfl,hE11,hB11,(hr16.chg g1 (hE11.sub (subS hgS))),(by exact hse _ (by omega)),(by omega),(by omega),(by exact rel_var hc00 hs1 (by omega))⟩
    ·
     refine q_eql false rfl rfl (decide_eq_false hc15) zN ?_
     refine q_assign (.bool false) rfl zN ?_
     refine lw_nil ?_
     refine c_cond_f rfl ?_
     refine wp_seq ?_
     refine wp_plain _ [0,0] rfl ?_
     by_cases hc17 : ex.kind = ((7 :Nat):Int)
     ·
      refine q_eql true rfl rfl (decide_eq_true hc17) zN ?_
      refine q_assign (.bool true) rfl zN ?_
      refine lw_nil ?_
      refine c_cond_t rfl ?_
      refine wp_seq ?_
      refine wp_plain _ [0,0,0,0,2,0,0,4,3,0] rfl ?_
      refine q_move (.pointer (some ⟨g,0,none⟩)) rfl zN ?_
      refine q_move ve rfl zN ?_
      refine q_nilP (hex.isPtr) rfl zN ?_
      refine q_fldL (p := ve) 4 fd94_4 rfl (hl12 _ (hE11.sub (subS hgS))) zN ?_
      refine q_load (p := (padd ve 4)) (.inr rfl) ve12 one78 rfl ((hl12 _ (hE11.sub (subS hgS))).ld (i := 4) (by simp [exC,fnC])) zN ?_
      refine q_idx (v := ve12) 0 u78 tiS94 rfl rfl hx12.rn.isSl rfl (by first | omega | assumption | (simp; done) | (simp; omega)) zN ?_
      refine q_move vv rfl zN ?_
      refine lw_callE 134 [] [] [(.pointer (some ⟨g,0,none⟩)),(eptr ve12 0 5),vv] rfl rfl cf134 zN (IH2 dd12 (by omega) _ S g pp dp (n) (s0 + 1) (c0) (p) (eptr ve12 0 5) (ex.kids.getD 0 Ex.zero) vv (env) (fun b hb => (by have := hS b hb; omega : b < w11.heap.size)) hgS hB11 (hp.chg (good_rP (good_rPr dp)) (hE11.sub (subS hgS))) (by omega) (by omega) (by omega) (RN.ptr (good_rEx dd12) (by decide) Ex.zero (hx12.rn.chg (good_rdS (good_rEx dd12)) (hE11.sub (subS hgS))) (by first | omega | assumption | (simp; done) | (simp; omega))) (henv.chg g2 (hE11.sub (subS hgS))) hqenv (by exact hvp) (by omega) (by exact wf_at0 hwf (by omega) (by omega)) (by exact hse) (by have := kd_at (l := ex.kids) (k := 0) (by omega); omega)) ?_
      rintro e18 w18 ⟨v18,x18,s18,c18,rfl,hC18,hB18,hr18,hse18,hsb18,hcb18,hrl18⟩
      refine ⟨_,rfl,?_⟩
      have hzs18:=hC18.size
      have hE18 : Chg [g] w w18 := hE11.trans hC18
      have hsn18 := hse18.1
      refine lw_call 149 [] [] [v18,(.int .i64 ((1000002 :Nat):Int))] rfl rfl cf149 zN (c_spec_l01Scale _ _ _ _ (hr18).rd (by omega) (by omega)) ?_
      rintro e23 w23 ⟨v23_0,rfl,hX23,hO23_0⟩
      refine ⟨_,rfl,hX23,?_⟩
      have hzs23:=hX23.size
      have hE23 : Chg [g] w w23 := hE18.ext hX23
      have hB18x23 := hB18.ext hX23
      have hN24 := hr18.ext g1 hX23
      refine q_assign v23_0 rfl zN ?_
      refine lw_nil ?_
      refine wp_ret ?_
      refine b_ret ?_
      refine t_ret ?_
      exact post_ret [6] rfl v23_0 rfl ⟨v23_0,scl x18 ((1000002 :Nat):Int),s18,c18,rfl,hE23,hB18x23,(RN.of_fr1 hO23_0 (fun b hb => by have := hS b hb; omega)),(by rw [scl_eq]; exact sclS_ser (by assumption)),(by omega),(by omega),(by exact rel_ops hc00 hs1 (by omega) (rel_k1 (by omega) ‹RelV (go c0 (evE _ _ (ex.kids.getD 0 _) _ _)) _ _ _›) (fun h0 => by rw [h0,scl_eq]; exact op_neg (by omega)) (fun _ => rfl))⟩
     ·
      refine q_eql false rfl rfl (decide_eq_false hc17) zN ?_
      refine q_assign (.bool false) rfl zN ?_
      refine lw_nil ?_
      refine c_cond_f rfl ?_
      refine wp_seq ?_
      refine wp_plain _ [0,0] rfl ?_
      by_cases hc25 : ex.kind = ((8 :Nat):Int)
      ·
       refine q_eql true rfl rfl (decide_eq_true hc25) zN ?_
       refine q_assign (.bool true) rfl zN ?_
       refine lw_nil ?_
       refine c_cond_t rfl ?_
       refine wp_seq ?_
       refine wp_seq ?_
       refine wp_plain _ [0,0,0,0,2,0,0,4,0,2,0] rfl ?_
       refine q_move (.pointer (some ⟨g,0,none⟩)) rfl zN ?_
       refine q_move ve rfl zN ?_
       refine q_nilP (hex.isPtr) rfl zN ?_
       refine q_fldL (p := ve) 4 fd94_4 rfl (hl12 _ (hE11.sub (subS hgS))) zN ?_
       refine q_load (p := (padd ve 4)) (.inr rfl) ve12 one78 rfl ((hl12 _ (hE11.sub (subS hgS))).ld (i := 4) (by simp [exC,fnC])) zN ?_
       refine q_idx (v := ve12) 0 u78 tiS94 rfl rfl hx12.rn.isSl rfl (by first | omega | assumption | (simp; done) | (simp; omega)) zN ?_
       refine q_move vv rfl zN ?_
       refine lw_callE 134 [] [] [(.pointer (some ⟨g,0,none⟩)),(eptr ve12 0 5),vv] rfl rfl cf134 zN (IH2 dd12 (by omega) _ S g pp dp (n) (s0 + 1) (c0) (p) (eptr ve12 0 5) (ex.kids.getD 0 Ex.zero) vv (env) (fun b hb => (by have := hS b hb; omega : b < w11.heap.size)) hgS hB11 (hp.chg (good_rP (good_rPr dp)) (hE11.sub (subS hgS))) (by omega) (by omega) (by omega) (RN.ptr (good_rEx dd12) (by decide) Ex.zero (hx12.rn.chg (good_rdS (good_rEx dd12)) (hE11.sub (subS hgS))) (by first | omega | assumption | (simp; done) | (simp; omega))) (henv.chg g2 (hE11.sub (subS hgS))) hqenv (by exact hvp) (by omega) (by exact wf_at0 hwf (by omega) (by omega)) (by exact hse) (by have := kd_at (l := ex.kids) (k := 0) (by omega); omega)) ?_
       rintro e26 w26 ⟨v26,x26,s26,c26,rfl,hC26,hB26,hr26,hse26,hsb26,hcb26,hrl26⟩
       refine ⟨_,rfl,?_⟩
       have hzs26:=hC26.size
       have hE26 : Chg [g] w w26 := hE11.trans hC26
       have hsn26 := hse26.1
       refine q_idx (v := v26) 0 u25 ti2 rfl rfl hr26.slL rfl (by first | omega | assumption | (simp; done) | (simp; omega)) zN ?_
       have hg31 := RN.getI (w := w26) (k := 0) hr26 (by first | omega | assumption | (simp; done) | (simp; omega))
       refine q_load (p := eptr v26 0 1) (.inr rfl) (.int .i64 (x26.getD 0 0)) one2 rfl (hg31.1 _ (Chg.refl _ _)) zN ?_
       by_cases hc32 : x26.getD 0 0 = ((0 :Nat):Int)
       ·
        refine q_eql true rfl rfl (decide_eq_true hc32) zN ?_
        refine lw_nil ?_
        refine c_cond_t rfl ?_
        refine wp_seq ?_
        refine wp_plain _ [0,0,0,0,2,0,0,4,0] rfl ?_
        refine q_move (.pointer (some ⟨g,0,none⟩)) rfl zN ?_
        refine q_move ve rfl zN ?_
        refine q_nilP (hex.isPtr) rfl zN ?_
        refine q_fldL (p := ve) 4 fd94_4 rfl (hl12 _ (hE26.sub (subS hgS))) zN ?_
        refine q_load (p := (padd ve 4)) (.inr rfl) ve12 one78 rfl ((hl12 _ (hE26.sub (subS hgS))).ld (i := 4) (by simp [exC,fnC])) zN ?_
        refine q_idx (v := ve12) 1 u78 tiS94 rfl rfl hx12.rn.isSl rfl (by first | omega | assumption | (simp; done) | (simp; omega)) zN ?_
        refine q_move vv rfl zN ?_
        refine lw_callE 134 [] [] [(.pointer (some ⟨g,0,none⟩)),(eptr ve12 1 5),vv] rfl rfl cf134 zN (IH2 dd12 (by omega) _ S g pp dp (n) (s26) (c26) (p) (eptr ve12 1 5) (ex.kids.getD 1 Ex.zero) vv (env) (fun b hb => (by have := hS b hb; omega : b < w26.heap.size)) hgS hB26 (hp.chg (good_rP (good_rPr dp)) (hE26.sub (subS hgS))) (by omega) (by omega) (by omega) (RN.ptr (good_rEx dd12) (by decide) Ex.zero (hx12.rn.chg (good_rdS (good_rEx dd12)) (hE26.sub (subS hgS))) (by first | omega | assumption | (simp; done) | (simp; omega))) (henv.chg g2 (hE26.sub (subS hgS))) hqenv (by exact hvp) (by omega) (by exact wf_at0 hwf (by omega) (by omega)) (by exact hse) (by have := kd_at (l := ex.kids) (k := 1) (by omega); omega)) ?_
        rintro e33 w33 ⟨v33,x33,s33,c33,rfl,hC33,hB33,hr33,hse33,hsb33,hcb33,hrl33⟩
        refine ⟨_,rfl,?_⟩
        have hzs33:=hC33.size
        have hE33 : Chg [g] w w33 := hE26.trans hC33
        have hF38 := hr26.run g1 hgS hC33
        have hsn33 := hse33.1
        refine q_assign v33 rfl zN ?_
        refine lw_nil ?_
        refine wp_ret ?_
        refine t_ret ?_
        refine b_ret ?_
        refine t_ret ?_
        exact post_ret [6] rfl v33 rfl ⟨v33,x33,s33,c33,rfl,hE33,hB33,hr33,(by assumption),(by omega),(by omega),(by first | exact rel_if0 hc00 hs1 (by omega) (by omega) ‹RelV (go c0 (evE _ _ (ex.kids.getD 0 _) _ _)) _ _ _› (by omega) (by assumption) | exact rel_if1 hc00 hs1 (by omega) (by omega) ‹RelV (go c0 (evE _ _ (ex.kids.getD 0 _) _ _)) _ _ _› (by omega) (by assumption))⟩
       ·
        refine q_eql false rfl rfl (decide_eq_false hc32) zN ?_
        refine lw_nil ?_
        refine c_cond_f rfl ?_
        refine wp_skip ?_
        refine wp_seq ?_
        refine wp_plain _ [0,0,0,0,2,0,0,4,0] rfl ?_
        refine q_move (.pointer (some ⟨g,0,none⟩)) rfl zN ?_
        refine q_move ve rfl zN ?_
        refine q_nilP (hex.isPtr) rfl zN ?_
        refine q_fldL (p := ve) 4 fd94_4 rfl (hl12 _ (hE26.sub (subS hgS))) zN ?_
        refine q_load (p := (padd ve 4)) (.inr rfl) ve12 one78 rfl ((hl12 _ (hE26.sub (subS hgS))).ld (i := 4) (by simp [exC,fnC])) zN ?_
        refine q_idx (v := ve12) 2 u78 tiS94 rfl rfl hx12.rn.isSl rfl (by first | omega | assumption | (simp; done) | (simp; omega)) zN ?_
        refine q_move vv rfl zN ?_
        refine lw_callE 134 [] [] [(.pointer (some ⟨g,0,none⟩)),(eptr ve12 2 5),vv] rfl rfl cf134 zN (IH2 dd12 (by omega) _ S g pp dp (n) (s26) (c26) (p) (eptr ve12 2 5) (ex.kids.getD 2 Ex.zero) vv (env) (fun b hb => (by have := hS b hb; omega : b < w26.heap.size)) hgS hB26 (hp.chg (good_rP (good_rPr dp)) (hE26.sub (subS hgS))) (by omega) (by omega) (by omega) (RN.ptr (good_rEx dd12) (by decide) Ex.zero (hx12.rn.chg (good_rdS (good_rEx dd12)) (hE26.sub (subS hgS))) (by first | omega | assumption | (simp; done) | (simp; omega))) (henv.chg g2 (hE26.sub (subS hgS))) hqenv (by exact hvp) (by omega) (by exact wf_at0 hwf (by omega) (by omega)) (by exact hse) (by have := kd_at (l := ex.kids) (k := 2) (by omega); omega)) ?_
        rintro e39 w39 ⟨v39,x39,s39,c39,rfl,hC39,hB39,hr39,hse39,hsb39,hcb39,hrl39⟩
        refine ⟨_,rfl,?_⟩
        have hzs39:=hC39.size
        have hE39 : Chg [g] w w39 := hE26.trans hC39
        have hF44 := hr26.run g1 hgS hC39
        have hsn39 := hse39.1
        refine q_assign v39 rfl zN ?_
        refine lw_nil ?_
        refine wp_ret ?_
        refine b_ret ?_
        refine t_ret ?_
        exact post_ret [6] rfl v39 rfl ⟨v39,x39,s39,c39,rfl,hE39,hB39,hr39,(by assumption),(by omega),(by omega),(by first | exact rel_if0 hc00 hs1 (by omega) (by omega) ‹RelV (go c0 (evE _ _ (ex.kids.getD 0 _) _ _)) _ _ _› (by omega) (by assumption) | exact rel_if1 hc00 hs1 (by omega) (by omega) ‹RelV (go c0 (evE _ _ (ex.kids.getD 0 _) _ _)) _ _ _› (by omega) (by assumption))⟩
      ·
       refine q_eql false rfl rfl (decide_eq_false hc25) zN ?_
       refine q_assign (.bool false) rfl zN ?_
       refine lw_nil ?_
       refine c_cond_f rfl ?_
       refine wp_seq ?_
       refine wp_plain _ [0,0] rfl ?_
       by_cases hc45 : ex.kind = ((9 :Nat):Int)
       ·
        refine q_eql true rfl rfl (decide_eq_true hc45) zN ?_
        refine q_assign (.bool true) rfl zN ?_
        refine lw_nil ?_
        refine c_cond_t rfl ?_
        refine wp_seq ?_
        refine wp_plain _ [0,0,0,0,2,0,0,4,0] rfl ?_
        refine q_move (.pointer (some ⟨g,0,none⟩)) rfl zN ?_
        refine q_move ve rfl zN ?_
        refine q_nilP (hex.isPtr) rfl zN ?_
        refine q_fldL (p := ve) 4 fd94_4 rfl (hl12 _ (hE11.sub (subS hgS))) zN ?_
        refine q_load (p := (padd ve 4)) (.inr rfl) ve12 one78 rfl ((hl12 _ (hE11.sub (subS hgS))).ld (i := 4) (by simp [exC,fnC])) zN ?_
        refine q_idx (v := ve12) 0 u78 tiS94 rfl rfl hx12.rn.isSl rfl (by first | omega | assumption | (simp; done) | (simp; omega)) zN ?_
        refine q_move vv rfl zN ?_
        refine lw_callE 134 [] [] [(.pointer (some ⟨g,0,none⟩)),(eptr ve12 0 5),vv] rfl rfl cf134 zN (IH2 dd12 (by omega) _ S g pp dp (n) (s0 + 1) (c0) (p) (eptr ve12 0 5) (ex.kids.getD 0 Ex.zero) vv (env) (fun b hb => (by have := hS b hb; omega : b < w11.heap.size)) hgS hB11 (hp.chg (good_rP (good_rPr dp)) (hE11.sub (subS hgS))) (by omega) (by omega) (by omega) (RN.ptr (good_rEx dd12) (by decide) Ex.zero (hx12.rn.chg (good_rdS (good_rEx dd12)) (hE11.sub (subS hgS))) (by first | omega | assumption | (simp; done) | (simp; omega))) (henv.chg g2 (hE11.sub (subS hgS))) hqenv (by exact hvp) (by omega) (by exact wf_at0 hwf (by omega) (by omega)) (by exact hse) (by have := kd_at (l := ex.kids) (k := 0) (by omega); omega)) ?_
        rintro e46 w46 ⟨v46,x46,s46,c46,rfl,hC46,hB46,hr46,hse46,hsb46,hcb46,hrl46⟩
        refine ⟨_,rfl,?_⟩
        have hzs46:=hC46.size
        have hE46 : Chg [g] w w46 := hE11.trans hC46
        have hsn46 := hse46.1
        refine q_assign v46 rfl zN ?_
        refine lw_nil ?_
        refine wp_seq ?_
        refine wp_draw _ [0,0,0,0,1,0,0,0,3,4,0] mixed (by kernel_rfl) ?_
        refine q_move (.pointer (some ⟨g,0,none⟩)) rfl zN ?_
        refine q_move ve rfl zN ?_
        refine q_nilP (hex.isPtr) rfl zN ?_
        refine q_fldL (p := ve) 4 fd94_4 rfl (hl12 _ (hE46.drew.sub (subS hgS))) zN ?_
        refine q_load (p := (padd ve 4)) (.inl rfl) ve12 one78 rfl ((hl12 _ (hE46.drew.sub (subS hgS))).ld (i := 4) (by simp [exC,fnC])) zN ?_
        refine q_idx (v := ve12) 1 u78 tiS94 rfl rfl hx12.rn.isSl rfl (by first | omega | assumption | (simp; done) | (simp; omega)) zN ?_
        refine q_move vv rfl zN ?_
        refine q_move v46 rfl zN ?_
        refine lw_call 150 [] [] [vv,v46] rfl rfl cf150 zN (c_spec_l02Env _ S vv (env) v46 (x46) (fun b hb => (by have := hS b hb; omega : b < w46.heap.size)) (henv.chg g2 (hE46.drew.sub (subS hgS))) hqenv hr46 (by omega)) ?_
        rintro e51 w51 ⟨v51,rfl,hX51,hr51,hcp51⟩
        refine ⟨_,rfl,hX51,?_⟩
        replace hX51 := hX51.of_drew
        have hzs51:=hX51.size
        have hE51 : Chg [g] w w51 := hE46.ext hX51
        have hB46x51 := hB46.ext hX51
        have hN52 := hr46.ext g1 hX51
        refine lw_callE 134 [] [] [(.pointer (some ⟨g,0,none⟩)),(eptr ve12 1 5),v51] rfl rfl cf134 zN (IH2 dd12 (by omega) _ S g pp dp (n) (s46) (c46) (p) (eptr ve12 1 5) (ex.kids.getD 1 Ex.zero) v51 (env ++ [x46]) (fun b hb => (by have := hS b hb; omega : b < w51.heap.size)) hgS hB46x51 (hp.chg (good_rP (good_rPr dp)) (hE51.sub (subS hgS))) (by omega) (by omega) (by omega) (RN.ptr (good_rEx dd12) (by decide) Ex.zero (hx12.rn.chg (good_rdS (good_rEx dd12)) (hE51.sub (subS hgS))) (by first | omega | assumption | (simp; done) | (simp; omega))) hr51 hcp51 (by exact hvp) (by omega) (by have h9 := wf_at1 hwf (by omega) (by omega); rw [List.length_append,List.length_singleton]; exact h9) (by exact hse.snoc (by assumption)) (by have := kd_at (l := ex.kids) (k := 1) (by omega); rw [List.length_append,List.length_singleton]; omega)) ?_
        rintro e53 w53 ⟨v53,x53,s53,c53,rfl,hC53,hB53,hr53,hse53,hsb53,hcb53,hrl53⟩
        refine ⟨_,rfl,?_⟩
        have hzs53:=hC53.size
        have hE53 : Chg [g] w w53 := hE51.trans hC53
        have hF58 := hN52.run g1 hgS hC53
        have hF59 := hr51.run g2 hgS hC53
        have hsn53 := hse53.1
        refine q_assign v53 rfl zN ?_
        refine lw_nil ?_
        refine wp_ret ?_
        refine b_ret ?_
        refine t_ret ?_
        exact post_ret [6] rfl v53 rfl ⟨v53,x53,s53,c53,rfl,hE53,hB53,hr53,(by assumption),(by omega),(by omega),(by exact rel_let hc00 hs1 (by omega) (by omega) ‹RelV (go c0 (evE _ _ (ex.kids.getD 0 _) _ _)) _ _ _› (by assumption))⟩
       ·
        refine q_eql false rfl rfl (decide_eq_false hc45) zN ?_
        refine q_assign (.bool false) rfl zN ?_
        refine lw_nil ?_
        refine c_cond_f rfl ?_
        refine wp_seq ?_
        refine wp_seq ?_
        refine wp_plain _ [0,0] rfl ?_
        by_cases hc60 : ex.kind = ((10 :Nat):Int)
        ·
         refine q_eql true rfl rfl (decide_eq_true hc60) zN ?_
         refine q_assign (.bool true) rfl zN ?_
         refine lw_nil ?_
         refine c_cond_t rfl ?_
         refine wp_skip ?_
         refine c_cond_t rfl ?_
         refine wp_seq ?_
         refine wp_plain _ [0,0,0,4,0] rfl ?_
         refine q_move (.pointer (some ⟨g,0,none⟩)) rfl zN ?_
         refine q_move ve rfl zN ?_
         refine q_move vv rfl zN ?_
         refine lw_callE 151 [] [] [(.pointer (some ⟨g,0,none⟩)),ve,vv] rfl rfl cf151 zN (c_call F dex IH1 IH2 _ S g pp dp (n) (s0 + 1) (c0) (p) ve (ex) vv (env) (fun b hb => (by have := hS b hb; omega : b < w11.heap.size)) hgS hB11 (hp.chg (good_rP (good_rPr dp)) (hE11.sub (subS hgS))) (by omega) (by omega) (by omega) (hex.chg (good_rP (good_rEx dex)) (hE11.sub (subS hgS))) (henv.chg g2 (hE11.sub (subS hgS))) hqenv (by exact hvp) (by omega) (by exact hwf) (by exact hse) (by omega) (by omega)) ?_
         rintro e61 w61 ⟨v61,x61,s61,c61,rfl,hC61,hB61,hr61,hse61,hsb61,hcb61,hrl61⟩
         refine ⟨_,rfl,?_⟩
         have hzs61:=hC61.size
         have hE61 : Chg [g] w w61 := hE11.trans hC61
         have hsn61 := hse61.1
         refine q_assign v61 rfl zN ?_
         refine lw_nil ?_
         refine wp_ret ?_
         refine b_ret ?_
         refine t_ret ?_
         exact post_ret [6] rfl v61 rfl ⟨v61,x61,s61,c61,rfl,hE61,hB61,hr61,(by assumption),(by omega),(by omega),(by exact rel_callV hc00 hs1 (by omega) (by assumption))⟩
        ·
         refine q_eql false rfl rfl (decide_eq_false hc60) zN ?_
         refine q_assign (.bool false) rfl zN ?_
         refine lw_nil ?_
         refine c_cond_f rfl ?_
         refine wp_plain _ [0,0] rfl ?_
         by_cases hc66 : ex.kind = ((11 :Nat):Int)
         ·
          refine q_eql true rfl rfl (decide_eq_true hc66) zN ?_
          refine q_assign (.bool true) rfl zN ?_
          refine lw_nil ?_
          refine c_cond_t rfl ?_
          refine wp_seq ?_
          refine wp_plain _ [0,0,0,4,0] rfl ?_
          refine q_move (.pointer (some ⟨g,0,none⟩)) rfl zN ?_
          refine q_move ve rfl zN ?_
          refine q_move vv rfl zN ?_
          refine lw_callE 151 [] [] [(.pointer (some ⟨g,0,none⟩)),ve,vv] rfl rfl cf151 zN (c_call F dex IH1 IH2 _ S g pp dp (n) (s0 + 1) (c0) (p) ve (ex) vv (env) (fun b hb => (by have := hS b hb; omega : b < w11.heap.size)) hgS hB11 (hp.chg (good_rP (good_rPr dp)) (hE11.sub (subS hgS))) (by omega) (by omega) (by omega) (hex.chg (good_rP (good_rEx dex)) (hE11.sub (subS hgS))) (henv.chg g2 (hE11.sub (subS hgS))) hqenv (by exact hvp) (by omega) (by exact hwf) (by exact hse) (by omega) (by omega)) ?_
          rintro e67 w67 ⟨v67,x67,s67,c67,rfl,hC67,hB67,hr67,hse67,hsb67,hcb67,hrl67⟩
          refine ⟨_,rfl,?_⟩
          have hzs67:=hC67.size
          have hE67 : Chg [g] w w67 := hE11.trans hC67
          have hsn67 := hse67.1
          refine q_assign v67 rfl zN ?_
          refine lw_nil ?_
          refine wp_ret ?_
          refine b_ret ?_
          refine t_ret ?_
          exact post_ret [6] rfl v67 rfl ⟨v67,x67,s67,c67,rfl,hE67,hB67,hr67,(by assumption),(by omega),(by omega),(by exact rel_callV hc00 hs1 (by omega) (by assumption))⟩
         ·
          refine q_eql false rfl rfl (decide_eq_false hc66) zN ?_
          refine q_assign (.bool false) rfl zN ?_
          refine lw_nil ?_
          refine c_cond_f rfl ?_
          refine wp_skip ?_
          refine wp_seq ?_
          refine wp_plain _ [0,0,0,0,2,0,0,4,0] rfl ?_
          have hk2 : ex.kids.length = 2 := by omega
          have hkk : ex.kind = 3 ∨ ex.kind = 4 ∨ ex.kind = 5 ∨ ex.kind = 6 := by omega
          have hd0 := kd_at (l := ex.kids) (k := 0) (by omega)
          have hd1 := kd_at (l := ex.kids) (k := 1) (by omega)
          clear hq0
          refine q_move (.pointer (some ⟨g,0,none⟩)) rfl zN ?_
          refine q_move ve rfl zN ?_
          refine q_nilP (hex.isPtr) rfl zN ?_
          refine q_fldL (p := ve) 4 fd94_4 rfl (hl12 _ (hE11.sub (subS hgS))) zN ?_
          refine q_load (p := (padd ve 4)) (.inr rfl) ve12 one78 rfl ((hl12 _ (hE11.sub (subS hgS))).ld (i := 4) (by simp [exC,fnC])) zN ?_
          refine q_idx (v := ve12) 0 u78 tiS94 rfl rfl hx12.rn.isSl rfl (by first | omega | assumption | (simp; done) | (simp; omega)) zN ?_
          refine q_move vv rfl zN ?_
          refine lw_callE 134 [] [] [(.pointer (some ⟨g,0,none⟩)),(eptr ve12 0 5),vv] rfl rfl cf134 zN (IH2 dd12 (by omega) _ S g pp dp (n) (s0 + 1) (c0) (p) (eptr ve12 0 5) (ex.kids.getD 0 Ex.zero) vv (env) (fun b hb => (by have := hS b hb; omega : b < w11.heap.size)) hgS hB11 (hp.chg (good_rP (good_rPr dp)) (hE11.sub (subS hgS))) (by omega) (by omega) (by omega) (RN.ptr (good_rEx dd12) (by decide) Ex.zero (hx12.rn.chg (good_rdS (good_rEx dd12)) (hE11.sub (subS hgS))) (by first | omega | assumption | (simp; done) | (simp; omega))) (henv.chg g2 (hE11.sub (subS hgS))) hqenv (by exact hvp) (by omega) (by exact wf_at0 hwf (by omega) (by omega)) (by exact hse) (by have := kd_at (l := ex.kids) (k := 0) (by omega); omega)) ?_
          rintro e72 w72 ⟨v72,x72,s72,c72,rfl,hC72,hB72,hr72,hse72,hsb72,hcb72,hrl72⟩
          refine ⟨_,rfl,?_⟩
          have hzs72:=hC72.size
          have hE72 : Chg [g] w w72 := hE11.trans hC72
          have hsn72 := hse72.1
          have hra := hrl72
          have ha1 := hse72
          refine q_assign v72 rfl zN ?_
          refine lw_nil ?_
          refine wp_seq ?_
          refine wp_plain _ [0,0,0,0,2,0,0,4,0] rfl ?_
          refine q_move (.pointer (some ⟨g,0,none⟩)) rfl zN ?_
          refine q_move ve rfl zN ?_
          refine q_nilP (hex.isPtr) rfl zN ?_
          refine q_fldL (p := ve) 4 fd94_4 rfl (hl12 _ (hE72.sub (subS hgS))) zN ?_
          refine q_load (p := (padd ve 4)) (.inr rfl) ve12 one78 rfl ((hl12 _ (hE72.sub (subS hgS))).ld (i := 4) (by simp [exC,fnC])) zN ?_
          refine q_idx (v := ve12) 1 u78 tiS94 rfl rfl hx12.rn.isSl rfl (by first | omega | assumption | (simp; done) | (simp; omega)) zN ?_
          refine q_move vv rfl zN ?_
          refine lw_callE 134 [] [] [(.pointer (some ⟨g,0,none⟩)),(eptr ve12 1 5),vv] rfl rfl cf134 zN (IH2 dd12 (by omega) _ S g pp dp (n) (s72) (c72) (p) (eptr ve12 1 5) (ex.kids.getD 1 Ex.zero) vv (env) (fun b hb => (by have := hS b hb; omega : b < w72.heap.size)) hgS hB72 (hp.chg (good_rP (good_rPr dp)) (hE72.sub (subS hgS))) (by omega) (by omega) (by omega) (RN.ptr (good_rEx dd12) (by decide) Ex.zero (hx12.rn.chg (good_rdS (good_rEx dd12)) (hE72.sub (subS hgS))) (by first | omega | assumption | (simp; done) | (simp; omega))) (henv.chg g2 (hE72.sub (subS hgS))) hqenv (by exact hvp) (by omega) (by exact wf_at0 hwf (by omega) (by omega)) (by exact hse) (by have := kd_at (l := ex.kids) (k := 1) (by omega); omega)) ?_
          rintro e77 w77 ⟨v77,x77,s77,c77,rfl,hC77,hB77,hr77,hse77,hsb77,hcb77,hrl77⟩
          refine ⟨_,rfl,?_⟩
          have hzs77:=hC77.size
          have hE77 : Chg [g] w w77 := hE72.trans hC77
          have hF82 := hr72.run g1 hgS hC77
          have hsn77 := hse77.1
          have hrb := hrl77
          have hb1 := hse77
          have hlb := hsn77
          have hzz : x77.getD 0 0 = 0 ∨ ¬ x77.getD 0 0 = 0 := Decidable.em _
          refine q_assign v77 rfl zN ?_
          refine lw_nil ?_
          refine wp_seq ?_
          refine wp_block ?_
          refine wp_seq ?_
          refine wp_plain _ [0,0,0,2,0,0] rfl ?_
          refine q_move ve rfl zN ?_
          refine q_nilP (hex.isPtr) rfl zN ?_
          refine q_fldL (p := ve) 0 fd94_0 rfl (hl12 _ (hE77.sub (subS hgS))) zN ?_
          refine q_load (p := (padd ve 0)) (.inr rfl) (.int .i64 ex.kind) one2 rfl ((hl12 _ (hE77.sub (subS hgS))).ld (i := 0) (by simp [exC,fnC])) zN ?_
          by_cases hc83 : ex.kind = ((3 :Nat):Int)
          ·
           refine q_eql true rfl rfl (decide_eq_true hc83) zN ?_
           refine q_assign (.bool true) rfl zN ?_
           refine lw_nil ?_
           refine c_cond_t rfl ?_
           refine wp_seq ?_
           refine wp_plain _ [0,0,3,0] rfl ?_
           refine q_move v72 rfl zN ?_
           refine q_move v77 rfl zN ?_
           refine lw_call 152 [] [] [v72,v77] rfl rfl cf152 zN (c_spec_l01Add _ _ _ _ _ (hF82).rd (hr77).rd (by omega) (by omega)) ?_
           rintro e84 w84 ⟨v84_0,rfl,hX84,hO84_0⟩
           refine ⟨_,rfl,hX84,?_⟩
           have hzs84:=hX84.size
           have hE84 : Chg [g] w w84 := hE77.ext hX84
           have hB77x84 := hB77.ext hX84
           have hN85 := hF82.ext g1 hX84
           have hN86 := hr77.ext g1 hX84
           refine q_assign v84_0 rfl zN ?_
           refine lw_nil ?_
           refine wp_ret ?_
           refine b_ret ?_
           refine t_ret ?_
           exact post_ret [6] rfl v84_0 rfl ⟨v84_0,addS x72 x77,s77,c77,rfl,hE84,hB77x84,(RN.of_fr1 hO84_0 (fun b hb => by have := hS b hb; omega)),(by exact addS_ser ha1),(by omega),(by omega),(by exact rel_ops hc00 hs1 (by omega) (rel_k2 (by omega) hra hrb) (fun h0 => by rw [h0]; exact op_add (by omega)) (fun _ => rfl))⟩
          ·
           refine q_eql false rfl rfl (decide_eq_false hc83) zN ?_
           refine q_assign (.bool false) rfl zN ?_
           refine lw_nil ?_
           refine c_cond_f rfl ?_
           refine wp_seq ?_
           refine wp_plain _ [0,0,0,2,0,0] rfl ?_
           refine q_move ve rfl zN ?_
           refine q_nilP (hex.isPtr) rfl zN ?_
           refine q_fldL (p := ve) 0 fd94_0 rfl (hl12 _ (hE77.sub (subS hgS))) zN ?_
           refine q_load (p := (padd ve 0)) (.inr rfl) (.int .i64 ex.kind) one2 rfl ((hl12 _ (hE77.sub (subS hgS))).ld (i := 0) (by simp [exC,fnC])) zN ?_
           by_cases hc87 : ex.kind = ((4 :Nat):Int)
           ·
            refine q_eql true rfl rfl (decide_eq_true hc87) zN ?_
            refine q_assign (.bool true) rfl zN ?_
            refine lw_nil ?_
            refine c_cond_t rfl ?_
            refine wp_seq ?_
            refine wp_plain _ [0,0,3,0] rfl ?_
            refine q_move v72 rfl zN ?_
            refine q_move v77 rfl zN ?_
            refine lw_call 153 [] [] [v72,v77] rfl rfl cf153 zN (c_spec_l01Sub _ _ _ _ _ (hF82).rd (hr77).rd (by omega) (by omega) (by omega)) ?_
            rintro e88 w88 ⟨v88_0,rfl,hX88,hO88_0⟩
            refine ⟨_,rfl,hX88,?_⟩
            have hzs88:=hX88.size
            have hE88 : Chg [g] w w88 := hE77.ext hX88
            have hB77x88 := hB77.ext hX88
            have hN89 := hF82.ext g1 hX88
            have hN90 := hr77.ext g1 hX88
            refine q_assign v88_0 rfl zN ?_
            refine lw_nil ?_
            refine wp_ret ?_
            refine b_ret ?_
            refine t_ret ?_
            exact post_ret [6] rfl v88_0 rfl ⟨v88_0,redS x72 x77,s77,c77,rfl,hE88,hB77x88,(RN.of_fr1 hO88_0 (fun b hb => by have := hS b hb; omega)),(by exact redS_ser ha1),(by omega),(by omega),(by exact rel_ops hc00 hs1 (by omega) (rel_k2 (by omega) hra hrb) (fun h0 => by rw [h0]; exact op_sub (by omega)) (fun _ => rfl))⟩
           ·
            refine q_eql false rfl rfl (decide_eq_false hc87) zN ?_
            refine q_assign (.bool false) rfl zN ?_
            refine lw_nil ?_
            refine c_cond_f rfl ?_
            refine wp_seq ?_
            refine wp_plain _ [0,0,0,2,0,0] rfl ?_
            refine q_move ve rfl zN ?_
            refine q_nilP (hex.isPtr) rfl zN ?_
            refine q_fldL (p := ve) 0 fd94_0 rfl (hl12 _ (hE77.sub (subS hgS))) zN ?_
            refine q_load (p := (padd ve 0)) (.inr rfl) (.int .i64 ex.kind) one2 rfl ((hl12 _ (hE77.sub (subS hgS))).ld (i := 0) (by simp [exC,fnC])) zN ?_
            by_cases hc91 : ex.kind = ((5 :Nat):Int)
            ·
             refine q_eql true rfl rfl (decide_eq_true hc91) zN ?_
             refine q_assign (.bool true) rfl zN ?_
             refine lw_nil ?_
             refine c_cond_t rfl ?_
             refine wp_seq ?_
             refine wp_plain _ [0,0,3,0] rfl ?_
             refine q_move v72 rfl zN ?_
             refine q_move v77 rfl zN ?_
             refine lw_call 154 [] [] [v72,v77] rfl rfl cf154 zN (c_spec_l01Mul _ _ _ _ _ (hF82).rd (hr77).rd (by omega) (by omega)) ?_
             rintro e92 w92 ⟨v92_0,rfl,hX92,hO92_0⟩
             refine ⟨_,rfl,hX92,?_⟩
             have hzs92:=hX92.size
             have hE92 : Chg [g] w w92 := hE77.ext hX92
             have hB77x92 := hB77.ext hX92
             have hN93 := hF82.ext g1 hX92
             have hN94 := hr77.ext g1 hX92
             refine q_assign v92_0 rfl zN ?_
             refine lw_nil ?_
             refine wp_ret ?_
             refine b_ret ?_
             refine t_ret ?_
             exact post_ret [6] rfl v92_0 rfl ⟨v92_0,proS x72 x77,s77,c77,rfl,hE92,hB77x92,(RN.of_fr1 hO92_0 (fun b hb => by have := hS b hb; omega)),(by exact proS_ser ha1),(by omega),(by omega),(by exact rel_ops hc00 hs1 (by omega) (rel_k2 (by omega) hra hrb) (fun h0 => by rw [h0]; exact op_mul (by omega)) (fun _ => rfl))⟩
            ·
             refine q_eql false rfl rfl (decide_eq_false hc91) zN ?_
             refine q_assign (.bool false) rfl zN ?_
             refine lw_nil ?_
             refine c_cond_f rfl ?_
             refine wp_seq ?_
             refine wp_plain _ [0,0,0,2,0,0,0,0,2,0,0,0] rfl ?_
             refine q_move (.pointer (some ⟨g,0,none⟩)) rfl zN ?_
             refine q_nil rfl zN ?_
             refine q_fldP (p := (.pointer (some ⟨g,0,none⟩))) (b := g) (o := 0) 3 fd123_3 rfl rfl zN ?_
             refine q_load (p := (padd (.pointer (some ⟨g,0,none⟩)) 3)) (.inr rfl) (.int .i64 c77) one2 rfl (hB77.ldp (i := 3) (by simp)) zN ?_
             by_cases hc95 : c77 ≠ ((0 :Nat):Int)
             ·
              refine q_neq true rfl rfl (decide_eq_true hc95) zN ?_
              refine q_move (.bool true) rfl zN ?_
              refine lw_skip (e := 175) (c := true) rfl rfl rfl rfl ?_
              refine lw_skip (e := 175) (c := true) rfl rfl rfl rfl ?_
              refine lw_skip (e := 175) (c := true) rfl rfl rfl rfl ?_
              refine lw_skip (e := 175) (c := true) rfl rfl rfl rfl ?_
              refine q_pick true (.bool true) rfl rfl zN ?_
              refine q_assign (.bool true) rfl zN ?_
              refine lw_nil ?_
              refine c_cond_t rfl ?_
              refine wp_seq ?_
              refine wp_plain _ [0,4,0] rfl ?_
              refine q_move (.pointer (some ⟨g,0,none⟩)) rfl zN ?_
              refine lw_callE 148 [] [] [(.pointer (some ⟨g,0,none⟩)),(.int .i64 ((6 :Nat):Int))] rfl rfl cf148 zN (c_spec_l02Run_fail _ S g pp dp (n) (s77) (c77) (p) (((6 :Nat):Int)) (fun b hb => (by have := hS b hb; omega : b < w77.heap.size)) hgS hB77 (hp.chg (good_rP (good_rPr dp)) (hE77.sub (subS hgS))) (by omega) (by omega) (by omega) (by omega) (by omega)) ?_
              rintro e96 w96 ⟨v96,x96,s96,c96,rfl,hC96,hB96,hr96,hse96,hsb96,hcb96,hrl96⟩
              refine ⟨_,rfl,?_⟩
              have hzs96:=hC96.size
              have hE96 : Chg [g] w w96 := hE77.trans hC96
              have hF101 := hF82.run g1 hgS hC96
              have hF102 := hr77.run g1 hgS hC96
              have hsn96 := hse96.1
              have hfs := hrl96.1
              have hff := hrl96.2
              refine q_assign v96 rfl zN ?_
              refine lw_nil ?_
              refine wp_ret ?_
              refine b_ret ?_
              refine t_ret ?_
              exact post_ret [6] rfl v96 rfl ⟨v96,x96,s96,c96,rfl,hE96,hB96,hr96,(by assumption),(by omega),(by omega),(by rw [hfs]; exact rel_ops hc00 hs1 (by omega) (rel_k2 (by omega) hra hrb) (fun h0 => absurd h0 (by omega)) (fun h0 => by rw [hff,if_neg h0]))⟩
             ·
              refine q_neq false rfl rfl (decide_eq_false hc95) zN ?_
              refine q_move (.bool false) rfl zN ?_
              refine q_move v77 rfl (zS (e := 175) rfl rfl rfl) ?_
              refine q_idx (v := v77) 0 u25 ti2 rfl rfl hr77.slL rfl (by rw [hlb]; omega) (zS (e := 175) rfl rfl rfl) ?_
              have hg103 := RN.getI (w := w77) (k := 0) hr77 (by rw [hlb]; omega)
              refine q_load (p := eptr v77 0 1) (.inr rfl) (.int .i64 (x77.getD 0 0)) one2 rfl (hg103.1 _ (Chg.refl _ _)) (zS (e := 175) rfl rfl rfl) ?_
              by_cases hc104 : x77.getD 0 0 = ((0 :Nat):Int)
              ·
               refine q_eql true rfl rfl (decide_eq_true hc104) (zS (e := 175) rfl rfl rfl) ?_
               refine q_pick false (.bool true) rfl rfl zN ?_
               refine q_assign (.bool true) rfl zN ?_
               refine lw_nil ?_
               refine c_cond_t rfl ?_
               refine wp_seq ?_
               refine wp_plain _ [0,4,0] rfl ?_
               refine q_move (.pointer (some ⟨g,0,none⟩)) rfl zN ?_
               refine lw_callE 148 [] [] [(.pointer (some ⟨g,0,none⟩)),(.int .i64 ((6 :Nat):Int))] rfl rfl cf148 zN (c_spec_l02Run_fail _ S g pp dp (n) (s77) (c77) (p) (((6 :Nat):Int)) (fun b hb => (by have := hS b hb; omega : b < w77.heap.size)) hgS hB77 (hp.chg (good_rP (good_rPr dp)) (hE77.sub (subS hgS))) (by omega) (by omega) (by omega) (by omega) (by omega)) ?_
               rintro e105 w105 ⟨v105,x105,s105,c105,rfl,hC105,hB105,hr105,hse105,hsb105,hcb105,hrl105⟩
               refine ⟨_,rfl,?_⟩
               have hzs105:=hC105.size
               have hE105 : Chg [g] w w105 := hE77.trans hC105
               have hF110 := hF82.run g1 hgS hC105
               have hF111 := hr77.run g1 hgS hC105
               have hsn105 := hse105.1
               have hfs := hrl105.1
               have hff := hrl105.2
               refine q_assign v105 rfl zN ?_
               refine lw_nil ?_
               refine wp_ret ?_
               refine b_ret ?_
               refine t_ret ?_
               exact post_ret [6] rfl v105 rfl ⟨v105,x105,s105,c105,rfl,hE105,hB105,hr105,(by assumption),(by omega),(by omega),(by rw [hfs]; exact rel_ops hc00 hs1 (by omega) (rel_k2 (by omega) hra hrb) (fun h0 => by rw [hff,if_pos h0]; exact op_div0 (xs := [_,_]) (by omega) (hzz.resolve_right (by omega))) (fun h0 => by rw [hff,if_neg h0]))⟩
              ·
               refine q_eql false rfl rfl (decide_eq_false hc104) (zS (e := 175) rfl rfl rfl) ?_
               refine q_pick false (.bool false) rfl rfl zN ?_
               refine q_assign (.bool false) rfl zN ?_
               refine lw_nil ?_
               refine c_cond_f rfl ?_
               refine wp_skip ?_
               refine wp_seq ?_
               refine wp_plain _ [0,0,3,0] rfl ?_
               refine q_move v72 rfl zN ?_
               refine q_move v77 rfl zN ?_
               refine lw_call 155 [] [] [v72,v77] rfl rfl cf155 zN (c_spec_l01Div _ _ _ _ _ (hF82).rd (hr77).rd (by omega) (by omega) (by omega) (by exact ha1.2)) ?_
               rintro e112 w112 ⟨v112_0,rfl,hX112,hO112_0⟩
               refine ⟨_,rfl,hX112,?_⟩
               have hzs112:=hX112.size
               have hE112 : Chg [g] w w112 := hE77.ext hX112
               have hB77x112 := hB77.ext hX112
               have hN113 := hF82.ext g1 hX112
               have hN114 := hr77.ext g1 hX112
               refine q_assign v112_0 rfl zN ?_
               refine lw_nil ?_
               refine wp_ret ?_
               exact post_ret [6] rfl v112_0 rfl ⟨v112_0,quoS x72 x77,s77,c77,rfl,hE112,hB77x112,(RN.of_fr1 hO112_0 (fun b hb => by have := hS b hb; omega)),(by exact quoS_ser ha1),(by omega),(by omega),(by exact rel_ops hc00 hs1 (by omega) (rel_k2 (by omega) hra hrb) (fun h0 => by rw [h0]; exact op_div (xs := [_,_]) (by omega) (hzz.resolve_left (by omega))) (fun _ => rfl))⟩
end Go.Proofs.YtnofbmdpabcjaaaGreat
namespace Go.Proofs.YtnofbmdpabcjaaaGreat
open Go Go.RowKit
set_option linter.unusedVariables false
set_option linter.unusedSimpArgs false
attribute [local irreducible] LW
theorem s_value : ∀ F d, SV F d := by
  intro F
  induction F using Nat.strongRecOn with
  | _ F ihF =>
    intro d
    induction d using Nat.strongRecOn with
    | _ d ihd =>
      intro w S g pp dp n s0 c0 p ve ex vv env hS hgS hB0 hp hn hs0 hc0 hex henv hqenv hvp hF hwf hse hdp
      exact c_spec_l02Run_expr w S F g pp dp n s0 c0 p d ve ex vv env hS hgS hB0 hp hn hs0 hc0 hex henv hqenv hvp hF hwf hse hdp ihF ihd
theorem s_outs (F : Nat) : SO F := c_outs F fun d => s_value F d
set_option maxHeartbeats 4000000 in
set_option maxRecDepth 100000 in
theorem c_spec_l02Eval (w : World) (dp : Nat) (vp : Value) (p : List Fn) (f : Int) (va : Value) (a : List Int) (hp : RN [] (rP (rPr dp)) w.heap vp p) (_hf : -9223372036854775808 ≤ f ∧ f ≤ 9223372036854775807) (ha : Rd (rdL rI) w.heap va a) (hvp : VPr p) (hf : 0 ≤ f ∧ f < ((p.length :Nat):Int)) (hl : ((a.length :Nat):Int) = (p.getD f.toNat Fn.zero).params) (hna : allN a = true) :
  Calls Tryz.prog 81 #[vp,.int .i64 f,va] w (fun e w' => ∃ v0 : Value,e = .returned (.tuple #[v0,.int .i64 ((evT p 1 f.toNat (sing a) :Nat):Int),.int .i64 (nxC p f.toNat a)]) ∧ Ext w w' ∧ Fr (owL rI 2) w.heap.size w'.heap.size w'.heap v0 (nxR p f.toNat a) ∧ NxP p f.toNat a ∧ evT p 1 f.toNat (sing a) ≤ 3000) := by
 refine calls_mk [vp,.int .i64 f,va] 73 Tryz.func81 rfl rfl (by simp) ?_
 have hE0 : Ext w w := Ext.refl w
 have hl_va := ha.lenle
 have hpr := hvp.par f.toNat (by omega)
 have hou := hvp.outs f.toNat (by omega)
 refine wp_seq ?_
 refine wp_plain _ [0,0,0] rfl ?_
 refine q_assign (.slice none 0 0) rfl zN ?_
 refine q_assign (.int .i64 ((0 :Nat):Int)) rfl zN ?_
 refine q_assign (.int .i64 ((0 :Nat):Int)) rfl zN ?_
 refine lw_nil ?_
 refine wp_seq ?_
 refine wp_plain _ [0,0,3,0] rfl ?_
 refine q_move vp rfl zN ?_
 have hbd1 : ∀ (vp : Value) (hp1_0 : ∃ b o,vp = .pointer (some ⟨b,o,none⟩)) (wq : World),(Instr.build 123 #[(0,vp),(1,(.int .i64 ((1 :Nat):Int)))]).run Tryz.prog wq = .ok (.agg #[vp,(.int .i64 ((1 :Nat):Int)),(.int .i64 0),(.int .i64 0)]) wq := by intro vp hp1_0 wq; obtain ⟨b0,o0,rfl⟩ := hp1_0;kernel_rfl
 refine q_build (ps := #[(0,vp),(1,(.int .i64 ((1 :Nat):Int)))]) (.agg #[vp,(.int .i64 ((1 :Nat):Int)),(.int .i64 0),(.int .i64 0)]) (by simp only [List.map_toArray,List.map_cons,List.map_nil]; rfl) (fun wq => hbd1 vp hp.isPtr wq) zN ?_
 refine r_boxA (cs := #[vp,(.int .i64 ((1 :Nat):Int)),(.int .i64 0),(.int .i64 0)]) rfl zN ?_
 intro w2 hX2 hz2 hB2
 have hzs2:=hX2.size
 have hE2:=hE0.trans hX2
 replace hB2 : BX w2.heap w.heap.size [vp,(.int .i64 ((1 :Nat):Int)),(.int .i64 0),(.int .i64 0)] := hB2
 refine q_assign (.pointer (some ⟨w.heap.size,0,none⟩)) rfl zN ?_
 refine lw_nil ?_
 refine wp_seq ?_
 refine wp_plain _ [3,0] rfl ?_
 refine r_nil (owL rI 2) o1 u27 ti25 zN ?_
 intro v3 w3 hX3 hz3 hO3
 have hzs3:=hX3.size
 have hE3:=hE2.trans hX3
 have hB2x3 := hB2.ext hX3
 refine q_assign v3 rfl zN ?_
 refine lw_nil ?_
 refine wp_seq ?_
 refine wp_seq ?_
 refine wp_plain _ [0] rfl ?_
 refine q_assign (.int .i64 ((0 :Nat):Int)) rfl zN ?_
 refine lw_nil ?_
 refine wp_block ?_
 refine c_loop (S := Nat × Value) (fun (⟨k,vo⟩ : Nat × Value) => ([(10,vo),(11,(.int .i64 ((k :Nat):Int))),(0,vp),(1,(.int .i64 f)),(2,va),(9,(.pointer (some ⟨w.heap.size,0,none⟩)))] : List (Nat × Value))) (fun (⟨k,vo⟩ : Nat × Value) (W : World) => Ext w W ∧ Fr (owL (owL rI 2) 25) w2.heap.size W.heap.size W.heap vo ((a.take k).map (fun x => [x])) ∧ BX W.heap w.heap.size [vp,(.int .i64 ((1 :Nat):Int)),(.int .i64 0),(.int .i64 0)] ∧ k ≤ a.length ∧ w.heap.size < w2.heap.size ∧ w2.heap.size ≤ W.heap.size) (fun (⟨k,vo⟩ : Nat × Value) => a.length - k) (0,v3) ⟨rfl,rfl,rfl,rfl,rfl,rfl,trivial⟩ ⟨hE3,hO3.up o2,hB2x3,(by first | omega | assumption | (simp; done) | (simp; omega)),(by omega),(by omega)⟩ ?_
 clear hE0 hz2 hX2 hO3 hz3 hX3 hzs3 hE3
 rintro ⟨k,vo⟩ ρ5 w5 ⟨hE5,hL5_0,hL5_1,hp5_0,hkg4,hkB6⟩
 have hzs5 : w.heap.size ≤ w5.heap.size := hE5.size
 have hq7 := hL5_1.lt
 refine wp_seq ?_
 refine wp_seq ?_
 refine wp_plain _ [0,0,0,0] rfl ?_
 refine q_move (.int .i64 ((k :Nat):Int)) rfl zN ?_
 refine q_move va rfl zN ?_
 refine q_len (v := va) u25 rfl ha.isSl zN ?_
 by_cases hc8 : ((k :Nat):Int) < ((a.length :Nat):Int)
 ·
  refine q_lss true rfl rfl (decide_eq_true hc8) zN ?_
  refine lw_nil ?_
  refine c_cond_t rfl ?_
  refine wp_skip ?_
  refine wp_seq ?_
  refine wp_block ?_
  refine wp_plain _ [0,0,0,0,2,3,3,4,0] rfl ?_
  refine q_move vo rfl zN ?_
  refine q_move va rfl zN ?_
  refine q_move (.int .i64 ((k :Nat):Int)) rfl zN ?_
  refine q_idx (v := va) k u25 ti2 rfl rfl ha.isSl rfl (by first | omega | assumption | (simp; done) | (simp; omega)) zN ?_
  refine q_load (p := eptr va k 1) (.inr rfl) (.int .i64 (a.getD k 0)) one2 rfl (ldH_ext hE5 (ha.getI (by first | omega | assumption | (simp; done) | (simp; omega))).1) zN ?_
  refine r_one (u := (.int .i64 (a.getD k 0))) (B := w5.heap.size) good_rI u25 ti2 rfl rfl (frI w5.heap.size w5.heap.size _ _ (ha.getI (by first | omega | assumption | (simp; done) | (simp; omega))).2) (Nat.le_refl _) zN ?_
  intro v9 w9 hX9 hz9 hO9
  have hzs9:=hX9.size
  have hE9:=hE5.trans hX9
  have hL5_0x9 := hL5_0.ext (o2) hX9
  have hL5_1x9 := hL5_1.ext hX9
  refine r_one (u := v9) (B := w5.heap.size) o1 u27 ti25 rfl rfl hO9 (by first | exact Nat.le_refl _ | omega) zN ?_
  intro v10 w10 hX10 hz10 hO10
  have hzs10:=hX10.size
  have hE10:=hE9.trans hX10
  have hL5_0x10 := hL5_0x9.ext (o2) hX10
  have hL5_1x10 := hL5_1x9.ext hX10
  refine e_appF o1 (v := vo) (a := v10) u27 ti25 rfl rfl rfl hL5_0x10 (by omega) hO10 (by omega) (by omega) (by first | omega | assumption | (simp; done) | (simp; omega)) (by unfold maxLen; first | omega | assumption | (simp; done) | (simp; omega)) zN ?_
  intro v11 w11 F11 hC11 hF11 hO11
  have hE11 : Ext w w11 := hC11.below hE10 (fun c hc => Nat.le_trans hE2.size (hF11 c hc).1) hE10.size
  have hzs11:=hC11.size
  have hF12 := hL5_1x10.chg hC11 (fun hm => by have := hF11 _ hm; omega)
  refine q_assign v11 rfl zN ?_
  refine lw_nil ?_
  refine wp_plain _ [0,0,0] rfl ?_
  refine q_move (.int .i64 ((k :Nat):Int)) rfl zN ?_
  refine q_add ((k + 1 :Nat):Int) rfl rfl (w64n (by omega) (by first | omega | assumption | (simp; done) | (simp; omega))) zN ?_
  refine q_assign (.int .i64 ((k + 1 :Nat):Int)) rfl zN ?_
  refine lw_nil ?_
  exact ⟨((k + 1),v11),_,rfl,⟨rfl,rfl,rfl,rfl,rfl,rfl,trivial⟩,⟨hE11,(by rw [map_snoc 0 (by omega)]; exact hO11.up o2),hF12,(by first | omega | assumption | (simp; done) | (simp; omega)),(by omega),(by omega)⟩,by first | omega | (dsimp only; omega)⟩
 ·
  refine q_lss false rfl rfl (decide_eq_false hc8) zN ?_
  refine lw_nil ?_
  refine c_cond_f rfl ?_
  refine wp_exit ?_
  refine t_exit ?_
  refine t_exit ?_
  refine c_exit_here ?_
  refine wp_seq ?_
  refine wp_plain _ [0,0,0,0,2,0,0,0,4,0] rfl ?_
  have henv : (a.take k).map (fun x => [x]) = sing a := by rw [List.take_of_length_le (by omega)]; rfl
  have hle : ((a.take k).map (fun x => [x])).length = a.length := by rw [henv]; unfold sing; rw [List.length_map]
  refine q_move (.pointer (some ⟨w.heap.size,0,none⟩)) rfl zN ?_
  refine q_move vp rfl zN ?_
  refine q_nilP (hp.isPtr) rfl zN ?_
  obtain ⟨cs13,hr13,hl13⟩ := RN.at (good_rPr _) hp
  obtain ⟨ve13,rfl,hx13⟩ := RPr.of hr13
  have hln13 := hx13.lenle
  unfold maxLen at hln13
  refine q_fldL (p := vp) 0 fd32_0 rfl (hl13 _ (Chg.of_ext [] hE5)) zN ?_
  refine q_load (p := (padd vp 0)) (.inr rfl) ve13 one30 rfl ((hl13 _ (Chg.of_ext [] hE5)).ld (i := 0) (by simp [exC,fnC])) zN ?_
  refine q_move (.int .i64 f) rfl zN ?_
  refine q_idx (v := ve13) ((f).toNat) u30 tiS80 rfl rfl hx13.isSl (by omega) (by first | omega | assumption | (simp; done) | (simp; omega)) zN ?_
  refine q_move vo rfl zN ?_
  refine lw_callE 102 [] [] [(.pointer (some ⟨w.heap.size,0,none⟩)),(eptr ve13 ((f).toNat) 3),vo] rfl rfl cf102 zN (s_outs f.toNat _ [w.heap.size] w.heap.size vp dp (1) (0) (0) (p) dp (eptr ve13 ((f).toNat) 3) (p.getD ((f).toNat) Fn.zero) vo ((a.take k).map (fun x => [x])) (fun b hb => (by have := List.mem_singleton.1 hb; omega : b < w5.heap.size)) (List.mem_singleton.2 rfl) hL5_1 ((hp.add (F := [w.heap.size]) (good_rP (good_rPr dp)) (fun b hb => by have := List.mem_singleton.1 hb; omega)).ext (good_rP (good_rPr dp)) hE5) (by omega) (by omega) (by omega) (RN.ptr (good_rFn dp) (by decide) Fn.zero ((hx13.add (F := [w.heap.size]) (good_rdS (good_rFn dp)) (fun b hb => by have := List.mem_singleton.1 hb; omega)).ext (good_rdS (good_rFn dp)) hE5) (by first | omega | assumption | (simp; done) | (simp; omega))) (RN.of_fr2 hL5_0 (fun b hb => by have := List.mem_singleton.1 hb; omega)) hL5_0.cap (by exact hvp) (by omega) (by intro k9 hk9; have h9 := hvp.wf f.toNat (by omega) k9 hk9; rw [hle]; rw [hl]; exact h9) (by rw [henv]; exact sing_ser hna) (by intro k9 hk9; have := hvp.deep f.toNat (by omega) k9 hk9; omega) (by omega)) ?_
  rintro e14 w14 ⟨v14,x14,s14,c14,rfl,hC14,hB14,hr14,hse14,hsb14,hcb14,hrl14⟩
  refine ⟨_,rfl,?_⟩
  have hzs14:=hC14.size
  have hE14 : Ext w w14 := hC14.below hE5 (fun b hb => by have : b = w.heap.size := (by simpa using hb); omega) hE5.size
  have hF17 := hL5_0.chg (o2) hC14 (fun c hc => by have := List.mem_singleton.1 hc; omega)
  have hsn14 := hse14.2.1
  have hsr14 := hse14.2.2
  have hcp14 := hse14.1
  have hrt14 := hr14.rt g2
  have hRL := hrl14
  rw [henv] at hRL
  have hCB := hcb14
  have hEP := EvP.mk' hRL hCB hsb14 hsn14 hsr14
  have hNP := NxP.mk' hEP
  have hST := hEP.steps
  have hXS := hsr14
  have hXL := hsn14
  refine q_assign v14 rfl zN ?_
  refine lw_nil ?_
  refine wp_seq ?_
  refine wp_seq ?_
  refine wp_plain _ [0,0,0,2,0] rfl ?_
  refine q_move (.pointer (some ⟨w.heap.size,0,none⟩)) rfl zN ?_
  refine q_nil rfl zN ?_
  refine q_fldP (p := (.pointer (some ⟨w.heap.size,0,none⟩))) (b := w.heap.size) (o := 0) 3 fd123_3 rfl rfl zN ?_
  refine q_load (p := (padd (.pointer (some ⟨w.heap.size,0,none⟩)) 3)) (.inr rfl) (.int .i64 c14) one2 rfl (hB14.ldp (i := 3) (by simp)) zN ?_
  by_cases hc19 : c14 ≠ ((0 :Nat):Int)
  ·
   refine q_neq true rfl rfl (decide_eq_true hc19) zN ?_
   refine lw_nil ?_
   refine c_cond_t rfl ?_
   refine wp_seq ?_
   refine wp_draw _ [3,0,0,0,1,0,0,0] mixed (by kernel_rfl) ?_
   refine r_nil (rI) good_rI u25 ti2 zN ?_
   intro v20 w20 hX20 hz20 hO20
   replace hX20 := hX20.of_drew
   have hzs20:=hX20.size
   have hE20:=hE14.trans hX20
   have hF17x20 := hF17.ext (o2) hX20
   have hB14x20 := hB14.ext hX20
   have hN21 := hrt14.ext g2 hX20
   refine q_move (.pointer (some ⟨w.heap.size,0,none⟩)) rfl zN ?_
   refine q_nil rfl zN ?_
   refine q_fldP (p := (.pointer (some ⟨w.heap.size,0,none⟩))) (b := w.heap.size) (o := 0) 3 fd123_3 rfl rfl zN ?_
   refine q_load (p := (padd (.pointer (some ⟨w.heap.size,0,none⟩)) 3)) (.inl rfl) (.int .i64 c14) one2 rfl (hB14.ldp (i := 3) (by simp)) zN ?_
   refine q_assign v20 rfl zN ?_
   refine q_assign (.int .i64 ((0 :Nat):Int)) rfl zN ?_
   refine q_assign (.int .i64 c14) rfl zN ?_
   refine lw_nil ?_
   refine wp_ret ?_
   refine t_ret ?_
   exact post_ret [6,7,8] rfl (.tuple #[v20,(.int .i64 ((0 :Nat):Int)),(.int .i64 c14)]) rfl ⟨v20,(by rw [evT_e (ev_err hRL (by omega)),show nxC p f.toNat a = _ from evD_e (ev_err hRL (by omega))] <;> rfl),hE20,(by rw [hNP.non (by rw [show nxC p f.toNat a = _ from evD_e (ev_err hRL (by omega))]; omega)]; exact (hO20.up o1).low hE14.size),hNP,hST⟩
  ·
   refine q_neq false rfl rfl (decide_eq_false hc19) zN ?_
   refine lw_nil ?_
   refine c_cond_f rfl ?_
   refine wp_skip ?_
   refine wp_seq ?_
   refine wp_plain _ [3,0] rfl ?_
   refine r_nil (rI) good_rI u25 ti2 zN ?_
   intro v22 w22 hX22 hz22 hO22
   have hzs22:=hX22.size
   have hE22:=hE14.trans hX22
   have hF17x22 := hF17.ext (o2) hX22
   have hB14x22 := hB14.ext hX22
   have hN23 := hrt14.ext g2 hX22
   refine q_assign v22 rfl zN ?_
   refine lw_nil ?_
   refine wp_seq ?_
   refine wp_seq ?_
   refine wp_plain _ [0] rfl ?_
   refine q_assign (.int .i64 ((0 :Nat):Int)) rfl zN ?_
   refine lw_nil ?_
   refine wp_block ?_
   refine c_loop (S := Nat × Value) (fun (⟨k,vo⟩ : Nat × Value) => ([(13,vo),(14,(.int .i64 ((k :Nat):Int))),(9,(.pointer (some ⟨w.heap.size,0,none⟩))),(12,v14)] : List (Nat × Value))) (fun (⟨k,vo⟩ : Nat × Value) (W : World) => Ext w W ∧ Fr (owL rI 2) w14.heap.size W.heap.size W.heap vo (((x14).take k).map (fun s => s.getD 0 0)) ∧ BX W.heap w.heap.size [vp,(.int .i64 ((1 :Nat):Int)),(.int .i64 ((s14 :Nat):Int)),(.int .i64 c14)] ∧ k ≤ (x14).length ∧ RT w14.heap.size (rdL (rdL rI)) W.heap v14 x14 ∧ w14.heap.size ≤ W.heap.size ∧ w.heap.size < w14.heap.size ∧ w14.heap.size ≤ w14.heap.size ∧ w14.heap.size ≤ W.heap.size) (fun (⟨k,vo⟩ : Nat × Value) => (x14).length - k) (0,v22) ⟨rfl,rfl,rfl,rfl,trivial⟩ ⟨hE22,hO22.up o1,hB14x22,(by first | omega | assumption | (simp; done) | (simp; omega)),(by assumption),(by omega),(by omega),(by omega),(by omega)⟩ ?_
   clear hzs2 hE2 hL5_1 hL5_0 hE5 hzs5 hln13 hC14 hF17 hO22 hz22 hX22 hzs22 hE22 hF17x22
   rintro ⟨k,vo⟩ ρ28 w28 ⟨hE28,hL28_0,hL28_1,hp28_0,hrk24,hkB25,hkg26,hkt27,hkB29⟩
   have hzs28 : w.heap.size ≤ w28.heap.size := hE28.size
   have hq30 := hL28_1.lt
   refine wp_seq ?_
   refine wp_seq ?_
   refine wp_plain _ [0,0,0,0] rfl ?_
   refine q_move (.int .i64 ((k :Nat):Int)) rfl zN ?_
   refine q_move v14 rfl zN ?_
   refine q_len (v := v14) u27 rfl hrk24.slL zN ?_
   by_cases hc31 : ((k :Nat):Int) < ((x14.length :Nat):Int)
   ·
    refine q_lss true rfl rfl (decide_eq_true hc31) zN ?_
    refine lw_nil ?_
    refine c_cond_t rfl ?_
    refine wp_skip ?_
    refine wp_seq ?_
    refine wp_block ?_
    refine wp_plain _ [0,0,0,0,2,0,2,3,4,0] rfl ?_
    have hkx := hXS k (by omega)
    have hkl := hkx.1
    refine q_move vo rfl zN ?_
    refine q_move v14 rfl zN ?_
    refine q_move (.int .i64 ((k :Nat):Int)) rfl zN ?_
    refine q_idx (v := v14) k u27 ti25 rfl rfl hrk24.slL rfl (by first | omega | assumption | (simp; done) | (simp; omega)) zN ?_
    obtain ⟨ue32,hl32,hr32⟩ := RT.getL g1 [] (k := k) hrk24 (by first | omega | assumption | (simp; done) | (simp; omega))
    have hln32 := hr32.lenL
    unfold maxLen at hln32
    refine q_load (p := eptr v14 k 1) (.inr rfl) ue32 one25 rfl hl32 zN ?_
    refine q_idx (v := ue32) 0 u25 ti2 rfl rfl hr32.slL rfl (by first | omega | assumption | (simp; done) | (simp; omega)) zN ?_
    have hg33 := RT.getI (k := 0) hr32 (by first | omega | assumption | (simp; done) | (simp; omega))
    refine q_load (p := eptr ue32 0 1) (.inr rfl) (.int .i64 ((x14.getD k []).getD 0 0)) one2 rfl hg33.1 zN ?_
    refine r_one (u := (.int .i64 ((x14.getD k []).getD 0 0))) (B := w28.heap.size) good_rI u25 ti2 rfl rfl (frI w28.heap.size w28.heap.size _ _ hg33.2) (Nat.le_refl _) zN ?_
    intro v34 w34 hX34 hz34 hO34
    have hzs34:=hX34.size
    have hE34:=hE28.trans hX34
    have hL28_0x34 := hL28_0.ext (o1) hX34
    have hL28_1x34 := hL28_1.ext hX34
    have hN35 := hrk24.ext g2 hX34
    have hN36 := hr32.ext g1 hX34
    refine e_appI (v := vo) (a := v34) u25 ti2 rfl rfl rfl hL28_0x34 (by omega) hO34.rd1 (by first | omega | assumption | (simp; done) | (simp; omega)) (by unfold maxLen; first | omega | assumption | (simp; done) | (simp; omega)) zN ?_
    intro v37 w37 F37 hC37 hF37 hO37
    have hE37 : Ext w w37 := hC37.below hE34 (fun c hc => Nat.le_trans hE14.size (hF37 c hc).1) hE34.size
    have hzs37:=hC37.size
    have hN38 := hN35.chg g2 hC37 (fun c hc => by have := hF37 c hc; omega)
    have hN39 := hN36.chg g1 hC37 (fun c hc => by have := hF37 c hc; omega)
    have hF40 := hL28_1x34.chg hC37 (fun hm => by have := hF37 _ hm; omega)
    have hF41 := hO34.chg (o1) hC37 (fun c hc => by have := hF37 c hc; omega)
    refine q_assign v37 rfl zN ?_
    refine lw_nil ?_
    refine wp_plain _ [0,0,0] rfl ?_
    refine q_move (.int .i64 ((k :Nat):Int)) rfl zN ?_
    refine q_add ((k + 1 :Nat):Int) rfl rfl (w64n (by omega) (by first | omega | assumption | (simp; done) | (simp; omega))) zN ?_
    refine q_assign (.int .i64 ((k + 1 :Nat):Int)) rfl zN ?_
    refine lw_nil ?_
    exact ⟨((k + 1),v37),_,rfl,⟨rfl,rfl,rfl,rfl,trivial⟩,⟨hE37,(by rw [map_snoc [] (by omega)]; exact hO37.up o1),hF40,(by first | omega | assumption | (simp; done) | (simp; omega)),(by assumption),(by omega),(by omega),(by omega),(by omega)⟩,by first | omega | (dsimp only; omega)⟩
   ·
    refine q_lss false rfl rfl (decide_eq_false hc31) zN ?_
    refine lw_nil ?_
    refine c_cond_f rfl ?_
    refine wp_exit ?_
    refine t_exit ?_
    refine t_exit ?_
    refine c_exit_here ?_
    refine wp_seq ?_
    refine wp_draw _ [0,0,0,0,1,0,0,0] mixed (by kernel_rfl) ?_
    refine q_move vo rfl zN ?_
    refine q_move (.pointer (some ⟨w.heap.size,0,none⟩)) rfl zN ?_
    refine q_nil rfl zN ?_
    refine q_fldP (p := (.pointer (some ⟨w.heap.size,0,none⟩))) (b := w.heap.size) (o := 0) 2 fd123_2 rfl rfl zN ?_
    refine q_load (p := (padd (.pointer (some ⟨w.heap.size,0,none⟩)) 2)) (.inl rfl) (.int .i64 ((s14 :Nat):Int)) one2 rfl (hL28_1.ldp (i := 2) (by simp)) zN ?_
    refine q_assign vo rfl zN ?_
    refine q_assign (.int .i64 ((s14 :Nat):Int)) rfl zN ?_
    refine q_assign (.int .i64 ((0 :Nat):Int)) rfl zN ?_
    refine lw_nil ?_
    refine wp_ret ?_
    exact post_ret [6,7,8] rfl (.tuple #[vo,(.int .i64 ((s14 :Nat):Int)),(.int .i64 ((0 :Nat):Int))]) rfl ⟨vo,(by rw [evT_o (ev_ok hRL (by omega)),show nxC p f.toNat a = _ from evD_o (ev_ok hRL (by omega))] <;> rfl),hE28.drew,(by have h := (hL28_0.up o1).low hE14.size; unfold nxR; rw [evR_o (ev_ok hRL (by omega))]; rwa [List.take_of_length_le (by omega)] at h),hNP,hST⟩
theorem rf_1 {p : List Fn} {f : Int} (h : (decide (((0 : Nat) : Int) ≤ f) && decide (f ≤ ((p.length : Nat) : Int) - 1)) = false) : rnF p f = false := by
  have h' : inB f 0 (((p.length : Nat) : Int) - 1) = false := h
  unfold rnF; rw [h', Bool.false_and]
theorem rf_2 {p : List Fn} {f : Int} (h : (decide (((0 : Nat) : Int) ≤ f) && decide (f ≤ ((p.length : Nat) : Int) - 1)) = true) {b : Bool} (hb : b = (decide (1 ≤ (p.getD f.toNat Fn.zero).params) && decide ((((p.getD f.toNat Fn.zero).outs.length : Nat) : Int) = (p.getD f.toNat Fn.zero).params))) : rnF p f = b := by
  have h' : inB f 0 (((p.length : Nat) : Int) - 1) = true := h
  unfold rnF; rw [h', hb, Bool.true_and]
set_option maxHeartbeats 4000000 in
set_option maxRecDepth 100000 in
theorem c_spec_l06Round (w : World) (dp : Nat) (vp : Value) (p : List Fn) (f : Int) (hp : RN [] (rP (rPr dp)) w.heap vp p) (_hf : -9223372036854775808 ≤ f ∧ f ≤ 9223372036854775807) (hz : SzP p) :
  Calls Tryz.prog 78 #[vp,.int .i64 f] w (fun e w' => e = .returned (.bool (rnF p f)) ∧ Ext w w') := by
 refine calls_mk [vp,.int .i64 f] 43 Tryz.func78 rfl rfl (by simp) ?_
 have hE0 : Ext w w := Ext.refl w
 refine wp_seq ?_
 refine wp_plain _ [0] rfl ?_
 refine q_assign (.bool false) rfl zN ?_
 refine lw_nil ?_
 refine wp_seq ?_
 refine wp_seq ?_
 refine wp_plain _ [0,0,0,0,2,0,0,0,0] rfl ?_
 refine q_move (.int .i64 f) rfl zN ?_
 refine q_move vp rfl zN ?_
 refine q_nilP (hp.isPtr) rfl zN ?_
 obtain ⟨cs1,hr1,hl1⟩ := RN.at (good_rPr _) hp
 obtain ⟨ve1,rfl,hx1⟩ := RPr.of hr1
 have hln1 := hx1.lenle
 unfold maxLen at hln1
 refine q_fldL (p := vp) 0 fd32_0 rfl (hl1 _ (Chg.of_ext [] hE0)) zN ?_
 refine q_load (p := (padd vp 0)) (.inr rfl) ve1 one30 rfl ((hl1 _ (Chg.of_ext [] hE0)).ld (i := 0) (by simp [exC,fnC])) zN ?_
 refine q_len (v := ve1) u30 rfl hx1.isSl zN ?_
 refine q_sub (((p.length :Nat):Int) - 1) rfl rfl (w64 (by omega) (by omega)) zN ?_
 refine lw_callq 63 [] [] [(.int .i64 f),(.int .i64 ((0 :Nat):Int)),(.int .i64 (((p.length :Nat):Int) - 1))] rfl rfl cf63 zN (.bool (decide (((0 :Nat):Int) ≤ f) && decide (f ≤ (((p.length :Nat):Int) - 1)))) (fun wq => c_spec_l00In wq _ _ _ _hf (by omega) (by omega)) ?_
 refine q_not (!(decide (((0 :Nat):Int) ≤ f) && decide (f ≤ (((p.length :Nat):Int) - 1)))) rfl rfl zN ?_
 refine lw_nil ?_
 cases hb3 : (!(decide (((0 :Nat):Int) ≤ f) && decide (f ≤ (((p.length :Nat):Int) - 1))))
 ·
  refine c_cond_f (by first | rfl | (show Value.bool _ = _; rw [hb3])) ?_
  refine wp_skip ?_
  refine wp_seq ?_
  refine wp_draw _ [0,0,0,1,0,0,0,1,0,0,0,0,0,1,0,0,0,1,0,0,0,0,1,0,0,0,1,0,0,0] mixed (by kernel_rfl) ?_
  have hi0 := inB_e (bn_f (by assumption) : (decide (((0 :Nat):Int) ≤ f) && decide (f ≤ ((p.length :Nat):Int) - 1)) = true)
  refine q_move vp rfl zN ?_
  refine q_nilP (hp.isPtr) rfl zN ?_
  refine q_fldL (p := vp) 0 fd32_0 rfl (hl1 _ (Chg.of_ext [] hE0.drew)) zN ?_
  refine q_load (p := (padd vp 0)) (.inl rfl) ve1 one30 rfl ((hl1 _ (Chg.of_ext [] hE0.drew)).ld (i := 0) (by simp [exC,fnC])) zN ?_
  refine q_move (.int .i64 f) rfl zN ?_
  refine q_idx (v := ve1) ((f).toNat) u30 tiS80 rfl rfl hx1.isSl (by omega) (by first | omega | assumption | (simp; done) | (simp; omega)) zN ?_
  obtain ⟨cs4,hr4,hl4⟩ := hx1.get (good_rFn dp) Fn.zero (k := ((f).toNat)) (by first | omega | assumption | (simp; done) | (simp; omega))
  obtain ⟨ve4,rfl,hx4⟩ := RF.of hr4
  have hln4 := hx4.rn.lenle
  unfold maxLen at hln4
  refine q_fldL (p := eptr ve1 ((f).toNat) 3) 1 fd80_1 rfl (hl4 _ (Chg.of_ext [] hE0.drew)) zN ?_
  refine q_load (p := (padd (eptr ve1 ((f).toNat) 3) 1)) (.inl rfl) (.int .i64 ((p.getD ((f).toNat) Fn.zero).params)) one2 rfl ((hl4 _ (Chg.of_ext [] hE0.drew)).ld (i := 1) (by simp [exC,fnC])) zN ?_
  by_cases hc5 : ((1 :Nat):Int) ≤ (p.getD ((f).toNat) Fn.zero).params
  ·
   refine q_geq true rfl rfl (decide_eq_true hc5) zN ?_
   refine q_move (.bool true) rfl zN ?_
   refine q_move vp rfl (zS (e := 23) rfl rfl rfl) ?_
   refine q_nilP (hp.isPtr) rfl (zS (e := 23) rfl rfl rfl) ?_
   refine q_fldL (p := vp) 0 fd32_0 rfl (hl1 _ (Chg.of_ext [] hE0.drew)) (zS (e := 23) rfl rfl rfl) ?_
   refine q_load (p := (padd vp 0)) (.inl rfl) ve1 one30 rfl ((hl1 _ (Chg.of_ext [] hE0.drew)).ld (i := 0) (by simp [exC,fnC])) (zS (e := 23) rfl rfl rfl) ?_
   refine q_move (.int .i64 f) rfl (zS (e := 23) rfl rfl rfl) ?_
   refine q_idx (v := ve1) ((f).toNat) u30 tiS80 rfl rfl hx1.isSl (by omega) (by first | omega | assumption | (simp; done) | (simp; omega)) (zS (e := 23) rfl rfl rfl) ?_
   refine q_fldL (p := eptr ve1 ((f).toNat) 3) 2 fd80_2 rfl (hl4 _ (Chg.of_ext [] hE0.drew)) (zS (e := 23) rfl rfl rfl) ?_
   refine q_load (p := (padd (eptr ve1 ((f).toNat) 3) 2)) (.inl rfl) ve4 one78 rfl ((hl4 _ (Chg.of_ext [] hE0.drew)).ld (i := 2) (by simp [exC,fnC])) (zS (e := 23) rfl rfl rfl) ?_
   refine q_len (v := ve4) u78 rfl hx4.rn.isSl (zS (e := 23) rfl rfl rfl) ?_
   refine q_move vp rfl (zS (e := 23) rfl rfl rfl) ?_
   refine q_nilP (hp.isPtr) rfl (zS (e := 23) rfl rfl rfl) ?_
   refine q_fldL (p := vp) 0 fd32_0 rfl (hl1 _ (Chg.of_ext [] hE0.drew)) (zS (e := 23) rfl rfl rfl) ?_
   refine q_load (p := (padd vp 0)) (.inl rfl) ve1 one30 rfl ((hl1 _ (Chg.of_ext [] hE0.drew)).ld (i := 0) (by simp [exC,fnC])) (zS (e := 23) rfl rfl rfl) ?_
   refine q_move (.int .i64 f) rfl (zS (e := 23) rfl rfl rfl) ?_
   refine q_idx (v := ve1) ((f).toNat) u30 tiS80 rfl rfl hx1.isSl (by omega) (by first | omega | assumption | (simp; done) | (simp; omega)) (zS (e := 23) rfl rfl rfl) ?_
   refine q_fldL (p := eptr ve1 ((f).toNat) 3) 1 fd80_1 rfl (hl4 _ (Chg.of_ext [] hE0.drew)) (zS (e := 23) rfl rfl rfl) ?_
   refine q_load (p := (padd (eptr ve1 ((f).toNat) 3) 1)) (.inl rfl) (.int .i64 ((p.getD ((f).toNat) Fn.zero).params)) one2 rfl ((hl4 _ (Chg.of_ext [] hE0.drew)).ld (i := 1) (by simp [exC,fnC])) (zS (e := 23) rfl rfl rfl) ?_
   refine q_eql (decide (((((p.getD ((f).toNat) Fn.zero).outs).length :Nat):Int) = (p.getD ((f).toNat) Fn.zero).params)) rfl rfl rfl (zS (e := 23) rfl rfl rfl) ?_
   refine q_pick true (.bool (decide (((((p.getD ((f).toNat) Fn.zero).outs).length :Nat):Int) = (p.getD ((f).toNat) Fn.zero).params))) rfl rfl zN ?_
   refine q_assign (.bool (decide (((((p.getD ((f).toNat) Fn.zero).outs).length :Nat):Int) = (p.getD ((f).toNat) Fn.zero).params))) rfl zN ?_
   refine lw_nil ?_
   refine wp_ret ?_
   exact post_ret [4] rfl (.bool (decide (((((p.getD ((f).toNat) Fn.zero).outs).length :Nat):Int) = (p.getD ((f).toNat) Fn.zero).params))) rfl ⟨(by first | exact ret_bool (rf_1 (bn_t (by assumption))).symm | exact ret_bool (rf_2 (bn_f (by assumption)) (by rw [decide_eq_true (show 1 ≤ (p.getD f.toNat Fn.zero).params by omega),Bool.true_and])).symm | exact ret_bool (rf_2 (bn_f (by assumption)) (by rw [decide_eq_false (show ¬ 1 ≤ (p.getD f.toNat Fn.zero).params by omega),Bool.false_and])).symm),hE0.drew⟩
  ·
   refine q_geq false rfl rfl (decide_eq_false hc5) zN ?_
   refine q_move (.bool false) rfl zN ?_
   refine lw_skip (e := 23) (c := false) rfl rfl rfl rfl ?_
   refine lw_skip (e := 23) (c := false) rfl rfl rfl rfl ?_
   refine lw_skip (e := 23) (c := false) rfl rfl rfl rfl ?_
   refine lw_skip (e := 23) (c := false) rfl rfl rfl rfl ?_
   refine lw_skip (e := 23) (c := false) rfl rfl rfl rfl ?_
   refine lw_skip (e := 23) (c := false) rfl rfl rfl rfl ?_
   refine lw_skip (e := 23) (c := false) rfl rfl rfl rfl ?_
   refine lw_skip (e := 23) (c := false) rfl rfl rfl rfl ?_
   refine lw_skip (e := 23) (c := false) rfl rfl rfl rfl ?_
   refine lw_skip (e := 23) (c := false) rfl rfl rfl rfl ?_
   refine lw_skip (e := 23) (c := false) rfl rfl rfl rfl ?_
   refine lw_skip (e := 23) (c := false) rfl rfl rfl rfl ?_
   refine lw_skip (e := 23) (c := false) rfl rfl rfl rfl ?_
   refine lw_skip (e := 23) (c := false) rfl rfl rfl rfl ?_
   refine lw_skip (e := 23) (c := false) rfl rfl rfl rfl ?_
   refine lw_skip (e := 23) (c := false) rfl rfl rfl rfl ?_
   refine lw_skip (e := 23) (c := false) rfl rfl rfl rfl ?_
   refine lw_skip (e := 23) (c := false) rfl rfl rfl rfl ?_
   refine q_pick false (.bool false) rfl rfl zN ?_
   refine q_assign (.bool false) rfl zN ?_
   refine lw_nil ?_
   refine wp_ret ?_
   exact post_ret [4] rfl (.bool false) rfl ⟨(by first | exact ret_bool (rf_1 (bn_t (by assumption))).symm | exact ret_bool (rf_2 (bn_f (by assumption)) (by rw [decide_eq_true (show 1 ≤ (p.getD f.toNat Fn.zero).params by omega),Bool.true_and])).symm | exact ret_bool (rf_2 (bn_f (by assumption)) (by rw [decide_eq_false (show ¬ 1 ≤ (p.getD f.toNat Fn.zero).params by omega),Bool.false_and])).symm),hE0.drew⟩
 ·
  refine c_cond_t (by first | rfl | (show Value.bool _ = _; rw [hb3])) ?_
  refine wp_seq ?_
  refine wp_plain _ [0] rfl ?_
  refine q_assign (.bool false) rfl zN ?_
  refine lw_nil ?_
  refine wp_ret ?_
  refine t_ret ?_
  exact post_ret [4] rfl (.bool false) rfl ⟨(by first | exact ret_bool (rf_1 (bn_t (by assumption))).symm | exact ret_bool (rf_2 (bn_f (by assumption)) (by rw [decide_eq_true (show 1 ≤ (p.getD f.toNat Fn.zero).params by omega),Bool.true_and])).symm | exact ret_bool (rf_2 (bn_f (by assumption)) (by rw [decide_eq_false (show ¬ 1 ≤ (p.getD f.toNat Fn.zero).params by omega),Bool.false_and])).symm),hE0⟩
theorem rr_1 {p : List Fn} {f n : Int} {a : Sr} (h : okP p = false) : 1 = rdC p f a n := by
  have : chC p f [a] = 1 := by unfold chC; rw [h]; rfl
  unfold rdC; rw [this]; rfl
theorem rr_2 {p : List Fn} {f n : Int} {a : Sr} (h : okP p = true) (h2 : rnF p f = false) : 2 = rdC p f a n := by
  have : chC p f [a] = 2 := by unfold chC; rw [if_pos h, h2]; rfl
  unfold rdC; rw [this]; rfl
theorem rr_c {p : List Fn} {f : Int} {a : Sr} (h : okP p = true) (h2 : rnF p f = true) : chC p f [a] = if (decide (((a.length : Nat) : Int) = (p.getD f.toNat Fn.zero).params) && allN a) = true then 0 else 2 := by
  unfold chC; rw [if_pos h, if_pos h2, List.all_cons, List.all_nil, Bool.and_true]
theorem rr_b {p : List Fn} {f n : Int} {a : Sr} {x : Bool} (hx : (decide (((a.length : Nat) : Int) = (p.getD f.toNat Fn.zero).params) && allN a) = x) (h : okP p = true) (h2 : rnF p f = true) (h3 : inB n 0 40 = false ∨ x = false) : 2 = rdC p f a n := by
  unfold rdC
  rw [rr_c h h2, hx]
  cases x with
  | false => rfl
  | true => rw [h3.resolve_right (by simp)]; rfl
theorem rr_0 {p : List Fn} {f n : Int} {a : Sr} (h : okP p = true) (h2 : rnF p f = true) (h3 : inB n 0 40 = true) (h4 : ((a.length : Nat) : Int) = (p.getD f.toNat Fn.zero).params) (h5 : allN a = true) : 0 = rdC p f a n := by
  unfold rdC
  rw [rr_c h h2, decide_eq_true h4, h5, h3]; rfl
set_option maxHeartbeats 4000000 in
set_option maxRecDepth 100000 in
theorem c_spec_l06Rounds (w : World) (dp : Nat) (vp : Value) (p : List Fn) (f : Int) (va : Value) (a : List Int) (vb : Value) (b : List Int) (n : Int) (hp : RN [] (rP (rPr dp)) w.heap vp p) (_hf : -9223372036854775808 ≤ f ∧ f ≤ 9223372036854775807) (ha : Rd (rdL rI) w.heap va a) (hb : Rd (rdL rI) w.heap vb b) (_hn : -9223372036854775808 ≤ n ∧ n ≤ 9223372036854775807) (hz : SzP p) (hab : b = a) :
  Calls Tryz.prog 42 #[vp,.int .i64 f,va,vb,.int .i64 n] w (fun e w' => e = .returned (.int .i64 (rdC p f a n)) ∧ Ext w w') := by
 refine calls_mk [vp,.int .i64 f,va,vb,.int .i64 n] 52 Tryz.func42 rfl rfl (by simp) ?_
 have hE0 : Ext w w := Ext.refl w
 have hl_va := ha.lenle
 have hl_vb := hb.lenle
 have hbl : b.length = a.length := by rw [hab]
 have hbn : allN b = allN a := by rw [hab]
 refine wp_seq ?_
 refine wp_plain _ [0] rfl ?_
 refine q_assign (.int .i64 ((0 :Nat):Int)) rfl zN ?_
 refine lw_nil ?_
 refine wp_seq ?_
 refine wp_seq ?_
 refine wp_plain _ [0,3,0] rfl ?_
 refine q_move vp rfl zN ?_
 refine lw_call 77 [] [] [vp] rfl rfl cf77 zN (c_spec_l02Ok _ dp vp (p) (hp.ext (good_rP (good_rPr dp)) hE0) (by exact hz)) ?_
 rintro e1 w1 ⟨rfl,hX1⟩
 refine ⟨_,rfl,hX1,?_⟩
 have hzs1:=hX1.size
 have hE1:=hE0.trans hX1
 refine q_not (!(okP p)) rfl rfl zN ?_
 refine lw_nil ?_
 cases hb2 : (!(okP p))
 ·
  refine c_cond_f (by first | rfl | (show Value.bool _ = _; rw [hb2])) ?_
  refine wp_skip ?_
  refine wp_seq ?_
  refine wp_seq ?_
  refine wp_plain _ [0,0,3,0,0,0,0,0,0] rfl ?_
  refine q_move vp rfl zN ?_
  refine q_move (.int .i64 f) rfl zN ?_
  refine lw_call 78 [] [] [vp,(.int .i64 f)] rfl rfl cf78 zN (c_spec_l06Round _ dp vp (p) _ (hp.ext (good_rP (good_rPr dp)) hE1) _hf (by exact hz)) ?_
  rintro e3 w3 ⟨rfl,hX3⟩
  refine ⟨_,rfl,hX3,?_⟩
  have hzs3:=hX3.size
  have hE3:=hE1.trans hX3
  refine q_not (!(rnF p f)) rfl rfl zN ?_
  refine q_move (.bool (!(rnF p f))) rfl zN ?_
  cases hb4 : (!(rnF p f))
  ·
   refine q_move (.int .i64 n) rfl (zS (e := 19) rfl rfl rfl) ?_
   refine lw_callq 63 [] [] [(.int .i64 n),(.int .i64 ((0 :Nat):Int)),(.int .i64 ((40 :Nat):Int))] rfl rfl cf63 (zS (e := 19) rfl rfl rfl) (.bool (decide (((0 :Nat):Int) ≤ n) && decide (n ≤ ((40 :Nat):Int)))) (fun wq => c_spec_l00In wq _ _ _ _hn (by omega) (by omega)) ?_
   refine q_not (!(decide (((0 :Nat):Int) ≤ n) && decide (n ≤ ((40 :Nat):Int)))) rfl rfl (zS (e := 19) rfl rfl rfl) ?_
   refine q_pick false (.bool (!(decide (((0 :Nat):Int) ≤ n) && decide (n ≤ ((40 :Nat):Int))))) rfl rfl zN ?_
   refine lw_nil ?_
   cases hb6 : (!(decide (((0 :Nat):Int) ≤ n) && decide (n ≤ ((40 :Nat):Int))))
   ·
    refine c_cond_f (by first | rfl | (show Value.bool _ = _; rw [hb6])) ?_
    refine wp_skip ?_
    refine wp_seq ?_
    refine wp_plain _ [0,0,0,2,0,0,0,2,0] rfl ?_
    have hok := (bn_f (by assumption) : okP p = true)
    have hrn := (bn_f (by assumption) : rnF p f = true)
    have hin := (bn_f (by assumption) : (decide (((0 :Nat):Int) ≤ n) && decide (n ≤ ((40 :Nat):Int))) = true)
    have hrr := rnF_iff.1 hrn
    refine q_move vp rfl zN ?_
    refine q_nilP (hp.isPtr) rfl zN ?_
    obtain ⟨cs7,hr7,hl7⟩ := RN.at (good_rPr _) hp
    obtain ⟨ve7,rfl,hx7⟩ := RPr.of hr7
    have hln7 := hx7.lenle
    unfold maxLen at hln7
    refine q_fldL (p := vp) 0 fd32_0 rfl (hl7 _ (Chg.of_ext [] hE3)) zN ?_
    refine q_load (p := (padd vp 0)) (.inr rfl) ve7 one30 rfl ((hl7 _ (Chg.of_ext [] hE3)).ld (i := 0) (by simp [exC,fnC])) zN ?_
    refine q_move (.int .i64 f) rfl zN ?_
    refine q_idx (v := ve7) ((f).toNat) u30 tiS80 rfl rfl hx7.isSl (by omega) (by first | omega | assumption | (simp; done) | (simp; omega)) zN ?_
    obtain ⟨cs8,hr8,hl8⟩ := hx7.get (good_rFn dp) Fn.zero (k := ((f).toNat)) (by first | omega | assumption | (simp; done) | (simp; omega))
    obtain ⟨ve8,rfl,hx8⟩ := RF.of hr8
    have hln8 := hx8.rn.lenle
    unfold maxLen at hln8
    refine q_fldL (p := eptr ve7 ((f).toNat) 3) 1 fd80_1 rfl (hl8 _ (Chg.of_ext [] hE3)) zN ?_
    refine q_load (p := (padd (eptr ve7 ((f).toNat) 3) 1)) (.inr rfl) (.int .i64 ((p.getD ((f).toNat) Fn.zero).params)) one2 rfl ((hl8 _ (Chg.of_ext [] hE3)).ld (i := 1) (by simp [exC,fnC])) zN ?_
    refine q_assign (.int .i64 ((p.getD ((f).toNat) Fn.zero).params)) rfl zN ?_
    refine lw_nil ?_
    refine wp_seq ?_
    refine wp_seq ?_
    refine wp_plain _ [0,0,0,0,0,0,3,0,0,0,0,0,0,0,0,0,0,3,0,0] rfl ?_
    refine q_move va rfl zN ?_
    refine q_len (v := va) u25 rfl ha.isSl zN ?_
    refine q_move (.int .i64 ((p.getD ((f).toNat) Fn.zero).params)) rfl zN ?_
    by_cases hc9 : ((a.length :Nat):Int) ≠ (p.getD ((f).toNat) Fn.zero).params
    ·
     refine q_neq true rfl rfl (decide_eq_true hc9) zN ?_
     refine q_move (.bool true) rfl zN ?_
     refine lw_skip (e := 36) (c := true) rfl rfl rfl rfl ?_
     refine lw_skip (e := 36) (c := true) rfl rfl rfl rfl ?_
     refine lw_skip (e := 36) (c := true) rfl rfl rfl rfl ?_
     refine q_pick true (.bool true) rfl rfl zN ?_
     refine q_move (.bool true) rfl zN ?_
     refine lw_skip (e := 41) (c := true) rfl rfl rfl rfl ?_
     refine lw_skip (e := 41) (c := true) rfl rfl rfl rfl ?_
     refine lw_skip (e := 41) (c := true) rfl rfl rfl rfl ?_
     refine lw_skip (e := 41) (c := true) rfl rfl rfl rfl ?_
     refine q_pick true (.bool true) rfl rfl zN ?_
     refine q_move (.bool true) rfl zN ?_
     refine lw_skip (e := 47) (c := true) rfl rfl rfl rfl ?_
     refine lw_skip (e := 47) (c := true) rfl rfl rfl rfl ?_
     refine lw_skip (e := 47) (c := true) rfl rfl rfl rfl ?_
     refine q_pick true (.bool true) rfl rfl zN ?_
     refine lw_nil ?_
     refine c_cond_t rfl ?_
     refine wp_seq ?_
     refine wp_plain _ [0] rfl ?_
     refine q_assign (.int .i64 ((2 :Nat):Int)) rfl zN ?_
     refine lw_nil ?_
     refine wp_ret ?_
     refine t_ret ?_
     exact post_ret [10] rfl (.int .i64 ((2 :Nat):Int)) rfl ⟨(by first | exact ret_int (rr_1 (bn_t (by assumption))) | exact ret_int (rr_2 (bn_f (by assumption)) (bn_t (by assumption))) | exact ret_int (rr_b rfl (bn_f (by assumption)) (bn_f (by assumption)) (.inl (bn_t (by assumption)))) | exact ret_int (rr_0 hok hrn hin (by omega) (bn_f (by assumption))) | exact ret_int (rr_b rfl hok hrn (.inr (by rw [decide_eq_false (by omega),Bool.false_and]))) | exact ret_int (rr_b rfl hok hrn (.inr (by rw [← hbn,show allN b = false from bn_t (by assumption),Bool.and_false]))) | exact ret_int (rr_b rfl hok hrn (.inr (by rw [show allN a = false from bn_t (by assumption),Bool.and_false])))),hE3⟩
    ·
     refine q_neq false rfl rfl (decide_eq_false hc9) zN ?_
     refine q_move (.bool false) rfl zN ?_
     refine q_move va rfl (zS (e := 36) rfl rfl rfl) ?_
     refine lw_call 79 [] [] [va] rfl rfl cf79 (zS (e := 36) rfl rfl rfl) (c_spec_l01Numbers _ _ _ (ha.ext g1 hE3)) ?_
     rintro e10 w10 ⟨rfl,hX10⟩
     refine ⟨_,rfl,hX10,?_⟩
     have hzs10:=hX10.size
     have hE10:=hE3.trans hX10
     refine q_not (!(allN a)) rfl rfl (zS (e := 36) rfl rfl rfl) ?_
     refine q_pick false (.bool (!(allN a))) rfl rfl zN ?_
     refine q_move (.bool (!(allN a))) rfl zN ?_
     cases hb11 : (!(allN a))
     ·
      refine q_move vb rfl (zS (e := 41) rfl rfl rfl) ?_
      refine q_len (v := vb) u25 rfl hb.isSl (zS (e := 41) rfl rfl rfl) ?_
      refine q_move (.int .i64 ((p.getD ((f).toNat) Fn.zero).params)) rfl (zS (e := 41) rfl rfl rfl) ?_
      by_cases hc12 : ((b.length :Nat):Int) ≠ (p.getD ((f).toNat) Fn.zero).params
      ·
       refine q_neq true rfl rfl (decide_eq_true hc12) (zS (e := 41) rfl rfl rfl) ?_
       refine q_pick false (.bool true) rfl rfl zN ?_
       refine q_move (.bool true) rfl zN ?_
       refine lw_skip (e := 47) (c := true) rfl rfl rfl rfl ?_
       refine lw_skip (e := 47) (c := true) rfl rfl rfl rfl ?_
       refine lw_skip (e := 47) (c := true) rfl rfl rfl rfl ?_
       refine q_pick true (.bool true) rfl rfl zN ?_
       refine lw_nil ?_
       refine c_cond_t rfl ?_
       refine wp_seq ?_
       refine wp_plain _ [0] rfl ?_
       refine q_assign (.int .i64 ((2 :Nat):Int)) rfl zN ?_
       refine lw_nil ?_
       refine wp_ret ?_
       refine t_ret ?_
       exact post_ret [10] rfl (.int .i64 ((2 :Nat):Int)) rfl ⟨(by first | exact ret_int (rr_1 (bn_t (by assumption))) | exact ret_int (rr_2 (bn_f (by assumption)) (bn_t (by assumption))) | exact ret_int (rr_b rfl (bn_f (by assumption)) (bn_f (by assumption)) (.inl (bn_t (by assumption)))) | exact ret_int (rr_0 hok hrn hin (by omega) (bn_f (by assumption))) | exact ret_int (rr_b rfl hok hrn (.inr (by rw [decide_eq_false (by omega),Bool.false_and]))) | exact ret_int (rr_b rfl hok hrn (.inr (by rw [← hbn,show allN b = false from bn_t (by assumption),Bool.and_false]))) | exact ret_int (rr_b rfl hok hrn (.inr (by rw [show allN a = false from bn_t (by assumption),Bool.and_false])))),hE10⟩
      ·
       refine q_neq false rfl rfl (decide_eq_false hc12) (zS (e := 41) rfl rfl rfl) ?_
       refine q_pick false (.bool false) rfl rfl zN ?_
       refine q_move (.bool false) rfl zN ?_
       refine q_move vb rfl (zS (e := 47) rfl rfl rfl) ?_
       refine lw_call 79 [] [] [vb] rfl rfl cf79 (zS (e := 47) rfl rfl rfl) (c_spec_l01Numbers _ _ _ (hb.ext g1 hE10)) ?_
       rintro e13 w13 ⟨rfl,hX13⟩
       refine ⟨_,rfl,hX13,?_⟩
       have hzs13:=hX13.size
       have hE13:=hE10.trans hX13
       refine q_not (!(allN b)) rfl rfl (zS (e := 47) rfl rfl rfl) ?_
       refine q_pick false (.bool (!(allN b))) rfl rfl zN ?_
       refine lw_nil ?_
       cases hb14 : (!(allN b))
       ·
        refine c_cond_f (by first | rfl | (show Value.bool _ = _; rw [hb14])) ?_
        refine wp_skip ?_
        refine wp_seq ?_
        refine wp_plain _ [0] rfl ?_
        refine q_assign (.int .i64 ((0 :Nat):Int)) rfl zN ?_
        refine lw_nil ?_
        refine wp_ret ?_
        exact post_ret [10] rfl (.int .i64 ((0 :Nat):Int)) rfl ⟨(by first | exact ret_int (rr_1 (bn_t (by assumption))) | exact ret_int (rr_2 (bn_f (by assumption)) (bn_t (by assumption))) | exact ret_int (rr_b rfl (bn_f (by assumption)) (bn_f (by assumption)) (.inl (bn_t (by assumption)))) | exact ret_int (rr_0 hok hrn hin (by omega) (bn_f (by assumption))) | exact ret_int (rr_b rfl hok hrn (.inr (by rw [decide_eq_false (by omega),Bool.false_and]))) | exact ret_int (rr_b rfl hok hrn (.inr (by rw [← hbn,show allN b = false from bn_t (by assumption),Bool.and_false]))) | exact ret_int (rr_b rfl hok hrn (.inr (by rw [show allN a = false from bn_t (by assumption),Bool.and_false])))),hE13⟩
       ·
        refine c_cond_t (by first | rfl | (show Value.bool _ = _; rw [hb14])) ?_
        refine wp_seq ?_
        refine wp_plain _ [0] rfl ?_
        refine q_assign (.int .i64 ((2 :Nat):Int)) rfl zN ?_
        refine lw_nil ?_
        refine wp_ret ?_
        refine t_ret ?_
        exact post_ret [10] rfl (.int .i64 ((2 :Nat):Int)) rfl ⟨(by first | exact ret_int (rr_1 (bn_t (by assumption))) | exact ret_int (rr_2 (bn_f (by assumption)) (bn_t (by assumption))) | exact ret_int (rr_b rfl (bn_f (by assumption)) (bn_f (by assumption)) (.inl (bn_t (by assumption)))) | exact ret_int (rr_0 hok hrn hin (by omega) (bn_f (by assumption))) | exact ret_int (rr_b rfl hok hrn (.inr (by rw [decide_eq_false (by omega),Bool.false_and]))) | exact ret_int (rr_b rfl hok hrn (.inr (by rw [← hbn,show allN b = false from bn_t (by assumption),Bool.and_false]))) | exact ret_int (rr_b rfl hok hrn (.inr (by rw [show allN a = false from bn_t (by assumption),Bool.and_false])))),hE13⟩
     ·
      refine lw_skip (e := 41) (c := true) rfl rfl rfl rfl ?_
      refine lw_skip (e := 41) (c := true) rfl rfl rfl rfl ?_
      refine lw_skip (e := 41) (c := true) rfl rfl rfl rfl ?_
      refine lw_skip (e := 41) (c := true) rfl rfl rfl rfl ?_
      refine q_pick true (.bool true) rfl rfl zN ?_
      refine q_move (.bool true) rfl zN ?_
      refine lw_skip (e := 47) (c := true) rfl rfl rfl rfl ?_
      refine lw_skip (e := 47) (c := true) rfl rfl rfl rfl ?_
      refine lw_skip (e := 47) (c := true) rfl rfl rfl rfl ?_
      refine q_pick true (.bool true) rfl rfl zN ?_
      refine lw_nil ?_
      refine c_cond_t rfl ?_
      refine wp_seq ?_
      refine wp_plain _ [0] rfl ?_
      refine q_assign (.int .i64 ((2 :Nat):Int)) rfl zN ?_
      refine lw_nil ?_
      refine wp_ret ?_
      refine t_ret ?_
      exact post_ret [10] rfl (.int .i64 ((2 :Nat):Int)) rfl ⟨(by first | exact ret_int (rr_1 (bn_t (by assumption))) | exact ret_int (rr_2 (bn_f (by assumption)) (bn_t (by assumption))) | exact ret_int (rr_b rfl (bn_f (by assumption)) (bn_f (by assumption)) (.inl (bn_t (by assumption)))) | exact ret_int (rr_0 hok hrn hin (by omega) (bn_f (by assumption))) | exact ret_int (rr_b rfl hok hrn (.inr (by rw [decide_eq_false (by omega),Bool.false_and]))) | exact ret_int (rr_b rfl hok hrn (.inr (by rw [← hbn,show allN b = false from bn_t (by assumption),Bool.and_false]))) | exact ret_int (rr_b rfl hok hrn (.inr (by rw [show allN a = false from bn_t (by assumption),Bool.and_false])))),hE10⟩
   ·
    refine c_cond_t (by first | rfl | (show Value.bool _ = _; rw [hb6])) ?_
    refine wp_seq ?_
    refine wp_plain _ [0] rfl ?_
    refine q_assign (.int .i64 ((2 :Nat):Int)) rfl zN ?_
    refine lw_nil ?_
    refine wp_ret ?_
    refine t_ret ?_
    exact post_ret [10] rfl (.int .i64 ((2 :Nat):Int)) rfl ⟨(by first | exact ret_int (rr_1 (bn_t (by assumption))) | exact ret_int (rr_2 (bn_f (by assumption)) (bn_t (by assumption))) | exact ret_int (rr_b rfl (bn_f (by assumption)) (bn_f (by assumption)) (.inl (bn_t (by assumption)))) | exact ret_int (rr_0 hok hrn hin (by omega) (bn_f (by assumption))) | exact ret_int (rr_b rfl hok hrn (.inr (by rw [decide_eq_false (by omega),Bool.false_and]))) | exact ret_int (rr_b rfl hok hrn (.inr (by rw [← hbn,show allN b = false from bn_t (by assumption),Bool.and_false]))) | exact ret_int (rr_b rfl hok hrn (.inr (by rw [show allN a = false from bn_t (by assumption),Bool.and_false])))),hE3⟩
  ·
   refine lw_skip (e := 19) (c := true) rfl rfl rfl rfl ?_
   refine lw_skip (e := 19) (c := true) rfl rfl rfl rfl ?_
   refine lw_skip (e := 19) (c := true) rfl rfl rfl rfl ?_
   refine q_pick true (.bool true) rfl rfl zN ?_
   refine lw_nil ?_
   refine c_cond_t rfl ?_
   refine wp_seq ?_
   refine wp_plain _ [0] rfl ?_
   refine q_assign (.int .i64 ((2 :Nat):Int)) rfl zN ?_
   refine lw_nil ?_
   refine wp_ret ?_
   refine t_ret ?_
   exact post_ret [10] rfl (.int .i64 ((2 :Nat):Int)) rfl ⟨(by first | exact ret_int (rr_1 (bn_t (by assumption))) | exact ret_int (rr_2 (bn_f (by assumption)) (bn_t (by assumption))) | exact ret_int (rr_b rfl (bn_f (by assumption)) (bn_f (by assumption)) (.inl (bn_t (by assumption)))) | exact ret_int (rr_0 hok hrn hin (by omega) (bn_f (by assumption))) | exact ret_int (rr_b rfl hok hrn (.inr (by rw [decide_eq_false (by omega),Bool.false_and]))) | exact ret_int (rr_b rfl hok hrn (.inr (by rw [← hbn,show allN b = false from bn_t (by assumption),Bool.and_false]))) | exact ret_int (rr_b rfl hok hrn (.inr (by rw [show allN a = false from bn_t (by assumption),Bool.and_false])))),hE3⟩
 ·
  refine c_cond_t (by first | rfl | (show Value.bool _ = _; rw [hb2])) ?_
  refine wp_seq ?_
  refine wp_plain _ [0] rfl ?_
  refine q_assign (.int .i64 ((1 :Nat):Int)) rfl zN ?_
  refine lw_nil ?_
  refine wp_ret ?_
  refine t_ret ?_
  exact post_ret [10] rfl (.int .i64 ((1 :Nat):Int)) rfl ⟨(by first | exact ret_int (rr_1 (bn_t (by assumption))) | exact ret_int (rr_2 (bn_f (by assumption)) (bn_t (by assumption))) | exact ret_int (rr_b rfl (bn_f (by assumption)) (bn_f (by assumption)) (.inl (bn_t (by assumption)))) | exact ret_int (rr_0 hok hrn hin (by omega) (bn_f (by assumption))) | exact ret_int (rr_b rfl hok hrn (.inr (by rw [decide_eq_false (by omega),Bool.false_and]))) | exact ret_int (rr_b rfl hok hrn (.inr (by rw [← hbn,show allN b = false from bn_t (by assumption),Bool.and_false]))) | exact ret_int (rr_b rfl hok hrn (.inr (by rw [show allN a = false from bn_t (by assumption),Bool.and_false])))),hE1⟩
set_option maxHeartbeats 4000000 in
set_option maxRecDepth 100000 in
theorem c_spec_l06States (w : World) (dp : Nat) (vp : Value) (p : List Fn) (f : Int) (va : Value) (a : List Int) (n : Int) (hp : RN [] (rP (rPr dp)) w.heap vp p) (_hf : -9223372036854775808 ≤ f ∧ f ≤ 9223372036854775807) (ha : Rd (rdL rI) w.heap va a) (_hn : -9223372036854775808 ≤ n ∧ n ≤ 9223372036854775807) (hvp : VPr p) (hf : 0 ≤ f ∧ f < ((p.length :Nat):Int)) (hl : ((a.length :Nat):Int) = (p.getD f.toNat Fn.zero).params) (hna : allN a = true) (hn : 0 ≤ n ∧ n ≤ 40) (hou : ((p.getD f.toNat Fn.zero).outs.length : Int) = (p.getD f.toNat Fn.zero).params) :
  Calls Tryz.prog 43 #[vp,.int .i64 f,va,.int .i64 n] w (fun e w' => ∃ v0 : Value,e = .returned (.tuple #[v0,.int .i64 (rsK p f.toNat a n.toNat)]) ∧ Ext w w' ∧ Fr (owL (owL rI 2) 25) w.heap.size w'.heap.size w'.heap v0 (rsR p f.toNat a n.toNat) ∧ RsP p f.toNat a n.toNat) := by
 refine calls_mk [vp,.int .i64 f,va,.int .i64 n] 43 Tryz.func43 rfl rfl (by simp) ?_
 have hE0 : Ext w w := Ext.refl w
 have hl_va := ha.lenle
 have hpar := hvp.par f.toNat (by omega)
 refine wp_seq ?_
 refine wp_plain _ [0,0] rfl ?_
 refine q_assign (.slice none 0 0) rfl zN ?_
 refine q_assign (.int .i64 ((0 :Nat):Int)) rfl zN ?_
 refine lw_nil ?_
 refine wp_seq ?_
 refine wp_plain _ [0,3,3,0] rfl ?_
 refine q_move va rfl zN ?_
 refine lw_call 80 [] [] [va] rfl rfl cf80 zN (c_spec_l00Own _ _ _ (ha.ext g1 hE0) (by omega)) ?_
 rintro e1 w1 ⟨v1_0,rfl,hX1,hO1_0⟩
 refine ⟨_,rfl,hX1,?_⟩
 have hzs1:=hX1.size
 have hE1:=hE0.trans hX1
 refine r_one (u := v1_0) (B := w.heap.size) o1 u27 ti25 rfl rfl hO1_0 hE1.size zN ?_
 intro v2 w2 hX2 hz2 hO2
 have hzs2:=hX2.size
 have hE2:=hE1.trans hX2
 refine q_assign v2 rfl zN ?_
 refine lw_nil ?_
 refine wp_seq ?_
 refine wp_seq ?_
 refine wp_plain _ [0] rfl ?_
 refine q_assign (.int .i64 ((0 :Nat):Int)) rfl zN ?_
 refine lw_nil ?_
 refine wp_block ?_
 refine c_loop (S := Nat × Value) (fun (⟨k,vo⟩ : Nat × Value) => ([(10,vo),(11,(.int .i64 ((k :Nat):Int))),(0,vp),(1,(.int .i64 f)),(3,(.int .i64 n))] : List (Nat × Value))) (fun (⟨k,vo⟩ : Nat × Value) (W : World) => Ext w W ∧ Fr (owL (owL rI 2) 25) w.heap.size W.heap.size W.heap vo (tab (k + 1) (rsI p f.toNat a)) ∧ k ≤ n.toNat ∧ rsK p f.toNat a k = 0 ∧ ((rsI p f.toNat a k).length : Int) = (p.getD f.toNat Fn.zero).params ∧ allN (rsI p f.toNat a k) = true ∧ (∀ j,j ≤ k → (rsI p f.toNat a j).length = a.length)) (fun (⟨k,vo⟩ : Nat × Value) => n.toNat - k) (0,v2) ⟨rfl,rfl,rfl,rfl,rfl,trivial⟩ ⟨hE2,hO2.up o2,(by first | omega | assumption | (simp; done) | (simp; omega)),(by rfl),(by exact hl),(by exact hna),(by intro j hj; rw [show j = 0 from by omega]; rfl)⟩ ?_
 clear hE0 hO1_0 hX1 hzs1 hE1 hO2 hz2 hX2 hzs2 hE2
 rintro ⟨k,vo⟩ ρ3 w3 ⟨hE3,hL3_0,hp3_0,hrk,hrl,hrn,hrj⟩
 have hzs3 : w.heap.size ≤ w3.heap.size := hE3.size
 have hti := tab_get (f := rsI p f.toNat a) (n := k + 1) (k := k) [] (by omega)
 have htl : (tab (k + 1) (rsI p f.toNat a)).length = k + 1 := by simp [tab]
 refine wp_seq ?_
 refine wp_seq ?_
 refine wp_plain _ [0,0,0] rfl ?_
 refine q_move (.int .i64 ((k :Nat):Int)) rfl zN ?_
 refine q_move (.int .i64 n) rfl zN ?_
 by_cases hc4 : ((k :Nat):Int) < n
 ·
  refine q_lss true rfl rfl (decide_eq_true hc4) zN ?_
  refine lw_nil ?_
  refine c_cond_t rfl ?_
  refine wp_skip ?_
  refine wp_seq ?_
  refine wp_block ?_
  refine wp_seq ?_
  refine wp_plain _ [0,0,0,0,0,2,3,0,0,0,0,0,0,0] rfl ?_
  refine q_move vp rfl zN ?_
  refine q_move (.int .i64 f) rfl zN ?_
  refine q_move vo rfl zN ?_
  refine q_move (.int .i64 ((k :Nat):Int)) rfl zN ?_
  refine q_idx (v := vo) k u27 ti25 rfl rfl hL3_0.isSl rfl (by first | omega | assumption | (simp; done) | (simp; omega)) zN ?_
  obtain ⟨ue5,hl5,hd5⟩ := hL3_0.rd2.get (k := k) [] (by first | omega | assumption | (simp; done) | (simp; omega))
  have hln5 := hd5.lenle
  refine q_load (p := eptr vo k 1) (.inr rfl) ue5 one25 rfl hl5 zN ?_
  refine lw_call 81 [] [] [vp,(.int .i64 f),ue5] rfl rfl cf81 zN (c_spec_l02Eval _ dp vp (p) _ _ _ (hp.ext (good_rP (good_rPr dp)) hE3) _hf hd5 (by exact hvp) (by omega) (by rw [hti]; exact hrl) (by rw [hti]; exact hrn)) ?_
  rintro e6 w6 ⟨v6_0,rfl,hX6,hO6_0,hP6_0,hP6_1⟩
  refine ⟨_,rfl,hX6,?_⟩
  have hzs6:=hX6.size
  have hE6:=hE3.trans hX6
  have hL3_0x6 := hL3_0.ext (o2) hX6
  have hd5x6 := hd5.ext g1 hX6
  have hlx7 := ldH_ext hX6 hl5
  refine q_move (.tuple #[v6_0,(.int .i64 ((evT p 1 f.toNat (sing ((tab (k + 1) (rsI p f.toNat a)).getD k [])) :Nat):Int)),(.int .i64 (nxC p f.toNat ((tab (k + 1) (rsI p f.toNat a)).getD k [])))]) rfl zN ?_
  refine q_extract (vs := [v6_0,(.int .i64 ((evT p 1 f.toNat (sing ((tab (k + 1) (rsI p f.toNat a)).getD k [])) :Nat):Int)),(.int .i64 (nxC p f.toNat ((tab (k + 1) (rsI p f.toNat a)).getD k [])))]) v6_0 rfl rfl zN ?_
  refine q_extract (vs := [v6_0,(.int .i64 ((evT p 1 f.toNat (sing ((tab (k + 1) (rsI p f.toNat a)).getD k [])) :Nat):Int)),(.int .i64 (nxC p f.toNat ((tab (k + 1) (rsI p f.toNat a)).getD k [])))]) (.int .i64 ((evT p 1 f.toNat (sing ((tab (k + 1) (rsI p f.toNat a)).getD k [])) :Nat):Int)) rfl rfl zN ?_
  refine q_extract (vs := [v6_0,(.int .i64 ((evT p 1 f.toNat (sing ((tab (k + 1) (rsI p f.toNat a)).getD k [])) :Nat):Int)),(.int .i64 (nxC p f.toNat ((tab (k + 1) (rsI p f.toNat a)).getD k [])))]) (.int .i64 (nxC p f.toNat ((tab (k + 1) (rsI p f.toNat a)).getD k []))) rfl rfl zN ?_
  refine q_assign v6_0 rfl zN ?_
  refine q_assign (.int .i64 ((evT p 1 f.toNat (sing ((tab (k + 1) (rsI p f.toNat a)).getD k [])) :Nat):Int)) rfl zN ?_
  refine q_assign (.int .i64 (nxC p f.toNat ((tab (k + 1) (rsI p f.toNat a)).getD k []))) rfl zN ?_
  refine lw_nil ?_
  refine wp_seq ?_
  refine wp_seq ?_
  refine wp_plain _ [0,0] rfl ?_
  have hNX := ‹NxP p f.toNat ((tab (k + 1) (rsI p f.toNat a)).getD k [])›
  rw [hti] at hNX
  have hnc := hNX.code
  have hcd : nxC p f.toNat ((tab (k + 1) (rsI p f.toNat a)).getD k []) = nxC p f.toNat (rsI p f.toNat a k) := by rw [hti]
  refine q_move (.int .i64 (nxC p f.toNat ((tab (k + 1) (rsI p f.toNat a)).getD k []))) rfl zN ?_
  by_cases hc8 : nxC p f.toNat ((tab (k + 1) (rsI p f.toNat a)).getD k []) ≠ ((0 :Nat):Int)
  ·
   refine q_neq true rfl rfl (decide_eq_true hc8) zN ?_
   refine lw_nil ?_
   refine c_cond_t rfl ?_
   refine wp_seq ?_
   refine wp_plain _ [3,0,0,0] rfl ?_
   refine r_nil (owL rI 2) o1 u27 ti25 zN ?_
   intro v9 w9 hX9 hz9 hO9
   have hzs9:=hX9.size
   have hE9:=hE6.trans hX9
   have hL3_0x9 := hL3_0x6.ext (o2) hX9
   have hd5x9 := hd5x6.ext g1 hX9
   have hlx10 := ldH_ext hX9 hlx7
   have hO6_0x9 := hO6_0.ext (o1) hX9
   refine q_move (.int .i64 (nxC p f.toNat ((tab (k + 1) (rsI p f.toNat a)).getD k []))) rfl zN ?_
   refine q_assign v9 rfl zN ?_
   refine q_assign (.int .i64 (nxC p f.toNat ((tab (k + 1) (rsI p f.toNat a)).getD k []))) rfl zN ?_
   refine lw_nil ?_
   refine wp_ret ?_
   refine t_ret ?_
   refine b_ret ?_
   refine t_ret ?_
   refine t_ret ?_
   refine b_ret ?_
   refine t_ret ?_
   have hfc : rsK p f.toNat a n.toNat = nxC p f.toNat (rsI p f.toNat a k) := by rw [rsK_stop (k := k + 1) (by rw [rsK_succ hrk]; omega) (by omega),rsK_succ hrk]
   exact post_ret [8,9] rfl (.tuple #[v9,(.int .i64 (nxC p f.toNat ((tab (k + 1) (rsI p f.toNat a)).getD k [])))]) rfl ⟨v9,(by rw [hfc,hti]),hE9,(by rw [rsR_e (by rw [hfc]; omega)]; exact (hO9.up o2).low hE6.size),(RsP.err hfc (by omega) hnc)⟩
  ·
   refine q_neq false rfl rfl (decide_eq_false hc8) zN ?_
   refine lw_nil ?_
   refine c_cond_f rfl ?_
   refine wp_skip ?_
   refine wp_plain _ [0,0,3,4,0] rfl ?_
   refine q_move vo rfl zN ?_
   refine q_move v6_0 rfl zN ?_
   refine r_one (u := v6_0) (B := w3.heap.size) o1 u27 ti25 rfl rfl hO6_0 (by first | exact Nat.le_refl _ | omega) zN ?_
   intro v11 w11 hX11 hz11 hO11
   have hzs11:=hX11.size
   have hE11:=hE6.trans hX11
   have hL3_0x11 := hL3_0x6.ext (o2) hX11
   have hd5x11 := hd5x6.ext g1 hX11
   have hlx12 := ldH_ext hX11 hlx7
   refine e_appF o1 (v := vo) (a := v11) u27 ti25 rfl rfl rfl hL3_0x11 hE11.size hO11 (by omega) hE3.size (by first | omega | assumption | (simp; done) | (simp; omega)) (by unfold maxLen; first | omega | assumption | (simp; done) | (simp; omega)) zN ?_
   intro v13 w13 F13 hC13 hF13 hO13
   have hE13 : Ext w w13 := hC13.below hE11 (fun c hc => Nat.le_trans (Nat.le_refl _) (hF13 c hc).1) hE11.size
   have hzs13:=hC13.size
   refine q_assign v13 rfl zN ?_
   refine lw_nil ?_
   refine wp_plain _ [0,0,0] rfl ?_
   refine q_move (.int .i64 ((k :Nat):Int)) rfl zN ?_
   refine q_add ((k + 1 :Nat):Int) rfl rfl (w64n (by omega) (by omega)) zN ?_
   refine q_assign (.int .i64 ((k + 1 :Nat):Int)) rfl zN ?_
   refine lw_nil ?_
   exact ⟨((k + 1),v13),_,rfl,⟨rfl,rfl,rfl,rfl,rfl,trivial⟩,⟨hE13,(by have h := hO13.up o2; rw [hti] at h; rw [tab_succ]; exact h),(by first | omega | assumption | (simp; done) | (simp; omega)),(by rw [rsK_succ hrk]; omega),(by have := hNX.len (by omega); show (((nxR p f.toNat (rsI p f.toNat a k)).length :Nat):Int) = _; omega),(by exact hNX.num),(by intro j hj; by_cases e9 : j ≤ k; (exact hrj j e9); (rw [show j = k + 1 from by omega]; have := hNX.len (by omega); show (nxR p f.toNat (rsI p f.toNat a k)).length = _; omega))⟩,by first | omega | (dsimp only; omega)⟩
 ·
  refine q_lss false rfl rfl (decide_eq_false hc4) zN ?_
  refine lw_nil ?_
  refine c_cond_f rfl ?_
  refine wp_exit ?_
  refine t_exit ?_
  refine t_exit ?_
  refine c_exit_here ?_
  refine wp_seq ?_
  refine wp_plain _ [0,0,0] rfl ?_
  refine q_move vo rfl zN ?_
  refine q_assign vo rfl zN ?_
  refine q_assign (.int .i64 ((0 :Nat):Int)) rfl zN ?_
  refine lw_nil ?_
  refine wp_ret ?_
  have hke : k = n.toNat := by omega
  exact post_ret [8,9] rfl (.tuple #[vo,(.int .i64 ((0 :Nat):Int))]) rfl ⟨vo,(by rw [← hke,hrk]; rfl),hE3,(by have h := hL3_0.up o2; rw [← hke,rsR_o hrk]; exact h),(RsP.ok (by rw [← hke]; exact hrk) (by rw [← hke]; exact hrj))⟩
set_option maxHeartbeats 4000000 in
set_option maxRecDepth 100000 in
theorem c_spec_RoundStates (w : World) (dp : Nat) (vp : Value) (p : List Fn) (f : Int) (va : Value) (a : List Int) (n : Int) (hp : RP [] dp w.heap vp p) (_hf : -9223372036854775808 ≤ f ∧ f ≤ 9223372036854775807) (ha : Rd (rdL rI) w.heap va a) (_hn : -9223372036854775808 ≤ n ∧ n ≤ 9223372036854775807) (hz : SzP p) :
  Calls Tryz.prog 10 #[(.agg #[vp]),.int .i64 f,va,.int .i64 n] w (fun e w' => ∃ v0 : Value,e = .returned (.tuple #[v0,.int .i64 (rtC p f a n)]) ∧ Ext w w' ∧ Fr (owL (owL rI 2) 25) w.heap.size w'.heap.size w'.heap v0 (rtR p f a n)) := by
 refine calls_mk [(.agg #[vp]),.int .i64 f,va,.int .i64 n] 26 Tryz.func10 rfl rfl (by simp) ?_
 have hE0 : Ext w w := Ext.refl w
 have hl_vp := hp.lenle
 unfold maxLen at hl_vp
 have hl_va := ha.lenle
 refine wp_seq ?_
 refine wp_plain _ [3,0,0] rfl ?_
 refine r_boxA (cs := #[vp]) rfl zN ?_
 intro w1 hX1 hz1 hB1
 have hzs1:=hX1.size
 have hE1:=hE0.trans hX1
 replace hB1 : BX w1.heap w.heap.size [vp] := hB1
 refine q_assign (.slice none 0 0) rfl zN ?_
 refine q_assign (.int .i64 ((0 :Nat):Int)) rfl zN ?_
 refine lw_nil ?_
 refine wp_seq ?_
 refine wp_seq ?_
 refine wp_plain _ [0,0,0,0,3,0] rfl ?_
 refine q_move (.int .i64 f) rfl zN ?_
 refine q_move va rfl zN ?_
 refine q_move va rfl zN ?_
 refine q_move (.int .i64 n) rfl zN ?_
 refine lw_call 42 [] [] [(.pointer (some ⟨w.heap.size,0,none⟩)),(.int .i64 f),va,va,(.int .i64 n)] rfl rfl cf42 zN (c_spec_l06Rounds _ dp ((.pointer (some ⟨w.heap.size,0,none⟩))) (p) _ _ _ _ _ _ (RN.box hB1 (RP.mk' (hp.ext (good_rdS (good_rFn dp)) hE1)) (by simp)) _hf (ha.ext g1 hE1) (ha.ext g1 hE1) _hn (by exact hz) (by rfl)) ?_
 rintro e2 w2 ⟨rfl,hX2⟩
 refine ⟨_,rfl,hX2,?_⟩
 have hzs2:=hX2.size
 have hE2:=hE1.trans hX2
 have hB1x2 := hB1.ext hX2
 refine q_assign (.int .i64 (rdC p f a n)) rfl zN ?_
 refine lw_nil ?_
 refine wp_seq ?_
 refine wp_plain _ [0,0] rfl ?_
 refine q_move (.int .i64 (rdC p f a n)) rfl zN ?_
 by_cases hc3 : rdC p f a n ≠ ((0 :Nat):Int)
 ·
  refine q_neq true rfl rfl (decide_eq_true hc3) zN ?_
  refine lw_nil ?_
  refine c_cond_t rfl ?_
  refine wp_seq ?_
  refine wp_plain _ [3,0,0,0] rfl ?_
  refine r_nil (owL rI 2) o1 u27 ti25 zN ?_
  intro v4 w4 hX4 hz4 hO4
  have hzs4:=hX4.size
  have hE4:=hE2.trans hX4
  have hB1x4 := hB1x2.ext hX4
  refine q_move (.int .i64 (rdC p f a n)) rfl zN ?_
  refine q_assign v4 rfl zN ?_
  refine q_assign (.int .i64 (rdC p f a n)) rfl zN ?_
  refine lw_nil ?_
  refine wp_ret ?_
  refine t_ret ?_
  exact post_ret [8,9] rfl (.tuple #[v4,(.int .i64 (rdC p f a n))]) rfl ⟨v4,(by rw [rtC_n (by omega)]),hE4,(by rw [rtR_n (by omega)]; exact (hO4.up o2).low hE2.size)⟩
 ·
  refine q_neq false rfl rfl (decide_eq_false hc3) zN ?_
  refine lw_nil ?_
  refine c_cond_f rfl ?_
  refine wp_skip ?_
  refine wp_seq ?_
  refine wp_plain _ [0,0,0,3,0,0,0,0] rfl ?_
  have hg0 : rdC p f a n = 0 := by omega
  have hq0 := rdC_0 hg0
  have hvp := okP_vpr hq0.1
  refine q_move (.int .i64 f) rfl zN ?_
  refine q_move va rfl zN ?_
  refine q_move (.int .i64 n) rfl zN ?_
  refine lw_call 43 [] [] [(.pointer (some ⟨w.heap.size,0,none⟩)),(.int .i64 f),va,(.int .i64 n)] rfl rfl cf43 zN (c_spec_l06States _ dp ((.pointer (some ⟨w.heap.size,0,none⟩))) (p) _ _ _ _ (RN.box hB1x2 (RP.mk' (hp.ext (good_rdS (good_rFn dp)) hE2)) (by simp)) _hf (ha.ext g1 hE2) _hn (by exact hvp) (by omega) (by omega) (by exact hq0.2.2.2.2.1) (by omega) (by omega)) ?_
  rintro e5 w5 ⟨v5_0,rfl,hX5,hO5_0,hP5_0⟩
  refine ⟨_,rfl,hX5,?_⟩
  have hzs5:=hX5.size
  have hE5:=hE2.trans hX5
  have hB1x5 := hB1x2.ext hX5
  refine q_extract (vs := [v5_0,(.int .i64 (rsK p f.toNat a n.toNat))]) v5_0 rfl rfl zN ?_
  refine q_extract (vs := [v5_0,(.int .i64 (rsK p f.toNat a n.toNat))]) (.int .i64 (rsK p f.toNat a n.toNat)) rfl rfl zN ?_
  refine q_assign v5_0 rfl zN ?_
  refine q_assign (.int .i64 (rsK p f.toNat a n.toNat)) rfl zN ?_
  refine lw_nil ?_
  refine wp_ret ?_
  exact post_ret [8,9] rfl (.tuple #[v5_0,(.int .i64 (rsK p f.toNat a n.toNat))]) rfl ⟨v5_0,(by rw [rtC_0 hg0]),hE5,(by rw [rtR_0 hg0]; exact (hO5_0.up o2).low hE2.size)⟩
end Go.Proofs.YtnofbmdpabcjaaaGreat
namespace Go.Proofs.YtnofbmdpabcjaaaGreat
open Go Go.RowKit
set_option linter.unusedVariables false
set_option linter.unusedSimpArgs false
attribute [local irreducible] LW
def ZS (D : Nat) : Prop := ∀ (w : World) (d : Nat) (va : Value) (a : List Ex) (left : Int) (ha : RN [] (rdS 5 (rEx d)) w.heap va a) (_hleft : -9223372036854775808 ≤ left ∧ left ≤ 9223372036854775807) (hL : 0 ≤ left ∧ left ≤ 1048576) (hd : d ≤ D), Calls Tryz.prog 112 #[va, .int .i64 left] w (fun e w' => e = .returned (.int .i64 (szV (Ex.sizes a) left)) ∧ Ext w w')
set_option maxHeartbeats 4000000 in
set_option maxRecDepth 100000 in
theorem c_laws_szExpr (w : World) (dex : Nat) (ve : Value) (ex : Ex) (left : Int) (hex : RX [] dex w.heap ve ex) (_hleft : -9223372036854775808 ≤ left ∧ left ≤ 9223372036854775807) (hL : 0 ≤ left ∧ left ≤ 1048576) (IH : ZS dex) :
  Calls Tryz.prog 136 #[(.agg #[(.int .i64 ex.kind),(.int .i64 ex.num),(.int .i64 ex.pick),(.int .i64 ex.count),ve]),.int .i64 left] w (fun e w' => e = .returned (.int .i64 (szV (Ex.sizes ex.kids) left)) ∧ Ext w w') := by
 refine calls_mk [(.agg #[(.int .i64 ex.kind),(.int .i64 ex.num),(.int .i64 ex.pick),(.int .i64 ex.count),ve]),.int .i64 left] 12 Tryz.func136 rfl rfl (by simp) ?_
 have hE0 : Ext w w := Ext.refl w
 have hl_ve := hex.rn.lenle
 unfold maxLen at hl_ve
 refine wp_seq ?_
 refine wp_plain _ [3,0] rfl ?_
 refine r_boxA (cs := #[(.int .i64 ex.kind),(.int .i64 ex.num),(.int .i64 ex.pick),(.int .i64 ex.count),ve]) rfl zN ?_
 intro w1 hX1 hz1 hB1
 have hzs1:=hX1.size
 have hE1:=hE0.trans hX1
 replace hB1 : BX w1.heap w.heap.size [(.int .i64 ex.kind),(.int .i64 ex.num),(.int .i64 ex.pick),(.int .i64 ex.count),ve] := hB1
 refine q_assign (.int .i64 ((0 :Nat):Int)) rfl zN ?_
 refine lw_nil ?_
 refine wp_seq ?_
 refine wp_plain _ [0,2,0,3,0] rfl ?_
 refine q_fldP (p := (.pointer (some ⟨w.heap.size,0,none⟩))) (b := w.heap.size) (o := 0) 4 fd160_4 rfl rfl zN ?_
 refine q_load (p := (padd (.pointer (some ⟨w.heap.size,0,none⟩)) 4)) (.inr rfl) ve one98 rfl (hB1.ldp (i := 4) (by simp)) zN ?_
 refine q_move (.int .i64 left) rfl zN ?_
 refine lw_call 112 [] [] [ve,(.int .i64 left)] rfl rfl cf112 zN (IH _ dex ve (ex.kids) _ (hex.rn.ext (good_rdS (good_rEx dex)) hE1) _hleft (by omega) (by omega)) ?_
 rintro e2 w2 ⟨rfl,hX2⟩
 refine ⟨_,rfl,hX2,?_⟩
 have hzs2:=hX2.size
 have hE2:=hE1.trans hX2
 have hB1x2 := hB1.ext hX2
 refine q_assign (.int .i64 (szV (Ex.sizes ex.kids) left)) rfl zN ?_
 refine lw_nil ?_
 refine wp_seq ?_
 refine wp_seq ?_
 refine wp_plain _ [0,0] rfl ?_
 refine q_move (.int .i64 (szV (Ex.sizes ex.kids) left)) rfl zN ?_
 by_cases hc3 : szV (Ex.sizes ex.kids) left < ((0 :Nat):Int)
 ·
  refine q_lss true rfl rfl (decide_eq_true hc3) zN ?_
  refine lw_nil ?_
  refine c_cond_t rfl ?_
  refine wp_seq ?_
  refine wp_plain _ [0] rfl ?_
  refine q_assign (.int .i64 (-1)) rfl zN ?_
  refine lw_nil ?_
  refine wp_ret ?_
  refine t_ret ?_
  exact post_ret [4] rfl (.int .i64 (-1)) rfl ⟨(by have hn := szV_neg (t := Ex.sizes ex.kids) (x := left) (by omega) (by omega); exact ret_int (szV_1 (by omega))),hE2⟩
 ·
  refine q_lss false rfl rfl (decide_eq_false hc3) zN ?_
  refine lw_nil ?_
  refine c_cond_f rfl ?_
  refine wp_skip ?_
  refine wp_seq ?_
  refine wp_plain _ [0,0] rfl ?_
  refine q_move (.int .i64 (szV (Ex.sizes ex.kids) left)) rfl zN ?_
  refine q_assign (.int .i64 (szV (Ex.sizes ex.kids) left)) rfl zN ?_
  refine lw_nil ?_
  refine wp_ret ?_
  exact post_ret [4] rfl (.int .i64 (szV (Ex.sizes ex.kids) left)) rfl ⟨(ret_int rfl),hE2⟩
set_option maxHeartbeats 4000000 in
set_option maxRecDepth 100000 in
theorem c_laws_szExprS (w : World) (da : Nat) (va : Value) (a : List Ex) (left : Int) (ha : RN [] (rdS 5 (rEx da)) w.heap va a) (_hleft : -9223372036854775808 ≤ left ∧ left ≤ 9223372036854775807) (hL : 0 ≤ left ∧ left ≤ 1048576) :
  Calls Tryz.prog 112 #[va,.int .i64 left] w (fun e w' => e = .returned (.int .i64 (szV (Ex.sizes a) left)) ∧ Ext w w') := by
 induction da using Nat.strongRecOn generalizing w va a left
 rename_i da ih
 refine calls_mk [va,.int .i64 left] 27 Tryz.func112 rfl rfl (by simp) ?_
 have hE0 : Ext w w := Ext.refl w
 have hl_va := ha.lenle
 unfold maxLen at hl_va
 have hge0 := sizes_ge a 0
 refine wp_seq ?_
 refine wp_plain _ [0] rfl ?_
 refine q_assign (.int .i64 ((0 :Nat):Int)) rfl zN ?_
 refine lw_nil ?_
 refine wp_seq ?_
 refine wp_plain _ [0,0,0,0,0] rfl ?_
 refine q_move (.int .i64 left) rfl zN ?_
 refine q_move va rfl zN ?_
 refine q_len (v := va) u98 rfl ha.isSl zN ?_
 refine q_sub (left - ((a.length :Nat):Int)) rfl rfl (w64 (by omega) (by omega)) zN ?_
 refine q_assign (.int .i64 (left - ((a.length :Nat):Int))) rfl zN ?_
 refine lw_nil ?_
 refine wp_seq ?_
 refine wp_seq ?_
 refine wp_plain _ [0,0] rfl ?_
 refine q_move (.int .i64 (left - ((a.length :Nat):Int))) rfl zN ?_
 by_cases hc1 : left - ((a.length :Nat):Int) < ((0 :Nat):Int)
 ·
  refine q_lss true rfl rfl (decide_eq_true hc1) zN ?_
  refine lw_nil ?_
  refine c_cond_t rfl ?_
  refine wp_seq ?_
  refine wp_plain _ [0] rfl ?_
  refine q_assign (.int .i64 (-1)) rfl zN ?_
  refine lw_nil ?_
  refine wp_ret ?_
  refine t_ret ?_
  exact post_ret [4] rfl (.int .i64 (-1)) rfl ⟨(by exact ret_int (szV_1 (by omega))),hE0⟩
 ·
  refine q_lss false rfl rfl (decide_eq_false hc1) zN ?_
  refine lw_nil ?_
  refine c_cond_f rfl ?_
  refine wp_skip ?_
  refine wp_seq ?_
  refine wp_seq ?_
  refine wp_plain _ [0] rfl ?_
  refine q_assign (.int .i64 ((0 :Nat):Int)) rfl zN ?_
  refine lw_nil ?_
  refine wp_block ?_
  refine c_loop (S := Nat × Int) (fun (⟨k,x⟩ : Nat × Int) => ([(1,(.int .i64 x)),(5,(.int .i64 ((k :Nat):Int))),(0,va)] : List (Nat × Value))) (fun (⟨k,x⟩ : Nat × Int) (W : World) => Ext w W ∧ k ≤ a.length ∧ x = left - ((a.length :Nat):Int) - ((Ex.sizes (a.take k) :Nat):Int) + ((k :Nat):Int) ∧ (0 ≤ x ∧ x ≤ 1048576)) (fun (⟨k,x⟩ : Nat × Int) => a.length - k) (0,(left - ((a.length :Nat):Int))) ⟨rfl,rfl,rfl,trivial⟩ ⟨hE0,(by first | omega | assumption | (simp; done) | (simp; omega)),(by rw [List.take_zero,sizes_nil]; omega),(by omega)⟩ ?_
  clear hE0
  rintro ⟨k,x⟩ ρ2 w2 ⟨hE2,hp2_0,hx,hp2_2⟩
  have hzs2 : w.heap.size ≤ w2.heap.size := hE2.size
  refine wp_seq ?_
  refine wp_seq ?_
  refine wp_plain _ [0,0,0,0] rfl ?_
  refine q_move (.int .i64 ((k :Nat):Int)) rfl zN ?_
  refine q_move va rfl zN ?_
  refine q_len (v := va) u98 rfl ha.isSl zN ?_
  by_cases hc3 : ((k :Nat):Int) < ((a.length :Nat):Int)
  ·
   refine q_lss true rfl rfl (decide_eq_true hc3) zN ?_
   refine lw_nil ?_
   refine c_cond_t rfl ?_
   refine wp_skip ?_
   refine wp_seq ?_
   refine wp_block ?_
   refine wp_seq ?_
   refine wp_plain _ [0,0,0,2,0,3,0] rfl ?_
   have hst := sizes_step (l := a) (k := k) (by omega)
   have hge := sizes_ge a (k + 1)
   have hsk := size_kids (a.getD k Ex.zero)
   refine q_move va rfl zN ?_
   refine q_move (.int .i64 ((k :Nat):Int)) rfl zN ?_
   refine q_idx (v := va) k u98 tiS160 rfl rfl ha.isSl rfl (by first | omega | assumption | (simp; done) | (simp; omega)) zN ?_
   obtain ⟨cs4,hr4,hl4⟩ := ha.get (good_rEx da) Ex.zero (k := k) (by first | omega | assumption | (simp; done) | (simp; omega))
   obtain ⟨dd4,ve4,hd4,rfl,hx4⟩ := RX.of hr4
   have hln4 := hx4.rn.lenle
   unfold maxLen at hln4
   refine q_loadA (p := eptr va k 5) (.inr rfl) [(.int .i64 ((a.getD k Ex.zero).kind)),(.int .i64 ((a.getD k Ex.zero).num)),(.int .i64 ((a.getD k Ex.zero).pick)),(.int .i64 ((a.getD k Ex.zero).count)),ve4] agg160 rfl (fun w9 hw9 => hl4 w9 (Chg.of_ext [] (hE2.trans hw9))) rfl zN ?_
   refine q_move (.int .i64 x) rfl zN ?_
   refine lw_call 136 [] [] [(.agg #[(.int .i64 ((a.getD k Ex.zero).kind)),(.int .i64 ((a.getD k Ex.zero).num)),(.int .i64 ((a.getD k Ex.zero).pick)),(.int .i64 ((a.getD k Ex.zero).count)),ve4]),(.int .i64 x)] rfl rfl cf136 zN (c_laws_szExpr _ dd4 ve4 (a.getD k Ex.zero) _ (hx4.ext hE2) (by omega) (by omega) (by intro w9 d9 v9 a9 l9 h1 h2 h3 h4; exact ih d9 (by omega) w9 v9 a9 l9 h1 h2 h3)) ?_
   rintro e5 w5 ⟨rfl,hX5⟩
   refine ⟨_,rfl,hX5,?_⟩
   have hzs5:=hX5.size
   have hE5:=hE2.trans hX5
   refine q_assign (.int .i64 (szV (Ex.sizes (a.getD k Ex.zero).kids) x)) rfl zN ?_
   refine lw_nil ?_
   refine wp_seq ?_
   refine wp_plain _ [0,0] rfl ?_
   have hzr := szV_rng (Ex.sizes (a.getD k Ex.zero).kids) (x := x) (by omega)
   refine q_move (.int .i64 (szV (Ex.sizes (a.getD k Ex.zero).kids) x)) rfl zN ?_
   by_cases hc6 : szV (Ex.sizes (a.getD k Ex.zero).kids) x < ((0 :Nat):Int)
   ·
    refine q_lss true rfl rfl (decide_eq_true hc6) zN ?_
    refine lw_nil ?_
    refine c_cond_t rfl ?_
    refine wp_seq ?_
    refine wp_plain _ [0] rfl ?_
    refine q_assign (.int .i64 (-1)) rfl zN ?_
    refine lw_nil ?_
    refine wp_ret ?_
    refine b_ret ?_
    refine t_ret ?_
    refine t_ret ?_
    refine b_ret ?_
    refine t_ret ?_
    exact post_ret [4] rfl (.int .i64 (-1)) rfl ⟨(by have hn := szV_neg (t := Ex.sizes (a.getD k Ex.zero).kids) (x := x) (by omega) (by omega); exact ret_int (szV_1 (by omega))),hE5⟩
   ·
    refine q_lss false rfl rfl (decide_eq_false hc6) zN ?_
    refine lw_nil ?_
    refine c_cond_f rfl ?_
    refine wp_skip ?_
    refine wp_plain _ [0,0,0] rfl ?_
    have hzp := szV_pos (t := Ex.sizes (a.getD k Ex.zero).kids) (x := x) (by omega)
    refine q_move (.int .i64 ((k :Nat):Int)) rfl zN ?_
    refine q_add ((k + 1 :Nat):Int) rfl rfl (w64n (by omega) (by first | omega | assumption | (simp; done) | (simp; omega))) zN ?_
    refine q_assign (.int .i64 ((k + 1 :Nat):Int)) rfl zN ?_
    refine lw_nil ?_
    exact ⟨((k + 1),(szV (Ex.sizes (a.getD k Ex.zero).kids) x)),_,rfl,⟨rfl,rfl,rfl,trivial⟩,⟨hE5,(by first | omega | assumption | (simp; done) | (simp; omega)),(by omega),(by omega)⟩,by first | omega | (dsimp only; omega)⟩
  ·
   refine q_lss false rfl rfl (decide_eq_false hc3) zN ?_
   refine lw_nil ?_
   refine c_cond_f rfl ?_
   refine wp_exit ?_
   refine t_exit ?_
   refine t_exit ?_
   refine c_exit_here ?_
   refine wp_seq ?_
   refine wp_plain _ [0,0] rfl ?_
   refine q_move (.int .i64 x) rfl zN ?_
   refine q_assign (.int .i64 x) rfl zN ?_
   refine lw_nil ?_
   refine wp_ret ?_
   exact post_ret [4] rfl (.int .i64 x) rfl ⟨(by have hsa := sizes_all (l := a) (k := k) (by omega); exact ret_int (szV_0 (by omega) (by omega))),hE2⟩
set_option maxHeartbeats 4000000 in
set_option maxRecDepth 100000 in
theorem c_laws_szFunc (w : World) (dg : Nat) (vf : Value) (g : Fn) (left : Int) (hg : RF [] dg w.heap vf g) (_hleft : -9223372036854775808 ≤ left ∧ left ≤ 9223372036854775807) (hL : 0 ≤ left ∧ left ≤ 1048576) (hnm : g.name.size ≤ 9223372036854775807) :
  Calls Tryz.prog 76 #[(.agg #[(.string g.name),(.int .i64 g.params),vf]),.int .i64 left] w (fun e w' => e = .returned (.int .i64 (szV g.sz left)) ∧ Ext w w') := by
 refine calls_mk [(.agg #[(.string g.name),(.int .i64 g.params),vf]),.int .i64 left] 19 Tryz.func76 rfl rfl (by simp) ?_
 have hE0 : Ext w w := Ext.refl w
 have hl_vf := hg.rn.lenle
 unfold maxLen at hl_vf
 have hgs : g.sz = g.name.size + Ex.sizes g.outs := rfl
 refine wp_seq ?_
 refine wp_plain _ [3,0] rfl ?_
 refine r_boxA (cs := #[(.string g.name),(.int .i64 g.params),vf]) rfl zN ?_
 intro w1 hX1 hz1 hB1
 have hzs1:=hX1.size
 have hE1:=hE0.trans hX1
 replace hB1 : BX w1.heap w.heap.size [(.string g.name),(.int .i64 g.params),vf] := hB1
 refine q_assign (.int .i64 ((0 :Nat):Int)) rfl zN ?_
 refine lw_nil ?_
 refine wp_seq ?_
 refine wp_plain _ [0,0,2,0,0,0] rfl ?_
 refine q_move (.int .i64 left) rfl zN ?_
 refine q_fldP (p := (.pointer (some ⟨w.heap.size,0,none⟩))) (b := w.heap.size) (o := 0) 0 fd100_0 rfl rfl zN ?_
 refine q_load (p := (padd (.pointer (some ⟨w.heap.size,0,none⟩)) 0)) (.inr rfl) (.string g.name) one9 rfl (hB1.ldp (i := 0) (by simp)) zN ?_
 refine q_lens (s := g.name) u9 rfl zN ?_
 refine q_sub (left - ((g.name.size :Nat):Int)) rfl rfl (w64 (by omega) (by omega)) zN ?_
 refine q_assign (.int .i64 (left - ((g.name.size :Nat):Int))) rfl zN ?_
 refine lw_nil ?_
 refine wp_seq ?_
 refine wp_seq ?_
 refine wp_plain _ [0,0] rfl ?_
 refine q_move (.int .i64 (left - ((g.name.size :Nat):Int))) rfl zN ?_
 by_cases hc2 : left - ((g.name.size :Nat):Int) < ((0 :Nat):Int)
 ·
  refine q_lss true rfl rfl (decide_eq_true hc2) zN ?_
  refine lw_nil ?_
  refine c_cond_t rfl ?_
  refine wp_seq ?_
  refine wp_plain _ [0] rfl ?_
  refine q_assign (.int .i64 (-1)) rfl zN ?_
  refine lw_nil ?_
  refine wp_ret ?_
  refine t_ret ?_
  exact post_ret [4] rfl (.int .i64 (-1)) rfl ⟨(by exact ret_int (szV_1 (by omega))),hE1⟩
 ·
  refine q_lss false rfl rfl (decide_eq_false hc2) zN ?_
  refine lw_nil ?_
  refine c_cond_f rfl ?_
  refine wp_skip ?_
  refine wp_seq ?_
  refine wp_plain _ [0,2,0,3,0] rfl ?_
  refine q_fldP (p := (.pointer (some ⟨w.heap.size,0,none⟩))) (b := w.heap.size) (o := 0) 2 fd100_2 rfl rfl zN ?_
  refine q_load (p := (padd (.pointer (some ⟨w.heap.size,0,none⟩)) 2)) (.inr rfl) vf one98 rfl (hB1.ldp (i := 2) (by simp)) zN ?_
  refine q_move (.int .i64 (left - ((g.name.size :Nat):Int))) rfl zN ?_
  refine lw_call 112 [] [] [vf,(.int .i64 (left - ((g.name.size :Nat):Int)))] rfl rfl cf112 zN (c_laws_szExprS _ dg vf (g.outs) _ (hg.rn.ext (good_rdS (good_rEx dg)) hE1) (by omega) (by omega)) ?_
  rintro e3 w3 ⟨rfl,hX3⟩
  refine ⟨_,rfl,hX3,?_⟩
  have hzs3:=hX3.size
  have hE3:=hE1.trans hX3
  have hB1x3 := hB1.ext hX3
  refine q_assign (.int .i64 (szV (Ex.sizes g.outs) (left - ((g.name.size :Nat):Int)))) rfl zN ?_
  refine lw_nil ?_
  refine wp_seq ?_
  refine wp_seq ?_
  refine wp_plain _ [0,0] rfl ?_
  have hzr := szV_rng (Ex.sizes g.outs) (x := left - ((g.name.size :Nat):Int)) (by omega)
  refine q_move (.int .i64 (szV (Ex.sizes g.outs) (left - ((g.name.size :Nat):Int)))) rfl zN ?_
  by_cases hc4 : szV (Ex.sizes g.outs) (left - ((g.name.size :Nat):Int)) < ((0 :Nat):Int)
  ·
   refine q_lss true rfl rfl (decide_eq_true hc4) zN ?_
   refine lw_nil ?_
   refine c_cond_t rfl ?_
   refine wp_seq ?_
   refine wp_plain _ [0] rfl ?_
   refine q_assign (.int .i64 (-1)) rfl zN ?_
   refine lw_nil ?_
   refine wp_ret ?_
   refine t_ret ?_
   exact post_ret [4] rfl (.int .i64 (-1)) rfl ⟨(by have hn := szV_neg (t := Ex.sizes g.outs) (x := left - ((g.name.size :Nat):Int)) (by omega) (by omega); exact ret_int (szV_1 (by omega))),hE3⟩
  ·
   refine q_lss false rfl rfl (decide_eq_false hc4) zN ?_
   refine lw_nil ?_
   refine c_cond_f rfl ?_
   refine wp_skip ?_
   refine wp_seq ?_
   refine wp_plain _ [0,0] rfl ?_
   have hzp := szV_pos (t := Ex.sizes g.outs) (x := left - ((g.name.size :Nat):Int)) (by omega)
   refine q_move (.int .i64 (szV (Ex.sizes g.outs) (left - ((g.name.size :Nat):Int)))) rfl zN ?_
   refine q_assign (.int .i64 (szV (Ex.sizes g.outs) (left - ((g.name.size :Nat):Int)))) rfl zN ?_
   refine lw_nil ?_
   refine wp_ret ?_
   exact post_ret [4] rfl (.int .i64 (szV (Ex.sizes g.outs) (left - ((g.name.size :Nat):Int)))) rfl ⟨(by exact ret_int (szV_0 (by omega) (by omega))),hE3⟩
set_option maxHeartbeats 4000000 in
set_option maxRecDepth 100000 in
theorem c_laws_szFuncS (w : World) (da : Nat) (va : Value) (a : List Fn) (left : Int) (ha : RP [] da w.heap va a) (_hleft : -9223372036854775808 ≤ left ∧ left ≤ 9223372036854775807) (hL : 0 ≤ left ∧ left ≤ 1048576) (hnm : ∀ k,k < a.length → (a.getD k Fn.zero).name.size ≤ 9223372036854775807) :
  Calls Tryz.prog 41 #[va,.int .i64 left] w (fun e w' => e = .returned (.int .i64 (szV (szP a) left)) ∧ Ext w w') := by
 refine calls_mk [va,.int .i64 left] 27 Tryz.func41 rfl rfl (by simp) ?_
 have hE0 : Ext w w := Ext.refl w
 have hl_va := ha.lenle
 unfold maxLen at hl_va
 have hgs : szP a = a.length + Fn.szs a := rfl
 refine wp_seq ?_
 refine wp_plain _ [0] rfl ?_
 refine q_assign (.int .i64 ((0 :Nat):Int)) rfl zN ?_
 refine lw_nil ?_
 refine wp_seq ?_
 refine wp_plain _ [0,0,0,0,0] rfl ?_
 refine q_move (.int .i64 left) rfl zN ?_
 refine q_move va rfl zN ?_
 refine q_len (v := va) u22 rfl ha.isSl zN ?_
 refine q_sub (left - ((a.length :Nat):Int)) rfl rfl (w64 (by omega) (by omega)) zN ?_
 refine q_assign (.int .i64 (left - ((a.length :Nat):Int))) rfl zN ?_
 refine lw_nil ?_
 refine wp_seq ?_
 refine wp_seq ?_
 refine wp_plain _ [0,0] rfl ?_
 refine q_move (.int .i64 (left - ((a.length :Nat):Int))) rfl zN ?_
 by_cases hc1 : left - ((a.length :Nat):Int) < ((0 :Nat):Int)
 ·
  refine q_lss true rfl rfl (decide_eq_true hc1) zN ?_
  refine lw_nil ?_
  refine c_cond_t rfl ?_
  refine wp_seq ?_
  refine wp_plain _ [0] rfl ?_
  refine q_assign (.int .i64 (-1)) rfl zN ?_
  refine lw_nil ?_
  refine wp_ret ?_
  refine t_ret ?_
  exact post_ret [4] rfl (.int .i64 (-1)) rfl ⟨(by exact ret_int (szV_1 (by omega))),hE0⟩
 ·
  refine q_lss false rfl rfl (decide_eq_false hc1) zN ?_
  refine lw_nil ?_
  refine c_cond_f rfl ?_
  refine wp_skip ?_
  refine wp_seq ?_
  refine wp_seq ?_
  refine wp_plain _ [0] rfl ?_
  refine q_assign (.int .i64 ((0 :Nat):Int)) rfl zN ?_
  refine lw_nil ?_
  refine wp_block ?_
  refine c_loop (S := Nat × Int) (fun (⟨k,x⟩ : Nat × Int) => ([(1,(.int .i64 x)),(5,(.int .i64 ((k :Nat):Int))),(0,va)] : List (Nat × Value))) (fun (⟨k,x⟩ : Nat × Int) (W : World) => Ext w W ∧ k ≤ a.length ∧ x = left - ((a.length :Nat):Int) - ((Fn.szs (a.take k) :Nat):Int) ∧ (0 ≤ x ∧ x ≤ 1048576)) (fun (⟨k,x⟩ : Nat × Int) => a.length - k) (0,(left - ((a.length :Nat):Int))) ⟨rfl,rfl,rfl,trivial⟩ ⟨hE0,(by first | omega | assumption | (simp; done) | (simp; omega)),(by rw [List.take_zero,szs_nil]; omega),(by omega)⟩ ?_
  clear hE0
  rintro ⟨k,x⟩ ρ2 w2 ⟨hE2,hp2_0,hx,hp2_2⟩
  have hzs2 : w.heap.size ≤ w2.heap.size := hE2.size
  refine wp_seq ?_
  refine wp_seq ?_
  refine wp_plain _ [0,0,0,0] rfl ?_
  refine q_move (.int .i64 ((k :Nat):Int)) rfl zN ?_
  refine q_move va rfl zN ?_
  refine q_len (v := va) u22 rfl ha.isSl zN ?_
  by_cases hc3 : ((k :Nat):Int) < ((a.length :Nat):Int)
  ·
   refine q_lss true rfl rfl (decide_eq_true hc3) zN ?_
   refine lw_nil ?_
   refine c_cond_t rfl ?_
   refine wp_skip ?_
   refine wp_seq ?_
   refine wp_block ?_
   refine wp_seq ?_
   refine wp_plain _ [0,0,0,2,0,3,0] rfl ?_
   have hst := szs_step (l := a) (k := k) (by omega)
   have hge := szs_take a (k + 1)
   refine q_move va rfl zN ?_
   refine q_move (.int .i64 ((k :Nat):Int)) rfl zN ?_
   refine q_idx (v := va) k u22 tiS100 rfl rfl ha.isSl rfl (by first | omega | assumption | (simp; done) | (simp; omega)) zN ?_
   obtain ⟨cs4,hr4,hl4⟩ := ha.get (good_rFn da) Fn.zero (k := k) (by first | omega | assumption | (simp; done) | (simp; omega))
   obtain ⟨ve4,rfl,hx4⟩ := RF.of hr4
   have hln4 := hx4.rn.lenle
   unfold maxLen at hln4
   refine q_loadA (p := eptr va k 3) (.inr rfl) [(.string ((a.getD k Fn.zero).name)),(.int .i64 ((a.getD k Fn.zero).params)),ve4] agg100 rfl (fun w9 hw9 => hl4 w9 (Chg.of_ext [] (hE2.trans hw9))) rfl zN ?_
   refine q_move (.int .i64 x) rfl zN ?_
   refine lw_call 76 [] [] [(.agg #[(.string ((a.getD k Fn.zero).name)),(.int .i64 ((a.getD k Fn.zero).params)),ve4]),(.int .i64 x)] rfl rfl cf76 zN (c_laws_szFunc _ da ve4 (a.getD k Fn.zero) _ ⟨hx4.rng,(hx4.rn.ext (good_rdS (good_rEx da)) hE2)⟩ (by omega) (by omega) (by exact hnm k (by omega))) ?_
   rintro e5 w5 ⟨rfl,hX5⟩
   refine ⟨_,rfl,hX5,?_⟩
   have hzs5:=hX5.size
   have hE5:=hE2.trans hX5
   refine q_assign (.int .i64 (szV (a.getD k Fn.zero).sz x)) rfl zN ?_
   refine lw_nil ?_
   refine wp_seq ?_
   refine wp_plain _ [0,0] rfl ?_
   have hzr := szV_rng (a.getD k Fn.zero).sz (x := x) (by omega)
   refine q_move (.int .i64 (szV (a.getD k Fn.zero).sz x)) rfl zN ?_
   by_cases hc6 : szV (a.getD k Fn.zero).sz x < ((0 :Nat):Int)
   ·
    refine q_lss true rfl rfl (decide_eq_true hc6) zN ?_
    refine lw_nil ?_
    refine c_cond_t rfl ?_
    refine wp_seq ?_
    refine wp_plain _ [0] rfl ?_
    refine q_assign (.int .i64 (-1)) rfl zN ?_
    refine lw_nil ?_
    refine wp_ret ?_
    refine b_ret ?_
    refine t_ret ?_
    refine t_ret ?_
    refine b_ret ?_
    refine t_ret ?_
    exact post_ret [4] rfl (.int .i64 (-1)) rfl ⟨(by have hn := szV_neg (t := (a.getD k Fn.zero).sz) (x := x) (by omega) (by omega); exact ret_int (szV_1 (by omega))),hE5⟩
   ·
    refine q_lss false rfl rfl (decide_eq_false hc6) zN ?_
    refine lw_nil ?_
    refine c_cond_f rfl ?_
    refine wp_skip ?_
    refine wp_plain _ [0,0,0] rfl ?_
    have hzp := szV_pos (t := (a.getD k Fn.zero).sz) (x := x) (by omega)
    refine q_move (.int .i64 ((k :Nat):Int)) rfl zN ?_
    refine q_add ((k + 1 :Nat):Int) rfl rfl (w64n (by omega) (by first | omega | assumption | (simp; done) | (simp; omega))) zN ?_
    refine q_assign (.int .i64 ((k + 1 :Nat):Int)) rfl zN ?_
    refine lw_nil ?_
    exact ⟨((k + 1),(szV (a.getD k Fn.zero).sz x)),_,rfl,⟨rfl,rfl,rfl,trivial⟩,⟨hE5,(by first | omega | assumption | (simp; done) | (simp; omega)),(by omega),(by omega)⟩,by first | omega | (dsimp only; omega)⟩
  ·
   refine q_lss false rfl rfl (decide_eq_false hc3) zN ?_
   refine lw_nil ?_
   refine c_cond_f rfl ?_
   refine wp_exit ?_
   refine t_exit ?_
   refine t_exit ?_
   refine c_exit_here ?_
   refine wp_seq ?_
   refine wp_plain _ [0,0] rfl ?_
   refine q_move (.int .i64 x) rfl zN ?_
   refine q_assign (.int .i64 x) rfl zN ?_
   refine lw_nil ?_
   refine wp_ret ?_
   exact post_ret [4] rfl (.int .i64 x) rfl ⟨(by rw [List.take_of_length_le (show a.length ≤ k by omega)] at hx; exact ret_int (szV_0 (by omega) (by omega))),hE2⟩
set_option maxHeartbeats 4000000 in
set_option maxRecDepth 100000 in
theorem c_laws_szProgram (w : World) (dp : Nat) (vp : Value) (p : List Fn) (left : Int) (hp : RP [] dp w.heap vp p) (_hleft : -9223372036854775808 ≤ left ∧ left ≤ 9223372036854775807) (hL : 0 ≤ left ∧ left ≤ 1048576) (hnm : ∀ k,k < p.length → (p.getD k Fn.zero).name.size ≤ 9223372036854775807) :
  Calls Tryz.prog 9 #[(.agg #[vp]),.int .i64 left] w (fun e w' => e = .returned (.int .i64 (szV (szP p) left)) ∧ Ext w w') := by
 refine calls_mk [(.agg #[vp]),.int .i64 left] 12 Tryz.func9 rfl rfl (by simp) ?_
 have hE0 : Ext w w := Ext.refl w
 have hl_vp := hp.lenle
 unfold maxLen at hl_vp
 refine wp_seq ?_
 refine wp_plain _ [3,0] rfl ?_
 refine r_boxA (cs := #[vp]) rfl zN ?_
 intro w1 hX1 hz1 hB1
 have hzs1:=hX1.size
 have hE1:=hE0.trans hX1
 replace hB1 : BX w1.heap w.heap.size [vp] := hB1
 refine q_assign (.int .i64 ((0 :Nat):Int)) rfl zN ?_
 refine lw_nil ?_
 refine wp_seq ?_
 refine wp_plain _ [0,2,0,3,0] rfl ?_
 refine q_fldP (p := (.pointer (some ⟨w.heap.size,0,none⟩))) (b := w.heap.size) (o := 0) 0 fd24_0 rfl rfl zN ?_
 refine q_load (p := (padd (.pointer (some ⟨w.heap.size,0,none⟩)) 0)) (.inr rfl) vp one22 rfl (hB1.ldp (i := 0) (by simp)) zN ?_
 refine q_move (.int .i64 left) rfl zN ?_
 refine lw_call 41 [] [] [vp,(.int .i64 left)] rfl rfl cf41 zN (c_laws_szFuncS _ dp vp (p) _ (hp.ext (good_rdS (good_rFn dp)) hE1) _hleft (by omega) (by exact hnm)) ?_
 rintro e2 w2 ⟨rfl,hX2⟩
 refine ⟨_,rfl,hX2,?_⟩
 have hzs2:=hX2.size
 have hE2:=hE1.trans hX2
 have hB1x2 := hB1.ext hX2
 refine q_assign (.int .i64 (szV (szP p) left)) rfl zN ?_
 refine lw_nil ?_
 refine wp_seq ?_
 refine wp_seq ?_
 refine wp_plain _ [0,0] rfl ?_
 refine q_move (.int .i64 (szV (szP p) left)) rfl zN ?_
 by_cases hc3 : szV (szP p) left < ((0 :Nat):Int)
 ·
  refine q_lss true rfl rfl (decide_eq_true hc3) zN ?_
  refine lw_nil ?_
  refine c_cond_t rfl ?_
  refine wp_seq ?_
  refine wp_plain _ [0] rfl ?_
  refine q_assign (.int .i64 (-1)) rfl zN ?_
  refine lw_nil ?_
  refine wp_ret ?_
  refine t_ret ?_
  exact post_ret [4] rfl (.int .i64 (-1)) rfl ⟨(by have hn := szV_neg (t := szP p) (x := left) (by omega) (by omega); exact ret_int (szV_1 (by omega))),hE2⟩
 ·
  refine q_lss false rfl rfl (decide_eq_false hc3) zN ?_
  refine lw_nil ?_
  refine c_cond_f rfl ?_
  refine wp_skip ?_
  refine wp_seq ?_
  refine wp_plain _ [0,0] rfl ?_
  refine q_move (.int .i64 (szV (szP p) left)) rfl zN ?_
  refine q_assign (.int .i64 (szV (szP p) left)) rfl zN ?_
  refine lw_nil ?_
  refine wp_ret ?_
  exact post_ret [4] rfl (.int .i64 (szV (szP p) left)) rfl ⟨(ret_int rfl),hE2⟩
def QS (D : Nat) : Prop := ∀ (w : World) (d : Nat) (va : Value) (a : List Ex) (d' : Nat) (vb : Value) (b : List Ex) (ha : RN [] (rdS 5 (rEx d)) w.heap va a) (hb : RN [] (rdS 5 (rEx d')) w.heap vb b) (hab : b = a) (hd : d ≤ D), Calls Tryz.prog 125 #[va, vb] w (fun e w' => e = .returned (.bool true) ∧ Ext w w')
set_option maxHeartbeats 4000000 in
set_option maxRecDepth 100000 in
theorem c_laws_eqExpr (w : World) (da : Nat) (va : Value) (a : Ex) (db : Nat) (vb : Value) (b : Ex) (ha : RX [] da w.heap va a) (hb : RX [] db w.heap vb b) (hab : b = a) (IH : QS da) :
  Calls Tryz.prog 146 #[(.agg #[(.int .i64 a.kind),(.int .i64 a.num),(.int .i64 a.pick),(.int .i64 a.count),va]),(.agg #[(.int .i64 b.kind),(.int .i64 b.num),(.int .i64 b.pick),(.int .i64 b.count),vb])] w (fun e w' => e = .returned (.bool true) ∧ Ext w w') := by
 refine calls_mk [(.agg #[(.int .i64 a.kind),(.int .i64 a.num),(.int .i64 a.pick),(.int .i64 a.count),va]),(.agg #[(.int .i64 b.kind),(.int .i64 b.num),(.int .i64 b.pick),(.int .i64 b.count),vb])] 31 Tryz.func146 rfl rfl (by simp) ?_
 have hE0 : Ext w w := Ext.refl w
 have hl_va := ha.rn.lenle
 unfold maxLen at hl_va
 have hl_vb := hb.rn.lenle
 unfold maxLen at hl_vb
 have hk1 : b.kind = a.kind := by rw [hab]
 have hk2 : b.num = a.num := by rw [hab]
 have hk3 : b.pick = a.pick := by rw [hab]
 have hk4 : b.count = a.count := by rw [hab]
 refine wp_seq ?_
 refine wp_plain _ [3,3,0] rfl ?_
 refine r_boxA (cs := #[(.int .i64 a.kind),(.int .i64 a.num),(.int .i64 a.pick),(.int .i64 a.count),va]) rfl zN ?_
 intro w1 hX1 hz1 hB1
 have hzs1:=hX1.size
 have hE1:=hE0.trans hX1
 replace hB1 : BX w1.heap w.heap.size [(.int .i64 a.kind),(.int .i64 a.num),(.int .i64 a.pick),(.int .i64 a.count),va] := hB1
 have hq3 := hB1.lt
 refine r_boxA (cs := #[(.int .i64 b.kind),(.int .i64 b.num),(.int .i64 b.pick),(.int .i64 b.count),vb]) rfl zN ?_
 intro w2 hX2 hz2 hB2
 have hzs2:=hX2.size
 have hE2:=hE1.trans hX2
 have hB1x2 := hB1.ext hX2
 replace hB2 : BX w2.heap w1.heap.size [(.int .i64 b.kind),(.int .i64 b.num),(.int .i64 b.pick),(.int .i64 b.count),vb] := hB2
 refine q_assign (.bool false) rfl zN ?_
 refine lw_nil ?_
 refine wp_seq ?_
 refine wp_seq ?_
 refine wp_plain _ [0,2,0,2,0] rfl ?_
 refine q_fldP (p := (.pointer (some ⟨w.heap.size,0,none⟩))) (b := w.heap.size) (o := 0) 0 fd94_0 rfl rfl zN ?_
 refine q_load (p := (padd (.pointer (some ⟨w.heap.size,0,none⟩)) 0)) (.inr rfl) (.int .i64 a.kind) one2 rfl (hB1x2.ldp (i := 0) (by simp)) zN ?_
 refine q_fldP (p := (.pointer (some ⟨w1.heap.size,0,none⟩))) (b := w1.heap.size) (o := 0) 0 fd94_0 rfl rfl zN ?_
 refine q_load (p := (padd (.pointer (some ⟨w1.heap.size,0,none⟩)) 0)) (.inr rfl) (.int .i64 b.kind) one2 rfl (hB2.ldp (i := 0) (by simp)) zN ?_
 by_cases hc4 : a.kind ≠ b.kind
 ·
  refine q_neq true rfl rfl (decide_eq_true hc4) zN ?_
  refine lw_nil ?_
  refine c_cond_t rfl ?_
  refine wp_seq ?_
  refine wp_plain _ [0] rfl ?_
  refine q_assign (.bool false) rfl zN ?_
  refine lw_nil ?_
  refine wp_ret ?_
  refine t_ret ?_
  exact post_ret [4] rfl (.bool false) rfl ⟨(by first | exact ret_bool rfl | (exfalso; omega) | (exfalso; simp_all; done)),hE2⟩
 ·
  refine q_neq false rfl rfl (decide_eq_false hc4) zN ?_
  refine lw_nil ?_
  refine c_cond_f rfl ?_
  refine wp_skip ?_
  refine wp_seq ?_
  refine wp_seq ?_
  refine wp_plain _ [0,2,0,2,0] rfl ?_
  refine q_fldP (p := (.pointer (some ⟨w.heap.size,0,none⟩))) (b := w.heap.size) (o := 0) 1 fd94_1 rfl rfl zN ?_
  refine q_load (p := (padd (.pointer (some ⟨w.heap.size,0,none⟩)) 1)) (.inr rfl) (.int .i64 a.num) one2 rfl (hB1x2.ldp (i := 1) (by simp)) zN ?_
  refine q_fldP (p := (.pointer (some ⟨w1.heap.size,0,none⟩))) (b := w1.heap.size) (o := 0) 1 fd94_1 rfl rfl zN ?_
  refine q_load (p := (padd (.pointer (some ⟨w1.heap.size,0,none⟩)) 1)) (.inr rfl) (.int .i64 b.num) one2 rfl (hB2.ldp (i := 1) (by simp)) zN ?_
  by_cases hc5 : a.num ≠ b.num
  ·
   refine q_neq true rfl rfl (decide_eq_true hc5) zN ?_
   refine lw_nil ?_
   refine c_cond_t rfl ?_
   refine wp_seq ?_
   refine wp_plain _ [0] rfl ?_
   refine q_assign (.bool false) rfl zN ?_
   refine lw_nil ?_
   refine wp_ret ?_
   refine t_ret ?_
   exact post_ret [4] rfl (.bool false) rfl ⟨(by first | exact ret_bool rfl | (exfalso; omega) | (exfalso; simp_all; done)),hE2⟩
  ·
   refine q_neq false rfl rfl (decide_eq_false hc5) zN ?_
   refine lw_nil ?_
   refine c_cond_f rfl ?_
   refine wp_skip ?_
   refine wp_seq ?_
   refine wp_seq ?_
   refine wp_plain _ [0,2,0,2,0] rfl ?_
   refine q_fldP (p := (.pointer (some ⟨w.heap.size,0,none⟩))) (b := w.heap.size) (o := 0) 2 fd94_2 rfl rfl zN ?_
   refine q_load (p := (padd (.pointer (some ⟨w.heap.size,0,none⟩)) 2)) (.inr rfl) (.int .i64 a.pick) one2 rfl (hB1x2.ldp (i := 2) (by simp)) zN ?_
   refine q_fldP (p := (.pointer (some ⟨w1.heap.size,0,none⟩))) (b := w1.heap.size) (o := 0) 2 fd94_2 rfl rfl zN ?_
   refine q_load (p := (padd (.pointer (some ⟨w1.heap.size,0,none⟩)) 2)) (.inr rfl) (.int .i64 b.pick) one2 rfl (hB2.ldp (i := 2) (by simp)) zN ?_
   by_cases hc6 : a.pick ≠ b.pick
   ·
    refine q_neq true rfl rfl (decide_eq_true hc6) zN ?_
    refine lw_nil ?_
    refine c_cond_t rfl ?_
    refine wp_seq ?_
    refine wp_plain _ [0] rfl ?_
    refine q_assign (.bool false) rfl zN ?_
    refine lw_nil ?_
    refine wp_ret ?_
    refine t_ret ?_
    exact post_ret [4] rfl (.bool false) rfl ⟨(by first | exact ret_bool rfl | (exfalso; omega) | (exfalso; simp_all; done)),hE2⟩
   ·
    refine q_neq false rfl rfl (decide_eq_false hc6) zN ?_
    refine lw_nil ?_
    refine c_cond_f rfl ?_
    refine wp_skip ?_
    refine wp_seq ?_
    refine wp_seq ?_
    refine wp_plain _ [0,2,0,2,0] rfl ?_
    refine q_fldP (p := (.pointer (some ⟨w.heap.size,0,none⟩))) (b := w.heap.size) (o := 0) 3 fd94_3 rfl rfl zN ?_
    refine q_load (p := (padd (.pointer (some ⟨w.heap.size,0,none⟩)) 3)) (.inr rfl) (.int .i64 a.count) one2 rfl (hB1x2.ldp (i := 3) (by simp)) zN ?_
    refine q_fldP (p := (.pointer (some ⟨w1.heap.size,0,none⟩))) (b := w1.heap.size) (o := 0) 3 fd94_3 rfl rfl zN ?_
    refine q_load (p := (padd (.pointer (some ⟨w1.heap.size,0,none⟩)) 3)) (.inr rfl) (.int .i64 b.count) one2 rfl (hB2.ldp (i := 3) (by simp)) zN ?_
    by_cases hc7 : a.count ≠ b.count
    ·
     refine q_neq true rfl rfl (decide_eq_true hc7) zN ?_
     refine lw_nil ?_
     refine c_cond_t rfl ?_
     refine wp_seq ?_
     refine wp_plain _ [0] rfl ?_
     refine q_assign (.bool false) rfl zN ?_
     refine lw_nil ?_
     refine wp_ret ?_
     refine t_ret ?_
     exact post_ret [4] rfl (.bool false) rfl ⟨(by first | exact ret_bool rfl | (exfalso; omega) | (exfalso; simp_all; done)),hE2⟩
    ·
     refine q_neq false rfl rfl (decide_eq_false hc7) zN ?_
     refine lw_nil ?_
     refine c_cond_f rfl ?_
     refine wp_skip ?_
     refine wp_seq ?_
     refine wp_seq ?_
     refine wp_plain _ [0,2,0,2,3,0] rfl ?_
     refine q_fldP (p := (.pointer (some ⟨w.heap.size,0,none⟩))) (b := w.heap.size) (o := 0) 4 fd94_4 rfl rfl zN ?_
     refine q_load (p := (padd (.pointer (some ⟨w.heap.size,0,none⟩)) 4)) (.inr rfl) va one78 rfl (hB1x2.ldp (i := 4) (by simp)) zN ?_
     refine q_fldP (p := (.pointer (some ⟨w1.heap.size,0,none⟩))) (b := w1.heap.size) (o := 0) 4 fd94_4 rfl rfl zN ?_
     refine q_load (p := (padd (.pointer (some ⟨w1.heap.size,0,none⟩)) 4)) (.inr rfl) vb one78 rfl (hB2.ldp (i := 4) (by simp)) zN ?_
     refine lw_call 125 [] [] [va,vb] rfl rfl cf125 zN (IH _ da va (a.kids) db vb (b.kids) (ha.rn.ext (good_rdS (good_rEx da)) hE2) (hb.rn.ext (good_rdS (good_rEx db)) hE2) (by rw [hab]) (by omega)) ?_
     rintro e8 w8 ⟨rfl,hX8⟩
     refine ⟨_,rfl,hX8,?_⟩
     have hzs8:=hX8.size
     have hE8:=hE2.trans hX8
     have hB1x8 := hB1x2.ext hX8
     have hB2x8 := hB2.ext hX8
     refine q_not false rfl rfl zN ?_
     refine lw_nil ?_
     refine c_cond_f rfl ?_
     refine wp_skip ?_
     refine wp_seq ?_
     refine wp_plain _ [0] rfl ?_
     refine q_assign (.bool true) rfl zN ?_
     refine lw_nil ?_
     refine wp_ret ?_
     exact post_ret [4] rfl (.bool true) rfl ⟨(by first | exact ret_bool rfl | (exfalso; omega) | (exfalso; simp_all; done)),hE8⟩
set_option maxHeartbeats 4000000 in
set_option maxRecDepth 100000 in
theorem c_laws_eqExprS (w : World) (da : Nat) (va : Value) (a : List Ex) (db : Nat) (vb : Value) (b : List Ex) (ha : RN [] (rdS 5 (rEx da)) w.heap va a) (hb : RN [] (rdS 5 (rEx db)) w.heap vb b) (hab : b = a) :
  Calls Tryz.prog 125 #[va,vb] w (fun e w' => e = .returned (.bool true) ∧ Ext w w') := by
 induction da using Nat.strongRecOn generalizing w va a db vb b
 rename_i da ih
 refine calls_mk [va,vb] 27 Tryz.func125 rfl rfl (by simp) ?_
 have hE0 : Ext w w := Ext.refl w
 have hl_va := ha.lenle
 unfold maxLen at hl_va
 have hl_vb := hb.lenle
 unfold maxLen at hl_vb
 have hk1 : b.length = a.length := by rw [hab]
 refine wp_seq ?_
 refine wp_plain _ [0] rfl ?_
 refine q_assign (.bool false) rfl zN ?_
 refine lw_nil ?_
 refine wp_seq ?_
 refine wp_seq ?_
 refine wp_plain _ [0,0,0,0,0] rfl ?_
 refine q_move va rfl zN ?_
 refine q_len (v := va) u78 rfl ha.isSl zN ?_
 refine q_move vb rfl zN ?_
 refine q_len (v := vb) u78 rfl hb.isSl zN ?_
 by_cases hc1 : ((a.length :Nat):Int) ≠ ((b.length :Nat):Int)
 ·
  refine q_neq true rfl rfl (decide_eq_true hc1) zN ?_
  refine lw_nil ?_
  refine c_cond_t rfl ?_
  refine wp_seq ?_
  refine wp_plain _ [0] rfl ?_
  refine q_assign (.bool false) rfl zN ?_
  refine lw_nil ?_
  refine wp_ret ?_
  refine t_ret ?_
  exact post_ret [4] rfl (.bool false) rfl ⟨(by first | exact ret_bool rfl | (exfalso; omega) | (exfalso; simp_all; done)),hE0⟩
 ·
  refine q_neq false rfl rfl (decide_eq_false hc1) zN ?_
  refine lw_nil ?_
  refine c_cond_f rfl ?_
  refine wp_skip ?_
  refine wp_seq ?_
  refine wp_seq ?_
  refine wp_plain _ [0] rfl ?_
  refine q_assign (.int .i64 ((0 :Nat):Int)) rfl zN ?_
  refine lw_nil ?_
  refine wp_block ?_
  refine c_loop (S := Nat) (fun (k : Nat) => ([(5,(.int .i64 ((k :Nat):Int))),(0,va),(1,vb)] : List (Nat × Value))) (fun (k : Nat) (W : World) => Ext w W ∧ k ≤ a.length) (fun (k : Nat) => a.length - k) 0 ⟨rfl,rfl,rfl,trivial⟩ ⟨hE0,(by first | omega | assumption | (simp; done) | (simp; omega))⟩ ?_
  clear hE0
  rintro k ρ2 w2 ⟨hE2,hp2_0⟩
  have hzs2 : w.heap.size ≤ w2.heap.size := hE2.size
  refine wp_seq ?_
  refine wp_seq ?_
  refine wp_plain _ [0,0,0,0] rfl ?_
  refine q_move (.int .i64 ((k :Nat):Int)) rfl zN ?_
  refine q_move va rfl zN ?_
  refine q_len (v := va) u78 rfl ha.isSl zN ?_
  by_cases hc3 : ((k :Nat):Int) < ((a.length :Nat):Int)
  ·
   refine q_lss true rfl rfl (decide_eq_true hc3) zN ?_
   refine lw_nil ?_
   refine c_cond_t rfl ?_
   refine wp_skip ?_
   refine wp_seq ?_
   refine wp_block ?_
   refine wp_seq ?_
   refine wp_draw _ [0,0,0,1,0,0,0,1,3,0] mixed (by kernel_rfl) ?_
   refine q_move va rfl zN ?_
   refine q_move (.int .i64 ((k :Nat):Int)) rfl zN ?_
   refine q_idx (v := va) k u78 tiS94 rfl rfl ha.isSl rfl (by first | omega | assumption | (simp; done) | (simp; omega)) zN ?_
   obtain ⟨cs4,hr4,hl4⟩ := ha.get (good_rEx da) Ex.zero (k := k) (by first | omega | assumption | (simp; done) | (simp; omega))
   obtain ⟨dd4,ve4,hd4,rfl,hx4⟩ := RX.of hr4
   have hln4 := hx4.rn.lenle
   unfold maxLen at hln4
   refine q_loadA (p := eptr va k 5) (.inl rfl) [(.int .i64 ((a.getD k Ex.zero).kind)),(.int .i64 ((a.getD k Ex.zero).num)),(.int .i64 ((a.getD k Ex.zero).pick)),(.int .i64 ((a.getD k Ex.zero).count)),ve4] agg94 rfl (fun w9 hw9 => hl4 w9 (Chg.of_ext [] (hE2.drew.trans hw9))) rfl zN ?_
   refine q_move vb rfl zN ?_
   refine q_move (.int .i64 ((k :Nat):Int)) rfl zN ?_
   refine q_idx (v := vb) k u78 tiS94 rfl rfl hb.isSl rfl (by first | omega | assumption | (simp; done) | (simp; omega)) zN ?_
   obtain ⟨cs5,hr5,hl5⟩ := hb.get (good_rEx db) Ex.zero (k := k) (by first | omega | assumption | (simp; done) | (simp; omega))
   obtain ⟨dd5,ve5,hd5,rfl,hx5⟩ := RX.of hr5
   have hln5 := hx5.rn.lenle
   unfold maxLen at hln5
   refine q_loadA (p := eptr vb k 5) (.inl rfl) [(.int .i64 ((b.getD k Ex.zero).kind)),(.int .i64 ((b.getD k Ex.zero).num)),(.int .i64 ((b.getD k Ex.zero).pick)),(.int .i64 ((b.getD k Ex.zero).count)),ve5] agg94 rfl (fun w9 hw9 => hl5 w9 (Chg.of_ext [] (hE2.drew.trans hw9))) rfl zN ?_
   refine lw_call 146 [] [] [(.agg #[(.int .i64 ((a.getD k Ex.zero).kind)),(.int .i64 ((a.getD k Ex.zero).num)),(.int .i64 ((a.getD k Ex.zero).pick)),(.int .i64 ((a.getD k Ex.zero).count)),ve4]),(.agg #[(.int .i64 ((b.getD k Ex.zero).kind)),(.int .i64 ((b.getD k Ex.zero).num)),(.int .i64 ((b.getD k Ex.zero).pick)),(.int .i64 ((b.getD k Ex.zero).count)),ve5])] rfl rfl cf146 zN (c_laws_eqExpr _ dd4 ve4 (a.getD k Ex.zero) dd5 ve5 (b.getD k Ex.zero) (hx4.ext hE2.drew) (hx5.ext hE2.drew) (by rw [hab]) (by intro w9 d9 v9 a9 e9 u9 b9 h1 h2 h3 h4; exact ih d9 (by omega) w9 v9 a9 e9 u9 b9 h1 h2 h3)) ?_
   rintro e6 w6 ⟨rfl,hX6⟩
   refine ⟨_,rfl,hX6,?_⟩
   replace hX6 := hX6.of_drew
   have hzs6:=hX6.size
   have hE6:=hE2.trans hX6
   refine q_not false rfl rfl zN ?_
   refine lw_nil ?_
   refine c_cond_f rfl ?_
   refine wp_skip ?_
   refine wp_plain _ [0,0,0] rfl ?_
   refine q_move (.int .i64 ((k :Nat):Int)) rfl zN ?_
   refine q_add ((k + 1 :Nat):Int) rfl rfl (w64n (by omega) (by first | omega | assumption | (simp; done) | (simp; omega))) zN ?_
   refine q_assign (.int .i64 ((k + 1 :Nat):Int)) rfl zN ?_
   refine lw_nil ?_
   exact ⟨(k + 1),_,rfl,⟨rfl,rfl,rfl,trivial⟩,⟨hE6,(by first | omega | assumption | (simp; done) | (simp; omega))⟩,by first | omega | (dsimp only; omega)⟩
  ·
   refine q_lss false rfl rfl (decide_eq_false hc3) zN ?_
   refine lw_nil ?_
   refine c_cond_f rfl ?_
   refine wp_exit ?_
   refine t_exit ?_
   refine t_exit ?_
   refine c_exit_here ?_
   refine wp_seq ?_
   refine wp_plain _ [0] rfl ?_
   refine q_assign (.bool true) rfl zN ?_
   refine lw_nil ?_
   refine wp_ret ?_
   exact post_ret [4] rfl (.bool true) rfl ⟨(by first | exact ret_bool rfl | (exfalso; omega) | (exfalso; simp_all; done)),hE2⟩
theorem strE_self (s : ByteArray) : strE s s = true := by unfold strE; simp
set_option maxHeartbeats 4000000 in
set_option maxRecDepth 100000 in
theorem c_laws_eqFunc (w : World) (da : Nat) (va : Value) (a : Fn) (db : Nat) (vb : Value) (b : Fn) (ha : RF [] da w.heap va a) (hb : RF [] db w.heap vb b) (hab : b = a) :
  Calls Tryz.prog 88 #[(.agg #[(.string a.name),(.int .i64 a.params),va]),(.agg #[(.string b.name),(.int .i64 b.params),vb])] w (fun e w' => e = .returned (.bool true) ∧ Ext w w') := by
 refine calls_mk [(.agg #[(.string a.name),(.int .i64 a.params),va]),(.agg #[(.string b.name),(.int .i64 b.params),vb])] 21 Tryz.func88 rfl rfl (by simp) ?_
 have hE0 : Ext w w := Ext.refl w
 have hl_va := ha.rn.lenle
 unfold maxLen at hl_va
 have hl_vb := hb.rn.lenle
 unfold maxLen at hl_vb
 have hk1 : b.params = a.params := by rw [hab]
 have hk2 : strE a.name b.name = true := by rw [hab]; exact strE_self _
 refine wp_seq ?_
 refine wp_plain _ [3,3,0] rfl ?_
 refine r_boxA (cs := #[(.string a.name),(.int .i64 a.params),va]) rfl zN ?_
 intro w1 hX1 hz1 hB1
 have hzs1:=hX1.size
 have hE1:=hE0.trans hX1
 replace hB1 : BX w1.heap w.heap.size [(.string a.name),(.int .i64 a.params),va] := hB1
 have hq3 := hB1.lt
 refine r_boxA (cs := #[(.string b.name),(.int .i64 b.params),vb]) rfl zN ?_
 intro w2 hX2 hz2 hB2
 have hzs2:=hX2.size
 have hE2:=hE1.trans hX2
 have hB1x2 := hB1.ext hX2
 replace hB2 : BX w2.heap w1.heap.size [(.string b.name),(.int .i64 b.params),vb] := hB2
 refine q_assign (.bool false) rfl zN ?_
 refine lw_nil ?_
 refine wp_seq ?_
 refine wp_seq ?_
 refine wp_plain _ [0,2,0,2,0] rfl ?_
 refine q_fldP (p := (.pointer (some ⟨w.heap.size,0,none⟩))) (b := w.heap.size) (o := 0) 0 fd80_0 rfl rfl zN ?_
 refine q_load (p := (padd (.pointer (some ⟨w.heap.size,0,none⟩)) 0)) (.inr rfl) (.string a.name) one9 rfl (hB1x2.ldp (i := 0) (by simp)) zN ?_
 refine q_fldP (p := (.pointer (some ⟨w1.heap.size,0,none⟩))) (b := w1.heap.size) (o := 0) 0 fd80_0 rfl rfl zN ?_
 refine q_load (p := (padd (.pointer (some ⟨w1.heap.size,0,none⟩)) 0)) (.inr rfl) (.string b.name) one9 rfl (hB2.ldp (i := 0) (by simp)) zN ?_
 cases hc4 : (!strE a.name b.name)
 ·
  refine q_neqs false u9 rfl rfl hc4 zN ?_
  refine lw_nil ?_
  refine c_cond_f rfl ?_
  refine wp_skip ?_
  refine wp_seq ?_
  refine wp_seq ?_
  refine wp_plain _ [0,2,0,2,0] rfl ?_
  refine q_fldP (p := (.pointer (some ⟨w.heap.size,0,none⟩))) (b := w.heap.size) (o := 0) 1 fd80_1 rfl rfl zN ?_
  refine q_load (p := (padd (.pointer (some ⟨w.heap.size,0,none⟩)) 1)) (.inr rfl) (.int .i64 a.params) one2 rfl (hB1x2.ldp (i := 1) (by simp)) zN ?_
  refine q_fldP (p := (.pointer (some ⟨w1.heap.size,0,none⟩))) (b := w1.heap.size) (o := 0) 1 fd80_1 rfl rfl zN ?_
  refine q_load (p := (padd (.pointer (some ⟨w1.heap.size,0,none⟩)) 1)) (.inr rfl) (.int .i64 b.params) one2 rfl (hB2.ldp (i := 1) (by simp)) zN ?_
  by_cases hc5 : a.params ≠ b.params
  ·
   refine q_neq true rfl rfl (decide_eq_true hc5) zN ?_
   refine lw_nil ?_
   refine c_cond_t rfl ?_
   refine wp_seq ?_
   refine wp_plain _ [0] rfl ?_
   refine q_assign (.bool false) rfl zN ?_
   refine lw_nil ?_
   refine wp_ret ?_
   refine t_ret ?_
   exact post_ret [4] rfl (.bool false) rfl ⟨(by first | exact ret_bool rfl | (exfalso; omega) | (exfalso; simp_all; done)),hE2⟩
  ·
   refine q_neq false rfl rfl (decide_eq_false hc5) zN ?_
   refine lw_nil ?_
   refine c_cond_f rfl ?_
   refine wp_skip ?_
   refine wp_seq ?_
   refine wp_seq ?_
   refine wp_plain _ [0,2,0,2,3,0] rfl ?_
   refine q_fldP (p := (.pointer (some ⟨w.heap.size,0,none⟩))) (b := w.heap.size) (o := 0) 2 fd80_2 rfl rfl zN ?_
   refine q_load (p := (padd (.pointer (some ⟨w.heap.size,0,none⟩)) 2)) (.inr rfl) va one78 rfl (hB1x2.ldp (i := 2) (by simp)) zN ?_
   refine q_fldP (p := (.pointer (some ⟨w1.heap.size,0,none⟩))) (b := w1.heap.size) (o := 0) 2 fd80_2 rfl rfl zN ?_
   refine q_load (p := (padd (.pointer (some ⟨w1.heap.size,0,none⟩)) 2)) (.inr rfl) vb one78 rfl (hB2.ldp (i := 2) (by simp)) zN ?_
   refine lw_call 125 [] [] [va,vb] rfl rfl cf125 zN (c_laws_eqExprS _ da va (a.outs) db vb (b.outs) (ha.rn.ext (good_rdS (good_rEx da)) hE2) (hb.rn.ext (good_rdS (good_rEx db)) hE2) (by rw [hab])) ?_
   rintro e6 w6 ⟨rfl,hX6⟩
   refine ⟨_,rfl,hX6,?_⟩
   have hzs6:=hX6.size
   have hE6:=hE2.trans hX6
   have hB1x6 := hB1x2.ext hX6
   have hB2x6 := hB2.ext hX6
   refine q_not false rfl rfl zN ?_
   refine lw_nil ?_
   refine c_cond_f rfl ?_
   refine wp_skip ?_
   refine wp_seq ?_
   refine wp_plain _ [0] rfl ?_
   refine q_assign (.bool true) rfl zN ?_
   refine lw_nil ?_
   refine wp_ret ?_
   exact post_ret [4] rfl (.bool true) rfl ⟨(by first | exact ret_bool rfl | (exfalso; omega) | (exfalso; simp_all; done)),hE6⟩
 ·
  refine q_neqs true u9 rfl rfl hc4 zN ?_
  refine lw_nil ?_
  refine c_cond_t rfl ?_
  refine wp_seq ?_
  refine wp_plain _ [0] rfl ?_
  refine q_assign (.bool false) rfl zN ?_
  refine lw_nil ?_
  refine wp_ret ?_
  refine t_ret ?_
  exact post_ret [4] rfl (.bool false) rfl ⟨(by first | exact ret_bool rfl | (exfalso; omega) | (exfalso; simp_all; done)),hE2⟩
set_option maxHeartbeats 4000000 in
set_option maxRecDepth 100000 in
theorem c_laws_eqFuncS (w : World) (da : Nat) (va : Value) (a : List Fn) (db : Nat) (vb : Value) (b : List Fn) (ha : RP [] da w.heap va a) (hb : RP [] db w.heap vb b) (hab : b = a) :
  Calls Tryz.prog 48 #[va,vb] w (fun e w' => e = .returned (.bool true) ∧ Ext w w') := by
 refine calls_mk [va,vb] 27 Tryz.func48 rfl rfl (by simp) ?_
 have hE0 : Ext w w := Ext.refl w
 have hl_va := ha.lenle
 unfold maxLen at hl_va
 have hl_vb := hb.lenle
 unfold maxLen at hl_vb
 have hk1 : b.length = a.length := by rw [hab]
 refine wp_seq ?_
 refine wp_plain _ [0] rfl ?_
 refine q_assign (.bool false) rfl zN ?_
 refine lw_nil ?_
 refine wp_seq ?_
 refine wp_seq ?_
 refine wp_plain _ [0,0,0,0,0] rfl ?_
 refine q_move va rfl zN ?_
 refine q_len (v := va) u30 rfl ha.isSl zN ?_
 refine q_move vb rfl zN ?_
 refine q_len (v := vb) u30 rfl hb.isSl zN ?_
 by_cases hc1 : ((a.length :Nat):Int) ≠ ((b.length :Nat):Int)
 ·
  refine q_neq true rfl rfl (decide_eq_true hc1) zN ?_
  refine lw_nil ?_
  refine c_cond_t rfl ?_
  refine wp_seq ?_
  refine wp_plain _ [0] rfl ?_
  refine q_assign (.bool false) rfl zN ?_
  refine lw_nil ?_
  refine wp_ret ?_
  refine t_ret ?_
  exact post_ret [4] rfl (.bool false) rfl ⟨(by first | exact ret_bool rfl | (exfalso; omega) | (exfalso; simp_all; done)),hE0⟩
 ·
  refine q_neq false rfl rfl (decide_eq_false hc1) zN ?_
  refine lw_nil ?_
  refine c_cond_f rfl ?_
  refine wp_skip ?_
  refine wp_seq ?_
  refine wp_seq ?_
  refine wp_plain _ [0] rfl ?_
  refine q_assign (.int .i64 ((0 :Nat):Int)) rfl zN ?_
  refine lw_nil ?_
  refine wp_block ?_
  refine c_loop (S := Nat) (fun (k : Nat) => ([(5,(.int .i64 ((k :Nat):Int))),(0,va),(1,vb)] : List (Nat × Value))) (fun (k : Nat) (W : World) => Ext w W ∧ k ≤ a.length) (fun (k : Nat) => a.length - k) 0 ⟨rfl,rfl,rfl,trivial⟩ ⟨hE0,(by first | omega | assumption | (simp; done) | (simp; omega))⟩ ?_
  clear hE0
  rintro k ρ2 w2 ⟨hE2,hp2_0⟩
  have hzs2 : w.heap.size ≤ w2.heap.size := hE2.size
  refine wp_seq ?_
  refine wp_seq ?_
  refine wp_plain _ [0,0,0,0] rfl ?_
  refine q_move (.int .i64 ((k :Nat):Int)) rfl zN ?_
  refine q_move va rfl zN ?_
  refine q_len (v := va) u30 rfl ha.isSl zN ?_
  by_cases hc3 : ((k :Nat):Int) < ((a.length :Nat):Int)
  ·
   refine q_lss true rfl rfl (decide_eq_true hc3) zN ?_
   refine lw_nil ?_
   refine c_cond_t rfl ?_
   refine wp_skip ?_
   refine wp_seq ?_
   refine wp_block ?_
   refine wp_seq ?_
   refine wp_draw _ [0,0,0,1,0,0,0,1,3,0] mixed (by kernel_rfl) ?_
   refine q_move va rfl zN ?_
   refine q_move (.int .i64 ((k :Nat):Int)) rfl zN ?_
   refine q_idx (v := va) k u30 tiS80 rfl rfl ha.isSl rfl (by first | omega | assumption | (simp; done) | (simp; omega)) zN ?_
   obtain ⟨cs4,hr4,hl4⟩ := ha.get (good_rFn da) Fn.zero (k := k) (by first | omega | assumption | (simp; done) | (simp; omega))
   obtain ⟨ve4,rfl,hx4⟩ := RF.of hr4
   have hln4 := hx4.rn.lenle
   unfold maxLen at hln4
   refine q_loadA (p := eptr va k 3) (.inl rfl) [(.string ((a.getD k Fn.zero).name)),(.int .i64 ((a.getD k Fn.zero).params)),ve4] agg80 rfl (fun w9 hw9 => hl4 w9 (Chg.of_ext [] (hE2.drew.trans hw9))) rfl zN ?_
   refine q_move vb rfl zN ?_
   refine q_move (.int .i64 ((k :Nat):Int)) rfl zN ?_
   refine q_idx (v := vb) k u30 tiS80 rfl rfl hb.isSl rfl (by first | omega | assumption | (simp; done) | (simp; omega)) zN ?_
   obtain ⟨cs5,hr5,hl5⟩ := hb.get (good_rFn db) Fn.zero (k := k) (by first | omega | assumption | (simp; done) | (simp; omega))
   obtain ⟨ve5,rfl,hx5⟩ := RF.of hr5
   have hln5 := hx5.rn.lenle
   unfold maxLen at hln5
   refine q_loadA (p := eptr vb k 3) (.inl rfl) [(.string ((b.getD k Fn.zero).name)),(.int .i64 ((b.getD k Fn.zero).params)),ve5] agg80 rfl (fun w9 hw9 => hl5 w9 (Chg.of_ext [] (hE2.drew.trans hw9))) rfl zN ?_
   refine lw_call 88 [] [] [(.agg #[(.string ((a.getD k Fn.zero).name)),(.int .i64 ((a.getD k Fn.zero).params)),ve4]),(.agg #[(.string ((b.getD k Fn.zero).name)),(.int .i64 ((b.getD k Fn.zero).params)),ve5])] rfl rfl cf88 zN (c_laws_eqFunc _ da ve4 (a.getD k Fn.zero) db ve5 (b.getD k Fn.zero) ⟨hx4.rng,(hx4.rn.ext (good_rdS (good_rEx da)) hE2.drew)⟩ ⟨hx5.rng,(hx5.rn.ext (good_rdS (good_rEx db)) hE2.drew)⟩ (by rw [hab])) ?_
   rintro e6 w6 ⟨rfl,hX6⟩
   refine ⟨_,rfl,hX6,?_⟩
   replace hX6 := hX6.of_drew
   have hzs6:=hX6.size
   have hE6:=hE2.trans hX6
   refine q_not false rfl rfl zN ?_
   refine lw_nil ?_
   refine c_cond_f rfl ?_
   refine wp_skip ?_
   refine wp_plain _ [0,0,0] rfl ?_
   refine q_move (.int .i64 ((k :Nat):Int)) rfl zN ?_
   refine q_add ((k + 1 :Nat):Int) rfl rfl (w64n (by omega) (by first | omega | assumption | (simp; done) | (simp; omega))) zN ?_
   refine q_assign (.int .i64 ((k + 1 :Nat):Int)) rfl zN ?_
   refine lw_nil ?_
   exact ⟨(k + 1),_,rfl,⟨rfl,rfl,rfl,trivial⟩,⟨hE6,(by first | omega | assumption | (simp; done) | (simp; omega))⟩,by first | omega | (dsimp only; omega)⟩
  ·
   refine q_lss false rfl rfl (decide_eq_false hc3) zN ?_
   refine lw_nil ?_
   refine c_cond_f rfl ?_
   refine wp_exit ?_
   refine t_exit ?_
   refine t_exit ?_
   refine c_exit_here ?_
   refine wp_seq ?_
   refine wp_plain _ [0] rfl ?_
   refine q_assign (.bool true) rfl zN ?_
   refine lw_nil ?_
   refine wp_ret ?_
   exact post_ret [4] rfl (.bool true) rfl ⟨(by first | exact ret_bool rfl | (exfalso; omega) | (exfalso; simp_all; done)),hE2⟩
set_option maxHeartbeats 4000000 in
set_option maxRecDepth 100000 in
theorem c_laws_eqProgram (w : World) (da : Nat) (va : Value) (a : List Fn) (db : Nat) (vb : Value) (b : List Fn) (ha : RP [] da w.heap va a) (hb : RP [] db w.heap vb b) (hab : b = a) :
  Calls Tryz.prog 15 #[(.agg #[va]),(.agg #[vb])] w (fun e w' => e = .returned (.bool true) ∧ Ext w w') := by
 refine calls_mk [(.agg #[va]),(.agg #[vb])] 11 Tryz.func15 rfl rfl (by simp) ?_
 have hE0 : Ext w w := Ext.refl w
 have hl_va := ha.lenle
 unfold maxLen at hl_va
 have hl_vb := hb.lenle
 unfold maxLen at hl_vb
 refine wp_seq ?_
 refine wp_plain _ [3,3,0] rfl ?_
 refine r_boxA (cs := #[va]) rfl zN ?_
 intro w1 hX1 hz1 hB1
 have hzs1:=hX1.size
 have hE1:=hE0.trans hX1
 replace hB1 : BX w1.heap w.heap.size [va] := hB1
 have hq3 := hB1.lt
 refine r_boxA (cs := #[vb]) rfl zN ?_
 intro w2 hX2 hz2 hB2
 have hzs2:=hX2.size
 have hE2:=hE1.trans hX2
 have hB1x2 := hB1.ext hX2
 replace hB2 : BX w2.heap w1.heap.size [vb] := hB2
 refine q_assign (.bool false) rfl zN ?_
 refine lw_nil ?_
 refine wp_seq ?_
 refine wp_seq ?_
 refine wp_plain _ [0,2,0,2,3,0] rfl ?_
 refine q_fldP (p := (.pointer (some ⟨w.heap.size,0,none⟩))) (b := w.heap.size) (o := 0) 0 fd32_0 rfl rfl zN ?_
 refine q_load (p := (padd (.pointer (some ⟨w.heap.size,0,none⟩)) 0)) (.inr rfl) va one30 rfl (hB1x2.ldp (i := 0) (by simp)) zN ?_
 refine q_fldP (p := (.pointer (some ⟨w1.heap.size,0,none⟩))) (b := w1.heap.size) (o := 0) 0 fd32_0 rfl rfl zN ?_
 refine q_load (p := (padd (.pointer (some ⟨w1.heap.size,0,none⟩)) 0)) (.inr rfl) vb one30 rfl (hB2.ldp (i := 0) (by simp)) zN ?_
 refine lw_call 48 [] [] [va,vb] rfl rfl cf48 zN (c_laws_eqFuncS _ da va (a) db vb (b) (ha.ext (good_rdS (good_rFn da)) hE2) (hb.ext (good_rdS (good_rFn db)) hE2) (by exact hab)) ?_
 rintro e4 w4 ⟨rfl,hX4⟩
 refine ⟨_,rfl,hX4,?_⟩
 have hzs4:=hX4.size
 have hE4:=hE2.trans hX4
 have hB1x4 := hB1x2.ext hX4
 have hB2x4 := hB2.ext hX4
 refine q_not false rfl rfl zN ?_
 refine lw_nil ?_
 refine c_cond_f rfl ?_
 refine wp_skip ?_
 refine wp_seq ?_
 refine wp_plain _ [0] rfl ?_
 refine q_assign (.bool true) rfl zN ?_
 refine lw_nil ?_
 refine wp_ret ?_
 exact post_ret [4] rfl (.bool true) rfl ⟨(by first | exact ret_bool rfl | (exfalso; omega) | (exfalso; simp_all; done)),hE4⟩
end Go.Proofs.YtnofbmdpabcjaaaGreat
namespace Go.Proofs.YtnofbmdpabcjaaaGreat
open Go Go.RowKit
set_option linter.unusedVariables false
set_option linter.unusedSimpArgs false
attribute [local irreducible] LW
def TS (D : Nat) : Prop := ∀ (w : World) (d : Nat) (va : Value) (a : List Ex) (ha : RN [] (rdS 5 (rEx d)) w.heap va a) (hs : Ex.sizes a ≤ 1000000000) (hd : d ≤ D), Calls Tryz.prog 115 #[va] w (fun e w' => ∃ v, e = .returned v ∧ Ext w w' ∧ Fr (owS 5 (oEx 94 d) 94) w.heap.size w'.heap.size w'.heap v a)
set_option maxHeartbeats 4000000 in
set_option maxRecDepth 100000 in
theorem c_laws_toExpr (w : World) (dex : Nat) (ve : Value) (ex : Ex) (hex : RX [] dex w.heap ve ex) (hs : Ex.sizes ex.kids ≤ 1000000000) (IH : TS dex) :
  Calls Tryz.prog 140 #[(.agg #[(.int .i64 ex.kind),(.int .i64 ex.num),(.int .i64 ex.pick),(.int .i64 ex.count),ve])] w (fun e w' => ∃ v,e = .returned (.agg #[.int .i64 ex.kind,.int .i64 ex.num,.int .i64 ex.pick,.int .i64 ex.count,v]) ∧ Ext w w' ∧ Fr (owS 5 (oEx 94 dex) 94) w.heap.size w'.heap.size w'.heap v ex.kids) := by
 refine calls_mk [(.agg #[(.int .i64 ex.kind),(.int .i64 ex.num),(.int .i64 ex.pick),(.int .i64 ex.count),ve])] 21 Tryz.func140 rfl rfl (by simp) ?_
 have hE0 : Ext w w := Ext.refl w
 have hl_ve := hex.rn.lenle
 unfold maxLen at hl_ve
 refine wp_seq ?_
 refine wp_plain _ [3,3] rfl ?_
 refine r_boxA (cs := #[(.int .i64 ex.kind),(.int .i64 ex.num),(.int .i64 ex.pick),(.int .i64 ex.count),ve]) rfl zN ?_
 intro w1 hX1 hz1 hB1
 have hzs1:=hX1.size
 have hE1:=hE0.trans hX1
 replace hB1 : BX w1.heap w.heap.size [(.int .i64 ex.kind),(.int .i64 ex.num),(.int .i64 ex.pick),(.int .i64 ex.count),ve] := hB1
 have hq3 := hB1.lt
 refine r_allocA (z := .agg #[.int .i64 0,.int .i64 0,.int .i64 0,.int .i64 0,.slice none 0 0]) zr94 zN ?_
 intro w2 hX2 hz2 hB2
 have hzs2:=hX2.size
 have hE2:=hE1.trans hX2
 have hB1x2 := hB1.ext hX2
 replace hB2 : BX w2.heap w1.heap.size [(.int .i64 0),(.int .i64 0),(.int .i64 0),(.int .i64 0),(.slice none 0 0)] := hB2
 refine lw_nil ?_
 refine wp_seq ?_
 refine wp_plain _ [3] rfl ?_
 have hq5 := hB1x2.lt
 have hq6 := hB2.lt
 refine r_allocA (z := .agg #[.int .i64 0,.int .i64 0,.int .i64 0,.int .i64 0,.slice none 0 0]) zr94 zN ?_
 intro w4 hX4 hz4 hB4
 have hzs4:=hX4.size
 have hE4:=hE2.trans hX4
 have hB1x4 := hB1x2.ext hX4
 have hB2x4 := hB2.ext hX4
 replace hB4 : BX w4.heap w2.heap.size [(.int .i64 0),(.int .i64 0),(.int .i64 0),(.int .i64 0),(.slice none 0 0)] := hB4
 refine lw_nil ?_
 refine wp_seq ?_
 refine wp_plain _ [0,2,0,4] rfl ?_
 refine q_fldP (p := (.pointer (some ⟨w.heap.size,0,none⟩))) (b := w.heap.size) (o := 0) 0 fd160_0 rfl rfl zN ?_
 refine q_load (p := (padd (.pointer (some ⟨w.heap.size,0,none⟩)) 0)) (.inr rfl) (.int .i64 ex.kind) one2 rfl (hB1x4.ldp (i := 0) (by simp)) zN ?_
 refine q_fldP (p := (.pointer (some ⟨w2.heap.size,0,none⟩))) (b := w2.heap.size) (o := 0) 0 fd94_0 rfl rfl zN ?_
 refine e_setB (k := 0) (w := w4) sz2 rfl rfl ⟨rfl,rfl⟩ hB4 (by simp) zN ?_
 intro w7 hC7 hz7 hB7
 replace hB7 : BX w7.heap w2.heap.size [(.int .i64 ex.kind),(.int .i64 0),(.int .i64 0),(.int .i64 0),(.slice none 0 0)] := hB7
 have hE7 : Ext w w7 := hC7.below hE4 (fun c hc => by have := List.mem_singleton.1 hc; omega) hE4.size
 have hzs7:=hC7.size
 have hF8 := hB1x4.chg hC7 (fun hm => by have := List.mem_singleton.1 hm; omega)
 have hF9 := hB2x4.chg hC7 (fun hm => by have := List.mem_singleton.1 hm; omega)
 refine lw_nil ?_
 refine wp_seq ?_
 refine wp_plain _ [0,2,0,4] rfl ?_
 refine q_fldP (p := (.pointer (some ⟨w.heap.size,0,none⟩))) (b := w.heap.size) (o := 0) 1 fd160_1 rfl rfl zN ?_
 refine q_load (p := (padd (.pointer (some ⟨w.heap.size,0,none⟩)) 1)) (.inr rfl) (.int .i64 ex.num) one2 rfl (hF8.ldp (i := 1) (by simp)) zN ?_
 refine q_fldP (p := (.pointer (some ⟨w2.heap.size,0,none⟩))) (b := w2.heap.size) (o := 0) 1 fd94_1 rfl rfl zN ?_
 refine e_setB (k := 1) (w := w7) sz2 rfl rfl ⟨rfl,rfl⟩ hB7 (by simp) zN ?_
 intro w10 hC10 hz10 hB10
 replace hB10 : BX w10.heap w2.heap.size [(.int .i64 ex.kind),(.int .i64 ex.num),(.int .i64 0),(.int .i64 0),(.slice none 0 0)] := hB10
 have hE10 : Ext w w10 := hC10.below hE7 (fun c hc => by have := List.mem_singleton.1 hc; omega) hE7.size
 have hzs10:=hC10.size
 have hF11 := hF8.chg hC10 (fun hm => by have := List.mem_singleton.1 hm; omega)
 have hF12 := hF9.chg hC10 (fun hm => by have := List.mem_singleton.1 hm; omega)
 refine lw_nil ?_
 refine wp_seq ?_
 refine wp_plain _ [0,2,0,4] rfl ?_
 refine q_fldP (p := (.pointer (some ⟨w.heap.size,0,none⟩))) (b := w.heap.size) (o := 0) 2 fd160_2 rfl rfl zN ?_
 refine q_load (p := (padd (.pointer (some ⟨w.heap.size,0,none⟩)) 2)) (.inr rfl) (.int .i64 ex.pick) one2 rfl (hF11.ldp (i := 2) (by simp)) zN ?_
 refine q_fldP (p := (.pointer (some ⟨w2.heap.size,0,none⟩))) (b := w2.heap.size) (o := 0) 2 fd94_2 rfl rfl zN ?_
 refine e_setB (k := 2) (w := w10) sz2 rfl rfl ⟨rfl,rfl⟩ hB10 (by simp) zN ?_
 intro w13 hC13 hz13 hB13
 replace hB13 : BX w13.heap w2.heap.size [(.int .i64 ex.kind),(.int .i64 ex.num),(.int .i64 ex.pick),(.int .i64 0),(.slice none 0 0)] := hB13
 have hE13 : Ext w w13 := hC13.below hE10 (fun c hc => by have := List.mem_singleton.1 hc; omega) hE10.size
 have hzs13:=hC13.size
 have hF14 := hF11.chg hC13 (fun hm => by have := List.mem_singleton.1 hm; omega)
 have hF15 := hF12.chg hC13 (fun hm => by have := List.mem_singleton.1 hm; omega)
 refine lw_nil ?_
 refine wp_seq ?_
 refine wp_plain _ [0,2,0,4] rfl ?_
 refine q_fldP (p := (.pointer (some ⟨w.heap.size,0,none⟩))) (b := w.heap.size) (o := 0) 3 fd160_3 rfl rfl zN ?_
 refine q_load (p := (padd (.pointer (some ⟨w.heap.size,0,none⟩)) 3)) (.inr rfl) (.int .i64 ex.count) one2 rfl (hF14.ldp (i := 3) (by simp)) zN ?_
 refine q_fldP (p := (.pointer (some ⟨w2.heap.size,0,none⟩))) (b := w2.heap.size) (o := 0) 3 fd94_3 rfl rfl zN ?_
 refine e_setB (k := 3) (w := w13) sz2 rfl rfl ⟨rfl,rfl⟩ hB13 (by simp) zN ?_
 intro w16 hC16 hz16 hB16
 replace hB16 : BX w16.heap w2.heap.size [(.int .i64 ex.kind),(.int .i64 ex.num),(.int .i64 ex.pick),(.int .i64 ex.count),(.slice none 0 0)] := hB16
 have hE16 : Ext w w16 := hC16.below hE13 (fun c hc => by have := List.mem_singleton.1 hc; omega) hE13.size
 have hzs16:=hC16.size
 have hF17 := hF14.chg hC16 (fun hm => by have := List.mem_singleton.1 hm; omega)
 have hF18 := hF15.chg hC16 (fun hm => by have := List.mem_singleton.1 hm; omega)
 refine lw_nil ?_
 refine wp_seq ?_
 refine wp_plain _ [0,2,3,0,4] rfl ?_
 refine q_fldP (p := (.pointer (some ⟨w.heap.size,0,none⟩))) (b := w.heap.size) (o := 0) 4 fd160_4 rfl rfl zN ?_
 refine q_load (p := (padd (.pointer (some ⟨w.heap.size,0,none⟩)) 4)) (.inr rfl) ve one98 rfl (hF17.ldp (i := 4) (by simp)) zN ?_
 refine lw_call 115 [] [] [ve] rfl rfl cf115 zN (IH _ dex ve (ex.kids) (hex.rn.ext (good_rdS (good_rEx dex)) hE16) (by exact hs) (by omega)) ?_
 rintro e19 w19 ⟨v19,rfl,hX19,hO19⟩
 refine ⟨_,rfl,hX19,?_⟩
 have hzs19:=hX19.size
 have hE19:=hE16.trans hX19
 have hF17x19 := hF17.ext hX19
 have hF18x19 := hF18.ext hX19
 have hB16x19 := hB16.ext hX19
 refine q_fldP (p := (.pointer (some ⟨w2.heap.size,0,none⟩))) (b := w2.heap.size) (o := 0) 4 fd94_4 rfl rfl zN ?_
 refine e_setB (k := 4) (w := w19) sz78 rfl rfl (isSl_one hO19.isSlS) hB16x19 (by simp) zN ?_
 intro w20 hC20 hz20 hB20
 replace hB20 : BX w20.heap w2.heap.size [(.int .i64 ex.kind),(.int .i64 ex.num),(.int .i64 ex.pick),(.int .i64 ex.count),v19] := hB20
 have hE20 : Ext w w20 := hC20.below hE19 (fun c hc => by have := List.mem_singleton.1 hc; omega) hE19.size
 have hzs20:=hC20.size
 have hF21 := hF17x19.chg hC20 (fun hm => by have := List.mem_singleton.1 hm; omega)
 have hF22 := hF18x19.chg hC20 (fun hm => by have := List.mem_singleton.1 hm; omega)
 have hF23 := hO19.chg ((good_owS (good_oEx 94 dex))) hC20 (fun c hc => by have := List.mem_singleton.1 hc; omega)
 refine lw_nil ?_
 refine wp_seq ?_
 refine wp_plain _ [2,4] rfl ?_
 refine q_loadA (p := (.pointer (some ⟨w2.heap.size,0,none⟩))) (.inr rfl) [(.int .i64 ex.kind),(.int .i64 ex.num),(.int .i64 ex.pick),(.int .i64 ex.count),v19] agg94 rfl (fun w9 hw9 => LD.of_box (BX.ext (w := w20) hB20 hw9)) rfl zN ?_
 refine e_setA (vs := [(.int .i64 ex.kind),(.int .i64 ex.num),(.int .i64 ex.pick),(.int .i64 ex.count),v19]) agg94 rfl rfl (by intro u hu; simp only [List.mem_cons,List.not_mem_nil,or_false] at hu; rcases hu with rfl | rfl | rfl | rfl | rfl <;> first | exact ⟨rfl,rfl⟩ | exact isSl_one hF23.isSlS) hF22 rfl rfl zN ?_
 intro w24 hC24 hz24 hB24
 replace hB24 : BX w24.heap w1.heap.size [(.int .i64 ex.kind),(.int .i64 ex.num),(.int .i64 ex.pick),(.int .i64 ex.count),v19] := hB24
 have hE24 : Ext w w24 := hC24.below hE20 (fun c hc => by have := List.mem_singleton.1 hc; omega) hE20.size
 have hzs24:=hC24.size
 have hF25 := hF21.chg hC24 (fun hm => by have := List.mem_singleton.1 hm; omega)
 have hF26 := hB20.chg hC24 (fun hm => by have := List.mem_singleton.1 hm; omega)
 have hF27 := hF23.chg ((good_owS (good_oEx 94 dex))) hC24 (fun c hc => by have := List.mem_singleton.1 hc; omega)
 refine lw_nil ?_
 refine wp_ret ?_
 exact post_retA (cs := [(.int .i64 ex.kind),(.int .i64 ex.num),(.int .i64 ex.pick),(.int .i64 ex.count),v19]) rfl agg94 rfl hB24 rfl ⟨v19,rfl,hE24,((hF27.up (good_owS (good_oEx 94 dex))).low (B' := w.heap.size) (by omega))⟩
set_option maxHeartbeats 4000000 in
set_option maxRecDepth 100000 in
theorem c_laws_toExprS (w : World) (da : Nat) (va : Value) (a : List Ex) (ha : RN [] (rdS 5 (rEx da)) w.heap va a) (hs : Ex.sizes a ≤ 1000000000) :
  Calls Tryz.prog 115 #[va] w (fun e w' => ∃ v,e = .returned v ∧ Ext w w' ∧ Fr (owS 5 (oEx 94 da) 94) w.heap.size w'.heap.size w'.heap v a) := by
 induction da using Nat.strongRecOn generalizing w va a
 rename_i da ih
 refine calls_mk [va] 23 Tryz.func115 rfl rfl (by simp) ?_
 have hE0 : Ext w w := Ext.refl w
 have hl_va := ha.lenle
 unfold maxLen at hl_va
 have hge0 := sizes_ge a 0
 refine wp_seq ?_
 refine wp_plain _ [0] rfl ?_
 refine q_assign (.slice none 0 0) rfl zN ?_
 refine lw_nil ?_
 refine wp_seq ?_
 refine wp_plain _ [0,0,3,0] rfl ?_
 refine q_move va rfl zN ?_
 refine q_len (v := va) u98 rfl ha.isSl zN ?_
 refine r_makeS (n := a.length) (zs := exC Ex.zero (.slice none 0 0)) (z0 := Ex.zero) (good_oEx 94 da) u78 tiS94 rfl rfl rfl rfl rfl (by decide) (by omega) (fun h0 H => oEx_zero (RN.exPos ha h0) H) zN ?_
 intro v1 w1 hX1 hz1 hO1
 have hzs1:=hX1.size
 have hE1:=hE0.trans hX1
 refine q_assign v1 rfl zN ?_
 refine lw_nil ?_
 refine wp_seq ?_
 refine wp_seq ?_
 refine wp_plain _ [0] rfl ?_
 refine q_assign (.int .i64 ((0 :Nat):Int)) rfl zN ?_
 refine lw_nil ?_
 refine wp_block ?_
 refine c_loop (S := Nat) (fun (k : Nat) => ([(4,(.int .i64 ((k :Nat):Int))),(0,va),(3,v1)] : List (Nat × Value))) (fun (k : Nat) (W : World) => Ext w W ∧ Fr (owS 5 (oEx 94 da) 94) w.heap.size W.heap.size W.heap v1 (a.take k ++ List.replicate (a.length - k) Ex.zero) ∧ k ≤ a.length) (fun (k : Nat) => a.length - k) 0 ⟨rfl,rfl,rfl,trivial⟩ ⟨hE1,(by simpa using hO1.up (good_owS (good_oEx 94 da))),(by first | omega | assumption | (simp; done) | (simp; omega))⟩ ?_
 clear hE0 hO1 hz1 hX1 hzs1 hE1
 rintro k ρ2 w2 ⟨hE2,hL2_0,hp2_0⟩
 have hzs2 : w.heap.size ≤ w2.heap.size := hE2.size
 have hml : (a.take k ++ List.replicate (a.length - k) Ex.zero).length = a.length := by rw [List.length_append,List.length_take,List.length_replicate]; omega
 refine wp_seq ?_
 refine wp_seq ?_
 refine wp_plain _ [0,0,0,0] rfl ?_
 refine q_move (.int .i64 ((k :Nat):Int)) rfl zN ?_
 refine q_move va rfl zN ?_
 refine q_len (v := va) u98 rfl ha.isSl zN ?_
 by_cases hc3 : ((k :Nat):Int) < ((a.length :Nat):Int)
 ·
  refine q_lss true rfl rfl (decide_eq_true hc3) zN ?_
  refine lw_nil ?_
  refine c_cond_t rfl ?_
  refine wp_skip ?_
  refine wp_seq ?_
  refine wp_block ?_
  refine wp_plain _ [0,0,0,0,0,2,3,0,4] rfl ?_
  have hsa := sizes_at (l := a) (k := k) (by omega)
  have hsk := size_kids (a.getD k Ex.zero)
  refine q_move v1 rfl zN ?_
  refine q_move (.int .i64 ((k :Nat):Int)) rfl zN ?_
  refine q_move va rfl zN ?_
  refine q_move (.int .i64 ((k :Nat):Int)) rfl zN ?_
  refine q_idx (v := va) k u98 tiS160 rfl rfl ha.isSl rfl (by first | omega | assumption | (simp; done) | (simp; omega)) zN ?_
  obtain ⟨cs4,hr4,hl4⟩ := ha.get (good_rEx da) Ex.zero (k := k) (by first | omega | assumption | (simp; done) | (simp; omega))
  obtain ⟨dd4,ve4,hd4,rfl,hx4⟩ := RX.of hr4
  have hln4 := hx4.rn.lenle
  unfold maxLen at hln4
  refine q_loadA (p := eptr va k 5) (.inr rfl) [(.int .i64 ((a.getD k Ex.zero).kind)),(.int .i64 ((a.getD k Ex.zero).num)),(.int .i64 ((a.getD k Ex.zero).pick)),(.int .i64 ((a.getD k Ex.zero).count)),ve4] agg160 rfl (fun w9 hw9 => hl4 w9 (Chg.of_ext [] (hE2.trans hw9))) rfl zN ?_
  refine lw_call 140 [] [] [(.agg #[(.int .i64 ((a.getD k Ex.zero).kind)),(.int .i64 ((a.getD k Ex.zero).num)),(.int .i64 ((a.getD k Ex.zero).pick)),(.int .i64 ((a.getD k Ex.zero).count)),ve4])] rfl rfl cf140 zN (c_laws_toExpr _ dd4 ve4 (a.getD k Ex.zero) (hx4.ext hE2) (by omega) (by intro w9 d9 v9 a9 h1 h2 h3; exact ih d9 (by omega) w9 v9 a9 h1 h2)) ?_
  rintro e5 w5 ⟨v5,rfl,hX5,hO5⟩
  refine ⟨_,rfl,hX5,?_⟩
  have hzs5:=hX5.size
  have hE5:=hE2.trans hX5
  have hL2_0x5 := hL2_0.ext ((good_owS (good_oEx 94 da))) hX5
  refine q_idx (v := v1) k u78 tiS94 rfl rfl hL2_0x5.isSlS rfl (by first | omega | assumption | (simp; done) | (simp; omega)) zN ?_
  refine e_setS (v := v1) (cs := [(.int .i64 ((a.getD k Ex.zero).kind)),(.int .i64 ((a.getD k Ex.zero).num)),(.int .i64 ((a.getD k Ex.zero).pick)),(.int .i64 ((a.getD k Ex.zero).count)),v5]) (n := (a.getD k Ex.zero)) (j := k) (good_oEx 94 da) agg94 rfl rfl hL2_0x5 (oEx_mk (d' := dd4) hd4 hx4.rng hO5) (by omega) (by omega) (by first | omega | assumption | (simp; done) | (simp; omega)) zN ?_
  intro w6 F6 hC6 hz6 hF6 hO6
  have hE6 : Ext w w6 := hC6.below hE5 (fun c hc => Nat.le_trans (Nat.le_refl _) (hF6 c hc).1) hE5.size
  have hzs6:=hC6.size
  refine lw_nil ?_
  refine wp_plain _ [0,0,0] rfl ?_
  refine q_move (.int .i64 ((k :Nat):Int)) rfl zN ?_
  refine q_add ((k + 1 :Nat):Int) rfl rfl (w64n (by omega) (by first | omega | assumption | (simp; done) | (simp; omega))) zN ?_
  refine q_assign (.int .i64 ((k + 1 :Nat):Int)) rfl zN ?_
  refine lw_nil ?_
  exact ⟨(k + 1),_,rfl,⟨rfl,rfl,rfl,trivial⟩,⟨hE6,(by have h := hO6.up (good_owS (good_oEx 94 da)); rwa [set_zero (by omega)] at h),(by first | omega | assumption | (simp; done) | (simp; omega))⟩,by first | omega | (dsimp only; omega)⟩
 ·
  refine q_lss false rfl rfl (decide_eq_false hc3) zN ?_
  refine lw_nil ?_
  refine c_cond_f rfl ?_
  refine wp_exit ?_
  refine t_exit ?_
  refine t_exit ?_
  refine c_exit_here ?_
  refine wp_seq ?_
  refine wp_plain _ [0,0] rfl ?_
  refine q_move v1 rfl zN ?_
  refine q_assign v1 rfl zN ?_
  refine lw_nil ?_
  refine wp_ret ?_
  exact post_ret [2] rfl v1 rfl ⟨v1,rfl,hE2,(by have h := ((hL2_0.up (good_owS (good_oEx 94 da))).low (B' := w.heap.size) (by omega)); rwa [show a.take k ++ List.replicate (a.length - k) Ex.zero = a from by rw [List.take_of_length_le (by omega),show a.length - k = 0 from by omega]; simp] at h)⟩
set_option maxHeartbeats 4000000 in
set_option maxRecDepth 100000 in
theorem c_laws_toFunc (w : World) (dg : Nat) (vf : Value) (g : Fn) (hg : RF [] dg w.heap vf g) (hs : Ex.sizes g.outs ≤ 1000000000) :
  Calls Tryz.prog 82 #[(.agg #[(.string g.name),(.int .i64 g.params),vf])] w (fun e w' => ∃ v,e = .returned (.agg #[.string g.name,.int .i64 g.params,v]) ∧ Ext w w' ∧ Fr (owS 5 (oEx 94 dg) 94) w.heap.size w'.heap.size w'.heap v g.outs) := by
 refine calls_mk [(.agg #[(.string g.name),(.int .i64 g.params),vf])] 15 Tryz.func82 rfl rfl (by simp) ?_
 have hE0 : Ext w w := Ext.refl w
 have hl_vf := hg.rn.lenle
 unfold maxLen at hl_vf
 refine wp_seq ?_
 refine wp_plain _ [3,3] rfl ?_
 refine r_boxA (cs := #[(.string g.name),(.int .i64 g.params),vf]) rfl zN ?_
 intro w1 hX1 hz1 hB1
 have hzs1:=hX1.size
 have hE1:=hE0.trans hX1
 replace hB1 : BX w1.heap w.heap.size [(.string g.name),(.int .i64 g.params),vf] := hB1
 have hq3 := hB1.lt
 refine r_allocA (z := .agg #[.string ByteArray.empty,.int .i64 0,.slice none 0 0]) zr80 zN ?_
 intro w2 hX2 hz2 hB2
 have hzs2:=hX2.size
 have hE2:=hE1.trans hX2
 have hB1x2 := hB1.ext hX2
 replace hB2 : BX w2.heap w1.heap.size [(.string ByteArray.empty),(.int .i64 0),(.slice none 0 0)] := hB2
 refine lw_nil ?_
 refine wp_seq ?_
 refine wp_plain _ [3] rfl ?_
 have hq5 := hB1x2.lt
 have hq6 := hB2.lt
 refine r_allocA (z := .agg #[.string ByteArray.empty,.int .i64 0,.slice none 0 0]) zr80 zN ?_
 intro w4 hX4 hz4 hB4
 have hzs4:=hX4.size
 have hE4:=hE2.trans hX4
 have hB1x4 := hB1x2.ext hX4
 have hB2x4 := hB2.ext hX4
 replace hB4 : BX w4.heap w2.heap.size [(.string ByteArray.empty),(.int .i64 0),(.slice none 0 0)] := hB4
 refine lw_nil ?_
 refine wp_seq ?_
 refine wp_plain _ [0,2,0,4] rfl ?_
 refine q_fldP (p := (.pointer (some ⟨w.heap.size,0,none⟩))) (b := w.heap.size) (o := 0) 0 fd100_0 rfl rfl zN ?_
 refine q_load (p := (padd (.pointer (some ⟨w.heap.size,0,none⟩)) 0)) (.inr rfl) (.string g.name) one9 rfl (hB1x4.ldp (i := 0) (by simp)) zN ?_
 refine q_fldP (p := (.pointer (some ⟨w2.heap.size,0,none⟩))) (b := w2.heap.size) (o := 0) 0 fd80_0 rfl rfl zN ?_
 refine e_setB (k := 0) (w := w4) sz9 rfl rfl ⟨rfl,rfl⟩ hB4 (by simp) zN ?_
 intro w7 hC7 hz7 hB7
 replace hB7 : BX w7.heap w2.heap.size [(.string g.name),(.int .i64 0),(.slice none 0 0)] := hB7
 have hE7 : Ext w w7 := hC7.below hE4 (fun c hc => by have := List.mem_singleton.1 hc; omega) hE4.size
 have hzs7:=hC7.size
 have hF8 := hB1x4.chg hC7 (fun hm => by have := List.mem_singleton.1 hm; omega)
 have hF9 := hB2x4.chg hC7 (fun hm => by have := List.mem_singleton.1 hm; omega)
 refine lw_nil ?_
 refine wp_seq ?_
 refine wp_plain _ [0,2,0,4] rfl ?_
 refine q_fldP (p := (.pointer (some ⟨w.heap.size,0,none⟩))) (b := w.heap.size) (o := 0) 1 fd100_1 rfl rfl zN ?_
 refine q_load (p := (padd (.pointer (some ⟨w.heap.size,0,none⟩)) 1)) (.inr rfl) (.int .i64 g.params) one2 rfl (hF8.ldp (i := 1) (by simp)) zN ?_
 refine q_fldP (p := (.pointer (some ⟨w2.heap.size,0,none⟩))) (b := w2.heap.size) (o := 0) 1 fd80_1 rfl rfl zN ?_
 refine e_setB (k := 1) (w := w7) sz2 rfl rfl ⟨rfl,rfl⟩ hB7 (by simp) zN ?_
 intro w10 hC10 hz10 hB10
 replace hB10 : BX w10.heap w2.heap.size [(.string g.name),(.int .i64 g.params),(.slice none 0 0)] := hB10
 have hE10 : Ext w w10 := hC10.below hE7 (fun c hc => by have := List.mem_singleton.1 hc; omega) hE7.size
 have hzs10:=hC10.size
 have hF11 := hF8.chg hC10 (fun hm => by have := List.mem_singleton.1 hm; omega)
 have hF12 := hF9.chg hC10 (fun hm => by have := List.mem_singleton.1 hm; omega)
 refine lw_nil ?_
 refine wp_seq ?_
 refine wp_plain _ [0,2,3,0,4] rfl ?_
 refine q_fldP (p := (.pointer (some ⟨w.heap.size,0,none⟩))) (b := w.heap.size) (o := 0) 2 fd100_2 rfl rfl zN ?_
 refine q_load (p := (padd (.pointer (some ⟨w.heap.size,0,none⟩)) 2)) (.inr rfl) vf one98 rfl (hF11.ldp (i := 2) (by simp)) zN ?_
 refine lw_call 115 [] [] [vf] rfl rfl cf115 zN (c_laws_toExprS _ dg vf (g.outs) (hg.rn.ext (good_rdS (good_rEx dg)) hE10) (by exact hs)) ?_
 rintro e13 w13 ⟨v13,rfl,hX13,hO13⟩
 refine ⟨_,rfl,hX13,?_⟩
 have hzs13:=hX13.size
 have hE13:=hE10.trans hX13
 have hF11x13 := hF11.ext hX13
 have hF12x13 := hF12.ext hX13
 have hB10x13 := hB10.ext hX13
 refine q_fldP (p := (.pointer (some ⟨w2.heap.size,0,none⟩))) (b := w2.heap.size) (o := 0) 2 fd80_2 rfl rfl zN ?_
 refine e_setB (k := 2) (w := w13) sz78 rfl rfl (isSl_one hO13.isSlS) hB10x13 (by simp) zN ?_
 intro w14 hC14 hz14 hB14
 replace hB14 : BX w14.heap w2.heap.size [(.string g.name),(.int .i64 g.params),v13] := hB14
 have hE14 : Ext w w14 := hC14.below hE13 (fun c hc => by have := List.mem_singleton.1 hc; omega) hE13.size
 have hzs14:=hC14.size
 have hF15 := hF11x13.chg hC14 (fun hm => by have := List.mem_singleton.1 hm; omega)
 have hF16 := hF12x13.chg hC14 (fun hm => by have := List.mem_singleton.1 hm; omega)
 have hF17 := hO13.chg ((good_owS (good_oEx 94 dg))) hC14 (fun c hc => by have := List.mem_singleton.1 hc; omega)
 refine lw_nil ?_
 refine wp_seq ?_
 refine wp_plain _ [2,4] rfl ?_
 refine q_loadA (p := (.pointer (some ⟨w2.heap.size,0,none⟩))) (.inr rfl) [(.string g.name),(.int .i64 g.params),v13] agg80 rfl (fun w9 hw9 => LD.of_box (BX.ext (w := w14) hB14 hw9)) rfl zN ?_
 refine e_setA (vs := [(.string g.name),(.int .i64 g.params),v13]) agg80 rfl rfl (by intro u hu; simp only [List.mem_cons,List.not_mem_nil,or_false] at hu; rcases hu with rfl | rfl | rfl <;> first | exact ⟨rfl,rfl⟩ | exact isSl_one hF17.isSlS) hF16 rfl rfl zN ?_
 intro w18 hC18 hz18 hB18
 replace hB18 : BX w18.heap w1.heap.size [(.string g.name),(.int .i64 g.params),v13] := hB18
 have hE18 : Ext w w18 := hC18.below hE14 (fun c hc => by have := List.mem_singleton.1 hc; omega) hE14.size
 have hzs18:=hC18.size
 have hF19 := hF15.chg hC18 (fun hm => by have := List.mem_singleton.1 hm; omega)
 have hF20 := hB14.chg hC18 (fun hm => by have := List.mem_singleton.1 hm; omega)
 have hF21 := hF17.chg ((good_owS (good_oEx 94 dg))) hC18 (fun c hc => by have := List.mem_singleton.1 hc; omega)
 refine lw_nil ?_
 refine wp_ret ?_
 exact post_retA (cs := [(.string g.name),(.int .i64 g.params),v13]) rfl agg80 rfl hB18 rfl ⟨v13,rfl,hE18,((hF21.up (good_owS (good_oEx 94 dg))).low (B' := w.heap.size) (by omega))⟩
set_option maxHeartbeats 4000000 in
set_option maxRecDepth 100000 in
theorem c_laws_toFuncS (w : World) (da : Nat) (va : Value) (a : List Fn) (ha : RP [] da w.heap va a) (hs : szP a ≤ 1000000000) :
  Calls Tryz.prog 44 #[va] w (fun e w' => ∃ v,e = .returned v ∧ Ext w w' ∧ Fr (owS 3 (oFn 94 da) 80) w.heap.size w'.heap.size w'.heap v a) := by
 refine calls_mk [va] 23 Tryz.func44 rfl rfl (by simp) ?_
 have hE0 : Ext w w := Ext.refl w
 have hl_va := ha.lenle
 unfold maxLen at hl_va
 have hsz : szP a = a.length + Fn.szs a := rfl
 refine wp_seq ?_
 refine wp_plain _ [0] rfl ?_
 refine q_assign (.slice none 0 0) rfl zN ?_
 refine lw_nil ?_
 refine wp_seq ?_
 refine wp_plain _ [0,0,3,0] rfl ?_
 refine q_move va rfl zN ?_
 refine q_len (v := va) u22 rfl ha.isSl zN ?_
 refine r_makeS (n := a.length) (zs := fnC Fn.zero (.slice none 0 0)) (z0 := Fn.zero) (good_oFn 94 da) u30 tiS80 rfl rfl rfl rfl rfl (by decide) (by omega) (fun _ H => oFn_zero H) zN ?_
 intro v1 w1 hX1 hz1 hO1
 have hzs1:=hX1.size
 have hE1:=hE0.trans hX1
 refine q_assign v1 rfl zN ?_
 refine lw_nil ?_
 refine wp_seq ?_
 refine wp_seq ?_
 refine wp_plain _ [0] rfl ?_
 refine q_assign (.int .i64 ((0 :Nat):Int)) rfl zN ?_
 refine lw_nil ?_
 refine wp_block ?_
 refine c_loop (S := Nat) (fun (k : Nat) => ([(4,(.int .i64 ((k :Nat):Int))),(0,va),(3,v1)] : List (Nat × Value))) (fun (k : Nat) (W : World) => Ext w W ∧ Fr (owS 3 (oFn 94 da) 80) w.heap.size W.heap.size W.heap v1 (a.take k ++ List.replicate (a.length - k) Fn.zero) ∧ k ≤ a.length) (fun (k : Nat) => a.length - k) 0 ⟨rfl,rfl,rfl,trivial⟩ ⟨hE1,(by simpa using hO1.up (good_owS (good_oFn 94 da))),(by first | omega | assumption | (simp; done) | (simp; omega))⟩ ?_
 clear hE0 hO1 hz1 hX1 hzs1 hE1
 rintro k ρ2 w2 ⟨hE2,hL2_0,hp2_0⟩
 have hzs2 : w.heap.size ≤ w2.heap.size := hE2.size
 have hml : (a.take k ++ List.replicate (a.length - k) Fn.zero).length = a.length := by rw [List.length_append,List.length_take,List.length_replicate]; omega
 refine wp_seq ?_
 refine wp_seq ?_
 refine wp_plain _ [0,0,0,0] rfl ?_
 refine q_move (.int .i64 ((k :Nat):Int)) rfl zN ?_
 refine q_move va rfl zN ?_
 refine q_len (v := va) u22 rfl ha.isSl zN ?_
 by_cases hc3 : ((k :Nat):Int) < ((a.length :Nat):Int)
 ·
  refine q_lss true rfl rfl (decide_eq_true hc3) zN ?_
  refine lw_nil ?_
  refine c_cond_t rfl ?_
  refine wp_skip ?_
  refine wp_seq ?_
  refine wp_block ?_
  refine wp_plain _ [0,0,0,0,0,2,3,0,4] rfl ?_
  have hsa := szs_at (l := a) (k := k) (by omega)
  have hsk : (a.getD k Fn.zero).sz = (a.getD k Fn.zero).name.size + Ex.sizes (a.getD k Fn.zero).outs := rfl
  refine q_move v1 rfl zN ?_
  refine q_move (.int .i64 ((k :Nat):Int)) rfl zN ?_
  refine q_move va rfl zN ?_
  refine q_move (.int .i64 ((k :Nat):Int)) rfl zN ?_
  refine q_idx (v := va) k u22 tiS100 rfl rfl ha.isSl rfl (by first | omega | assumption | (simp; done) | (simp; omega)) zN ?_
  obtain ⟨cs4,hr4,hl4⟩ := ha.get (good_rFn da) Fn.zero (k := k) (by first | omega | assumption | (simp; done) | (simp; omega))
  obtain ⟨ve4,rfl,hx4⟩ := RF.of hr4
  have hln4 := hx4.rn.lenle
  unfold maxLen at hln4
  refine q_loadA (p := eptr va k 3) (.inr rfl) [(.string ((a.getD k Fn.zero).name)),(.int .i64 ((a.getD k Fn.zero).params)),ve4] agg100 rfl (fun w9 hw9 => hl4 w9 (Chg.of_ext [] (hE2.trans hw9))) rfl zN ?_
  refine lw_call 82 [] [] [(.agg #[(.string ((a.getD k Fn.zero).name)),(.int .i64 ((a.getD k Fn.zero).params)),ve4])] rfl rfl cf82 zN (c_laws_toFunc _ da ve4 (a.getD k Fn.zero) ⟨hx4.rng,(hx4.rn.ext (good_rdS (good_rEx da)) hE2)⟩ (by omega)) ?_
  rintro e5 w5 ⟨v5,rfl,hX5,hO5⟩
  refine ⟨_,rfl,hX5,?_⟩
  have hzs5:=hX5.size
  have hE5:=hE2.trans hX5
  have hL2_0x5 := hL2_0.ext ((good_owS (good_oFn 94 da))) hX5
  refine q_idx (v := v1) k u30 tiS80 rfl rfl hL2_0x5.isSlS rfl (by first | omega | assumption | (simp; done) | (simp; omega)) zN ?_
  refine e_setS (v := v1) (cs := [(.string ((a.getD k Fn.zero).name)),(.int .i64 ((a.getD k Fn.zero).params)),v5]) (n := (a.getD k Fn.zero)) (j := k) (good_oFn 94 da) agg80 rfl rfl hL2_0x5 (oFn_mk hx4.rng hO5) (by omega) (by omega) (by first | omega | assumption | (simp; done) | (simp; omega)) zN ?_
  intro w6 F6 hC6 hz6 hF6 hO6
  have hE6 : Ext w w6 := hC6.below hE5 (fun c hc => Nat.le_trans (Nat.le_refl _) (hF6 c hc).1) hE5.size
  have hzs6:=hC6.size
  refine lw_nil ?_
  refine wp_plain _ [0,0,0] rfl ?_
  refine q_move (.int .i64 ((k :Nat):Int)) rfl zN ?_
  refine q_add ((k + 1 :Nat):Int) rfl rfl (w64n (by omega) (by first | omega | assumption | (simp; done) | (simp; omega))) zN ?_
  refine q_assign (.int .i64 ((k + 1 :Nat):Int)) rfl zN ?_
  refine lw_nil ?_
  exact ⟨(k + 1),_,rfl,⟨rfl,rfl,rfl,trivial⟩,⟨hE6,(by have h := hO6.up (good_owS (good_oFn 94 da)); rwa [set_zero (by omega)] at h),(by first | omega | assumption | (simp; done) | (simp; omega))⟩,by first | omega | (dsimp only; omega)⟩
 ·
  refine q_lss false rfl rfl (decide_eq_false hc3) zN ?_
  refine lw_nil ?_
  refine c_cond_f rfl ?_
  refine wp_exit ?_
  refine t_exit ?_
  refine t_exit ?_
  refine c_exit_here ?_
  refine wp_seq ?_
  refine wp_plain _ [0,0] rfl ?_
  refine q_move v1 rfl zN ?_
  refine q_assign v1 rfl zN ?_
  refine lw_nil ?_
  refine wp_ret ?_
  exact post_ret [2] rfl v1 rfl ⟨v1,rfl,hE2,(by have h := ((hL2_0.up (good_owS (good_oFn 94 da))).low (B' := w.heap.size) (by omega)); rwa [show a.take k ++ List.replicate (a.length - k) Fn.zero = a from by rw [List.take_of_length_le (by omega),show a.length - k = 0 from by omega]; simp] at h)⟩
set_option maxHeartbeats 4000000 in
set_option maxRecDepth 100000 in
theorem c_laws_toProgram (w : World) (dp : Nat) (vp : Value) (p : List Fn) (hp : RP [] dp w.heap vp p) (hs : szP p ≤ 1000000000) :
  Calls Tryz.prog 11 #[(.agg #[vp])] w (fun e w' => ∃ v,e = .returned (.agg #[v]) ∧ Ext w w' ∧ Fr (owS 3 (oFn 94 dp) 80) w.heap.size w'.heap.size w'.heap v p) := by
 refine calls_mk [(.agg #[vp])] 9 Tryz.func11 rfl rfl (by simp) ?_
 have hE0 : Ext w w := Ext.refl w
 have hl_vp := hp.lenle
 unfold maxLen at hl_vp
 refine wp_seq ?_
 refine wp_plain _ [3,3] rfl ?_
 refine r_boxA (cs := #[vp]) rfl zN ?_
 intro w1 hX1 hz1 hB1
 have hzs1:=hX1.size
 have hE1:=hE0.trans hX1
 replace hB1 : BX w1.heap w.heap.size [vp] := hB1
 have hq3 := hB1.lt
 refine r_allocA (z := .agg #[.slice none 0 0]) zr32 zN ?_
 intro w2 hX2 hz2 hB2
 have hzs2:=hX2.size
 have hE2:=hE1.trans hX2
 have hB1x2 := hB1.ext hX2
 replace hB2 : BX w2.heap w1.heap.size [(.slice none 0 0)] := hB2
 refine lw_nil ?_
 refine wp_seq ?_
 refine wp_plain _ [3] rfl ?_
 have hq5 := hB1x2.lt
 have hq6 := hB2.lt
 refine r_allocA (z := .agg #[.slice none 0 0]) zr32 zN ?_
 intro w4 hX4 hz4 hB4
 have hzs4:=hX4.size
 have hE4:=hE2.trans hX4
 have hB1x4 := hB1x2.ext hX4
 have hB2x4 := hB2.ext hX4
 replace hB4 : BX w4.heap w2.heap.size [(.slice none 0 0)] := hB4
 refine lw_nil ?_
 refine wp_seq ?_
 refine wp_plain _ [0,2,3,0,4] rfl ?_
 refine q_fldP (p := (.pointer (some ⟨w.heap.size,0,none⟩))) (b := w.heap.size) (o := 0) 0 fd24_0 rfl rfl zN ?_
 refine q_load (p := (padd (.pointer (some ⟨w.heap.size,0,none⟩)) 0)) (.inr rfl) vp one22 rfl (hB1x4.ldp (i := 0) (by simp)) zN ?_
 refine lw_call 44 [] [] [vp] rfl rfl cf44 zN (c_laws_toFuncS _ dp vp (p) (hp.ext (good_rdS (good_rFn dp)) hE4) (by exact hs)) ?_
 rintro e7 w7 ⟨v7,rfl,hX7,hO7⟩
 refine ⟨_,rfl,hX7,?_⟩
 have hzs7:=hX7.size
 have hE7:=hE4.trans hX7
 have hB1x7 := hB1x4.ext hX7
 have hB2x7 := hB2x4.ext hX7
 have hB4x7 := hB4.ext hX7
 refine q_fldP (p := (.pointer (some ⟨w2.heap.size,0,none⟩))) (b := w2.heap.size) (o := 0) 0 fd32_0 rfl rfl zN ?_
 refine e_setB (k := 0) (w := w7) sz30 rfl rfl (isSl_one hO7.isSlS) hB4x7 (by simp) zN ?_
 intro w8 hC8 hz8 hB8
 replace hB8 : BX w8.heap w2.heap.size [v7] := hB8
 have hE8 : Ext w w8 := hC8.below hE7 (fun c hc => by have := List.mem_singleton.1 hc; omega) hE7.size
 have hzs8:=hC8.size
 have hF9 := hB1x7.chg hC8 (fun hm => by have := List.mem_singleton.1 hm; omega)
 have hF10 := hB2x7.chg hC8 (fun hm => by have := List.mem_singleton.1 hm; omega)
 have hF11 := hO7.chg ((good_owS (good_oFn 94 dp))) hC8 (fun c hc => by have := List.mem_singleton.1 hc; omega)
 refine lw_nil ?_
 refine wp_seq ?_
 refine wp_plain _ [2,4] rfl ?_
 refine q_loadA (p := (.pointer (some ⟨w2.heap.size,0,none⟩))) (.inr rfl) [v7] agg32 rfl (fun w9 hw9 => LD.of_box (BX.ext (w := w8) hB8 hw9)) rfl zN ?_
 refine e_setA (vs := [v7]) agg32 rfl rfl (by intro u hu; simp only [List.mem_cons,List.not_mem_nil,or_false] at hu; rcases hu with rfl <;> first | exact ⟨rfl,rfl⟩ | exact isSl_one hF11.isSlS) hF10 rfl rfl zN ?_
 intro w12 hC12 hz12 hB12
 replace hB12 : BX w12.heap w1.heap.size [v7] := hB12
 have hE12 : Ext w w12 := hC12.below hE8 (fun c hc => by have := List.mem_singleton.1 hc; omega) hE8.size
 have hzs12:=hC12.size
 have hF13 := hF9.chg hC12 (fun hm => by have := List.mem_singleton.1 hm; omega)
 have hF14 := hB8.chg hC12 (fun hm => by have := List.mem_singleton.1 hm; omega)
 have hF15 := hF11.chg ((good_owS (good_oFn 94 dp))) hC12 (fun c hc => by have := List.mem_singleton.1 hc; omega)
 refine lw_nil ?_
 refine wp_ret ?_
 exact post_retA (cs := [v7]) rfl agg32 rfl hB12 rfl ⟨v7,rfl,hE12,((hF15.up (good_owS (good_oFn 94 dp))).low (B' := w.heap.size) (by omega))⟩
set_option maxHeartbeats 4000000 in
set_option maxRecDepth 100000 in
theorem c_laws_markText (w : World) (k : Int) (_hk : -9223372036854775808 ≤ k ∧ k ≤ 9223372036854775807) (hk : 0 ≤ k ∧ k ≤ 4000000000) :
  Calls Tryz.prog 89 #[.int .i64 k] w (fun e w' => ∃ s,e = .returned (.string s) ∧ Ext w w') := by
 refine calls_mk [.int .i64 k] 20 Tryz.func89 rfl rfl (by simp) ?_
 have hE0 : Ext w w := Ext.refl w
 refine wp_seq ?_
 refine wp_plain _ [0] rfl ?_
 refine q_assign (.string (⟨#[]⟩)) rfl zN ?_
 refine lw_nil ?_
 refine wp_seq ?_
 refine wp_seq ?_
 refine wp_plain _ [0,0] rfl ?_
 refine q_move (.int .i64 k) rfl zN ?_
 by_cases hc1 : k ≤ ((0 :Nat):Int)
 ·
  refine q_leq true rfl rfl (decide_eq_true hc1) zN ?_
  refine lw_nil ?_
  refine c_cond_t rfl ?_
  refine wp_seq ?_
  refine wp_plain _ [0] rfl ?_
  refine q_assign (.string (⟨#[109,48]⟩)) rfl zN ?_
  refine lw_nil ?_
  refine wp_ret ?_
  refine t_ret ?_
  exact post_ret [2] rfl (.string (⟨#[109,48]⟩)) rfl ⟨⟨#[109,48]⟩,rfl,hE0⟩
 ·
  refine q_leq false rfl rfl (decide_eq_false hc1) zN ?_
  refine lw_nil ?_
  refine c_cond_f rfl ?_
  refine wp_skip ?_
  refine wp_seq ?_
  refine wp_plain _ [0] rfl ?_
  refine q_assign (.string (⟨#[]⟩)) rfl zN ?_
  refine lw_nil ?_
  refine wp_seq ?_
  refine wp_block ?_
  refine c_loop (S := Int × ByteArray) (fun (⟨l,s⟩ : Int × ByteArray) => ([(0,(.int .i64 l)),(3,(.string s))] : List (Nat × Value))) (fun (⟨l,s⟩ : Int × ByteArray) (W : World) => Ext w W ∧ (0 ≤ l ∧ l + (s.size : Int) ≤ k)) (fun (⟨l,s⟩ : Int × ByteArray) => l.toNat) (k,(⟨#[]⟩)) ⟨rfl,rfl,trivial⟩ ⟨hE0,(by exact ⟨by omega,by show k + ((0 :Nat):Int) ≤ k; omega⟩)⟩ ?_
  clear hE0
  rintro ⟨l,s⟩ ρ2 w2 ⟨hE2,hp2_0⟩
  have hzs2 : w.heap.size ≤ w2.heap.size := hE2.size
  refine wp_seq ?_
  refine wp_seq ?_
  refine wp_plain _ [0,0] rfl ?_
  refine q_move (.int .i64 l) rfl zN ?_
  by_cases hc3 : ((0 :Nat):Int) < l
  ·
   refine q_gtr true rfl rfl (decide_eq_true hc3) zN ?_
   refine lw_nil ?_
   refine c_cond_t rfl ?_
   refine wp_skip ?_
   refine wp_block ?_
   refine wp_seq ?_
   refine wp_plain _ [0,0,0,0,3,2,0,0,0] rfl ?_
   have htm : 0 ≤ l.tmod ((10 :Nat):Int) ∧ l.tmod ((10 :Nat):Int) < 10 := ⟨Int.tmod_nonneg _ (by omega),Int.tmod_lt_of_pos _ (by omega)⟩
   refine q_move (.int .i64 l) rfl zN ?_
   refine q_rem (l.tmod ((10 :Nat):Int)) rfl rfl (by decide) rfl zN ?_
   refine q_add (((48 :Nat):Int) + l.tmod ((10 :Nat):Int)) rfl rfl (w64 (by omega) (by omega)) zN ?_
   refine q_conv (IntKind.u8.wrap (((48 :Nat):Int) + l.tmod ((10 :Nat):Int))) u3 u5 rfl rfl zN ?_
   refine r_one (u := (.int .u8 (IntKind.u8.wrap (((48 :Nat):Int) + l.tmod ((10 :Nat):Int))))) (B := w2.heap.size) good_rV u50 ti5 rfl rfl (frV (w2.heap.size) (w2.heap.size) _ ⟨rfl,rfl⟩) (Nat.le_refl _) zN ?_
   intro v4 w4 hX4 hz4 hO4
   have hzs4:=hX4.size
   have hE4:=hE2.trans hX4
   refine q_byte u50 u5 u9 rfl hO4 zN ?_
   intro sb5 hsb5
   refine q_move (.string s) rfl zN ?_
   refine q_adds (a := sb5) (b := s) rfl rfl (by omega) zN ?_
   refine q_assign (.string (sb5 ++ s)) rfl zN ?_
   refine lw_nil ?_
   refine wp_plain _ [0,0,0] rfl ?_
   refine q_move (.int .i64 l) rfl zN ?_
   refine q_quo (l / 10) rfl rfl (by decide) (by rw [Int.tdiv_eq_ediv_of_nonneg (by omega),w64 (by omega) (by omega)]) zN ?_
   refine q_assign (.int .i64 (l / 10)) rfl zN ?_
   refine lw_nil ?_
   exact ⟨((l / 10),(sb5 ++ s)),_,rfl,⟨rfl,rfl,trivial⟩,⟨hE4,(by rw [ByteArray.size_append]; omega)⟩,by first | omega | (dsimp only; omega)⟩
  ·
   refine q_gtr false rfl rfl (decide_eq_false hc3) zN ?_
   refine lw_nil ?_
   refine c_cond_f rfl ?_
   refine wp_exit ?_
   refine t_exit ?_
   refine t_exit ?_
   refine c_exit_here ?_
   refine wp_seq ?_
   refine wp_plain _ [0,0,0] rfl ?_
   refine q_move (.string s) rfl zN ?_
   refine q_adds (a := ⟨#[109]⟩) (b := s) rfl rfl (by show 1 + s.size ≤ 9223372036854775807; omega) zN ?_
   refine q_assign (.string (⟨#[109]⟩ ++ s)) rfl zN ?_
   refine lw_nil ?_
   refine wp_ret ?_
   exact post_ret [2] rfl (.string (⟨#[109]⟩ ++ s)) rfl ⟨(⟨#[109]⟩ ++ s),rfl,hE2⟩
set_option maxHeartbeats 4000000 in
set_option maxRecDepth 100000 in
theorem c_laws_markExprS (w : World) (da : Nat) (va : Value) (a : List Ex) (Fa : List Nat) (k : Int) (ha : owS 5 (hEx 94 da) 94 w.heap va a Fa) (hna : Fa.Nodup) (_hk : -9223372036854775808 ≤ k ∧ k ≤ 9223372036854775807) (hk : 0 ≤ k ∧ k + 4 * ((Ex.sizes a :Nat):Int) ≤ 4000000000) :
  Calls Tryz.prog 90 #[va,.int .i64 k] w (fun e w' => ∃ k' : Int,e = .returned (.int .i64 k') ∧ Chg Fa w w' ∧ owS 5 (hEx 94 da) 94 w'.heap va a Fa ∧ (k ≤ k' ∧ k' ≤ k + 4 * ((Ex.sizes a :Nat):Int))) := by
 induction da using Nat.strongRecOn generalizing w va a Fa k
 rename_i da ih
 refine calls_mk [va,.int .i64 k] 48 Tryz.func90 rfl rfl (by simp) ?_
 have hE0 : Chg Fa w w := Chg.refl Fa w
 have hl_va := ha.lenle
 unfold maxLen at hl_va
 have hge0 := sizes_ge a 0
 have hs0 : a.length ≤ Ex.sizes a := by omega
 refine wp_seq ?_
 refine wp_plain _ [0] rfl ?_
 refine q_assign (.int .i64 ((0 :Nat):Int)) rfl zN ?_
 refine lw_nil ?_
 refine wp_seq ?_
 refine wp_seq ?_
 refine wp_plain _ [0] rfl ?_
 refine q_assign (.int .i64 ((0 :Nat):Int)) rfl zN ?_
 refine lw_nil ?_
 refine wp_block ?_
 refine c_loop (S := Nat × Int) (fun (⟨j,l⟩ : Nat × Int) => ([(1,(.int .i64 l)),(5,(.int .i64 ((j :Nat):Int))),(0,va)] : List (Nat × Value))) (fun (⟨j,l⟩ : Nat × Int) (W : World) => Chg Fa w W ∧ j ≤ a.length ∧ owS 5 (hEx 94 da) 94 W.heap va a Fa ∧ (k ≤ l ∧ l ≤ k + 4 * ((Ex.sizes (a.take j) :Nat):Int))) (fun (⟨j,l⟩ : Nat × Int) => a.length - j) (0,k) ⟨rfl,rfl,rfl,trivial⟩ ⟨hE0,(by omega),(by assumption),(by rw [List.take_zero,sizes_nil]; omega)⟩ ?_
 clear hE0
 rintro ⟨j,l⟩ ρ1 w1 ⟨hE1,hp1_0,hsh,hlk⟩
 have hzs1 : w.heap.size ≤ w1.heap.size := hE1.size
 refine wp_seq ?_
 refine wp_seq ?_
 refine wp_plain _ [0,0,0,0] rfl ?_
 refine q_move (.int .i64 ((j :Nat):Int)) rfl zN ?_
 refine q_move va rfl zN ?_
 refine q_len (v := va) u78 rfl hsh.isSl zN ?_
 by_cases hc2 : ((j :Nat):Int) < ((a.length :Nat):Int)
 ·
  refine q_lss true rfl rfl (decide_eq_true hc2) zN ?_
  refine lw_nil ?_
  refine c_cond_t rfl ?_
  refine wp_skip ?_
  refine wp_seq ?_
  refine wp_block ?_
  refine wp_seq ?_
  refine wp_plain _ [0,0,0,0,0,4] rfl ?_
  have hst := sizes_step (l := a) (k := j) (by omega)
  have hle := sizes_take a (j + 1)
  have hsk := size_kids (a.getD j Ex.zero)
  refine q_move va rfl zN ?_
  refine q_move (.int .i64 ((j :Nat):Int)) rfl zN ?_
  refine q_move (.int .i64 l) rfl zN ?_
  refine q_idx (v := va) j u78 tiS94 rfl rfl hsh.isSl rfl (by first | omega | assumption | (simp; done) | (simp; omega)) zN ?_
  obtain ⟨gb3,ob3,hpb3⟩ := hsh.isPtr (k := j) (by first | omega | assumption | (simp; done) | (simp; omega))
  refine q_fldP (p := eptr va j 5) (b := gb3) (o := ob3) 0 fd94_0 rfl hpb3 zN ?_
  refine e_setC (v := va) (k := j) (c := 0) (good_hEx 94 da) sz2 rfl rfl ⟨rfl,rfl⟩ hsh hna (by first | omega | assumption | (simp; done) | (simp; omega)) (by decide) (fun h => hEx_set (by decide) h) zN ?_
  intro w4 hC4 hz4 hH4
  have hE4 : Chg Fa w w4 := hE1.trans hC4
  have hzs4:=hC4.size
  refine lw_nil ?_
  refine wp_seq ?_
  refine wp_plain _ [0,0,0] rfl ?_
  refine q_move (.int .i64 l) rfl zN ?_
  refine q_add (l + 1) rfl rfl (by first | exact w64 (by omega) (by omega) | (rw [w64 (by omega) (by omega)]; omega)) zN ?_
  refine q_assign (.int .i64 (l + 1)) rfl zN ?_
  refine lw_nil ?_
  refine wp_seq ?_
  refine wp_plain _ [0,0,0,0,0,4] rfl ?_
  refine q_move va rfl zN ?_
  refine q_move (.int .i64 ((j :Nat):Int)) rfl zN ?_
  refine q_move (.int .i64 (l + 1)) rfl zN ?_
  refine q_idx (v := va) j u78 tiS94 rfl rfl hH4.isSl rfl (by first | omega | assumption | (simp; done) | (simp; omega)) zN ?_
  obtain ⟨gb5,ob5,hpb5⟩ := hH4.isPtr (k := j) (by first | omega | assumption | (simp; done) | (simp; omega))
  refine q_fldP (p := eptr va j 5) (b := gb5) (o := ob5) 1 fd94_1 rfl hpb5 zN ?_
  refine e_setC (v := va) (k := j) (c := 1) (good_hEx 94 da) sz2 rfl rfl ⟨rfl,rfl⟩ hH4 hna (by first | omega | assumption | (simp; done) | (simp; omega)) (by decide) (fun h => hEx_set (by decide) h) zN ?_
  intro w6 hC6 hz6 hH6
  have hE6 : Chg Fa w w6 := hE4.trans hC6
  have hzs6:=hC6.size
  refine lw_nil ?_
  refine wp_seq ?_
  refine wp_plain _ [0,0,0] rfl ?_
  refine q_move (.int .i64 (l + 1)) rfl zN ?_
  refine q_add (l + 2) rfl rfl (by first | exact w64 (by omega) (by omega) | (rw [w64 (by omega) (by omega)]; omega)) zN ?_
  refine q_assign (.int .i64 (l + 2)) rfl zN ?_
  refine lw_nil ?_
  refine wp_seq ?_
  refine wp_plain _ [0,0,0,0,0,4] rfl ?_
  refine q_move va rfl zN ?_
  refine q_move (.int .i64 ((j :Nat):Int)) rfl zN ?_
  refine q_move (.int .i64 (l + 2)) rfl zN ?_
  refine q_idx (v := va) j u78 tiS94 rfl rfl hH6.isSl rfl (by first | omega | assumption | (simp; done) | (simp; omega)) zN ?_
  obtain ⟨gb7,ob7,hpb7⟩ := hH6.isPtr (k := j) (by first | omega | assumption | (simp; done) | (simp; omega))
  refine q_fldP (p := eptr va j 5) (b := gb7) (o := ob7) 2 fd94_2 rfl hpb7 zN ?_
  refine e_setC (v := va) (k := j) (c := 2) (good_hEx 94 da) sz2 rfl rfl ⟨rfl,rfl⟩ hH6 hna (by first | omega | assumption | (simp; done) | (simp; omega)) (by decide) (fun h => hEx_set (by decide) h) zN ?_
  intro w8 hC8 hz8 hH8
  have hE8 : Chg Fa w w8 := hE6.trans hC8
  have hzs8:=hC8.size
  refine lw_nil ?_
  refine wp_seq ?_
  refine wp_plain _ [0,0,0] rfl ?_
  refine q_move (.int .i64 (l + 2)) rfl zN ?_
  refine q_add (l + 3) rfl rfl (by first | exact w64 (by omega) (by omega) | (rw [w64 (by omega) (by omega)]; omega)) zN ?_
  refine q_assign (.int .i64 (l + 3)) rfl zN ?_
  refine lw_nil ?_
  refine wp_seq ?_
  refine wp_plain _ [0,0,0,0,0,4] rfl ?_
  refine q_move va rfl zN ?_
  refine q_move (.int .i64 ((j :Nat):Int)) rfl zN ?_
  refine q_move (.int .i64 (l + 3)) rfl zN ?_
  refine q_idx (v := va) j u78 tiS94 rfl rfl hH8.isSl rfl (by first | omega | assumption | (simp; done) | (simp; omega)) zN ?_
  obtain ⟨gb9,ob9,hpb9⟩ := hH8.isPtr (k := j) (by first | omega | assumption | (simp; done) | (simp; omega))
  refine q_fldP (p := eptr va j 5) (b := gb9) (o := ob9) 3 fd94_3 rfl hpb9 zN ?_
  refine e_setC (v := va) (k := j) (c := 3) (good_hEx 94 da) sz2 rfl rfl ⟨rfl,rfl⟩ hH8 hna (by first | omega | assumption | (simp; done) | (simp; omega)) (by decide) (fun h => hEx_set (by decide) h) zN ?_
  intro w10 hC10 hz10 hH10
  have hE10 : Chg Fa w w10 := hE8.trans hC10
  have hzs10:=hC10.size
  refine lw_nil ?_
  refine wp_seq ?_
  refine wp_plain _ [0,0,0] rfl ?_
  refine q_move (.int .i64 (l + 3)) rfl zN ?_
  refine q_add (l + 4) rfl rfl (by first | exact w64 (by omega) (by omega) | (rw [w64 (by omega) (by omega)]; omega)) zN ?_
  refine q_assign (.int .i64 (l + 4)) rfl zN ?_
  refine lw_nil ?_
  refine wp_plain _ [0,0,0,0,2,0,4,0] rfl ?_
  refine q_move va rfl zN ?_
  refine q_move (.int .i64 ((j :Nat):Int)) rfl zN ?_
  refine q_idx (v := va) j u78 tiS94 rfl rfl hH10.isSl rfl (by first | omega | assumption | (simp; done) | (simp; omega)) zN ?_
  obtain ⟨gb11,ob11,hpb11⟩ := hH10.isPtr (k := j) (by first | omega | assumption | (simp; done) | (simp; omega))
  refine q_fldP (p := eptr va j 5) (b := gb11) (o := ob11) 4 fd94_4 rfl hpb11 zN ?_
  obtain ⟨dk12,ue12,G12,hdk12,hl12,ho12,hng12,hsub12,hre12⟩ := hH10.kidE hna (k := j) (by first | omega | assumption | (simp; done) | (simp; omega))
  refine q_load (p := (padd (eptr va j 5) 4)) (.inr rfl) ue12 one78 rfl hl12 zN ?_
  refine q_move (.int .i64 (l + 4)) rfl zN ?_
  refine lw_callE 90 [] [] [ue12,(.int .i64 (l + 4))] rfl rfl cf90 zN (ih dk12 (by omega) _  ue12 ((a.getD j Ex.zero).kids) G12 (l + 4) ho12 hng12 (by omega) (by omega)) ?_
  rintro e13 w13 ⟨k13,rfl,hC13,hO13,hk13⟩
  refine ⟨_,rfl,?_⟩
  have hzs13:=hC13.size
  have hE13 : Chg Fa w w13 := hE10.trans (hC13.sub hsub12)
  have hH13 := hre12 _ hC13 hO13
  refine q_assign (.int .i64 k13) rfl zN ?_
  refine lw_nil ?_
  refine wp_plain _ [0,0,0] rfl ?_
  refine q_move (.int .i64 ((j :Nat):Int)) rfl zN ?_
  refine q_add ((j + 1 :Nat):Int) rfl rfl (w64n (by omega) (by first | omega | assumption | (simp; done) | (simp; omega))) zN ?_
  refine q_assign (.int .i64 ((j + 1 :Nat):Int)) rfl zN ?_
  refine lw_nil ?_
  exact ⟨((j + 1),k13),_,rfl,⟨rfl,rfl,rfl,trivial⟩,⟨hE13,(by omega),(by assumption),(by omega)⟩,by first | omega | (dsimp only; omega)⟩
 ·
  refine q_lss false rfl rfl (decide_eq_false hc2) zN ?_
  refine lw_nil ?_
  refine c_cond_f rfl ?_
  refine wp_exit ?_
  refine t_exit ?_
  refine t_exit ?_
  refine c_exit_here ?_
  refine wp_seq ?_
  refine wp_plain _ [0,0] rfl ?_
  refine q_move (.int .i64 l) rfl zN ?_
  refine q_assign (.int .i64 l) rfl zN ?_
  refine lw_nil ?_
  refine wp_ret ?_
  exact post_ret [4] rfl (.int .i64 l) rfl ⟨l,rfl,hE1,hsh,(by have := sizes_take a j; omega)⟩
set_option maxHeartbeats 4000000 in
set_option maxRecDepth 100000 in
theorem c_laws_markFuncS (w : World) (da : Nat) (va : Value) (a : List Fn) (Fa : List Nat) (k : Int) (ha : owS 3 (hFn 94 da) 80 w.heap va a Fa) (hna : Fa.Nodup) (_hk : -9223372036854775808 ≤ k ∧ k ≤ 9223372036854775807) (hk : 0 ≤ k ∧ k + 4 * ((szP a :Nat):Int) ≤ 4000000000) :
  Calls Tryz.prog 49 #[va,.int .i64 k] w (fun e w' => ∃ k' : Int,e = .returned (.int .i64 k') ∧ Chg Fa w w' ∧ owS 3 (hFn 94 da) 80 w'.heap va a Fa ∧ (k ≤ k' ∧ k' ≤ k + 4 * ((szP a :Nat):Int))) := by
 refine calls_mk [va,.int .i64 k] 35 Tryz.func49 rfl rfl (by simp) ?_
 have hE0 : Chg Fa w w := Chg.refl Fa w
 have hl_va := ha.lenle
 unfold maxLen at hl_va
 have hsz : szP a = a.length + Fn.szs a := rfl
 refine wp_seq ?_
 refine wp_plain _ [0] rfl ?_
 refine q_assign (.int .i64 ((0 :Nat):Int)) rfl zN ?_
 refine lw_nil ?_
 refine wp_seq ?_
 refine wp_seq ?_
 refine wp_plain _ [0] rfl ?_
 refine q_assign (.int .i64 ((0 :Nat):Int)) rfl zN ?_
 refine lw_nil ?_
 refine wp_block ?_
 refine c_loop (S := Nat × Int) (fun (⟨j,l⟩ : Nat × Int) => ([(1,(.int .i64 l)),(5,(.int .i64 ((j :Nat):Int))),(0,va)] : List (Nat × Value))) (fun (⟨j,l⟩ : Nat × Int) (W : World) => Chg Fa w W ∧ j ≤ a.length ∧ owS 3 (hFn 94 da) 80 W.heap va a Fa ∧ (k ≤ l ∧ l ≤ k + 2 * ((j :Nat):Int) + 4 * ((Fn.szs (a.take j) :Nat):Int))) (fun (⟨j,l⟩ : Nat × Int) => a.length - j) (0,k) ⟨rfl,rfl,rfl,trivial⟩ ⟨hE0,(by omega),(by assumption),(by rw [List.take_zero,szs_nil]; omega)⟩ ?_
 clear hE0
 rintro ⟨j,l⟩ ρ1 w1 ⟨hE1,hp1_0,hsh,hlk⟩
 have hzs1 : w.heap.size ≤ w1.heap.size := hE1.size
 refine wp_seq ?_
 refine wp_seq ?_
 refine wp_plain _ [0,0,0,0] rfl ?_
 refine q_move (.int .i64 ((j :Nat):Int)) rfl zN ?_
 refine q_move va rfl zN ?_
 refine q_len (v := va) u30 rfl hsh.isSl zN ?_
 by_cases hc2 : ((j :Nat):Int) < ((a.length :Nat):Int)
 ·
  refine q_lss true rfl rfl (decide_eq_true hc2) zN ?_
  refine lw_nil ?_
  refine c_cond_t rfl ?_
  refine wp_skip ?_
  refine wp_seq ?_
  refine wp_block ?_
  refine wp_seq ?_
  refine wp_plain _ [0,0,0,3,0,0,4] rfl ?_
  have hst := szs_step (l := a) (k := j) (by omega)
  have hle := szs_take a (j + 1)
  have hsk : (a.getD j Fn.zero).sz = (a.getD j Fn.zero).name.size + Ex.sizes (a.getD j Fn.zero).outs := rfl
  refine q_move va rfl zN ?_
  refine q_move (.int .i64 ((j :Nat):Int)) rfl zN ?_
  refine q_move (.int .i64 l) rfl zN ?_
  refine lw_call 89 [] [] [(.int .i64 l)] rfl rfl cf89 zN (c_laws_markText _ (l) (by omega) (by omega)) ?_
  rintro e3 w3 ⟨st3,rfl,hX3⟩
  refine ⟨_,rfl,hX3,?_⟩
  have hzs3:=hX3.size
  have hE3 : Chg Fa w w3 := hE1.ext hX3
  have hH4 := own_ext (good_owS (good_hFn 94 da)) hsh hX3
  refine q_idx (v := va) j u30 tiS80 rfl rfl hH4.isSl rfl (by first | omega | assumption | (simp; done) | (simp; omega)) zN ?_
  obtain ⟨gb5,ob5,hpb5⟩ := hH4.isPtr (k := j) (by first | omega | assumption | (simp; done) | (simp; omega))
  refine q_fldP (p := eptr va j 3) (b := gb5) (o := ob5) 0 fd80_0 rfl hpb5 zN ?_
  refine e_setC (v := va) (k := j) (c := 0) (good_hFn 94 da) sz9 rfl rfl ⟨rfl,rfl⟩ hH4 hna (by first | omega | assumption | (simp; done) | (simp; omega)) (by decide) (fun h => hFn_set0 h) zN ?_
  intro w6 hC6 hz6 hH6
  have hE6 : Chg Fa w w6 := hE3.trans hC6
  have hzs6:=hC6.size
  refine lw_nil ?_
  refine wp_seq ?_
  refine wp_plain _ [0,0,0] rfl ?_
  refine q_move (.int .i64 l) rfl zN ?_
  refine q_add (l + 1) rfl rfl (by first | exact w64 (by omega) (by omega) | (rw [w64 (by omega) (by omega)]; omega)) zN ?_
  refine q_assign (.int .i64 (l + 1)) rfl zN ?_
  refine lw_nil ?_
  refine wp_seq ?_
  refine wp_plain _ [0,0,0,0,0,4] rfl ?_
  refine q_move va rfl zN ?_
  refine q_move (.int .i64 ((j :Nat):Int)) rfl zN ?_
  refine q_move (.int .i64 (l + 1)) rfl zN ?_
  refine q_idx (v := va) j u30 tiS80 rfl rfl hH6.isSl rfl (by first | omega | assumption | (simp; done) | (simp; omega)) zN ?_
  obtain ⟨gb7,ob7,hpb7⟩ := hH6.isPtr (k := j) (by first | omega | assumption | (simp; done) | (simp; omega))
  refine q_fldP (p := eptr va j 3) (b := gb7) (o := ob7) 1 fd80_1 rfl hpb7 zN ?_
  refine e_setC (v := va) (k := j) (c := 1) (good_hFn 94 da) sz2 rfl rfl ⟨rfl,rfl⟩ hH6 hna (by first | omega | assumption | (simp; done) | (simp; omega)) (by decide) (fun h => hFn_set1 h) zN ?_
  intro w8 hC8 hz8 hH8
  have hE8 : Chg Fa w w8 := hE6.trans hC8
  have hzs8:=hC8.size
  refine lw_nil ?_
  refine wp_seq ?_
  refine wp_plain _ [0,0,0] rfl ?_
  refine q_move (.int .i64 (l + 1)) rfl zN ?_
  refine q_add (l + 2) rfl rfl (by first | exact w64 (by omega) (by omega) | (rw [w64 (by omega) (by omega)]; omega)) zN ?_
  refine q_assign (.int .i64 (l + 2)) rfl zN ?_
  refine lw_nil ?_
  refine wp_plain _ [0,0,0,0,2,0,4,0] rfl ?_
  refine q_move va rfl zN ?_
  refine q_move (.int .i64 ((j :Nat):Int)) rfl zN ?_
  refine q_idx (v := va) j u30 tiS80 rfl rfl hH8.isSl rfl (by first | omega | assumption | (simp; done) | (simp; omega)) zN ?_
  obtain ⟨gb9,ob9,hpb9⟩ := hH8.isPtr (k := j) (by first | omega | assumption | (simp; done) | (simp; omega))
  refine q_fldP (p := eptr va j 3) (b := gb9) (o := ob9) 2 fd80_2 rfl hpb9 zN ?_
  obtain ⟨ue10,G10,hl10,ho10,hng10,hsub10,hre10⟩ := hH8.kidF hna (k := j) (by first | omega | assumption | (simp; done) | (simp; omega))
  refine q_load (p := (padd (eptr va j 3) 2)) (.inr rfl) ue10 one78 rfl hl10 zN ?_
  refine q_move (.int .i64 (l + 2)) rfl zN ?_
  refine lw_callE 90 [] [] [ue10,(.int .i64 (l + 2))] rfl rfl cf90 zN (c_laws_markExprS _ da ue10 ((a.getD j Fn.zero).outs) G10 (l + 2) ho10 hng10 (by omega) (by omega)) ?_
  rintro e11 w11 ⟨k11,rfl,hC11,hO11,hk11⟩
  refine ⟨_,rfl,?_⟩
  have hzs11:=hC11.size
  have hE11 : Chg Fa w w11 := hE8.trans (hC11.sub hsub10)
  have hH11 := hre10 _ hC11 hO11
  refine q_assign (.int .i64 k11) rfl zN ?_
  refine lw_nil ?_
  refine wp_plain _ [0,0,0] rfl ?_
  refine q_move (.int .i64 ((j :Nat):Int)) rfl zN ?_
  refine q_add ((j + 1 :Nat):Int) rfl rfl (w64n (by omega) (by first | omega | assumption | (simp; done) | (simp; omega))) zN ?_
  refine q_assign (.int .i64 ((j + 1 :Nat):Int)) rfl zN ?_
  refine lw_nil ?_
  exact ⟨((j + 1),k11),_,rfl,⟨rfl,rfl,rfl,trivial⟩,⟨hE11,(by omega),(by assumption),(by omega)⟩,by first | omega | (dsimp only; omega)⟩
 ·
  refine q_lss false rfl rfl (decide_eq_false hc2) zN ?_
  refine lw_nil ?_
  refine c_cond_f rfl ?_
  refine wp_exit ?_
  refine t_exit ?_
  refine t_exit ?_
  refine c_exit_here ?_
  refine wp_seq ?_
  refine wp_plain _ [0,0] rfl ?_
  refine q_move (.int .i64 l) rfl zN ?_
  refine q_assign (.int .i64 l) rfl zN ?_
  refine lw_nil ?_
  refine wp_ret ?_
  exact post_ret [4] rfl (.int .i64 l) rfl ⟨l,rfl,hE1,hsh,(by have := szs_take a j; omega)⟩
set_option maxHeartbeats 4000000 in
set_option maxRecDepth 100000 in
theorem c_laws_markProgram (w : World) (da : Nat) (va : Value) (a : List Fn) (Fa : List Nat) (k : Int) (ha : owS 3 (hFn 94 da) 80 w.heap va a Fa) (hna : Fa.Nodup) (_hk : -9223372036854775808 ≤ k ∧ k ≤ 9223372036854775807) (hk : 0 ≤ k ∧ k + 4 * ((szP a :Nat):Int) ≤ 4000000000) :
  Calls Tryz.prog 17 #[(.agg #[va]),.int .i64 k] w (fun e w' => ∃ k' : Int,e = .returned (.int .i64 k') ∧ Chg Fa w w' ∧ owS 3 (hFn 94 da) 80 w'.heap va a Fa ∧ (k ≤ k' ∧ k' ≤ k + 4 * ((szP a :Nat):Int))) := by
 refine calls_mk [(.agg #[va]),.int .i64 k] 10 Tryz.func17 rfl rfl (by simp) ?_
 have hE0 : Chg Fa w w := Chg.refl Fa w
 refine wp_seq ?_
 refine wp_plain _ [3,0] rfl ?_
 refine r_boxA (cs := #[va]) rfl zN ?_
 intro w1 hX1 hz1 hB1
 have hzs1:=hX1.size
 have hE1 : Chg Fa w w1 := hE0.ext hX1
 have hH2 := own_ext (good_owS (good_hFn 94 da)) ha hX1
 replace hB1 : BX w1.heap w.heap.size [va] := hB1
 refine q_assign (.int .i64 ((0 :Nat):Int)) rfl zN ?_
 refine lw_nil ?_
 refine wp_seq ?_
 refine wp_plain _ [0,2,0,4,0] rfl ?_
 refine q_fldP (p := (.pointer (some ⟨w.heap.size,0,none⟩))) (b := w.heap.size) (o := 0) 0 fd32_0 rfl rfl zN ?_
 refine q_load (p := (padd (.pointer (some ⟨w.heap.size,0,none⟩)) 0)) (.inr rfl) va one30 rfl (hB1.ldp (i := 0) (by simp)) zN ?_
 refine q_move (.int .i64 k) rfl zN ?_
 refine lw_callE 49 [] [] [va,(.int .i64 k)] rfl rfl cf49 zN (c_laws_markFuncS _ da va a Fa (k) hH2 hna _hk (by omega)) ?_
 rintro e3 w3 ⟨k3,rfl,hC3,hO3,hk3⟩
 refine ⟨_,rfl,?_⟩
 have hzs3:=hC3.size
 have hE3 : Chg Fa w w3 := hE1.trans hC3
 refine q_assign (.int .i64 k3) rfl zN ?_
 refine lw_nil ?_
 refine wp_seq ?_
 refine wp_plain _ [0,0] rfl ?_
 refine q_move (.int .i64 k3) rfl zN ?_
 refine q_assign (.int .i64 k3) rfl zN ?_
 refine lw_nil ?_
 refine wp_ret ?_
 exact post_ret [4] rfl (.int .i64 k3) rfl ⟨k3,rfl,hE3,hO3,(by omega)⟩
end Go.Proofs.YtnofbmdpabcjaaaGreat
namespace Go.Proofs.YtnofbmdpabcjaaaGreat
open Go Go.RowKit
set_option linter.unusedVariables false
set_option linter.unusedSimpArgs false
attribute [local irreducible] LW
theorem tot_bound {a : List (List Int)} {L : Nat} (h1 : a.length ≤ L) (h2 : ∀ k, (a.getD k []).length ≤ L) : tot a a.length ≤ L * L := Nat.le_trans (tot_le h2 _ (Nat.le_refl _)) (Nat.mul_le_mul_right L h1)
theorem tot_bnd {a : List (List Int)} (h1 : a.length ≤ 1048576) (h2 : ∀ k, (a.getD k []).length ≤ 1048576) : tot a a.length ≤ 1099511627776 := by
  have := tot_bound h1 h2; omega
theorem tot_41 {a : List (List Int)} {L : Nat} (hL : L ≤ 1048576) (h : a.length ≤ 41 ∧ ∀ k, (a.getD k []).length ≤ L) : tot a a.length ≤ 1099511627776 := tot_bnd (by omega) fun k => by have := h.2 k; omega
set_option maxHeartbeats 4000000 in
set_option maxRecDepth 100000 in
theorem c_laws_FnExactRoundStates (w : World) (dp : Nat) (vp : Value) (p : List Fn) (f : Int) (va : Value) (a : List Int) (n : Int) (hp : RP [] dp w.heap vp p) (_hf : -9223372036854775808 ≤ f ∧ f ≤ 9223372036854775807) (ha : Rd (rdL rI) w.heap va a) (_hn : -9223372036854775808 ≤ n ∧ n ≤ 9223372036854775807) (hnm : ∀ k,k < p.length → (p.getD k Fn.zero).name.size ≤ 9223372036854775807) :
  Calls Tryz.prog 3 #[(.agg #[vp]),.int .i64 f,va,.int .i64 n] w (fun e w' => e = .returned (.bool true) ∧ Ext w w') := by
 refine calls_mk [(.agg #[vp]),.int .i64 f,va,.int .i64 n] 127 Tryz.func3 rfl rfl (by simp) ?_
 have hE0 : Ext w w := Ext.refl w
 have hl_vp := hp.lenle
 unfold maxLen at hl_vp
 have hl_va := ha.lenle
 refine wp_seq ?_
 refine wp_plain _ [3,0] rfl ?_
 refine r_boxA (cs := #[vp]) rfl zN ?_
 intro w1 hX1 hz1 hB1
 have hzs1:=hX1.size
 have hE1:=hE0.trans hX1
 replace hB1 : BX w1.heap w.heap.size [vp] := hB1
 refine q_assign (.bool false) rfl zN ?_
 refine lw_nil ?_
 refine wp_seq ?_
 refine wp_seq ?_
 refine wp_plain _ [0,0,0] rfl ?_
 refine q_move va rfl zN ?_
 refine q_len (v := va) u25 rfl ha.isSl zN ?_
 by_cases hc2 : ((1048576 :Nat):Int) < ((a.length :Nat):Int)
 ·
  refine q_gtr true rfl rfl (decide_eq_true hc2) zN ?_
  refine lw_nil ?_
  refine c_cond_t rfl ?_
  refine wp_seq ?_
  refine wp_plain _ [0] rfl ?_
  refine q_assign (.bool true) rfl zN ?_
  refine lw_nil ?_
  refine wp_ret ?_
  refine t_ret ?_
  exact post_ret [8] rfl (.bool true) rfl ⟨(by first | rfl | (exfalso; omega) | simp_all),hE1⟩
 ·
  refine q_gtr false rfl rfl (decide_eq_false hc2) zN ?_
  refine lw_nil ?_
  refine c_cond_f rfl ?_
  refine wp_skip ?_
  refine wp_seq ?_
  refine wp_plain _ [0] rfl ?_
  refine q_assign (.int .i64 ((1048576 :Nat):Int)) rfl zN ?_
  refine lw_nil ?_
  refine wp_seq ?_
  refine wp_plain _ [2,0,3,0] rfl ?_
  refine q_loadA (p := (.pointer (some ⟨w.heap.size,0,none⟩))) (.inr rfl) [vp] agg24 rfl (fun w9 hw9 => LD.of_box (BX.ext (w := w1) hB1 hw9)) rfl zN ?_
  refine q_move (.int .i64 ((1048576 :Nat):Int)) rfl zN ?_
  refine lw_call 9 [] [] [(.agg #[vp]),(.int .i64 ((1048576 :Nat):Int))] rfl rfl cf9 zN (c_laws_szProgram _ dp vp (p) _ (hp.ext (good_rdS (good_rFn dp)) hE1) (by omega) (by omega) (by exact hnm)) ?_
  rintro e3 w3 ⟨rfl,hX3⟩
  refine ⟨_,rfl,hX3,?_⟩
  have hzs3:=hX3.size
  have hE3:=hE1.trans hX3
  have hB1x3 := hB1.ext hX3
  refine q_assign (.int .i64 (szV (szP p) ((1048576 :Nat):Int))) rfl zN ?_
  refine lw_nil ?_
  refine wp_seq ?_
  refine wp_seq ?_
  refine wp_plain _ [0,0] rfl ?_
  refine q_move (.int .i64 (szV (szP p) ((1048576 :Nat):Int))) rfl zN ?_
  by_cases hc4 : szV (szP p) ((1048576 :Nat):Int) < ((0 :Nat):Int)
  ·
   refine q_lss true rfl rfl (decide_eq_true hc4) zN ?_
   refine lw_nil ?_
   refine c_cond_t rfl ?_
   refine wp_seq ?_
   refine wp_plain _ [0] rfl ?_
   refine q_assign (.bool true) rfl zN ?_
   refine lw_nil ?_
   refine wp_ret ?_
   refine t_ret ?_
   exact post_ret [8] rfl (.bool true) rfl ⟨(by first | rfl | (exfalso; omega) | simp_all),hE3⟩
  ·
   refine q_lss false rfl rfl (decide_eq_false hc4) zN ?_
   refine lw_nil ?_
   refine c_cond_f rfl ?_
   refine wp_skip ?_
   refine wp_seq ?_
   refine wp_plain _ [2,3,0,0,3,0,3,0,0,0,0,0] rfl ?_
   have hzv := szV_pos (t := szP p) (x := ((1048576 :Nat):Int)) (by omega)
   have hz0 : szP p ≤ 1048576 := by omega
   have hz := szP_ok hz0
   refine q_loadA (p := (.pointer (some ⟨w.heap.size,0,none⟩))) (.inr rfl) [vp] agg24 rfl (fun w9 hw9 => LD.of_box (BX.ext (w := w3) hB1x3 hw9)) rfl zN ?_
   refine lw_call 11 [] [] [(.agg #[vp])] rfl rfl cf11 zN (c_laws_toProgram _ dp vp (p) (hp.ext (good_rdS (good_rFn dp)) hE3) (by omega)) ?_
   rintro e5 w5 ⟨v5,rfl,hX5,hO5⟩
   refine ⟨_,rfl,hX5,?_⟩
   have hzs5:=hX5.size
   have hE5:=hE3.trans hX5
   have hB1x5 := hB1x3.ext hX5
   refine q_move (.int .i64 f) rfl zN ?_
   refine q_move va rfl zN ?_
   refine lw_call 12 [] [] [va] rfl rfl cf12 zN (c_laws_toInt64S _ _ _ (ha.ext g1 hE5) (by omega)) ?_
   rintro e6 w6 ⟨v6_0,rfl,hX6,hO6_0⟩
   refine ⟨_,rfl,hX6,?_⟩
   have hzs6:=hX6.size
   have hE6:=hE5.trans hX6
   have hB1x6 := hB1x5.ext hX6
   have hO5x6 := hO5.ext ((good_owS (good_oFn 94 dp))) hX6
   refine q_move (.int .i64 n) rfl zN ?_
   refine lw_call 10 [] [] [(.agg #[v5]),(.int .i64 f),v6_0,(.int .i64 n)] rfl rfl cf10 zN (c_spec_RoundStates _ dp v5 (p) _ _ _ _ (RN.of_frF hO5x6 (fun b hb => by cases hb)) _hf hO6_0.rd1 _hn (by exact hz)) ?_
   rintro e7 w7 ⟨v7_0,rfl,hX7,hO7_0⟩
   refine ⟨_,rfl,hX7,?_⟩
   have hzs7:=hX7.size
   have hE7:=hE6.trans hX7
   have hB1x7 := hB1x6.ext hX7
   have hO5x7 := hO5x6.ext ((good_owS (good_oFn 94 dp))) hX7
   have hO6_0x7 := hO6_0.ext (o1) hX7
   refine q_move (.tuple #[v7_0,(.int .i64 (rtC p f a n))]) rfl zN ?_
   refine q_extract (vs := [v7_0,(.int .i64 (rtC p f a n))]) v7_0 rfl rfl zN ?_
   refine q_extract (vs := [v7_0,(.int .i64 (rtC p f a n))]) (.int .i64 (rtC p f a n)) rfl rfl zN ?_
   refine q_assign v7_0 rfl zN ?_
   refine q_assign (.int .i64 (rtC p f a n)) rfl zN ?_
   refine lw_nil ?_
   refine wp_seq ?_
   refine wp_plain _ [2,3,3,4] rfl ?_
   refine q_loadA (p := (.pointer (some ⟨w.heap.size,0,none⟩))) (.inr rfl) [vp] agg24 rfl (fun w9 hw9 => LD.of_box (BX.ext (w := w7) hB1x7 hw9)) rfl zN ?_
   refine lw_call 11 [] [] [(.agg #[vp])] rfl rfl cf11 zN (c_laws_toProgram _ dp vp (p) (hp.ext (good_rdS (good_rFn dp)) hE7) (by omega)) ?_
   rintro e8 w8 ⟨v8,rfl,hX8,hO8⟩
   refine ⟨_,rfl,hX8,?_⟩
   have hzs8:=hX8.size
   have hE8:=hE7.trans hX8
   have hB1x8 := hB1x7.ext hX8
   have hO5x8 := hO5x7.ext ((good_owS (good_oFn 94 dp))) hX8
   have hO6_0x8 := hO6_0x7.ext (o1) hX8
   have hO7_0x8 := hO7_0.ext (o2) hX8
   have hq10 := hB1x8.lt
   refine r_allocA (z := .agg #[.slice none 0 0]) zr32 zN ?_
   intro w9 hX9 hz9 hB9
   have hzs9:=hX9.size
   have hE9:=hE8.trans hX9
   have hB1x9 := hB1x8.ext hX9
   have hO5x9 := hO5x8.ext ((good_owS (good_oFn 94 dp))) hX9
   have hO6_0x9 := hO6_0x8.ext (o1) hX9
   have hO7_0x9 := hO7_0x8.ext (o2) hX9
   have hO8x9 := hO8.ext ((good_owS (good_oFn 94 dp))) hX9
   replace hB9 : BX w9.heap w8.heap.size [(.slice none 0 0)] := hB9
   refine e_setA (vs := [v8]) agg32 rfl rfl (by intro u hu; simp only [List.mem_cons,List.not_mem_nil,or_false] at hu; rcases hu with rfl <;> first | exact ⟨rfl,rfl⟩ | exact isSl_one hO8x9.isSlS) hB9 rfl rfl zN ?_
   intro w11 hC11 hz11 hB11
   replace hB11 : BX w11.heap w8.heap.size [v8] := hB11
   have hE11 : Ext w w11 := hC11.below hE9 (fun c hc => by have := List.mem_singleton.1 hc; omega) hE9.size
   have hzs11:=hC11.size
   have hF12 := hB1x9.chg hC11 (fun hm => by have := List.mem_singleton.1 hm; omega)
   have hF13 := hO5x9.chg ((good_owS (good_oFn 94 dp))) hC11 (fun c hc => by have := List.mem_singleton.1 hc; omega)
   have hF14 := hO6_0x9.chg (o1) hC11 (fun c hc => by have := List.mem_singleton.1 hc; omega)
   have hF15 := hO7_0x9.chg (o2) hC11 (fun c hc => by have := List.mem_singleton.1 hc; omega)
   have hF16 := hO8x9.chg ((good_owS (good_oFn 94 dp))) hC11 (fun c hc => by have := List.mem_singleton.1 hc; omega)
   refine lw_nil ?_
   refine wp_seq ?_
   refine wp_plain _ [0,3,0] rfl ?_
   refine q_move va rfl zN ?_
   refine lw_call 12 [] [] [va] rfl rfl cf12 zN (c_laws_toInt64S _ _ _ (ha.ext g1 hE11) (by omega)) ?_
   rintro e17 w17 ⟨v17_0,rfl,hX17,hO17_0⟩
   refine ⟨_,rfl,hX17,?_⟩
   have hzs17:=hX17.size
   have hE17:=hE11.trans hX17
   have hF12x17 := hF12.ext hX17
   have hF13x17 := hF13.ext ((good_owS (good_oFn 94 dp))) hX17
   have hF14x17 := hF14.ext (o1) hX17
   have hF15x17 := hF15.ext (o2) hX17
   have hF16x17 := hF16.ext ((good_owS (good_oFn 94 dp))) hX17
   have hB11x17 := hB11.ext hX17
   refine q_assign v17_0 rfl zN ?_
   refine lw_nil ?_
   refine wp_seq ?_
   refine wp_plain _ [2,0,0,0,3,0,0,0,0,0] rfl ?_
   refine q_loadA (p := (.pointer (some ⟨w8.heap.size,0,none⟩))) (.inr rfl) [v8] agg32 rfl (fun w9 hw9 => LD.of_box (BX.ext (w := w17) hB11x17 hw9)) rfl zN ?_
   refine q_move (.int .i64 f) rfl zN ?_
   refine q_move v17_0 rfl zN ?_
   refine q_move (.int .i64 n) rfl zN ?_
   refine lw_call 13 [] [] [(.agg #[v8]),(.int .i64 f),v17_0,(.int .i64 n)] rfl rfl cf13 zN (c_impl_RoundStates _ dp v8 (p) _ _ _ _ (RN.of_frF hF16x17 (fun b hb => by cases hb)) _hf hO17_0.rd1 _hn (by exact hz)) ?_
   rintro e18 w18 ⟨v18_0,rfl,hX18,hO18_0,hP18_0,hP18_1⟩
   refine ⟨_,rfl,hX18,?_⟩
   have hzs18:=hX18.size
   have hE18:=hE17.trans hX18
   have hF12x18 := hF12x17.ext hX18
   have hF13x18 := hF13x17.ext ((good_owS (good_oFn 94 dp))) hX18
   have hF14x18 := hF14x17.ext (o1) hX18
   have hF15x18 := hF15x17.ext (o2) hX18
   have hF16x18 := hF16x17.ext ((good_owS (good_oFn 94 dp))) hX18
   have hB11x18 := hB11x17.ext hX18
   have hO17_0x18 := hO17_0.ext (o1) hX18
   refine q_move (.tuple #[v18_0,(.int .i64 (rtC p f a n))]) rfl zN ?_
   refine q_extract (vs := [v18_0,(.int .i64 (rtC p f a n))]) v18_0 rfl rfl zN ?_
   refine q_extract (vs := [v18_0,(.int .i64 (rtC p f a n))]) (.int .i64 (rtC p f a n)) rfl rfl zN ?_
   refine q_assign v18_0 rfl zN ?_
   refine q_assign (.int .i64 (rtC p f a n)) rfl zN ?_
   refine lw_nil ?_
   refine wp_seq ?_
   refine wp_seq ?_
   refine wp_plain _ [0,0,3,0,0,0,0,0,0] rfl ?_
   refine q_move v18_0 rfl zN ?_
   refine q_move v7_0 rfl zN ?_
   refine lw_call 14 [] [] [v18_0,v7_0] rfl rfl cf14 zN (c_laws_eqInt64SS _ _ _ _ _ hO18_0.rd2 hF15x18.rd2) ?_
   rintro e19 w19 ⟨rfl,hX19⟩
   refine ⟨_,rfl,hX19,?_⟩
   have hzs19:=hX19.size
   have hE19:=hE18.trans hX19
   have hF12x19 := hF12x18.ext hX19
   have hF13x19 := hF13x18.ext ((good_owS (good_oFn 94 dp))) hX19
   have hF14x19 := hF14x18.ext (o1) hX19
   have hF15x19 := hF15x18.ext (o2) hX19
   have hF16x19 := hF16x18.ext ((good_owS (good_oFn 94 dp))) hX19
   have hB11x19 := hB11x18.ext hX19
   have hO17_0x19 := hO17_0x18.ext (o1) hX19
   have hO18_0x19 := hO18_0.ext (o2) hX19
   refine q_not (!(decide ((rtR p f a n) = (rtR p f a n)))) rfl rfl zN ?_
   refine q_move (.bool (!(decide ((rtR p f a n) = (rtR p f a n))))) rfl zN ?_
   cases hb20 : (!(decide ((rtR p f a n) = (rtR p f a n))))
   ·
    refine q_move (.int .i64 (rtC p f a n)) rfl (zS (e := 55) rfl rfl rfl) ?_
    refine q_move (.int .i64 (rtC p f a n)) rfl (zS (e := 55) rfl rfl rfl) ?_
    refine q_neq false rfl rfl (by simp) (zS (e := 55) rfl rfl rfl) ?_
    refine q_pick false (.bool false) rfl rfl zN ?_
    refine lw_nil ?_
    refine c_cond_f rfl ?_
    refine wp_skip ?_
    refine wp_seq ?_
    refine wp_seq ?_
    refine wp_draw _ [1,1,3,3,0] mixed (by kernel_rfl) ?_
    refine q_loadA (p := (.pointer (some ⟨w8.heap.size,0,none⟩))) (.inl rfl) [v8] agg32 rfl (fun w9 hw9 => LD.of_box (BX.ext (w := w19.drew) hB11x19 hw9)) rfl zN ?_
    refine q_loadA (p := (.pointer (some ⟨w.heap.size,0,none⟩))) (.inl rfl) [vp] agg24 rfl (fun w9 hw9 => LD.of_box (BX.ext (w := w19.drew) hF12x19 hw9)) rfl zN ?_
    refine lw_call 11 [] [] [(.agg #[vp])] rfl rfl cf11 zN (c_laws_toProgram _ dp vp (p) (hp.ext (good_rdS (good_rFn dp)) hE19.drew) (by omega)) ?_
    rintro e21 w21 ⟨v21,rfl,hX21,hO21⟩
    refine ⟨_,rfl,hX21,?_⟩
    replace hX21 := hX21.of_drew
    have hzs21:=hX21.size
    have hE21:=hE19.trans hX21
    have hF12x21 := hF12x19.ext hX21
    have hF13x21 := hF13x19.ext ((good_owS (good_oFn 94 dp))) hX21
    have hF14x21 := hF14x19.ext (o1) hX21
    have hF15x21 := hF15x19.ext (o2) hX21
    have hF16x21 := hF16x19.ext ((good_owS (good_oFn 94 dp))) hX21
    have hB11x21 := hB11x19.ext hX21
    have hO17_0x21 := hO17_0x19.ext (o1) hX21
    have hO18_0x21 := hO18_0x19.ext (o2) hX21
    replace hO21 := hO21.low (B' := w19.heap.size) (Nat.le_refl _)
    refine lw_call 15 [] [] [(.agg #[v8]),(.agg #[v21])] rfl rfl cf15 zN (c_laws_eqProgram _ dp v8 (p) dp v21 (p) (RN.of_frF hF16x21 (fun b hb => by cases hb)) (RN.of_frF hO21 (fun b hb => by cases hb)) (by rfl)) ?_
    rintro e22 w22 ⟨rfl,hX22⟩
    refine ⟨_,rfl,hX22,?_⟩
    have hzs22:=hX22.size
    have hE22:=hE21.trans hX22
    have hF12x22 := hF12x21.ext hX22
    have hF13x22 := hF13x21.ext ((good_owS (good_oFn 94 dp))) hX22
    have hF14x22 := hF14x21.ext (o1) hX22
    have hF15x22 := hF15x21.ext (o2) hX22
    have hF16x22 := hF16x21.ext ((good_owS (good_oFn 94 dp))) hX22
    have hB11x22 := hB11x21.ext hX22
    have hO17_0x22 := hO17_0x21.ext (o1) hX22
    have hO18_0x22 := hO18_0x21.ext (o2) hX22
    have hO21x22 := hO21.ext ((good_owS (good_oFn 94 dp))) hX22
    refine q_not false rfl rfl zN ?_
    refine lw_nil ?_
    refine c_cond_f rfl ?_
    refine wp_skip ?_
    refine wp_seq ?_
    refine wp_seq ?_
    refine wp_plain _ [0,0,3,3,0] rfl ?_
    refine q_move v17_0 rfl zN ?_
    refine q_move va rfl zN ?_
    refine lw_call 12 [] [] [va] rfl rfl cf12 zN (c_laws_toInt64S _ _ _ (ha.ext g1 hE22) (by omega)) ?_
    rintro e23 w23 ⟨v23_0,rfl,hX23,hO23_0⟩
    refine ⟨_,rfl,hX23,?_⟩
    have hzs23:=hX23.size
    have hE23:=hE22.trans hX23
    have hF12x23 := hF12x22.ext hX23
    have hF13x23 := hF13x22.ext ((good_owS (good_oFn 94 dp))) hX23
    have hF14x23 := hF14x22.ext (o1) hX23
    have hF15x23 := hF15x22.ext (o2) hX23
    have hF16x23 := hF16x22.ext ((good_owS (good_oFn 94 dp))) hX23
    have hB11x23 := hB11x22.ext hX23
    have hO17_0x23 := hO17_0x22.ext (o1) hX23
    have hO18_0x23 := hO18_0x22.ext (o2) hX23
    have hO21x23 := hO21x22.ext ((good_owS (good_oFn 94 dp))) hX23
    refine lw_call 16 [] [] [v17_0,v23_0] rfl rfl cf16 zN (c_laws_eqInt64S _ _ _ _ _ hO17_0x23.rd1 hO23_0.rd1) ?_
    rintro e24 w24 ⟨rfl,hX24⟩
    refine ⟨_,rfl,hX24,?_⟩
    have hzs24:=hX24.size
    have hE24:=hE23.trans hX24
    have hF12x24 := hF12x23.ext hX24
    have hF13x24 := hF13x23.ext ((good_owS (good_oFn 94 dp))) hX24
    have hF14x24 := hF14x23.ext (o1) hX24
    have hF15x24 := hF15x23.ext (o2) hX24
    have hF16x24 := hF16x23.ext ((good_owS (good_oFn 94 dp))) hX24
    have hB11x24 := hB11x23.ext hX24
    have hO17_0x24 := hO17_0x23.ext (o1) hX24
    have hO18_0x24 := hO18_0x23.ext (o2) hX24
    have hO21x24 := hO21x23.ext ((good_owS (good_oFn 94 dp))) hX24
    have hO23_0x24 := hO23_0.ext (o1) hX24
    refine q_not (!(decide (a = a))) rfl rfl zN ?_
    refine lw_nil ?_
    cases hb25 : (!(decide (a = a)))
    ·
     refine c_cond_f (by first | rfl | (show Value.bool _ = _; rw [hb25])) ?_
     refine wp_skip ?_
     refine wp_seq ?_
     refine wp_plain _ [0] rfl ?_
     have hrt := ‹(rtR p f a n).length ≤ 41 ∧ ∀ k,((rtR p f a n).getD k []).length ≤ a.length›
     have hlt := tot_41 (show a.length ≤ 1048576 by omega) hrt
     refine q_assign (.int .i64 ((1 :Nat):Int)) rfl zN ?_
     refine lw_nil ?_
     refine wp_seq ?_
     refine wp_plain _ [2,0,4,0] rfl ?_
     refine q_loadA (p := (.pointer (some ⟨w8.heap.size,0,none⟩))) (.inr rfl) [v8] agg32 rfl (fun w9 hw9 => LD.of_box (BX.ext (w := w24) hB11x24 hw9)) rfl zN ?_
     refine q_move (.int .i64 ((1 :Nat):Int)) rfl zN ?_
     obtain ⟨F26,ho26,hn26,hF26⟩ := hF16x24
     refine lw_callE 17 [] [] [(.agg #[v8]),(.int .i64 ((1 :Nat):Int))] rfl rfl cf17 zN (c_laws_markProgram _ dp v8 p F26 (((1 :Nat):Int)) (ho26.imp fun h => oFn_h _ h) hn26 (by omega) (by omega)) ?_
     rintro e26 w26 ⟨k26,rfl,hC26,hO26,hk26⟩
     refine ⟨_,rfl,?_⟩
     have hE26 : Ext w w26 := hC26.below hE24 (fun c hc => Nat.le_trans (by omega) (hF26 c hc).1) hE24.size
     have hzs26:=hC26.size
     have hF27 := hF12x24.chg hC26 (fun hm => by have := hF26 _ hm; omega)
     have hF28 := hF13x24.chg ((good_owS (good_oFn 94 dp))) hC26 (fun c hc => by have := hF26 c hc; omega)
     have hF29 := hF14x24.chg (o1) hC26 (fun c hc => by have := hF26 c hc; omega)
     have hF30 := hF15x24.chg (o2) hC26 (fun c hc => by have := hF26 c hc; omega)
     have hF31 := hB11x24.chg hC26 (fun hm => by have := hF26 _ hm; omega)
     have hF32 := hO17_0x24.chg (o1) hC26 (fun c hc => by have := hF26 c hc; omega)
     have hF33 := hO18_0x24.chg (o2) hC26 (fun c hc => by have := hF26 c hc; omega)
     have hF34 := hO21x24.chg ((good_owS (good_oFn 94 dp))) hC26 (fun c hc => by have := hF26 c hc; omega)
     have hF35 := hO23_0x24.chg (o1) hC26 (fun c hc => by have := hF26 c hc; omega)
     refine q_assign (.int .i64 k26) rfl zN ?_
     refine lw_nil ?_
     refine wp_seq ?_
     refine wp_plain _ [0,0,4,0] rfl ?_
     refine q_move v17_0 rfl zN ?_
     refine q_move (.int .i64 k26) rfl zN ?_
     obtain ⟨G36,ha36,hb36,hc36⟩ := hF32
     refine lw_callE 18 [] [] [v17_0,(.int .i64 k26)] rfl rfl cf18 zN (c_laws_markInt64S _ _ _ _ _ ha36 hb36 (by omega) (by omega)) ?_
     rintro e36 w36 ⟨rfl,hC36,hO36⟩
     refine ⟨_,rfl,?_⟩
     have hE36 : Ext w w36 := hC36.below hE26 (fun b hb => Nat.le_trans hE11.size (hc36 b hb).1) hE26.size
     have hF36 := hc36
     have hM36 : Fr (owL rI 2) w11.heap.size w17.heap.size w36.heap v17_0 _ := ⟨G36,hO36,hb36,hc36⟩
     have hzs36:=hC36.size
     have hF37 := hF27.chg hC36 (fun hm => by have := hF36 _ hm; omega)
     have hF38 := hF28.chg ((good_owS (good_oFn 94 dp))) hC36 (fun c hc => by have := hF36 c hc; omega)
     have hF39 := hF29.chg (o1) hC36 (fun c hc => by have := hF36 c hc; omega)
     have hF40 := hF30.chg (o2) hC36 (fun c hc => by have := hF36 c hc; omega)
     have hF41 := hF31.chg hC36 (fun hm => by have := hF36 _ hm; omega)
     have hF42 := hF33.chg (o2) hC36 (fun c hc => by have := hF36 c hc; omega)
     have hF43 := hF34.chg ((good_owS (good_oFn 94 dp))) hC36 (fun c hc => by have := hF36 c hc; omega)
     have hF44 := hF35.chg (o1) hC36 (fun c hc => by have := hF36 c hc; omega)
     refine q_assign (.int .i64 (k26 + ((a.length :Nat):Int))) rfl zN ?_
     refine lw_nil ?_
     refine wp_seq ?_
     refine wp_seq ?_
     refine wp_plain _ [0,0,0,0,0,3,0,0,0,0,0,0,0] rfl ?_
     refine q_move (.int .i64 (k26 + ((a.length :Nat):Int))) rfl zN ?_
     by_cases hc45 : k26 + ((a.length :Nat):Int) < ((0 :Nat):Int)
     ·
      refine q_lss true rfl rfl (decide_eq_true hc45) zN ?_
      refine q_move (.bool true) rfl zN ?_
      refine lw_skip (e := 78) (c := true) rfl rfl rfl rfl ?_
      refine lw_skip (e := 78) (c := true) rfl rfl rfl rfl ?_
      refine lw_skip (e := 78) (c := true) rfl rfl rfl rfl ?_
      refine lw_skip (e := 78) (c := true) rfl rfl rfl rfl ?_
      refine q_pick true (.bool true) rfl rfl zN ?_
      refine q_move (.bool true) rfl zN ?_
      refine lw_skip (e := 84) (c := true) rfl rfl rfl rfl ?_
      refine lw_skip (e := 84) (c := true) rfl rfl rfl rfl ?_
      refine lw_skip (e := 84) (c := true) rfl rfl rfl rfl ?_
      refine q_pick true (.bool true) rfl rfl zN ?_
      refine lw_nil ?_
      refine c_cond_t rfl ?_
      refine wp_seq ?_
      refine wp_plain _ [0] rfl ?_
      refine q_assign (.bool false) rfl zN ?_
      refine lw_nil ?_
      refine wp_ret ?_
      refine t_ret ?_
      exact post_ret [8] rfl (.bool false) rfl ⟨(by first | rfl | (exfalso; omega) | simp_all),hE36⟩
     ·
      refine q_lss false rfl rfl (decide_eq_false hc45) zN ?_
      refine q_move (.bool false) rfl zN ?_
      refine q_move v18_0 rfl (zS (e := 78) rfl rfl rfl) ?_
      refine q_move v7_0 rfl (zS (e := 78) rfl rfl rfl) ?_
      refine lw_call 14 [] [] [v18_0,v7_0] rfl rfl cf14 (zS (e := 78) rfl rfl rfl) (c_laws_eqInt64SS _ _ _ _ _ hF42.rd2 hF40.rd2) ?_
      rintro e46 w46 ⟨rfl,hX46⟩
      refine ⟨_,rfl,hX46,?_⟩
      have hzs46:=hX46.size
      have hE46:=hE36.trans hX46
      have hF37x46 := hF37.ext hX46
      have hF38x46 := hF38.ext ((good_owS (good_oFn 94 dp))) hX46
      have hF39x46 := hF39.ext (o1) hX46
      have hF40x46 := hF40.ext (o2) hX46
      have hF41x46 := hF41.ext hX46
      have hM36x46 := hM36.ext (o1) hX46
      have hF42x46 := hF42.ext (o2) hX46
      have hF43x46 := hF43.ext ((good_owS (good_oFn 94 dp))) hX46
      have hF44x46 := hF44.ext (o1) hX46
      refine q_not (!(decide ((rtR p f a n) = (rtR p f a n)))) rfl rfl (zS (e := 78) rfl rfl rfl) ?_
      refine q_pick false (.bool (!(decide ((rtR p f a n) = (rtR p f a n))))) rfl rfl zN ?_
      refine q_move (.bool (!(decide ((rtR p f a n) = (rtR p f a n))))) rfl zN ?_
      cases hb47 : (!(decide ((rtR p f a n) = (rtR p f a n))))
      ·
       refine q_move (.int .i64 (rtC p f a n)) rfl (zS (e := 84) rfl rfl rfl) ?_
       refine q_move (.int .i64 (rtC p f a n)) rfl (zS (e := 84) rfl rfl rfl) ?_
       refine q_neq false rfl rfl (by simp) (zS (e := 84) rfl rfl rfl) ?_
       refine q_pick false (.bool false) rfl rfl zN ?_
       refine lw_nil ?_
       refine c_cond_f rfl ?_
       refine wp_skip ?_
       refine wp_seq ?_
       refine wp_plain _ [0] rfl ?_
       refine q_assign (.int .i64 ((1 :Nat):Int)) rfl zN ?_
       refine lw_nil ?_
       refine wp_seq ?_
       refine wp_plain _ [0,0,4,0] rfl ?_
       refine q_move v18_0 rfl zN ?_
       refine q_move (.int .i64 ((1 :Nat):Int)) rfl zN ?_
       obtain ⟨G48,ha48,hb48,hc48⟩ := hF42x46
       refine lw_callE 19 [] [] [v18_0,(.int .i64 ((1 :Nat):Int))] rfl rfl cf19 zN (c_laws_markInt64SS _ _ _ _ _ ha48 hb48 (by omega) (by omega)) ?_
       rintro e48 w48 ⟨rfl,hC48,hO48⟩
       refine ⟨_,rfl,?_⟩
       have hE48 : Ext w w48 := hC48.below hE46 (fun b hb => Nat.le_trans hE17.size (hc48 b hb).1) hE46.size
       have hF48 := hc48
       have hM48 : Fr (owL (owL rI 2) 25) w17.heap.size w18.heap.size w48.heap v18_0 _ := ⟨G48,hO48,hb48,hc48⟩
       have hzs48:=hC48.size
       have hF49 := hF37x46.chg hC48 (fun hm => by have := hF48 _ hm; omega)
       have hF50 := hF38x46.chg ((good_owS (good_oFn 94 dp))) hC48 (fun c hc => by have := hF48 c hc; omega)
       have hF51 := hF39x46.chg (o1) hC48 (fun c hc => by have := hF48 c hc; omega)
       have hF52 := hF40x46.chg (o2) hC48 (fun c hc => by have := hF48 c hc; omega)
       have hF53 := hF41x46.chg hC48 (fun hm => by have := hF48 _ hm; omega)
       have hF54 := hM36x46.chg (o1) hC48 (fun c hc => by have := hF48 c hc; omega)
       have hF55 := hF43x46.chg ((good_owS (good_oFn 94 dp))) hC48 (fun c hc => by have := hF48 c hc; omega)
       have hF56 := hF44x46.chg (o1) hC48 (fun c hc => by have := hF48 c hc; omega)
       refine q_assign (.int .i64 (((1 :Nat):Int) + ((tot (rtR p f a n) (rtR p f a n).length :Nat):Int))) rfl zN ?_
       refine lw_nil ?_
       refine wp_seq ?_
       refine wp_plain _ [0] rfl ?_
       refine q_assign (.int .i64 ((1 :Nat):Int)) rfl zN ?_
       refine lw_nil ?_
       refine wp_seq ?_
       refine wp_plain _ [0,0,3,0] rfl ?_
       refine q_move v18_0 rfl zN ?_
       refine q_move (.int .i64 ((1 :Nat):Int)) rfl zN ?_
       refine lw_call 20 [] [] [v18_0,(.int .i64 ((1 :Nat):Int))] rfl rfl cf20 zN (c_laws_heldInt64SS _ _ _ _ hM48.rd2 (by omega) (by rw [mk2_len,mk2_tot _ _ _ (Nat.le_refl _)]; omega) (by intro i hi; rw [mk2_len] at hi; rw [mk2_row,mk2_tot _ _ _ (Nat.le_of_lt hi),mk2_get hi])) ?_
       rintro e57 w57 ⟨rfl,hX57⟩
       refine ⟨_,rfl,hX57,?_⟩
       have hzs57:=hX57.size
       have hE57:=hE48.trans hX57
       have hF49x57 := hF49.ext hX57
       have hF50x57 := hF50.ext ((good_owS (good_oFn 94 dp))) hX57
       have hF51x57 := hF51.ext (o1) hX57
       have hF52x57 := hF52.ext (o2) hX57
       have hF53x57 := hF53.ext hX57
       have hF54x57 := hF54.ext (o1) hX57
       have hM48x57 := hM48.ext (o2) hX57
       have hF55x57 := hF55.ext ((good_owS (good_oFn 94 dp))) hX57
       have hF56x57 := hF56.ext (o1) hX57
       refine q_assign (.int .i64 (((1 :Nat):Int) + ((tot (mk2 (rtR p f a n) ((1 :Nat):Int)) (mk2 (rtR p f a n) ((1 :Nat):Int)).length :Nat):Int))) rfl zN ?_
       refine lw_nil ?_
       refine wp_seq ?_
       refine wp_seq ?_
       refine wp_plain _ [0,0] rfl ?_
       refine q_move (.int .i64 (((1 :Nat):Int) + ((tot (mk2 (rtR p f a n) ((1 :Nat):Int)) (mk2 (rtR p f a n) ((1 :Nat):Int)).length :Nat):Int))) rfl zN ?_
       by_cases hc58 : ((1 :Nat):Int) + ((tot (mk2 (rtR p f a n) ((1 :Nat):Int)) (mk2 (rtR p f a n) ((1 :Nat):Int)).length :Nat):Int) < ((0 :Nat):Int)
       ·
        refine q_lss true rfl rfl (decide_eq_true hc58) zN ?_
        refine lw_nil ?_
        refine c_cond_t rfl ?_
        refine wp_seq ?_
        refine wp_plain _ [0] rfl ?_
        refine q_assign (.bool false) rfl zN ?_
        refine lw_nil ?_
        refine wp_ret ?_
        refine t_ret ?_
        exact post_ret [8] rfl (.bool false) rfl ⟨(by first | rfl | (exfalso; omega) | simp_all),hE57⟩
       ·
        refine q_lss false rfl rfl (decide_eq_false hc58) zN ?_
        refine lw_nil ?_
        refine c_cond_f rfl ?_
        refine wp_skip ?_
        refine wp_seq ?_
        refine wp_seq ?_
        refine wp_plain _ [0,0,0] rfl ?_
        have hmt : tot (mk2 (rtR p f a n) ((1 :Nat):Int)) (mk2 (rtR p f a n) ((1 :Nat):Int)).length = tot (rtR p f a n) (rtR p f a n).length := by rw [mk2_len,mk2_tot _ _ _ (Nat.le_refl _)]
        refine q_move (.int .i64 (((1 :Nat):Int) + ((tot (mk2 (rtR p f a n) ((1 :Nat):Int)) (mk2 (rtR p f a n) ((1 :Nat):Int)).length :Nat):Int))) rfl zN ?_
        refine q_move (.int .i64 (((1 :Nat):Int) + ((tot (rtR p f a n) (rtR p f a n).length :Nat):Int))) rfl zN ?_
        by_cases hc59 : ((1 :Nat):Int) + ((tot (mk2 (rtR p f a n) ((1 :Nat):Int)) (mk2 (rtR p f a n) ((1 :Nat):Int)).length :Nat):Int) ≠ ((1 :Nat):Int) + ((tot (rtR p f a n) (rtR p f a n).length :Nat):Int)
        ·
         refine q_neq true rfl rfl (decide_eq_true hc59) zN ?_
         refine lw_nil ?_
         refine c_cond_t rfl ?_
         refine wp_seq ?_
         refine wp_plain _ [0] rfl ?_
         refine q_assign (.bool false) rfl zN ?_
         refine lw_nil ?_
         refine wp_ret ?_
         refine t_ret ?_
         exact post_ret [8] rfl (.bool false) rfl ⟨(by first | rfl | (exfalso; omega) | simp_all),hE57⟩
        ·
         refine q_neq false rfl rfl (decide_eq_false hc59) zN ?_
         refine lw_nil ?_
         refine c_cond_f rfl ?_
         refine wp_skip ?_
         refine wp_seq ?_
         refine wp_plain _ [2,3,0,0,3,0,3,0,0,0,0,0] rfl ?_
         refine q_loadA (p := (.pointer (some ⟨w.heap.size,0,none⟩))) (.inr rfl) [vp] agg24 rfl (fun w9 hw9 => LD.of_box (BX.ext (w := w57) hF49x57 hw9)) rfl zN ?_
         refine lw_call 11 [] [] [(.agg #[vp])] rfl rfl cf11 zN (c_laws_toProgram _ dp vp (p) (hp.ext (good_rdS (good_rFn dp)) hE57) (by omega)) ?_
         rintro e60 w60 ⟨v60,rfl,hX60,hO60⟩
         refine ⟨_,rfl,hX60,?_⟩
         have hzs60:=hX60.size
         have hE60:=hE57.trans hX60
         have hF49x60 := hF49x57.ext hX60
         have hF50x60 := hF50x57.ext ((good_owS (good_oFn 94 dp))) hX60
         have hF51x60 := hF51x57.ext (o1) hX60
         have hF52x60 := hF52x57.ext (o2) hX60
         have hF53x60 := hF53x57.ext hX60
         have hF54x60 := hF54x57.ext (o1) hX60
         have hM48x60 := hM48x57.ext (o2) hX60
         have hF55x60 := hF55x57.ext ((good_owS (good_oFn 94 dp))) hX60
         have hF56x60 := hF56x57.ext (o1) hX60
         refine q_move (.int .i64 f) rfl zN ?_
         refine q_move va rfl zN ?_
         refine lw_call 12 [] [] [va] rfl rfl cf12 zN (c_laws_toInt64S _ _ _ (ha.ext g1 hE60) (by omega)) ?_
         rintro e61 w61 ⟨v61_0,rfl,hX61,hO61_0⟩
         refine ⟨_,rfl,hX61,?_⟩
         have hzs61:=hX61.size
         have hE61:=hE60.trans hX61
         have hF49x61 := hF49x60.ext hX61
         have hF50x61 := hF50x60.ext ((good_owS (good_oFn 94 dp))) hX61
         have hF51x61 := hF51x60.ext (o1) hX61
         have hF52x61 := hF52x60.ext (o2) hX61
         have hF53x61 := hF53x60.ext hX61
         have hF54x61 := hF54x60.ext (o1) hX61
         have hM48x61 := hM48x60.ext (o2) hX61
         have hF55x61 := hF55x60.ext ((good_owS (good_oFn 94 dp))) hX61
         have hF56x61 := hF56x60.ext (o1) hX61
         have hO60x61 := hO60.ext ((good_owS (good_oFn 94 dp))) hX61
         refine q_move (.int .i64 n) rfl zN ?_
         refine lw_call 13 [] [] [(.agg #[v60]),(.int .i64 f),v61_0,(.int .i64 n)] rfl rfl cf13 zN (c_impl_RoundStates _ dp v60 (p) _ _ _ _ (RN.of_frF hO60x61 (fun b hb => by cases hb)) _hf hO61_0.rd1 _hn (by exact hz)) ?_
         rintro e62 w62 ⟨v62_0,rfl,hX62,hO62_0,hP62_0,hP62_1⟩
         refine ⟨_,rfl,hX62,?_⟩
         have hzs62:=hX62.size
         have hE62:=hE61.trans hX62
         have hF49x62 := hF49x61.ext hX62
         have hF50x62 := hF50x61.ext ((good_owS (good_oFn 94 dp))) hX62
         have hF51x62 := hF51x61.ext (o1) hX62
         have hF52x62 := hF52x61.ext (o2) hX62
         have hF53x62 := hF53x61.ext hX62
         have hF54x62 := hF54x61.ext (o1) hX62
         have hM48x62 := hM48x61.ext (o2) hX62
         have hF55x62 := hF55x61.ext ((good_owS (good_oFn 94 dp))) hX62
         have hF56x62 := hF56x61.ext (o1) hX62
         have hO60x62 := hO60x61.ext ((good_owS (good_oFn 94 dp))) hX62
         have hO61_0x62 := hO61_0.ext (o1) hX62
         refine q_move (.tuple #[v62_0,(.int .i64 (rtC p f a n))]) rfl zN ?_
         refine q_extract (vs := [v62_0,(.int .i64 (rtC p f a n))]) v62_0 rfl rfl zN ?_
         refine q_extract (vs := [v62_0,(.int .i64 (rtC p f a n))]) (.int .i64 (rtC p f a n)) rfl rfl zN ?_
         refine q_assign v62_0 rfl zN ?_
         refine q_assign (.int .i64 (rtC p f a n)) rfl zN ?_
         refine lw_nil ?_
         refine wp_seq ?_
         refine wp_seq ?_
         refine wp_plain _ [0,0,3,0,0,0,0,0,0] rfl ?_
         refine q_move v62_0 rfl zN ?_
         refine q_move v7_0 rfl zN ?_
         refine lw_call 14 [] [] [v62_0,v7_0] rfl rfl cf14 zN (c_laws_eqInt64SS _ _ _ _ _ hO62_0.rd2 hF52x62.rd2) ?_
         rintro e63 w63 ⟨rfl,hX63⟩
         refine ⟨_,rfl,hX63,?_⟩
         have hzs63:=hX63.size
         have hE63:=hE62.trans hX63
         have hF49x63 := hF49x62.ext hX63
         have hF50x63 := hF50x62.ext ((good_owS (good_oFn 94 dp))) hX63
         have hF51x63 := hF51x62.ext (o1) hX63
         have hF52x63 := hF52x62.ext (o2) hX63
         have hF53x63 := hF53x62.ext hX63
         have hF54x63 := hF54x62.ext (o1) hX63
         have hM48x63 := hM48x62.ext (o2) hX63
         have hF55x63 := hF55x62.ext ((good_owS (good_oFn 94 dp))) hX63
         have hF56x63 := hF56x62.ext (o1) hX63
         have hO60x63 := hO60x62.ext ((good_owS (good_oFn 94 dp))) hX63
         have hO61_0x63 := hO61_0x62.ext (o1) hX63
         have hO62_0x63 := hO62_0.ext (o2) hX63
         refine q_not (!(decide ((rtR p f a n) = (rtR p f a n)))) rfl rfl zN ?_
         refine q_move (.bool (!(decide ((rtR p f a n) = (rtR p f a n))))) rfl zN ?_
         cases hb64 : (!(decide ((rtR p f a n) = (rtR p f a n))))
         ·
          refine q_move (.int .i64 (rtC p f a n)) rfl (zS (e := 114) rfl rfl rfl) ?_
          refine q_move (.int .i64 (rtC p f a n)) rfl (zS (e := 114) rfl rfl rfl) ?_
          refine q_neq false rfl rfl (by simp) (zS (e := 114) rfl rfl rfl) ?_
          refine q_pick false (.bool false) rfl rfl zN ?_
          refine lw_nil ?_
          refine c_cond_f rfl ?_
          refine wp_skip ?_
          refine wp_seq ?_
          refine wp_plain _ [0] rfl ?_
          refine q_assign (.int .i64 ((1 :Nat):Int)) rfl zN ?_
          refine lw_nil ?_
          refine wp_seq ?_
          refine wp_plain _ [0,0,3,0] rfl ?_
          refine q_move v18_0 rfl zN ?_
          refine q_move (.int .i64 ((1 :Nat):Int)) rfl zN ?_
          refine lw_call 20 [] [] [v18_0,(.int .i64 ((1 :Nat):Int))] rfl rfl cf20 zN (c_laws_heldInt64SS _ _ _ _ hM48x63.rd2 (by omega) (by rw [mk2_len,mk2_tot _ _ _ (Nat.le_refl _)]; omega) (by intro i hi; rw [mk2_len] at hi; rw [mk2_row,mk2_tot _ _ _ (Nat.le_of_lt hi),mk2_get hi])) ?_
          rintro e65 w65 ⟨rfl,hX65⟩
          refine ⟨_,rfl,hX65,?_⟩
          have hzs65:=hX65.size
          have hE65:=hE63.trans hX65
          have hF49x65 := hF49x63.ext hX65
          have hF50x65 := hF50x63.ext ((good_owS (good_oFn 94 dp))) hX65
          have hF51x65 := hF51x63.ext (o1) hX65
          have hF52x65 := hF52x63.ext (o2) hX65
          have hF53x65 := hF53x63.ext hX65
          have hF54x65 := hF54x63.ext (o1) hX65
          have hM48x65 := hM48x63.ext (o2) hX65
          have hF55x65 := hF55x63.ext ((good_owS (good_oFn 94 dp))) hX65
          have hF56x65 := hF56x63.ext (o1) hX65
          have hO60x65 := hO60x63.ext ((good_owS (good_oFn 94 dp))) hX65
          have hO61_0x65 := hO61_0x63.ext (o1) hX65
          have hO62_0x65 := hO62_0x63.ext (o2) hX65
          refine q_assign (.int .i64 (((1 :Nat):Int) + ((tot (mk2 (rtR p f a n) ((1 :Nat):Int)) (mk2 (rtR p f a n) ((1 :Nat):Int)).length :Nat):Int))) rfl zN ?_
          refine lw_nil ?_
          refine wp_seq ?_
          refine wp_seq ?_
          refine wp_plain _ [0,0] rfl ?_
          refine q_move (.int .i64 (((1 :Nat):Int) + ((tot (mk2 (rtR p f a n) ((1 :Nat):Int)) (mk2 (rtR p f a n) ((1 :Nat):Int)).length :Nat):Int))) rfl zN ?_
          by_cases hc66 : ((1 :Nat):Int) + ((tot (mk2 (rtR p f a n) ((1 :Nat):Int)) (mk2 (rtR p f a n) ((1 :Nat):Int)).length :Nat):Int) < ((0 :Nat):Int)
          ·
           refine q_lss true rfl rfl (decide_eq_true hc66) zN ?_
           refine lw_nil ?_
           refine c_cond_t rfl ?_
           refine wp_seq ?_
           refine wp_plain _ [0] rfl ?_
           refine q_assign (.bool false) rfl zN ?_
           refine lw_nil ?_
           refine wp_ret ?_
           refine t_ret ?_
           exact post_ret [8] rfl (.bool false) rfl ⟨(by first | rfl | (exfalso; omega) | simp_all),hE65⟩
          ·
           refine q_lss false rfl rfl (decide_eq_false hc66) zN ?_
           refine lw_nil ?_
           refine c_cond_f rfl ?_
           refine wp_skip ?_
           refine wp_seq ?_
           refine wp_seq ?_
           refine wp_plain _ [0,0,0] rfl ?_
           have hmt : tot (mk2 (rtR p f a n) ((1 :Nat):Int)) (mk2 (rtR p f a n) ((1 :Nat):Int)).length = tot (rtR p f a n) (rtR p f a n).length := by rw [mk2_len,mk2_tot _ _ _ (Nat.le_refl _)]
           refine q_move (.int .i64 (((1 :Nat):Int) + ((tot (mk2 (rtR p f a n) ((1 :Nat):Int)) (mk2 (rtR p f a n) ((1 :Nat):Int)).length :Nat):Int))) rfl zN ?_
           refine q_move (.int .i64 (((1 :Nat):Int) + ((tot (rtR p f a n) (rtR p f a n).length :Nat):Int))) rfl zN ?_
           by_cases hc67 : ((1 :Nat):Int) + ((tot (mk2 (rtR p f a n) ((1 :Nat):Int)) (mk2 (rtR p f a n) ((1 :Nat):Int)).length :Nat):Int) ≠ ((1 :Nat):Int) + ((tot (rtR p f a n) (rtR p f a n).length :Nat):Int)
           ·
            refine q_neq true rfl rfl (decide_eq_true hc67) zN ?_
            refine lw_nil ?_
            refine c_cond_t rfl ?_
            refine wp_seq ?_
            refine wp_plain _ [0] rfl ?_
            refine q_assign (.bool false) rfl zN ?_
            refine lw_nil ?_
            refine wp_ret ?_
            refine t_ret ?_
            exact post_ret [8] rfl (.bool false) rfl ⟨(by first | rfl | (exfalso; omega) | simp_all),hE65⟩
           ·
            refine q_neq false rfl rfl (decide_eq_false hc67) zN ?_
            refine lw_nil ?_
            refine c_cond_f rfl ?_
            refine wp_skip ?_
            refine wp_seq ?_
            refine wp_plain _ [0] rfl ?_
            refine q_assign (.bool true) rfl zN ?_
            refine lw_nil ?_
            refine wp_ret ?_
            exact post_ret [8] rfl (.bool true) rfl ⟨(by first | rfl | (exfalso; omega) | simp_all),hE65⟩
         ·
          refine lw_skip (e := 114) (c := true) rfl rfl rfl rfl ?_
          refine lw_skip (e := 114) (c := true) rfl rfl rfl rfl ?_
          refine lw_skip (e := 114) (c := true) rfl rfl rfl rfl ?_
          refine q_pick true (.bool true) rfl rfl zN ?_
          refine lw_nil ?_
          refine c_cond_t rfl ?_
          refine wp_seq ?_
          refine wp_plain _ [0] rfl ?_
          refine q_assign (.bool false) rfl zN ?_
          refine lw_nil ?_
          refine wp_ret ?_
          refine t_ret ?_
          exact post_ret [8] rfl (.bool false) rfl ⟨(by first | rfl | (exfalso; omega) | simp_all),hE63⟩
      ·
       refine lw_skip (e := 84) (c := true) rfl rfl rfl rfl ?_
       refine lw_skip (e := 84) (c := true) rfl rfl rfl rfl ?_
       refine lw_skip (e := 84) (c := true) rfl rfl rfl rfl ?_
       refine q_pick true (.bool true) rfl rfl zN ?_
       refine lw_nil ?_
       refine c_cond_t rfl ?_
       refine wp_seq ?_
       refine wp_plain _ [0] rfl ?_
       refine q_assign (.bool false) rfl zN ?_
       refine lw_nil ?_
       refine wp_ret ?_
       refine t_ret ?_
       exact post_ret [8] rfl (.bool false) rfl ⟨(by first | rfl | (exfalso; omega) | simp_all),hE46⟩
    ·
     refine c_cond_t (by first | rfl | (show Value.bool _ = _; rw [hb25])) ?_
     refine wp_seq ?_
     refine wp_plain _ [0] rfl ?_
     refine q_assign (.bool false) rfl zN ?_
     refine lw_nil ?_
     refine wp_ret ?_
     refine t_ret ?_
     exact post_ret [8] rfl (.bool false) rfl ⟨(by first | rfl | (exfalso; omega) | simp_all),hE24⟩
   ·
    refine lw_skip (e := 55) (c := true) rfl rfl rfl rfl ?_
    refine lw_skip (e := 55) (c := true) rfl rfl rfl rfl ?_
    refine lw_skip (e := 55) (c := true) rfl rfl rfl rfl ?_
    refine q_pick true (.bool true) rfl rfl zN ?_
    refine lw_nil ?_
    refine c_cond_t rfl ?_
    refine wp_seq ?_
    refine wp_plain _ [0] rfl ?_
    refine q_assign (.bool false) rfl zN ?_
    refine lw_nil ?_
    refine wp_ret ?_
    refine t_ret ?_
    exact post_ret [8] rfl (.bool false) rfl ⟨(by first | rfl | (exfalso; omega) | simp_all),hE19⟩
end Go.Proofs.YtnofbmdpabcjaaaGreat
namespace Go.Proofs.YtnofbmdpabcjaaaGreat
open Go Go.RowKit Go.ChangeShapes Go.WideShapes Go.Deep
set_option linter.unusedVariables false
set_option linter.unusedSimpArgs false
theorem flat_get {s : Nat} : ∀ {css : List (List Value)} (k : Nat) {j : Nat}, (∀ c ∈ css, c.length = s) → j < s → css.flatten[k * s + j]? = (css[k]?).bind fun c => c[j]?
  | [], k, j, _, _ => by simp
  | c :: css, 0, j, h, hj => by
    have hc := h c (List.mem_cons_self ..)
    rw [Nat.zero_mul, Nat.zero_add, List.flatten_cons, List.getElem?_append_left (by omega)]
    simp
  | c :: css, k + 1, j, h, hj => by
    have hc := h c (List.mem_cons_self ..)
    rw [List.flatten_cons, List.getElem?_append_right (by rw [Nat.succ_mul]; omega), show (k + 1) * s + j - c.length = k * s + j from by rw [Nat.succ_mul]; omega,
      flat_get k (fun c hc => h c (List.mem_cons_of_mem _ hc)) hj]
    simp
theorem elsN_of {α : Type} {E : StandN α} {H : Array Obj} (U : Nat → List Value) (X : Nat → α) : ∀ (n : Nat), (∀ i, i < n → ∃ F, E H (U i) (X i) F) → ∃ F, elsN E H ((List.range n).map U) ((List.range n).map X) F
  | 0, _ => ⟨[], rfl⟩
  | n + 1, h => by
    obtain ⟨F, hF⟩ := elsN_of U X n fun i hi => h i (by omega)
    obtain ⟨G, hG⟩ := h n (by omega)
    rw [List.range_succ, List.map_append, List.map_append]
    exact ⟨F ++ (G ++ []), hF.append ⟨G, [], rfl, hG, rfl⟩⟩
theorem rdS_row {α : Type} {E : StandN α} {s : Nat} (hE : GoodN s E) (hs : 0 < s) {W : World} {a : Addr} {n cap : Nat} (hn : n ≤ maxLen) (hnc : n ≤ cap) (U : Nat → List Value) (X : Nat → α)
    (hc : ∀ i, i < n → ∀ j, j < s → W.cell? (a.add (i * s + j)) = (U i)[j]?) (hX : ∀ i, i < n → ∃ F, E W.heap (U i) (X i) F) : ∃ F, rdS s E W.heap (.slice (some a) n cap) ((List.range n).map X) F := by
  by_cases h0 : n = 0
  · subst h0
    exact ⟨[], .inl ⟨some a, cap, rfl, rfl, rfl⟩⟩
  · obtain ⟨F, hF⟩ := elsN_of U X n hX
    have hlU : ∀ i, i < n → (U i).length = s := fun i hi => by obtain ⟨G, hG⟩ := hX i hi; exact hE.len hG
    obtain ⟨g, off, spot⟩ := a
    have h1 := hc 0 (by omega) 0 hs
    rw [List.getElem?_eq_getElem (by rw [hlU 0 (by omega)]; exact hs)] at h1
    have hsp : spot = none := by simpa [Addr.add] using World.cell?_spot h1
    subst hsp
    have hcell : ∀ i, i < n → ∀ j, j < s → cellH W.heap g (off + (i * s + j)) = (U i)[j]? := fun i hi j hj => by
      have := hc i hi j hj
      rw [add_plain, cell_cellH] at this
      exact this
    have h2 := hcell 0 (by omega) 0 hs
    rw [List.getElem?_eq_getElem (by rw [hlU 0 (by omega)]; exact hs)] at h2
    unfold cellH at h2
    cases hg : W.heap[g]? with
    | none => rw [hg] at h2; cases h2
    | some o =>
      cases o with
      | cells cur e fr =>
        refine ⟨g :: F, .inr ⟨(List.range n).map U, g, off, cap, cur, e, fr, F, hF, by simp, hg, ?_, ⟨by simpa using hn, by simpa using hnc⟩, rfl⟩⟩
        have hlen : ∀ c ∈ (List.range n).map U, c.length = s := fun c hc => by
          obtain ⟨i, hi, rfl⟩ := List.mem_map.1 hc
          exact hlU i (List.mem_range.1 hi)
        have hfl := hF.flen hE
        apply List.ext_getElem?
        intro q
        rw [List.getElem?_take, List.getElem?_drop]
        simp only [List.length_map, List.length_range] at hfl ⊢
        by_cases hq : q < n * s
        · have e1 : q = q / s * s + q % s := by rw [Nat.mul_comm, Nat.div_add_mod]
          have hj : q % s < s := Nat.mod_lt _ hs
          have hi : q / s < n := (Nat.div_lt_iff_lt_mul hs).2 hq
          have h3 := hcell (q / s) hi (q % s) hj
          unfold cellH at h3
          rw [hg, ← e1] at h3
          have h4 := flat_get (css := (List.range n).map U) (q / s) hlen hj
          rw [← e1] at h4
          rw [if_pos hq, h4]
          simp only [Array.getElem?_toList] at *
          rw [h3]
          simp [hi]
        · rw [if_neg hq, List.getElem?_eq_none (by omega)]
      | _ => rw [hg] at h2; cases h2
/-- What the table of types says of a struct: places and types. -/
def stTy (P : Program) (t : TypeId) (l : List (Nat × TypeId)) : Bool :=
  match P.underlying t with
  | some (.struct fs) => decide (fs.toList.map (fun f => (f.offset, f.type)) = l)
  | _ => false
section
variable {H : Type} {enc : TypeId × Value → H} {P : Program} {W : World} {base : Nat} {held : Bool} {sp : Nat → Bool}
theorem st_field {t : TypeId} {l : List (Nat × TypeId)} {fuel : Nat} {cs : List Value} {x : DataW H × List MemPlace} (ht : stTy P t l = true) (h : DataW.trod enc P W base sp held fuel t cs = some x) :
    ∃ n, fuel = n + 1 ∧ cs.length = P.cellsOf t ∧ ∀ (i o : Nat) (ty : TypeId), l[i]? = some (o, ty) → ∃ y, DataW.trod enc P W base sp held n ty ((cs.drop o).take (P.cellsOf ty)) = some y := by
  unfold stTy at ht
  split at ht
  · rename_i fs hfs
    have hl := of_decide_eq_true ht
    obtain ⟨xs, n, hfu, _, hlen, hxl, hf⟩ := DataW.trod_struct hfs h
    refine ⟨n, hfu, hlen, fun i o ty hi => ?_⟩
    rw [← hl, List.getElem?_map] at hi
    obtain ⟨f, hf1, hf2⟩ := Option.map_eq_some_iff.1 hi
    have hf3 : fs[i]? = some f := by simpa using hf1
    have hil : i < xs.length := by
      rw [hxl]
      exact (Array.getElem?_eq_some_iff.1 hf3).1
    have h2 := hf i f hf3
    injection hf2 with e1 e2
    rw [← e1, ← e2, h2]
    exact ⟨xs[i], List.getElem?_eq_getElem hil⟩
  · cases ht
theorem rEx_up : ∀ {d : Nat} {H : Array Obj} {cs : List Value} {x : Ex} {F : List Nat}, rEx d H cs x F → rEx (d + 1) H cs x F
  | 0, _, _, _, _, h => h.elim
  | d + 1, _, _, _, _, ⟨v, h1, h2, h3⟩ => ⟨v, h1, h2, h3.imp fun h => rEx_up h⟩
/-- A slice of structs, opened. -/
theorem open_rdS {α : Type} [Inhabited α] {E : StandN α} {t e : TypeId} {s fuel : Nat} {u : Value} {x : DataW H × List MemPlace} (hE : GoodN s E) (hs : 0 < s) (ht : P.underlying t = some (.slice e)) (ce : P.cellsOf e = s)
    (hel : ∀ {n : Nat} {cs : List Value} {x : DataW H × List MemPlace}, fuel = n + 1 → DataW.trod enc P W base (fun _ => true) held n e cs = some x → ∃ (y : α) (F : List Nat), E W.heap cs y F)
    (hf : DataW.trod enc P W base (fun _ => true) held fuel t [u] = some x) : ∃ (zs : List α) (F : List Nat), rdS s E W.heap u zs F := by
  rcases DataW.trod_slice ht hf with ⟨hcs, _⟩ | ⟨a, len, cap, elems, rest, n, hfu, hcs, _, _, hl, hm, hlen, helm, _, _⟩
  · simp only [List.cons.injEq, and_true] at hcs
    subst hcs
    exact ⟨[], [], .inl ⟨none, 0, rfl, rfl, rfl⟩⟩
  · simp only [List.cons.injEq, and_true] at hcs
    subst hcs
    have h1 : ∀ i, i < len → ∃ c : List Value × α, (∀ j, j < s → W.cell? (a.add (i * s + j)) = c.1[j]?) ∧ ∃ F, E W.heap c.1 c.2 F := by
      intro i hi
      have h2 := helm i hi
      rw [List.getElem?_eq_getElem (by omega)] at h2
      obtain ⟨cs', q1, q2⟩ := Option.bind_eq_some_iff.1 h2
      obtain ⟨_, ql, qc⟩ := World.cells?_some q1
      obtain ⟨y, F, hy⟩ := hel hfu q2
      refine ⟨(cs', y), fun j hj => ?_, F, hy⟩
      have := qc j (by rw [ce]; exact hj)
      rwa [add_add, ce] at this
    obtain ⟨C, hC⟩ := choose_lt (α := List Value × α) (n := len) h1
    obtain ⟨F, hF⟩ := rdS_row hE hs (W := W) (a := a) (n := len) (cap := cap) (by omega) hl (fun i => (C i).1) (fun i => (C i).2) (fun i hi => (hC i hi).1) (fun i hi => (hC i hi).2)
    exact ⟨_, F, hF⟩
instance : Inhabited Ex := ⟨Ex.zero⟩
instance : Inhabited Fn := ⟨Fn.zero⟩
/-- Expressions, opened. -/
theorem open_exs {tS tE ti : TypeId} (hS : P.underlying tS = some (.slice tE)) (hE : stTy P tE [(0, ti), (1, ti), (2, ti), (3, ti), (4, tS)] = true) (hi : P.underlying ti = some (.int .i64)) (cE : P.cellsOf tE = 5) (ci : P.cellsOf ti = 1) (cS : P.cellsOf tS = 1) :
    ∀ (fuel : Nat) (u : Value) (x : DataW H × List MemPlace), DataW.trod enc P W base (fun _ => true) held fuel tS [u] = some x → ∃ (zs : List Ex) (F : List Nat), rdS 5 (rEx fuel) W.heap u zs F := by
  intro fuel
  induction fuel using Nat.strongRecOn with
  | _ fuel ih =>
    intro u x hf
    refine open_rdS (good_rEx fuel) (by decide) hS cE ?_ hf
    intro n cs y hfu hy
    obtain ⟨m, hm, hlen, hfd⟩ := st_field hE hy
    have num : ∀ o, o < 4 → ∃ z : Int, (cs.drop o).take 1 = [.int .i64 z] ∧ i64 z := by
      intro o ho
      obtain ⟨y', hy'⟩ := hfd o o ti (by match o, ho with | 0, _ => rfl | 1, _ => rfl | 2, _ => rfl | 3, _ => rfl)
      rw [ci] at hy'
      obtain ⟨z, hz, _, hw⟩ := DataW.trod_int hi hy'
      exact ⟨z, hz, wf_i64 hw⟩
    obtain ⟨y4, hy4⟩ := hfd 4 4 tS rfl
    rw [cS] at hy4
    rw [cE] at hlen
    match cs, hlen with
    | [c0, c1, c2, c3, c4], _ =>
      obtain ⟨z0, e0, r0⟩ := num 0 (by decide)
      obtain ⟨z1, e1, r1⟩ := num 1 (by decide)
      obtain ⟨z2, e2, r2⟩ := num 2 (by decide)
      obtain ⟨z3, e3, r3⟩ := num 3 (by decide)
      have q0 : c0 = .int .i64 z0 := by simpa using e0
      have q1 : c1 = .int .i64 z1 := by simpa using e1
      have q2 : c2 = .int .i64 z2 := by simpa using e2
      have q3 : c3 = .int .i64 z3 := by simpa using e3
      subst q0; subst q1; subst q2; subst q3
      obtain ⟨zs, F, hz⟩ := ih m (by omega) c4 y4 hy4
      subst hm
      subst hfu
      exact ⟨.mk z0 z1 z2 z3 zs, F, rEx_up (d := m + 1) ⟨c4, rfl, ⟨r0, r1, r2, r3⟩, hz⟩⟩
/-- A program, opened. -/
theorem open_prog {t tF tN tS tE ti tz : TypeId} {d : DataW H} {ps : List MemPlace} {v : Value} {b0 : Nat} {r : Reach} (hP : stTy P t [(0, tF)] = true) (hF : P.underlying tF = some (.slice tN)) (hN : stTy P tN [(0, tz), (1, ti), (2, tS)] = true)
    (hS : P.underlying tS = some (.slice tE)) (hE : stTy P tE [(0, ti), (1, ti), (2, ti), (3, ti), (4, tS)] = true) (hi : P.underlying ti = some (.int .i64)) (hz : P.underlying tz = some .string)
    (cP : P.cellsOf t = 1) (cF : P.cellsOf tF = 1) (cN : P.cellsOf tN = 3) (cE : P.cellsOf tE = 5) (ci : P.cellsOf ti = 1) (cS : P.cellsOf tS = 1) (cz : P.cellsOf tz = 1)
    (hval : Value.okWide P W r b0 t v) (hd : DataW.Trod enc P W base (fun _ => true) held t v d ps) :
    ∃ (u : Value) (dp : Nat) (p : List Fn), v = .agg #[u] ∧ RP [] dp W.heap u p ∧ ∀ k, k < p.length → (p.getD k Fn.zero).name.size ≤ 9223372036854775807 := by
  have hstr : ∃ fs, P.underlying t = some (.struct fs) := by
    unfold stTy at hP
    split at hP
    · rename_i fs hfs; exact ⟨fs, hfs⟩
    · cases hP
  obtain ⟨fs, hfs⟩ := hstr
  obtain ⟨cs, rfl, hcs⟩ := okWide_struct hfs hval
  obtain ⟨fuel, hf⟩ := hd
  obtain ⟨n, hfu, hlen, hfd⟩ := st_field hP hf
  obtain ⟨y, hy⟩ := hfd 0 0 tF rfl
  rw [cF] at hy
  rw [cP] at hlen
  have hlen' : cs.toList.length = 1 := hlen
  match hcl : cs.toList, hlen' with
  | [u], _ =>
    have hcu : cs = #[u] := by apply Array.ext'; simpa using hcl
    subst hcu
    have hy' : DataW.trod enc P W base (fun _ => true) held n tF [u] = some y := hy
    obtain ⟨zs, F, hzs⟩ := open_rdS (E := fun H cs f F => rFn n H cs f F ∧ f.name.size ≤ 9223372036854775807) (s := 3)
      ⟨fun h => (good_rFn n).len h.1, fun h => (good_rFn n).one h.1, fun h => (good_rFn n).lt h.1, fun h hb => ⟨(good_rFn n).stable h.1 hb, h.2⟩⟩ (by decide) hF cN (by
        intro m cs y hm hy
        obtain ⟨q, hq, hlen, hfd⟩ := st_field hN hy
        rw [cN] at hlen
        obtain ⟨y0, h0⟩ := hfd 0 0 tz rfl
        obtain ⟨y1, h1⟩ := hfd 1 1 ti rfl
        obtain ⟨y2, h2⟩ := hfd 2 2 tS rfl
        rw [cz] at h0
        rw [ci] at h1
        rw [cS] at h2
        match cs, hlen with
        | [c0, c1, c2], _ =>
          obtain ⟨s, e0, _, hs⟩ := DataW.trod_string hz h0
          obtain ⟨z, e1, _, hw⟩ := DataW.trod_int hi h1
          have q0 : c0 = .string s := by simpa using e0
          have q1 : c1 = .int .i64 z := by simpa using e1
          subst q0; subst q1
          obtain ⟨es, F, hes⟩ := open_exs (enc := enc) (W := W) (base := base) (held := held) hS hE hi cE ci cS q c2 y2 h2
          have hup : ∀ k, rdS 5 (rEx (q + k)) W.heap c2 es F := by
            intro k
            induction k with
            | zero => exact hes
            | succ k ih => exact ih.imp fun h => rEx_up h
          have hn : rdS 5 (rEx n) W.heap c2 es F := by
            have := hup (n - q)
            rwa [show q + (n - q) = n from by omega] at this
          exact ⟨⟨s, z, es⟩, F, ⟨c2, rfl, wf_i64 hw, hn⟩, by unfold maxLen at hs; exact hs⟩) hy'
    refine ⟨u, n, zs, rfl, ⟨F, hzs.imp fun h => h.1, fun b hb hm => by cases hm⟩, fun k hk => ?_⟩
    obtain ⟨cs, G, hg, _⟩ := rdS.get (E := fun H cs f F => rFn n H cs f F ∧ f.name.size ≤ 9223372036854775807) (s := 3) ⟨fun h => (good_rFn n).len h.1, fun h => (good_rFn n).one h.1, fun h => (good_rFn n).lt h.1, fun h hb => ⟨(good_rFn n).stable h.1 hb, h.2⟩⟩ Fn.zero hzs hk
    exact hg.2
end
end Go.Proofs.YtnofbmdpabcjaaaGreat
