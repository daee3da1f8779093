/- Vn, Vo, Vq, Vr, Vs, FwZ: texts of this claim, joined; what the claim does not come to is left out. -/
import Derived.Test.YtnofbmdpabcjaaaGreatQA6
import Derived.Test.YtnofbmdpabcjaaaGreatProg
import Derived.Deep.Strs
set_option linter.unusedVariables false
set_option linter.unusedSimpArgs false
namespace Go.Proofs.YtnofbmdpabcjaaaGreat
open Go Go.RowKit
set_option linter.unusedVariables false
set_option linter.unusedSimpArgs false
attribute [local irreducible] LW
theorem c_call (F d : Nat) (IH1 : ∀ F',F' < F→∀ d,SV F' d) (IH2 : ∀ d',d' < d→SV F d') : SC F d := by
 intro w S g pp dp n s0 c0 p ve ex vv env hS hgS hB0 hp hn hs0 hc0 hex henv hqenv hvp hF hwf hse hdp hk
 exact c_spec_l02Run_call w S F g pp dp n s0 c0 p d ve ex vv env hS hgS hB0 hp hn hs0 hc0 hex henv hqenv hvp hF hwf hse hdp hk IH1 IH2
set_option maxHeartbeats 4000000 in
set_option maxRecDepth 100000 in
theorem c_spec_l02Run_expr (w : World) (S : List Nat) (F : Nat) (g : Nat) (pp : Value) (dp n s0 : Nat) (c0 : Int) (p : List Fn) (dex : Nat) (ve : Value) (ex : Ex) (vv : Value) (env : List (List Int)) (hS : ∀ b ∈ S,b < w.heap.size) (hgS : g ∈ S) (hB0 : BX w.heap g [pp,.int .i64 ((n :Nat):Int),.int .i64 ((s0 :Nat):Int),.int .i64 c0]) (hp : RN S (rP (rPr dp)) w.heap pp p) (hn : 1≤n∧n≤13) (hs0 : s0≤3000) (hc0 : 0≤c0∧c0≤9) (hex : RN S (rP (rEx dex)) w.heap ve ex) (henv : RN S (rdL (rdL rI)) w.heap vv env) (hqenv : CapS vv) (hvp : VPr p) (hF : F≤p.length) (hwf : wf p ((F :Nat):Int) ex ((env.length :Nat):Int) = true) (hse : SrE n env) (hdp : env.length + ex.deep≤1000000) (IH1 : ∀ F',F' < F→∀ d,SV F' d) (IH2 : ∀ d',d' < dex→SV F d') :
  Calls Tryz.prog 134 #[.pointer (some ⟨g,0,none⟩),ve,vv] w (fun e w' => ∃ (v : Value) (x : List Int) (s1 : Nat) (c1 : Int),e = .returned v∧Chg [g] w w'∧BX w'.heap g [pp,.int .i64 ((n :Nat):Int),.int .i64 ((s1 :Nat):Int),.int .i64 c1]∧RN S (rdL rI) w'.heap v x∧Ser1 n x∧s1≤3000∧(0≤c1∧c1≤9)∧RelV (go c0 (evE n (evC p n F) ex env s0)) x s1 c1) := by
 refine calls_mk [.pointer (some ⟨g,0,none⟩),ve,vv] 186 Tryz.func134 rfl rfl (by simp) ?_
 have hE0 : Chg [g] w w := Chg.refl [g] w
 have hl_vv := henv.lenL
 unfold maxLen at hl_vv
 have hgl := hB0.lt
 have hq0 := wfN_all (wf_node hwf)
 have hdk := deep_kids ex
 refine wp_seq ?_
 refine wp_plain _ [0] rfl ?_
 refine q_assign (.slice none 0 0) rfl zN ?_
 refine lw_nil ?_
 refine wp_seq ?_
 refine wp_seq ?_
 refine wp_plain _ [0,0,0,2,0] rfl ?_
 refine q_move (.pointer (some ⟨g,0,none⟩)) rfl zN ?_
 refine q_nil rfl zN ?_
 refine q_fldP (p := (.pointer (some ⟨g,0,none⟩))) (b := g) (o := 0) 3 fd123_3 rfl rfl zN ?_
 refine q_load (p := (padd (.pointer (some ⟨g,0,none⟩)) 3)) (.inr rfl) (.int .i64 c0) one2 rfl (hB0.ldp (i := 3) (by simp)) zN ?_
 by_cases hc1 : c0 ≠ ((0 :Nat):Int)
 ·
  refine q_neq true rfl rfl (decide_eq_true hc1) zN ?_
  refine lw_nil ?_
  refine c_cond_t rfl ?_
  refine wp_seq ?_
  refine wp_plain _ [0,0,0,0,2,4,0] rfl ?_
  refine q_move (.pointer (some ⟨g,0,none⟩)) rfl zN ?_
  refine q_move (.pointer (some ⟨g,0,none⟩)) rfl zN ?_
  refine q_nil rfl zN ?_
  refine q_fldP (p := (.pointer (some ⟨g,0,none⟩))) (b := g) (o := 0) 3 fd123_3 rfl rfl zN ?_
  refine q_load (p := (padd (.pointer (some ⟨g,0,none⟩)) 3)) (.inr rfl) (.int .i64 c0) one2 rfl (hB0.ldp (i := 3) (by simp)) zN ?_
  refine lw_callE 148 [] [] [(.pointer (some ⟨g,0,none⟩)),(.int .i64 c0)] rfl rfl cf148 zN (c_spec_l02Run_fail _ S g pp dp (n) (s0) (c0) (p) (c0) (fun b hb => (by have := hS b hb; omega : b < w.heap.size)) hgS hB0 (hp.chg (good_rP (good_rPr dp)) (hE0.sub (subS hgS))) (by omega) (by omega) (by omega) (by omega) (by omega)) ?_
  rintro e2 w2 ⟨v2,x2,s2,c2,rfl,hC2,hB2,hr2,hse2,hsb2,hcb2,hrl2⟩
  refine ⟨_,rfl,?_⟩
  have hzs2:=hC2.size
  have hE2 : Chg [g] w w2 := hE0.trans hC2
  have hsn2 := hse2.1
  have hfs := hrl2.1
  have hff := hrl2.2
  refine q_assign v2 rfl zN ?_
  refine lw_nil ?_
  refine wp_ret ?_
  refine t_ret ?_
  exact post_ret [6] rfl v2 rfl ⟨v2,x2,s2,c2,rfl,hE2,hB2,hr2,(by assumption),(by omega),(by omega),(by rw [hff,if_neg (by omega)]; exact rel_code (by omega))⟩
 ·
  refine q_neq false rfl rfl (decide_eq_false hc1) zN ?_
  refine lw_nil ?_
  refine c_cond_f rfl ?_
  refine wp_skip ?_
  refine wp_seq ?_
  refine wp_seq ?_
  refine wp_plain _ [0,0,0,2,0] rfl ?_
  refine q_move (.pointer (some ⟨g,0,none⟩)) rfl zN ?_
  refine q_nil rfl zN ?_
  refine q_fldP (p := (.pointer (some ⟨g,0,none⟩))) (b := g) (o := 0) 2 fd123_2 rfl rfl zN ?_
  refine q_load (p := (padd (.pointer (some ⟨g,0,none⟩)) 2)) (.inr rfl) (.int .i64 ((s0 :Nat):Int)) one2 rfl (hB0.ldp (i := 2) (by simp)) zN ?_
  by_cases hc6 : ((s0 :Nat):Int) = ((3000 :Nat):Int)
  ·
   refine q_eql true rfl rfl (decide_eq_true hc6) zN ?_
   refine lw_nil ?_
   refine c_cond_t rfl ?_
   refine wp_seq ?_
   refine wp_plain _ [0,4,0] rfl ?_
   refine q_move (.pointer (some ⟨g,0,none⟩)) rfl zN ?_
   refine lw_callE 148 [] [] [(.pointer (some ⟨g,0,none⟩)),(.int .i64 ((7 :Nat):Int))] rfl rfl cf148 zN (c_spec_l02Run_fail _ S g pp dp (n) (s0) (c0) (p) (((7 :Nat):Int)) (fun b hb => (by have := hS b hb; omega : b < w.heap.size)) hgS hB0 (hp.chg (good_rP (good_rPr dp)) (hE0.sub (subS hgS))) (by omega) (by omega) (by omega) (by omega) (by omega)) ?_
   rintro e7 w7 ⟨v7,x7,s7,c7,rfl,hC7,hB7,hr7,hse7,hsb7,hcb7,hrl7⟩
   refine ⟨_,rfl,?_⟩
   have hzs7:=hC7.size
   have hE7 : Chg [g] w w7 := hE0.trans hC7
   have hsn7 := hse7.1
   have hfs := hrl7.1
   have hff := hrl7.2
   refine q_assign v7 rfl zN ?_
   refine lw_nil ?_
   refine wp_ret ?_
   refine t_ret ?_
   exact post_ret [6] rfl v7 rfl ⟨v7,x7,s7,c7,rfl,hE7,hB7,hr7,(by assumption),(by omega),(by omega),(by rw [hff,if_pos (by omega)]; exact rel_budget (by omega) (by omega))⟩
  ·
   refine q_eql false rfl rfl (decide_eq_false hc6) zN ?_
   refine lw_nil ?_
   refine c_cond_f rfl ?_
   refine wp_skip ?_
   refine wp_seq ?_
   refine wp_plain _ [0,0,0,2,0,0,0,4] rfl ?_
   refine q_move (.pointer (some ⟨g,0,none⟩)) rfl zN ?_
   refine q_nil rfl zN ?_
   refine q_fldP (p := (.pointer (some ⟨g,0,none⟩))) (b := g) (o := 0) 2 fd123_2 rfl rfl zN ?_
   refine q_load (p := (padd (.pointer (some ⟨g,0,none⟩)) 2)) (.inr rfl) (.int .i64 ((s0 :Nat):Int)) one2 rfl (hB0.ldp (i := 2) (by simp)) zN ?_
   refine q_add ((s0 + 1 :Nat):Int) rfl rfl (w64n (by omega) (by omega)) zN ?_
   refine q_nil rfl zN ?_
   refine q_fldP (p := (.pointer (some ⟨g,0,none⟩))) (b := g) (o := 0) 2 fd123_2 rfl rfl zN ?_
   refine e_setB (k := 2) (w := w) sz2 rfl rfl ⟨rfl,rfl⟩ hB0 (by simp) zN ?_
   intro w11 hC11 hz11 hB11
   replace hB11 : BX w11.heap g [pp,(.int .i64 ((n :Nat):Int)),(.int .i64 ((s0 + 1 :Nat):Int)),(.int .i64 c0)] := hB11
   have hE11 : Chg [g] w w11 := hE0.trans hC11
   have hzs11:=hC11.size
   refine lw_nil ?_
   refine wp_seq ?_
   refine wp_seq ?_
   refine wp_plain _ [0,0,0,2] rfl ?_
   have hc00 : c0 = 0 := by omega
   have hs1 : s0 + 1≤3000 := by omega
   refine q_move ve rfl zN ?_
   refine q_nilP (hex.isPtr) rfl zN ?_
   obtain ⟨cs12,hr12,hl12⟩ := RN.at (good_rEx _) hex
   obtain ⟨dd12,ve12,hd12,rfl,hx12⟩ := RX.of hr12
   have hln12 := hx12.rn.lenle
   unfold maxLen at hln12
   refine q_fldL (p := ve) 0 fd94_0 rfl (hl12 _ (hE11.sub (subS hgS))) zN ?_
   refine q_load (p := (padd ve 0)) (.inr rfl) (.int .i64 ex.kind) one2 rfl ((hl12 _ (hE11.sub (subS hgS))).ld (i := 0) (by simp [exC,fnC])) zN ?_
   refine lw_nil ?_
   refine wp_block ?_
   refine wp_seq ?_
   refine wp_plain _ [0,0] rfl ?_
   by_cases hc13 : ex.kind = ((1 :Nat):Int)
   ·
    refine q_eql true rfl rfl (decide_eq_true hc13) zN ?_
    refine q_assign (.bool true) rfl zN ?_
    refine lw_nil ?_
    refine c_cond_t rfl ?_
    refine wp_seq ?_
    refine wp_draw _ [0,0,0,1,0,0,0,1,3,0] mixed (by kernel_rfl) ?_
    refine q_move ve rfl zN ?_
    refine q_nilP (hex.isPtr) rfl zN ?_
    refine q_fldL (p := ve) 1 fd94_1 rfl (hl12 _ (hE11.drew.sub (subS hgS))) zN ?_
    refine q_load (p := (padd ve 1)) (.inl rfl) (.int .i64 ex.num) one2 rfl ((hl12 _ (hE11.drew.sub (subS hgS))).ld (i := 1) (by simp [exC,fnC])) zN ?_
    refine q_move (.pointer (some ⟨g,0,none⟩)) rfl zN ?_
    refine q_nil rfl zN ?_
    refine q_fldP (p := (.pointer (some ⟨g,0,none⟩))) (b := g) (o := 0) 1 fd123_1 rfl rfl zN ?_
    refine q_load (p := (padd (.pointer (some ⟨g,0,none⟩)) 1)) (.inl rfl) (.int .i64 ((n :Nat):Int)) one3 rfl (hB11.ldp (i := 1) (by simp)) zN ?_
    refine lw_call 93 [] [] [(.int .i64 ex.num),(.int .i64 ((n :Nat):Int))] rfl rfl cf93 zN (c_spec_l01Const _ _ (n) hx12.rng.num (by first | omega | assumption | (simp; done) | (simp; omega)) (by omega)) ?_
    rintro e14 w14 ⟨v14_0,rfl,hX14,hO14_0⟩
    refine ⟨_,rfl,hX14,?_⟩
    replace hX14 := hX14.of_drew
    have hzs14:=hX14.size
    have hE14 : Chg [g] w w14 := hE11.ext hX14
    have hB11x14 := hB11.ext hX14
    replace hO14_0 := hO14_0.low (B' := w11.heap.size) (Nat.le_refl _)
    refine q_assign v14_0 rfl zN ?_
    refine lw_nil ?_
    refine wp_ret ?_
    refine b_ret ?_
    refine t_ret ?_
    exact post_ret [6] rfl v14_0 rfl ⟨v14_0,cst n ex.num,s0 + 1,c0,rfl,hE14,hB11x14,(RN.of_fr1 hO14_0 (fun b hb => by have := hS b hb; omega)),(by exact cst_ser (isN_iff.2 (by omega))),(by omega),(by omega),(by exact rel_num hc00 hs1 (by omega))⟩
   ·
    refine q_eql false rfl rfl (decide_eq_false hc13) zN ?_
    refine q_assign (.bool false) rfl zN ?_
    refine lw_nil ?_
    refine c_cond_f rfl ?_
    refine wp_seq ?_
    refine wp_plain _ [0,0] rfl ?_
    by_cases hc15 : ex.kind = ((2 :Nat):Int)
    ·
     refine q_eql true rfl rfl (decide_eq_true hc15) zN ?_
     refine q_assign (.bool true) rfl zN ?_
     refine lw_nil ?_
     refine c_cond_t rfl ?_
     refine wp_seq ?_
     refine wp_plain _ [0,0,0,0,2,0,2,0] rfl ?_
     refine q_move vv rfl zN ?_
     refine q_move ve rfl zN ?_
     refine q_nilP (hex.isPtr) rfl zN ?_
     refine q_fldL (p := ve) 1 fd94_1 rfl (hl12 _ (hE11.sub (subS hgS))) zN ?_
     refine q_load (p := (padd ve 1)) (.inr rfl) (.int .i64 ex.num) one2 rfl ((hl12 _ (hE11.sub (subS hgS))).ld (i := 1) (by simp [exC,fnC])) zN ?_
     refine q_idx (v := vv) ((ex.num).toNat) u27 ti25 rfl rfl henv.slL (by omega) (by first | omega | assumption | (simp; done) | (simp; omega)) zN ?_
     obtain ⟨ue16,hl16,hr16⟩ := RN.getL (w := w) g1 [] (k := (ex.num).toNat) henv (by first | omega | assumption | (simp; done) | (simp; omega))
     have hln16 := hr16.lenL
     unfold maxLen at hln16
     refine q_load (p := eptr vv ((ex.num).toNat) 1) (.inr rfl) ue16 one25 rfl (hl16 _ (hE11.sub (subS hgS))) zN ?_
     refine q_assign ue16 rfl zN ?_
     refine lw_nil ?_
     refine wp_ret ?_
     refine b_ret ?_
     refine t_ret ?_
     exact post_ret [6] rfl ue16 rfl ⟨ue16,env.getD ((ex.num).toNat) [],s0 + 1,c0,rfl,hE11,hB11,(hr16.chg g1 (hE11.sub (subS hgS))),(by exact hse _ (by omega)),(by omega),(by omega),(by exact rel_var hc00 hs1 (by omega))⟩
    ·
     refine q_eql false rfl rfl (decide_eq_false hc15) zN ?_
     refine q_assign (.bool false) rfl zN ?_
     refine lw_nil ?_
     refine c_cond_f rfl ?_
     refine wp_seq ?_
     refine wp_plain _ [0,0] rfl ?_
     by_cases hc17 : ex.kind = ((7 :Nat):Int)
     ·
      refine q_eql true rfl rfl (decide_eq_true hc17) zN ?_
      refine q_assign (.bool true) rfl zN ?_
      refine lw_nil ?_
      refine c_cond_t rfl ?_
      refine wp_seq ?_
      refine wp_plain _ [0,0,0,0,2,0,0,4,3,0] rfl ?_
      refine q_move (.pointer (some ⟨g,0,none⟩)) rfl zN ?_
      refine q_move ve rfl zN ?_
      refine q_nilP (hex.isPtr) rfl zN ?_
      refine q_fldL (p := ve) 4 fd94_4 rfl (hl12 _ (hE11.sub (subS hgS))) zN ?_
      refine q_load (p := (padd ve 4)) (.inr rfl) ve12 one78 rfl ((hl12 _ (hE11.sub (subS hgS))).ld (i := 4) (by simp [exC,fnC])) zN ?_
      refine q_idx (v := ve12) 0 u78 tiS94 rfl rfl hx12.rn.isSl rfl (by first | omega | assumption | (simp; done) | (simp; omega)) zN ?_
      refine q_move vv rfl zN ?_
      refine lw_callE 134 [] [] [(.pointer (some ⟨g,0,none⟩)),(eptr ve12 0 5),vv] rfl rfl cf134 zN (IH2 dd12 (by omega) _ S g pp dp (n) (s0 + 1) (c0) (p) (eptr ve12 0 5) (ex.kids.getD 0 Ex.zero) vv (env) (fun b hb => (by have := hS b hb; omega : b < w11.heap.size)) hgS hB11 (hp.chg (good_rP (good_rPr dp)) (hE11.sub (subS hgS))) (by omega) (by omega) (by omega) (RN.ptr (good_rEx dd12) (by decide) Ex.zero (hx12.rn.chg (good_rdS (good_rEx dd12)) (hE11.sub (subS hgS))) (by first | omega | assumption | (simp; done) | (simp; omega))) (henv.chg g2 (hE11.sub (subS hgS))) hqenv (by exact hvp) (by omega) (by exact wf_at0 hwf (by omega) (by omega)) (by exact hse) (by have := kd_at (l := ex.kids) (k := 0) (by omega); omega)) ?_
      rintro e18 w18 ⟨v18,x18,s18,c18,rfl,hC18,hB18,hr18,hse18,hsb18,hcb18,hrl18⟩
      refine ⟨_,rfl,?_⟩
      have hzs18:=hC18.size
      have hE18 : Chg [g] w w18 := hE11.trans hC18
      have hsn18 := hse18.1
      refine lw_call 149 [] [] [v18,(.int .i64 ((1000002 :Nat):Int))] rfl rfl cf149 zN (c_spec_l01Scale _ _ _ _ (hr18).rd (by omega) (by omega)) ?_
      rintro e23 w23 ⟨v23_0,rfl,hX23,hO23_0⟩
      refine ⟨_,rfl,hX23,?_⟩
      have hzs23:=hX23.size
      have hE23 : Chg [g] w w23 := hE18.ext hX23
      have hB18x23 := hB18.ext hX23
      have hN24 := hr18.ext g1 hX23
      refine q_assign v23_0 rfl zN ?_
      refine lw_nil ?_
      refine wp_ret ?_
      refine b_ret ?_
      refine t_ret ?_
      exact post_ret [6] rfl v23_0 rfl ⟨v23_0,scl x18 ((1000002 :Nat):Int),s18,c18,rfl,hE23,hB18x23,(RN.of_fr1 hO23_0 (fun b hb => by have := hS b hb; omega)),(by rw [scl_eq]; exact sclS_ser (by assumption)),(by omega),(by omega),(by exact rel_ops hc00 hs1 (by omega) (rel_k1 (by omega) ‹RelV (go c0 (evE _ _ (ex.kids.getD 0 _) _ _)) _ _ _›) (fun h0 => by rw [h0,scl_eq]; exact op_neg (by omega)) (fun _ => rfl))⟩
     ·
      refine q_eql false rfl rfl (decide_eq_false hc17) zN ?_
      refine q_assign (.bool false) rfl zN ?_
      refine lw_nil ?_
      refine c_cond_f rfl ?_
      refine wp_seq ?_
      refine wp_plain _ [0,0] rfl ?_
      by_cases hc25 : ex.kind = ((8 :Nat):Int)
      ·
       refine q_eql true rfl rfl (decide_eq_true hc25) zN ?_
       refine q_assign (.bool true) rfl zN ?_
       refine lw_nil ?_
       refine c_cond_t rfl ?_
       refine wp_seq ?_
       refine wp_seq ?_
       refine wp_plain _ [0,0,0,0,2,0,0,4,0,2,0] rfl ?_
       refine q_move (.pointer (some ⟨g,0,none⟩)) rfl zN ?_
       refine q_move ve rfl zN ?_
       refine q_nilP (hex.isPtr) rfl zN ?_
       refine q_fldL (p := ve) 4 fd94_4 rfl (hl12 _ (hE11.sub (subS hgS))) zN ?_
       refine q_load (p := (padd ve 4)) (.inr rfl) ve12 one78 rfl ((hl12 _ (hE11.sub (subS hgS))).ld (i := 4) (by simp [exC,fnC])) zN ?_
       refine q_idx (v := ve12) 0 u78 tiS94 rfl rfl hx12.rn.isSl rfl (by first | omega | assumption | (simp; done) | (simp; omega)) zN ?_
       refine q_move vv rfl zN ?_
       refine lw_callE 134 [] [] [(.pointer (some ⟨g,0,none⟩)),(eptr ve12 0 5),vv] rfl rfl cf134 zN (IH2 dd12 (by omega) _ S g pp dp (n) (s0 + 1) (c0) (p) (eptr ve12 0 5) (ex.kids.getD 0 Ex.zero) vv (env) (fun b hb => (by have := hS b hb; omega : b < w11.heap.size)) hgS hB11 (hp.chg (good_rP (good_rPr dp)) (hE11.sub (subS hgS))) (by omega) (by omega) (by omega) (RN.ptr (good_rEx dd12) (by decide) Ex.zero (hx12.rn.chg (good_rdS (good_rEx dd12)) (hE11.sub (subS hgS))) (by first | omega | assumption | (simp; done) | (simp; omega))) (henv.chg g2 (hE11.sub (subS hgS))) hqenv (by exact hvp) (by omega) (by exact wf_at0 hwf (by omega) (by omega)) (by exact hse) (by have := kd_at (l := ex.kids) (k := 0) (by omega); omega)) ?_
       rintro e26 w26 ⟨v26,x26,s26,c26,rfl,hC26,hB26,hr26,hse26,hsb26,hcb26,hrl26⟩
       refine ⟨_,rfl,?_⟩
       have hzs26:=hC26.size
       have hE26 : Chg [g] w w26 := hE11.trans hC26
       have hsn26 := hse26.1
       refine q_idx (v := v26) 0 u25 ti2 rfl rfl hr26.slL rfl (by first | omega | assumption | (simp; done) | (simp; omega)) zN ?_
       have hg31 := RN.getI (w := w26) (k := 0) hr26 (by first | omega | assumption | (simp; done) | (simp; omega))
       refine q_load (p := eptr v26 0 1) (.inr rfl) (.int .i64 (x26.getD 0 0)) one2 rfl (hg31.1 _ (Chg.refl _ _)) zN ?_
       by_cases hc32 : x26.getD 0 0 = ((0 :Nat):Int)
       ·
        refine q_eql true rfl rfl (decide_eq_true hc32) zN ?_
        refine lw_nil ?_
        refine c_cond_t rfl ?_
        refine wp_seq ?_
        refine wp_plain _ [0,0,0,0,2,0,0,4,0] rfl ?_
        refine q_move (.pointer (some ⟨g,0,none⟩)) rfl zN ?_
        refine q_move ve rfl zN ?_
        refine q_nilP (hex.isPtr) rfl zN ?_
        refine q_fldL (p := ve) 4 fd94_4 rfl (hl12 _ (hE26.sub (subS hgS))) zN ?_
        refine q_load (p := (padd ve 4)) (.inr rfl) ve12 one78 rfl ((hl12 _ (hE26.sub (subS hgS))).ld (i := 4) (by simp [exC,fnC])) zN ?_
        refine q_idx (v := ve12) 1 u78 tiS94 rfl rfl hx12.rn.isSl rfl (by first | omega | assumption | (simp; done) | (simp; omega)) zN ?_
        refine q_move vv rfl zN ?_
        refine lw_callE 134 [] [] [(.pointer (some ⟨g,0,none⟩)),(eptr ve12 1 5),vv] rfl rfl cf134 zN (IH2 dd12 (by omega) _ S g pp dp (n) (s26) (c26) (p) (eptr ve12 1 5) (ex.kids.getD 1 Ex.zero) vv (env) (fun b hb => (by have := hS b hb; omega : b < w26.heap.size)) hgS hB26 (hp.chg (good_rP (good_rPr dp)) (hE26.sub (subS hgS))) (by omega) (by omega) (by omega) (RN.ptr (good_rEx dd12) (by decide) Ex.zero (hx12.rn.chg (good_rdS (good_rEx dd12)) (hE26.sub (subS hgS))) (by first | omega | assumption | (simp; done) | (simp; omega))) (henv.chg g2 (hE26.sub (subS hgS))) hqenv (by exact hvp) (by omega) (by exact wf_at0 hwf (by omega) (by omega)) (by exact hse) (by have := kd_at (l := ex.kids) (k := 1) (by omega); omega)) ?_
        rintro e33 w33 ⟨v33,x33,s33,c33,rfl,hC33,hB33,hr33,hse33,hsb33,hcb33,hrl33⟩
        refine ⟨_,rfl,?_⟩
        have hzs33:=hC33.size
        have hE33 : Chg [g] w w33 := hE26.trans hC33
        have hF38 := hr26.run g1 hgS hC33
        have hsn33 := hse33.1
        refine q_assign v33 rfl zN ?_
        refine lw_nil ?_
        refine wp_ret ?_
        refine t_ret ?_
        refine b_ret ?_
        refine t_ret ?_
        exact post_ret [6] rfl v33 rfl ⟨v33,x33,s33,c33,rfl,hE33,hB33,hr33,(by assumption),(by omega),(by omega),(by first | exact rel_if0 hc00 hs1 (by omega) (by omega) ‹RelV (go c0 (evE _ _ (ex.kids.getD 0 _) _ _)) _ _ _› (by omega) (by assumption) | exact rel_if1 hc00 hs1 (by omega) (by omega) ‹RelV (go c0 (evE _ _ (ex.kids.getD 0 _) _ _)) _ _ _› (by omega) (by assumption))⟩
       ·
        refine q_eql false rfl rfl (decide_eq_false hc32) zN ?_
        refine lw_nil ?_
        refine c_cond_f rfl ?_
        refine wp_skip ?_
        refine wp_seq ?_
        refine wp_plain _ [0,0,0,0,2,0,0,4,0] rfl ?_
        refine q_move (.pointer (some ⟨g,0,none⟩)) rfl zN ?_
        refine q_move ve rfl zN ?_
        refine q_nilP (hex.isPtr) rfl zN ?_
        refine q_fldL (p := ve) 4 fd94_4 rfl (hl12 _ (hE26.sub (subS hgS))) zN ?_
        refine q_load (p := (padd ve 4)) (.inr rfl) ve12 one78 rfl ((hl12 _ (hE26.sub (subS hgS))).ld (i := 4) (by simp [exC,fnC])) zN ?_
        refine q_idx (v := ve12) 2 u78 tiS94 rfl rfl hx12.rn.isSl rfl (by first | omega | assumption | (simp; done) | (simp; omega)) zN ?_
        refine q_move vv rfl zN ?_
        refine lw_callE 134 [] [] [(.pointer (some ⟨g,0,none⟩)),(eptr ve12 2 5),vv] rfl rfl cf134 zN (IH2 dd12 (by omega) _ S g pp dp (n) (s26) (c26) (p) (eptr ve12 2 5) (ex.kids.getD 2 Ex.zero) vv (env) (fun b hb => (by have := hS b hb; omega : b < w26.heap.size)) hgS hB26 (hp.chg (good_rP (good_rPr dp)) (hE26.sub (subS hgS))) (by omega) (by omega) (by omega) (RN.ptr (good_rEx dd12) (by decide) Ex.zero (hx12.rn.chg (good_rdS (good_rEx dd12)) (hE26.sub (subS hgS))) (by first | omega | assumption | (simp; done) | (simp; omega))) (henv.chg g2 (hE26.sub (subS hgS))) hqenv (by exact hvp) (by omega) (by exact wf_at0 hwf (by omega) (by omega)) (by exact hse) (by have := kd_at (l := ex.kids) (k := 2) (by omega); omega)) ?_
        rintro e39 w39 ⟨v39,x39,s39,c39,rfl,hC39,hB39,hr39,hse39,hsb39,hcb39,hrl39⟩
        refine ⟨_,rfl,?_⟩
        have hzs39:=hC39.size
        have hE39 : Chg [g] w w39 := hE26.trans hC39
        have hF44 := hr26.run g1 hgS hC39
        have hsn39 := hse39.1
        refine q_assign v39 rfl zN ?_
        refine lw_nil ?_
        refine wp_ret ?_
        refine b_ret ?_
        refine t_ret ?_
        exact post_ret [6] rfl v39 rfl ⟨v39,x39,s39,c39,rfl,hE39,hB39,hr39,(by assumption),(by omega),(by omega),(by first | exact rel_if0 hc00 hs1 (by omega) (by omega) ‹RelV (go c0 (evE _ _ (ex.kids.getD 0 _) _ _)) _ _ _› (by omega) (by assumption) | exact rel_if1 hc00 hs1 (by omega) (by omega) ‹RelV (go c0 (evE _ _ (ex.kids.getD 0 _) _ _)) _ _ _› (by omega) (by assumption))⟩
      ·
       refine q_eql false rfl rfl (decide_eq_false hc25) zN ?_
       refine q_assign (.bool false) rfl zN ?_
       refine lw_nil ?_
       refine c_cond_f rfl ?_
       refine wp_seq ?_
       refine wp_plain _ [0,0] rfl ?_
       by_cases hc45 : ex.kind = ((9 :Nat):Int)
       ·
        refine q_eql true rfl rfl (decide_eq_true hc45) zN ?_
        refine q_assign (.bool true) rfl zN ?_
        refine lw_nil ?_
        refine c_cond_t rfl ?_
        refine wp_seq ?_
        refine wp_plain _ [0,0,0,0,2,0,0,4,0] rfl ?_
        refine q_move (.pointer (some ⟨g,0,none⟩)) rfl zN ?_
        refine q_move ve rfl zN ?_
        refine q_nilP (hex.isPtr) rfl zN ?_
        refine q_fldL (p := ve) 4 fd94_4 rfl (hl12 _ (hE11.sub (subS hgS))) zN ?_
        refine q_load (p := (padd ve 4)) (.inr rfl) ve12 one78 rfl ((hl12 _ (hE11.sub (subS hgS))).ld (i := 4) (by simp [exC,fnC])) zN ?_
        refine q_idx (v := ve12) 0 u78 tiS94 rfl rfl hx12.rn.isSl rfl (by first | omega | assumption | (simp; done) | (simp; omega)) zN ?_
        refine q_move vv rfl zN ?_
        refine lw_callE 134 [] [] [(.pointer (some ⟨g,0,none⟩)),(eptr ve12 0 5),vv] rfl rfl cf134 zN (IH2 dd12 (by omega) _ S g pp dp (n) (s0 + 1) (c0) (p) (eptr ve12 0 5) (ex.kids.getD 0 Ex.zero) vv (env) (fun b hb => (by have := hS b hb; omega : b < w11.heap.size)) hgS hB11 (hp.chg (good_rP (good_rPr dp)) (hE11.sub (subS hgS))) (by omega) (by omega) (by omega) (RN.ptr (good_rEx dd12) (by decide) Ex.zero (hx12.rn.chg (good_rdS (good_rEx dd12)) (hE11.sub (subS hgS))) (by first | omega | assumption | (simp; done) | (simp; omega))) (henv.chg g2 (hE11.sub (subS hgS))) hqenv (by exact hvp) (by omega) (by exact wf_at0 hwf (by omega) (by omega)) (by exact hse) (by have := kd_at (l := ex.kids) (k := 0) (by omega); omega)) ?_
        rintro e46 w46 ⟨v46,x46,s46,c46,rfl,hC46,hB46,hr46,hse46,hsb46,hcb46,hrl46⟩
        refine ⟨_,rfl,?_⟩
        have hzs46:=hC46.size
        have hE46 : Chg [g] w w46 := hE11.trans hC46
        have hsn46 := hse46.1
        refine q_assign v46 rfl zN ?_
        refine lw_nil ?_
        refine wp_seq ?_
        refine wp_draw _ [0,0,0,0,1,0,0,0,3,4,0] mixed (by kernel_rfl) ?_
        refine q_move (.pointer (some ⟨g,0,none⟩)) rfl zN ?_
        refine q_move ve rfl zN ?_
        refine q_nilP (hex.isPtr) rfl zN ?_
        refine q_fldL (p := ve) 4 fd94_4 rfl (hl12 _ (hE46.drew.sub (subS hgS))) zN ?_
        refine q_load (p := (padd ve 4)) (.inl rfl) ve12 one78 rfl ((hl12 _ (hE46.drew.sub (subS hgS))).ld (i := 4) (by simp [exC,fnC])) zN ?_
        refine q_idx (v := ve12) 1 u78 tiS94 rfl rfl hx12.rn.isSl rfl (by first | omega | assumption | (simp; done) | (simp; omega)) zN ?_
        refine q_move vv rfl zN ?_
        refine q_move v46 rfl zN ?_
        refine lw_call 150 [] [] [vv,v46] rfl rfl cf150 zN (c_spec_l02Env _ S vv (env) v46 (x46) (fun b hb => (by have := hS b hb; omega : b < w46.heap.size)) (henv.chg g2 (hE46.drew.sub (subS hgS))) hqenv hr46 (by omega)) ?_
        rintro e51 w51 ⟨v51,rfl,hX51,hr51,hcp51⟩
        refine ⟨_,rfl,hX51,?_⟩
        replace hX51 := hX51.of_drew
        have hzs51:=hX51.size
        have hE51 : Chg [g] w w51 := hE46.ext hX51
        have hB46x51 := hB46.ext hX51
        have hN52 := hr46.ext g1 hX51
        refine lw_callE 134 [] [] [(.pointer (some ⟨g,0,none⟩)),(eptr ve12 1 5),v51] rfl rfl cf134 zN (IH2 dd12 (by omega) _ S g pp dp (n) (s46) (c46) (p) (eptr ve12 1 5) (ex.kids.getD 1 Ex.zero) v51 (env ++ [x46]) (fun b hb => (by have := hS b hb; omega : b < w51.heap.size)) hgS hB46x51 (hp.chg (good_rP (good_rPr dp)) (hE51.sub (subS hgS))) (by omega) (by omega) (by omega) (RN.ptr (good_rEx dd12) (by decide) Ex.zero (hx12.rn.chg (good_rdS (good_rEx dd12)) (hE51.sub (subS hgS))) (by first | omega | assumption | (simp; done) | (simp; omega))) hr51 hcp51 (by exact hvp) (by omega) (by have h9 := wf_at1 hwf (by omega) (by omega); rw [List.length_append,List.length_singleton]; exact h9) (by exact hse.snoc (by assumption)) (by have := kd_at (l := ex.kids) (k := 1) (by omega); rw [List.length_append,List.length_singleton]; omega)) ?_
        rintro e53 w53 ⟨v53,x53,s53,c53,rfl,hC53,hB53,hr53,hse53,hsb53,hcb53,hrl53⟩
        refine ⟨_,rfl,?_⟩
        have hzs53:=hC53.size
        have hE53 : Chg [g] w w53 := hE51.trans hC53
        have hF58 := hN52.run g1 hgS hC53
        have hF59 := hr51.run g2 hgS hC53
        have hsn53 := hse53.1
        refine q_assign v53 rfl zN ?_
        refine lw_nil ?_
        refine wp_ret ?_
        refine b_ret ?_
        refine t_ret ?_
        exact post_ret [6] rfl v53 rfl ⟨v53,x53,s53,c53,rfl,hE53,hB53,hr53,(by assumption),(by omega),(by omega),(by exact rel_let hc00 hs1 (by omega) (by omega) ‹RelV (go c0 (evE _ _ (ex.kids.getD 0 _) _ _)) _ _ _› (by assumption))⟩
       ·
        refine q_eql false rfl rfl (decide_eq_false hc45) zN ?_
        refine q_assign (.bool false) rfl zN ?_
        refine lw_nil ?_
        refine c_cond_f rfl ?_
        refine wp_seq ?_
        refine wp_seq ?_
        refine wp_plain _ [0,0] rfl ?_
        by_cases hc60 : ex.kind = ((10 :Nat):Int)
        ·
         refine q_eql true rfl rfl (decide_eq_true hc60) zN ?_
         refine q_assign (.bool true) rfl zN ?_
         refine lw_nil ?_
         refine c_cond_t rfl ?_
         refine wp_skip ?_
         refine c_cond_t rfl ?_
         refine wp_seq ?_
         refine wp_plain _ [0,0,0,4,0] rfl ?_
         refine q_move (.pointer (some ⟨g,0,none⟩)) rfl zN ?_
         refine q_move ve rfl zN ?_
         refine q_move vv rfl zN ?_
         refine lw_callE 151 [] [] [(.pointer (some ⟨g,0,none⟩)),ve,vv] rfl rfl cf151 zN (c_call F dex IH1 IH2 _ S g pp dp (n) (s0 + 1) (c0) (p) ve (ex) vv (env) (fun b hb => (by have := hS b hb; omega : b < w11.heap.size)) hgS hB11 (hp.chg (good_rP (good_rPr dp)) (hE11.sub (subS hgS))) (by omega) (by omega) (by omega) (hex.chg (good_rP (good_rEx dex)) (hE11.sub (subS hgS))) (henv.chg g2 (hE11.sub (subS hgS))) hqenv (by exact hvp) (by omega) (by exact hwf) (by exact hse) (by omega) (by omega)) ?_
         rintro e61 w61 ⟨v61,x61,s61,c61,rfl,hC61,hB61,hr61,hse61,hsb61,hcb61,hrl61⟩
         refine ⟨_,rfl,?_⟩
         have hzs61:=hC61.size
         have hE61 : Chg [g] w w61 := hE11.trans hC61
         have hsn61 := hse61.1
         refine q_assign v61 rfl zN ?_
         refine lw_nil ?_
         refine wp_ret ?_
         refine b_ret ?_
         refine t_ret ?_
         exact post_ret [6] rfl v61 rfl ⟨v61,x61,s61,c61,rfl,hE61,hB61,hr61,(by assumption),(by omega),(by omega),(by exact rel_callV hc00 hs1 (by omega) (by assumption))⟩
        ·
         refine q_eql false rfl rfl (decide_eq_false hc60) zN ?_
         refine q_assign (.bool false) rfl zN ?_
         refine lw_nil ?_
         refine c_cond_f rfl ?_
         refine wp_plain _ [0,0] rfl ?_
         by_cases hc66 : ex.kind = ((11 :Nat):Int)
         ·
          refine q_eql true rfl rfl (decide_eq_true hc66) zN ?_
          refine q_assign (.bool true) rfl zN ?_
          refine lw_nil ?_
          refine c_cond_t rfl ?_
          refine wp_seq ?_
          refine wp_plain _ [0,0,0,4,0] rfl ?_
          refine q_move (.pointer (some ⟨g,0,none⟩)) rfl zN ?_
          refine q_move ve rfl zN ?_
          refine q_move vv rfl zN ?_
          refine lw_callE 151 [] [] [(.pointer (some ⟨g,0,none⟩)),ve,vv] rfl rfl cf151 zN (c_call F dex IH1 IH2 _ S g pp dp (n) (s0 + 1) (c0) (p) ve (ex) vv (env) (fun b hb => (by have := hS b hb; omega : b < w11.heap.size)) hgS hB11 (hp.chg (good_rP (good_rPr dp)) (hE11.sub (subS hgS))) (by omega) (by omega) (by omega) (hex.chg (good_rP (good_rEx dex)) (hE11.sub (subS hgS))) (henv.chg g2 (hE11.sub (subS hgS))) hqenv (by exact hvp) (by omega) (by exact hwf) (by exact hse) (by omega) (by omega)) ?_
          rintro e67 w67 ⟨v67,x67,s67,c67,rfl,hC67,hB67,hr67,hse67,hsb67,hcb67,hrl67⟩
          refine ⟨_,rfl,?_⟩
          have hzs67:=hC67.size
          have hE67 : Chg [g] w w67 := hE11.trans hC67
          have hsn67 := hse67.1
          refine q_assign v67 rfl zN ?_
          refine lw_nil ?_
          refine wp_ret ?_
          refine b_ret ?_
          refine t_ret ?_
          exact post_ret [6] rfl v67 rfl ⟨v67,x67,s67,c67,rfl,hE67,hB67,hr67,(by assumption),(by omega),(by omega),(by exact rel_callV hc00 hs1 (by omega) (by assumption))⟩
         ·
          refine q_eql false rfl rfl (decide_eq_false hc66) zN ?_
          refine q_assign (.bool false) rfl zN ?_
          refine lw_nil ?_
          refine c_cond_f rfl ?_
          refine wp_skip ?_
          refine wp_seq ?_
          refine wp_plain _ [0,0,0,0,2,0,0,4,0] rfl ?_
          have hk2 : ex.kids.length = 2 := by omega
          have hkk : ex.kind = 3 ∨ ex.kind = 4 ∨ ex.kind = 5 ∨ ex.kind = 6 := by omega
          have hd0 := kd_at (l := ex.kids) (k := 0) (by omega)
          have hd1 := kd_at (l := ex.kids) (k := 1) (by omega)
          clear hq0
          refine q_move (.pointer (some ⟨g,0,none⟩)) rfl zN ?_
          refine q_move ve rfl zN ?_
          refine q_nilP (hex.isPtr) rfl zN ?_
          refine q_fldL (p := ve) 4 fd94_4 rfl (hl12 _ (hE11.sub (subS hgS))) zN ?_
          refine q_load (p := (padd ve 4)) (.inr rfl) ve12 one78 rfl ((hl12 _ (hE11.sub (subS hgS))).ld (i := 4) (by simp [exC,fnC])) zN ?_
          refine q_idx (v := ve12) 0 u78 tiS94 rfl rfl hx12.rn.isSl rfl (by first | omega | assumption | (simp; done) | (simp; omega)) zN ?_
          refine q_move vv rfl zN ?_
          refine lw_callE 134 [] [] [(.pointer (some ⟨g,0,none⟩)),(eptr ve12 0 5),vv] rfl rfl cf134 zN (IH2 dd12 (by omega) _ S g pp dp (n) (s0 + 1) (c0) (p) (eptr ve12 0 5) (ex.kids.getD 0 Ex.zero) vv (env) (fun b hb => (by have := hS b hb; omega : b < w11.heap.size)) hgS hB11 (hp.chg (good_rP (good_rPr dp)) (hE11.sub (subS hgS))) (by omega) (by omega) (by omega) (RN.ptr (good_rEx dd12) (by decide) Ex.zero (hx12.rn.chg (good_rdS (good_rEx dd12)) (hE11.sub (subS hgS))) (by first | omega | assumption | (simp; done) | (simp; omega))) (henv.chg g2 (hE11.sub (subS hgS))) hqenv (by exact hvp) (by omega) (by exact wf_at0 hwf (by omega) (by omega)) (by exact hse) (by have := kd_at (l := ex.kids) (k := 0) (by omega); omega)) ?_
          rintro e72 w72 ⟨v72,x72,s72,c72,rfl,hC72,hB72,hr72,hse72,hsb72,hcb72,hrl72⟩
          refine ⟨_,rfl,?_⟩
          have hzs72:=hC72.size
          have hE72 : Chg [g] w w72 := hE11.trans hC72
          have hsn72 := hse72.1
          have hra := hrl72
          have ha1 := hse72
          refine q_assign v72 rfl zN ?_
          refine lw_nil ?_
          refine wp_seq ?_
          refine wp_plain _ [0,0,0,0,2,0,0,4,0] rfl ?_
          refine q_move (.pointer (some ⟨g,0,none⟩)) rfl zN ?_
          refine q_move ve rfl zN ?_
          refine q_nilP (hex.isPtr) rfl zN ?_
          refine q_fldL (p := ve) 4 fd94_4 rfl (hl12 _ (hE72.sub (subS hgS))) zN ?_
          refine q_load (p := (padd ve 4)) (.inr rfl) ve12 one78 rfl ((hl12 _ (hE72.sub (subS hgS))).ld (i := 4) (by simp [exC,fnC])) zN ?_
          refine q_idx (v := ve12) 1 u78 tiS94 rfl rfl hx12.rn.isSl rfl (by first | omega | assumption | (simp; done) | (simp; omega)) zN ?_
          refine q_move vv rfl zN ?_
          refine lw_callE 134 [] [] [(.pointer (some ⟨g,0,none⟩)),(eptr ve12 1 5),vv] rfl rfl cf134 zN (IH2 dd12 (by omega) _ S g pp dp (n) (s72) (c72) (p) (eptr ve12 1 5) (ex.kids.getD 1 Ex.zero) vv (env) (fun b hb => (by have := hS b hb; omega : b < w72.heap.size)) hgS hB72 (hp.chg (good_rP (good_rPr dp)) (hE72.sub (subS hgS))) (by omega) (by omega) (by omega) (RN.ptr (good_rEx dd12) (by decide) Ex.zero (hx12.rn.chg (good_rdS (good_rEx dd12)) (hE72.sub (subS hgS))) (by first | omega | assumption | (simp; done) | (simp; omega))) (henv.chg g2 (hE72.sub (subS hgS))) hqenv (by exact hvp) (by omega) (by exact wf_at0 hwf (by omega) (by omega)) (by exact hse) (by have := kd_at (l := ex.kids) (k := 1) (by omega); omega)) ?_
          rintro e77 w77 ⟨v77,x77,s77,c77,rfl,hC77,hB77,hr77,hse77,hsb77,hcb77,hrl77⟩
          refine ⟨_,rfl,?_⟩
          have hzs77:=hC77.size
          have hE77 : Chg [g] w w77 := hE72.trans hC77
          have hF82 := hr72.run g1 hgS hC77
          have hsn77 := hse77.1
          have hrb := hrl77
          have hb1 := hse77
          have hlb := hsn77
          have hzz : x77.getD 0 0 = 0 ∨ ¬ x77.getD 0 0 = 0 := Decidable.em _
          refine q_assign v77 rfl zN ?_
          refine lw_nil ?_
          refine wp_seq ?_
          refine wp_block ?_
          refine wp_seq ?_
          refine wp_plain _ [0,0,0,2,0,0] rfl ?_
          refine q_move ve rfl zN ?_
          refine q_nilP (hex.isPtr) rfl zN ?_
          refine q_fldL (p := ve) 0 fd94_0 rfl (hl12 _ (hE77.sub (subS hgS))) zN ?_
          refine q_load (p := (padd ve 0)) (.inr rfl) (.int .i64 ex.kind) one2 rfl ((hl12 _ (hE77.sub (subS hgS))).ld (i := 0) (by simp [exC,fnC])) zN ?_
          by_cases hc83 : ex.kind = ((3 :Nat):Int)
          ·
           refine q_eql true rfl rfl (decide_eq_true hc83) zN ?_
           refine q_assign (.bool true) rfl zN ?_
           refine lw_nil ?_
           refine c_cond_t rfl ?_
           refine wp_seq ?_
           refine wp_plain _ [0,0,3,0] rfl ?_
           refine q_move v72 rfl zN ?_
           refine q_move v77 rfl zN ?_
           refine lw_call 152 [] [] [v72,v77] rfl rfl cf152 zN (c_spec_l01Add _ _ _ _ _ (hF82).rd (hr77).rd (by omega) (by omega)) ?_
           rintro e84 w84 ⟨v84_0,rfl,hX84,hO84_0⟩
           refine ⟨_,rfl,hX84,?_⟩
           have hzs84:=hX84.size
           have hE84 : Chg [g] w w84 := hE77.ext hX84
           have hB77x84 := hB77.ext hX84
           have hN85 := hF82.ext g1 hX84
           have hN86 := hr77.ext g1 hX84
           refine q_assign v84_0 rfl zN ?_
           refine lw_nil ?_
           refine wp_ret ?_
           refine b_ret ?_
           refine t_ret ?_
           exact post_ret [6] rfl v84_0 rfl ⟨v84_0,addS x72 x77,s77,c77,rfl,hE84,hB77x84,(RN.of_fr1 hO84_0 (fun b hb => by have := hS b hb; omega)),(by exact addS_ser ha1),(by omega),(by omega),(by exact rel_ops hc00 hs1 (by omega) (rel_k2 (by omega) hra hrb) (fun h0 => by rw [h0]; exact op_add (by omega)) (fun _ => rfl))⟩
          ·
           refine q_eql false rfl rfl (decide_eq_false hc83) zN ?_
           refine q_assign (.bool false) rfl zN ?_
           refine lw_nil ?_
           refine c_cond_f rfl ?_
           refine wp_seq ?_
           refine wp_plain _ [0,0,0,2,0,0] rfl ?_
           refine q_move ve rfl zN ?_
           refine q_nilP (hex.isPtr) rfl zN ?_
           refine q_fldL (p := ve) 0 fd94_0 rfl (hl12 _ (hE77.sub (subS hgS))) zN ?_
           refine q_load (p := (padd ve 0)) (.inr rfl) (.int .i64 ex.kind) one2 rfl ((hl12 _ (hE77.sub (subS hgS))).ld (i := 0) (by simp [exC,fnC])) zN ?_
           by_cases hc87 : ex.kind = ((4 :Nat):Int)
           ·
            refine q_eql true rfl rfl (decide_eq_true hc87) zN ?_
            refine q_assign (.bool true) rfl zN ?_
            refine lw_nil ?_
            refine c_cond_t rfl ?_
            refine wp_seq ?_
            refine wp_plain _ [0,0,3,0] rfl ?_
            refine q_move v72 rfl zN ?_
            refine q_move v77 rfl zN ?_
            refine lw_call 153 [] [] [v72,v77] rfl rfl cf153 zN (c_spec_l01Sub _ _ _ _ _ (hF82).rd (hr77).rd (by omega) (by omega) (by omega)) ?_
            rintro e88 w88 ⟨v88_0,rfl,hX88,hO88_0⟩
            refine ⟨_,rfl,hX88,?_⟩
            have hzs88:=hX88.size
            have hE88 : Chg [g] w w88 := hE77.ext hX88
            have hB77x88 := hB77.ext hX88
            have hN89 := hF82.ext g1 hX88
            have hN90 := hr77.ext g1 hX88
            refine q_assign v88_0 rfl zN ?_
            refine lw_nil ?_
            refine wp_ret ?_
            refine b_ret ?_
            refine t_ret ?_
            exact post_ret [6] rfl v88_0 rfl ⟨v88_0,redS x72 x77,s77,c77,rfl,hE88,hB77x88,(RN.of_fr1 hO88_0 (fun b hb => by have := hS b hb; omega)),(by exact redS_ser ha1),(by omega),(by omega),(by exact rel_ops hc00 hs1 (by omega) (rel_k2 (by omega) hra hrb) (fun h0 => by rw [h0]; exact op_sub (by omega)) (fun _ => rfl))⟩
           ·
            refine q_eql false rfl rfl (decide_eq_false hc87) zN ?_
            refine q_assign (.bool false) rfl zN ?_
            refine lw_nil ?_
            refine c_cond_f rfl ?_
            refine wp_seq ?_
            refine wp_plain _ [0,0,0,2,0,0] rfl ?_
            refine q_move ve rfl zN ?_
            refine q_nilP (hex.isPtr) rfl zN ?_
            refine q_fldL (p := ve) 0 fd94_0 rfl (hl12 _ (hE77.sub (subS hgS))) zN ?_
            refine q_load (p := (padd ve 0)) (.inr rfl) (.int .i64 ex.kind) one2 rfl ((hl12 _ (hE77.sub (subS hgS))).ld (i := 0) (by simp [exC,fnC])) zN ?_
            by_cases hc91 : ex.kind = ((5 :Nat):Int)
            ·
             refine q_eql true rfl rfl (decide_eq_true hc91) zN ?_
             refine q_assign (.bool true) rfl zN ?_
             refine lw_nil ?_
             refine c_cond_t rfl ?_
             refine wp_seq ?_
             refine wp_plain _ [0,0,3,0] rfl ?_
             refine q_move v72 rfl zN ?_
             refine q_move v77 rfl zN ?_
             refine lw_call 154 [] [] [v72,v77] rfl rfl cf154 zN (c_spec_l01Mul _ _ _ _ _ (hF82).rd (hr77).rd (by omega) (by omega)) ?_
             rintro e92 w92 ⟨v92_0,rfl,hX92,hO92_0⟩
             refine ⟨_,rfl,hX92,?_⟩
             have hzs92:=hX92.size
             have hE92 : Chg [g] w w92 := hE77.ext hX92
             have hB77x92 := hB77.ext hX92
             have hN93 := hF82.ext g1 hX92
             have hN94 := hr77.ext g1 hX92
             refine q_assign v92_0 rfl zN ?_
             refine lw_nil ?_
             refine wp_ret ?_
             refine b_ret ?_
             refine t_ret ?_
             exact post_ret [6] rfl v92_0 rfl ⟨v92_0,proS x72 x77,s77,c77,rfl,hE92,hB77x92,(RN.of_fr1 hO92_0 (fun b hb => by have := hS b hb; omega)),(by exact proS_ser ha1),(by omega),(by omega),(by exact rel_ops hc00 hs1 (by omega) (rel_k2 (by omega) hra hrb) (fun h0 => by rw [h0]; exact op_mul (by omega)) (fun _ => rfl))⟩
            ·
             refine q_eql false rfl rfl (decide_eq_false hc91) zN ?_
             refine q_assign (.bool false) rfl zN ?_
             refine lw_nil ?_
             refine c_cond_f rfl ?_
             refine wp_seq ?_
             refine wp_plain _ [0,0,0,2,0,0,0,0,2,0,0,0] rfl ?_
             refine q_move (.pointer (some ⟨g,0,none⟩)) rfl zN ?_
             refine q_nil rfl zN ?_
             refine q_fldP (p := (.pointer (some ⟨g,0,none⟩))) (b := g) (o := 0) 3 fd123_3 rfl rfl zN ?_
             refine q_load (p := (padd (.pointer (some ⟨g,0,none⟩)) 3)) (.inr rfl) (.int .i64 c77) one2 rfl (hB77.ldp (i := 3) (by simp)) zN ?_
             by_cases hc95 : c77 ≠ ((0 :Nat):Int)
             ·
              refine q_neq true rfl rfl (decide_eq_true hc95) zN ?_
              refine q_move (.bool true) rfl zN ?_
              refine lw_skip (e := 175) (c := true) rfl rfl rfl rfl ?_
              refine lw_skip (e := 175) (c := true) rfl rfl rfl rfl ?_
              refine lw_skip (e := 175) (c := true) rfl rfl rfl rfl ?_
              refine lw_skip (e := 175) (c := true) rfl rfl rfl rfl ?_
              refine q_pick true (.bool true) rfl rfl zN ?_
              refine q_assign (.bool true) rfl zN ?_
              refine lw_nil ?_
              refine c_cond_t rfl ?_
              refine wp_seq ?_
              refine wp_plain _ [0,4,0] rfl ?_
              refine q_move (.pointer (some ⟨g,0,none⟩)) rfl zN ?_
              refine lw_callE 148 [] [] [(.pointer (some ⟨g,0,none⟩)),(.int .i64 ((6 :Nat):Int))] rfl rfl cf148 zN (c_spec_l02Run_fail _ S g pp dp (n) (s77) (c77) (p) (((6 :Nat):Int)) (fun b hb => (by have := hS b hb; omega : b < w77.heap.size)) hgS hB77 (hp.chg (good_rP (good_rPr dp)) (hE77.sub (subS hgS))) (by omega) (by omega) (by omega) (by omega) (by omega)) ?_
              rintro e96 w96 ⟨v96,x96,s96,c96,rfl,hC96,hB96,hr96,hse96,hsb96,hcb96,hrl96⟩
              refine ⟨_,rfl,?_⟩
              have hzs96:=hC96.size
              have hE96 : Chg [g] w w96 := hE77.trans hC96
              have hF101 := hF82.run g1 hgS hC96
              have hF102 := hr77.run g1 hgS hC96
              have hsn96 := hse96.1
              have hfs := hrl96.1
              have hff := hrl96.2
              refine q_assign v96 rfl zN ?_
              refine lw_nil ?_
              refine wp_ret ?_
              refine b_ret ?_
              refine t_ret ?_
              exact post_ret [6] rfl v96 rfl ⟨v96,x96,s96,c96,rfl,hE96,hB96,hr96,(by assumption),(by omega),(by omega),(by rw [hfs]; exact rel_ops hc00 hs1 (by omega) (rel_k2 (by omega) hra hrb) (fun h0 => absurd h0 (by omega)) (fun h0 => by rw [hff,if_neg h0]))⟩
             ·
              refine q_neq false rfl rfl (decide_eq_false hc95) zN ?_
              refine q_move (.bool false) rfl zN ?_
              refine q_move v77 rfl (zS (e := 175) rfl rfl rfl) ?_
              refine q_idx (v := v77) 0 u25 ti2 rfl rfl hr77.slL rfl (by rw [hlb]; omega) (zS (e := 175) rfl rfl rfl) ?_
              have hg103 := RN.getI (w := w77) (k := 0) hr77 (by rw [hlb]; omega)
              refine q_load (p := eptr v77 0 1) (.inr rfl) (.int .i64 (x77.getD 0 0)) one2 rfl (hg103.1 _ (Chg.refl _ _)) (zS (e := 175) rfl rfl rfl) ?_
              by_cases hc104 : x77.getD 0 0 = ((0 :Nat):Int)
              ·
               refine q_eql true rfl rfl (decide_eq_true hc104) (zS (e := 175) rfl rfl rfl) ?_
               refine q_pick false (.bool true) rfl rfl zN ?_
               refine q_assign (.bool true) rfl zN ?_
               refine lw_nil ?_
               refine c_cond_t rfl ?_
               refine wp_seq ?_
               refine wp_plain _ [0,4,0] rfl ?_
               refine q_move (.pointer (some ⟨g,0,none⟩)) rfl zN ?_
               refine lw_callE 148 [] [] [(.pointer (some ⟨g,0,none⟩)),(.int .i64 ((6 :Nat):Int))] rfl rfl cf148 zN (c_spec_l02Run_fail _ S g pp dp (n) (s77) (c77) (p) (((6 :Nat):Int)) (fun b hb => (by have := hS b hb; omega : b < w77.heap.size)) hgS hB77 (hp.chg (good_rP (good_rPr dp)) (hE77.sub (subS hgS))) (by omega) (by omega) (by omega) (by omega) (by omega)) ?_
               rintro e105 w105 ⟨v105,x105,s105,c105,rfl,hC105,hB105,hr105,hse105,hsb105,hcb105,hrl105⟩
               refine ⟨_,rfl,?_⟩
               have hzs105:=hC105.size
               have hE105 : Chg [g] w w105 := hE77.trans hC105
               have hF110 := hF82.run g1 hgS hC105
               have hF111 := hr77.run g1 hgS hC105
               have hsn105 := hse105.1
               have hfs := hrl105.1
               have hff := hrl105.2
               refine q_assign v105 rfl zN ?_
               refine lw_nil ?_
               refine wp_ret ?_
               refine b_ret ?_
               refine t_ret ?_
               exact post_ret [6] rfl v105 rfl ⟨v105,x105,s105,c105,rfl,hE105,hB105,hr105,(by assumption),(by omega),(by omega),(by rw [hfs]; exact rel_ops hc00 hs1 (by omega) (rel_k2 (by omega) hra hrb) (fun h0 => by rw [hff,if_pos h0]; exact op_div0 (xs := [_,_]) (by omega) (hzz.resolve_right (by omega))) (fun h0 => by rw [hff,if_neg h0]))⟩
              ·
               refine q_eql false rfl rfl (decide_eq_false hc104) (zS (e := 175) rfl rfl rfl) ?_
               refine q_pick false (.bool false) rfl rfl zN ?_
               refine q_assign (.bool false) rfl zN ?_
               refine lw_nil ?_
               refine c_cond_f rfl ?_
               refine wp_skip ?_
               refine wp_seq ?_
               refine wp_plain _ [0,0,3,0] rfl ?_
               refine q_move v72 rfl zN ?_
               refine q_move v77 rfl zN ?_
               refine lw_call 155 [] [] [v72,v77] rfl rfl cf155 zN (c_spec_l01Div _ _ _ _ _ (hF82).rd (hr77).rd (by omega) (by omega) (by omega) (by exact ha1.2)) ?_
               rintro e112 w112 ⟨v112_0,rfl,hX112,hO112_0⟩
               refine ⟨_,rfl,hX112,?_⟩
               have hzs112:=hX112.size
               have hE112 : Chg [g] w w112 := hE77.ext hX112
               have hB77x112 := hB77.ext hX112
               have hN113 := hF82.ext g1 hX112
               have hN114 := hr77.ext g1 hX112
               refine q_assign v112_0 rfl zN ?_
               refine lw_nil ?_
               refine wp_ret ?_
               exact post_ret [6] rfl v112_0 rfl ⟨v112_0,quoS x72 x77,s77,c77,rfl,hE112,hB77x112,(RN.of_fr1 hO112_0 (fun b hb => by have := hS b hb; omega)),(by exact quoS_ser ha1),(by omega),(by omega),(by exact rel_ops hc00 hs1 (by omega) (rel_k2 (by omega) hra hrb) (fun h0 => by rw [h0]; exact op_div (xs := [_,_]) (by omega) (hzz.resolve_left (by omega))) (fun _ => rfl))⟩
end Go.Proofs.YtnofbmdpabcjaaaGreat
namespace Go.Proofs.YtnofbmdpabcjaaaGreat
open Go Go.RowKit
set_option linter.unusedVariables false
set_option linter.unusedSimpArgs false
attribute [local irreducible] LW
theorem s_value : ∀ F d, SV F d := by
  intro F
  induction F using Nat.strongRecOn with
  | _ F ihF =>
    intro d
    induction d using Nat.strongRecOn with
    | _ d ihd =>
      intro w S g pp dp n s0 c0 p ve ex vv env hS hgS hB0 hp hn hs0 hc0 hex henv hqenv hvp hF hwf hse hdp
      exact c_spec_l02Run_expr w S F g pp dp n s0 c0 p d ve ex vv env hS hgS hB0 hp hn hs0 hc0 hex henv hqenv hvp hF hwf hse hdp ihF ihd
theorem s_outs (F : Nat) : SO F := c_outs F fun d => s_value F d
set_option maxHeartbeats 4000000 in
set_option maxRecDepth 100000 in
theorem c_spec_l03Eval (w : World) (dp : Nat) (vp : Value) (p : List Fn) (f : Int) (va : Value) (a : List (List Int)) (n : Nat) (hp : RN [] (rP (rPr dp)) w.heap vp p) (_hf : -9223372036854775808≤f∧f≤9223372036854775807) (ha : RN [] (rdL (rdL rI)) w.heap va a) (hqa : CapS va) (hvp : VPr p) (hf : 0≤f∧f < ((p.length :Nat):Int)) (hl : ((a.length :Nat):Int) = (p.getD f.toNat Fn.zero).params) (hse : SrE n a) (hn : 1≤n∧n≤13) :
  Calls Tryz.prog 65 #[vp,.int .i64 f,va,.int .i64 ((n :Nat):Int)] w (fun e w' => ∃ v0 : Value,e = .returned (.tuple #[v0,.int .i64 (evD p n f.toNat a)])∧Ext w w'∧Fr (owL (owL rI 2) 25) w.heap.size w'.heap.size w'.heap v0 (evR p n f.toNat a)∧EvP p n f.toNat a) := by
 refine calls_mk [vp,.int .i64 f,va,.int .i64 ((n :Nat):Int)] 53 Tryz.func65 rfl rfl (by simp) ?_
 have hE0 : Ext w w := Ext.refl w
 have hl_va := ha.lenL
 unfold maxLen at hl_va
 refine wp_seq ?_
 refine wp_plain _ [0,0] rfl ?_
 refine q_assign (.slice none 0 0) rfl zN ?_
 refine q_assign (.int .i64 ((0 :Nat):Int)) rfl zN ?_
 refine lw_nil ?_
 refine wp_seq ?_
 refine wp_plain _ [0,0,0,3,0] rfl ?_
 refine q_move vp rfl zN ?_
 refine q_move (.int .i64 ((n :Nat):Int)) rfl zN ?_
 have hbd1 : ∀ (vp : Value) (hp1_0 : ∃ b o,vp = .pointer (some ⟨b,o,none⟩)) (wq : World),(Instr.build 123 #[(0,vp),(1,(.int .i64 ((n :Nat):Int)))]).run Tryz.prog wq = .ok (.agg #[vp,(.int .i64 ((n :Nat):Int)),(.int .i64 0),(.int .i64 0)]) wq := by intro vp hp1_0 wq; obtain ⟨b0,o0,rfl⟩ := hp1_0;kernel_rfl
 refine q_build (ps := #[(0,vp),(1,(.int .i64 ((n :Nat):Int)))]) (.agg #[vp,(.int .i64 ((n :Nat):Int)),(.int .i64 0),(.int .i64 0)]) (by simp only [List.map_toArray,List.map_cons,List.map_nil]; rfl) (fun wq => hbd1 vp hp.isPtr wq) zN ?_
 refine r_boxA (cs := #[vp,(.int .i64 ((n :Nat):Int)),(.int .i64 0),(.int .i64 0)]) rfl zN ?_
 intro w2 hX2 hz2 hB2
 have hzs2:=hX2.size
 have hE2:=hE0.trans hX2
 replace hB2 : BX w2.heap w.heap.size [vp,(.int .i64 ((n :Nat):Int)),(.int .i64 0),(.int .i64 0)] := hB2
 refine q_assign (.pointer (some ⟨w.heap.size,0,none⟩)) rfl zN ?_
 refine lw_nil ?_
 refine wp_seq ?_
 refine wp_plain _ [0,0,0,0,2,0,0,0,4,0] rfl ?_
 have hpr := hvp.par f.toNat (by omega)
 have hou := hvp.outs f.toNat (by omega)
 have hle : a.length = a.length := rfl
 refine q_move (.pointer (some ⟨w.heap.size,0,none⟩)) rfl zN ?_
 refine q_move vp rfl zN ?_
 refine q_nilP (hp.isPtr) rfl zN ?_
 obtain ⟨cs3,hr3,hl3⟩ := RN.at (good_rPr _) hp
 obtain ⟨ve3,rfl,hx3⟩ := RPr.of hr3
 have hln3 := hx3.lenle
 unfold maxLen at hln3
 refine q_fldL (p := vp) 0 fd32_0 rfl (hl3 _ (Chg.of_ext [] hE2)) zN ?_
 refine q_load (p := (padd vp 0)) (.inr rfl) ve3 one30 rfl ((hl3 _ (Chg.of_ext [] hE2)).ld (i := 0) (by simp [exC,fnC])) zN ?_
 refine q_move (.int .i64 f) rfl zN ?_
 refine q_idx (v := ve3) ((f).toNat) u30 tiS80 rfl rfl hx3.isSl (by omega) (by first | omega | assumption | (simp; done) | (simp; omega)) zN ?_
 refine q_move va rfl zN ?_
 refine lw_callE 102 [] [] [(.pointer (some ⟨w.heap.size,0,none⟩)),(eptr ve3 ((f).toNat) 3),va] rfl rfl cf102 zN (s_outs f.toNat _ [w.heap.size] w.heap.size vp dp (n) (0) (0) (p) dp (eptr ve3 ((f).toNat) 3) (p.getD ((f).toNat) Fn.zero) va (a) (fun b hb => (by have := List.mem_singleton.1 hb; omega : b < w2.heap.size)) (List.mem_singleton.2 rfl) hB2 ((hp.add (F := [w.heap.size]) (good_rP (good_rPr dp)) (fun b hb => by have := List.mem_singleton.1 hb; omega)).ext (good_rP (good_rPr dp)) hE2) (by omega) (by omega) (by omega) (RN.ptr (good_rFn dp) (by decide) Fn.zero ((hx3.add (F := [w.heap.size]) (good_rdS (good_rFn dp)) (fun b hb => by have := List.mem_singleton.1 hb; omega)).ext (good_rdS (good_rFn dp)) hE2) (by first | omega | assumption | (simp; done) | (simp; omega))) ((ha.add (F := [w.heap.size]) g2 (fun b hb => by have := List.mem_singleton.1 hb; omega)).ext g2 hE2) hqa (by exact hvp) (by omega) (by intro k9 hk9; have h9 := hvp.wf f.toNat (by omega) k9 hk9; rw [hle]; rw [hl]; exact h9) (by exact hse) (by intro k9 hk9; have := hvp.deep f.toNat (by omega) k9 hk9; omega) (by omega)) ?_
 rintro e4 w4 ⟨v4,x4,s4,c4,rfl,hC4,hB4,hr4,hse4,hsb4,hcb4,hrl4⟩
 refine ⟨_,rfl,?_⟩
 have hzs4:=hC4.size
 have hE4 : Ext w w4 := hC4.below hE2 (fun b hb => by have : b = w.heap.size := (by simpa using hb); omega) hE2.size
 have hsn4 := hse4.2.1
 have hsr4 := hse4.2.2
 have hcp4 := hse4.1
 have hrt4 := hr4.rt g2
 have hRL := hrl4
 have hCB := hcb4
 have hEP := EvP.mk' hRL hCB hsb4 hsn4 hsr4
 have hXS := hsr4
 have hXL := hsn4
 refine q_assign v4 rfl zN ?_
 refine lw_nil ?_
 refine wp_seq ?_
 refine wp_seq ?_
 refine wp_plain _ [0,0,0,2,0] rfl ?_
 refine q_move (.pointer (some ⟨w.heap.size,0,none⟩)) rfl zN ?_
 refine q_nil rfl zN ?_
 refine q_fldP (p := (.pointer (some ⟨w.heap.size,0,none⟩))) (b := w.heap.size) (o := 0) 3 fd123_3 rfl rfl zN ?_
 refine q_load (p := (padd (.pointer (some ⟨w.heap.size,0,none⟩)) 3)) (.inr rfl) (.int .i64 c4) one2 rfl (hB4.ldp (i := 3) (by simp)) zN ?_
 by_cases hc8 : c4 ≠ ((0 :Nat):Int)
 ·
  refine q_neq true rfl rfl (decide_eq_true hc8) zN ?_
  refine lw_nil ?_
  refine c_cond_t rfl ?_
  refine wp_seq ?_
  refine wp_draw _ [3,0,0,0,1,0,0] mixed (by kernel_rfl) ?_
  refine r_nil (owL rI 2) o1 u27 ti25 zN ?_
  intro v9 w9 hX9 hz9 hO9
  replace hX9 := hX9.of_drew
  have hzs9:=hX9.size
  have hE9:=hE4.trans hX9
  have hB4x9 := hB4.ext hX9
  have hN10 := hrt4.ext g2 hX9
  refine q_move (.pointer (some ⟨w.heap.size,0,none⟩)) rfl zN ?_
  refine q_nil rfl zN ?_
  refine q_fldP (p := (.pointer (some ⟨w.heap.size,0,none⟩))) (b := w.heap.size) (o := 0) 3 fd123_3 rfl rfl zN ?_
  refine q_load (p := (padd (.pointer (some ⟨w.heap.size,0,none⟩)) 3)) (.inl rfl) (.int .i64 c4) one2 rfl (hB4.ldp (i := 3) (by simp)) zN ?_
  refine q_assign v9 rfl zN ?_
  refine q_assign (.int .i64 c4) rfl zN ?_
  refine lw_nil ?_
  refine wp_ret ?_
  refine t_ret ?_
  exact post_ret [8,9] rfl (.tuple #[v9,(.int .i64 c4)]) rfl ⟨v9,(by rw [evD_e (ev_err hRL (by omega))] <;> rfl),hE9,(by rw [evR_e (ev_err hRL (by omega))]; exact (hO9.up o2).low hE4.size),hEP⟩
 ·
  refine q_neq false rfl rfl (decide_eq_false hc8) zN ?_
  refine lw_nil ?_
  refine c_cond_f rfl ?_
  refine wp_skip ?_
  refine wp_seq ?_
  refine wp_plain _ [3,0] rfl ?_
  refine r_nil (owL rI 2) o1 u27 ti25 zN ?_
  intro v11 w11 hX11 hz11 hO11
  have hzs11:=hX11.size
  have hE11:=hE4.trans hX11
  have hB4x11 := hB4.ext hX11
  have hN12 := hrt4.ext g2 hX11
  refine q_assign v11 rfl zN ?_
  refine lw_nil ?_
  refine wp_seq ?_
  refine wp_seq ?_
  refine wp_plain _ [0] rfl ?_
  refine q_assign (.int .i64 ((0 :Nat):Int)) rfl zN ?_
  refine lw_nil ?_
  refine wp_block ?_
  refine c_loop (S := Nat × Value) (fun (⟨k,vo⟩ : Nat × Value) => ([(12,vo),(13,(.int .i64 ((k :Nat):Int))),(11,v4)] : List (Nat × Value))) (fun (⟨k,vo⟩ : Nat × Value) (W : World) => Ext w W∧Fr (owL (owL rI 2) 25) w4.heap.size W.heap.size W.heap vo ((x4).take k)∧k≤(x4).length∧RT w4.heap.size (rdL (rdL rI)) W.heap v4 x4∧w4.heap.size≤W.heap.size∧w4.heap.size≤w4.heap.size∧w4.heap.size≤W.heap.size) (fun (⟨k,vo⟩ : Nat × Value) => (x4).length - k) (0,v11) ⟨rfl,rfl,rfl,trivial⟩ ⟨hE11,hO11.up o2,(by first | omega | assumption | (simp; done) | (simp; omega)),(by assumption),(by omega),(by omega),(by omega)⟩ ?_
  clear hE0 hz2 hX2 hzs2 hE2 hln3 hC4 hO11 hz11 hX11 hzs11 hE11
  rintro ⟨k,vo⟩ ρ16 w16 ⟨hE16,hL16_0,hp16_0,hrk13,hkB14,hkt15,hkB17⟩
  have hzs16 : w.heap.size≤w16.heap.size := hE16.size
  refine wp_seq ?_
  refine wp_seq ?_
  refine wp_plain _ [0,0,0,0] rfl ?_
  refine q_move (.int .i64 ((k :Nat):Int)) rfl zN ?_
  refine q_move v4 rfl zN ?_
  refine q_len (v := v4) u27 rfl hrk13.slL zN ?_
  by_cases hc18 : ((k :Nat):Int) < ((x4.length :Nat):Int)
  ·
   refine q_lss true rfl rfl (decide_eq_true hc18) zN ?_
   refine lw_nil ?_
   refine c_cond_t rfl ?_
   refine wp_skip ?_
   refine wp_seq ?_
   refine wp_block ?_
   refine wp_plain _ [0,0,0,0,2,3,3,4,0] rfl ?_
   have hkx := hXS k (by omega)
   have hkl := hkx.1
   refine q_move vo rfl zN ?_
   refine q_move v4 rfl zN ?_
   refine q_move (.int .i64 ((k :Nat):Int)) rfl zN ?_
   refine q_idx (v := v4) k u27 ti25 rfl rfl hrk13.slL rfl (by first | omega | assumption | (simp; done) | (simp; omega)) zN ?_
   obtain ⟨ue19,hl19,hr19⟩ := RT.getL g1 [] (k := k) hrk13 (by first | omega | assumption | (simp; done) | (simp; omega))
   have hln19 := hr19.lenL
   unfold maxLen at hln19
   refine q_load (p := eptr v4 k 1) (.inr rfl) ue19 one25 rfl hl19 zN ?_
   refine lw_call 80 [] [] [ue19] rfl rfl cf80 zN (c_spec_l00Own _ _ _ hr19.rd (by omega)) ?_
   rintro e20 w20 ⟨v20_0,rfl,hX20,hO20_0⟩
   refine ⟨_,rfl,hX20,?_⟩
   have hzs20:=hX20.size
   have hE20:=hE16.trans hX20
   have hL16_0x20 := hL16_0.ext (o2) hX20
   have hN21 := hrk13.ext g2 hX20
   have hN22 := hr19.ext g1 hX20
   refine r_one (u := v20_0) (B := w16.heap.size) o1 u27 ti25 rfl rfl hO20_0 (by first | exact Nat.le_refl _ | omega) zN ?_
   intro v23 w23 hX23 hz23 hO23
   have hzs23:=hX23.size
   have hE23:=hE20.trans hX23
   have hL16_0x23 := hL16_0x20.ext (o2) hX23
   have hN24 := hN21.ext g2 hX23
   have hN25 := hN22.ext g1 hX23
   refine e_appF o1 (v := vo) (a := v23) u27 ti25 rfl rfl rfl hL16_0x23 (by omega) hO23 (by omega) (by omega) (by first | omega | assumption | (simp; done) | (simp; omega)) (by unfold maxLen; first | omega | assumption | (simp; done) | (simp; omega)) zN ?_
   intro v26 w26 F26 hC26 hF26 hO26
   have hE26 : Ext w w26 := hC26.below hE23 (fun c hc => Nat.le_trans hE4.size (hF26 c hc).1) hE23.size
   have hzs26:=hC26.size
   have hN27 := hN24.chg g2 hC26 (fun c hc => by have := hF26 c hc; omega)
   have hN28 := hN25.chg g1 hC26 (fun c hc => by have := hF26 c hc; omega)
   refine q_assign v26 rfl zN ?_
   refine lw_nil ?_
   refine wp_plain _ [0,0,0] rfl ?_
   refine q_move (.int .i64 ((k :Nat):Int)) rfl zN ?_
   refine q_add ((k + 1 :Nat):Int) rfl rfl (w64n (by omega) (by first | omega | assumption | (simp; done) | (simp; omega))) zN ?_
   refine q_assign (.int .i64 ((k + 1 :Nat):Int)) rfl zN ?_
   refine lw_nil ?_
   exact ⟨((k + 1),v26),_,rfl,⟨rfl,rfl,rfl,trivial⟩,⟨hE26,(by rw [take_snoc [] (by omega)]; exact hO26.up o2),(by first | omega | assumption | (simp; done) | (simp; omega)),(by assumption),(by omega),(by omega),(by omega)⟩,by first | omega | (dsimp only; omega)⟩
  ·
   refine q_lss false rfl rfl (decide_eq_false hc18) zN ?_
   refine lw_nil ?_
   refine c_cond_f rfl ?_
   refine wp_exit ?_
   refine t_exit ?_
   refine t_exit ?_
   refine c_exit_here ?_
   refine wp_seq ?_
   refine wp_plain _ [0,0,0] rfl ?_
   refine q_move vo rfl zN ?_
   refine q_assign vo rfl zN ?_
   refine q_assign (.int .i64 ((0 :Nat):Int)) rfl zN ?_
   refine lw_nil ?_
   refine wp_ret ?_
   exact post_ret [8,9] rfl (.tuple #[vo,(.int .i64 ((0 :Nat):Int))]) rfl ⟨vo,(by rw [evD_o (ev_ok hRL (by omega))] <;> rfl),hE16,(by have h := (hL16_0.up o2).low hE4.size; rw [evR_o (ev_ok hRL (by omega))]; rwa [List.take_of_length_le (by omega)] at h),hEP⟩
theorem mp_b {p : List Fn} {f : Int} (h : isF p f = 0) (h1 : (decide (((1 : Nat) : Int) ≤ (p.getD f.toNat Fn.zero).params) && decide ((p.getD f.toNat Fn.zero).params ≤ ((12 : Nat) : Int))) = false) : 2 = shF p f fldB := by
  have h1' : inB (p.getD f.toNat Fn.zero).params 1 12 = false := h1
  unfold shF fldB; rw [if_pos h, h1', Bool.false_and]; rfl
theorem mp_c {p : List Fn} {f : Int} (h : isF p f = 0) (h1 : ¬ ((((p.getD f.toNat Fn.zero).outs.length : Nat) : Int) = (p.getD f.toNat Fn.zero).params)) : 2 = shF p f fldB := by
  unfold shF fldB; rw [if_pos h, decide_eq_false h1, Bool.and_false]; rfl
theorem mp_d {p : List Fn} {f : Int} (h : isF p f = 0) (h1 : (decide (((1 : Nat) : Int) ≤ (p.getD f.toNat Fn.zero).params) && decide ((p.getD f.toNat Fn.zero).params ≤ ((12 : Nat) : Int))) = true) (h2 : (((p.getD f.toNat Fn.zero).outs.length : Nat) : Int) = (p.getD f.toNat Fn.zero).params) : isF p f = shF p f fldB := by
  have h1' : inB (p.getD f.toNat Fn.zero).params 1 12 = true := h1
  unfold shF fldB; rw [if_pos h, h1', decide_eq_true h2, h]; rfl
set_option maxHeartbeats 4000000 in
set_option maxRecDepth 100000 in
theorem c_spec_l07Map (w : World) (dp : Nat) (vp : Value) (p : List Fn) (f : Int) (most : Int) (hp : RN [] (rP (rPr dp)) w.heap vp p) (_hf : -9223372036854775808≤f∧f≤9223372036854775807) (_hmost : -9223372036854775808≤most∧most≤9223372036854775807) (hz : SzP p) (hm : most = ((12 :Nat):Int)) :
  Calls Tryz.prog 91 #[vp,.int .i64 f,.int .i64 most] w (fun e w' => e = .returned (.int .i64 (shF p f fldB))∧Ext w w') := by
 refine calls_mk [vp,.int .i64 f,.int .i64 most] 47 Tryz.func91 rfl rfl (by simp) ?_
 have hE0 : Ext w w := Ext.refl w
 refine wp_seq ?_
 refine wp_plain _ [0] rfl ?_
 refine q_assign (.int .i64 ((0 :Nat):Int)) rfl zN ?_
 refine lw_nil ?_
 refine wp_seq ?_
 refine wp_plain _ [0,0,3,0] rfl ?_
 refine q_move vp rfl zN ?_
 refine q_move (.int .i64 f) rfl zN ?_
 refine lw_call 126 [] [] [vp,(.int .i64 f)] rfl rfl cf126 zN (c_spec_l02Asked _ dp vp (p) _ (hp.ext (good_rP (good_rPr dp)) hE0) _hf (by exact hz)) ?_
 rintro e1 w1 ⟨rfl,hX1⟩
 refine ⟨_,rfl,hX1,?_⟩
 have hzs1:=hX1.size
 have hE1:=hE0.trans hX1
 refine q_assign (.int .i64 (isF p f)) rfl zN ?_
 refine lw_nil ?_
 refine wp_seq ?_
 refine wp_seq ?_
 refine wp_draw _ [0,0,0,0,0,0,1,0,0,0,1,0,0,0,0,0,0,0,1,0,0,0,1,0,0,0,0,1,0,0,0,1,0,0,0] mixed (by kernel_rfl) ?_
 refine q_move (.int .i64 (isF p f)) rfl zN ?_
 by_cases hc2 : isF p f = ((0 :Nat):Int)
 ·
  refine q_eql true rfl rfl (decide_eq_true hc2) zN ?_
  refine q_move (.bool true) rfl zN ?_
  refine q_move vp rfl (zS (e := 13) rfl rfl rfl) ?_
  have hi0 := isF_0 (p := p) (f := f) (by omega)
  refine q_nilP (hp.isPtr) rfl (zS (e := 13) rfl rfl rfl) ?_
  obtain ⟨cs3,hr3,hl3⟩ := RN.at (good_rPr _) hp
  obtain ⟨ve3,rfl,hx3⟩ := RPr.of hr3
  have hln3 := hx3.lenle
  unfold maxLen at hln3
  refine q_fldL (p := vp) 0 fd32_0 rfl (hl3 _ (Chg.of_ext [] hE1.drew)) (zS (e := 13) rfl rfl rfl) ?_
  refine q_load (p := (padd vp 0)) (.inl rfl) ve3 one30 rfl ((hl3 _ (Chg.of_ext [] hE1.drew)).ld (i := 0) (by simp [exC,fnC])) (zS (e := 13) rfl rfl rfl) ?_
  refine q_move (.int .i64 f) rfl (zS (e := 13) rfl rfl rfl) ?_
  refine q_idx (v := ve3) ((f).toNat) u30 tiS80 rfl rfl hx3.isSl (by omega) (by first | omega | assumption | (simp; done) | (simp; omega)) (zS (e := 13) rfl rfl rfl) ?_
  obtain ⟨cs4,hr4,hl4⟩ := hx3.get (good_rFn dp) Fn.zero (k := ((f).toNat)) (by first | omega | assumption | (simp; done) | (simp; omega))
  obtain ⟨ve4,rfl,hx4⟩ := RF.of hr4
  have hln4 := hx4.rn.lenle
  unfold maxLen at hln4
  refine q_fldL (p := eptr ve3 ((f).toNat) 3) 1 fd80_1 rfl (hl4 _ (Chg.of_ext [] hE1.drew)) (zS (e := 13) rfl rfl rfl) ?_
  refine q_load (p := (padd (eptr ve3 ((f).toNat) 3) 1)) (.inl rfl) (.int .i64 ((p.getD ((f).toNat) Fn.zero).params)) one2 rfl ((hl4 _ (Chg.of_ext [] hE1.drew)).ld (i := 1) (by simp [exC,fnC])) (zS (e := 13) rfl rfl rfl) ?_
  refine q_move (.int .i64 most) rfl (zS (e := 13) rfl rfl rfl) ?_
  refine lw_callq 63 [] [] [(.int .i64 ((p.getD ((f).toNat) Fn.zero).params)),(.int .i64 ((1 :Nat):Int)),(.int .i64 most)] rfl rfl cf63 (zS (e := 13) rfl rfl rfl) (.bool (decide (((1 :Nat):Int)≤((p.getD ((f).toNat) Fn.zero).params)) && decide (((p.getD ((f).toNat) Fn.zero).params)≤most))) (fun wq => c_spec_l00In wq _ _ _ hx4.rng (by omega) _hmost) ?_
  refine q_not (!(decide (((1 :Nat):Int)≤((p.getD ((f).toNat) Fn.zero).params)) && decide (((p.getD ((f).toNat) Fn.zero).params)≤most))) rfl rfl (zS (e := 13) rfl rfl rfl) ?_
  refine q_move (.bool (!(decide (((1 :Nat):Int)≤((p.getD ((f).toNat) Fn.zero).params)) && decide (((p.getD ((f).toNat) Fn.zero).params)≤most)))) rfl (zS (e := 13) rfl rfl rfl) ?_
  cases hb6 : (!(decide (((1 :Nat):Int)≤((p.getD ((f).toNat) Fn.zero).params)) && decide (((p.getD ((f).toNat) Fn.zero).params)≤most)))
  ·
   refine q_move vp rfl (zS (e := 25) rfl rfl rfl) ?_
   refine q_nilP (hp.isPtr) rfl (zS (e := 25) rfl rfl rfl) ?_
   refine q_fldL (p := vp) 0 fd32_0 rfl (hl3 _ (Chg.of_ext [] hE1.drew)) (zS (e := 25) rfl rfl rfl) ?_
   refine q_load (p := (padd vp 0)) (.inl rfl) ve3 one30 rfl ((hl3 _ (Chg.of_ext [] hE1.drew)).ld (i := 0) (by simp [exC,fnC])) (zS (e := 25) rfl rfl rfl) ?_
   refine q_move (.int .i64 f) rfl (zS (e := 25) rfl rfl rfl) ?_
   refine q_idx (v := ve3) ((f).toNat) u30 tiS80 rfl rfl hx3.isSl (by omega) (by first | omega | assumption | (simp; done) | (simp; omega)) (zS (e := 25) rfl rfl rfl) ?_
   refine q_fldL (p := eptr ve3 ((f).toNat) 3) 2 fd80_2 rfl (hl4 _ (Chg.of_ext [] hE1.drew)) (zS (e := 25) rfl rfl rfl) ?_
   refine q_load (p := (padd (eptr ve3 ((f).toNat) 3) 2)) (.inl rfl) ve4 one78 rfl ((hl4 _ (Chg.of_ext [] hE1.drew)).ld (i := 2) (by simp [exC,fnC])) (zS (e := 25) rfl rfl rfl) ?_
   refine q_len (v := ve4) u78 rfl hx4.rn.isSl (zS (e := 25) rfl rfl rfl) ?_
   refine q_move vp rfl (zS (e := 25) rfl rfl rfl) ?_
   refine q_nilP (hp.isPtr) rfl (zS (e := 25) rfl rfl rfl) ?_
   refine q_fldL (p := vp) 0 fd32_0 rfl (hl3 _ (Chg.of_ext [] hE1.drew)) (zS (e := 25) rfl rfl rfl) ?_
   refine q_load (p := (padd vp 0)) (.inl rfl) ve3 one30 rfl ((hl3 _ (Chg.of_ext [] hE1.drew)).ld (i := 0) (by simp [exC,fnC])) (zS (e := 25) rfl rfl rfl) ?_
   refine q_move (.int .i64 f) rfl (zS (e := 25) rfl rfl rfl) ?_
   refine q_idx (v := ve3) ((f).toNat) u30 tiS80 rfl rfl hx3.isSl (by omega) (by first | omega | assumption | (simp; done) | (simp; omega)) (zS (e := 25) rfl rfl rfl) ?_
   refine q_fldL (p := eptr ve3 ((f).toNat) 3) 1 fd80_1 rfl (hl4 _ (Chg.of_ext [] hE1.drew)) (zS (e := 25) rfl rfl rfl) ?_
   refine q_load (p := (padd (eptr ve3 ((f).toNat) 3) 1)) (.inl rfl) (.int .i64 ((p.getD ((f).toNat) Fn.zero).params)) one2 rfl ((hl4 _ (Chg.of_ext [] hE1.drew)).ld (i := 1) (by simp [exC,fnC])) (zS (e := 25) rfl rfl rfl) ?_
   by_cases hc7 : ((((p.getD ((f).toNat) Fn.zero).outs).length :Nat):Int) ≠ (p.getD ((f).toNat) Fn.zero).params
   ·
    refine q_neq true rfl rfl (decide_eq_true hc7) (zS (e := 25) rfl rfl rfl) ?_
    refine q_pick false (.bool true) rfl rfl (zS (e := 13) rfl rfl rfl) ?_
    refine q_pick true (.bool true) rfl rfl zN ?_
    refine lw_nil ?_
    refine c_cond_t rfl ?_
    refine wp_plain _ [0] rfl ?_
    refine q_assign (.int .i64 ((2 :Nat):Int)) rfl zN ?_
    refine lw_nil ?_
    refine wp_seq ?_
    refine wp_plain _ [0,0] rfl ?_
    refine q_move (.int .i64 ((2 :Nat):Int)) rfl zN ?_
    refine q_assign (.int .i64 ((2 :Nat):Int)) rfl zN ?_
    refine lw_nil ?_
    refine wp_ret ?_
    exact post_ret [6] rfl (.int .i64 ((2 :Nat):Int)) rfl ⟨(by first | exact ret_int (shF_n (by omega)) | exact ret_int (mp_b (by omega) (by rw [← hm]; exact bn_t (by assumption))) | exact ret_int (mp_c (by omega) (by omega)) | exact ret_int (mp_d (by omega) (by rw [← hm]; exact bn_f (by assumption)) (by omega))),hE1.drew⟩
   ·
    refine q_neq false rfl rfl (decide_eq_false hc7) (zS (e := 25) rfl rfl rfl) ?_
    refine q_pick false (.bool false) rfl rfl (zS (e := 13) rfl rfl rfl) ?_
    refine q_pick true (.bool false) rfl rfl zN ?_
    refine lw_nil ?_
    refine c_cond_f rfl ?_
    refine wp_skip ?_
    refine wp_seq ?_
    refine wp_plain _ [0,0] rfl ?_
    refine q_move (.int .i64 (isF p f)) rfl zN ?_
    refine q_assign (.int .i64 (isF p f)) rfl zN ?_
    refine lw_nil ?_
    refine wp_ret ?_
    exact post_ret [6] rfl (.int .i64 (isF p f)) rfl ⟨(by first | exact ret_int (shF_n (by omega)) | exact ret_int (mp_b (by omega) (by rw [← hm]; exact bn_t (by assumption))) | exact ret_int (mp_c (by omega) (by omega)) | exact ret_int (mp_d (by omega) (by rw [← hm]; exact bn_f (by assumption)) (by omega))),hE1.drew⟩
  ·
   refine lw_skip (e := 25) (c := true) rfl rfl rfl rfl ?_
   refine lw_skip (e := 25) (c := true) rfl rfl rfl rfl ?_
   refine lw_skip (e := 25) (c := true) rfl rfl rfl rfl ?_
   refine lw_skip (e := 25) (c := true) rfl rfl rfl rfl ?_
   refine lw_skip (e := 25) (c := true) rfl rfl rfl rfl ?_
   refine lw_skip (e := 25) (c := true) rfl rfl rfl rfl ?_
   refine lw_skip (e := 25) (c := true) rfl rfl rfl rfl ?_
   refine lw_skip (e := 25) (c := true) rfl rfl rfl rfl ?_
   refine lw_skip (e := 25) (c := true) rfl rfl rfl rfl ?_
   refine lw_skip (e := 25) (c := true) rfl rfl rfl rfl ?_
   refine lw_skip (e := 25) (c := true) rfl rfl rfl rfl ?_
   refine lw_skip (e := 25) (c := true) rfl rfl rfl rfl ?_
   refine lw_skip (e := 25) (c := true) rfl rfl rfl rfl ?_
   refine lw_skip (e := 25) (c := true) rfl rfl rfl rfl ?_
   refine lw_skip (e := 25) (c := true) rfl rfl rfl rfl ?_
   refine lw_skip (e := 25) (c := true) rfl rfl rfl rfl ?_
   refine lw_skip (e := 25) (c := true) rfl rfl rfl rfl ?_
   refine lw_skip (e := 25) (c := true) rfl rfl rfl rfl ?_
   refine q_pick true (.bool true) rfl rfl (zS (e := 13) rfl rfl rfl) ?_
   refine q_pick true (.bool true) rfl rfl zN ?_
   refine lw_nil ?_
   refine c_cond_t rfl ?_
   refine wp_plain _ [0] rfl ?_
   refine q_assign (.int .i64 ((2 :Nat):Int)) rfl zN ?_
   refine lw_nil ?_
   refine wp_seq ?_
   refine wp_plain _ [0,0] rfl ?_
   refine q_move (.int .i64 ((2 :Nat):Int)) rfl zN ?_
   refine q_assign (.int .i64 ((2 :Nat):Int)) rfl zN ?_
   refine lw_nil ?_
   refine wp_ret ?_
   exact post_ret [6] rfl (.int .i64 ((2 :Nat):Int)) rfl ⟨(by first | exact ret_int (shF_n (by omega)) | exact ret_int (mp_b (by omega) (by rw [← hm]; exact bn_t (by assumption))) | exact ret_int (mp_c (by omega) (by omega)) | exact ret_int (mp_d (by omega) (by rw [← hm]; exact bn_f (by assumption)) (by omega))),hE1.drew⟩
 ·
  refine q_eql false rfl rfl (decide_eq_false hc2) zN ?_
  refine q_move (.bool false) rfl zN ?_
  refine lw_skip (e := 13) (c := false) rfl rfl rfl rfl ?_
  refine lw_skip (e := 13) (c := false) rfl rfl rfl rfl ?_
  refine lw_skip (e := 13) (c := false) rfl rfl rfl rfl ?_
  refine lw_skip (e := 13) (c := false) rfl rfl rfl rfl ?_
  refine lw_skip (e := 13) (c := false) rfl rfl rfl rfl ?_
  refine lw_skip (e := 13) (c := false) rfl rfl rfl rfl ?_
  refine lw_skip (e := 13) (c := false) rfl rfl rfl rfl ?_
  refine lw_skip (e := 13) (c := false) rfl rfl rfl rfl ?_
  refine lw_skip (e := 13) (c := false) rfl rfl rfl rfl ?_
  refine lw_skip (e := 13) (c := false) rfl rfl rfl rfl ?_
  refine lw_skip (e := 13) (c := false) rfl rfl rfl rfl ?_
  refine lw_skip (e := 13) (c := false) rfl rfl rfl rfl ?_
  refine lw_skipU (e := 25) rfl rfl rfl ?_
  refine lw_skipU (e := 25) rfl rfl rfl ?_
  refine lw_skipU (e := 25) rfl rfl rfl ?_
  refine lw_skipU (e := 25) rfl rfl rfl ?_
  refine lw_skipU (e := 25) rfl rfl rfl ?_
  refine lw_skipU (e := 25) rfl rfl rfl ?_
  refine lw_skipU (e := 25) rfl rfl rfl ?_
  refine lw_skipU (e := 25) rfl rfl rfl ?_
  refine lw_skipU (e := 25) rfl rfl rfl ?_
  refine lw_skipU (e := 25) rfl rfl rfl ?_
  refine lw_skipU (e := 25) rfl rfl rfl ?_
  refine lw_skipU (e := 25) rfl rfl rfl ?_
  refine lw_skipU (e := 25) rfl rfl rfl ?_
  refine lw_skipU (e := 25) rfl rfl rfl ?_
  refine lw_skipU (e := 25) rfl rfl rfl ?_
  refine lw_skipU (e := 25) rfl rfl rfl ?_
  refine lw_skipU (e := 25) rfl rfl rfl ?_
  refine lw_skipU (e := 25) rfl rfl rfl ?_
  refine lw_skip (e := 13) (c := false) rfl rfl rfl rfl ?_
  refine q_pick false (.bool false) rfl rfl zN ?_
  refine lw_nil ?_
  refine c_cond_f rfl ?_
  refine wp_skip ?_
  refine wp_seq ?_
  refine wp_plain _ [0,0] rfl ?_
  refine q_move (.int .i64 (isF p f)) rfl zN ?_
  refine q_assign (.int .i64 (isF p f)) rfl zN ?_
  refine lw_nil ?_
  refine wp_ret ?_
  exact post_ret [6] rfl (.int .i64 (isF p f)) rfl ⟨(by first | exact ret_int (shF_n (by omega)) | exact ret_int (mp_b (by omega) (by rw [← hm]; exact bn_t (by assumption))) | exact ret_int (mp_c (by omega) (by omega)) | exact ret_int (mp_d (by omega) (by rw [← hm]; exact bn_f (by assumption)) (by omega))),hE1.drew⟩
set_option maxHeartbeats 4000000 in
set_option maxRecDepth 100000 in
theorem c_spec_l01Ok (w : World) (va : Value) (a : List Int) (ha : Rd (rdL rI) w.heap va a)  :
  Calls Tryz.prog 127 #[va] w (fun e w' => e = .returned (.bool (okS a))∧Ext w w') := by
 refine calls_mk [va] 10 Tryz.func127 rfl rfl (by simp) ?_
 have hE0 : Ext w w := Ext.refl w
 have hl_va := ha.lenle
 refine wp_seq ?_
 refine wp_plain _ [0] rfl ?_
 refine q_assign (.bool false) rfl zN ?_
 refine lw_nil ?_
 refine wp_seq ?_
 refine wp_plain _ [0,0,0,0,0,3,0,0] rfl ?_
 refine q_move va rfl zN ?_
 refine q_len (v := va) u25 rfl ha.isSl zN ?_
 refine lw_callq 63 [] [] [(.int .i64 ((a.length :Nat):Int)),(.int .i64 ((1 :Nat):Int)),(.int .i64 ((13 :Nat):Int))] rfl rfl cf63 zN (.bool (decide (((1 :Nat):Int)≤((a.length :Nat):Int)) && decide (((a.length :Nat):Int)≤((13 :Nat):Int)))) (fun wq => c_spec_l00In wq _ _ _ (by omega) (by omega) (by omega)) ?_
 refine q_move (.bool (decide (((1 :Nat):Int)≤((a.length :Nat):Int)) && decide (((a.length :Nat):Int)≤((13 :Nat):Int)))) rfl zN ?_
 cases hb2 : (decide (((1 :Nat):Int)≤((a.length :Nat):Int)) && decide (((a.length :Nat):Int)≤((13 :Nat):Int)))
 ·
  refine lw_skip (e := 6) (c := false) rfl rfl rfl rfl ?_
  refine lw_skip (e := 6) (c := false) rfl rfl rfl rfl ?_
  refine q_pick false (.bool false) rfl rfl zN ?_
  refine q_assign (.bool false) rfl zN ?_
  refine lw_nil ?_
  refine wp_ret ?_
  exact post_ret [2] rfl (.bool false) rfl ⟨(ret_bool (by unfold okS; first | (rw [‹(decide (((1 :Nat):Int)≤((a.length :Nat):Int)) && decide (((a.length :Nat):Int)≤((13 :Nat):Int))) = false›]; rfl) | (rw [‹(decide (((1 :Nat):Int)≤((a.length :Nat):Int)) && decide (((a.length :Nat):Int)≤((13 :Nat):Int))) = true›]; rfl))),hE0⟩
 ·
  refine q_move va rfl (zS (e := 6) rfl rfl rfl) ?_
  refine lw_call 79 [] [] [va] rfl rfl cf79 (zS (e := 6) rfl rfl rfl) (c_spec_l01Numbers _ _ _ (ha.ext g1 hE0)) ?_
  rintro e3 w3 ⟨rfl,hX3⟩
  refine ⟨_,rfl,hX3,?_⟩
  have hzs3:=hX3.size
  have hE3:=hE0.trans hX3
  refine q_pick true (.bool (allN a)) rfl rfl zN ?_
  refine q_assign (.bool (allN a)) rfl zN ?_
  refine lw_nil ?_
  refine wp_ret ?_
  exact post_ret [2] rfl (.bool (allN a)) rfl ⟨(ret_bool (by unfold okS; first | (rw [‹(decide (((1 :Nat):Int)≤((a.length :Nat):Int)) && decide (((a.length :Nat):Int)≤((13 :Nat):Int))) = false›]; rfl) | (rw [‹(decide (((1 :Nat):Int)≤((a.length :Nat):Int)) && decide (((a.length :Nat):Int)≤((13 :Nat):Int))) = true›]; rfl))),hE3⟩
set_option maxHeartbeats 4000000 in
set_option maxRecDepth 100000 in
theorem c_spec_l07Series (w : World) (va : Value) (a : List (List Int)) (K : Nat) (ha : Rd (rdL (rdL rI)) w.heap va a)  :
  Calls Tryz.prog 92 #[va,.int .i64 ((K :Nat):Int)] w (fun e w' => e = .returned (.bool (a.all (serB K)))∧Ext w w') := by
 refine calls_mk [va,.int .i64 ((K :Nat):Int)] 27 Tryz.func92 rfl rfl (by simp) ?_
 have hE0 : Ext w w := Ext.refl w
 have hl_va := ha.lenle
 refine wp_seq ?_
 refine wp_plain _ [0] rfl ?_
 refine q_assign (.bool false) rfl zN ?_
 refine lw_nil ?_
 refine wp_seq ?_
 refine wp_seq ?_
 refine wp_plain _ [0] rfl ?_
 refine q_assign (.int .i64 ((0 :Nat):Int)) rfl zN ?_
 refine lw_nil ?_
 refine wp_block ?_
 refine c_loop (S := Nat) (fun (k : Nat) => ([(5,(.int .i64 ((k :Nat):Int))),(0,va),(1,(.int .i64 ((K :Nat):Int)))] : List (Nat × Value))) (fun (k : Nat) (W : World) => Ext w W∧k≤a.length∧((a.take k).all (serB K) = true)) (fun (k : Nat) => a.length - k) 0 ⟨rfl,rfl,rfl,trivial⟩ ⟨hE0,(by first | omega | assumption | (simp; done) | (simp; omega)),(by exact rfl)⟩ ?_
 clear hE0
 rintro k ρ1 w1 ⟨hE1,hp1_0,hq⟩
 have hzs1 : w.heap.size≤w1.heap.size := hE1.size
 refine wp_seq ?_
 refine wp_seq ?_
 refine wp_plain _ [0,0,0,0] rfl ?_
 refine q_move (.int .i64 ((k :Nat):Int)) rfl zN ?_
 refine q_move va rfl zN ?_
 refine q_len (v := va) u27 rfl ha.isSl zN ?_
 by_cases hc2 : ((k :Nat):Int) < ((a.length :Nat):Int)
 ·
  refine q_lss true rfl rfl (decide_eq_true hc2) zN ?_
  refine lw_nil ?_
  refine c_cond_t rfl ?_
  refine wp_skip ?_
  refine wp_seq ?_
  refine wp_block ?_
  refine wp_seq ?_
  refine wp_plain _ [0,0,0,2,3,0,0,0,0,0,2,0,0,0,0] rfl ?_
  refine q_move va rfl zN ?_
  refine q_move (.int .i64 ((k :Nat):Int)) rfl zN ?_
  refine q_idx (v := va) k u27 ti25 rfl rfl ha.isSl rfl (by first | omega | assumption | (simp; done) | (simp; omega)) zN ?_
  obtain ⟨ue3,hl3,hd3⟩ := ha.get (k := k) [] (by first | omega | assumption | (simp; done) | (simp; omega))
  have hln3 := hd3.lenle
  refine q_load (p := eptr va k 1) (.inr rfl) ue3 one25 rfl (ldH_ext hE1 hl3) zN ?_
  refine lw_call 127 [] [] [ue3] rfl rfl cf127 zN (c_spec_l01Ok _ _ _ (hd3.ext g1 hE1)) ?_
  rintro e4 w4 ⟨rfl,hX4⟩
  refine ⟨_,rfl,hX4,?_⟩
  have hzs4:=hX4.size
  have hE4:=hE1.trans hX4
  refine q_not (!(okS (a.getD k []))) rfl rfl zN ?_
  refine q_move (.bool (!(okS (a.getD k [])))) rfl zN ?_
  cases hb5 : (!(okS (a.getD k [])))
  ·
   refine q_move va rfl (zS (e := 18) rfl rfl rfl) ?_
   refine q_move (.int .i64 ((k :Nat):Int)) rfl (zS (e := 18) rfl rfl rfl) ?_
   refine q_idx (v := va) k u27 ti25 rfl rfl ha.isSl rfl (by first | omega | assumption | (simp; done) | (simp; omega)) (zS (e := 18) rfl rfl rfl) ?_
   obtain ⟨ue6,hl6,hd6⟩ := ha.get (k := k) [] (by first | omega | assumption | (simp; done) | (simp; omega))
   have hln6 := hd6.lenle
   refine q_load (p := eptr va k 1) (.inr rfl) ue6 one25 rfl (ldH_ext hE4 hl6) (zS (e := 18) rfl rfl rfl) ?_
   refine q_len (v := ue6) u25 rfl hd6.isSl (zS (e := 18) rfl rfl rfl) ?_
   refine q_move (.int .i64 ((K :Nat):Int)) rfl (zS (e := 18) rfl rfl rfl) ?_
   by_cases hc7 : (((a.getD k []).length :Nat):Int) ≠ ((K :Nat):Int)
   ·
    refine q_neq true rfl rfl (decide_eq_true hc7) (zS (e := 18) rfl rfl rfl) ?_
    refine q_pick false (.bool true) rfl rfl zN ?_
    refine lw_nil ?_
    refine c_cond_t rfl ?_
    refine wp_seq ?_
    refine wp_plain _ [0] rfl ?_
    refine q_assign (.bool false) rfl zN ?_
    refine lw_nil ?_
    refine wp_ret ?_
    refine b_ret ?_
    refine t_ret ?_
    refine t_ret ?_
    refine b_ret ?_
    refine t_ret ?_
    exact post_ret [4] rfl (.bool false) rfl ⟨(ret_bool (all_fail (f := serB K) (k := k) [] (by omega) (by unfold serB; rw [Bool.and_eq_false_iff]; right; exact decide_eq_false (by omega))).symm),hE4⟩
   ·
    refine q_neq false rfl rfl (decide_eq_false hc7) (zS (e := 18) rfl rfl rfl) ?_
    refine q_pick false (.bool false) rfl rfl zN ?_
    refine lw_nil ?_
    refine c_cond_f rfl ?_
    refine wp_skip ?_
    refine wp_plain _ [0,0,0] rfl ?_
    refine q_move (.int .i64 ((k :Nat):Int)) rfl zN ?_
    refine q_add ((k + 1 :Nat):Int) rfl rfl (w64n (by omega) (by first | omega | assumption | (simp; done) | (simp; omega))) zN ?_
    refine q_assign (.int .i64 ((k + 1 :Nat):Int)) rfl zN ?_
    refine lw_nil ?_
    exact ⟨(k + 1),_,rfl,⟨rfl,rfl,rfl,trivial⟩,⟨hE4,(by first | omega | assumption | (simp; done) | (simp; omega)),(by exact all_succ (f := serB K) [] hq (by omega) (by unfold serB; simp only [Bool.and_eq_true,decide_eq_true_eq]; exact ⟨by simpa using ‹(!okS (a.getD k [])) = false›,by omega⟩))⟩,by first | omega | (dsimp only; omega)⟩
  ·
   refine lw_skip (e := 18) (c := true) rfl rfl rfl rfl ?_
   refine lw_skip (e := 18) (c := true) rfl rfl rfl rfl ?_
   refine lw_skip (e := 18) (c := true) rfl rfl rfl rfl ?_
   refine lw_skip (e := 18) (c := true) rfl rfl rfl rfl ?_
   refine lw_skip (e := 18) (c := true) rfl rfl rfl rfl ?_
   refine lw_skip (e := 18) (c := true) rfl rfl rfl rfl ?_
   refine lw_skip (e := 18) (c := true) rfl rfl rfl rfl ?_
   refine q_pick true (.bool true) rfl rfl zN ?_
   refine lw_nil ?_
   refine c_cond_t rfl ?_
   refine wp_seq ?_
   refine wp_plain _ [0] rfl ?_
   refine q_assign (.bool false) rfl zN ?_
   refine lw_nil ?_
   refine wp_ret ?_
   refine b_ret ?_
   refine t_ret ?_
   refine t_ret ?_
   refine b_ret ?_
   refine t_ret ?_
   exact post_ret [4] rfl (.bool false) rfl ⟨(ret_bool (all_fail (f := serB K) (k := k) [] (by omega) (by unfold serB; rw [Bool.and_eq_false_iff]; left; simpa using ‹(!okS (a.getD k [])) = true›)).symm),hE4⟩
 ·
  refine q_lss false rfl rfl (decide_eq_false hc2) zN ?_
  refine lw_nil ?_
  refine c_cond_f rfl ?_
  refine wp_exit ?_
  refine t_exit ?_
  refine t_exit ?_
  refine c_exit_here ?_
  refine wp_seq ?_
  refine wp_plain _ [0] rfl ?_
  refine q_assign (.bool true) rfl zN ?_
  refine lw_nil ?_
  refine wp_ret ?_
  exact post_ret [4] rfl (.bool true) rfl ⟨(ret_bool (all_done hq (by omega)).symm),hE1⟩
/-- The outputs of a field for series. -/
def alR (p : List Fn) (f : Int) (y : List Sr) : List Sr := if gvC p f y = 0 then evR p (oOf y + 1) f.toNat y else []
theorem al_n {p : List Fn} {f : Int} {y : List Sr} (h : shF p f fldB ≠ 0) : gvC p f y = shF p f fldB := (gv_n h).symm
theorem al_l {p : List Fn} {f : Int} {y : List Sr} (h : shF p f fldB = 0) (h2 : ¬ (((y.length : Nat) : Int) = (p.getD f.toNat Fn.zero).params)) : gvC p f y = 2 := (gv_2 h (by rw [decide_eq_false h2, Bool.and_false])).symm
theorem al_s {p : List Fn} {f : Int} {y : List Sr} (h : shF p f fldB = 0) (h2 : y.all (serB (y.getD 0 []).length) = false) : gvC p f y = 2 := (gv_2 h (by unfold argB; rw [h2, Bool.false_and])).symm
theorem al_0 {p : List Fn} {f : Int} {y : List Sr} (h : shF p f fldB = 0) (h2 : ((y.length : Nat) : Int) = (p.getD f.toNat Fn.zero).params) (h3 : y.all (serB (y.getD 0 []).length) = true) : gvC p f y = 0 := by
  rw [← gv_3 h (by unfold argB; rw [h3, decide_eq_true h2]; rfl), h]
theorem al_rng {p : List Fn} {f : Int} {y : List Sr} (h : gvC p f y ≠ 0) : (0 ≤ psC p f y ∧ psC p f y ≤ 9) ∧ (gvC p f y = 0 → EvP p (oOf y + 1) f.toNat y) := by
  have := gvC_rng p f y
  rw [psC_n h]
  exact ⟨by omega, fun h9 => absurd h9 h⟩
theorem al_rng0 {p : List Fn} {f : Int} {y : List Sr} (h : gvC p f y = 0) (he : EvP p (oOf y + 1) f.toNat y) : (0 ≤ psC p f y ∧ psC p f y ≤ 9) ∧ (gvC p f y = 0 → EvP p (oOf y + 1) f.toNat y) := by
  rw [psC_0 h]; exact ⟨he.code, fun _ => he⟩
set_option maxHeartbeats 4000000 in
set_option maxRecDepth 100000 in
theorem c_spec_l07Along (w : World) (dp : Nat) (vp : Value) (p : List Fn) (f : Int) (vy : Value) (y : List (List Int)) (hp : RN [] (rP (rPr dp)) w.heap vp p) (_hf : -9223372036854775808≤f∧f≤9223372036854775807) (hy : RN [] (rdL (rdL rI)) w.heap vy y) (hqy : CapS vy) (hz : SzP p) :
  Calls Tryz.prog 51 #[vp,.int .i64 f,vy] w (fun e w' => ∃ v0 : Value,e = .returned (.tuple #[v0,.int .i64 (psC p f y)])∧Ext w w'∧Fr (owL (owL rI 2) 25) w.heap.size w'.heap.size w'.heap v0 (alR p f y)∧(0≤psC p f y∧psC p f y≤9)∧(gvC p f y = 0→EvP p (oOf y + 1) f.toNat y)) := by
 refine calls_mk [vp,.int .i64 f,vy] 50 Tryz.func51 rfl rfl (by simp) ?_
 have hE0 : Ext w w := Ext.refl w
 have hl_vy := hy.lenL
 unfold maxLen at hl_vy
 refine wp_seq ?_
 refine wp_plain _ [0,0] rfl ?_
 refine q_assign (.slice none 0 0) rfl zN ?_
 refine q_assign (.int .i64 ((0 :Nat):Int)) rfl zN ?_
 refine lw_nil ?_
 refine wp_seq ?_
 refine wp_plain _ [0,0,3,0] rfl ?_
 refine q_move vp rfl zN ?_
 refine q_move (.int .i64 f) rfl zN ?_
 refine lw_call 91 [] [] [vp,(.int .i64 f),(.int .i64 ((12 :Nat):Int))] rfl rfl cf91 zN (c_spec_l07Map _ dp vp (p) _ _ (hp.ext (good_rP (good_rPr dp)) hE0) _hf (by omega) (by exact hz) (by rfl)) ?_
 rintro e1 w1 ⟨rfl,hX1⟩
 refine ⟨_,rfl,hX1,?_⟩
 have hzs1:=hX1.size
 have hE1:=hE0.trans hX1
 refine q_assign (.int .i64 (shF p f fldB)) rfl zN ?_
 refine lw_nil ?_
 refine wp_seq ?_
 refine wp_seq ?_
 refine wp_plain _ [0,0,0,0,0,0,0,0,2,0,0,0,2,0,0,0,0,0,2,0,3,0,0,0] rfl ?_
 refine q_move (.int .i64 (shF p f fldB)) rfl zN ?_
 by_cases hc2 : shF p f fldB = ((0 :Nat):Int)
 ·
  refine q_eql true rfl rfl (decide_eq_true hc2) zN ?_
  refine q_move (.bool true) rfl zN ?_
  refine q_move vy rfl (zS (e := 14) rfl rfl rfl) ?_
  have hi0 := fld_0 (p := p) (f := f) (by omega)
  refine q_len (v := vy) u27 rfl hy.slL (zS (e := 14) rfl rfl rfl) ?_
  refine q_move vp rfl (zS (e := 14) rfl rfl rfl) ?_
  refine q_nilP (hp.isPtr) rfl (zS (e := 14) rfl rfl rfl) ?_
  obtain ⟨cs3,hr3,hl3⟩ := RN.at (good_rPr _) hp
  obtain ⟨ve3,rfl,hx3⟩ := RPr.of hr3
  have hln3 := hx3.lenle
  unfold maxLen at hln3
  refine q_fldL (p := vp) 0 fd32_0 rfl (hl3 _ (Chg.of_ext [] hE1)) (zS (e := 14) rfl rfl rfl) ?_
  refine q_load (p := (padd vp 0)) (.inr rfl) ve3 one30 rfl ((hl3 _ (Chg.of_ext [] hE1)).ld (i := 0) (by simp [exC,fnC])) (zS (e := 14) rfl rfl rfl) ?_
  refine q_move (.int .i64 f) rfl (zS (e := 14) rfl rfl rfl) ?_
  refine q_idx (v := ve3) ((f).toNat) u30 tiS80 rfl rfl hx3.isSl (by omega) (by first | omega | assumption | (simp; done) | (simp; omega)) (zS (e := 14) rfl rfl rfl) ?_
  obtain ⟨cs4,hr4,hl4⟩ := hx3.get (good_rFn dp) Fn.zero (k := ((f).toNat)) (by first | omega | assumption | (simp; done) | (simp; omega))
  obtain ⟨ve4,rfl,hx4⟩ := RF.of hr4
  have hln4 := hx4.rn.lenle
  unfold maxLen at hln4
  refine q_fldL (p := eptr ve3 ((f).toNat) 3) 1 fd80_1 rfl (hl4 _ (Chg.of_ext [] hE1)) (zS (e := 14) rfl rfl rfl) ?_
  refine q_load (p := (padd (eptr ve3 ((f).toNat) 3) 1)) (.inr rfl) (.int .i64 ((p.getD ((f).toNat) Fn.zero).params)) one2 rfl ((hl4 _ (Chg.of_ext [] hE1)).ld (i := 1) (by simp [exC,fnC])) (zS (e := 14) rfl rfl rfl) ?_
  by_cases hc5 : ((y.length :Nat):Int) ≠ (p.getD ((f).toNat) Fn.zero).params
  ·
   refine q_neq true rfl rfl (decide_eq_true hc5) (zS (e := 14) rfl rfl rfl) ?_
   refine q_move (.bool true) rfl (zS (e := 14) rfl rfl rfl) ?_
   refine lw_skip (e := 26) (c := true) rfl rfl rfl rfl ?_
   refine lw_skip (e := 26) (c := true) rfl rfl rfl rfl ?_
   refine lw_skip (e := 26) (c := true) rfl rfl rfl rfl ?_
   refine lw_skip (e := 26) (c := true) rfl rfl rfl rfl ?_
   refine lw_skip (e := 26) (c := true) rfl rfl rfl rfl ?_
   refine lw_skip (e := 26) (c := true) rfl rfl rfl rfl ?_
   refine lw_skip (e := 26) (c := true) rfl rfl rfl rfl ?_
   refine q_pick true (.bool true) rfl rfl (zS (e := 14) rfl rfl rfl) ?_
   refine q_pick true (.bool true) rfl rfl zN ?_
   refine lw_nil ?_
   refine c_cond_t rfl ?_
   refine wp_plain _ [0] rfl ?_
   refine q_assign (.int .i64 ((2 :Nat):Int)) rfl zN ?_
   refine lw_nil ?_
   refine wp_seq ?_
   refine wp_seq ?_
   refine wp_plain _ [0,0] rfl ?_
   have hst := shF_rng p f fldB
   refine q_move (.int .i64 ((2 :Nat):Int)) rfl zN ?_
   refine q_neq true rfl rfl (by decide) zN ?_
   refine lw_nil ?_
   refine c_cond_t rfl ?_
   refine wp_seq ?_
   refine wp_plain _ [3,0,0,0] rfl ?_
   refine r_nil (owL rI 2) o1 u27 ti25 zN ?_
   intro v6 w6 hX6 hz6 hO6
   have hzs6:=hX6.size
   have hE6:=hE1.trans hX6
   refine q_move (.int .i64 ((2 :Nat):Int)) rfl zN ?_
   refine q_assign v6 rfl zN ?_
   refine q_assign (.int .i64 ((2 :Nat):Int)) rfl zN ?_
   refine lw_nil ?_
   refine wp_ret ?_
   refine t_ret ?_
   exact post_ret [6,7] rfl (.tuple #[v6,(.int .i64 ((2 :Nat):Int))]) rfl ⟨v6,(by first | (rw [psC_0 hg0]; simp only [← hoo]; rfl) | (rw [psC_n (by rw [al_n (by omega)]; omega),al_n (by omega)]) | (rw [psC_n (by rw [al_l (by omega) (by omega)]; omega),al_l (by omega) (by omega)]; rfl) | (rw [psC_n (by rw [al_s (by omega) (bn_t (by assumption))]; omega),al_s (by omega) (bn_t (by assumption))]; rfl)),hE6,(by have h := (hO6.up o2).low hE1.size; unfold alR; first | (rw [if_pos hg0,hoo]; exact h) | (rw [if_neg (by rw [al_n (by omega)]; omega)]; exact h) | (rw [if_neg (by rw [al_l (by omega) (by omega)]; omega)]; exact h) | (rw [if_neg (by rw [al_s (by omega) (bn_t (by assumption))]; omega)]; exact h)),(by first | exact (al_rng0 hg0 (by rw [hoo]; assumption)).1 | exact (al_rng (by rw [al_n (by omega)]; omega)).1 | exact (al_rng (by rw [al_l (by omega) (by omega)]; omega)).1 | exact (al_rng (by rw [al_s (by omega) (bn_t (by assumption))]; omega)).1),(by first | exact (al_rng0 hg0 (by rw [hoo]; assumption)).2 | exact (al_rng (by rw [al_n (by omega)]; omega)).2 | exact (al_rng (by rw [al_l (by omega) (by omega)]; omega)).2 | exact (al_rng (by rw [al_s (by omega) (bn_t (by assumption))]; omega)).2)⟩
  ·
   refine q_neq false rfl rfl (decide_eq_false hc5) (zS (e := 14) rfl rfl rfl) ?_
   refine q_move (.bool false) rfl (zS (e := 14) rfl rfl rfl) ?_
   refine q_move vy rfl (zS (e := 26) rfl rfl rfl) ?_
   refine q_move vy rfl (zS (e := 26) rfl rfl rfl) ?_
   refine q_idx (v := vy) 0 u27 ti25 rfl rfl hy.slL rfl (by first | omega | assumption | (simp; done) | (simp; omega)) (zS (e := 26) rfl rfl rfl) ?_
   obtain ⟨ue7,hl7,hr7⟩ := RN.getL (w := w) g1 [] (k := 0) hy (by first | omega | assumption | (simp; done) | (simp; omega))
   have hln7 := hr7.lenL
   unfold maxLen at hln7
   refine q_load (p := eptr vy 0 1) (.inr rfl) ue7 one25 rfl (hl7 _ (Chg.of_ext [] hE1)) (zS (e := 26) rfl rfl rfl) ?_
   refine q_len (v := ue7) u25 rfl hr7.slL (zS (e := 26) rfl rfl rfl) ?_
   refine lw_call 92 [] [] [vy,(.int .i64 (((y.getD 0 []).length :Nat):Int))] rfl rfl cf92 (zS (e := 26) rfl rfl rfl) (c_spec_l07Series _ _ _ ((y.getD 0 []).length) ((hy.ext g2 hE1)).rd) ?_
   rintro e8 w8 ⟨rfl,hX8⟩
   refine ⟨_,rfl,hX8,?_⟩
   have hzs8:=hX8.size
   have hE8:=hE1.trans hX8
   refine q_not (!(y.all (serB ((y.getD 0 []).length)))) rfl rfl (zS (e := 26) rfl rfl rfl) ?_
   refine q_pick false (.bool (!(y.all (serB ((y.getD 0 []).length))))) rfl rfl (zS (e := 14) rfl rfl rfl) ?_
   refine q_pick true (.bool (!(y.all (serB ((y.getD 0 []).length))))) rfl rfl zN ?_
   refine lw_nil ?_
   cases hb9 : (!(y.all (serB ((y.getD 0 []).length))))
   ·
    refine c_cond_f (by first | rfl | (show Value.bool _ = _; rw [hb9])) ?_
    refine wp_skip ?_
    refine wp_seq ?_
    refine wp_seq ?_
    refine wp_plain _ [0,0] rfl ?_
    have hst := shF_rng p f fldB
    refine q_move (.int .i64 (shF p f fldB)) rfl zN ?_
    by_cases hc10 : shF p f fldB ≠ ((0 :Nat):Int)
    ·
     refine q_neq true rfl rfl (decide_eq_true hc10) zN ?_
     refine lw_nil ?_
     refine c_cond_t rfl ?_
     refine wp_seq ?_
     refine wp_plain _ [3,0,0,0] rfl ?_
     refine r_nil (owL rI 2) o1 u27 ti25 zN ?_
     intro v11 w11 hX11 hz11 hO11
     have hzs11:=hX11.size
     have hE11:=hE8.trans hX11
     refine q_move (.int .i64 (shF p f fldB)) rfl zN ?_
     refine q_assign v11 rfl zN ?_
     refine q_assign (.int .i64 (shF p f fldB)) rfl zN ?_
     refine lw_nil ?_
     refine wp_ret ?_
     refine t_ret ?_
     exact post_ret [6,7] rfl (.tuple #[v11,(.int .i64 (shF p f fldB))]) rfl ⟨v11,(by first | (rw [psC_0 hg0]; simp only [← hoo]; rfl) | (rw [psC_n (by rw [al_n (by omega)]; omega),al_n (by omega)]) | (rw [psC_n (by rw [al_l (by omega) (by omega)]; omega),al_l (by omega) (by omega)]; rfl) | (rw [psC_n (by rw [al_s (by omega) (bn_t (by assumption))]; omega),al_s (by omega) (bn_t (by assumption))]; rfl)),hE11,(by have h := (hO11.up o2).low hE8.size; unfold alR; first | (rw [if_pos hg0,hoo]; exact h) | (rw [if_neg (by rw [al_n (by omega)]; omega)]; exact h) | (rw [if_neg (by rw [al_l (by omega) (by omega)]; omega)]; exact h) | (rw [if_neg (by rw [al_s (by omega) (bn_t (by assumption))]; omega)]; exact h)),(by first | exact (al_rng0 hg0 (by rw [hoo]; assumption)).1 | exact (al_rng (by rw [al_n (by omega)]; omega)).1 | exact (al_rng (by rw [al_l (by omega) (by omega)]; omega)).1 | exact (al_rng (by rw [al_s (by omega) (bn_t (by assumption))]; omega)).1),(by first | exact (al_rng0 hg0 (by rw [hoo]; assumption)).2 | exact (al_rng (by rw [al_n (by omega)]; omega)).2 | exact (al_rng (by rw [al_l (by omega) (by omega)]; omega)).2 | exact (al_rng (by rw [al_s (by omega) (bn_t (by assumption))]; omega)).2)⟩
    ·
     refine q_neq false rfl rfl (decide_eq_false hc10) zN ?_
     refine lw_nil ?_
     refine c_cond_f rfl ?_
     refine wp_skip ?_
     refine wp_seq ?_
     refine wp_plain _ [0,0,0,0,0,2,0,3,0,0,0,0] rfl ?_
     have hg0 : gvC p f y = 0 := by first | exact al_0 (by omega) (by omega) (bn_f (by assumption)) | (exfalso; omega)
     have hq0 := gvC_0 hg0
     have hvp := okP_vpr hq0.1
     have hys := (hq0.2.2.2.2.1 0 (by omega)).1
     have hoo : oOf y + 1 = (y.getD 0 []).length := hys.symm
     refine q_move vp rfl zN ?_
     refine q_move (.int .i64 f) rfl zN ?_
     refine q_move vy rfl zN ?_
     refine q_move vy rfl zN ?_
     refine q_idx (v := vy) 0 u27 ti25 rfl rfl hy.slL rfl (by first | omega | assumption | (simp; done) | (simp; omega)) zN ?_
     obtain ⟨ue12,hl12,hr12⟩ := RN.getL (w := w) g1 [] (k := 0) hy (by first | omega | assumption | (simp; done) | (simp; omega))
     have hln12 := hr12.lenL
     unfold maxLen at hln12
     refine q_load (p := eptr vy 0 1) (.inr rfl) ue12 one25 rfl (hl12 _ (Chg.of_ext [] hE8)) zN ?_
     refine q_len (v := ue12) u25 rfl hr12.slL zN ?_
     refine lw_call 65 [] [] [vp,(.int .i64 f),vy,(.int .i64 (((y.getD 0 []).length :Nat):Int))] rfl rfl cf65 zN (c_spec_l03Eval _ dp vp (p) _ vy (y) ((y.getD 0 []).length) (hp.ext (good_rP (good_rPr dp)) hE8) _hf (hy.ext g2 hE8) hqy (by exact hvp) (by omega) (by omega) (by rw [← hoo]; exact hq0.2.2.2.2.1) (by omega)) ?_
     rintro e13 w13 ⟨v13_0,rfl,hX13,hO13_0,hP13_0⟩
     refine ⟨_,rfl,hX13,?_⟩
     have hzs13:=hX13.size
     have hE13:=hE8.trans hX13
     refine q_extract (vs := [v13_0,(.int .i64 (evD p ((y.getD 0 []).length) f.toNat y))]) v13_0 rfl rfl zN ?_
     refine q_extract (vs := [v13_0,(.int .i64 (evD p ((y.getD 0 []).length) f.toNat y))]) (.int .i64 (evD p ((y.getD 0 []).length) f.toNat y)) rfl rfl zN ?_
     refine q_assign v13_0 rfl zN ?_
     refine q_assign (.int .i64 (evD p ((y.getD 0 []).length) f.toNat y)) rfl zN ?_
     refine lw_nil ?_
     refine wp_ret ?_
     exact post_ret [6,7] rfl (.tuple #[v13_0,(.int .i64 (evD p ((y.getD 0 []).length) f.toNat y))]) rfl ⟨v13_0,(by first | (rw [psC_0 hg0]; simp only [← hoo]; rfl) | (rw [psC_n (by rw [al_n (by omega)]; omega),al_n (by omega)]) | (rw [psC_n (by rw [al_l (by omega) (by omega)]; omega),al_l (by omega) (by omega)]; rfl) | (rw [psC_n (by rw [al_s (by omega) (bn_t (by assumption))]; omega),al_s (by omega) (bn_t (by assumption))]; rfl)),hE13,(by have h := (hO13_0.up o2).low hE8.size; unfold alR; first | (rw [if_pos hg0,hoo]; exact h) | (rw [if_neg (by rw [al_n (by omega)]; omega)]; exact h) | (rw [if_neg (by rw [al_l (by omega) (by omega)]; omega)]; exact h) | (rw [if_neg (by rw [al_s (by omega) (bn_t (by assumption))]; omega)]; exact h)),(by first | exact (al_rng0 hg0 (by rw [hoo]; assumption)).1 | exact (al_rng (by rw [al_n (by omega)]; omega)).1 | exact (al_rng (by rw [al_l (by omega) (by omega)]; omega)).1 | exact (al_rng (by rw [al_s (by omega) (bn_t (by assumption))]; omega)).1),(by first | exact (al_rng0 hg0 (by rw [hoo]; assumption)).2 | exact (al_rng (by rw [al_n (by omega)]; omega)).2 | exact (al_rng (by rw [al_l (by omega) (by omega)]; omega)).2 | exact (al_rng (by rw [al_s (by omega) (bn_t (by assumption))]; omega)).2)⟩
   ·
    refine c_cond_t (by first | rfl | (show Value.bool _ = _; rw [hb9])) ?_
    refine wp_plain _ [0] rfl ?_
    refine q_assign (.int .i64 ((2 :Nat):Int)) rfl zN ?_
    refine lw_nil ?_
    refine wp_seq ?_
    refine wp_seq ?_
    refine wp_plain _ [0,0] rfl ?_
    have hst := shF_rng p f fldB
    refine q_move (.int .i64 ((2 :Nat):Int)) rfl zN ?_
    refine q_neq true rfl rfl (by decide) zN ?_
    refine lw_nil ?_
    refine c_cond_t rfl ?_
    refine wp_seq ?_
    refine wp_plain _ [3,0,0,0] rfl ?_
    refine r_nil (owL rI 2) o1 u27 ti25 zN ?_
    intro v14 w14 hX14 hz14 hO14
    have hzs14:=hX14.size
    have hE14:=hE8.trans hX14
    refine q_move (.int .i64 ((2 :Nat):Int)) rfl zN ?_
    refine q_assign v14 rfl zN ?_
    refine q_assign (.int .i64 ((2 :Nat):Int)) rfl zN ?_
    refine lw_nil ?_
    refine wp_ret ?_
    refine t_ret ?_
    exact post_ret [6,7] rfl (.tuple #[v14,(.int .i64 ((2 :Nat):Int))]) rfl ⟨v14,(by first | (rw [psC_0 hg0]; simp only [← hoo]; rfl) | (rw [psC_n (by rw [al_n (by omega)]; omega),al_n (by omega)]) | (rw [psC_n (by rw [al_l (by omega) (by omega)]; omega),al_l (by omega) (by omega)]; rfl) | (rw [psC_n (by rw [al_s (by omega) (bn_t (by assumption))]; omega),al_s (by omega) (bn_t (by assumption))]; rfl)),hE14,(by have h := (hO14.up o2).low hE8.size; unfold alR; first | (rw [if_pos hg0,hoo]; exact h) | (rw [if_neg (by rw [al_n (by omega)]; omega)]; exact h) | (rw [if_neg (by rw [al_l (by omega) (by omega)]; omega)]; exact h) | (rw [if_neg (by rw [al_s (by omega) (bn_t (by assumption))]; omega)]; exact h)),(by first | exact (al_rng0 hg0 (by rw [hoo]; assumption)).1 | exact (al_rng (by rw [al_n (by omega)]; omega)).1 | exact (al_rng (by rw [al_l (by omega) (by omega)]; omega)).1 | exact (al_rng (by rw [al_s (by omega) (bn_t (by assumption))]; omega)).1),(by first | exact (al_rng0 hg0 (by rw [hoo]; assumption)).2 | exact (al_rng (by rw [al_n (by omega)]; omega)).2 | exact (al_rng (by rw [al_l (by omega) (by omega)]; omega)).2 | exact (al_rng (by rw [al_s (by omega) (bn_t (by assumption))]; omega)).2)⟩
 ·
  refine q_eql false rfl rfl (decide_eq_false hc2) zN ?_
  refine q_move (.bool false) rfl zN ?_
  refine lw_skip (e := 14) (c := false) rfl rfl rfl rfl ?_
  refine lw_skip (e := 14) (c := false) rfl rfl rfl rfl ?_
  refine lw_skip (e := 14) (c := false) rfl rfl rfl rfl ?_
  refine lw_skip (e := 14) (c := false) rfl rfl rfl rfl ?_
  refine lw_skip (e := 14) (c := false) rfl rfl rfl rfl ?_
  refine lw_skip (e := 14) (c := false) rfl rfl rfl rfl ?_
  refine lw_skip (e := 14) (c := false) rfl rfl rfl rfl ?_
  refine lw_skip (e := 14) (c := false) rfl rfl rfl rfl ?_
  refine lw_skip (e := 14) (c := false) rfl rfl rfl rfl ?_
  refine lw_skip (e := 14) (c := false) rfl rfl rfl rfl ?_
  refine lw_skip (e := 14) (c := false) rfl rfl rfl rfl ?_
  refine lw_skip (e := 14) (c := false) rfl rfl rfl rfl ?_
  refine lw_skipU (e := 26) rfl rfl rfl ?_
  refine lw_skipU (e := 26) rfl rfl rfl ?_
  refine lw_skipU (e := 26) rfl rfl rfl ?_
  refine lw_skipU (e := 26) rfl rfl rfl ?_
  refine lw_skipU (e := 26) rfl rfl rfl ?_
  refine lw_skipU (e := 26) rfl rfl rfl ?_
  refine lw_skipU (e := 26) rfl rfl rfl ?_
  refine lw_skip (e := 14) (c := false) rfl rfl rfl rfl ?_
  refine q_pick false (.bool false) rfl rfl zN ?_
  refine lw_nil ?_
  refine c_cond_f rfl ?_
  refine wp_skip ?_
  refine wp_seq ?_
  refine wp_seq ?_
  refine wp_plain _ [0,0] rfl ?_
  have hst := shF_rng p f fldB
  refine q_move (.int .i64 (shF p f fldB)) rfl zN ?_
  by_cases hc15 : shF p f fldB ≠ ((0 :Nat):Int)
  ·
   refine q_neq true rfl rfl (decide_eq_true hc15) zN ?_
   refine lw_nil ?_
   refine c_cond_t rfl ?_
   refine wp_seq ?_
   refine wp_plain _ [3,0,0,0] rfl ?_
   refine r_nil (owL rI 2) o1 u27 ti25 zN ?_
   intro v16 w16 hX16 hz16 hO16
   have hzs16:=hX16.size
   have hE16:=hE1.trans hX16
   refine q_move (.int .i64 (shF p f fldB)) rfl zN ?_
   refine q_assign v16 rfl zN ?_
   refine q_assign (.int .i64 (shF p f fldB)) rfl zN ?_
   refine lw_nil ?_
   refine wp_ret ?_
   refine t_ret ?_
   exact post_ret [6,7] rfl (.tuple #[v16,(.int .i64 (shF p f fldB))]) rfl ⟨v16,(by first | (rw [psC_0 hg0]; simp only [← hoo]; rfl) | (rw [psC_n (by rw [al_n (by omega)]; omega),al_n (by omega)]) | (rw [psC_n (by rw [al_l (by omega) (by omega)]; omega),al_l (by omega) (by omega)]; rfl) | (rw [psC_n (by rw [al_s (by omega) (bn_t (by assumption))]; omega),al_s (by omega) (bn_t (by assumption))]; rfl)),hE16,(by have h := (hO16.up o2).low hE1.size; unfold alR; first | (rw [if_pos hg0,hoo]; exact h) | (rw [if_neg (by rw [al_n (by omega)]; omega)]; exact h) | (rw [if_neg (by rw [al_l (by omega) (by omega)]; omega)]; exact h) | (rw [if_neg (by rw [al_s (by omega) (bn_t (by assumption))]; omega)]; exact h)),(by first | exact (al_rng0 hg0 (by rw [hoo]; assumption)).1 | exact (al_rng (by rw [al_n (by omega)]; omega)).1 | exact (al_rng (by rw [al_l (by omega) (by omega)]; omega)).1 | exact (al_rng (by rw [al_s (by omega) (bn_t (by assumption))]; omega)).1),(by first | exact (al_rng0 hg0 (by rw [hoo]; assumption)).2 | exact (al_rng (by rw [al_n (by omega)]; omega)).2 | exact (al_rng (by rw [al_l (by omega) (by omega)]; omega)).2 | exact (al_rng (by rw [al_s (by omega) (bn_t (by assumption))]; omega)).2)⟩
  ·
   refine q_neq false rfl rfl (decide_eq_false hc15) zN ?_
   refine lw_nil ?_
   refine c_cond_f rfl ?_
   refine wp_skip ?_
   refine wp_seq ?_
   refine wp_plain _ [0,0,0,0,0,2,0,3,0,0,0,0] rfl ?_
   have hg0 : gvC p f y = 0 := by first | exact al_0 (by omega) (by omega) (bn_f (by assumption)) | (exfalso; omega)
   have hq0 := gvC_0 hg0
   have hvp := okP_vpr hq0.1
   have hys := (hq0.2.2.2.2.1 0 (by omega)).1
   have hoo : oOf y + 1 = (y.getD 0 []).length := hys.symm
   refine q_move vp rfl zN ?_
   refine q_move (.int .i64 f) rfl zN ?_
   refine q_move vy rfl zN ?_
   refine q_move vy rfl zN ?_
   refine q_idx (v := vy) 0 u27 ti25 rfl rfl hy.slL rfl (by first | omega | assumption | (simp; done) | (simp; omega)) zN ?_
   obtain ⟨ue17,hl17,hr17⟩ := RN.getL (w := w) g1 [] (k := 0) hy (by first | omega | assumption | (simp; done) | (simp; omega))
   have hln17 := hr17.lenL
   unfold maxLen at hln17
   refine q_load (p := eptr vy 0 1) (.inr rfl) ue17 one25 rfl (hl17 _ (Chg.of_ext [] hE1)) zN ?_
   refine q_len (v := ue17) u25 rfl hr17.slL zN ?_
   refine lw_call 65 [] [] [vp,(.int .i64 f),vy,(.int .i64 (((y.getD 0 []).length :Nat):Int))] rfl rfl cf65 zN (c_spec_l03Eval _ dp vp (p) _ vy (y) ((y.getD 0 []).length) (hp.ext (good_rP (good_rPr dp)) hE1) _hf (hy.ext g2 hE1) hqy (by exact hvp) (by omega) (by omega) (by rw [← hoo]; exact hq0.2.2.2.2.1) (by omega)) ?_
   rintro e18 w18 ⟨v18_0,rfl,hX18,hO18_0,hP18_0⟩
   refine ⟨_,rfl,hX18,?_⟩
   have hzs18:=hX18.size
   have hE18:=hE1.trans hX18
   refine q_extract (vs := [v18_0,(.int .i64 (evD p ((y.getD 0 []).length) f.toNat y))]) v18_0 rfl rfl zN ?_
   refine q_extract (vs := [v18_0,(.int .i64 (evD p ((y.getD 0 []).length) f.toNat y))]) (.int .i64 (evD p ((y.getD 0 []).length) f.toNat y)) rfl rfl zN ?_
   refine q_assign v18_0 rfl zN ?_
   refine q_assign (.int .i64 (evD p ((y.getD 0 []).length) f.toNat y)) rfl zN ?_
   refine lw_nil ?_
   refine wp_ret ?_
   exact post_ret [6,7] rfl (.tuple #[v18_0,(.int .i64 (evD p ((y.getD 0 []).length) f.toNat y))]) rfl ⟨v18_0,(by first | (rw [psC_0 hg0]; simp only [← hoo]; rfl) | (rw [psC_n (by rw [al_n (by omega)]; omega),al_n (by omega)]) | (rw [psC_n (by rw [al_l (by omega) (by omega)]; omega),al_l (by omega) (by omega)]; rfl) | (rw [psC_n (by rw [al_s (by omega) (bn_t (by assumption))]; omega),al_s (by omega) (bn_t (by assumption))]; rfl)),hE18,(by have h := (hO18_0.up o2).low hE1.size; unfold alR; first | (rw [if_pos hg0,hoo]; exact h) | (rw [if_neg (by rw [al_n (by omega)]; omega)]; exact h) | (rw [if_neg (by rw [al_l (by omega) (by omega)]; omega)]; exact h) | (rw [if_neg (by rw [al_s (by omega) (bn_t (by assumption))]; omega)]; exact h)),(by first | exact (al_rng0 hg0 (by rw [hoo]; assumption)).1 | exact (al_rng (by rw [al_n (by omega)]; omega)).1 | exact (al_rng (by rw [al_l (by omega) (by omega)]; omega)).1 | exact (al_rng (by rw [al_s (by omega) (bn_t (by assumption))]; omega)).1),(by first | exact (al_rng0 hg0 (by rw [hoo]; assumption)).2 | exact (al_rng (by rw [al_n (by omega)]; omega)).2 | exact (al_rng (by rw [al_l (by omega) (by omega)]; omega)).2 | exact (al_rng (by rw [al_s (by omega) (bn_t (by assumption))]; omega)).2)⟩
theorem cst_zero (n : Nat) : cst n 0 = List.replicate n 0 := by
  unfold cst
  cases n with
  | zero => rfl
  | succ n => rfl
set_option maxHeartbeats 4000000 in
set_option maxRecDepth 100000 in
theorem c_spec_l01Integral (w : World) (va : Value) (a : List Int) (ha : Rd (rdL rI) w.heap va a) (hla : a.length≤1000000000) (hqa : allN a = true) :
  Calls Tryz.prog 60 #[va] w (fun e w' => ∃ v0 : Value,e = .returned (v0)∧Ext w w'∧Fr (owL rI 2) w.heap.size w'.heap.size w'.heap v0 (itg a)) := by
 refine calls_mk [va] 26 Tryz.func60 rfl rfl (by simp) ?_
 have hE0 : Ext w w := Ext.refl w
 have hl_va := ha.lenle
 refine wp_seq ?_
 refine wp_plain _ [0] rfl ?_
 refine q_assign (.slice none 0 0) rfl zN ?_
 refine lw_nil ?_
 refine wp_seq ?_
 refine wp_plain _ [0,0,3,0] rfl ?_
 refine q_move va rfl zN ?_
 refine q_len (v := va) u25 rfl ha.isSl zN ?_
 refine lw_call 93 [] [] [(.int .i64 ((0 :Nat):Int)),(.int .i64 ((a.length :Nat):Int))] rfl rfl cf93 zN (c_spec_l01Const _ _ (a.length) (by omega) (by first | omega | assumption | (simp [itg_len,cst_len]; done) | (simp [itg_len,cst_len]; omega)) (by omega)) ?_
 rintro e1 w1 ⟨v1_0,rfl,hX1,hO1_0⟩
 refine ⟨_,rfl,hX1,?_⟩
 have hzs1:=hX1.size
 have hE1:=hE0.trans hX1
 refine q_assign v1_0 rfl zN ?_
 refine lw_nil ?_
 refine wp_seq ?_
 refine wp_seq ?_
 refine wp_plain _ [0] rfl ?_
 refine q_assign (.int .i64 ((1 :Nat):Int)) rfl zN ?_
 refine lw_nil ?_
 refine wp_block ?_
 refine c_loop (S := Nat) (fun (k : Nat) => ([(4,(.int .i64 ((k :Nat):Int))),(0,va),(3,v1_0)] : List (Nat × Value))) (fun (k : Nat) (W : World) => Ext w W∧Fr (owL rI 2) w.heap.size W.heap.size W.heap v1_0 (mix k (itg a) (List.replicate a.length 0))∧1≤k∧k≤a.length + 1) (fun (k : Nat) => a.length - k) 1 ⟨rfl,rfl,rfl,trivial⟩ ⟨hE1,(by have h := hO1_0.up o1; rw [show cst a.length ((0 :Nat):Int) = List.replicate a.length 0 from cst_zero _] at h; rw [itg_start]; exact h),(by omega),(by omega)⟩ ?_
 clear hE0 hO1_0 hX1 hzs1 hE1
 rintro k ρ2 w2 ⟨hE2,hL2_0,hp2_0,hp2_1⟩
 have hzs2 : w.heap.size≤w2.heap.size := hE2.size
 have hml := mix_len k (itg a) (List.replicate a.length 0) (by simp [itg])
 rw [List.length_replicate] at hml
 have hga := allN_get hqa (k - 1)
 refine wp_seq ?_
 refine wp_seq ?_
 refine wp_plain _ [0,0,0,0] rfl ?_
 refine q_move (.int .i64 ((k :Nat):Int)) rfl zN ?_
 refine q_move va rfl zN ?_
 refine q_len (v := va) u25 rfl ha.isSl zN ?_
 by_cases hc3 : ((k :Nat):Int) < ((a.length :Nat):Int)
 ·
  refine q_lss true rfl rfl (decide_eq_true hc3) zN ?_
  refine lw_nil ?_
  refine c_cond_t rfl ?_
  refine wp_skip ?_
  refine wp_seq ?_
  refine wp_block ?_
  refine wp_draw _ [0,0,0,0,0,0,1,0,0,0,0,4] mixed (by kernel_rfl) ?_
  refine q_move v1_0 rfl zN ?_
  refine q_move (.int .i64 ((k :Nat):Int)) rfl zN ?_
  refine q_move va rfl zN ?_
  refine q_move (.int .i64 ((k :Nat):Int)) rfl zN ?_
  refine q_sub ((k - 1 :Nat):Int) rfl rfl (by rw [w64 (by omega) (by omega)]; omega) zN ?_
  refine q_idx (v := va) (k - 1) u25 ti2 rfl rfl ha.isSl rfl (by first | omega | assumption | (simp [itg_len,cst_len]; done) | (simp [itg_len,cst_len]; omega)) zN ?_
  refine q_load (p := eptr va (k - 1) 1) (.inl rfl) (.int .i64 (a.getD (k - 1) 0)) one2 rfl (ldH_ext hE2.drew (ha.getI (by first | omega | assumption | (simp [itg_len,cst_len]; done) | (simp [itg_len,cst_len]; omega))).1) zN ?_
  refine q_move (.int .i64 ((k :Nat):Int)) rfl zN ?_
  refine lw_callq 98 [] [] [(.int .i64 ((k :Nat):Int))] rfl rfl cf98 zN (.int .i64 (inv ((k :Nat):Int))) (fun wq => c_spec_l01Inv wq _ (by omega)) ?_
  refine lw_callq 94 [] [] [(.int .i64 (a.getD (k - 1) 0)),(.int .i64 (inv ((k :Nat):Int)))] rfl rfl cf94 zN (.int .i64 (md ((a.getD (k - 1) 0) * (inv ((k :Nat):Int))))) (fun wq => c_spec_Times wq _ _ (ha.getI (by first | omega | assumption | (simp [itg_len,cst_len]; done) | (simp [itg_len,cst_len]; omega))).2 (inv_rng _)) ?_
  refine q_idx (v := v1_0) k u25 ti2 rfl rfl hL2_0.isSl rfl (by first | omega | assumption | (simp [itg_len,cst_len]; done) | (simp [itg_len,cst_len]; omega)) zN ?_
  refine e_setI (v := v1_0) (w := w2.drew) sz2 rfl rfl (md_rng _) hL2_0 (by first | omega | assumption | (simp [itg_len,cst_len]; done) | (simp [itg_len,cst_len]; omega)) zN ?_
  intro w6 F6 hC6 hz6 hF6 hO6
  replace hC6 := hC6.of_drew
  have hE6 : Ext w w6 := hC6.below hE2 (fun c hc => Nat.le_trans (Nat.le_refl _) (hF6 c hc).1) hE2.size
  have hzs6:=hC6.size
  refine lw_nil ?_
  refine wp_plain _ [0,0,0] rfl ?_
  refine q_move (.int .i64 ((k :Nat):Int)) rfl zN ?_
  refine q_add ((k + 1 :Nat):Int) rfl rfl (w64n (by omega) (by first | omega | assumption | (simp [itg_len,cst_len]; done) | (simp [itg_len,cst_len]; omega))) zN ?_
  refine q_assign (.int .i64 ((k + 1 :Nat):Int)) rfl zN ?_
  refine lw_nil ?_
  exact ⟨(k + 1),_,rfl,⟨rfl,rfl,rfl,trivial⟩,⟨hE6,(by rw [itg_step (by omega) (by omega)]; exact hO6.up o1),(by omega),(by omega)⟩,by first | omega | (dsimp only; omega)⟩
 ·
  refine q_lss false rfl rfl (decide_eq_false hc3) zN ?_
  refine lw_nil ?_
  refine c_cond_f rfl ?_
  refine wp_exit ?_
  refine t_exit ?_
  refine t_exit ?_
  refine c_exit_here ?_
  refine wp_seq ?_
  refine wp_plain _ [0,0] rfl ?_
  refine q_move v1_0 rfl zN ?_
  refine q_assign v1_0 rfl zN ?_
  refine lw_nil ?_
  refine wp_ret ?_
  exact post_ret [2] rfl v1_0 rfl ⟨v1_0,rfl,hE2,(by have h := hL2_0.up o1; rwa [mix_all (by simp [itg]) (by simp; omega)] at h)⟩
set_option maxHeartbeats 4000000 in
set_option maxRecDepth 100000 in
theorem c_spec_PicardStep (w : World) (dp : Nat) (vp : Value) (p : List Fn) (f : Int) (vy : Value) (y : List (List Int)) (hp : RP [] dp w.heap vp p) (_hf : -9223372036854775808≤f∧f≤9223372036854775807) (hy : RN [] (rdL (rdL rI)) w.heap vy y) (hqy : CapS vy) (hz : SzP p) :
  Calls Tryz.prog 25 #[(.agg #[vp]),.int .i64 f,vy] w (fun e w' => ∃ v0 : Value,e = .returned (.tuple #[v0,.int .i64 (psC p f y)])∧Ext w w'∧Fr (owL (owL rI 2) 25) w.heap.size w'.heap.size w'.heap v0 (psR p f y)) := by
 refine calls_mk [(.agg #[vp]),.int .i64 f,vy] 48 Tryz.func25 rfl rfl (by simp) ?_
 have hE0 : Ext w w := Ext.refl w
 have hl_vp := hp.lenle
 unfold maxLen at hl_vp
 have hl_vy := hy.lenL
 unfold maxLen at hl_vy
 refine wp_seq ?_
 refine wp_plain _ [3,0,0] rfl ?_
 refine r_boxA (cs := #[vp]) rfl zN ?_
 intro w1 hX1 hz1 hB1
 have hzs1:=hX1.size
 have hE1:=hE0.trans hX1
 replace hB1 : BX w1.heap w.heap.size [vp] := hB1
 refine q_assign (.slice none 0 0) rfl zN ?_
 refine q_assign (.int .i64 ((0 :Nat):Int)) rfl zN ?_
 refine lw_nil ?_
 refine wp_seq ?_
 refine wp_plain _ [0,0,3,0,0,0,0,0] rfl ?_
 refine q_move (.int .i64 f) rfl zN ?_
 refine q_move vy rfl zN ?_
 refine lw_call 51 [] [] [(.pointer (some ⟨w.heap.size,0,none⟩)),(.int .i64 f),vy] rfl rfl cf51 zN (c_spec_l07Along _ dp ((.pointer (some ⟨w.heap.size,0,none⟩))) (p) _ vy (y) (RN.box hB1 (RP.mk' (hp.ext (good_rdS (good_rFn dp)) hE1)) (by simp)) _hf (hy.ext g2 hE1) hqy (by exact hz)) ?_
 rintro e2 w2 ⟨v2_0,rfl,hX2,hO2_0,hP2_0,hP2_1⟩
 refine ⟨_,rfl,hX2,?_⟩
 have hzs2:=hX2.size
 have hE2:=hE1.trans hX2
 have hB1x2 := hB1.ext hX2
 refine q_move (.tuple #[v2_0,(.int .i64 (psC p f y))]) rfl zN ?_
 refine q_extract (vs := [v2_0,(.int .i64 (psC p f y))]) v2_0 rfl rfl zN ?_
 refine q_extract (vs := [v2_0,(.int .i64 (psC p f y))]) (.int .i64 (psC p f y)) rfl rfl zN ?_
 refine q_assign v2_0 rfl zN ?_
 refine q_assign (.int .i64 (psC p f y)) rfl zN ?_
 refine lw_nil ?_
 refine wp_seq ?_
 refine wp_seq ?_
 refine wp_plain _ [0,0] rfl ?_
 refine q_move (.int .i64 (psC p f y)) rfl zN ?_
 by_cases hc3 : psC p f y ≠ ((0 :Nat):Int)
 ·
  refine q_neq true rfl rfl (decide_eq_true hc3) zN ?_
  refine lw_nil ?_
  refine c_cond_t rfl ?_
  refine wp_seq ?_
  refine wp_plain _ [3,0,0,0] rfl ?_
  refine r_nil (owL rI 2) o1 u27 ti25 zN ?_
  intro v4 w4 hX4 hz4 hO4
  have hzs4:=hX4.size
  have hE4:=hE2.trans hX4
  have hB1x4 := hB1x2.ext hX4
  have hO2_0x4 := hO2_0.ext (o2) hX4
  refine q_move (.int .i64 (psC p f y)) rfl zN ?_
  refine q_assign v4 rfl zN ?_
  refine q_assign (.int .i64 (psC p f y)) rfl zN ?_
  refine lw_nil ?_
  refine wp_ret ?_
  refine t_ret ?_
  exact post_ret [6,7] rfl (.tuple #[v4,(.int .i64 (psC p f y))]) rfl ⟨v4,rfl,hE4,(by rw [show psR p f y = [] from ps_e (by omega) ‹gvC p f y = 0→EvP p (oOf y + 1) f.toNat y›]; exact (hO4.up o2).low hE2.size)⟩
 ·
  refine q_neq false rfl rfl (decide_eq_false hc3) zN ?_
  refine lw_nil ?_
  refine c_cond_f rfl ?_
  refine wp_skip ?_
  refine wp_seq ?_
  refine wp_plain _ [3,0] rfl ?_
  have hg0 : gvC p f y = 0 := Decidable.byContradiction fun h9 => h9 (by have := psC_n h9; omega)
  have hEV := (‹gvC p f y = 0→EvP p (oOf y + 1) f.toNat y› hg0)
  have hq0 := gvC_0 hg0
  have hse := hq0.2.2.2.2.1
  have hal : alR p f y = evR p (oOf y + 1) f.toNat y := if_pos hg0
  have hpc : evD p (oOf y + 1) f.toNat y = 0 := (psC_0 hg0).symm.trans (by omega)
  have hes := hEV.ser
  rw [← hal] at hes
  have hel := hEV.len hpc
  rw [← hal] at hel
  refine r_nil (owL rI 2) o1 u27 ti25 zN ?_
  intro v5 w5 hX5 hz5 hO5
  have hzs5:=hX5.size
  have hE5:=hE2.trans hX5
  have hB1x5 := hB1x2.ext hX5
  have hO2_0x5 := hO2_0.ext (o2) hX5
  refine q_assign v5 rfl zN ?_
  refine lw_nil ?_
  refine wp_seq ?_
  refine wp_seq ?_
  refine wp_plain _ [0] rfl ?_
  refine q_assign (.int .i64 ((0 :Nat):Int)) rfl zN ?_
  refine lw_nil ?_
  refine wp_block ?_
  refine c_loop (S := Nat × Value) (fun (⟨k,vo⟩ : Nat × Value) => ([(10,vo),(11,(.int .i64 ((k :Nat):Int))),(2,vy),(8,v2_0)] : List (Nat × Value))) (fun (⟨k,vo⟩ : Nat × Value) (W : World) => Ext w W∧Fr (owL (owL rI 2) 25) w2.heap.size W.heap.size W.heap vo ((picS (alR p f y) y).take k)∧Fr (owL (owL rI 2) 25) w1.heap.size w2.heap.size W.heap v2_0 (alR p f y)∧k≤y.length∧w2.heap.size≤W.heap.size) (fun (⟨k,vo⟩ : Nat × Value) => y.length - k) (0,v5) ⟨rfl,rfl,rfl,rfl,trivial⟩ ⟨hE5,hO5.up o2,hO2_0x5,(by first | omega | assumption | (simp only [List.length_set,itg_len,picS_len]; omega) | (simp [itg_len,picS_len]; omega)),(by omega)⟩ ?_
  clear hE0 hz1 hX1 hO2_0 hX2 hO5 hz5 hX5 hzs5 hE5 hO2_0x5
  rintro ⟨k,vo⟩ ρ6 w6 ⟨hE6,hL6_0,hL6_1,hp6_0,hkB7⟩
  have hzs6 : w.heap.size≤w6.heap.size := hE6.size
  refine wp_seq ?_
  refine wp_seq ?_
  refine wp_plain _ [0,0,0,0] rfl ?_
  refine q_move (.int .i64 ((k :Nat):Int)) rfl zN ?_
  refine q_move vy rfl zN ?_
  refine q_len (v := vy) u27 rfl hy.slL zN ?_
  by_cases hc8 : ((k :Nat):Int) < ((y.length :Nat):Int)
  ·
   refine q_lss true rfl rfl (decide_eq_true hc8) zN ?_
   refine lw_nil ?_
   refine c_cond_t rfl ?_
   refine wp_skip ?_
   refine wp_seq ?_
   refine wp_block ?_
   refine wp_seq ?_
   refine wp_plain _ [0,0,0,2,3,0] rfl ?_
   have hvk := hes k (by omega)
   have hvl := hvk.1
   have hyk := hse k (by omega)
   have hyl := hyk.1
   refine q_move v2_0 rfl zN ?_
   refine q_move (.int .i64 ((k :Nat):Int)) rfl zN ?_
   refine q_idx (v := v2_0) k u27 ti25 rfl rfl hL6_1.isSl rfl (by first | omega | assumption | (simp only [List.length_set,itg_len,picS_len]; omega) | (simp [itg_len,picS_len]; omega)) zN ?_
   obtain ⟨ue9,hl9,hd9⟩ := hL6_1.rd2.get (k := k) [] (by first | omega | assumption | (simp only [List.length_set,itg_len,picS_len]; omega) | (simp [itg_len,picS_len]; omega))
   have hln9 := hd9.lenle
   refine q_load (p := eptr v2_0 k 1) (.inr rfl) ue9 one25 rfl hl9 zN ?_
   refine lw_call 60 [] [] [ue9] rfl rfl cf60 zN (c_spec_l01Integral _ _ _ hd9 (by omega) (by exact hvk.2)) ?_
   rintro e10 w10 ⟨v10_0,rfl,hX10,hO10_0⟩
   refine ⟨_,rfl,hX10,?_⟩
   have hzs10:=hX10.size
   have hE10:=hE6.trans hX10
   have hL6_0x10 := hL6_0.ext (o2) hX10
   have hL6_1x10 := hL6_1.ext (o2) hX10
   have hd9x10 := hd9.ext g1 hX10
   have hlx11 := ldH_ext hX10 hl9
   refine q_assign v10_0 rfl zN ?_
   refine lw_nil ?_
   refine wp_seq ?_
   refine wp_plain _ [0,0,0,0,2,0,2,0,4] rfl ?_
   refine q_move v10_0 rfl zN ?_
   refine q_move vy rfl zN ?_
   refine q_move (.int .i64 ((k :Nat):Int)) rfl zN ?_
   refine q_idx (v := vy) k u27 ti25 rfl rfl hy.slL rfl (by first | omega | assumption | (simp only [List.length_set,itg_len,picS_len]; omega) | (simp [itg_len,picS_len]; omega)) zN ?_
   obtain ⟨ue12,hl12,hr12⟩ := RN.getL (w := w) g1 [] (k := k) hy (by first | omega | assumption | (simp only [List.length_set,itg_len,picS_len]; omega) | (simp [itg_len,picS_len]; omega))
   have hln12 := hr12.lenL
   unfold maxLen at hln12
   refine q_load (p := eptr vy k 1) (.inr rfl) ue12 one25 rfl (hl12 _ (Chg.of_ext [] hE10)) zN ?_
   refine q_idx (v := ue12) 0 u25 ti2 rfl rfl hr12.slL rfl (by first | omega | assumption | (simp only [List.length_set,itg_len,picS_len]; omega) | (simp [itg_len,picS_len]; omega)) zN ?_
   have hg13 := RN.getI (w := w) (k := 0) hr12 (by first | omega | assumption | (simp only [List.length_set,itg_len,picS_len]; omega) | (simp [itg_len,picS_len]; omega))
   refine q_load (p := eptr ue12 0 1) (.inr rfl) (.int .i64 ((y.getD k []).getD 0 0)) one2 rfl (hg13.1 _ (Chg.of_ext [] hE10)) zN ?_
   refine q_idx (v := v10_0) 0 u25 ti2 rfl rfl hO10_0.isSl rfl (by first | omega | assumption | (simp only [List.length_set,itg_len,picS_len]; omega) | (simp [itg_len,picS_len]; omega)) zN ?_
   refine e_setI (v := v10_0) (w := w10) sz2 rfl rfl hg13.2 hO10_0 (by first | omega | assumption | (simp only [List.length_set,itg_len,picS_len]; omega) | (simp [itg_len,picS_len]; omega)) zN ?_
   intro w14 F14 hC14 hz14 hF14 hO14
   have hE14 : Ext w w14 := hC14.below hE10 (fun c hc => Nat.le_trans hE6.size (hF14 c hc).1) hE10.size
   have hzs14:=hC14.size
   have hF15 := hL6_0x10.chg (o2) hC14 (fun c hc => by have := hF14 c hc; omega)
   have hF16 := hL6_1x10.chg (o2) hC14 (fun c hc => by have := hF14 c hc; omega)
   refine lw_nil ?_
   refine wp_plain _ [0,0,3,4,0] rfl ?_
   refine q_move vo rfl zN ?_
   refine q_move v10_0 rfl zN ?_
   refine r_one (u := v10_0) (B := w6.heap.size) o1 u27 ti25 rfl rfl hO14 (by first | exact Nat.le_refl _ | omega) zN ?_
   intro v17 w17 hX17 hz17 hO17
   have hzs17:=hX17.size
   have hE17:=hE14.trans hX17
   have hF15x17 := hF15.ext (o2) hX17
   have hF16x17 := hF16.ext (o2) hX17
   refine e_appF o1 (v := vo) (a := v17) u27 ti25 rfl rfl rfl hF15x17 (by omega) hO17 (by omega) (by omega) (by first | omega | assumption | (simp only [List.length_set,itg_len,picS_len]; omega) | (simp [itg_len,picS_len]; omega)) (by unfold maxLen; first | omega | assumption | (simp only [List.length_set,itg_len,picS_len]; omega) | (simp [itg_len,picS_len]; omega)) zN ?_
   intro v18 w18 F18 hC18 hF18 hO18
   have hE18 : Ext w w18 := hC18.below hE17 (fun c hc => Nat.le_trans hE2.size (hF18 c hc).1) hE17.size
   have hzs18:=hC18.size
   have hF19 := hF16x17.chg (o2) hC18 (fun c hc => by have := hF18 c hc; omega)
   refine q_assign v18 rfl zN ?_
   refine lw_nil ?_
   refine wp_plain _ [0,0,0] rfl ?_
   refine q_move (.int .i64 ((k :Nat):Int)) rfl zN ?_
   refine q_add ((k + 1 :Nat):Int) rfl rfl (w64n (by omega) (by first | omega | assumption | (simp only [List.length_set,itg_len,picS_len]; omega) | (simp [itg_len,picS_len]; omega))) zN ?_
   refine q_assign (.int .i64 ((k + 1 :Nat):Int)) rfl zN ?_
   refine lw_nil ?_
   exact ⟨((k + 1),v18),_,rfl,⟨rfl,rfl,rfl,rfl,trivial⟩,⟨hE18,(by rw [take_snoc [] (by rw [picS_len]; omega)]; unfold picS; rw [tab_get _ (by omega)]; exact hO18.up o2),hF19,(by first | omega | assumption | (simp only [List.length_set,itg_len,picS_len]; omega) | (simp [itg_len,picS_len]; omega)),(by omega)⟩,by first | omega | (dsimp only; omega)⟩
  ·
   refine q_lss false rfl rfl (decide_eq_false hc8) zN ?_
   refine lw_nil ?_
   refine c_cond_f rfl ?_
   refine wp_exit ?_
   refine t_exit ?_
   refine t_exit ?_
   refine c_exit_here ?_
   refine wp_seq ?_
   refine wp_plain _ [0,0,0] rfl ?_
   refine q_move vo rfl zN ?_
   refine q_assign vo rfl zN ?_
   refine q_assign (.int .i64 ((0 :Nat):Int)) rfl zN ?_
   refine lw_nil ?_
   refine wp_ret ?_
   exact post_ret [6,7] rfl (.tuple #[vo,(.int .i64 ((0 :Nat):Int))]) rfl ⟨vo,(by rw [show psC p f y = 0 from by omega]; rfl),hE6,(by have h := (hL6_0.up o2).low hE2.size; rw [List.take_of_length_le (by rw [picS_len]; omega)] at h; rw [psR_0 hg0]; unfold picR; rw [← hal]; exact h)⟩
end Go.Proofs.YtnofbmdpabcjaaaGreat
namespace Go.Proofs.YtnofbmdpabcjaaaGreat
open Go Go.RowKit
set_option linter.unusedVariables false
set_option linter.unusedSimpArgs false
attribute [local irreducible] LW
def ZS (D : Nat) : Prop := ∀ (w : World) (d : Nat) (va : Value) (a : List Ex) (left : Int) (ha : RN [] (rdS 5 (rEx d)) w.heap va a) (_hleft : -9223372036854775808 ≤ left ∧ left ≤ 9223372036854775807) (hL : 0 ≤ left ∧ left ≤ 1048576) (hd : d ≤ D), Calls Tryz.prog 112 #[va, .int .i64 left] w (fun e w' => e = .returned (.int .i64 (szV (Ex.sizes a) left)) ∧ Ext w w')
set_option maxHeartbeats 4000000 in
set_option maxRecDepth 100000 in
theorem c_laws_szExpr (w : World) (dex : Nat) (ve : Value) (ex : Ex) (left : Int) (hex : RX [] dex w.heap ve ex) (_hleft : -9223372036854775808≤left∧left≤9223372036854775807) (hL : 0≤left∧left≤1048576) (IH : ZS dex) :
  Calls Tryz.prog 136 #[(.agg #[(.int .i64 ex.kind),(.int .i64 ex.num),(.int .i64 ex.pick),(.int .i64 ex.count),ve]),.int .i64 left] w (fun e w' => e = .returned (.int .i64 (szV (Ex.sizes ex.kids) left))∧Ext w w') := by
 refine calls_mk [(.agg #[(.int .i64 ex.kind),(.int .i64 ex.num),(.int .i64 ex.pick),(.int .i64 ex.count),ve]),.int .i64 left] 12 Tryz.func136 rfl rfl (by simp) ?_
 have hE0 : Ext w w := Ext.refl w
 have hl_ve := hex.rn.lenle
 unfold maxLen at hl_ve
 refine wp_seq ?_
 refine wp_plain _ [3,0] rfl ?_
 refine r_boxA (cs := #[(.int .i64 ex.kind),(.int .i64 ex.num),(.int .i64 ex.pick),(.int .i64 ex.count),ve]) rfl zN ?_
 intro w1 hX1 hz1 hB1
 have hzs1:=hX1.size
 have hE1:=hE0.trans hX1
 replace hB1 : BX w1.heap w.heap.size [(.int .i64 ex.kind),(.int .i64 ex.num),(.int .i64 ex.pick),(.int .i64 ex.count),ve] := hB1
 refine q_assign (.int .i64 ((0 :Nat):Int)) rfl zN ?_
 refine lw_nil ?_
 refine wp_seq ?_
 refine wp_plain _ [0,2,0,3,0] rfl ?_
 refine q_fldP (p := (.pointer (some ⟨w.heap.size,0,none⟩))) (b := w.heap.size) (o := 0) 4 fd160_4 rfl rfl zN ?_
 refine q_load (p := (padd (.pointer (some ⟨w.heap.size,0,none⟩)) 4)) (.inr rfl) ve one98 rfl (hB1.ldp (i := 4) (by simp)) zN ?_
 refine q_move (.int .i64 left) rfl zN ?_
 refine lw_call 112 [] [] [ve,(.int .i64 left)] rfl rfl cf112 zN (IH _ dex ve (ex.kids) _ (hex.rn.ext (good_rdS (good_rEx dex)) hE1) _hleft (by omega) (by omega)) ?_
 rintro e2 w2 ⟨rfl,hX2⟩
 refine ⟨_,rfl,hX2,?_⟩
 have hzs2:=hX2.size
 have hE2:=hE1.trans hX2
 have hB1x2 := hB1.ext hX2
 refine q_assign (.int .i64 (szV (Ex.sizes ex.kids) left)) rfl zN ?_
 refine lw_nil ?_
 refine wp_seq ?_
 refine wp_seq ?_
 refine wp_plain _ [0,0] rfl ?_
 refine q_move (.int .i64 (szV (Ex.sizes ex.kids) left)) rfl zN ?_
 by_cases hc3 : szV (Ex.sizes ex.kids) left < ((0 :Nat):Int)
 ·
  refine q_lss true rfl rfl (decide_eq_true hc3) zN ?_
  refine lw_nil ?_
  refine c_cond_t rfl ?_
  refine wp_seq ?_
  refine wp_plain _ [0] rfl ?_
  refine q_assign (.int .i64 (-1)) rfl zN ?_
  refine lw_nil ?_
  refine wp_ret ?_
  refine t_ret ?_
  exact post_ret [4] rfl (.int .i64 (-1)) rfl ⟨(by have hn := szV_neg (t := Ex.sizes ex.kids) (x := left) (by omega) (by omega); exact ret_int (szV_1 (by omega))),hE2⟩
 ·
  refine q_lss false rfl rfl (decide_eq_false hc3) zN ?_
  refine lw_nil ?_
  refine c_cond_f rfl ?_
  refine wp_skip ?_
  refine wp_seq ?_
  refine wp_plain _ [0,0] rfl ?_
  refine q_move (.int .i64 (szV (Ex.sizes ex.kids) left)) rfl zN ?_
  refine q_assign (.int .i64 (szV (Ex.sizes ex.kids) left)) rfl zN ?_
  refine lw_nil ?_
  refine wp_ret ?_
  exact post_ret [4] rfl (.int .i64 (szV (Ex.sizes ex.kids) left)) rfl ⟨(ret_int rfl),hE2⟩
set_option maxHeartbeats 4000000 in
set_option maxRecDepth 100000 in
theorem c_laws_szExprS (w : World) (da : Nat) (va : Value) (a : List Ex) (left : Int) (ha : RN [] (rdS 5 (rEx da)) w.heap va a) (_hleft : -9223372036854775808≤left∧left≤9223372036854775807) (hL : 0≤left∧left≤1048576) :
  Calls Tryz.prog 112 #[va,.int .i64 left] w (fun e w' => e = .returned (.int .i64 (szV (Ex.sizes a) left))∧Ext w w') := by
 induction da using Nat.strongRecOn generalizing w va a left
 rename_i da ih
 refine calls_mk [va,.int .i64 left] 27 Tryz.func112 rfl rfl (by simp) ?_
 have hE0 : Ext w w := Ext.refl w
 have hl_va := ha.lenle
 unfold maxLen at hl_va
 have hge0 := sizes_ge a 0
 refine wp_seq ?_
 refine wp_plain _ [0] rfl ?_
 refine q_assign (.int .i64 ((0 :Nat):Int)) rfl zN ?_
 refine lw_nil ?_
 refine wp_seq ?_
 refine wp_plain _ [0,0,0,0,0] rfl ?_
 refine q_move (.int .i64 left) rfl zN ?_
 refine q_move va rfl zN ?_
 refine q_len (v := va) u98 rfl ha.isSl zN ?_
 refine q_sub (left - ((a.length :Nat):Int)) rfl rfl (w64 (by omega) (by omega)) zN ?_
 refine q_assign (.int .i64 (left - ((a.length :Nat):Int))) rfl zN ?_
 refine lw_nil ?_
 refine wp_seq ?_
 refine wp_seq ?_
 refine wp_plain _ [0,0] rfl ?_
 refine q_move (.int .i64 (left - ((a.length :Nat):Int))) rfl zN ?_
 by_cases hc1 : left - ((a.length :Nat):Int) < ((0 :Nat):Int)
 ·
  refine q_lss true rfl rfl (decide_eq_true hc1) zN ?_
  refine lw_nil ?_
  refine c_cond_t rfl ?_
  refine wp_seq ?_
  refine wp_plain _ [0] rfl ?_
  refine q_assign (.int .i64 (-1)) rfl zN ?_
  refine lw_nil ?_
  refine wp_ret ?_
  refine t_ret ?_
  exact post_ret [4] rfl (.int .i64 (-1)) rfl ⟨(by exact ret_int (szV_1 (by omega))),hE0⟩
 ·
  refine q_lss false rfl rfl (decide_eq_false hc1) zN ?_
  refine lw_nil ?_
  refine c_cond_f rfl ?_
  refine wp_skip ?_
  refine wp_seq ?_
  refine wp_seq ?_
  refine wp_plain _ [0] rfl ?_
  refine q_assign (.int .i64 ((0 :Nat):Int)) rfl zN ?_
  refine lw_nil ?_
  refine wp_block ?_
  refine c_loop (S := Nat × Int) (fun (⟨k,x⟩ : Nat × Int) => ([(1,(.int .i64 x)),(5,(.int .i64 ((k :Nat):Int))),(0,va)] : List (Nat × Value))) (fun (⟨k,x⟩ : Nat × Int) (W : World) => Ext w W∧k≤a.length∧x = left - ((a.length :Nat):Int) - ((Ex.sizes (a.take k) :Nat):Int) + ((k :Nat):Int)∧(0≤x∧x≤1048576)) (fun (⟨k,x⟩ : Nat × Int) => a.length - k) (0,(left - ((a.length :Nat):Int))) ⟨rfl,rfl,rfl,trivial⟩ ⟨hE0,(by first | omega | assumption | (simp; done) | (simp; omega)),(by rw [List.take_zero,sizes_nil]; omega),(by omega)⟩ ?_
  clear hE0
  rintro ⟨k,x⟩ ρ2 w2 ⟨hE2,hp2_0,hx,hp2_2⟩
  have hzs2 : w.heap.size≤w2.heap.size := hE2.size
  refine wp_seq ?_
  refine wp_seq ?_
  refine wp_plain _ [0,0,0,0] rfl ?_
  refine q_move (.int .i64 ((k :Nat):Int)) rfl zN ?_
  refine q_move va rfl zN ?_
  refine q_len (v := va) u98 rfl ha.isSl zN ?_
  by_cases hc3 : ((k :Nat):Int) < ((a.length :Nat):Int)
  ·
   refine q_lss true rfl rfl (decide_eq_true hc3) zN ?_
   refine lw_nil ?_
   refine c_cond_t rfl ?_
   refine wp_skip ?_
   refine wp_seq ?_
   refine wp_block ?_
   refine wp_seq ?_
   refine wp_plain _ [0,0,0,2,0,3,0] rfl ?_
   have hst := sizes_step (l := a) (k := k) (by omega)
   have hge := sizes_ge a (k + 1)
   have hsk := size_kids (a.getD k Ex.zero)
   refine q_move va rfl zN ?_
   refine q_move (.int .i64 ((k :Nat):Int)) rfl zN ?_
   refine q_idx (v := va) k u98 tiS160 rfl rfl ha.isSl rfl (by first | omega | assumption | (simp; done) | (simp; omega)) zN ?_
   obtain ⟨cs4,hr4,hl4⟩ := ha.get (good_rEx da) Ex.zero (k := k) (by first | omega | assumption | (simp; done) | (simp; omega))
   obtain ⟨dd4,ve4,hd4,rfl,hx4⟩ := RX.of hr4
   have hln4 := hx4.rn.lenle
   unfold maxLen at hln4
   refine q_loadA (p := eptr va k 5) (.inr rfl) [(.int .i64 ((a.getD k Ex.zero).kind)),(.int .i64 ((a.getD k Ex.zero).num)),(.int .i64 ((a.getD k Ex.zero).pick)),(.int .i64 ((a.getD k Ex.zero).count)),ve4] agg160 rfl (fun w9 hw9 => hl4 w9 (Chg.of_ext [] (hE2.trans hw9))) rfl zN ?_
   refine q_move (.int .i64 x) rfl zN ?_
   refine lw_call 136 [] [] [(.agg #[(.int .i64 ((a.getD k Ex.zero).kind)),(.int .i64 ((a.getD k Ex.zero).num)),(.int .i64 ((a.getD k Ex.zero).pick)),(.int .i64 ((a.getD k Ex.zero).count)),ve4]),(.int .i64 x)] rfl rfl cf136 zN (c_laws_szExpr _ dd4 ve4 (a.getD k Ex.zero) _ (hx4.ext hE2) (by omega) (by omega) (by intro w9 d9 v9 a9 l9 h1 h2 h3 h4; exact ih d9 (by omega) w9 v9 a9 l9 h1 h2 h3)) ?_
   rintro e5 w5 ⟨rfl,hX5⟩
   refine ⟨_,rfl,hX5,?_⟩
   have hzs5:=hX5.size
   have hE5:=hE2.trans hX5
   refine q_assign (.int .i64 (szV (Ex.sizes (a.getD k Ex.zero).kids) x)) rfl zN ?_
   refine lw_nil ?_
   refine wp_seq ?_
   refine wp_plain _ [0,0] rfl ?_
   have hzr := szV_rng (Ex.sizes (a.getD k Ex.zero).kids) (x := x) (by omega)
   refine q_move (.int .i64 (szV (Ex.sizes (a.getD k Ex.zero).kids) x)) rfl zN ?_
   by_cases hc6 : szV (Ex.sizes (a.getD k Ex.zero).kids) x < ((0 :Nat):Int)
   ·
    refine q_lss true rfl rfl (decide_eq_true hc6) zN ?_
    refine lw_nil ?_
    refine c_cond_t rfl ?_
    refine wp_seq ?_
    refine wp_plain _ [0] rfl ?_
    refine q_assign (.int .i64 (-1)) rfl zN ?_
    refine lw_nil ?_
    refine wp_ret ?_
    refine b_ret ?_
    refine t_ret ?_
    refine t_ret ?_
    refine b_ret ?_
    refine t_ret ?_
    exact post_ret [4] rfl (.int .i64 (-1)) rfl ⟨(by have hn := szV_neg (t := Ex.sizes (a.getD k Ex.zero).kids) (x := x) (by omega) (by omega); exact ret_int (szV_1 (by omega))),hE5⟩
   ·
    refine q_lss false rfl rfl (decide_eq_false hc6) zN ?_
    refine lw_nil ?_
    refine c_cond_f rfl ?_
    refine wp_skip ?_
    refine wp_plain _ [0,0,0] rfl ?_
    have hzp := szV_pos (t := Ex.sizes (a.getD k Ex.zero).kids) (x := x) (by omega)
    refine q_move (.int .i64 ((k :Nat):Int)) rfl zN ?_
    refine q_add ((k + 1 :Nat):Int) rfl rfl (w64n (by omega) (by first | omega | assumption | (simp; done) | (simp; omega))) zN ?_
    refine q_assign (.int .i64 ((k + 1 :Nat):Int)) rfl zN ?_
    refine lw_nil ?_
    exact ⟨((k + 1),(szV (Ex.sizes (a.getD k Ex.zero).kids) x)),_,rfl,⟨rfl,rfl,rfl,trivial⟩,⟨hE5,(by first | omega | assumption | (simp; done) | (simp; omega)),(by omega),(by omega)⟩,by first | omega | (dsimp only; omega)⟩
  ·
   refine q_lss false rfl rfl (decide_eq_false hc3) zN ?_
   refine lw_nil ?_
   refine c_cond_f rfl ?_
   refine wp_exit ?_
   refine t_exit ?_
   refine t_exit ?_
   refine c_exit_here ?_
   refine wp_seq ?_
   refine wp_plain _ [0,0] rfl ?_
   refine q_move (.int .i64 x) rfl zN ?_
   refine q_assign (.int .i64 x) rfl zN ?_
   refine lw_nil ?_
   refine wp_ret ?_
   exact post_ret [4] rfl (.int .i64 x) rfl ⟨(by have hsa := sizes_all (l := a) (k := k) (by omega); exact ret_int (szV_0 (by omega) (by omega))),hE2⟩
set_option maxHeartbeats 4000000 in
set_option maxRecDepth 100000 in
theorem c_laws_szFunc (w : World) (dg : Nat) (vf : Value) (g : Fn) (left : Int) (hg : RF [] dg w.heap vf g) (_hleft : -9223372036854775808≤left∧left≤9223372036854775807) (hL : 0≤left∧left≤1048576) (hnm : g.name.size≤9223372036854775807) :
  Calls Tryz.prog 76 #[(.agg #[(.string g.name),(.int .i64 g.params),vf]),.int .i64 left] w (fun e w' => e = .returned (.int .i64 (szV g.sz left))∧Ext w w') := by
 refine calls_mk [(.agg #[(.string g.name),(.int .i64 g.params),vf]),.int .i64 left] 19 Tryz.func76 rfl rfl (by simp) ?_
 have hE0 : Ext w w := Ext.refl w
 have hl_vf := hg.rn.lenle
 unfold maxLen at hl_vf
 have hgs : g.sz = g.name.size + Ex.sizes g.outs := rfl
 refine wp_seq ?_
 refine wp_plain _ [3,0] rfl ?_
 refine r_boxA (cs := #[(.string g.name),(.int .i64 g.params),vf]) rfl zN ?_
 intro w1 hX1 hz1 hB1
 have hzs1:=hX1.size
 have hE1:=hE0.trans hX1
 replace hB1 : BX w1.heap w.heap.size [(.string g.name),(.int .i64 g.params),vf] := hB1
 refine q_assign (.int .i64 ((0 :Nat):Int)) rfl zN ?_
 refine lw_nil ?_
 refine wp_seq ?_
 refine wp_plain _ [0,0,2,0,0,0] rfl ?_
 refine q_move (.int .i64 left) rfl zN ?_
 refine q_fldP (p := (.pointer (some ⟨w.heap.size,0,none⟩))) (b := w.heap.size) (o := 0) 0 fd100_0 rfl rfl zN ?_
 refine q_load (p := (padd (.pointer (some ⟨w.heap.size,0,none⟩)) 0)) (.inr rfl) (.string g.name) one9 rfl (hB1.ldp (i := 0) (by simp)) zN ?_
 refine q_lens (s := g.name) u9 rfl zN ?_
 refine q_sub (left - ((g.name.size :Nat):Int)) rfl rfl (w64 (by omega) (by omega)) zN ?_
 refine q_assign (.int .i64 (left - ((g.name.size :Nat):Int))) rfl zN ?_
 refine lw_nil ?_
 refine wp_seq ?_
 refine wp_seq ?_
 refine wp_plain _ [0,0] rfl ?_
 refine q_move (.int .i64 (left - ((g.name.size :Nat):Int))) rfl zN ?_
 by_cases hc2 : left - ((g.name.size :Nat):Int) < ((0 :Nat):Int)
 ·
  refine q_lss true rfl rfl (decide_eq_true hc2) zN ?_
  refine lw_nil ?_
  refine c_cond_t rfl ?_
  refine wp_seq ?_
  refine wp_plain _ [0] rfl ?_
  refine q_assign (.int .i64 (-1)) rfl zN ?_
  refine lw_nil ?_
  refine wp_ret ?_
  refine t_ret ?_
  exact post_ret [4] rfl (.int .i64 (-1)) rfl ⟨(by exact ret_int (szV_1 (by omega))),hE1⟩
 ·
  refine q_lss false rfl rfl (decide_eq_false hc2) zN ?_
  refine lw_nil ?_
  refine c_cond_f rfl ?_
  refine wp_skip ?_
  refine wp_seq ?_
  refine wp_plain _ [0,2,0,3,0] rfl ?_
  refine q_fldP (p := (.pointer (some ⟨w.heap.size,0,none⟩))) (b := w.heap.size) (o := 0) 2 fd100_2 rfl rfl zN ?_
  refine q_load (p := (padd (.pointer (some ⟨w.heap.size,0,none⟩)) 2)) (.inr rfl) vf one98 rfl (hB1.ldp (i := 2) (by simp)) zN ?_
  refine q_move (.int .i64 (left - ((g.name.size :Nat):Int))) rfl zN ?_
  refine lw_call 112 [] [] [vf,(.int .i64 (left - ((g.name.size :Nat):Int)))] rfl rfl cf112 zN (c_laws_szExprS _ dg vf (g.outs) _ (hg.rn.ext (good_rdS (good_rEx dg)) hE1) (by omega) (by omega)) ?_
  rintro e3 w3 ⟨rfl,hX3⟩
  refine ⟨_,rfl,hX3,?_⟩
  have hzs3:=hX3.size
  have hE3:=hE1.trans hX3
  have hB1x3 := hB1.ext hX3
  refine q_assign (.int .i64 (szV (Ex.sizes g.outs) (left - ((g.name.size :Nat):Int)))) rfl zN ?_
  refine lw_nil ?_
  refine wp_seq ?_
  refine wp_seq ?_
  refine wp_plain _ [0,0] rfl ?_
  have hzr := szV_rng (Ex.sizes g.outs) (x := left - ((g.name.size :Nat):Int)) (by omega)
  refine q_move (.int .i64 (szV (Ex.sizes g.outs) (left - ((g.name.size :Nat):Int)))) rfl zN ?_
  by_cases hc4 : szV (Ex.sizes g.outs) (left - ((g.name.size :Nat):Int)) < ((0 :Nat):Int)
  ·
   refine q_lss true rfl rfl (decide_eq_true hc4) zN ?_
   refine lw_nil ?_
   refine c_cond_t rfl ?_
   refine wp_seq ?_
   refine wp_plain _ [0] rfl ?_
   refine q_assign (.int .i64 (-1)) rfl zN ?_
   refine lw_nil ?_
   refine wp_ret ?_
   refine t_ret ?_
   exact post_ret [4] rfl (.int .i64 (-1)) rfl ⟨(by have hn := szV_neg (t := Ex.sizes g.outs) (x := left - ((g.name.size :Nat):Int)) (by omega) (by omega); exact ret_int (szV_1 (by omega))),hE3⟩
  ·
   refine q_lss false rfl rfl (decide_eq_false hc4) zN ?_
   refine lw_nil ?_
   refine c_cond_f rfl ?_
   refine wp_skip ?_
   refine wp_seq ?_
   refine wp_plain _ [0,0] rfl ?_
   have hzp := szV_pos (t := Ex.sizes g.outs) (x := left - ((g.name.size :Nat):Int)) (by omega)
   refine q_move (.int .i64 (szV (Ex.sizes g.outs) (left - ((g.name.size :Nat):Int)))) rfl zN ?_
   refine q_assign (.int .i64 (szV (Ex.sizes g.outs) (left - ((g.name.size :Nat):Int)))) rfl zN ?_
   refine lw_nil ?_
   refine wp_ret ?_
   exact post_ret [4] rfl (.int .i64 (szV (Ex.sizes g.outs) (left - ((g.name.size :Nat):Int)))) rfl ⟨(by exact ret_int (szV_0 (by omega) (by omega))),hE3⟩
set_option maxHeartbeats 4000000 in
set_option maxRecDepth 100000 in
theorem c_laws_szFuncS (w : World) (da : Nat) (va : Value) (a : List Fn) (left : Int) (ha : RP [] da w.heap va a) (_hleft : -9223372036854775808≤left∧left≤9223372036854775807) (hL : 0≤left∧left≤1048576) (hnm : ∀ k,k < a.length→(a.getD k Fn.zero).name.size≤9223372036854775807) :
  Calls Tryz.prog 41 #[va,.int .i64 left] w (fun e w' => e = .returned (.int .i64 (szV (szP a) left))∧Ext w w') := by
 refine calls_mk [va,.int .i64 left] 27 Tryz.func41 rfl rfl (by simp) ?_
 have hE0 : Ext w w := Ext.refl w
 have hl_va := ha.lenle
 unfold maxLen at hl_va
 have hgs : szP a = a.length + Fn.szs a := rfl
 refine wp_seq ?_
 refine wp_plain _ [0] rfl ?_
 refine q_assign (.int .i64 ((0 :Nat):Int)) rfl zN ?_
 refine lw_nil ?_
 refine wp_seq ?_
 refine wp_plain _ [0,0,0,0,0] rfl ?_
 refine q_move (.int .i64 left) rfl zN ?_
 refine q_move va rfl zN ?_
 refine q_len (v := va) u22 rfl ha.isSl zN ?_
 refine q_sub (left - ((a.length :Nat):Int)) rfl rfl (w64 (by omega) (by omega)) zN ?_
 refine q_assign (.int .i64 (left - ((a.length :Nat):Int))) rfl zN ?_
 refine lw_nil ?_
 refine wp_seq ?_
 refine wp_seq ?_
 refine wp_plain _ [0,0] rfl ?_
 refine q_move (.int .i64 (left - ((a.length :Nat):Int))) rfl zN ?_
 by_cases hc1 : left - ((a.length :Nat):Int) < ((0 :Nat):Int)
 ·
  refine q_lss true rfl rfl (decide_eq_true hc1) zN ?_
  refine lw_nil ?_
  refine c_cond_t rfl ?_
  refine wp_seq ?_
  refine wp_plain _ [0] rfl ?_
  refine q_assign (.int .i64 (-1)) rfl zN ?_
  refine lw_nil ?_
  refine wp_ret ?_
  refine t_ret ?_
  exact post_ret [4] rfl (.int .i64 (-1)) rfl ⟨(by exact ret_int (szV_1 (by omega))),hE0⟩
 ·
  refine q_lss false rfl rfl (decide_eq_false hc1) zN ?_
  refine lw_nil ?_
  refine c_cond_f rfl ?_
  refine wp_skip ?_
  refine wp_seq ?_
  refine wp_seq ?_
  refine wp_plain _ [0] rfl ?_
  refine q_assign (.int .i64 ((0 :Nat):Int)) rfl zN ?_
  refine lw_nil ?_
  refine wp_block ?_
  refine c_loop (S := Nat × Int) (fun (⟨k,x⟩ : Nat × Int) => ([(1,(.int .i64 x)),(5,(.int .i64 ((k :Nat):Int))),(0,va)] : List (Nat × Value))) (fun (⟨k,x⟩ : Nat × Int) (W : World) => Ext w W∧k≤a.length∧x = left - ((a.length :Nat):Int) - ((Fn.szs (a.take k) :Nat):Int)∧(0≤x∧x≤1048576)) (fun (⟨k,x⟩ : Nat × Int) => a.length - k) (0,(left - ((a.length :Nat):Int))) ⟨rfl,rfl,rfl,trivial⟩ ⟨hE0,(by first | omega | assumption | (simp; done) | (simp; omega)),(by rw [List.take_zero,szs_nil]; omega),(by omega)⟩ ?_
  clear hE0
  rintro ⟨k,x⟩ ρ2 w2 ⟨hE2,hp2_0,hx,hp2_2⟩
  have hzs2 : w.heap.size≤w2.heap.size := hE2.size
  refine wp_seq ?_
  refine wp_seq ?_
  refine wp_plain _ [0,0,0,0] rfl ?_
  refine q_move (.int .i64 ((k :Nat):Int)) rfl zN ?_
  refine q_move va rfl zN ?_
  refine q_len (v := va) u22 rfl ha.isSl zN ?_
  by_cases hc3 : ((k :Nat):Int) < ((a.length :Nat):Int)
  ·
   refine q_lss true rfl rfl (decide_eq_true hc3) zN ?_
   refine lw_nil ?_
   refine c_cond_t rfl ?_
   refine wp_skip ?_
   refine wp_seq ?_
   refine wp_block ?_
   refine wp_seq ?_
   refine wp_plain _ [0,0,0,2,0,3,0] rfl ?_
   have hst := szs_step (l := a) (k := k) (by omega)
   have hge := szs_take a (k + 1)
   refine q_move va rfl zN ?_
   refine q_move (.int .i64 ((k :Nat):Int)) rfl zN ?_
   refine q_idx (v := va) k u22 tiS100 rfl rfl ha.isSl rfl (by first | omega | assumption | (simp; done) | (simp; omega)) zN ?_
   obtain ⟨cs4,hr4,hl4⟩ := ha.get (good_rFn da) Fn.zero (k := k) (by first | omega | assumption | (simp; done) | (simp; omega))
   obtain ⟨ve4,rfl,hx4⟩ := RF.of hr4
   have hln4 := hx4.rn.lenle
   unfold maxLen at hln4
   refine q_loadA (p := eptr va k 3) (.inr rfl) [(.string ((a.getD k Fn.zero).name)),(.int .i64 ((a.getD k Fn.zero).params)),ve4] agg100 rfl (fun w9 hw9 => hl4 w9 (Chg.of_ext [] (hE2.trans hw9))) rfl zN ?_
   refine q_move (.int .i64 x) rfl zN ?_
   refine lw_call 76 [] [] [(.agg #[(.string ((a.getD k Fn.zero).name)),(.int .i64 ((a.getD k Fn.zero).params)),ve4]),(.int .i64 x)] rfl rfl cf76 zN (c_laws_szFunc _ da ve4 (a.getD k Fn.zero) _ ⟨hx4.rng,(hx4.rn.ext (good_rdS (good_rEx da)) hE2)⟩ (by omega) (by omega) (by exact hnm k (by omega))) ?_
   rintro e5 w5 ⟨rfl,hX5⟩
   refine ⟨_,rfl,hX5,?_⟩
   have hzs5:=hX5.size
   have hE5:=hE2.trans hX5
   refine q_assign (.int .i64 (szV (a.getD k Fn.zero).sz x)) rfl zN ?_
   refine lw_nil ?_
   refine wp_seq ?_
   refine wp_plain _ [0,0] rfl ?_
   have hzr := szV_rng (a.getD k Fn.zero).sz (x := x) (by omega)
   refine q_move (.int .i64 (szV (a.getD k Fn.zero).sz x)) rfl zN ?_
   by_cases hc6 : szV (a.getD k Fn.zero).sz x < ((0 :Nat):Int)
   ·
    refine q_lss true rfl rfl (decide_eq_true hc6) zN ?_
    refine lw_nil ?_
    refine c_cond_t rfl ?_
    refine wp_seq ?_
    refine wp_plain _ [0] rfl ?_
    refine q_assign (.int .i64 (-1)) rfl zN ?_
    refine lw_nil ?_
    refine wp_ret ?_
    refine b_ret ?_
    refine t_ret ?_
    refine t_ret ?_
    refine b_ret ?_
    refine t_ret ?_
    exact post_ret [4] rfl (.int .i64 (-1)) rfl ⟨(by have hn := szV_neg (t := (a.getD k Fn.zero).sz) (x := x) (by omega) (by omega); exact ret_int (szV_1 (by omega))),hE5⟩
   ·
    refine q_lss false rfl rfl (decide_eq_false hc6) zN ?_
    refine lw_nil ?_
    refine c_cond_f rfl ?_
    refine wp_skip ?_
    refine wp_plain _ [0,0,0] rfl ?_
    have hzp := szV_pos (t := (a.getD k Fn.zero).sz) (x := x) (by omega)
    refine q_move (.int .i64 ((k :Nat):Int)) rfl zN ?_
    refine q_add ((k + 1 :Nat):Int) rfl rfl (w64n (by omega) (by first | omega | assumption | (simp; done) | (simp; omega))) zN ?_
    refine q_assign (.int .i64 ((k + 1 :Nat):Int)) rfl zN ?_
    refine lw_nil ?_
    exact ⟨((k + 1),(szV (a.getD k Fn.zero).sz x)),_,rfl,⟨rfl,rfl,rfl,trivial⟩,⟨hE5,(by first | omega | assumption | (simp; done) | (simp; omega)),(by omega),(by omega)⟩,by first | omega | (dsimp only; omega)⟩
  ·
   refine q_lss false rfl rfl (decide_eq_false hc3) zN ?_
   refine lw_nil ?_
   refine c_cond_f rfl ?_
   refine wp_exit ?_
   refine t_exit ?_
   refine t_exit ?_
   refine c_exit_here ?_
   refine wp_seq ?_
   refine wp_plain _ [0,0] rfl ?_
   refine q_move (.int .i64 x) rfl zN ?_
   refine q_assign (.int .i64 x) rfl zN ?_
   refine lw_nil ?_
   refine wp_ret ?_
   exact post_ret [4] rfl (.int .i64 x) rfl ⟨(by rw [List.take_of_length_le (show a.length≤k by omega)] at hx; exact ret_int (szV_0 (by omega) (by omega))),hE2⟩
set_option maxHeartbeats 4000000 in
set_option maxRecDepth 100000 in
theorem c_laws_szProgram (w : World) (dp : Nat) (vp : Value) (p : List Fn) (left : Int) (hp : RP [] dp w.heap vp p) (_hleft : -9223372036854775808≤left∧left≤9223372036854775807) (hL : 0≤left∧left≤1048576) (hnm : ∀ k,k < p.length→(p.getD k Fn.zero).name.size≤9223372036854775807) :
  Calls Tryz.prog 9 #[(.agg #[vp]),.int .i64 left] w (fun e w' => e = .returned (.int .i64 (szV (szP p) left))∧Ext w w') := by
 refine calls_mk [(.agg #[vp]),.int .i64 left] 12 Tryz.func9 rfl rfl (by simp) ?_
 have hE0 : Ext w w := Ext.refl w
 have hl_vp := hp.lenle
 unfold maxLen at hl_vp
 refine wp_seq ?_
 refine wp_plain _ [3,0] rfl ?_
 refine r_boxA (cs := #[vp]) rfl zN ?_
 intro w1 hX1 hz1 hB1
 have hzs1:=hX1.size
 have hE1:=hE0.trans hX1
 replace hB1 : BX w1.heap w.heap.size [vp] := hB1
 refine q_assign (.int .i64 ((0 :Nat):Int)) rfl zN ?_
 refine lw_nil ?_
 refine wp_seq ?_
 refine wp_plain _ [0,2,0,3,0] rfl ?_
 refine q_fldP (p := (.pointer (some ⟨w.heap.size,0,none⟩))) (b := w.heap.size) (o := 0) 0 fd24_0 rfl rfl zN ?_
 refine q_load (p := (padd (.pointer (some ⟨w.heap.size,0,none⟩)) 0)) (.inr rfl) vp one22 rfl (hB1.ldp (i := 0) (by simp)) zN ?_
 refine q_move (.int .i64 left) rfl zN ?_
 refine lw_call 41 [] [] [vp,(.int .i64 left)] rfl rfl cf41 zN (c_laws_szFuncS _ dp vp (p) _ (hp.ext (good_rdS (good_rFn dp)) hE1) _hleft (by omega) (by exact hnm)) ?_
 rintro e2 w2 ⟨rfl,hX2⟩
 refine ⟨_,rfl,hX2,?_⟩
 have hzs2:=hX2.size
 have hE2:=hE1.trans hX2
 have hB1x2 := hB1.ext hX2
 refine q_assign (.int .i64 (szV (szP p) left)) rfl zN ?_
 refine lw_nil ?_
 refine wp_seq ?_
 refine wp_seq ?_
 refine wp_plain _ [0,0] rfl ?_
 refine q_move (.int .i64 (szV (szP p) left)) rfl zN ?_
 by_cases hc3 : szV (szP p) left < ((0 :Nat):Int)
 ·
  refine q_lss true rfl rfl (decide_eq_true hc3) zN ?_
  refine lw_nil ?_
  refine c_cond_t rfl ?_
  refine wp_seq ?_
  refine wp_plain _ [0] rfl ?_
  refine q_assign (.int .i64 (-1)) rfl zN ?_
  refine lw_nil ?_
  refine wp_ret ?_
  refine t_ret ?_
  exact post_ret [4] rfl (.int .i64 (-1)) rfl ⟨(by have hn := szV_neg (t := szP p) (x := left) (by omega) (by omega); exact ret_int (szV_1 (by omega))),hE2⟩
 ·
  refine q_lss false rfl rfl (decide_eq_false hc3) zN ?_
  refine lw_nil ?_
  refine c_cond_f rfl ?_
  refine wp_skip ?_
  refine wp_seq ?_
  refine wp_plain _ [0,0] rfl ?_
  refine q_move (.int .i64 (szV (szP p) left)) rfl zN ?_
  refine q_assign (.int .i64 (szV (szP p) left)) rfl zN ?_
  refine lw_nil ?_
  refine wp_ret ?_
  exact post_ret [4] rfl (.int .i64 (szV (szP p) left)) rfl ⟨(ret_int rfl),hE2⟩
def QS (D : Nat) : Prop := ∀ (w : World) (d : Nat) (va : Value) (a : List Ex) (d' : Nat) (vb : Value) (b : List Ex) (ha : RN [] (rdS 5 (rEx d)) w.heap va a) (hb : RN [] (rdS 5 (rEx d')) w.heap vb b) (hab : b = a) (hd : d ≤ D), Calls Tryz.prog 125 #[va, vb] w (fun e w' => e = .returned (.bool true) ∧ Ext w w')
set_option maxHeartbeats 4000000 in
set_option maxRecDepth 100000 in
theorem c_laws_eqExpr (w : World) (da : Nat) (va : Value) (a : Ex) (db : Nat) (vb : Value) (b : Ex) (ha : RX [] da w.heap va a) (hb : RX [] db w.heap vb b) (hab : b = a) (IH : QS da) :
  Calls Tryz.prog 146 #[(.agg #[(.int .i64 a.kind),(.int .i64 a.num),(.int .i64 a.pick),(.int .i64 a.count),va]),(.agg #[(.int .i64 b.kind),(.int .i64 b.num),(.int .i64 b.pick),(.int .i64 b.count),vb])] w (fun e w' => e = .returned (.bool true)∧Ext w w') := by
 refine calls_mk [(.agg #[(.int .i64 a.kind),(.int .i64 a.num),(.int .i64 a.pick),(.int .i64 a.count),va]),(.agg #[(.int .i64 b.kind),(.int .i64 b.num),(.int .i64 b.pick),(.int .i64 b.count),vb])] 31 Tryz.func146 rfl rfl (by simp) ?_
 have hE0 : Ext w w := Ext.refl w
 have hl_va := ha.rn.lenle
 unfold maxLen at hl_va
 have hl_vb := hb.rn.lenle
 unfold maxLen at hl_vb
 have hk1 : b.kind = a.kind := by rw [hab]
 have hk2 : b.num = a.num := by rw [hab]
 have hk3 : b.pick = a.pick := by rw [hab]
 have hk4 : b.count = a.count := by rw [hab]
 refine wp_seq ?_
 refine wp_plain _ [3,3,0] rfl ?_
 refine r_boxA (cs := #[(.int .i64 a.kind),(.int .i64 a.num),(.int .i64 a.pick),(.int .i64 a.count),va]) rfl zN ?_
 intro w1 hX1 hz1 hB1
 have hzs1:=hX1.size
 have hE1:=hE0.trans hX1
 replace hB1 : BX w1.heap w.heap.size [(.int .i64 a.kind),(.int .i64 a.num),(.int .i64 a.pick),(.int .i64 a.count),va] := hB1
 have hq3 := hB1.lt
 refine r_boxA (cs := #[(.int .i64 b.kind),(.int .i64 b.num),(.int .i64 b.pick),(.int .i64 b.count),vb]) rfl zN ?_
 intro w2 hX2 hz2 hB2
 have hzs2:=hX2.size
 have hE2:=hE1.trans hX2
 have hB1x2 := hB1.ext hX2
 replace hB2 : BX w2.heap w1.heap.size [(.int .i64 b.kind),(.int .i64 b.num),(.int .i64 b.pick),(.int .i64 b.count),vb] := hB2
 refine q_assign (.bool false) rfl zN ?_
 refine lw_nil ?_
 refine wp_seq ?_
 refine wp_seq ?_
 refine wp_plain _ [0,2,0,2,0] rfl ?_
 refine q_fldP (p := (.pointer (some ⟨w.heap.size,0,none⟩))) (b := w.heap.size) (o := 0) 0 fd94_0 rfl rfl zN ?_
 refine q_load (p := (padd (.pointer (some ⟨w.heap.size,0,none⟩)) 0)) (.inr rfl) (.int .i64 a.kind) one2 rfl (hB1x2.ldp (i := 0) (by simp)) zN ?_
 refine q_fldP (p := (.pointer (some ⟨w1.heap.size,0,none⟩))) (b := w1.heap.size) (o := 0) 0 fd94_0 rfl rfl zN ?_
 refine q_load (p := (padd (.pointer (some ⟨w1.heap.size,0,none⟩)) 0)) (.inr rfl) (.int .i64 b.kind) one2 rfl (hB2.ldp (i := 0) (by simp)) zN ?_
 by_cases hc4 : a.kind ≠ b.kind
 ·
  refine q_neq true rfl rfl (decide_eq_true hc4) zN ?_
  refine lw_nil ?_
  refine c_cond_t rfl ?_
  refine wp_seq ?_
  refine wp_plain _ [0] rfl ?_
  refine q_assign (.bool false) rfl zN ?_
  refine lw_nil ?_
  refine wp_ret ?_
  refine t_ret ?_
  exact post_ret [4] rfl (.bool false) rfl ⟨(by first | exact ret_bool rfl | (exfalso; omega) | (exfalso; simp_all; done)),hE2⟩
 ·
  refine q_neq false rfl rfl (decide_eq_false hc4) zN ?_
  refine lw_nil ?_
  refine c_cond_f rfl ?_
  refine wp_skip ?_
  refine wp_seq ?_
  refine wp_seq ?_
  refine wp_plain _ [0,2,0,2,0] rfl ?_
  refine q_fldP (p := (.pointer (some ⟨w.heap.size,0,none⟩))) (b := w.heap.size) (o := 0) 1 fd94_1 rfl rfl zN ?_
  refine q_load (p := (padd (.pointer (some ⟨w.heap.size,0,none⟩)) 1)) (.inr rfl) (.int .i64 a.num) one2 rfl (hB1x2.ldp (i := 1) (by simp)) zN ?_
  refine q_fldP (p := (.pointer (some ⟨w1.heap.size,0,none⟩))) (b := w1.heap.size) (o := 0) 1 fd94_1 rfl rfl zN ?_
  refine q_load (p := (padd (.pointer (some ⟨w1.heap.size,0,none⟩)) 1)) (.inr rfl) (.int .i64 b.num) one2 rfl (hB2.ldp (i := 1) (by simp)) zN ?_
  by_cases hc5 : a.num ≠ b.num
  ·
   refine q_neq true rfl rfl (decide_eq_true hc5) zN ?_
   refine lw_nil ?_
   refine c_cond_t rfl ?_
   refine wp_seq ?_
   refine wp_plain _ [0] rfl ?_
   refine q_assign (.bool false) rfl zN ?_
   refine lw_nil ?_
   refine wp_ret ?_
   refine t_ret ?_
   exact post_ret [4] rfl (.bool false) rfl ⟨(by first | exact ret_bool rfl | (exfalso; omega) | (exfalso; simp_all; done)),hE2⟩
  ·
   refine q_neq false rfl rfl (decide_eq_false hc5) zN ?_
   refine lw_nil ?_
   refine c_cond_f rfl ?_
   refine wp_skip ?_
   refine wp_seq ?_
   refine wp_seq ?_
   refine wp_plain _ [0,2,0,2,0] rfl ?_
   refine q_fldP (p := (.pointer (some ⟨w.heap.size,0,none⟩))) (b := w.heap.size) (o := 0) 2 fd94_2 rfl rfl zN ?_
   refine q_load (p := (padd (.pointer (some ⟨w.heap.size,0,none⟩)) 2)) (.inr rfl) (.int .i64 a.pick) one2 rfl (hB1x2.ldp (i := 2) (by simp)) zN ?_
   refine q_fldP (p := (.pointer (some ⟨w1.heap.size,0,none⟩))) (b := w1.heap.size) (o := 0) 2 fd94_2 rfl rfl zN ?_
   refine q_load (p := (padd (.pointer (some ⟨w1.heap.size,0,none⟩)) 2)) (.inr rfl) (.int .i64 b.pick) one2 rfl (hB2.ldp (i := 2) (by simp)) zN ?_
   by_cases hc6 : a.pick ≠ b.pick
   ·
    refine q_neq true rfl rfl (decide_eq_true hc6) zN ?_
    refine lw_nil ?_
    refine c_cond_t rfl ?_
    refine wp_seq ?_
    refine wp_plain _ [0] rfl ?_
    refine q_assign (.bool false) rfl zN ?_
    refine lw_nil ?_
    refine wp_ret ?_
    refine t_ret ?_
    exact post_ret [4] rfl (.bool false) rfl ⟨(by first | exact ret_bool rfl | (exfalso; omega) | (exfalso; simp_all; done)),hE2⟩
   ·
    refine q_neq false rfl rfl (decide_eq_false hc6) zN ?_
    refine lw_nil ?_
    refine c_cond_f rfl ?_
    refine wp_skip ?_
    refine wp_seq ?_
    refine wp_seq ?_
    refine wp_plain _ [0,2,0,2,0] rfl ?_
    refine q_fldP (p := (.pointer (some ⟨w.heap.size,0,none⟩))) (b := w.heap.size) (o := 0) 3 fd94_3 rfl rfl zN ?_
    refine q_load (p := (padd (.pointer (some ⟨w.heap.size,0,none⟩)) 3)) (.inr rfl) (.int .i64 a.count) one2 rfl (hB1x2.ldp (i := 3) (by simp)) zN ?_
    refine q_fldP (p := (.pointer (some ⟨w1.heap.size,0,none⟩))) (b := w1.heap.size) (o := 0) 3 fd94_3 rfl rfl zN ?_
    refine q_load (p := (padd (.pointer (some ⟨w1.heap.size,0,none⟩)) 3)) (.inr rfl) (.int .i64 b.count) one2 rfl (hB2.ldp (i := 3) (by simp)) zN ?_
    by_cases hc7 : a.count ≠ b.count
    ·
     refine q_neq true rfl rfl (decide_eq_true hc7) zN ?_
     refine lw_nil ?_
     refine c_cond_t rfl ?_
     refine wp_seq ?_
     refine wp_plain _ [0] rfl ?_
     refine q_assign (.bool false) rfl zN ?_
     refine lw_nil ?_
     refine wp_ret ?_
     refine t_ret ?_
     exact post_ret [4] rfl (.bool false) rfl ⟨(by first | exact ret_bool rfl | (exfalso; omega) | (exfalso; simp_all; done)),hE2⟩
    ·
     refine q_neq false rfl rfl (decide_eq_false hc7) zN ?_
     refine lw_nil ?_
     refine c_cond_f rfl ?_
     refine wp_skip ?_
     refine wp_seq ?_
     refine wp_seq ?_
     refine wp_plain _ [0,2,0,2,3,0] rfl ?_
     refine q_fldP (p := (.pointer (some ⟨w.heap.size,0,none⟩))) (b := w.heap.size) (o := 0) 4 fd94_4 rfl rfl zN ?_
     refine q_load (p := (padd (.pointer (some ⟨w.heap.size,0,none⟩)) 4)) (.inr rfl) va one78 rfl (hB1x2.ldp (i := 4) (by simp)) zN ?_
     refine q_fldP (p := (.pointer (some ⟨w1.heap.size,0,none⟩))) (b := w1.heap.size) (o := 0) 4 fd94_4 rfl rfl zN ?_
     refine q_load (p := (padd (.pointer (some ⟨w1.heap.size,0,none⟩)) 4)) (.inr rfl) vb one78 rfl (hB2.ldp (i := 4) (by simp)) zN ?_
     refine lw_call 125 [] [] [va,vb] rfl rfl cf125 zN (IH _ da va (a.kids) db vb (b.kids) (ha.rn.ext (good_rdS (good_rEx da)) hE2) (hb.rn.ext (good_rdS (good_rEx db)) hE2) (by rw [hab]) (by omega)) ?_
     rintro e8 w8 ⟨rfl,hX8⟩
     refine ⟨_,rfl,hX8,?_⟩
     have hzs8:=hX8.size
     have hE8:=hE2.trans hX8
     have hB1x8 := hB1x2.ext hX8
     have hB2x8 := hB2.ext hX8
     refine q_not false rfl rfl zN ?_
     refine lw_nil ?_
     refine c_cond_f rfl ?_
     refine wp_skip ?_
     refine wp_seq ?_
     refine wp_plain _ [0] rfl ?_
     refine q_assign (.bool true) rfl zN ?_
     refine lw_nil ?_
     refine wp_ret ?_
     exact post_ret [4] rfl (.bool true) rfl ⟨(by first | exact ret_bool rfl | (exfalso; omega) | (exfalso; simp_all; done)),hE8⟩
set_option maxHeartbeats 4000000 in
set_option maxRecDepth 100000 in
theorem c_laws_eqExprS (w : World) (da : Nat) (va : Value) (a : List Ex) (db : Nat) (vb : Value) (b : List Ex) (ha : RN [] (rdS 5 (rEx da)) w.heap va a) (hb : RN [] (rdS 5 (rEx db)) w.heap vb b) (hab : b = a) :
  Calls Tryz.prog 125 #[va,vb] w (fun e w' => e = .returned (.bool true)∧Ext w w') := by
 induction da using Nat.strongRecOn generalizing w va a db vb b
 rename_i da ih
 refine calls_mk [va,vb] 27 Tryz.func125 rfl rfl (by simp) ?_
 have hE0 : Ext w w := Ext.refl w
 have hl_va := ha.lenle
 unfold maxLen at hl_va
 have hl_vb := hb.lenle
 unfold maxLen at hl_vb
 have hk1 : b.length = a.length := by rw [hab]
 refine wp_seq ?_
 refine wp_plain _ [0] rfl ?_
 refine q_assign (.bool false) rfl zN ?_
 refine lw_nil ?_
 refine wp_seq ?_
 refine wp_seq ?_
 refine wp_plain _ [0,0,0,0,0] rfl ?_
 refine q_move va rfl zN ?_
 refine q_len (v := va) u78 rfl ha.isSl zN ?_
 refine q_move vb rfl zN ?_
 refine q_len (v := vb) u78 rfl hb.isSl zN ?_
 by_cases hc1 : ((a.length :Nat):Int) ≠ ((b.length :Nat):Int)
 ·
  refine q_neq true rfl rfl (decide_eq_true hc1) zN ?_
  refine lw_nil ?_
  refine c_cond_t rfl ?_
  refine wp_seq ?_
  refine wp_plain _ [0] rfl ?_
  refine q_assign (.bool false) rfl zN ?_
  refine lw_nil ?_
  refine wp_ret ?_
  refine t_ret ?_
  exact post_ret [4] rfl (.bool false) rfl ⟨(by first | exact ret_bool rfl | (exfalso; omega) | (exfalso; simp_all; done)),hE0⟩
 ·
  refine q_neq false rfl rfl (decide_eq_false hc1) zN ?_
  refine lw_nil ?_
  refine c_cond_f rfl ?_
  refine wp_skip ?_
  refine wp_seq ?_
  refine wp_seq ?_
  refine wp_plain _ [0] rfl ?_
  refine q_assign (.int .i64 ((0 :Nat):Int)) rfl zN ?_
  refine lw_nil ?_
  refine wp_block ?_
  refine c_loop (S := Nat) (fun (k : Nat) => ([(5,(.int .i64 ((k :Nat):Int))),(0,va),(1,vb)] : List (Nat × Value))) (fun (k : Nat) (W : World) => Ext w W∧k≤a.length) (fun (k : Nat) => a.length - k) 0 ⟨rfl,rfl,rfl,trivial⟩ ⟨hE0,(by first | omega | assumption | (simp; done) | (simp; omega))⟩ ?_
  clear hE0
  rintro k ρ2 w2 ⟨hE2,hp2_0⟩
  have hzs2 : w.heap.size≤w2.heap.size := hE2.size
  refine wp_seq ?_
  refine wp_seq ?_
  refine wp_plain _ [0,0,0,0] rfl ?_
  refine q_move (.int .i64 ((k :Nat):Int)) rfl zN ?_
  refine q_move va rfl zN ?_
  refine q_len (v := va) u78 rfl ha.isSl zN ?_
  by_cases hc3 : ((k :Nat):Int) < ((a.length :Nat):Int)
  ·
   refine q_lss true rfl rfl (decide_eq_true hc3) zN ?_
   refine lw_nil ?_
   refine c_cond_t rfl ?_
   refine wp_skip ?_
   refine wp_seq ?_
   refine wp_block ?_
   refine wp_seq ?_
   refine wp_draw _ [0,0,0,1,0,0,0,1,3,0] mixed (by kernel_rfl) ?_
   refine q_move va rfl zN ?_
   refine q_move (.int .i64 ((k :Nat):Int)) rfl zN ?_
   refine q_idx (v := va) k u78 tiS94 rfl rfl ha.isSl rfl (by first | omega | assumption | (simp; done) | (simp; omega)) zN ?_
   obtain ⟨cs4,hr4,hl4⟩ := ha.get (good_rEx da) Ex.zero (k := k) (by first | omega | assumption | (simp; done) | (simp; omega))
   obtain ⟨dd4,ve4,hd4,rfl,hx4⟩ := RX.of hr4
   have hln4 := hx4.rn.lenle
   unfold maxLen at hln4
   refine q_loadA (p := eptr va k 5) (.inl rfl) [(.int .i64 ((a.getD k Ex.zero).kind)),(.int .i64 ((a.getD k Ex.zero).num)),(.int .i64 ((a.getD k Ex.zero).pick)),(.int .i64 ((a.getD k Ex.zero).count)),ve4] agg94 rfl (fun w9 hw9 => hl4 w9 (Chg.of_ext [] (hE2.drew.trans hw9))) rfl zN ?_
   refine q_move vb rfl zN ?_
   refine q_move (.int .i64 ((k :Nat):Int)) rfl zN ?_
   refine q_idx (v := vb) k u78 tiS94 rfl rfl hb.isSl rfl (by first | omega | assumption | (simp; done) | (simp; omega)) zN ?_
   obtain ⟨cs5,hr5,hl5⟩ := hb.get (good_rEx db) Ex.zero (k := k) (by first | omega | assumption | (simp; done) | (simp; omega))
   obtain ⟨dd5,ve5,hd5,rfl,hx5⟩ := RX.of hr5
   have hln5 := hx5.rn.lenle
   unfold maxLen at hln5
   refine q_loadA (p := eptr vb k 5) (.inl rfl) [(.int .i64 ((b.getD k Ex.zero).kind)),(.int .i64 ((b.getD k Ex.zero).num)),(.int .i64 ((b.getD k Ex.zero).pick)),(.int .i64 ((b.getD k Ex.zero).count)),ve5] agg94 rfl (fun w9 hw9 => hl5 w9 (Chg.of_ext [] (hE2.drew.trans hw9))) rfl zN ?_
   refine lw_call 146 [] [] [(.agg #[(.int .i64 ((a.getD k Ex.zero).kind)),(.int .i64 ((a.getD k Ex.zero).num)),(.int .i64 ((a.getD k Ex.zero).pick)),(.int .i64 ((a.getD k Ex.zero).count)),ve4]),(.agg #[(.int .i64 ((b.getD k Ex.zero).kind)),(.int .i64 ((b.getD k Ex.zero).num)),(.int .i64 ((b.getD k Ex.zero).pick)),(.int .i64 ((b.getD k Ex.zero).count)),ve5])] rfl rfl cf146 zN (c_laws_eqExpr _ dd4 ve4 (a.getD k Ex.zero) dd5 ve5 (b.getD k Ex.zero) (hx4.ext hE2.drew) (hx5.ext hE2.drew) (by rw [hab]) (by intro w9 d9 v9 a9 e9 u9 b9 h1 h2 h3 h4; exact ih d9 (by omega) w9 v9 a9 e9 u9 b9 h1 h2 h3)) ?_
   rintro e6 w6 ⟨rfl,hX6⟩
   refine ⟨_,rfl,hX6,?_⟩
   replace hX6 := hX6.of_drew
   have hzs6:=hX6.size
   have hE6:=hE2.trans hX6
   refine q_not false rfl rfl zN ?_
   refine lw_nil ?_
   refine c_cond_f rfl ?_
   refine wp_skip ?_
   refine wp_plain _ [0,0,0] rfl ?_
   refine q_move (.int .i64 ((k :Nat):Int)) rfl zN ?_
   refine q_add ((k + 1 :Nat):Int) rfl rfl (w64n (by omega) (by first | omega | assumption | (simp; done) | (simp; omega))) zN ?_
   refine q_assign (.int .i64 ((k + 1 :Nat):Int)) rfl zN ?_
   refine lw_nil ?_
   exact ⟨(k + 1),_,rfl,⟨rfl,rfl,rfl,trivial⟩,⟨hE6,(by first | omega | assumption | (simp; done) | (simp; omega))⟩,by first | omega | (dsimp only; omega)⟩
  ·
   refine q_lss false rfl rfl (decide_eq_false hc3) zN ?_
   refine lw_nil ?_
   refine c_cond_f rfl ?_
   refine wp_exit ?_
   refine t_exit ?_
   refine t_exit ?_
   refine c_exit_here ?_
   refine wp_seq ?_
   refine wp_plain _ [0] rfl ?_
   refine q_assign (.bool true) rfl zN ?_
   refine lw_nil ?_
   refine wp_ret ?_
   exact post_ret [4] rfl (.bool true) rfl ⟨(by first | exact ret_bool rfl | (exfalso; omega) | (exfalso; simp_all; done)),hE2⟩
theorem strE_self (s : ByteArray) : strE s s = true := by unfold strE; simp
set_option maxHeartbeats 4000000 in
set_option maxRecDepth 100000 in
theorem c_laws_eqFunc (w : World) (da : Nat) (va : Value) (a : Fn) (db : Nat) (vb : Value) (b : Fn) (ha : RF [] da w.heap va a) (hb : RF [] db w.heap vb b) (hab : b = a) :
  Calls Tryz.prog 88 #[(.agg #[(.string a.name),(.int .i64 a.params),va]),(.agg #[(.string b.name),(.int .i64 b.params),vb])] w (fun e w' => e = .returned (.bool true)∧Ext w w') := by
 refine calls_mk [(.agg #[(.string a.name),(.int .i64 a.params),va]),(.agg #[(.string b.name),(.int .i64 b.params),vb])] 21 Tryz.func88 rfl rfl (by simp) ?_
 have hE0 : Ext w w := Ext.refl w
 have hl_va := ha.rn.lenle
 unfold maxLen at hl_va
 have hl_vb := hb.rn.lenle
 unfold maxLen at hl_vb
 have hk1 : b.params = a.params := by rw [hab]
 have hk2 : strE a.name b.name = true := by rw [hab]; exact strE_self _
 refine wp_seq ?_
 refine wp_plain _ [3,3,0] rfl ?_
 refine r_boxA (cs := #[(.string a.name),(.int .i64 a.params),va]) rfl zN ?_
 intro w1 hX1 hz1 hB1
 have hzs1:=hX1.size
 have hE1:=hE0.trans hX1
 replace hB1 : BX w1.heap w.heap.size [(.string a.name),(.int .i64 a.params),va] := hB1
 have hq3 := hB1.lt
 refine r_boxA (cs := #[(.string b.name),(.int .i64 b.params),vb]) rfl zN ?_
 intro w2 hX2 hz2 hB2
 have hzs2:=hX2.size
 have hE2:=hE1.trans hX2
 have hB1x2 := hB1.ext hX2
 replace hB2 : BX w2.heap w1.heap.size [(.string b.name),(.int .i64 b.params),vb] := hB2
 refine q_assign (.bool false) rfl zN ?_
 refine lw_nil ?_
 refine wp_seq ?_
 refine wp_seq ?_
 refine wp_plain _ [0,2,0,2,0] rfl ?_
 refine q_fldP (p := (.pointer (some ⟨w.heap.size,0,none⟩))) (b := w.heap.size) (o := 0) 0 fd80_0 rfl rfl zN ?_
 refine q_load (p := (padd (.pointer (some ⟨w.heap.size,0,none⟩)) 0)) (.inr rfl) (.string a.name) one9 rfl (hB1x2.ldp (i := 0) (by simp)) zN ?_
 refine q_fldP (p := (.pointer (some ⟨w1.heap.size,0,none⟩))) (b := w1.heap.size) (o := 0) 0 fd80_0 rfl rfl zN ?_
 refine q_load (p := (padd (.pointer (some ⟨w1.heap.size,0,none⟩)) 0)) (.inr rfl) (.string b.name) one9 rfl (hB2.ldp (i := 0) (by simp)) zN ?_
 cases hc4 : (!strE a.name b.name)
 ·
  refine q_neqs false u9 rfl rfl hc4 zN ?_
  refine lw_nil ?_
  refine c_cond_f rfl ?_
  refine wp_skip ?_
  refine wp_seq ?_
  refine wp_seq ?_
  refine wp_plain _ [0,2,0,2,0] rfl ?_
  refine q_fldP (p := (.pointer (some ⟨w.heap.size,0,none⟩))) (b := w.heap.size) (o := 0) 1 fd80_1 rfl rfl zN ?_
  refine q_load (p := (padd (.pointer (some ⟨w.heap.size,0,none⟩)) 1)) (.inr rfl) (.int .i64 a.params) one2 rfl (hB1x2.ldp (i := 1) (by simp)) zN ?_
  refine q_fldP (p := (.pointer (some ⟨w1.heap.size,0,none⟩))) (b := w1.heap.size) (o := 0) 1 fd80_1 rfl rfl zN ?_
  refine q_load (p := (padd (.pointer (some ⟨w1.heap.size,0,none⟩)) 1)) (.inr rfl) (.int .i64 b.params) one2 rfl (hB2.ldp (i := 1) (by simp)) zN ?_
  by_cases hc5 : a.params ≠ b.params
  ·
   refine q_neq true rfl rfl (decide_eq_true hc5) zN ?_
   refine lw_nil ?_
   refine c_cond_t rfl ?_
   refine wp_seq ?_
   refine wp_plain _ [0] rfl ?_
   refine q_assign (.bool false) rfl zN ?_
   refine lw_nil ?_
   refine wp_ret ?_
   refine t_ret ?_
   exact post_ret [4] rfl (.bool false) rfl ⟨(by first | exact ret_bool rfl | (exfalso; omega) | (exfalso; simp_all; done)),hE2⟩
  ·
   refine q_neq false rfl rfl (decide_eq_false hc5) zN ?_
   refine lw_nil ?_
   refine c_cond_f rfl ?_
   refine wp_skip ?_
   refine wp_seq ?_
   refine wp_seq ?_
   refine wp_plain _ [0,2,0,2,3,0] rfl ?_
   refine q_fldP (p := (.pointer (some ⟨w.heap.size,0,none⟩))) (b := w.heap.size) (o := 0) 2 fd80_2 rfl rfl zN ?_
   refine q_load (p := (padd (.pointer (some ⟨w.heap.size,0,none⟩)) 2)) (.inr rfl) va one78 rfl (hB1x2.ldp (i := 2) (by simp)) zN ?_
   refine q_fldP (p := (.pointer (some ⟨w1.heap.size,0,none⟩))) (b := w1.heap.size) (o := 0) 2 fd80_2 rfl rfl zN ?_
   refine q_load (p := (padd (.pointer (some ⟨w1.heap.size,0,none⟩)) 2)) (.inr rfl) vb one78 rfl (hB2.ldp (i := 2) (by simp)) zN ?_
   refine lw_call 125 [] [] [va,vb] rfl rfl cf125 zN (c_laws_eqExprS _ da va (a.outs) db vb (b.outs) (ha.rn.ext (good_rdS (good_rEx da)) hE2) (hb.rn.ext (good_rdS (good_rEx db)) hE2) (by rw [hab])) ?_
   rintro e6 w6 ⟨rfl,hX6⟩
   refine ⟨_,rfl,hX6,?_⟩
   have hzs6:=hX6.size
   have hE6:=hE2.trans hX6
   have hB1x6 := hB1x2.ext hX6
   have hB2x6 := hB2.ext hX6
   refine q_not false rfl rfl zN ?_
   refine lw_nil ?_
   refine c_cond_f rfl ?_
   refine wp_skip ?_
   refine wp_seq ?_
   refine wp_plain _ [0] rfl ?_
   refine q_assign (.bool true) rfl zN ?_
   refine lw_nil ?_
   refine wp_ret ?_
   exact post_ret [4] rfl (.bool true) rfl ⟨(by first | exact ret_bool rfl | (exfalso; omega) | (exfalso; simp_all; done)),hE6⟩
 ·
  refine q_neqs true u9 rfl rfl hc4 zN ?_
  refine lw_nil ?_
  refine c_cond_t rfl ?_
  refine wp_seq ?_
  refine wp_plain _ [0] rfl ?_
  refine q_assign (.bool false) rfl zN ?_
  refine lw_nil ?_
  refine wp_ret ?_
  refine t_ret ?_
  exact post_ret [4] rfl (.bool false) rfl ⟨(by first | exact ret_bool rfl | (exfalso; omega) | (exfalso; simp_all; done)),hE2⟩
set_option maxHeartbeats 4000000 in
set_option maxRecDepth 100000 in
theorem c_laws_eqFuncS (w : World) (da : Nat) (va : Value) (a : List Fn) (db : Nat) (vb : Value) (b : List Fn) (ha : RP [] da w.heap va a) (hb : RP [] db w.heap vb b) (hab : b = a) :
  Calls Tryz.prog 48 #[va,vb] w (fun e w' => e = .returned (.bool true)∧Ext w w') := by
 refine calls_mk [va,vb] 27 Tryz.func48 rfl rfl (by simp) ?_
 have hE0 : Ext w w := Ext.refl w
 have hl_va := ha.lenle
 unfold maxLen at hl_va
 have hl_vb := hb.lenle
 unfold maxLen at hl_vb
 have hk1 : b.length = a.length := by rw [hab]
 refine wp_seq ?_
 refine wp_plain _ [0] rfl ?_
 refine q_assign (.bool false) rfl zN ?_
 refine lw_nil ?_
 refine wp_seq ?_
 refine wp_seq ?_
 refine wp_plain _ [0,0,0,0,0] rfl ?_
 refine q_move va rfl zN ?_
 refine q_len (v := va) u30 rfl ha.isSl zN ?_
 refine q_move vb rfl zN ?_
 refine q_len (v := vb) u30 rfl hb.isSl zN ?_
 by_cases hc1 : ((a.length :Nat):Int) ≠ ((b.length :Nat):Int)
 ·
  refine q_neq true rfl rfl (decide_eq_true hc1) zN ?_
  refine lw_nil ?_
  refine c_cond_t rfl ?_
  refine wp_seq ?_
  refine wp_plain _ [0] rfl ?_
  refine q_assign (.bool false) rfl zN ?_
  refine lw_nil ?_
  refine wp_ret ?_
  refine t_ret ?_
  exact post_ret [4] rfl (.bool false) rfl ⟨(by first | exact ret_bool rfl | (exfalso; omega) | (exfalso; simp_all; done)),hE0⟩
 ·
  refine q_neq false rfl rfl (decide_eq_false hc1) zN ?_
  refine lw_nil ?_
  refine c_cond_f rfl ?_
  refine wp_skip ?_
  refine wp_seq ?_
  refine wp_seq ?_
  refine wp_plain _ [0] rfl ?_
  refine q_assign (.int .i64 ((0 :Nat):Int)) rfl zN ?_
  refine lw_nil ?_
  refine wp_block ?_
  refine c_loop (S := Nat) (fun (k : Nat) => ([(5,(.int .i64 ((k :Nat):Int))),(0,va),(1,vb)] : List (Nat × Value))) (fun (k : Nat) (W : World) => Ext w W∧k≤a.length) (fun (k : Nat) => a.length - k) 0 ⟨rfl,rfl,rfl,trivial⟩ ⟨hE0,(by first | omega | assumption | (simp; done) | (simp; omega))⟩ ?_
  clear hE0
  rintro k ρ2 w2 ⟨hE2,hp2_0⟩
  have hzs2 : w.heap.size≤w2.heap.size := hE2.size
  refine wp_seq ?_
  refine wp_seq ?_
  refine wp_plain _ [0,0,0,0] rfl ?_
  refine q_move (.int .i64 ((k :Nat):Int)) rfl zN ?_
  refine q_move va rfl zN ?_
  refine q_len (v := va) u30 rfl ha.isSl zN ?_
  by_cases hc3 : ((k :Nat):Int) < ((a.length :Nat):Int)
  ·
   refine q_lss true rfl rfl (decide_eq_true hc3) zN ?_
   refine lw_nil ?_
   refine c_cond_t rfl ?_
   refine wp_skip ?_
   refine wp_seq ?_
   refine wp_block ?_
   refine wp_seq ?_
   refine wp_draw _ [0,0,0,1,0,0,0,1,3,0] mixed (by kernel_rfl) ?_
   refine q_move va rfl zN ?_
   refine q_move (.int .i64 ((k :Nat):Int)) rfl zN ?_
   refine q_idx (v := va) k u30 tiS80 rfl rfl ha.isSl rfl (by first | omega | assumption | (simp; done) | (simp; omega)) zN ?_
   obtain ⟨cs4,hr4,hl4⟩ := ha.get (good_rFn da) Fn.zero (k := k) (by first | omega | assumption | (simp; done) | (simp; omega))
   obtain ⟨ve4,rfl,hx4⟩ := RF.of hr4
   have hln4 := hx4.rn.lenle
   unfold maxLen at hln4
   refine q_loadA (p := eptr va k 3) (.inl rfl) [(.string ((a.getD k Fn.zero).name)),(.int .i64 ((a.getD k Fn.zero).params)),ve4] agg80 rfl (fun w9 hw9 => hl4 w9 (Chg.of_ext [] (hE2.drew.trans hw9))) rfl zN ?_
   refine q_move vb rfl zN ?_
   refine q_move (.int .i64 ((k :Nat):Int)) rfl zN ?_
   refine q_idx (v := vb) k u30 tiS80 rfl rfl hb.isSl rfl (by first | omega | assumption | (simp; done) | (simp; omega)) zN ?_
   obtain ⟨cs5,hr5,hl5⟩ := hb.get (good_rFn db) Fn.zero (k := k) (by first | omega | assumption | (simp; done) | (simp; omega))
   obtain ⟨ve5,rfl,hx5⟩ := RF.of hr5
   have hln5 := hx5.rn.lenle
   unfold maxLen at hln5
   refine q_loadA (p := eptr vb k 3) (.inl rfl) [(.string ((b.getD k Fn.zero).name)),(.int .i64 ((b.getD k Fn.zero).params)),ve5] agg80 rfl (fun w9 hw9 => hl5 w9 (Chg.of_ext [] (hE2.drew.trans hw9))) rfl zN ?_
   refine lw_call 88 [] [] [(.agg #[(.string ((a.getD k Fn.zero).name)),(.int .i64 ((a.getD k Fn.zero).params)),ve4]),(.agg #[(.string ((b.getD k Fn.zero).name)),(.int .i64 ((b.getD k Fn.zero).params)),ve5])] rfl rfl cf88 zN (c_laws_eqFunc _ da ve4 (a.getD k Fn.zero) db ve5 (b.getD k Fn.zero) ⟨hx4.rng,(hx4.rn.ext (good_rdS (good_rEx da)) hE2.drew)⟩ ⟨hx5.rng,(hx5.rn.ext (good_rdS (good_rEx db)) hE2.drew)⟩ (by rw [hab])) ?_
   rintro e6 w6 ⟨rfl,hX6⟩
   refine ⟨_,rfl,hX6,?_⟩
   replace hX6 := hX6.of_drew
   have hzs6:=hX6.size
   have hE6:=hE2.trans hX6
   refine q_not false rfl rfl zN ?_
   refine lw_nil ?_
   refine c_cond_f rfl ?_
   refine wp_skip ?_
   refine wp_plain _ [0,0,0] rfl ?_
   refine q_move (.int .i64 ((k :Nat):Int)) rfl zN ?_
   refine q_add ((k + 1 :Nat):Int) rfl rfl (w64n (by omega) (by first | omega | assumption | (simp; done) | (simp; omega))) zN ?_
   refine q_assign (.int .i64 ((k + 1 :Nat):Int)) rfl zN ?_
   refine lw_nil ?_
   exact ⟨(k + 1),_,rfl,⟨rfl,rfl,rfl,trivial⟩,⟨hE6,(by first | omega | assumption | (simp; done) | (simp; omega))⟩,by first | omega | (dsimp only; omega)⟩
  ·
   refine q_lss false rfl rfl (decide_eq_false hc3) zN ?_
   refine lw_nil ?_
   refine c_cond_f rfl ?_
   refine wp_exit ?_
   refine t_exit ?_
   refine t_exit ?_
   refine c_exit_here ?_
   refine wp_seq ?_
   refine wp_plain _ [0] rfl ?_
   refine q_assign (.bool true) rfl zN ?_
   refine lw_nil ?_
   refine wp_ret ?_
   exact post_ret [4] rfl (.bool true) rfl ⟨(by first | exact ret_bool rfl | (exfalso; omega) | (exfalso; simp_all; done)),hE2⟩
set_option maxHeartbeats 4000000 in
set_option maxRecDepth 100000 in
theorem c_laws_eqProgram (w : World) (da : Nat) (va : Value) (a : List Fn) (db : Nat) (vb : Value) (b : List Fn) (ha : RP [] da w.heap va a) (hb : RP [] db w.heap vb b) (hab : b = a) :
  Calls Tryz.prog 15 #[(.agg #[va]),(.agg #[vb])] w (fun e w' => e = .returned (.bool true)∧Ext w w') := by
 refine calls_mk [(.agg #[va]),(.agg #[vb])] 11 Tryz.func15 rfl rfl (by simp) ?_
 have hE0 : Ext w w := Ext.refl w
 have hl_va := ha.lenle
 unfold maxLen at hl_va
 have hl_vb := hb.lenle
 unfold maxLen at hl_vb
 refine wp_seq ?_
 refine wp_plain _ [3,3,0] rfl ?_
 refine r_boxA (cs := #[va]) rfl zN ?_
 intro w1 hX1 hz1 hB1
 have hzs1:=hX1.size
 have hE1:=hE0.trans hX1
 replace hB1 : BX w1.heap w.heap.size [va] := hB1
 have hq3 := hB1.lt
 refine r_boxA (cs := #[vb]) rfl zN ?_
 intro w2 hX2 hz2 hB2
 have hzs2:=hX2.size
 have hE2:=hE1.trans hX2
 have hB1x2 := hB1.ext hX2
 replace hB2 : BX w2.heap w1.heap.size [vb] := hB2
 refine q_assign (.bool false) rfl zN ?_
 refine lw_nil ?_
 refine wp_seq ?_
 refine wp_seq ?_
 refine wp_plain _ [0,2,0,2,3,0] rfl ?_
 refine q_fldP (p := (.pointer (some ⟨w.heap.size,0,none⟩))) (b := w.heap.size) (o := 0) 0 fd32_0 rfl rfl zN ?_
 refine q_load (p := (padd (.pointer (some ⟨w.heap.size,0,none⟩)) 0)) (.inr rfl) va one30 rfl (hB1x2.ldp (i := 0) (by simp)) zN ?_
 refine q_fldP (p := (.pointer (some ⟨w1.heap.size,0,none⟩))) (b := w1.heap.size) (o := 0) 0 fd32_0 rfl rfl zN ?_
 refine q_load (p := (padd (.pointer (some ⟨w1.heap.size,0,none⟩)) 0)) (.inr rfl) vb one30 rfl (hB2.ldp (i := 0) (by simp)) zN ?_
 refine lw_call 48 [] [] [va,vb] rfl rfl cf48 zN (c_laws_eqFuncS _ da va (a) db vb (b) (ha.ext (good_rdS (good_rFn da)) hE2) (hb.ext (good_rdS (good_rFn db)) hE2) (by exact hab)) ?_
 rintro e4 w4 ⟨rfl,hX4⟩
 refine ⟨_,rfl,hX4,?_⟩
 have hzs4:=hX4.size
 have hE4:=hE2.trans hX4
 have hB1x4 := hB1x2.ext hX4
 have hB2x4 := hB2.ext hX4
 refine q_not false rfl rfl zN ?_
 refine lw_nil ?_
 refine c_cond_f rfl ?_
 refine wp_skip ?_
 refine wp_seq ?_
 refine wp_plain _ [0] rfl ?_
 refine q_assign (.bool true) rfl zN ?_
 refine lw_nil ?_
 refine wp_ret ?_
 exact post_ret [4] rfl (.bool true) rfl ⟨(by first | exact ret_bool rfl | (exfalso; omega) | (exfalso; simp_all; done)),hE4⟩
end Go.Proofs.YtnofbmdpabcjaaaGreat
namespace Go.Proofs.YtnofbmdpabcjaaaGreat
open Go Go.RowKit
set_option linter.unusedVariables false
set_option linter.unusedSimpArgs false
attribute [local irreducible] LW
def TS (D : Nat) : Prop := ∀ (w : World) (d : Nat) (va : Value) (a : List Ex) (ha : RN [] (rdS 5 (rEx d)) w.heap va a) (hs : Ex.sizes a ≤ 1000000000) (hd : d ≤ D), Calls Tryz.prog 115 #[va] w (fun e w' => ∃ v, e = .returned v ∧ Ext w w' ∧ Fr (owS 5 (oEx 94 d) 94) w.heap.size w'.heap.size w'.heap v a)
set_option maxHeartbeats 4000000 in
set_option maxRecDepth 100000 in
theorem c_laws_toExpr (w : World) (dex : Nat) (ve : Value) (ex : Ex) (hex : RX [] dex w.heap ve ex) (hs : Ex.sizes ex.kids≤1000000000) (IH : TS dex) :
  Calls Tryz.prog 140 #[(.agg #[(.int .i64 ex.kind),(.int .i64 ex.num),(.int .i64 ex.pick),(.int .i64 ex.count),ve])] w (fun e w' => ∃ v,e = .returned (.agg #[.int .i64 ex.kind,.int .i64 ex.num,.int .i64 ex.pick,.int .i64 ex.count,v])∧Ext w w'∧Fr (owS 5 (oEx 94 dex) 94) w.heap.size w'.heap.size w'.heap v ex.kids) := by
 refine calls_mk [(.agg #[(.int .i64 ex.kind),(.int .i64 ex.num),(.int .i64 ex.pick),(.int .i64 ex.count),ve])] 21 Tryz.func140 rfl rfl (by simp) ?_
 have hE0 : Ext w w := Ext.refl w
 have hl_ve := hex.rn.lenle
 unfold maxLen at hl_ve
 refine wp_seq ?_
 refine wp_plain _ [3,3] rfl ?_
 refine r_boxA (cs := #[(.int .i64 ex.kind),(.int .i64 ex.num),(.int .i64 ex.pick),(.int .i64 ex.count),ve]) rfl zN ?_
 intro w1 hX1 hz1 hB1
 have hzs1:=hX1.size
 have hE1:=hE0.trans hX1
 replace hB1 : BX w1.heap w.heap.size [(.int .i64 ex.kind),(.int .i64 ex.num),(.int .i64 ex.pick),(.int .i64 ex.count),ve] := hB1
 have hq3 := hB1.lt
 refine r_allocA (z := .agg #[.int .i64 0,.int .i64 0,.int .i64 0,.int .i64 0,.slice none 0 0]) zr94 zN ?_
 intro w2 hX2 hz2 hB2
 have hzs2:=hX2.size
 have hE2:=hE1.trans hX2
 have hB1x2 := hB1.ext hX2
 replace hB2 : BX w2.heap w1.heap.size [(.int .i64 0),(.int .i64 0),(.int .i64 0),(.int .i64 0),(.slice none 0 0)] := hB2
 refine lw_nil ?_
 refine wp_seq ?_
 refine wp_plain _ [3] rfl ?_
 have hq5 := hB1x2.lt
 have hq6 := hB2.lt
 refine r_allocA (z := .agg #[.int .i64 0,.int .i64 0,.int .i64 0,.int .i64 0,.slice none 0 0]) zr94 zN ?_
 intro w4 hX4 hz4 hB4
 have hzs4:=hX4.size
 have hE4:=hE2.trans hX4
 have hB1x4 := hB1x2.ext hX4
 have hB2x4 := hB2.ext hX4
 replace hB4 : BX w4.heap w2.heap.size [(.int .i64 0),(.int .i64 0),(.int .i64 0),(.int .i64 0),(.slice none 0 0)] := hB4
 refine lw_nil ?_
 refine wp_seq ?_
 refine wp_plain _ [0,2,0,4] rfl ?_
 refine q_fldP (p := (.pointer (some ⟨w.heap.size,0,none⟩))) (b := w.heap.size) (o := 0) 0 fd160_0 rfl rfl zN ?_
 refine q_load (p := (padd (.pointer (some ⟨w.heap.size,0,none⟩)) 0)) (.inr rfl) (.int .i64 ex.kind) one2 rfl (hB1x4.ldp (i := 0) (by simp)) zN ?_
 refine q_fldP (p := (.pointer (some ⟨w2.heap.size,0,none⟩))) (b := w2.heap.size) (o := 0) 0 fd94_0 rfl rfl zN ?_
 refine e_setB (k := 0) (w := w4) sz2 rfl rfl ⟨rfl,rfl⟩ hB4 (by simp) zN ?_
 intro w7 hC7 hz7 hB7
 replace hB7 : BX w7.heap w2.heap.size [(.int .i64 ex.kind),(.int .i64 0),(.int .i64 0),(.int .i64 0),(.slice none 0 0)] := hB7
 have hE7 : Ext w w7 := hC7.below hE4 (fun c hc => by have := List.mem_singleton.1 hc; omega) hE4.size
 have hzs7:=hC7.size
 have hF8 := hB1x4.chg hC7 (fun hm => by have := List.mem_singleton.1 hm; omega)
 have hF9 := hB2x4.chg hC7 (fun hm => by have := List.mem_singleton.1 hm; omega)
 refine lw_nil ?_
 refine wp_seq ?_
 refine wp_plain _ [0,2,0,4] rfl ?_
 refine q_fldP (p := (.pointer (some ⟨w.heap.size,0,none⟩))) (b := w.heap.size) (o := 0) 1 fd160_1 rfl rfl zN ?_
 refine q_load (p := (padd (.pointer (some ⟨w.heap.size,0,none⟩)) 1)) (.inr rfl) (.int .i64 ex.num) one2 rfl (hF8.ldp (i := 1) (by simp)) zN ?_
 refine q_fldP (p := (.pointer (some ⟨w2.heap.size,0,none⟩))) (b := w2.heap.size) (o := 0) 1 fd94_1 rfl rfl zN ?_
 refine e_setB (k := 1) (w := w7) sz2 rfl rfl ⟨rfl,rfl⟩ hB7 (by simp) zN ?_
 intro w10 hC10 hz10 hB10
 replace hB10 : BX w10.heap w2.heap.size [(.int .i64 ex.kind),(.int .i64 ex.num),(.int .i64 0),(.int .i64 0),(.slice none 0 0)] := hB10
 have hE10 : Ext w w10 := hC10.below hE7 (fun c hc => by have := List.mem_singleton.1 hc; omega) hE7.size
 have hzs10:=hC10.size
 have hF11 := hF8.chg hC10 (fun hm => by have := List.mem_singleton.1 hm; omega)
 have hF12 := hF9.chg hC10 (fun hm => by have := List.mem_singleton.1 hm; omega)
 refine lw_nil ?_
 refine wp_seq ?_
 refine wp_plain _ [0,2,0,4] rfl ?_
 refine q_fldP (p := (.pointer (some ⟨w.heap.size,0,none⟩))) (b := w.heap.size) (o := 0) 2 fd160_2 rfl rfl zN ?_
 refine q_load (p := (padd (.pointer (some ⟨w.heap.size,0,none⟩)) 2)) (.inr rfl) (.int .i64 ex.pick) one2 rfl (hF11.ldp (i := 2) (by simp)) zN ?_
 refine q_fldP (p := (.pointer (some ⟨w2.heap.size,0,none⟩))) (b := w2.heap.size) (o := 0) 2 fd94_2 rfl rfl zN ?_
 refine e_setB (k := 2) (w := w10) sz2 rfl rfl ⟨rfl,rfl⟩ hB10 (by simp) zN ?_
 intro w13 hC13 hz13 hB13
 replace hB13 : BX w13.heap w2.heap.size [(.int .i64 ex.kind),(.int .i64 ex.num),(.int .i64 ex.pick),(.int .i64 0),(.slice none 0 0)] := hB13
 have hE13 : Ext w w13 := hC13.below hE10 (fun c hc => by have := List.mem_singleton.1 hc; omega) hE10.size
 have hzs13:=hC13.size
 have hF14 := hF11.chg hC13 (fun hm => by have := List.mem_singleton.1 hm; omega)
 have hF15 := hF12.chg hC13 (fun hm => by have := List.mem_singleton.1 hm; omega)
 refine lw_nil ?_
 refine wp_seq ?_
 refine wp_plain _ [0,2,0,4] rfl ?_
 refine q_fldP (p := (.pointer (some ⟨w.heap.size,0,none⟩))) (b := w.heap.size) (o := 0) 3 fd160_3 rfl rfl zN ?_
 refine q_load (p := (padd (.pointer (some ⟨w.heap.size,0,none⟩)) 3)) (.inr rfl) (.int .i64 ex.count) one2 rfl (hF14.ldp (i := 3) (by simp)) zN ?_
 refine q_fldP (p := (.pointer (some ⟨w2.heap.size,0,none⟩))) (b := w2.heap.size) (o := 0) 3 fd94_3 rfl rfl zN ?_
 refine e_setB (k := 3) (w := w13) sz2 rfl rfl ⟨rfl,rfl⟩ hB13 (by simp) zN ?_
 intro w16 hC16 hz16 hB16
 replace hB16 : BX w16.heap w2.heap.size [(.int .i64 ex.kind),(.int .i64 ex.num),(.int .i64 ex.pick),(.int .i64 ex.count),(.slice none 0 0)] := hB16
 have hE16 : Ext w w16 := hC16.below hE13 (fun c hc => by have := List.mem_singleton.1 hc; omega) hE13.size
 have hzs16:=hC16.size
 have hF17 := hF14.chg hC16 (fun hm => by have := List.mem_singleton.1 hm; omega)
 have hF18 := hF15.chg hC16 (fun hm => by have := List.mem_singleton.1 hm; omega)
 refine lw_nil ?_
 refine wp_seq ?_
 refine wp_plain _ [0,2,3,0,4] rfl ?_
 refine q_fldP (p := (.pointer (some ⟨w.heap.size,0,none⟩))) (b := w.heap.size) (o := 0) 4 fd160_4 rfl rfl zN ?_
 refine q_load (p := (padd (.pointer (some ⟨w.heap.size,0,none⟩)) 4)) (.inr rfl) ve one98 rfl (hF17.ldp (i := 4) (by simp)) zN ?_
 refine lw_call 115 [] [] [ve] rfl rfl cf115 zN (IH _ dex ve (ex.kids) (hex.rn.ext (good_rdS (good_rEx dex)) hE16) (by exact hs) (by omega)) ?_
 rintro e19 w19 ⟨v19,rfl,hX19,hO19⟩
 refine ⟨_,rfl,hX19,?_⟩
 have hzs19:=hX19.size
 have hE19:=hE16.trans hX19
 have hF17x19 := hF17.ext hX19
 have hF18x19 := hF18.ext hX19
 have hB16x19 := hB16.ext hX19
 refine q_fldP (p := (.pointer (some ⟨w2.heap.size,0,none⟩))) (b := w2.heap.size) (o := 0) 4 fd94_4 rfl rfl zN ?_
 refine e_setB (k := 4) (w := w19) sz78 rfl rfl (isSl_one hO19.isSlS) hB16x19 (by simp) zN ?_
 intro w20 hC20 hz20 hB20
 replace hB20 : BX w20.heap w2.heap.size [(.int .i64 ex.kind),(.int .i64 ex.num),(.int .i64 ex.pick),(.int .i64 ex.count),v19] := hB20
 have hE20 : Ext w w20 := hC20.below hE19 (fun c hc => by have := List.mem_singleton.1 hc; omega) hE19.size
 have hzs20:=hC20.size
 have hF21 := hF17x19.chg hC20 (fun hm => by have := List.mem_singleton.1 hm; omega)
 have hF22 := hF18x19.chg hC20 (fun hm => by have := List.mem_singleton.1 hm; omega)
 have hF23 := hO19.chg ((good_owS (good_oEx 94 dex))) hC20 (fun c hc => by have := List.mem_singleton.1 hc; omega)
 refine lw_nil ?_
 refine wp_seq ?_
 refine wp_plain _ [2,4] rfl ?_
 refine q_loadA (p := (.pointer (some ⟨w2.heap.size,0,none⟩))) (.inr rfl) [(.int .i64 ex.kind),(.int .i64 ex.num),(.int .i64 ex.pick),(.int .i64 ex.count),v19] agg94 rfl (fun w9 hw9 => LD.of_box (BX.ext (w := w20) hB20 hw9)) rfl zN ?_
 refine e_setA (vs := [(.int .i64 ex.kind),(.int .i64 ex.num),(.int .i64 ex.pick),(.int .i64 ex.count),v19]) agg94 rfl rfl (by intro u hu; simp only [List.mem_cons,List.not_mem_nil,or_false] at hu; rcases hu with rfl | rfl | rfl | rfl | rfl <;> first | exact ⟨rfl,rfl⟩ | exact isSl_one hF23.isSlS) hF22 rfl rfl zN ?_
 intro w24 hC24 hz24 hB24
 replace hB24 : BX w24.heap w1.heap.size [(.int .i64 ex.kind),(.int .i64 ex.num),(.int .i64 ex.pick),(.int .i64 ex.count),v19] := hB24
 have hE24 : Ext w w24 := hC24.below hE20 (fun c hc => by have := List.mem_singleton.1 hc; omega) hE20.size
 have hzs24:=hC24.size
 have hF25 := hF21.chg hC24 (fun hm => by have := List.mem_singleton.1 hm; omega)
 have hF26 := hB20.chg hC24 (fun hm => by have := List.mem_singleton.1 hm; omega)
 have hF27 := hF23.chg ((good_owS (good_oEx 94 dex))) hC24 (fun c hc => by have := List.mem_singleton.1 hc; omega)
 refine lw_nil ?_
 refine wp_ret ?_
 exact post_retA (cs := [(.int .i64 ex.kind),(.int .i64 ex.num),(.int .i64 ex.pick),(.int .i64 ex.count),v19]) rfl agg94 rfl hB24 rfl ⟨v19,rfl,hE24,((hF27.up (good_owS (good_oEx 94 dex))).low (B' := w.heap.size) (by omega))⟩
set_option maxHeartbeats 4000000 in
set_option maxRecDepth 100000 in
theorem c_laws_toExprS (w : World) (da : Nat) (va : Value) (a : List Ex) (ha : RN [] (rdS 5 (rEx da)) w.heap va a) (hs : Ex.sizes a≤1000000000) :
  Calls Tryz.prog 115 #[va] w (fun e w' => ∃ v,e = .returned v∧Ext w w'∧Fr (owS 5 (oEx 94 da) 94) w.heap.size w'.heap.size w'.heap v a) := by
 induction da using Nat.strongRecOn generalizing w va a
 rename_i da ih
 refine calls_mk [va] 23 Tryz.func115 rfl rfl (by simp) ?_
 have hE0 : Ext w w := Ext.refl w
 have hl_va := ha.lenle
 unfold maxLen at hl_va
 have hge0 := sizes_ge a 0
 refine wp_seq ?_
 refine wp_plain _ [0] rfl ?_
 refine q_assign (.slice none 0 0) rfl zN ?_
 refine lw_nil ?_
 refine wp_seq ?_
 refine wp_plain _ [0,0,3,0] rfl ?_
 refine q_move va rfl zN ?_
 refine q_len (v := va) u98 rfl ha.isSl zN ?_
 refine r_makeS (n := a.length) (zs := exC Ex.zero (.slice none 0 0)) (z0 := Ex.zero) (good_oEx 94 da) u78 tiS94 rfl rfl rfl rfl rfl (by decide) (by omega) (fun h0 H => oEx_zero (RN.exPos ha h0) H) zN ?_
 intro v1 w1 hX1 hz1 hO1
 have hzs1:=hX1.size
 have hE1:=hE0.trans hX1
 refine q_assign v1 rfl zN ?_
 refine lw_nil ?_
 refine wp_seq ?_
 refine wp_seq ?_
 refine wp_plain _ [0] rfl ?_
 refine q_assign (.int .i64 ((0 :Nat):Int)) rfl zN ?_
 refine lw_nil ?_
 refine wp_block ?_
 refine c_loop (S := Nat) (fun (k : Nat) => ([(4,(.int .i64 ((k :Nat):Int))),(0,va),(3,v1)] : List (Nat × Value))) (fun (k : Nat) (W : World) => Ext w W∧Fr (owS 5 (oEx 94 da) 94) w.heap.size W.heap.size W.heap v1 (a.take k ++ List.replicate (a.length - k) Ex.zero)∧k≤a.length) (fun (k : Nat) => a.length - k) 0 ⟨rfl,rfl,rfl,trivial⟩ ⟨hE1,(by simpa using hO1.up (good_owS (good_oEx 94 da))),(by first | omega | assumption | (simp; done) | (simp; omega))⟩ ?_
 clear hE0 hO1 hz1 hX1 hzs1 hE1
 rintro k ρ2 w2 ⟨hE2,hL2_0,hp2_0⟩
 have hzs2 : w.heap.size≤w2.heap.size := hE2.size
 have hml : (a.take k ++ List.replicate (a.length - k) Ex.zero).length = a.length := by rw [List.length_append,List.length_take,List.length_replicate]; omega
 refine wp_seq ?_
 refine wp_seq ?_
 refine wp_plain _ [0,0,0,0] rfl ?_
 refine q_move (.int .i64 ((k :Nat):Int)) rfl zN ?_
 refine q_move va rfl zN ?_
 refine q_len (v := va) u98 rfl ha.isSl zN ?_
 by_cases hc3 : ((k :Nat):Int) < ((a.length :Nat):Int)
 ·
  refine q_lss true rfl rfl (decide_eq_true hc3) zN ?_
  refine lw_nil ?_
  refine c_cond_t rfl ?_
  refine wp_skip ?_
  refine wp_seq ?_
  refine wp_block ?_
  refine wp_plain _ [0,0,0,0,0,2,3,0,4] rfl ?_
  have hsa := sizes_at (l := a) (k := k) (by omega)
  have hsk := size_kids (a.getD k Ex.zero)
  refine q_move v1 rfl zN ?_
  refine q_move (.int .i64 ((k :Nat):Int)) rfl zN ?_
  refine q_move va rfl zN ?_
  refine q_move (.int .i64 ((k :Nat):Int)) rfl zN ?_
  refine q_idx (v := va) k u98 tiS160 rfl rfl ha.isSl rfl (by first | omega | assumption | (simp; done) | (simp; omega)) zN ?_
  obtain ⟨cs4,hr4,hl4⟩ := ha.get (good_rEx da) Ex.zero (k := k) (by first | omega | assumption | (simp; done) | (simp; omega))
  obtain ⟨dd4,ve4,hd4,rfl,hx4⟩ := RX.of hr4
  have hln4 := hx4.rn.lenle
  unfold maxLen at hln4
  refine q_loadA (p := eptr va k 5) (.inr rfl) [(.int .i64 ((a.getD k Ex.zero).kind)),(.int .i64 ((a.getD k Ex.zero).num)),(.int .i64 ((a.getD k Ex.zero).pick)),(.int .i64 ((a.getD k Ex.zero).count)),ve4] agg160 rfl (fun w9 hw9 => hl4 w9 (Chg.of_ext [] (hE2.trans hw9))) rfl zN ?_
  refine lw_call 140 [] [] [(.agg #[(.int .i64 ((a.getD k Ex.zero).kind)),(.int .i64 ((a.getD k Ex.zero).num)),(.int .i64 ((a.getD k Ex.zero).pick)),(.int .i64 ((a.getD k Ex.zero).count)),ve4])] rfl rfl cf140 zN (c_laws_toExpr _ dd4 ve4 (a.getD k Ex.zero) (hx4.ext hE2) (by omega) (by intro w9 d9 v9 a9 h1 h2 h3; exact ih d9 (by omega) w9 v9 a9 h1 h2)) ?_
  rintro e5 w5 ⟨v5,rfl,hX5,hO5⟩
  refine ⟨_,rfl,hX5,?_⟩
  have hzs5:=hX5.size
  have hE5:=hE2.trans hX5
  have hL2_0x5 := hL2_0.ext ((good_owS (good_oEx 94 da))) hX5
  refine q_idx (v := v1) k u78 tiS94 rfl rfl hL2_0x5.isSlS rfl (by first | omega | assumption | (simp; done) | (simp; omega)) zN ?_
  refine e_setS (v := v1) (cs := [(.int .i64 ((a.getD k Ex.zero).kind)),(.int .i64 ((a.getD k Ex.zero).num)),(.int .i64 ((a.getD k Ex.zero).pick)),(.int .i64 ((a.getD k Ex.zero).count)),v5]) (n := (a.getD k Ex.zero)) (j := k) (good_oEx 94 da) agg94 rfl rfl hL2_0x5 (oEx_mk (d' := dd4) hd4 hx4.rng hO5) (by omega) (by omega) (by first | omega | assumption | (simp; done) | (simp; omega)) zN ?_
  intro w6 F6 hC6 hz6 hF6 hO6
  have hE6 : Ext w w6 := hC6.below hE5 (fun c hc => Nat.le_trans (Nat.le_refl _) (hF6 c hc).1) hE5.size
  have hzs6:=hC6.size
  refine lw_nil ?_
  refine wp_plain _ [0,0,0] rfl ?_
  refine q_move (.int .i64 ((k :Nat):Int)) rfl zN ?_
  refine q_add ((k + 1 :Nat):Int) rfl rfl (w64n (by omega) (by first | omega | assumption | (simp; done) | (simp; omega))) zN ?_
  refine q_assign (.int .i64 ((k + 1 :Nat):Int)) rfl zN ?_
  refine lw_nil ?_
  exact ⟨(k + 1),_,rfl,⟨rfl,rfl,rfl,trivial⟩,⟨hE6,(by have h := hO6.up (good_owS (good_oEx 94 da)); rwa [set_zero (by omega)] at h),(by first | omega | assumption | (simp; done) | (simp; omega))⟩,by first | omega | (dsimp only; omega)⟩
 ·
  refine q_lss false rfl rfl (decide_eq_false hc3) zN ?_
  refine lw_nil ?_
  refine c_cond_f rfl ?_
  refine wp_exit ?_
  refine t_exit ?_
  refine t_exit ?_
  refine c_exit_here ?_
  refine wp_seq ?_
  refine wp_plain _ [0,0] rfl ?_
  refine q_move v1 rfl zN ?_
  refine q_assign v1 rfl zN ?_
  refine lw_nil ?_
  refine wp_ret ?_
  exact post_ret [2] rfl v1 rfl ⟨v1,rfl,hE2,(by have h := ((hL2_0.up (good_owS (good_oEx 94 da))).low (B' := w.heap.size) (by omega)); rwa [show a.take k ++ List.replicate (a.length - k) Ex.zero = a from by rw [List.take_of_length_le (by omega),show a.length - k = 0 from by omega]; simp] at h)⟩
set_option maxHeartbeats 4000000 in
set_option maxRecDepth 100000 in
theorem c_laws_toFunc (w : World) (dg : Nat) (vf : Value) (g : Fn) (hg : RF [] dg w.heap vf g) (hs : Ex.sizes g.outs≤1000000000) :
  Calls Tryz.prog 82 #[(.agg #[(.string g.name),(.int .i64 g.params),vf])] w (fun e w' => ∃ v,e = .returned (.agg #[.string g.name,.int .i64 g.params,v])∧Ext w w'∧Fr (owS 5 (oEx 94 dg) 94) w.heap.size w'.heap.size w'.heap v g.outs) := by
 refine calls_mk [(.agg #[(.string g.name),(.int .i64 g.params),vf])] 15 Tryz.func82 rfl rfl (by simp) ?_
 have hE0 : Ext w w := Ext.refl w
 have hl_vf := hg.rn.lenle
 unfold maxLen at hl_vf
 refine wp_seq ?_
 refine wp_plain _ [3,3] rfl ?_
 refine r_boxA (cs := #[(.string g.name),(.int .i64 g.params),vf]) rfl zN ?_
 intro w1 hX1 hz1 hB1
 have hzs1:=hX1.size
 have hE1:=hE0.trans hX1
 replace hB1 : BX w1.heap w.heap.size [(.string g.name),(.int .i64 g.params),vf] := hB1
 have hq3 := hB1.lt
 refine r_allocA (z := .agg #[.string ByteArray.empty,.int .i64 0,.slice none 0 0]) zr80 zN ?_
 intro w2 hX2 hz2 hB2
 have hzs2:=hX2.size
 have hE2:=hE1.trans hX2
 have hB1x2 := hB1.ext hX2
 replace hB2 : BX w2.heap w1.heap.size [(.string ByteArray.empty),(.int .i64 0),(.slice none 0 0)] := hB2
 refine lw_nil ?_
 refine wp_seq ?_
 refine wp_plain _ [3] rfl ?_
 have hq5 := hB1x2.lt
 have hq6 := hB2.lt
 refine r_allocA (z := .agg #[.string ByteArray.empty,.int .i64 0,.slice none 0 0]) zr80 zN ?_
 intro w4 hX4 hz4 hB4
 have hzs4:=hX4.size
 have hE4:=hE2.trans hX4
 have hB1x4 := hB1x2.ext hX4
 have hB2x4 := hB2.ext hX4
 replace hB4 : BX w4.heap w2.heap.size [(.string ByteArray.empty),(.int .i64 0),(.slice none 0 0)] := hB4
 refine lw_nil ?_
 refine wp_seq ?_
 refine wp_plain _ [0,2,0,4] rfl ?_
 refine q_fldP (p := (.pointer (some ⟨w.heap.size,0,none⟩))) (b := w.heap.size) (o := 0) 0 fd100_0 rfl rfl zN ?_
 refine q_load (p := (padd (.pointer (some ⟨w.heap.size,0,none⟩)) 0)) (.inr rfl) (.string g.name) one9 rfl (hB1x4.ldp (i := 0) (by simp)) zN ?_
 refine q_fldP (p := (.pointer (some ⟨w2.heap.size,0,none⟩))) (b := w2.heap.size) (o := 0) 0 fd80_0 rfl rfl zN ?_
 refine e_setB (k := 0) (w := w4) sz9 rfl rfl ⟨rfl,rfl⟩ hB4 (by simp) zN ?_
 intro w7 hC7 hz7 hB7
 replace hB7 : BX w7.heap w2.heap.size [(.string g.name),(.int .i64 0),(.slice none 0 0)] := hB7
 have hE7 : Ext w w7 := hC7.below hE4 (fun c hc => by have := List.mem_singleton.1 hc; omega) hE4.size
 have hzs7:=hC7.size
 have hF8 := hB1x4.chg hC7 (fun hm => by have := List.mem_singleton.1 hm; omega)
 have hF9 := hB2x4.chg hC7 (fun hm => by have := List.mem_singleton.1 hm; omega)
 refine lw_nil ?_
 refine wp_seq ?_
 refine wp_plain _ [0,2,0,4] rfl ?_
 refine q_fldP (p := (.pointer (some ⟨w.heap.size,0,none⟩))) (b := w.heap.size) (o := 0) 1 fd100_1 rfl rfl zN ?_
 refine q_load (p := (padd (.pointer (some ⟨w.heap.size,0,none⟩)) 1)) (.inr rfl) (.int .i64 g.params) one2 rfl (hF8.ldp (i := 1) (by simp)) zN ?_
 refine q_fldP (p := (.pointer (some ⟨w2.heap.size,0,none⟩))) (b := w2.heap.size) (o := 0) 1 fd80_1 rfl rfl zN ?_
 refine e_setB (k := 1) (w := w7) sz2 rfl rfl ⟨rfl,rfl⟩ hB7 (by simp) zN ?_
 intro w10 hC10 hz10 hB10
 replace hB10 : BX w10.heap w2.heap.size [(.string g.name),(.int .i64 g.params),(.slice none 0 0)] := hB10
 have hE10 : Ext w w10 := hC10.below hE7 (fun c hc => by have := List.mem_singleton.1 hc; omega) hE7.size
 have hzs10:=hC10.size
 have hF11 := hF8.chg hC10 (fun hm => by have := List.mem_singleton.1 hm; omega)
 have hF12 := hF9.chg hC10 (fun hm => by have := List.mem_singleton.1 hm; omega)
 refine lw_nil ?_
 refine wp_seq ?_
 refine wp_plain _ [0,2,3,0,4] rfl ?_
 refine q_fldP (p := (.pointer (some ⟨w.heap.size,0,none⟩))) (b := w.heap.size) (o := 0) 2 fd100_2 rfl rfl zN ?_
 refine q_load (p := (padd (.pointer (some ⟨w.heap.size,0,none⟩)) 2)) (.inr rfl) vf one98 rfl (hF11.ldp (i := 2) (by simp)) zN ?_
 refine lw_call 115 [] [] [vf] rfl rfl cf115 zN (c_laws_toExprS _ dg vf (g.outs) (hg.rn.ext (good_rdS (good_rEx dg)) hE10) (by exact hs)) ?_
 rintro e13 w13 ⟨v13,rfl,hX13,hO13⟩
 refine ⟨_,rfl,hX13,?_⟩
 have hzs13:=hX13.size
 have hE13:=hE10.trans hX13
 have hF11x13 := hF11.ext hX13
 have hF12x13 := hF12.ext hX13
 have hB10x13 := hB10.ext hX13
 refine q_fldP (p := (.pointer (some ⟨w2.heap.size,0,none⟩))) (b := w2.heap.size) (o := 0) 2 fd80_2 rfl rfl zN ?_
 refine e_setB (k := 2) (w := w13) sz78 rfl rfl (isSl_one hO13.isSlS) hB10x13 (by simp) zN ?_
 intro w14 hC14 hz14 hB14
 replace hB14 : BX w14.heap w2.heap.size [(.string g.name),(.int .i64 g.params),v13] := hB14
 have hE14 : Ext w w14 := hC14.below hE13 (fun c hc => by have := List.mem_singleton.1 hc; omega) hE13.size
 have hzs14:=hC14.size
 have hF15 := hF11x13.chg hC14 (fun hm => by have := List.mem_singleton.1 hm; omega)
 have hF16 := hF12x13.chg hC14 (fun hm => by have := List.mem_singleton.1 hm; omega)
 have hF17 := hO13.chg ((good_owS (good_oEx 94 dg))) hC14 (fun c hc => by have := List.mem_singleton.1 hc; omega)
 refine lw_nil ?_
 refine wp_seq ?_
 refine wp_plain _ [2,4] rfl ?_
 refine q_loadA (p := (.pointer (some ⟨w2.heap.size,0,none⟩))) (.inr rfl) [(.string g.name),(.int .i64 g.params),v13] agg80 rfl (fun w9 hw9 => LD.of_box (BX.ext (w := w14) hB14 hw9)) rfl zN ?_
 refine e_setA (vs := [(.string g.name),(.int .i64 g.params),v13]) agg80 rfl rfl (by intro u hu; simp only [List.mem_cons,List.not_mem_nil,or_false] at hu; rcases hu with rfl | rfl | rfl <;> first | exact ⟨rfl,rfl⟩ | exact isSl_one hF17.isSlS) hF16 rfl rfl zN ?_
 intro w18 hC18 hz18 hB18
 replace hB18 : BX w18.heap w1.heap.size [(.string g.name),(.int .i64 g.params),v13] := hB18
 have hE18 : Ext w w18 := hC18.below hE14 (fun c hc => by have := List.mem_singleton.1 hc; omega) hE14.size
 have hzs18:=hC18.size
 have hF19 := hF15.chg hC18 (fun hm => by have := List.mem_singleton.1 hm; omega)
 have hF20 := hB14.chg hC18 (fun hm => by have := List.mem_singleton.1 hm; omega)
 have hF21 := hF17.chg ((good_owS (good_oEx 94 dg))) hC18 (fun c hc => by have := List.mem_singleton.1 hc; omega)
 refine lw_nil ?_
 refine wp_ret ?_
 exact post_retA (cs := [(.string g.name),(.int .i64 g.params),v13]) rfl agg80 rfl hB18 rfl ⟨v13,rfl,hE18,((hF21.up (good_owS (good_oEx 94 dg))).low (B' := w.heap.size) (by omega))⟩
set_option maxHeartbeats 4000000 in
set_option maxRecDepth 100000 in
theorem c_laws_toFuncS (w : World) (da : Nat) (va : Value) (a : List Fn) (ha : RP [] da w.heap va a) (hs : szP a≤1000000000) :
  Calls Tryz.prog 44 #[va] w (fun e w' => ∃ v,e = .returned v∧Ext w w'∧Fr (owS 3 (oFn 94 da) 80) w.heap.size w'.heap.size w'.heap v a) := by
 refine calls_mk [va] 23 Tryz.func44 rfl rfl (by simp) ?_
 have hE0 : Ext w w := Ext.refl w
 have hl_va := ha.lenle
 unfold maxLen at hl_va
 have hsz : szP a = a.length + Fn.szs a := rfl
 refine wp_seq ?_
 refine wp_plain _ [0] rfl ?_
 refine q_assign (.slice none 0 0) rfl zN ?_
 refine lw_nil ?_
 refine wp_seq ?_
 refine wp_plain _ [0,0,3,0] rfl ?_
 refine q_move va rfl zN ?_
 refine q_len (v := va) u22 rfl ha.isSl zN ?_
 refine r_makeS (n := a.length) (zs := fnC Fn.zero (.slice none 0 0)) (z0 := Fn.zero) (good_oFn 94 da) u30 tiS80 rfl rfl rfl rfl rfl (by decide) (by omega) (fun _ H => oFn_zero H) zN ?_
 intro v1 w1 hX1 hz1 hO1
 have hzs1:=hX1.size
 have hE1:=hE0.trans hX1
 refine q_assign v1 rfl zN ?_
 refine lw_nil ?_
 refine wp_seq ?_
 refine wp_seq ?_
 refine wp_plain _ [0] rfl ?_
 refine q_assign (.int .i64 ((0 :Nat):Int)) rfl zN ?_
 refine lw_nil ?_
 refine wp_block ?_
 refine c_loop (S := Nat) (fun (k : Nat) => ([(4,(.int .i64 ((k :Nat):Int))),(0,va),(3,v1)] : List (Nat × Value))) (fun (k : Nat) (W : World) => Ext w W∧Fr (owS 3 (oFn 94 da) 80) w.heap.size W.heap.size W.heap v1 (a.take k ++ List.replicate (a.length - k) Fn.zero)∧k≤a.length) (fun (k : Nat) => a.length - k) 0 ⟨rfl,rfl,rfl,trivial⟩ ⟨hE1,(by simpa using hO1.up (good_owS (good_oFn 94 da))),(by first | omega | assumption | (simp; done) | (simp; omega))⟩ ?_
 clear hE0 hO1 hz1 hX1 hzs1 hE1
 rintro k ρ2 w2 ⟨hE2,hL2_0,hp2_0⟩
 have hzs2 : w.heap.size≤w2.heap.size := hE2.size
 have hml : (a.take k ++ List.replicate (a.length - k) Fn.zero).length = a.length := by rw [List.length_append,List.length_take,List.length_replicate]; omega
 refine wp_seq ?_
 refine wp_seq ?_
 refine wp_plain _ [0,0,0,0] rfl ?_
 refine q_move (.int .i64 ((k :Nat):Int)) rfl zN ?_
 refine q_move va rfl zN ?_
 refine q_len (v := va) u22 rfl ha.isSl zN ?_
 by_cases hc3 : ((k :Nat):Int) < ((a.length :Nat):Int)
 ·
  refine q_lss true rfl rfl (decide_eq_true hc3) zN ?_
  refine lw_nil ?_
  refine c_cond_t rfl ?_
  refine wp_skip ?_
  refine wp_seq ?_
  refine wp_block ?_
  refine wp_plain _ [0,0,0,0,0,2,3,0,4] rfl ?_
  have hsa := szs_at (l := a) (k := k) (by omega)
  have hsk : (a.getD k Fn.zero).sz = (a.getD k Fn.zero).name.size + Ex.sizes (a.getD k Fn.zero).outs := rfl
  refine q_move v1 rfl zN ?_
  refine q_move (.int .i64 ((k :Nat):Int)) rfl zN ?_
  refine q_move va rfl zN ?_
  refine q_move (.int .i64 ((k :Nat):Int)) rfl zN ?_
  refine q_idx (v := va) k u22 tiS100 rfl rfl ha.isSl rfl (by first | omega | assumption | (simp; done) | (simp; omega)) zN ?_
  obtain ⟨cs4,hr4,hl4⟩ := ha.get (good_rFn da) Fn.zero (k := k) (by first | omega | assumption | (simp; done) | (simp; omega))
  obtain ⟨ve4,rfl,hx4⟩ := RF.of hr4
  have hln4 := hx4.rn.lenle
  unfold maxLen at hln4
  refine q_loadA (p := eptr va k 3) (.inr rfl) [(.string ((a.getD k Fn.zero).name)),(.int .i64 ((a.getD k Fn.zero).params)),ve4] agg100 rfl (fun w9 hw9 => hl4 w9 (Chg.of_ext [] (hE2.trans hw9))) rfl zN ?_
  refine lw_call 82 [] [] [(.agg #[(.string ((a.getD k Fn.zero).name)),(.int .i64 ((a.getD k Fn.zero).params)),ve4])] rfl rfl cf82 zN (c_laws_toFunc _ da ve4 (a.getD k Fn.zero) ⟨hx4.rng,(hx4.rn.ext (good_rdS (good_rEx da)) hE2)⟩ (by omega)) ?_
  rintro e5 w5 ⟨v5,rfl,hX5,hO5⟩
  refine ⟨_,rfl,hX5,?_⟩
  have hzs5:=hX5.size
  have hE5:=hE2.trans hX5
  have hL2_0x5 := hL2_0.ext ((good_owS (good_oFn 94 da))) hX5
  refine q_idx (v := v1) k u30 tiS80 rfl rfl hL2_0x5.isSlS rfl (by first | omega | assumption | (simp; done) | (simp; omega)) zN ?_
  refine e_setS (v := v1) (cs := [(.string ((a.getD k Fn.zero).name)),(.int .i64 ((a.getD k Fn.zero).params)),v5]) (n := (a.getD k Fn.zero)) (j := k) (good_oFn 94 da) agg80 rfl rfl hL2_0x5 (oFn_mk hx4.rng hO5) (by omega) (by omega) (by first | omega | assumption | (simp; done) | (simp; omega)) zN ?_
  intro w6 F6 hC6 hz6 hF6 hO6
  have hE6 : Ext w w6 := hC6.below hE5 (fun c hc => Nat.le_trans (Nat.le_refl _) (hF6 c hc).1) hE5.size
  have hzs6:=hC6.size
  refine lw_nil ?_
  refine wp_plain _ [0,0,0] rfl ?_
  refine q_move (.int .i64 ((k :Nat):Int)) rfl zN ?_
  refine q_add ((k + 1 :Nat):Int) rfl rfl (w64n (by omega) (by first | omega | assumption | (simp; done) | (simp; omega))) zN ?_
  refine q_assign (.int .i64 ((k + 1 :Nat):Int)) rfl zN ?_
  refine lw_nil ?_
  exact ⟨(k + 1),_,rfl,⟨rfl,rfl,rfl,trivial⟩,⟨hE6,(by have h := hO6.up (good_owS (good_oFn 94 da)); rwa [set_zero (by omega)] at h),(by first | omega | assumption | (simp; done) | (simp; omega))⟩,by first | omega | (dsimp only; omega)⟩
 ·
  refine q_lss false rfl rfl (decide_eq_false hc3) zN ?_
  refine lw_nil ?_
  refine c_cond_f rfl ?_
  refine wp_exit ?_
  refine t_exit ?_
  refine t_exit ?_
  refine c_exit_here ?_
  refine wp_seq ?_
  refine wp_plain _ [0,0] rfl ?_
  refine q_move v1 rfl zN ?_
  refine q_assign v1 rfl zN ?_
  refine lw_nil ?_
  refine wp_ret ?_
  exact post_ret [2] rfl v1 rfl ⟨v1,rfl,hE2,(by have h := ((hL2_0.up (good_owS (good_oFn 94 da))).low (B' := w.heap.size) (by omega)); rwa [show a.take k ++ List.replicate (a.length - k) Fn.zero = a from by rw [List.take_of_length_le (by omega),show a.length - k = 0 from by omega]; simp] at h)⟩
set_option maxHeartbeats 4000000 in
set_option maxRecDepth 100000 in
theorem c_laws_toProgram (w : World) (dp : Nat) (vp : Value) (p : List Fn) (hp : RP [] dp w.heap vp p) (hs : szP p≤1000000000) :
  Calls Tryz.prog 11 #[(.agg #[vp])] w (fun e w' => ∃ v,e = .returned (.agg #[v])∧Ext w w'∧Fr (owS 3 (oFn 94 dp) 80) w.heap.size w'.heap.size w'.heap v p) := by
 refine calls_mk [(.agg #[vp])] 9 Tryz.func11 rfl rfl (by simp) ?_
 have hE0 : Ext w w := Ext.refl w
 have hl_vp := hp.lenle
 unfold maxLen at hl_vp
 refine wp_seq ?_
 refine wp_plain _ [3,3] rfl ?_
 refine r_boxA (cs := #[vp]) rfl zN ?_
 intro w1 hX1 hz1 hB1
 have hzs1:=hX1.size
 have hE1:=hE0.trans hX1
 replace hB1 : BX w1.heap w.heap.size [vp] := hB1
 have hq3 := hB1.lt
 refine r_allocA (z := .agg #[.slice none 0 0]) zr32 zN ?_
 intro w2 hX2 hz2 hB2
 have hzs2:=hX2.size
 have hE2:=hE1.trans hX2
 have hB1x2 := hB1.ext hX2
 replace hB2 : BX w2.heap w1.heap.size [(.slice none 0 0)] := hB2
 refine lw_nil ?_
 refine wp_seq ?_
 refine wp_plain _ [3] rfl ?_
 have hq5 := hB1x2.lt
 have hq6 := hB2.lt
 refine r_allocA (z := .agg #[.slice none 0 0]) zr32 zN ?_
 intro w4 hX4 hz4 hB4
 have hzs4:=hX4.size
 have hE4:=hE2.trans hX4
 have hB1x4 := hB1x2.ext hX4
 have hB2x4 := hB2.ext hX4
 replace hB4 : BX w4.heap w2.heap.size [(.slice none 0 0)] := hB4
 refine lw_nil ?_
 refine wp_seq ?_
 refine wp_plain _ [0,2,3,0,4] rfl ?_
 refine q_fldP (p := (.pointer (some ⟨w.heap.size,0,none⟩))) (b := w.heap.size) (o := 0) 0 fd24_0 rfl rfl zN ?_
 refine q_load (p := (padd (.pointer (some ⟨w.heap.size,0,none⟩)) 0)) (.inr rfl) vp one22 rfl (hB1x4.ldp (i := 0) (by simp)) zN ?_
 refine lw_call 44 [] [] [vp] rfl rfl cf44 zN (c_laws_toFuncS _ dp vp (p) (hp.ext (good_rdS (good_rFn dp)) hE4) (by exact hs)) ?_
 rintro e7 w7 ⟨v7,rfl,hX7,hO7⟩
 refine ⟨_,rfl,hX7,?_⟩
 have hzs7:=hX7.size
 have hE7:=hE4.trans hX7
 have hB1x7 := hB1x4.ext hX7
 have hB2x7 := hB2x4.ext hX7
 have hB4x7 := hB4.ext hX7
 refine q_fldP (p := (.pointer (some ⟨w2.heap.size,0,none⟩))) (b := w2.heap.size) (o := 0) 0 fd32_0 rfl rfl zN ?_
 refine e_setB (k := 0) (w := w7) sz30 rfl rfl (isSl_one hO7.isSlS) hB4x7 (by simp) zN ?_
 intro w8 hC8 hz8 hB8
 replace hB8 : BX w8.heap w2.heap.size [v7] := hB8
 have hE8 : Ext w w8 := hC8.below hE7 (fun c hc => by have := List.mem_singleton.1 hc; omega) hE7.size
 have hzs8:=hC8.size
 have hF9 := hB1x7.chg hC8 (fun hm => by have := List.mem_singleton.1 hm; omega)
 have hF10 := hB2x7.chg hC8 (fun hm => by have := List.mem_singleton.1 hm; omega)
 have hF11 := hO7.chg ((good_owS (good_oFn 94 dp))) hC8 (fun c hc => by have := List.mem_singleton.1 hc; omega)
 refine lw_nil ?_
 refine wp_seq ?_
 refine wp_plain _ [2,4] rfl ?_
 refine q_loadA (p := (.pointer (some ⟨w2.heap.size,0,none⟩))) (.inr rfl) [v7] agg32 rfl (fun w9 hw9 => LD.of_box (BX.ext (w := w8) hB8 hw9)) rfl zN ?_
 refine e_setA (vs := [v7]) agg32 rfl rfl (by intro u hu; simp only [List.mem_cons,List.not_mem_nil,or_false] at hu; rcases hu with rfl <;> first | exact ⟨rfl,rfl⟩ | exact isSl_one hF11.isSlS) hF10 rfl rfl zN ?_
 intro w12 hC12 hz12 hB12
 replace hB12 : BX w12.heap w1.heap.size [v7] := hB12
 have hE12 : Ext w w12 := hC12.below hE8 (fun c hc => by have := List.mem_singleton.1 hc; omega) hE8.size
 have hzs12:=hC12.size
 have hF13 := hF9.chg hC12 (fun hm => by have := List.mem_singleton.1 hm; omega)
 have hF14 := hB8.chg hC12 (fun hm => by have := List.mem_singleton.1 hm; omega)
 have hF15 := hF11.chg ((good_owS (good_oFn 94 dp))) hC12 (fun c hc => by have := List.mem_singleton.1 hc; omega)
 refine lw_nil ?_
 refine wp_ret ?_
 exact post_retA (cs := [v7]) rfl agg32 rfl hB12 rfl ⟨v7,rfl,hE12,((hF15.up (good_owS (good_oFn 94 dp))).low (B' := w.heap.size) (by omega))⟩
set_option maxHeartbeats 4000000 in
set_option maxRecDepth 100000 in
theorem c_laws_markText (w : World) (k : Int) (_hk : -9223372036854775808≤k∧k≤9223372036854775807) (hk : 0≤k∧k≤4000000000) :
  Calls Tryz.prog 89 #[.int .i64 k] w (fun e w' => ∃ s,e = .returned (.string s)∧Ext w w') := by
 refine calls_mk [.int .i64 k] 20 Tryz.func89 rfl rfl (by simp) ?_
 have hE0 : Ext w w := Ext.refl w
 refine wp_seq ?_
 refine wp_plain _ [0] rfl ?_
 refine q_assign (.string (⟨#[]⟩)) rfl zN ?_
 refine lw_nil ?_
 refine wp_seq ?_
 refine wp_seq ?_
 refine wp_plain _ [0,0] rfl ?_
 refine q_move (.int .i64 k) rfl zN ?_
 by_cases hc1 : k≤((0 :Nat):Int)
 ·
  refine q_leq true rfl rfl (decide_eq_true hc1) zN ?_
  refine lw_nil ?_
  refine c_cond_t rfl ?_
  refine wp_seq ?_
  refine wp_plain _ [0] rfl ?_
  refine q_assign (.string (⟨#[109,48]⟩)) rfl zN ?_
  refine lw_nil ?_
  refine wp_ret ?_
  refine t_ret ?_
  exact post_ret [2] rfl (.string (⟨#[109,48]⟩)) rfl ⟨⟨#[109,48]⟩,rfl,hE0⟩
 ·
  refine q_leq false rfl rfl (decide_eq_false hc1) zN ?_
  refine lw_nil ?_
  refine c_cond_f rfl ?_
  refine wp_skip ?_
  refine wp_seq ?_
  refine wp_plain _ [0] rfl ?_
  refine q_assign (.string (⟨#[]⟩)) rfl zN ?_
  refine lw_nil ?_
  refine wp_seq ?_
  refine wp_block ?_
  refine c_loop (S := Int × ByteArray) (fun (⟨l,s⟩ : Int × ByteArray) => ([(0,(.int .i64 l)),(3,(.string s))] : List (Nat × Value))) (fun (⟨l,s⟩ : Int × ByteArray) (W : World) => Ext w W∧(0≤l∧l + (s.size : Int)≤k)) (fun (⟨l,s⟩ : Int × ByteArray) => l.toNat) (k,(⟨#[]⟩)) ⟨rfl,rfl,trivial⟩ ⟨hE0,(by exact ⟨by omega,by show k + ((0 :Nat):Int)≤k; omega⟩)⟩ ?_
  clear hE0
  rintro ⟨l,s⟩ ρ2 w2 ⟨hE2,hp2_0⟩
  have hzs2 : w.heap.size≤w2.heap.size := hE2.size
  refine wp_seq ?_
  refine wp_seq ?_
  refine wp_plain _ [0,0] rfl ?_
  refine q_move (.int .i64 l) rfl zN ?_
  by_cases hc3 : ((0 :Nat):Int) < l
  ·
   refine q_gtr true rfl rfl (decide_eq_true hc3) zN ?_
   refine lw_nil ?_
   refine c_cond_t rfl ?_
   refine wp_skip ?_
   refine wp_block ?_
   refine wp_seq ?_
   refine wp_plain _ [0,0,0,0,3,2,0,0,0] rfl ?_
   have htm : 0≤l.tmod ((10 :Nat):Int)∧l.tmod ((10 :Nat):Int) < 10 := ⟨Int.tmod_nonneg _ (by omega),Int.tmod_lt_of_pos _ (by omega)⟩
   refine q_move (.int .i64 l) rfl zN ?_
   refine q_rem (l.tmod ((10 :Nat):Int)) rfl rfl (by decide) rfl zN ?_
   refine q_add (((48 :Nat):Int) + l.tmod ((10 :Nat):Int)) rfl rfl (w64 (by omega) (by omega)) zN ?_
   refine q_conv (IntKind.u8.wrap (((48 :Nat):Int) + l.tmod ((10 :Nat):Int))) u3 u5 rfl rfl zN ?_
   refine r_one (u := (.int .u8 (IntKind.u8.wrap (((48 :Nat):Int) + l.tmod ((10 :Nat):Int))))) (B := w2.heap.size) good_rV u50 ti5 rfl rfl (frV (w2.heap.size) (w2.heap.size) _ ⟨rfl,rfl⟩) (Nat.le_refl _) zN ?_
   intro v4 w4 hX4 hz4 hO4
   have hzs4:=hX4.size
   have hE4:=hE2.trans hX4
   refine q_byte u50 u5 u9 rfl hO4 zN ?_
   intro sb5 hsb5
   refine q_move (.string s) rfl zN ?_
   refine q_adds (a := sb5) (b := s) rfl rfl (by omega) zN ?_
   refine q_assign (.string (sb5 ++ s)) rfl zN ?_
   refine lw_nil ?_
   refine wp_plain _ [0,0,0] rfl ?_
   refine q_move (.int .i64 l) rfl zN ?_
   refine q_quo (l / 10) rfl rfl (by decide) (by rw [Int.tdiv_eq_ediv_of_nonneg (by omega),w64 (by omega) (by omega)]) zN ?_
   refine q_assign (.int .i64 (l / 10)) rfl zN ?_
   refine lw_nil ?_
   exact ⟨((l / 10),(sb5 ++ s)),_,rfl,⟨rfl,rfl,trivial⟩,⟨hE4,(by rw [ByteArray.size_append]; omega)⟩,by first | omega | (dsimp only; omega)⟩
  ·
   refine q_gtr false rfl rfl (decide_eq_false hc3) zN ?_
   refine lw_nil ?_
   refine c_cond_f rfl ?_
   refine wp_exit ?_
   refine t_exit ?_
   refine t_exit ?_
   refine c_exit_here ?_
   refine wp_seq ?_
   refine wp_plain _ [0,0,0] rfl ?_
   refine q_move (.string s) rfl zN ?_
   refine q_adds (a := ⟨#[109]⟩) (b := s) rfl rfl (by show 1 + s.size≤9223372036854775807; omega) zN ?_
   refine q_assign (.string (⟨#[109]⟩ ++ s)) rfl zN ?_
   refine lw_nil ?_
   refine wp_ret ?_
   exact post_ret [2] rfl (.string (⟨#[109]⟩ ++ s)) rfl ⟨(⟨#[109]⟩ ++ s),rfl,hE2⟩
set_option maxHeartbeats 4000000 in
set_option maxRecDepth 100000 in
theorem c_laws_markExprS (w : World) (da : Nat) (va : Value) (a : List Ex) (Fa : List Nat) (k : Int) (ha : owS 5 (hEx 94 da) 94 w.heap va a Fa) (hna : Fa.Nodup) (_hk : -9223372036854775808≤k∧k≤9223372036854775807) (hk : 0≤k∧k + 4 * ((Ex.sizes a :Nat):Int)≤4000000000) :
  Calls Tryz.prog 90 #[va,.int .i64 k] w (fun e w' => ∃ k' : Int,e = .returned (.int .i64 k')∧Chg Fa w w'∧owS 5 (hEx 94 da) 94 w'.heap va a Fa∧(k≤k'∧k'≤k + 4 * ((Ex.sizes a :Nat):Int))) := by
 induction da using Nat.strongRecOn generalizing w va a Fa k
 rename_i da ih
 refine calls_mk [va,.int .i64 k] 48 Tryz.func90 rfl rfl (by simp) ?_
 have hE0 : Chg Fa w w := Chg.refl Fa w
 have hl_va := ha.lenle
 unfold maxLen at hl_va
 have hge0 := sizes_ge a 0
 have hs0 : a.length≤Ex.sizes a := by omega
 refine wp_seq ?_
 refine wp_plain _ [0] rfl ?_
 refine q_assign (.int .i64 ((0 :Nat):Int)) rfl zN ?_
 refine lw_nil ?_
 refine wp_seq ?_
 refine wp_seq ?_
 refine wp_plain _ [0] rfl ?_
 refine q_assign (.int .i64 ((0 :Nat):Int)) rfl zN ?_
 refine lw_nil ?_
 refine wp_block ?_
 refine c_loop (S := Nat × Int) (fun (⟨j,l⟩ : Nat × Int) => ([(1,(.int .i64 l)),(5,(.int .i64 ((j :Nat):Int))),(0,va)] : List (Nat × Value))) (fun (⟨j,l⟩ : Nat × Int) (W : World) => Chg Fa w W∧j≤a.length∧owS 5 (hEx 94 da) 94 W.heap va a Fa∧(k≤l∧l≤k + 4 * ((Ex.sizes (a.take j) :Nat):Int))) (fun (⟨j,l⟩ : Nat × Int) => a.length - j) (0,k) ⟨rfl,rfl,rfl,trivial⟩ ⟨hE0,(by omega),(by assumption),(by rw [List.take_zero,sizes_nil]; omega)⟩ ?_
 clear hE0
 rintro ⟨j,l⟩ ρ1 w1 ⟨hE1,hp1_0,hsh,hlk⟩
 have hzs1 : w.heap.size≤w1.heap.size := hE1.size
 refine wp_seq ?_
 refine wp_seq ?_
 refine wp_plain _ [0,0,0,0] rfl ?_
 refine q_move (.int .i64 ((j :Nat):Int)) rfl zN ?_
 refine q_move va rfl zN ?_
 refine q_len (v := va) u78 rfl hsh.isSl zN ?_
 by_cases hc2 : ((j :Nat):Int) < ((a.length :Nat):Int)
 ·
  refine q_lss true rfl rfl (decide_eq_true hc2) zN ?_
  refine lw_nil ?_
  refine c_cond_t rfl ?_
  refine wp_skip ?_
  refine wp_seq ?_
  refine wp_block ?_
  refine wp_seq ?_
  refine wp_plain _ [0,0,0,0,0,4] rfl ?_
  have hst := sizes_step (l := a) (k := j) (by omega)
  have hle := sizes_take a (j + 1)
  have hsk := size_kids (a.getD j Ex.zero)
  refine q_move va rfl zN ?_
  refine q_move (.int .i64 ((j :Nat):Int)) rfl zN ?_
  refine q_move (.int .i64 l) rfl zN ?_
  refine q_idx (v := va) j u78 tiS94 rfl rfl hsh.isSl rfl (by first | omega | assumption | (simp; done) | (simp; omega)) zN ?_
  obtain ⟨gb3,ob3,hpb3⟩ := hsh.isPtr (k := j) (by first | omega | assumption | (simp; done) | (simp; omega))
  refine q_fldP (p := eptr va j 5) (b := gb3) (o := ob3) 0 fd94_0 rfl hpb3 zN ?_
  refine e_setC (v := va) (k := j) (c := 0) (good_hEx 94 da) sz2 rfl rfl ⟨rfl,rfl⟩ hsh hna (by first | omega | assumption | (simp; done) | (simp; omega)) (by decide) (fun h => hEx_set (by decide) h) zN ?_
  intro w4 hC4 hz4 hH4
  have hE4 : Chg Fa w w4 := hE1.trans hC4
  have hzs4:=hC4.size
  refine lw_nil ?_
  refine wp_seq ?_
  refine wp_plain _ [0,0,0] rfl ?_
  refine q_move (.int .i64 l) rfl zN ?_
  refine q_add (l + 1) rfl rfl (by first | exact w64 (by omega) (by omega) | (rw [w64 (by omega) (by omega)]; omega)) zN ?_
  refine q_assign (.int .i64 (l + 1)) rfl zN ?_
  refine lw_nil ?_
  refine wp_seq ?_
  refine wp_plain _ [0,0,0,0,0,4] rfl ?_
  refine q_move va rfl zN ?_
  refine q_move (.int .i64 ((j :Nat):Int)) rfl zN ?_
  refine q_move (.int .i64 (l + 1)) rfl zN ?_
  refine q_idx (v := va) j u78 tiS94 rfl rfl hH4.isSl rfl (by first | omega | assumption | (simp; done) | (simp; omega)) zN ?_
  obtain ⟨gb5,ob5,hpb5⟩ := hH4.isPtr (k := j) (by first | omega | assumption | (simp; done) | (simp; omega))
  refine q_fldP (p := eptr va j 5) (b := gb5) (o := ob5) 1 fd94_1 rfl hpb5 zN ?_
  refine e_setC (v := va) (k := j) (c := 1) (good_hEx 94 da) sz2 rfl rfl ⟨rfl,rfl⟩ hH4 hna (by first | omega | assumption | (simp; done) | (simp; omega)) (by decide) (fun h => hEx_set (by decide) h) zN ?_
  intro w6 hC6 hz6 hH6
  have hE6 : Chg Fa w w6 := hE4.trans hC6
  have hzs6:=hC6.size
  refine lw_nil ?_
  refine wp_seq ?_
  refine wp_plain _ [0,0,0] rfl ?_
  refine q_move (.int .i64 (l + 1)) rfl zN ?_
  refine q_add (l + 2) rfl rfl (by first | exact w64 (by omega) (by omega) | (rw [w64 (by omega) (by omega)]; omega)) zN ?_
  refine q_assign (.int .i64 (l + 2)) rfl zN ?_
  refine lw_nil ?_
  refine wp_seq ?_
  refine wp_plain _ [0,0,0,0,0,4] rfl ?_
  refine q_move va rfl zN ?_
  refine q_move (.int .i64 ((j :Nat):Int)) rfl zN ?_
  refine q_move (.int .i64 (l + 2)) rfl zN ?_
  refine q_idx (v := va) j u78 tiS94 rfl rfl hH6.isSl rfl (by first | omega | assumption | (simp; done) | (simp; omega)) zN ?_
  obtain ⟨gb7,ob7,hpb7⟩ := hH6.isPtr (k := j) (by first | omega | assumption | (simp; done) | (simp; omega))
  refine q_fldP (p := eptr va j 5) (b := gb7) (o := ob7) 2 fd94_2 rfl hpb7 zN ?_
  refine e_setC (v := va) (k := j) (c := 2) (good_hEx 94 da) sz2 rfl rfl ⟨rfl,rfl⟩ hH6 hna (by first | omega | assumption | (simp; done) | (simp; omega)) (by decide) (fun h => hEx_set (by decide) h) zN ?_
  intro w8 hC8 hz8 hH8
  have hE8 : Chg Fa w w8 := hE6.trans hC8
  have hzs8:=hC8.size
  refine lw_nil ?_
  refine wp_seq ?_
  refine wp_plain _ [0,0,0] rfl ?_
  refine q_move (.int .i64 (l + 2)) rfl zN ?_
  refine q_add (l + 3) rfl rfl (by first | exact w64 (by omega) (by omega) | (rw [w64 (by omega) (by omega)]; omega)) zN ?_
  refine q_assign (.int .i64 (l + 3)) rfl zN ?_
  refine lw_nil ?_
  refine wp_seq ?_
  refine wp_plain _ [0,0,0,0,0,4] rfl ?_
  refine q_move va rfl zN ?_
  refine q_move (.int .i64 ((j :Nat):Int)) rfl zN ?_
  refine q_move (.int .i64 (l + 3)) rfl zN ?_
  refine q_idx (v := va) j u78 tiS94 rfl rfl hH8.isSl rfl (by first | omega | assumption | (simp; done) | (simp; omega)) zN ?_
  obtain ⟨gb9,ob9,hpb9⟩ := hH8.isPtr (k := j) (by first | omega | assumption | (simp; done) | (simp; omega))
  refine q_fldP (p := eptr va j 5) (b := gb9) (o := ob9) 3 fd94_3 rfl hpb9 zN ?_
  refine e_setC (v := va) (k := j) (c := 3) (good_hEx 94 da) sz2 rfl rfl ⟨rfl,rfl⟩ hH8 hna (by first | omega | assumption | (simp; done) | (simp; omega)) (by decide) (fun h => hEx_set (by decide) h) zN ?_
  intro w10 hC10 hz10 hH10
  have hE10 : Chg Fa w w10 := hE8.trans hC10
  have hzs10:=hC10.size
  refine lw_nil ?_
  refine wp_seq ?_
  refine wp_plain _ [0,0,0] rfl ?_
  refine q_move (.int .i64 (l + 3)) rfl zN ?_
  refine q_add (l + 4) rfl rfl (by first | exact w64 (by omega) (by omega) | (rw [w64 (by omega) (by omega)]; omega)) zN ?_
  refine q_assign (.int .i64 (l + 4)) rfl zN ?_
  refine lw_nil ?_
  refine wp_plain _ [0,0,0,0,2,0,4,0] rfl ?_
  refine q_move va rfl zN ?_
  refine q_move (.int .i64 ((j :Nat):Int)) rfl zN ?_
  refine q_idx (v := va) j u78 tiS94 rfl rfl hH10.isSl rfl (by first | omega | assumption | (simp; done) | (simp; omega)) zN ?_
  obtain ⟨gb11,ob11,hpb11⟩ := hH10.isPtr (k := j) (by first | omega | assumption | (simp; done) | (simp; omega))
  refine q_fldP (p := eptr va j 5) (b := gb11) (o := ob11) 4 fd94_4 rfl hpb11 zN ?_
  obtain ⟨dk12,ue12,G12,hdk12,hl12,ho12,hng12,hsub12,hre12⟩ := hH10.kidE hna (k := j) (by first | omega | assumption | (simp; done) | (simp; omega))
  refine q_load (p := (padd (eptr va j 5) 4)) (.inr rfl) ue12 one78 rfl hl12 zN ?_
  refine q_move (.int .i64 (l + 4)) rfl zN ?_
  refine lw_callE 90 [] [] [ue12,(.int .i64 (l + 4))] rfl rfl cf90 zN (ih dk12 (by omega) _  ue12 ((a.getD j Ex.zero).kids) G12 (l + 4) ho12 hng12 (by omega) (by omega)) ?_
  rintro e13 w13 ⟨k13,rfl,hC13,hO13,hk13⟩
  refine ⟨_,rfl,?_⟩
  have hzs13:=hC13.size
  have hE13 : Chg Fa w w13 := hE10.trans (hC13.sub hsub12)
  have hH13 := hre12 _ hC13 hO13
  refine q_assign (.int .i64 k13) rfl zN ?_
  refine lw_nil ?_
  refine wp_plain _ [0,0,0] rfl ?_
  refine q_move (.int .i64 ((j :Nat):Int)) rfl zN ?_
  refine q_add ((j + 1 :Nat):Int) rfl rfl (w64n (by omega) (by first | omega | assumption | (simp; done) | (simp; omega))) zN ?_
  refine q_assign (.int .i64 ((j + 1 :Nat):Int)) rfl zN ?_
  refine lw_nil ?_
  exact ⟨((j + 1),k13),_,rfl,⟨rfl,rfl,rfl,trivial⟩,⟨hE13,(by omega),(by assumption),(by omega)⟩,by first | omega | (dsimp only; omega)⟩
 ·
  refine q_lss false rfl rfl (decide_eq_false hc2) zN ?_
  refine lw_nil ?_
  refine c_cond_f rfl ?_
  refine wp_exit ?_
  refine t_exit ?_
  refine t_exit ?_
  refine c_exit_here ?_
  refine wp_seq ?_
  refine wp_plain _ [0,0] rfl ?_
  refine q_move (.int .i64 l) rfl zN ?_
  refine q_assign (.int .i64 l) rfl zN ?_
  refine lw_nil ?_
  refine wp_ret ?_
  exact post_ret [4] rfl (.int .i64 l) rfl ⟨l,rfl,hE1,hsh,(by have := sizes_take a j; omega)⟩
set_option maxHeartbeats 4000000 in
set_option maxRecDepth 100000 in
theorem c_laws_markFuncS (w : World) (da : Nat) (va : Value) (a : List Fn) (Fa : List Nat) (k : Int) (ha : owS 3 (hFn 94 da) 80 w.heap va a Fa) (hna : Fa.Nodup) (_hk : -9223372036854775808≤k∧k≤9223372036854775807) (hk : 0≤k∧k + 4 * ((szP a :Nat):Int)≤4000000000) :
  Calls Tryz.prog 49 #[va,.int .i64 k] w (fun e w' => ∃ k' : Int,e = .returned (.int .i64 k')∧Chg Fa w w'∧owS 3 (hFn 94 da) 80 w'.heap va a Fa∧(k≤k'∧k'≤k + 4 * ((szP a :Nat):Int))) := by
 refine calls_mk [va,.int .i64 k] 35 Tryz.func49 rfl rfl (by simp) ?_
 have hE0 : Chg Fa w w := Chg.refl Fa w
 have hl_va := ha.lenle
 unfold maxLen at hl_va
 have hsz : szP a = a.length + Fn.szs a := rfl
 refine wp_seq ?_
 refine wp_plain _ [0] rfl ?_
 refine q_assign (.int .i64 ((0 :Nat):Int)) rfl zN ?_
 refine lw_nil ?_
 refine wp_seq ?_
 refine wp_seq ?_
 refine wp_plain _ [0] rfl ?_
 refine q_assign (.int .i64 ((0 :Nat):Int)) rfl zN ?_
 refine lw_nil ?_
 refine wp_block ?_
 refine c_loop (S := Nat × Int) (fun (⟨j,l⟩ : Nat × Int) => ([(1,(.int .i64 l)),(5,(.int .i64 ((j :Nat):Int))),(0,va)] : List (Nat × Value))) (fun (⟨j,l⟩ : Nat × Int) (W : World) => Chg Fa w W∧j≤a.length∧owS 3 (hFn 94 da) 80 W.heap va a Fa∧(k≤l∧l≤k + 2 * ((j :Nat):Int) + 4 * ((Fn.szs (a.take j) :Nat):Int))) (fun (⟨j,l⟩ : Nat × Int) => a.length - j) (0,k) ⟨rfl,rfl,rfl,trivial⟩ ⟨hE0,(by omega),(by assumption),(by rw [List.take_zero,szs_nil]; omega)⟩ ?_
 clear hE0
 rintro ⟨j,l⟩ ρ1 w1 ⟨hE1,hp1_0,hsh,hlk⟩
 have hzs1 : w.heap.size≤w1.heap.size := hE1.size
 refine wp_seq ?_
 refine wp_seq ?_
 refine wp_plain _ [0,0,0,0] rfl ?_
 refine q_move (.int .i64 ((j :Nat):Int)) rfl zN ?_
 refine q_move va rfl zN ?_
 refine q_len (v := va) u30 rfl hsh.isSl zN ?_
 by_cases hc2 : ((j :Nat):Int) < ((a.length :Nat):Int)
 ·
  refine q_lss true rfl rfl (decide_eq_true hc2) zN ?_
  refine lw_nil ?_
  refine c_cond_t rfl ?_
  refine wp_skip ?_
  refine wp_seq ?_
  refine wp_block ?_
  refine wp_seq ?_
  refine wp_plain _ [0,0,0,3,0,0,4] rfl ?_
  have hst := szs_step (l := a) (k := j) (by omega)
  have hle := szs_take a (j + 1)
  have hsk : (a.getD j Fn.zero).sz = (a.getD j Fn.zero).name.size + Ex.sizes (a.getD j Fn.zero).outs := rfl
  refine q_move va rfl zN ?_
  refine q_move (.int .i64 ((j :Nat):Int)) rfl zN ?_
  refine q_move (.int .i64 l) rfl zN ?_
  refine lw_call 89 [] [] [(.int .i64 l)] rfl rfl cf89 zN (c_laws_markText _ (l) (by omega) (by omega)) ?_
  rintro e3 w3 ⟨st3,rfl,hX3⟩
  refine ⟨_,rfl,hX3,?_⟩
  have hzs3:=hX3.size
  have hE3 : Chg Fa w w3 := hE1.ext hX3
  have hH4 := own_ext (good_owS (good_hFn 94 da)) hsh hX3
  refine q_idx (v := va) j u30 tiS80 rfl rfl hH4.isSl rfl (by first | omega | assumption | (simp; done) | (simp; omega)) zN ?_
  obtain ⟨gb5,ob5,hpb5⟩ := hH4.isPtr (k := j) (by first | omega | assumption | (simp; done) | (simp; omega))
  refine q_fldP (p := eptr va j 3) (b := gb5) (o := ob5) 0 fd80_0 rfl hpb5 zN ?_
  refine e_setC (v := va) (k := j) (c := 0) (good_hFn 94 da) sz9 rfl rfl ⟨rfl,rfl⟩ hH4 hna (by first | omega | assumption | (simp; done) | (simp; omega)) (by decide) (fun h => hFn_set0 h) zN ?_
  intro w6 hC6 hz6 hH6
  have hE6 : Chg Fa w w6 := hE3.trans hC6
  have hzs6:=hC6.size
  refine lw_nil ?_
  refine wp_seq ?_
  refine wp_plain _ [0,0,0] rfl ?_
  refine q_move (.int .i64 l) rfl zN ?_
  refine q_add (l + 1) rfl rfl (by first | exact w64 (by omega) (by omega) | (rw [w64 (by omega) (by omega)]; omega)) zN ?_
  refine q_assign (.int .i64 (l + 1)) rfl zN ?_
  refine lw_nil ?_
  refine wp_seq ?_
  refine wp_plain _ [0,0,0,0,0,4] rfl ?_
  refine q_move va rfl zN ?_
  refine q_move (.int .i64 ((j :Nat):Int)) rfl zN ?_
  refine q_move (.int .i64 (l + 1)) rfl zN ?_
  refine q_idx (v := va) j u30 tiS80 rfl rfl hH6.isSl rfl (by first | omega | assumption | (simp; done) | (simp; omega)) zN ?_
  obtain ⟨gb7,ob7,hpb7⟩ := hH6.isPtr (k := j) (by first | omega | assumption | (simp; done) | (simp; omega))
  refine q_fldP (p := eptr va j 3) (b := gb7) (o := ob7) 1 fd80_1 rfl hpb7 zN ?_
  refine e_setC (v := va) (k := j) (c := 1) (good_hFn 94 da) sz2 rfl rfl ⟨rfl,rfl⟩ hH6 hna (by first | omega | assumption | (simp; done) | (simp; omega)) (by decide) (fun h => hFn_set1 h) zN ?_
  intro w8 hC8 hz8 hH8
  have hE8 : Chg Fa w w8 := hE6.trans hC8
  have hzs8:=hC8.size
  refine lw_nil ?_
  refine wp_seq ?_
  refine wp_plain _ [0,0,0] rfl ?_
  refine q_move (.int .i64 (l + 1)) rfl zN ?_
  refine q_add (l + 2) rfl rfl (by first | exact w64 (by omega) (by omega) | (rw [w64 (by omega) (by omega)]; omega)) zN ?_
  refine q_assign (.int .i64 (l + 2)) rfl zN ?_
  refine lw_nil ?_
  refine wp_plain _ [0,0,0,0,2,0,4,0] rfl ?_
  refine q_move va rfl zN ?_
  refine q_move (.int .i64 ((j :Nat):Int)) rfl zN ?_
  refine q_idx (v := va) j u30 tiS80 rfl rfl hH8.isSl rfl (by first | omega | assumption | (simp; done) | (simp; omega)) zN ?_
  obtain ⟨gb9,ob9,hpb9⟩ := hH8.isPtr (k := j) (by first | omega | assumption | (simp; done) | (simp; omega))
  refine q_fldP (p := eptr va j 3) (b := gb9) (o := ob9) 2 fd80_2 rfl hpb9 zN ?_
  obtain ⟨ue10,G10,hl10,ho10,hng10,hsub10,hre10⟩ := hH8.kidF hna (k := j) (by first | omega | assumption | (simp; done) | (simp; omega))
  refine q_load (p := (padd (eptr va j 3) 2)) (.inr rfl) ue10 one78 rfl hl10 zN ?_
  refine q_move (.int .i64 (l + 2)) rfl zN ?_
  refine lw_callE 90 [] [] [ue10,(.int .i64 (l + 2))] rfl rfl cf90 zN (c_laws_markExprS _ da ue10 ((a.getD j Fn.zero).outs) G10 (l + 2) ho10 hng10 (by omega) (by omega)) ?_
  rintro e11 w11 ⟨k11,rfl,hC11,hO11,hk11⟩
  refine ⟨_,rfl,?_⟩
  have hzs11:=hC11.size
  have hE11 : Chg Fa w w11 := hE8.trans (hC11.sub hsub10)
  have hH11 := hre10 _ hC11 hO11
  refine q_assign (.int .i64 k11) rfl zN ?_
  refine lw_nil ?_
  refine wp_plain _ [0,0,0] rfl ?_
  refine q_move (.int .i64 ((j :Nat):Int)) rfl zN ?_
  refine q_add ((j + 1 :Nat):Int) rfl rfl (w64n (by omega) (by first | omega | assumption | (simp; done) | (simp; omega))) zN ?_
  refine q_assign (.int .i64 ((j + 1 :Nat):Int)) rfl zN ?_
  refine lw_nil ?_
  exact ⟨((j + 1),k11),_,rfl,⟨rfl,rfl,rfl,trivial⟩,⟨hE11,(by omega),(by assumption),(by omega)⟩,by first | omega | (dsimp only; omega)⟩
 ·
  refine q_lss false rfl rfl (decide_eq_false hc2) zN ?_
  refine lw_nil ?_
  refine c_cond_f rfl ?_
  refine wp_exit ?_
  refine t_exit ?_
  refine t_exit ?_
  refine c_exit_here ?_
  refine wp_seq ?_
  refine wp_plain _ [0,0] rfl ?_
  refine q_move (.int .i64 l) rfl zN ?_
  refine q_assign (.int .i64 l) rfl zN ?_
  refine lw_nil ?_
  refine wp_ret ?_
  exact post_ret [4] rfl (.int .i64 l) rfl ⟨l,rfl,hE1,hsh,(by have := szs_take a j; omega)⟩
set_option maxHeartbeats 4000000 in
set_option maxRecDepth 100000 in
theorem c_laws_markProgram (w : World) (da : Nat) (va : Value) (a : List Fn) (Fa : List Nat) (k : Int) (ha : owS 3 (hFn 94 da) 80 w.heap va a Fa) (hna : Fa.Nodup) (_hk : -9223372036854775808≤k∧k≤9223372036854775807) (hk : 0≤k∧k + 4 * ((szP a :Nat):Int)≤4000000000) :
  Calls Tryz.prog 17 #[(.agg #[va]),.int .i64 k] w (fun e w' => ∃ k' : Int,e = .returned (.int .i64 k')∧Chg Fa w w'∧owS 3 (hFn 94 da) 80 w'.heap va a Fa∧(k≤k'∧k'≤k + 4 * ((szP a :Nat):Int))) := by
 refine calls_mk [(.agg #[va]),.int .i64 k] 10 Tryz.func17 rfl rfl (by simp) ?_
 have hE0 : Chg Fa w w := Chg.refl Fa w
 refine wp_seq ?_
 refine wp_plain _ [3,0] rfl ?_
 refine r_boxA (cs := #[va]) rfl zN ?_
 intro w1 hX1 hz1 hB1
 have hzs1:=hX1.size
 have hE1 : Chg Fa w w1 := hE0.ext hX1
 have hH2 := own_ext (good_owS (good_hFn 94 da)) ha hX1
 replace hB1 : BX w1.heap w.heap.size [va] := hB1
 refine q_assign (.int .i64 ((0 :Nat):Int)) rfl zN ?_
 refine lw_nil ?_
 refine wp_seq ?_
 refine wp_plain _ [0,2,0,4,0] rfl ?_
 refine q_fldP (p := (.pointer (some ⟨w.heap.size,0,none⟩))) (b := w.heap.size) (o := 0) 0 fd32_0 rfl rfl zN ?_
 refine q_load (p := (padd (.pointer (some ⟨w.heap.size,0,none⟩)) 0)) (.inr rfl) va one30 rfl (hB1.ldp (i := 0) (by simp)) zN ?_
 refine q_move (.int .i64 k) rfl zN ?_
 refine lw_callE 49 [] [] [va,(.int .i64 k)] rfl rfl cf49 zN (c_laws_markFuncS _ da va a Fa (k) hH2 hna _hk (by omega)) ?_
 rintro e3 w3 ⟨k3,rfl,hC3,hO3,hk3⟩
 refine ⟨_,rfl,?_⟩
 have hzs3:=hC3.size
 have hE3 : Chg Fa w w3 := hE1.trans hC3
 refine q_assign (.int .i64 k3) rfl zN ?_
 refine lw_nil ?_
 refine wp_seq ?_
 refine wp_plain _ [0,0] rfl ?_
 refine q_move (.int .i64 k3) rfl zN ?_
 refine q_assign (.int .i64 k3) rfl zN ?_
 refine lw_nil ?_
 refine wp_ret ?_
 exact post_ret [4] rfl (.int .i64 k3) rfl ⟨k3,rfl,hE3,hO3,(by omega)⟩
end Go.Proofs.YtnofbmdpabcjaaaGreat
namespace Go.Proofs.YtnofbmdpabcjaaaGreat
open Go Go.RowKit
set_option linter.unusedVariables false
set_option linter.unusedSimpArgs false
attribute [local irreducible] LW
theorem tot_bound {a : List (List Int)} {L : Nat} (h1 : a.length ≤ L) (h2 : ∀ k, (a.getD k []).length ≤ L) : tot a a.length ≤ L * L := Nat.le_trans (tot_le h2 _ (Nat.le_refl _)) (Nat.mul_le_mul_right L h1)
theorem tot_bnd {a : List (List Int)} (h1 : a.length ≤ 1048576) (h2 : ∀ k, (a.getD k []).length ≤ 1048576) : tot a a.length ≤ 1099511627776 := by
  have := tot_bound h1 h2; omega
theorem tot_13 {a : List (List Int)} (h : a.length ≤ 12 ∧ ∀ k, (a.getD k []).length ≤ 13) : tot a a.length ≤ 169 := by
  have := tot_bound (L := 13) (by omega) h.2; omega
set_option maxHeartbeats 4000000 in
set_option maxRecDepth 100000 in
theorem c_laws_FnExactPicardStep (w : World) (dp : Nat) (vp : Value) (p : List Fn) (f : Int) (va : Value) (y : List (List Int)) (hp : RP [] dp w.heap vp p) (_hf : -9223372036854775808≤f∧f≤9223372036854775807) (hy : Rd (rdL (rdL rI)) w.heap va y) (hnm : ∀ k,k < p.length→(p.getD k Fn.zero).name.size≤9223372036854775807) :
  Calls Tryz.prog 5 #[(.agg #[vp]),.int .i64 f,va] w (fun e w' => e = .returned (.bool true)∧Ext w w') := by
 refine calls_mk [(.agg #[vp]),.int .i64 f,va] 124 Tryz.func5 rfl rfl (by simp) ?_
 have hE0 : Ext w w := Ext.refl w
 have hl_vp := hp.lenle
 unfold maxLen at hl_vp
 have hl_va := hy.lenle
 refine wp_seq ?_
 refine wp_plain _ [3,0] rfl ?_
 refine r_boxA (cs := #[vp]) rfl zN ?_
 intro w1 hX1 hz1 hB1
 have hzs1:=hX1.size
 have hE1:=hE0.trans hX1
 replace hB1 : BX w1.heap w.heap.size [vp] := hB1
 refine q_assign (.bool false) rfl zN ?_
 refine lw_nil ?_
 refine wp_seq ?_
 refine wp_plain _ [0] rfl ?_
 refine q_assign (.int .i64 ((1048576 :Nat):Int)) rfl zN ?_
 refine lw_nil ?_
 refine wp_seq ?_
 refine wp_plain _ [2,0,3,0] rfl ?_
 refine q_loadA (p := (.pointer (some ⟨w.heap.size,0,none⟩))) (.inr rfl) [vp] agg24 rfl (fun w9 hw9 => LD.of_box (BX.ext (w := w1) hB1 hw9)) rfl zN ?_
 refine q_move (.int .i64 ((1048576 :Nat):Int)) rfl zN ?_
 refine lw_call 9 [] [] [(.agg #[vp]),(.int .i64 ((1048576 :Nat):Int))] rfl rfl cf9 zN (c_laws_szProgram _ dp vp (p) _ (hp.ext (good_rdS (good_rFn dp)) hE1) (by omega) (by omega) (by exact hnm)) ?_
 rintro e2 w2 ⟨rfl,hX2⟩
 refine ⟨_,rfl,hX2,?_⟩
 have hzs2:=hX2.size
 have hE2:=hE1.trans hX2
 have hB1x2 := hB1.ext hX2
 refine q_assign (.int .i64 (szV (szP p) ((1048576 :Nat):Int))) rfl zN ?_
 refine lw_nil ?_
 refine wp_seq ?_
 refine wp_seq ?_
 refine wp_plain _ [0,0] rfl ?_
 refine q_move (.int .i64 (szV (szP p) ((1048576 :Nat):Int))) rfl zN ?_
 by_cases hc3 : szV (szP p) ((1048576 :Nat):Int) < ((0 :Nat):Int)
 ·
  refine q_lss true rfl rfl (decide_eq_true hc3) zN ?_
  refine lw_nil ?_
  refine c_cond_t rfl ?_
  refine wp_seq ?_
  refine wp_plain _ [0] rfl ?_
  refine q_assign (.bool true) rfl zN ?_
  refine lw_nil ?_
  refine wp_ret ?_
  refine t_ret ?_
  exact post_ret [6] rfl (.bool true) rfl ⟨(by first | rfl | (exfalso; omega) | simp_all),hE2⟩
 ·
  refine q_lss false rfl rfl (decide_eq_false hc3) zN ?_
  refine lw_nil ?_
  refine c_cond_f rfl ?_
  refine wp_skip ?_
  refine wp_seq ?_
  refine wp_plain _ [0,0,3,0] rfl ?_
  have hzv := szV_pos (t := szP p) (x := ((1048576 :Nat):Int)) (by omega)
  have hz0 : szP p≤1048576 := by omega
  have hz := szP_ok hz0
  refine q_move va rfl zN ?_
  refine q_move (.int .i64 (szV (szP p) ((1048576 :Nat):Int))) rfl zN ?_
  refine lw_call 21 [] [] [va,(.int .i64 (szV (szP p) ((1048576 :Nat):Int)))] rfl rfl cf21 zN (c_laws_szInt64SS _ _ _ _ (hy.ext g2 hE2) (by have := szV_rng (szP p) (x := ((1048576 :Nat):Int)) (by omega); omega) (by omega)) ?_
  rintro e4 w4 ⟨rfl,hX4⟩
  refine ⟨_,rfl,hX4,?_⟩
  have hzs4:=hX4.size
  have hE4:=hE2.trans hX4
  have hB1x4 := hB1x2.ext hX4
  refine q_assign (.int .i64 (szM y (szV (szP p) ((1048576 :Nat):Int)))) rfl zN ?_
  refine lw_nil ?_
  refine wp_seq ?_
  refine wp_seq ?_
  refine wp_plain _ [0,0] rfl ?_
  refine q_move (.int .i64 (szM y (szV (szP p) ((1048576 :Nat):Int)))) rfl zN ?_
  by_cases hc5 : szM y (szV (szP p) ((1048576 :Nat):Int)) < ((0 :Nat):Int)
  ·
   refine q_lss true rfl rfl (decide_eq_true hc5) zN ?_
   refine lw_nil ?_
   refine c_cond_t rfl ?_
   refine wp_seq ?_
   refine wp_plain _ [0] rfl ?_
   refine q_assign (.bool true) rfl zN ?_
   refine lw_nil ?_
   refine wp_ret ?_
   refine t_ret ?_
   exact post_ret [6] rfl (.bool true) rfl ⟨(by first | rfl | (exfalso; omega) | simp_all),hE4⟩
  ·
   refine q_lss false rfl rfl (decide_eq_false hc5) zN ?_
   refine lw_nil ?_
   refine c_cond_f rfl ?_
   refine wp_skip ?_
   refine wp_seq ?_
   refine wp_plain _ [2,3,0,0,3,3,0,0,0,0,0] rfl ?_
   have hB := (szM_le (a := y) (l := szV (szP p) ((1048576 :Nat):Int)) (by omega) (by omega))
   have hB1 := hB.2.1
   refine q_loadA (p := (.pointer (some ⟨w.heap.size,0,none⟩))) (.inr rfl) [vp] agg24 rfl (fun w9 hw9 => LD.of_box (BX.ext (w := w4) hB1x4 hw9)) rfl zN ?_
   refine lw_call 11 [] [] [(.agg #[vp])] rfl rfl cf11 zN (c_laws_toProgram _ dp vp (p) (hp.ext (good_rdS (good_rFn dp)) hE4) (by omega)) ?_
   rintro e6 w6 ⟨v6,rfl,hX6,hO6⟩
   refine ⟨_,rfl,hX6,?_⟩
   have hzs6:=hX6.size
   have hE6:=hE4.trans hX6
   have hB1x6 := hB1x4.ext hX6
   refine q_move (.int .i64 f) rfl zN ?_
   refine q_move va rfl zN ?_
   refine lw_call 23 [] [] [va] rfl rfl cf23 zN (c_laws_toInt64SS _ _ _ (hy.ext g2 hE6) (by omega) (by intro k; have := hB.2.2 k; omega)) ?_
   rintro e7 w7 ⟨v7_0,rfl,hX7,hO7_0⟩
   refine ⟨_,rfl,hX7,?_⟩
   have hzs7:=hX7.size
   have hE7:=hE6.trans hX7
   have hB1x7 := hB1x6.ext hX7
   have hO6x7 := hO6.ext ((good_owS (good_oFn 94 dp))) hX7
   refine lw_call 25 [] [] [(.agg #[v6]),(.int .i64 f),v7_0] rfl rfl cf25 zN (c_spec_PicardStep _ dp v6 (p) _ v7_0 (y) (RN.of_frF hO6x7 (fun b hb => by cases hb)) _hf (RN.of_fr2 hO7_0 (fun b hb => by cases hb)) hO7_0.cap (by exact hz)) ?_
   rintro e8 w8 ⟨v8_0,rfl,hX8,hO8_0⟩
   refine ⟨_,rfl,hX8,?_⟩
   have hzs8:=hX8.size
   have hE8:=hE7.trans hX8
   have hB1x8 := hB1x7.ext hX8
   have hO6x8 := hO6x7.ext ((good_owS (good_oFn 94 dp))) hX8
   have hO7_0x8 := hO7_0.ext (o2) hX8
   refine q_move (.tuple #[v8_0,(.int .i64 (psC p f y))]) rfl zN ?_
   refine q_extract (vs := [v8_0,(.int .i64 (psC p f y))]) v8_0 rfl rfl zN ?_
   refine q_extract (vs := [v8_0,(.int .i64 (psC p f y))]) (.int .i64 (psC p f y)) rfl rfl zN ?_
   refine q_assign v8_0 rfl zN ?_
   refine q_assign (.int .i64 (psC p f y)) rfl zN ?_
   refine lw_nil ?_
   refine wp_seq ?_
   refine wp_plain _ [2,3,3,4] rfl ?_
   refine q_loadA (p := (.pointer (some ⟨w.heap.size,0,none⟩))) (.inr rfl) [vp] agg24 rfl (fun w9 hw9 => LD.of_box (BX.ext (w := w8) hB1x8 hw9)) rfl zN ?_
   refine lw_call 11 [] [] [(.agg #[vp])] rfl rfl cf11 zN (c_laws_toProgram _ dp vp (p) (hp.ext (good_rdS (good_rFn dp)) hE8) (by omega)) ?_
   rintro e9 w9 ⟨v9,rfl,hX9,hO9⟩
   refine ⟨_,rfl,hX9,?_⟩
   have hzs9:=hX9.size
   have hE9:=hE8.trans hX9
   have hB1x9 := hB1x8.ext hX9
   have hO6x9 := hO6x8.ext ((good_owS (good_oFn 94 dp))) hX9
   have hO7_0x9 := hO7_0x8.ext (o2) hX9
   have hO8_0x9 := hO8_0.ext (o2) hX9
   have hq11 := hB1x9.lt
   refine r_allocA (z := .agg #[.slice none 0 0]) zr32 zN ?_
   intro w10 hX10 hz10 hB10
   have hzs10:=hX10.size
   have hE10:=hE9.trans hX10
   have hB1x10 := hB1x9.ext hX10
   have hO6x10 := hO6x9.ext ((good_owS (good_oFn 94 dp))) hX10
   have hO7_0x10 := hO7_0x9.ext (o2) hX10
   have hO8_0x10 := hO8_0x9.ext (o2) hX10
   have hO9x10 := hO9.ext ((good_owS (good_oFn 94 dp))) hX10
   replace hB10 : BX w10.heap w9.heap.size [(.slice none 0 0)] := hB10
   refine e_setA (vs := [v9]) agg32 rfl rfl (by intro u hu; simp only [List.mem_cons,List.not_mem_nil,or_false] at hu; rcases hu with rfl <;> first | exact ⟨rfl,rfl⟩ | exact isSl_one hO9x10.isSlS) hB10 rfl rfl zN ?_
   intro w12 hC12 hz12 hB12
   replace hB12 : BX w12.heap w9.heap.size [v9] := hB12
   have hE12 : Ext w w12 := hC12.below hE10 (fun c hc => by have := List.mem_singleton.1 hc; omega) hE10.size
   have hzs12:=hC12.size
   have hF13 := hB1x10.chg hC12 (fun hm => by have := List.mem_singleton.1 hm; omega)
   have hF14 := hO6x10.chg ((good_owS (good_oFn 94 dp))) hC12 (fun c hc => by have := List.mem_singleton.1 hc; omega)
   have hF15 := hO7_0x10.chg (o2) hC12 (fun c hc => by have := List.mem_singleton.1 hc; omega)
   have hF16 := hO8_0x10.chg (o2) hC12 (fun c hc => by have := List.mem_singleton.1 hc; omega)
   have hF17 := hO9x10.chg ((good_owS (good_oFn 94 dp))) hC12 (fun c hc => by have := List.mem_singleton.1 hc; omega)
   refine lw_nil ?_
   refine wp_seq ?_
   refine wp_plain _ [0,3,0] rfl ?_
   refine q_move va rfl zN ?_
   refine lw_call 23 [] [] [va] rfl rfl cf23 zN (c_laws_toInt64SS _ _ _ (hy.ext g2 hE12) (by omega) (by intro k; have := hB.2.2 k; omega)) ?_
   rintro e18 w18 ⟨v18_0,rfl,hX18,hO18_0⟩
   refine ⟨_,rfl,hX18,?_⟩
   have hzs18:=hX18.size
   have hE18:=hE12.trans hX18
   have hF13x18 := hF13.ext hX18
   have hF14x18 := hF14.ext ((good_owS (good_oFn 94 dp))) hX18
   have hF15x18 := hF15.ext (o2) hX18
   have hF16x18 := hF16.ext (o2) hX18
   have hF17x18 := hF17.ext ((good_owS (good_oFn 94 dp))) hX18
   have hB12x18 := hB12.ext hX18
   refine q_assign v18_0 rfl zN ?_
   refine lw_nil ?_
   refine wp_seq ?_
   refine wp_plain _ [2,0,0,3,0,0,0,0,0] rfl ?_
   refine q_loadA (p := (.pointer (some ⟨w9.heap.size,0,none⟩))) (.inr rfl) [v9] agg32 rfl (fun w9 hw9 => LD.of_box (BX.ext (w := w18) hB12x18 hw9)) rfl zN ?_
   refine q_move (.int .i64 f) rfl zN ?_
   refine q_move v18_0 rfl zN ?_
   refine lw_call 26 [] [] [(.agg #[v9]),(.int .i64 f),v18_0] rfl rfl cf26 zN (c_impl_PicardStep _ dp v9 (p) _ v18_0 (y) (RN.of_frF hF17x18 (fun b hb => by cases hb)) _hf (RN.of_fr2 hO18_0 (fun b hb => by cases hb)) hO18_0.cap (by exact hz)) ?_
   rintro e19 w19 ⟨v19_0,rfl,hX19,hO19_0,hP19_0,hP19_1⟩
   refine ⟨_,rfl,hX19,?_⟩
   have hzs19:=hX19.size
   have hE19:=hE18.trans hX19
   have hF13x19 := hF13x18.ext hX19
   have hF14x19 := hF14x18.ext ((good_owS (good_oFn 94 dp))) hX19
   have hF15x19 := hF15x18.ext (o2) hX19
   have hF16x19 := hF16x18.ext (o2) hX19
   have hF17x19 := hF17x18.ext ((good_owS (good_oFn 94 dp))) hX19
   have hB12x19 := hB12x18.ext hX19
   have hO18_0x19 := hO18_0.ext (o2) hX19
   refine q_move (.tuple #[v19_0,(.int .i64 (psC p f y))]) rfl zN ?_
   refine q_extract (vs := [v19_0,(.int .i64 (psC p f y))]) v19_0 rfl rfl zN ?_
   refine q_extract (vs := [v19_0,(.int .i64 (psC p f y))]) (.int .i64 (psC p f y)) rfl rfl zN ?_
   refine q_assign v19_0 rfl zN ?_
   refine q_assign (.int .i64 (psC p f y)) rfl zN ?_
   refine lw_nil ?_
   refine wp_seq ?_
   refine wp_seq ?_
   refine wp_plain _ [0,0,3,0,0,0,0,0,0] rfl ?_
   refine q_move v19_0 rfl zN ?_
   refine q_move v8_0 rfl zN ?_
   refine lw_call 14 [] [] [v19_0,v8_0] rfl rfl cf14 zN (c_laws_eqInt64SS _ _ _ _ _ hO19_0.rd2 hF16x19.rd2) ?_
   rintro e20 w20 ⟨rfl,hX20⟩
   refine ⟨_,rfl,hX20,?_⟩
   have hzs20:=hX20.size
   have hE20:=hE19.trans hX20
   have hF13x20 := hF13x19.ext hX20
   have hF14x20 := hF14x19.ext ((good_owS (good_oFn 94 dp))) hX20
   have hF15x20 := hF15x19.ext (o2) hX20
   have hF16x20 := hF16x19.ext (o2) hX20
   have hF17x20 := hF17x19.ext ((good_owS (good_oFn 94 dp))) hX20
   have hB12x20 := hB12x19.ext hX20
   have hO18_0x20 := hO18_0x19.ext (o2) hX20
   have hO19_0x20 := hO19_0.ext (o2) hX20
   refine q_not (!(decide ((psR p f y) = (psR p f y)))) rfl rfl zN ?_
   refine q_move (.bool (!(decide ((psR p f y) = (psR p f y))))) rfl zN ?_
   cases hb21 : (!(decide ((psR p f y) = (psR p f y))))
   ·
    refine q_move (.int .i64 (psC p f y)) rfl (zS (e := 53) rfl rfl rfl) ?_
    refine q_move (.int .i64 (psC p f y)) rfl (zS (e := 53) rfl rfl rfl) ?_
    refine q_neq false rfl rfl (by simp) (zS (e := 53) rfl rfl rfl) ?_
    refine q_pick false (.bool false) rfl rfl zN ?_
    refine lw_nil ?_
    refine c_cond_f rfl ?_
    refine wp_skip ?_
    refine wp_seq ?_
    refine wp_seq ?_
    refine wp_draw _ [1,1,3,3,0] mixed (by kernel_rfl) ?_
    refine q_loadA (p := (.pointer (some ⟨w9.heap.size,0,none⟩))) (.inl rfl) [v9] agg32 rfl (fun w9 hw9 => LD.of_box (BX.ext (w := w20.drew) hB12x20 hw9)) rfl zN ?_
    refine q_loadA (p := (.pointer (some ⟨w.heap.size,0,none⟩))) (.inl rfl) [vp] agg24 rfl (fun w9 hw9 => LD.of_box (BX.ext (w := w20.drew) hF13x20 hw9)) rfl zN ?_
    refine lw_call 11 [] [] [(.agg #[vp])] rfl rfl cf11 zN (c_laws_toProgram _ dp vp (p) (hp.ext (good_rdS (good_rFn dp)) hE20.drew) (by omega)) ?_
    rintro e22 w22 ⟨v22,rfl,hX22,hO22⟩
    refine ⟨_,rfl,hX22,?_⟩
    replace hX22 := hX22.of_drew
    have hzs22:=hX22.size
    have hE22:=hE20.trans hX22
    have hF13x22 := hF13x20.ext hX22
    have hF14x22 := hF14x20.ext ((good_owS (good_oFn 94 dp))) hX22
    have hF15x22 := hF15x20.ext (o2) hX22
    have hF16x22 := hF16x20.ext (o2) hX22
    have hF17x22 := hF17x20.ext ((good_owS (good_oFn 94 dp))) hX22
    have hB12x22 := hB12x20.ext hX22
    have hO18_0x22 := hO18_0x20.ext (o2) hX22
    have hO19_0x22 := hO19_0x20.ext (o2) hX22
    replace hO22 := hO22.low (B' := w20.heap.size) (Nat.le_refl _)
    refine lw_call 15 [] [] [(.agg #[v9]),(.agg #[v22])] rfl rfl cf15 zN (c_laws_eqProgram _ dp v9 (p) dp v22 (p) (RN.of_frF hF17x22 (fun b hb => by cases hb)) (RN.of_frF hO22 (fun b hb => by cases hb)) (by rfl)) ?_
    rintro e23 w23 ⟨rfl,hX23⟩
    refine ⟨_,rfl,hX23,?_⟩
    have hzs23:=hX23.size
    have hE23:=hE22.trans hX23
    have hF13x23 := hF13x22.ext hX23
    have hF14x23 := hF14x22.ext ((good_owS (good_oFn 94 dp))) hX23
    have hF15x23 := hF15x22.ext (o2) hX23
    have hF16x23 := hF16x22.ext (o2) hX23
    have hF17x23 := hF17x22.ext ((good_owS (good_oFn 94 dp))) hX23
    have hB12x23 := hB12x22.ext hX23
    have hO18_0x23 := hO18_0x22.ext (o2) hX23
    have hO19_0x23 := hO19_0x22.ext (o2) hX23
    have hO22x23 := hO22.ext ((good_owS (good_oFn 94 dp))) hX23
    refine q_not false rfl rfl zN ?_
    refine lw_nil ?_
    refine c_cond_f rfl ?_
    refine wp_skip ?_
    refine wp_seq ?_
    refine wp_seq ?_
    refine wp_plain _ [0,0,3,3,0] rfl ?_
    refine q_move v18_0 rfl zN ?_
    refine q_move va rfl zN ?_
    refine lw_call 23 [] [] [va] rfl rfl cf23 zN (c_laws_toInt64SS _ _ _ (hy.ext g2 hE23) (by omega) (by intro k; have := hB.2.2 k; omega)) ?_
    rintro e24 w24 ⟨v24_0,rfl,hX24,hO24_0⟩
    refine ⟨_,rfl,hX24,?_⟩
    have hzs24:=hX24.size
    have hE24:=hE23.trans hX24
    have hF13x24 := hF13x23.ext hX24
    have hF14x24 := hF14x23.ext ((good_owS (good_oFn 94 dp))) hX24
    have hF15x24 := hF15x23.ext (o2) hX24
    have hF16x24 := hF16x23.ext (o2) hX24
    have hF17x24 := hF17x23.ext ((good_owS (good_oFn 94 dp))) hX24
    have hB12x24 := hB12x23.ext hX24
    have hO18_0x24 := hO18_0x23.ext (o2) hX24
    have hO19_0x24 := hO19_0x23.ext (o2) hX24
    have hO22x24 := hO22x23.ext ((good_owS (good_oFn 94 dp))) hX24
    refine lw_call 14 [] [] [v18_0,v24_0] rfl rfl cf14 zN (c_laws_eqInt64SS _ _ _ _ _ hO18_0x24.rd2 hO24_0.rd2) ?_
    rintro e25 w25 ⟨rfl,hX25⟩
    refine ⟨_,rfl,hX25,?_⟩
    have hzs25:=hX25.size
    have hE25:=hE24.trans hX25
    have hF13x25 := hF13x24.ext hX25
    have hF14x25 := hF14x24.ext ((good_owS (good_oFn 94 dp))) hX25
    have hF15x25 := hF15x24.ext (o2) hX25
    have hF16x25 := hF16x24.ext (o2) hX25
    have hF17x25 := hF17x24.ext ((good_owS (good_oFn 94 dp))) hX25
    have hB12x25 := hB12x24.ext hX25
    have hO18_0x25 := hO18_0x24.ext (o2) hX25
    have hO19_0x25 := hO19_0x24.ext (o2) hX25
    have hO22x25 := hO22x24.ext ((good_owS (good_oFn 94 dp))) hX25
    have hO24_0x25 := hO24_0.ext (o2) hX25
    refine q_not (!(decide (y = y))) rfl rfl zN ?_
    refine lw_nil ?_
    cases hb26 : (!(decide (y = y)))
    ·
     refine c_cond_f (by first | rfl | (show Value.bool _ = _; rw [hb26])) ?_
     refine wp_skip ?_
     refine wp_seq ?_
     refine wp_plain _ [0] rfl ?_
     have htb := tot_bnd hB.2.1 hB.2.2
     have hlt := tot_13 ‹(psR p f y).length≤12∧∀ k,((psR p f y).getD k []).length≤13›
     refine q_assign (.int .i64 ((1 :Nat):Int)) rfl zN ?_
     refine lw_nil ?_
     refine wp_seq ?_
     refine wp_plain _ [2,0,4,0] rfl ?_
     refine q_loadA (p := (.pointer (some ⟨w9.heap.size,0,none⟩))) (.inr rfl) [v9] agg32 rfl (fun w9 hw9 => LD.of_box (BX.ext (w := w25) hB12x25 hw9)) rfl zN ?_
     refine q_move (.int .i64 ((1 :Nat):Int)) rfl zN ?_
     obtain ⟨F27,ho27,hn27,hF27⟩ := hF17x25
     refine lw_callE 17 [] [] [(.agg #[v9]),(.int .i64 ((1 :Nat):Int))] rfl rfl cf17 zN (c_laws_markProgram _ dp v9 p F27 (((1 :Nat):Int)) (ho27.imp fun h => oFn_h _ h) hn27 (by omega) (by omega)) ?_
     rintro e27 w27 ⟨k27,rfl,hC27,hO27,hk27⟩
     refine ⟨_,rfl,?_⟩
     have hE27 : Ext w w27 := hC27.below hE25 (fun c hc => Nat.le_trans (by omega) (hF27 c hc).1) hE25.size
     have hzs27:=hC27.size
     have hF28 := hF13x25.chg hC27 (fun hm => by have := hF27 _ hm; omega)
     have hF29 := hF14x25.chg ((good_owS (good_oFn 94 dp))) hC27 (fun c hc => by have := hF27 c hc; omega)
     have hF30 := hF15x25.chg (o2) hC27 (fun c hc => by have := hF27 c hc; omega)
     have hF31 := hF16x25.chg (o2) hC27 (fun c hc => by have := hF27 c hc; omega)
     have hF32 := hB12x25.chg hC27 (fun hm => by have := hF27 _ hm; omega)
     have hF33 := hO18_0x25.chg (o2) hC27 (fun c hc => by have := hF27 c hc; omega)
     have hF34 := hO19_0x25.chg (o2) hC27 (fun c hc => by have := hF27 c hc; omega)
     have hF35 := hO22x25.chg ((good_owS (good_oFn 94 dp))) hC27 (fun c hc => by have := hF27 c hc; omega)
     have hF36 := hO24_0x25.chg (o2) hC27 (fun c hc => by have := hF27 c hc; omega)
     refine q_assign (.int .i64 k27) rfl zN ?_
     refine lw_nil ?_
     refine wp_seq ?_
     refine wp_plain _ [0,0,4,0] rfl ?_
     refine q_move v18_0 rfl zN ?_
     refine q_move (.int .i64 k27) rfl zN ?_
     obtain ⟨G37,ha37,hb37,hc37⟩ := hF33
     refine lw_callE 19 [] [] [v18_0,(.int .i64 k27)] rfl rfl cf19 zN (c_laws_markInt64SS _ _ _ _ _ ha37 hb37 (by omega) (by omega)) ?_
     rintro e37 w37 ⟨rfl,hC37,hO37⟩
     refine ⟨_,rfl,?_⟩
     have hE37 : Ext w w37 := hC37.below hE27 (fun b hb => Nat.le_trans hE12.size (hc37 b hb).1) hE27.size
     have hF37 := hc37
     have hM37 : Fr (owL (owL rI 2) 25) w12.heap.size w18.heap.size w37.heap v18_0 _ := ⟨G37,hO37,hb37,hc37⟩
     have hzs37:=hC37.size
     have hF38 := hF28.chg hC37 (fun hm => by have := hF37 _ hm; omega)
     have hF39 := hF29.chg ((good_owS (good_oFn 94 dp))) hC37 (fun c hc => by have := hF37 c hc; omega)
     have hF40 := hF30.chg (o2) hC37 (fun c hc => by have := hF37 c hc; omega)
     have hF41 := hF31.chg (o2) hC37 (fun c hc => by have := hF37 c hc; omega)
     have hF42 := hF32.chg hC37 (fun hm => by have := hF37 _ hm; omega)
     have hF43 := hF34.chg (o2) hC37 (fun c hc => by have := hF37 c hc; omega)
     have hF44 := hF35.chg ((good_owS (good_oFn 94 dp))) hC37 (fun c hc => by have := hF37 c hc; omega)
     have hF45 := hF36.chg (o2) hC37 (fun c hc => by have := hF37 c hc; omega)
     refine q_assign (.int .i64 (k27 + ((tot y y.length :Nat):Int))) rfl zN ?_
     refine lw_nil ?_
     refine wp_seq ?_
     refine wp_seq ?_
     refine wp_plain _ [0,0,0,0,0,3,0,0,0,0,0,0,0] rfl ?_
     refine q_move (.int .i64 (k27 + ((tot y y.length :Nat):Int))) rfl zN ?_
     by_cases hc46 : k27 + ((tot y y.length :Nat):Int) < ((0 :Nat):Int)
     ·
      refine q_lss true rfl rfl (decide_eq_true hc46) zN ?_
      refine q_move (.bool true) rfl zN ?_
      refine lw_skip (e := 76) (c := true) rfl rfl rfl rfl ?_
      refine lw_skip (e := 76) (c := true) rfl rfl rfl rfl ?_
      refine lw_skip (e := 76) (c := true) rfl rfl rfl rfl ?_
      refine lw_skip (e := 76) (c := true) rfl rfl rfl rfl ?_
      refine q_pick true (.bool true) rfl rfl zN ?_
      refine q_move (.bool true) rfl zN ?_
      refine lw_skip (e := 82) (c := true) rfl rfl rfl rfl ?_
      refine lw_skip (e := 82) (c := true) rfl rfl rfl rfl ?_
      refine lw_skip (e := 82) (c := true) rfl rfl rfl rfl ?_
      refine q_pick true (.bool true) rfl rfl zN ?_
      refine lw_nil ?_
      refine c_cond_t rfl ?_
      refine wp_seq ?_
      refine wp_plain _ [0] rfl ?_
      refine q_assign (.bool false) rfl zN ?_
      refine lw_nil ?_
      refine wp_ret ?_
      refine t_ret ?_
      exact post_ret [6] rfl (.bool false) rfl ⟨(by first | rfl | (exfalso; omega) | simp_all),hE37⟩
     ·
      refine q_lss false rfl rfl (decide_eq_false hc46) zN ?_
      refine q_move (.bool false) rfl zN ?_
      refine q_move v19_0 rfl (zS (e := 76) rfl rfl rfl) ?_
      refine q_move v8_0 rfl (zS (e := 76) rfl rfl rfl) ?_
      refine lw_call 14 [] [] [v19_0,v8_0] rfl rfl cf14 (zS (e := 76) rfl rfl rfl) (c_laws_eqInt64SS _ _ _ _ _ hF43.rd2 hF41.rd2) ?_
      rintro e47 w47 ⟨rfl,hX47⟩
      refine ⟨_,rfl,hX47,?_⟩
      have hzs47:=hX47.size
      have hE47:=hE37.trans hX47
      have hF38x47 := hF38.ext hX47
      have hF39x47 := hF39.ext ((good_owS (good_oFn 94 dp))) hX47
      have hF40x47 := hF40.ext (o2) hX47
      have hF41x47 := hF41.ext (o2) hX47
      have hF42x47 := hF42.ext hX47
      have hM37x47 := hM37.ext (o2) hX47
      have hF43x47 := hF43.ext (o2) hX47
      have hF44x47 := hF44.ext ((good_owS (good_oFn 94 dp))) hX47
      have hF45x47 := hF45.ext (o2) hX47
      refine q_not (!(decide ((psR p f y) = (psR p f y)))) rfl rfl (zS (e := 76) rfl rfl rfl) ?_
      refine q_pick false (.bool (!(decide ((psR p f y) = (psR p f y))))) rfl rfl zN ?_
      refine q_move (.bool (!(decide ((psR p f y) = (psR p f y))))) rfl zN ?_
      cases hb48 : (!(decide ((psR p f y) = (psR p f y))))
      ·
       refine q_move (.int .i64 (psC p f y)) rfl (zS (e := 82) rfl rfl rfl) ?_
       refine q_move (.int .i64 (psC p f y)) rfl (zS (e := 82) rfl rfl rfl) ?_
       refine q_neq false rfl rfl (by simp) (zS (e := 82) rfl rfl rfl) ?_
       refine q_pick false (.bool false) rfl rfl zN ?_
       refine lw_nil ?_
       refine c_cond_f rfl ?_
       refine wp_skip ?_
       refine wp_seq ?_
       refine wp_plain _ [0] rfl ?_
       refine q_assign (.int .i64 ((1 :Nat):Int)) rfl zN ?_
       refine lw_nil ?_
       refine wp_seq ?_
       refine wp_plain _ [0,0,4,0] rfl ?_
       refine q_move v19_0 rfl zN ?_
       refine q_move (.int .i64 ((1 :Nat):Int)) rfl zN ?_
       obtain ⟨G49,ha49,hb49,hc49⟩ := hF43x47
       refine lw_callE 19 [] [] [v19_0,(.int .i64 ((1 :Nat):Int))] rfl rfl cf19 zN (c_laws_markInt64SS _ _ _ _ _ ha49 hb49 (by omega) (by omega)) ?_
       rintro e49 w49 ⟨rfl,hC49,hO49⟩
       refine ⟨_,rfl,?_⟩
       have hE49 : Ext w w49 := hC49.below hE47 (fun b hb => Nat.le_trans hE18.size (hc49 b hb).1) hE47.size
       have hF49 := hc49
       have hM49 : Fr (owL (owL rI 2) 25) w18.heap.size w19.heap.size w49.heap v19_0 _ := ⟨G49,hO49,hb49,hc49⟩
       have hzs49:=hC49.size
       have hF50 := hF38x47.chg hC49 (fun hm => by have := hF49 _ hm; omega)
       have hF51 := hF39x47.chg ((good_owS (good_oFn 94 dp))) hC49 (fun c hc => by have := hF49 c hc; omega)
       have hF52 := hF40x47.chg (o2) hC49 (fun c hc => by have := hF49 c hc; omega)
       have hF53 := hF41x47.chg (o2) hC49 (fun c hc => by have := hF49 c hc; omega)
       have hF54 := hF42x47.chg hC49 (fun hm => by have := hF49 _ hm; omega)
       have hF55 := hM37x47.chg (o2) hC49 (fun c hc => by have := hF49 c hc; omega)
       have hF56 := hF44x47.chg ((good_owS (good_oFn 94 dp))) hC49 (fun c hc => by have := hF49 c hc; omega)
       have hF57 := hF45x47.chg (o2) hC49 (fun c hc => by have := hF49 c hc; omega)
       refine q_assign (.int .i64 (((1 :Nat):Int) + ((tot (psR p f y) (psR p f y).length :Nat):Int))) rfl zN ?_
       refine lw_nil ?_
       refine wp_seq ?_
       refine wp_plain _ [0] rfl ?_
       refine q_assign (.int .i64 ((1 :Nat):Int)) rfl zN ?_
       refine lw_nil ?_
       refine wp_seq ?_
       refine wp_plain _ [0,0,3,0] rfl ?_
       refine q_move v19_0 rfl zN ?_
       refine q_move (.int .i64 ((1 :Nat):Int)) rfl zN ?_
       refine lw_call 20 [] [] [v19_0,(.int .i64 ((1 :Nat):Int))] rfl rfl cf20 zN (c_laws_heldInt64SS _ _ _ _ hM49.rd2 (by omega) (by rw [mk2_len,mk2_tot _ _ _ (Nat.le_refl _)]; omega) (by intro i hi; rw [mk2_len] at hi; rw [mk2_row,mk2_tot _ _ _ (Nat.le_of_lt hi),mk2_get hi])) ?_
       rintro e58 w58 ⟨rfl,hX58⟩
       refine ⟨_,rfl,hX58,?_⟩
       have hzs58:=hX58.size
       have hE58:=hE49.trans hX58
       have hF50x58 := hF50.ext hX58
       have hF51x58 := hF51.ext ((good_owS (good_oFn 94 dp))) hX58
       have hF52x58 := hF52.ext (o2) hX58
       have hF53x58 := hF53.ext (o2) hX58
       have hF54x58 := hF54.ext hX58
       have hF55x58 := hF55.ext (o2) hX58
       have hM49x58 := hM49.ext (o2) hX58
       have hF56x58 := hF56.ext ((good_owS (good_oFn 94 dp))) hX58
       have hF57x58 := hF57.ext (o2) hX58
       refine q_assign (.int .i64 (((1 :Nat):Int) + ((tot (mk2 (psR p f y) ((1 :Nat):Int)) (mk2 (psR p f y) ((1 :Nat):Int)).length :Nat):Int))) rfl zN ?_
       refine lw_nil ?_
       refine wp_seq ?_
       refine wp_seq ?_
       refine wp_plain _ [0,0] rfl ?_
       refine q_move (.int .i64 (((1 :Nat):Int) + ((tot (mk2 (psR p f y) ((1 :Nat):Int)) (mk2 (psR p f y) ((1 :Nat):Int)).length :Nat):Int))) rfl zN ?_
       by_cases hc59 : ((1 :Nat):Int) + ((tot (mk2 (psR p f y) ((1 :Nat):Int)) (mk2 (psR p f y) ((1 :Nat):Int)).length :Nat):Int) < ((0 :Nat):Int)
       ·
        refine q_lss true rfl rfl (decide_eq_true hc59) zN ?_
        refine lw_nil ?_
        refine c_cond_t rfl ?_
        refine wp_seq ?_
        refine wp_plain _ [0] rfl ?_
        refine q_assign (.bool false) rfl zN ?_
        refine lw_nil ?_
        refine wp_ret ?_
        refine t_ret ?_
        exact post_ret [6] rfl (.bool false) rfl ⟨(by first | rfl | (exfalso; omega) | simp_all),hE58⟩
       ·
        refine q_lss false rfl rfl (decide_eq_false hc59) zN ?_
        refine lw_nil ?_
        refine c_cond_f rfl ?_
        refine wp_skip ?_
        refine wp_seq ?_
        refine wp_seq ?_
        refine wp_plain _ [0,0,0] rfl ?_
        have hmt : tot (mk2 (psR p f y) ((1 :Nat):Int)) (mk2 (psR p f y) ((1 :Nat):Int)).length = tot (psR p f y) (psR p f y).length := by rw [mk2_len,mk2_tot _ _ _ (Nat.le_refl _)]
        refine q_move (.int .i64 (((1 :Nat):Int) + ((tot (mk2 (psR p f y) ((1 :Nat):Int)) (mk2 (psR p f y) ((1 :Nat):Int)).length :Nat):Int))) rfl zN ?_
        refine q_move (.int .i64 (((1 :Nat):Int) + ((tot (psR p f y) (psR p f y).length :Nat):Int))) rfl zN ?_
        by_cases hc60 : ((1 :Nat):Int) + ((tot (mk2 (psR p f y) ((1 :Nat):Int)) (mk2 (psR p f y) ((1 :Nat):Int)).length :Nat):Int) ≠ ((1 :Nat):Int) + ((tot (psR p f y) (psR p f y).length :Nat):Int)
        ·
         refine q_neq true rfl rfl (decide_eq_true hc60) zN ?_
         refine lw_nil ?_
         refine c_cond_t rfl ?_
         refine wp_seq ?_
         refine wp_plain _ [0] rfl ?_
         refine q_assign (.bool false) rfl zN ?_
         refine lw_nil ?_
         refine wp_ret ?_
         refine t_ret ?_
         exact post_ret [6] rfl (.bool false) rfl ⟨(by first | rfl | (exfalso; omega) | simp_all),hE58⟩
        ·
         refine q_neq false rfl rfl (decide_eq_false hc60) zN ?_
         refine lw_nil ?_
         refine c_cond_f rfl ?_
         refine wp_skip ?_
         refine wp_seq ?_
         refine wp_plain _ [2,3,0,0,3,3,0,0,0,0,0] rfl ?_
         refine q_loadA (p := (.pointer (some ⟨w.heap.size,0,none⟩))) (.inr rfl) [vp] agg24 rfl (fun w9 hw9 => LD.of_box (BX.ext (w := w58) hF50x58 hw9)) rfl zN ?_
         refine lw_call 11 [] [] [(.agg #[vp])] rfl rfl cf11 zN (c_laws_toProgram _ dp vp (p) (hp.ext (good_rdS (good_rFn dp)) hE58) (by omega)) ?_
         rintro e61 w61 ⟨v61,rfl,hX61,hO61⟩
         refine ⟨_,rfl,hX61,?_⟩
         have hzs61:=hX61.size
         have hE61:=hE58.trans hX61
         have hF50x61 := hF50x58.ext hX61
         have hF51x61 := hF51x58.ext ((good_owS (good_oFn 94 dp))) hX61
         have hF52x61 := hF52x58.ext (o2) hX61
         have hF53x61 := hF53x58.ext (o2) hX61
         have hF54x61 := hF54x58.ext hX61
         have hF55x61 := hF55x58.ext (o2) hX61
         have hM49x61 := hM49x58.ext (o2) hX61
         have hF56x61 := hF56x58.ext ((good_owS (good_oFn 94 dp))) hX61
         have hF57x61 := hF57x58.ext (o2) hX61
         refine q_move (.int .i64 f) rfl zN ?_
         refine q_move va rfl zN ?_
         refine lw_call 23 [] [] [va] rfl rfl cf23 zN (c_laws_toInt64SS _ _ _ (hy.ext g2 hE61) (by omega) (by intro k; have := hB.2.2 k; omega)) ?_
         rintro e62 w62 ⟨v62_0,rfl,hX62,hO62_0⟩
         refine ⟨_,rfl,hX62,?_⟩
         have hzs62:=hX62.size
         have hE62:=hE61.trans hX62
         have hF50x62 := hF50x61.ext hX62
         have hF51x62 := hF51x61.ext ((good_owS (good_oFn 94 dp))) hX62
         have hF52x62 := hF52x61.ext (o2) hX62
         have hF53x62 := hF53x61.ext (o2) hX62
         have hF54x62 := hF54x61.ext hX62
         have hF55x62 := hF55x61.ext (o2) hX62
         have hM49x62 := hM49x61.ext (o2) hX62
         have hF56x62 := hF56x61.ext ((good_owS (good_oFn 94 dp))) hX62
         have hF57x62 := hF57x61.ext (o2) hX62
         have hO61x62 := hO61.ext ((good_owS (good_oFn 94 dp))) hX62
         refine lw_call 26 [] [] [(.agg #[v61]),(.int .i64 f),v62_0] rfl rfl cf26 zN (c_impl_PicardStep _ dp v61 (p) _ v62_0 (y) (RN.of_frF hO61x62 (fun b hb => by cases hb)) _hf (RN.of_fr2 hO62_0 (fun b hb => by cases hb)) hO62_0.cap (by exact hz)) ?_
         rintro e63 w63 ⟨v63_0,rfl,hX63,hO63_0,hP63_0,hP63_1⟩
         refine ⟨_,rfl,hX63,?_⟩
         have hzs63:=hX63.size
         have hE63:=hE62.trans hX63
         have hF50x63 := hF50x62.ext hX63
         have hF51x63 := hF51x62.ext ((good_owS (good_oFn 94 dp))) hX63
         have hF52x63 := hF52x62.ext (o2) hX63
         have hF53x63 := hF53x62.ext (o2) hX63
         have hF54x63 := hF54x62.ext hX63
         have hF55x63 := hF55x62.ext (o2) hX63
         have hM49x63 := hM49x62.ext (o2) hX63
         have hF56x63 := hF56x62.ext ((good_owS (good_oFn 94 dp))) hX63
         have hF57x63 := hF57x62.ext (o2) hX63
         have hO61x63 := hO61x62.ext ((good_owS (good_oFn 94 dp))) hX63
         have hO62_0x63 := hO62_0.ext (o2) hX63
         refine q_move (.tuple #[v63_0,(.int .i64 (psC p f y))]) rfl zN ?_
         refine q_extract (vs := [v63_0,(.int .i64 (psC p f y))]) v63_0 rfl rfl zN ?_
         refine q_extract (vs := [v63_0,(.int .i64 (psC p f y))]) (.int .i64 (psC p f y)) rfl rfl zN ?_
         refine q_assign v63_0 rfl zN ?_
         refine q_assign (.int .i64 (psC p f y)) rfl zN ?_
         refine lw_nil ?_
         refine wp_seq ?_
         refine wp_seq ?_
         refine wp_plain _ [0,0,3,0,0,0,0,0,0] rfl ?_
         refine q_move v63_0 rfl zN ?_
         refine q_move v8_0 rfl zN ?_
         refine lw_call 14 [] [] [v63_0,v8_0] rfl rfl cf14 zN (c_laws_eqInt64SS _ _ _ _ _ hO63_0.rd2 hF53x63.rd2) ?_
         rintro e64 w64 ⟨rfl,hX64⟩
         refine ⟨_,rfl,hX64,?_⟩
         have hzs64:=hX64.size
         have hE64:=hE63.trans hX64
         have hF50x64 := hF50x63.ext hX64
         have hF51x64 := hF51x63.ext ((good_owS (good_oFn 94 dp))) hX64
         have hF52x64 := hF52x63.ext (o2) hX64
         have hF53x64 := hF53x63.ext (o2) hX64
         have hF54x64 := hF54x63.ext hX64
         have hF55x64 := hF55x63.ext (o2) hX64
         have hM49x64 := hM49x63.ext (o2) hX64
         have hF56x64 := hF56x63.ext ((good_owS (good_oFn 94 dp))) hX64
         have hF57x64 := hF57x63.ext (o2) hX64
         have hO61x64 := hO61x63.ext ((good_owS (good_oFn 94 dp))) hX64
         have hO62_0x64 := hO62_0x63.ext (o2) hX64
         have hO63_0x64 := hO63_0.ext (o2) hX64
         refine q_not (!(decide ((psR p f y) = (psR p f y)))) rfl rfl zN ?_
         refine q_move (.bool (!(decide ((psR p f y) = (psR p f y))))) rfl zN ?_
         cases hb65 : (!(decide ((psR p f y) = (psR p f y))))
         ·
          refine q_move (.int .i64 (psC p f y)) rfl (zS (e := 111) rfl rfl rfl) ?_
          refine q_move (.int .i64 (psC p f y)) rfl (zS (e := 111) rfl rfl rfl) ?_
          refine q_neq false rfl rfl (by simp) (zS (e := 111) rfl rfl rfl) ?_
          refine q_pick false (.bool false) rfl rfl zN ?_
          refine lw_nil ?_
          refine c_cond_f rfl ?_
          refine wp_skip ?_
          refine wp_seq ?_
          refine wp_plain _ [0] rfl ?_
          refine q_assign (.int .i64 ((1 :Nat):Int)) rfl zN ?_
          refine lw_nil ?_
          refine wp_seq ?_
          refine wp_plain _ [0,0,3,0] rfl ?_
          refine q_move v19_0 rfl zN ?_
          refine q_move (.int .i64 ((1 :Nat):Int)) rfl zN ?_
          refine lw_call 20 [] [] [v19_0,(.int .i64 ((1 :Nat):Int))] rfl rfl cf20 zN (c_laws_heldInt64SS _ _ _ _ hM49x64.rd2 (by omega) (by rw [mk2_len,mk2_tot _ _ _ (Nat.le_refl _)]; omega) (by intro i hi; rw [mk2_len] at hi; rw [mk2_row,mk2_tot _ _ _ (Nat.le_of_lt hi),mk2_get hi])) ?_
          rintro e66 w66 ⟨rfl,hX66⟩
          refine ⟨_,rfl,hX66,?_⟩
          have hzs66:=hX66.size
          have hE66:=hE64.trans hX66
          have hF50x66 := hF50x64.ext hX66
          have hF51x66 := hF51x64.ext ((good_owS (good_oFn 94 dp))) hX66
          have hF52x66 := hF52x64.ext (o2) hX66
          have hF53x66 := hF53x64.ext (o2) hX66
          have hF54x66 := hF54x64.ext hX66
          have hF55x66 := hF55x64.ext (o2) hX66
          have hM49x66 := hM49x64.ext (o2) hX66
          have hF56x66 := hF56x64.ext ((good_owS (good_oFn 94 dp))) hX66
          have hF57x66 := hF57x64.ext (o2) hX66
          have hO61x66 := hO61x64.ext ((good_owS (good_oFn 94 dp))) hX66
          have hO62_0x66 := hO62_0x64.ext (o2) hX66
          have hO63_0x66 := hO63_0x64.ext (o2) hX66
          refine q_assign (.int .i64 (((1 :Nat):Int) + ((tot (mk2 (psR p f y) ((1 :Nat):Int)) (mk2 (psR p f y) ((1 :Nat):Int)).length :Nat):Int))) rfl zN ?_
          refine lw_nil ?_
          refine wp_seq ?_
          refine wp_seq ?_
          refine wp_plain _ [0,0] rfl ?_
          refine q_move (.int .i64 (((1 :Nat):Int) + ((tot (mk2 (psR p f y) ((1 :Nat):Int)) (mk2 (psR p f y) ((1 :Nat):Int)).length :Nat):Int))) rfl zN ?_
          by_cases hc67 : ((1 :Nat):Int) + ((tot (mk2 (psR p f y) ((1 :Nat):Int)) (mk2 (psR p f y) ((1 :Nat):Int)).length :Nat):Int) < ((0 :Nat):Int)
          ·
           refine q_lss true rfl rfl (decide_eq_true hc67) zN ?_
           refine lw_nil ?_
           refine c_cond_t rfl ?_
           refine wp_seq ?_
           refine wp_plain _ [0] rfl ?_
           refine q_assign (.bool false) rfl zN ?_
           refine lw_nil ?_
           refine wp_ret ?_
           refine t_ret ?_
           exact post_ret [6] rfl (.bool false) rfl ⟨(by first | rfl | (exfalso; omega) | simp_all),hE66⟩
          ·
           refine q_lss false rfl rfl (decide_eq_false hc67) zN ?_
           refine lw_nil ?_
           refine c_cond_f rfl ?_
           refine wp_skip ?_
           refine wp_seq ?_
           refine wp_seq ?_
           refine wp_plain _ [0,0,0] rfl ?_
           have hmt : tot (mk2 (psR p f y) ((1 :Nat):Int)) (mk2 (psR p f y) ((1 :Nat):Int)).length = tot (psR p f y) (psR p f y).length := by rw [mk2_len,mk2_tot _ _ _ (Nat.le_refl _)]
           refine q_move (.int .i64 (((1 :Nat):Int) + ((tot (mk2 (psR p f y) ((1 :Nat):Int)) (mk2 (psR p f y) ((1 :Nat):Int)).length :Nat):Int))) rfl zN ?_
           refine q_move (.int .i64 (((1 :Nat):Int) + ((tot (psR p f y) (psR p f y).length :Nat):Int))) rfl zN ?_
           by_cases hc68 : ((1 :Nat):Int) + ((tot (mk2 (psR p f y) ((1 :Nat):Int)) (mk2 (psR p f y) ((1 :Nat):Int)).length :Nat):Int) ≠ ((1 :Nat):Int) + ((tot (psR p f y) (psR p f y).length :Nat):Int)
           ·
            refine q_neq true rfl rfl (decide_eq_true hc68) zN ?_
            refine lw_nil ?_
            refine c_cond_t rfl ?_
            refine wp_seq ?_
            refine wp_plain _ [0] rfl ?_
            refine q_assign (.bool false) rfl zN ?_
            refine lw_nil ?_
            refine wp_ret ?_
            refine t_ret ?_
            exact post_ret [6] rfl (.bool false) rfl ⟨(by first | rfl | (exfalso; omega) | simp_all),hE66⟩
           ·
            refine q_neq false rfl rfl (decide_eq_false hc68) zN ?_
            refine lw_nil ?_
            refine c_cond_f rfl ?_
            refine wp_skip ?_
            refine wp_seq ?_
            refine wp_plain _ [0] rfl ?_
            refine q_assign (.bool true) rfl zN ?_
            refine lw_nil ?_
            refine wp_ret ?_
            exact post_ret [6] rfl (.bool true) rfl ⟨(by first | rfl | (exfalso; omega) | simp_all),hE66⟩
         ·
          refine lw_skip (e := 111) (c := true) rfl rfl rfl rfl ?_
          refine lw_skip (e := 111) (c := true) rfl rfl rfl rfl ?_
          refine lw_skip (e := 111) (c := true) rfl rfl rfl rfl ?_
          refine q_pick true (.bool true) rfl rfl zN ?_
          refine lw_nil ?_
          refine c_cond_t rfl ?_
          refine wp_seq ?_
          refine wp_plain _ [0] rfl ?_
          refine q_assign (.bool false) rfl zN ?_
          refine lw_nil ?_
          refine wp_ret ?_
          refine t_ret ?_
          exact post_ret [6] rfl (.bool false) rfl ⟨(by first | rfl | (exfalso; omega) | simp_all),hE64⟩
      ·
       refine lw_skip (e := 82) (c := true) rfl rfl rfl rfl ?_
       refine lw_skip (e := 82) (c := true) rfl rfl rfl rfl ?_
       refine lw_skip (e := 82) (c := true) rfl rfl rfl rfl ?_
       refine q_pick true (.bool true) rfl rfl zN ?_
       refine lw_nil ?_
       refine c_cond_t rfl ?_
       refine wp_seq ?_
       refine wp_plain _ [0] rfl ?_
       refine q_assign (.bool false) rfl zN ?_
       refine lw_nil ?_
       refine wp_ret ?_
       refine t_ret ?_
       exact post_ret [6] rfl (.bool false) rfl ⟨(by first | rfl | (exfalso; omega) | simp_all),hE47⟩
    ·
     refine c_cond_t (by first | rfl | (show Value.bool _ = _; rw [hb26])) ?_
     refine wp_seq ?_
     refine wp_plain _ [0] rfl ?_
     refine q_assign (.bool false) rfl zN ?_
     refine lw_nil ?_
     refine wp_ret ?_
     refine t_ret ?_
     exact post_ret [6] rfl (.bool false) rfl ⟨(by first | rfl | (exfalso; omega) | simp_all),hE25⟩
   ·
    refine lw_skip (e := 53) (c := true) rfl rfl rfl rfl ?_
    refine lw_skip (e := 53) (c := true) rfl rfl rfl rfl ?_
    refine lw_skip (e := 53) (c := true) rfl rfl rfl rfl ?_
    refine q_pick true (.bool true) rfl rfl zN ?_
    refine lw_nil ?_
    refine c_cond_t rfl ?_
    refine wp_seq ?_
    refine wp_plain _ [0] rfl ?_
    refine q_assign (.bool false) rfl zN ?_
    refine lw_nil ?_
    refine wp_ret ?_
    refine t_ret ?_
    exact post_ret [6] rfl (.bool false) rfl ⟨(by first | rfl | (exfalso; omega) | simp_all),hE20⟩
end Go.Proofs.YtnofbmdpabcjaaaGreat
namespace Go.Proofs.YtnofbmdpabcjaaaGreat
open Go Go.RowKit Go.ChangeShapes Go.WideShapes Go.Deep
set_option linter.unusedVariables false
set_option linter.unusedSimpArgs false
theorem flat_get {s : Nat} : ∀ {css : List (List Value)} (k : Nat) {j : Nat}, (∀ c ∈ css, c.length = s) → j < s → css.flatten[k * s + j]? = (css[k]?).bind fun c => c[j]?
  | [], k, j, _, _ => by simp
  | c :: css, 0, j, h, hj => by
    have hc := h c (List.mem_cons_self ..)
    rw [Nat.zero_mul, Nat.zero_add, List.flatten_cons, List.getElem?_append_left (by omega)]
    simp
  | c :: css, k + 1, j, h, hj => by
    have hc := h c (List.mem_cons_self ..)
    rw [List.flatten_cons, List.getElem?_append_right (by rw [Nat.succ_mul]; omega), show (k + 1) * s + j - c.length = k * s + j from by rw [Nat.succ_mul]; omega,
      flat_get k (fun c hc => h c (List.mem_cons_of_mem _ hc)) hj]
    simp
theorem elsN_of {α : Type} {E : StandN α} {H : Array Obj} (U : Nat → List Value) (X : Nat → α) : ∀ (n : Nat), (∀ i, i < n → ∃ F, E H (U i) (X i) F) → ∃ F, elsN E H ((List.range n).map U) ((List.range n).map X) F
  | 0, _ => ⟨[], rfl⟩
  | n + 1, h => by
    obtain ⟨F, hF⟩ := elsN_of U X n fun i hi => h i (by omega)
    obtain ⟨G, hG⟩ := h n (by omega)
    rw [List.range_succ, List.map_append, List.map_append]
    exact ⟨F ++ (G ++ []), hF.append ⟨G, [], rfl, hG, rfl⟩⟩
theorem rdS_row {α : Type} {E : StandN α} {s : Nat} (hE : GoodN s E) (hs : 0 < s) {W : World} {a : Addr} {n cap : Nat} (hn : n ≤ maxLen) (hnc : n ≤ cap) (U : Nat → List Value) (X : Nat → α)
    (hc : ∀ i, i < n → ∀ j, j < s → W.cell? (a.add (i * s + j)) = (U i)[j]?) (hX : ∀ i, i < n → ∃ F, E W.heap (U i) (X i) F) : ∃ F, rdS s E W.heap (.slice (some a) n cap) ((List.range n).map X) F := by
  by_cases h0 : n = 0
  · subst h0
    exact ⟨[], .inl ⟨some a, cap, rfl, rfl, rfl⟩⟩
  · obtain ⟨F, hF⟩ := elsN_of U X n hX
    have hlU : ∀ i, i < n → (U i).length = s := fun i hi => by obtain ⟨G, hG⟩ := hX i hi; exact hE.len hG
    obtain ⟨g, off, spot⟩ := a
    have h1 := hc 0 (by omega) 0 hs
    rw [List.getElem?_eq_getElem (by rw [hlU 0 (by omega)]; exact hs)] at h1
    have hsp : spot = none := by simpa [Addr.add] using World.cell?_spot h1
    subst hsp
    have hcell : ∀ i, i < n → ∀ j, j < s → cellH W.heap g (off + (i * s + j)) = (U i)[j]? := fun i hi j hj => by
      have := hc i hi j hj
      rw [add_plain, cell_cellH] at this
      exact this
    have h2 := hcell 0 (by omega) 0 hs
    rw [List.getElem?_eq_getElem (by rw [hlU 0 (by omega)]; exact hs)] at h2
    unfold cellH at h2
    cases hg : W.heap[g]? with
    | none => rw [hg] at h2; cases h2
    | some o =>
      cases o with
      | cells cur e fr =>
        refine ⟨g :: F, .inr ⟨(List.range n).map U, g, off, cap, cur, e, fr, F, hF, by simp, hg, ?_, ⟨by simpa using hn, by simpa using hnc⟩, rfl⟩⟩
        have hlen : ∀ c ∈ (List.range n).map U, c.length = s := fun c hc => by
          obtain ⟨i, hi, rfl⟩ := List.mem_map.1 hc
          exact hlU i (List.mem_range.1 hi)
        have hfl := hF.flen hE
        apply List.ext_getElem?
        intro q
        rw [List.getElem?_take, List.getElem?_drop]
        simp only [List.length_map, List.length_range] at hfl ⊢
        by_cases hq : q < n * s
        · have e1 : q = q / s * s + q % s := by rw [Nat.mul_comm, Nat.div_add_mod]
          have hj : q % s < s := Nat.mod_lt _ hs
          have hi : q / s < n := (Nat.div_lt_iff_lt_mul hs).2 hq
          have h3 := hcell (q / s) hi (q % s) hj
          unfold cellH at h3
          rw [hg, ← e1] at h3
          have h4 := flat_get (css := (List.range n).map U) (q / s) hlen hj
          rw [← e1] at h4
          rw [if_pos hq, h4]
          simp only [Array.getElem?_toList] at *
          rw [h3]
          simp [hi]
        · rw [if_neg hq, List.getElem?_eq_none (by omega)]
      | _ => rw [hg] at h2; cases h2
/-- What the table of types says of a struct: places and types. -/
def stTy (P : Program) (t : TypeId) (l : List (Nat × TypeId)) : Bool :=
  match P.underlying t with
  | some (.struct fs) => decide (fs.toList.map (fun f => (f.offset, f.type)) = l)
  | _ => false
section
variable {H : Type} {enc : TypeId × Value → H} {P : Program} {W : World} {base : Nat} {held : Bool} {sp : Nat → Bool}
theorem st_field {t : TypeId} {l : List (Nat × TypeId)} {fuel : Nat} {cs : List Value} {x : DataW H × List MemPlace} (ht : stTy P t l = true) (h : DataW.trod enc P W base sp held fuel t cs = some x) :
    ∃ n, fuel = n + 1 ∧ cs.length = P.cellsOf t ∧ ∀ (i o : Nat) (ty : TypeId), l[i]? = some (o, ty) → ∃ y, DataW.trod enc P W base sp held n ty ((cs.drop o).take (P.cellsOf ty)) = some y := by
  unfold stTy at ht
  split at ht
  · rename_i fs hfs
    have hl := of_decide_eq_true ht
    obtain ⟨xs, n, hfu, _, hlen, hxl, hf⟩ := DataW.trod_struct hfs h
    refine ⟨n, hfu, hlen, fun i o ty hi => ?_⟩
    rw [← hl, List.getElem?_map] at hi
    obtain ⟨f, hf1, hf2⟩ := Option.map_eq_some_iff.1 hi
    have hf3 : fs[i]? = some f := by simpa using hf1
    have hil : i < xs.length := by
      rw [hxl]
      exact (Array.getElem?_eq_some_iff.1 hf3).1
    have h2 := hf i f hf3
    injection hf2 with e1 e2
    rw [← e1, ← e2, h2]
    exact ⟨xs[i], List.getElem?_eq_getElem hil⟩
  · cases ht
theorem rEx_up : ∀ {d : Nat} {H : Array Obj} {cs : List Value} {x : Ex} {F : List Nat}, rEx d H cs x F → rEx (d + 1) H cs x F
  | 0, _, _, _, _, h => h.elim
  | d + 1, _, _, _, _, ⟨v, h1, h2, h3⟩ => ⟨v, h1, h2, h3.imp fun h => rEx_up h⟩
/-- A slice of structs, opened. -/
theorem open_rdS {α : Type} [Inhabited α] {E : StandN α} {t e : TypeId} {s fuel : Nat} {u : Value} {x : DataW H × List MemPlace} (hE : GoodN s E) (hs : 0 < s) (ht : P.underlying t = some (.slice e)) (ce : P.cellsOf e = s)
    (hel : ∀ {n : Nat} {cs : List Value} {x : DataW H × List MemPlace}, fuel = n + 1 → DataW.trod enc P W base (fun _ => true) held n e cs = some x → ∃ (y : α) (F : List Nat), E W.heap cs y F)
    (hf : DataW.trod enc P W base (fun _ => true) held fuel t [u] = some x) : ∃ (zs : List α) (F : List Nat), rdS s E W.heap u zs F := by
  rcases DataW.trod_slice ht hf with ⟨hcs, _⟩ | ⟨a, len, cap, elems, rest, n, hfu, hcs, _, _, hl, hm, hlen, helm, _, _⟩
  · simp only [List.cons.injEq, and_true] at hcs
    subst hcs
    exact ⟨[], [], .inl ⟨none, 0, rfl, rfl, rfl⟩⟩
  · simp only [List.cons.injEq, and_true] at hcs
    subst hcs
    have h1 : ∀ i, i < len → ∃ c : List Value × α, (∀ j, j < s → W.cell? (a.add (i * s + j)) = c.1[j]?) ∧ ∃ F, E W.heap c.1 c.2 F := by
      intro i hi
      have h2 := helm i hi
      rw [List.getElem?_eq_getElem (by omega)] at h2
      obtain ⟨cs', q1, q2⟩ := Option.bind_eq_some_iff.1 h2
      obtain ⟨_, ql, qc⟩ := World.cells?_some q1
      obtain ⟨y, F, hy⟩ := hel hfu q2
      refine ⟨(cs', y), fun j hj => ?_, F, hy⟩
      have := qc j (by rw [ce]; exact hj)
      rwa [add_add, ce] at this
    obtain ⟨C, hC⟩ := choose_lt (α := List Value × α) (n := len) h1
    obtain ⟨F, hF⟩ := rdS_row hE hs (W := W) (a := a) (n := len) (cap := cap) (by omega) hl (fun i => (C i).1) (fun i => (C i).2) (fun i hi => (hC i hi).1) (fun i hi => (hC i hi).2)
    exact ⟨_, F, hF⟩
instance : Inhabited Ex := ⟨Ex.zero⟩
instance : Inhabited Fn := ⟨Fn.zero⟩
/-- Expressions, opened. -/
theorem open_exs {tS tE ti : TypeId} (hS : P.underlying tS = some (.slice tE)) (hE : stTy P tE [(0, ti), (1, ti), (2, ti), (3, ti), (4, tS)] = true) (hi : P.underlying ti = some (.int .i64)) (cE : P.cellsOf tE = 5) (ci : P.cellsOf ti = 1) (cS : P.cellsOf tS = 1) :
    ∀ (fuel : Nat) (u : Value) (x : DataW H × List MemPlace), DataW.trod enc P W base (fun _ => true) held fuel tS [u] = some x → ∃ (zs : List Ex) (F : List Nat), rdS 5 (rEx fuel) W.heap u zs F := by
  intro fuel
  induction fuel using Nat.strongRecOn with
  | _ fuel ih =>
    intro u x hf
    refine open_rdS (good_rEx fuel) (by decide) hS cE ?_ hf
    intro n cs y hfu hy
    obtain ⟨m, hm, hlen, hfd⟩ := st_field hE hy
    have num : ∀ o, o < 4 → ∃ z : Int, (cs.drop o).take 1 = [.int .i64 z] ∧ i64 z := by
      intro o ho
      obtain ⟨y', hy'⟩ := hfd o o ti (by match o, ho with | 0, _ => rfl | 1, _ => rfl | 2, _ => rfl | 3, _ => rfl)
      rw [ci] at hy'
      obtain ⟨z, hz, _, hw⟩ := DataW.trod_int hi hy'
      exact ⟨z, hz, wf_i64 hw⟩
    obtain ⟨y4, hy4⟩ := hfd 4 4 tS rfl
    rw [cS] at hy4
    rw [cE] at hlen
    match cs, hlen with
    | [c0, c1, c2, c3, c4], _ =>
      obtain ⟨z0, e0, r0⟩ := num 0 (by decide)
      obtain ⟨z1, e1, r1⟩ := num 1 (by decide)
      obtain ⟨z2, e2, r2⟩ := num 2 (by decide)
      obtain ⟨z3, e3, r3⟩ := num 3 (by decide)
      have q0 : c0 = .int .i64 z0 := by simpa using e0
      have q1 : c1 = .int .i64 z1 := by simpa using e1
      have q2 : c2 = .int .i64 z2 := by simpa using e2
      have q3 : c3 = .int .i64 z3 := by simpa using e3
      subst q0; subst q1; subst q2; subst q3
      obtain ⟨zs, F, hz⟩ := ih m (by omega) c4 y4 hy4
      subst hm
      subst hfu
      exact ⟨.mk z0 z1 z2 z3 zs, F, rEx_up (d := m + 1) ⟨c4, rfl, ⟨r0, r1, r2, r3⟩, hz⟩⟩
/-- A program, opened. -/
theorem open_prog {t tF tN tS tE ti tz : TypeId} {d : DataW H} {ps : List MemPlace} {v : Value} {b0 : Nat} {r : Reach} (hP : stTy P t [(0, tF)] = true) (hF : P.underlying tF = some (.slice tN)) (hN : stTy P tN [(0, tz), (1, ti), (2, tS)] = true)
    (hS : P.underlying tS = some (.slice tE)) (hE : stTy P tE [(0, ti), (1, ti), (2, ti), (3, ti), (4, tS)] = true) (hi : P.underlying ti = some (.int .i64)) (hz : P.underlying tz = some .string)
    (cP : P.cellsOf t = 1) (cF : P.cellsOf tF = 1) (cN : P.cellsOf tN = 3) (cE : P.cellsOf tE = 5) (ci : P.cellsOf ti = 1) (cS : P.cellsOf tS = 1) (cz : P.cellsOf tz = 1)
    (hval : Value.okWide P W r b0 t v) (hd : DataW.Trod enc P W base (fun _ => true) held t v d ps) :
    ∃ (u : Value) (dp : Nat) (p : List Fn), v = .agg #[u] ∧ RP [] dp W.heap u p ∧ ∀ k, k < p.length → (p.getD k Fn.zero).name.size ≤ 9223372036854775807 := by
  have hstr : ∃ fs, P.underlying t = some (.struct fs) := by
    unfold stTy at hP
    split at hP
    · rename_i fs hfs; exact ⟨fs, hfs⟩
    · cases hP
  obtain ⟨fs, hfs⟩ := hstr
  obtain ⟨cs, rfl, hcs⟩ := okWide_struct hfs hval
  obtain ⟨fuel, hf⟩ := hd
  obtain ⟨n, hfu, hlen, hfd⟩ := st_field hP hf
  obtain ⟨y, hy⟩ := hfd 0 0 tF rfl
  rw [cF] at hy
  rw [cP] at hlen
  have hlen' : cs.toList.length = 1 := hlen
  match hcl : cs.toList, hlen' with
  | [u], _ =>
    have hcu : cs = #[u] := by apply Array.ext'; simpa using hcl
    subst hcu
    have hy' : DataW.trod enc P W base (fun _ => true) held n tF [u] = some y := hy
    obtain ⟨zs, F, hzs⟩ := open_rdS (E := fun H cs f F => rFn n H cs f F ∧ f.name.size ≤ 9223372036854775807) (s := 3)
      ⟨fun h => (good_rFn n).len h.1, fun h => (good_rFn n).one h.1, fun h => (good_rFn n).lt h.1, fun h hb => ⟨(good_rFn n).stable h.1 hb, h.2⟩⟩ (by decide) hF cN (by
        intro m cs y hm hy
        obtain ⟨q, hq, hlen, hfd⟩ := st_field hN hy
        rw [cN] at hlen
        obtain ⟨y0, h0⟩ := hfd 0 0 tz rfl
        obtain ⟨y1, h1⟩ := hfd 1 1 ti rfl
        obtain ⟨y2, h2⟩ := hfd 2 2 tS rfl
        rw [cz] at h0
        rw [ci] at h1
        rw [cS] at h2
        match cs, hlen with
        | [c0, c1, c2], _ =>
          obtain ⟨s, e0, _, hs⟩ := DataW.trod_string hz h0
          obtain ⟨z, e1, _, hw⟩ := DataW.trod_int hi h1
          have q0 : c0 = .string s := by simpa using e0
          have q1 : c1 = .int .i64 z := by simpa using e1
          subst q0; subst q1
          obtain ⟨es, F, hes⟩ := open_exs (enc := enc) (W := W) (base := base) (held := held) hS hE hi cE ci cS q c2 y2 h2
          have hup : ∀ k, rdS 5 (rEx (q + k)) W.heap c2 es F := by
            intro k
            induction k with
            | zero => exact hes
            | succ k ih => exact ih.imp fun h => rEx_up h
          have hn : rdS 5 (rEx n) W.heap c2 es F := by
            have := hup (n - q)
            rwa [show q + (n - q) = n from by omega] at this
          exact ⟨⟨s, z, es⟩, F, ⟨c2, rfl, wf_i64 hw, hn⟩, by unfold maxLen at hs; exact hs⟩) hy'
    refine ⟨u, n, zs, rfl, ⟨F, hzs.imp fun h => h.1, fun b hb hm => by cases hm⟩, fun k hk => ?_⟩
    obtain ⟨cs, G, hg, _⟩ := rdS.get (E := fun H cs f F => rFn n H cs f F ∧ f.name.size ≤ 9223372036854775807) (s := 3) ⟨fun h => (good_rFn n).len h.1, fun h => (good_rFn n).one h.1, fun h => (good_rFn n).lt h.1, fun h hb => ⟨(good_rFn n).stable h.1 hb, h.2⟩⟩ Fn.zero hzs hk
    exact hg.2
end
end Go.Proofs.YtnofbmdpabcjaaaGreat
