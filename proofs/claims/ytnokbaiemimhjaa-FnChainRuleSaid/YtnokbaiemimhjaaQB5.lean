/- Vn, Vo, Xf, Xg, Xk, Gq, Xa, Xb: texts of this claim, joined; what the claim does not come to is left out. -/
import Derived.Test.YtnokbaiemimhjaaQB4
import Derived.Test.YtnokbaiemimhjaaProg
set_option linter.unusedVariables false
set_option linter.unusedSimpArgs false
namespace Go.Proofs.Ytnokbaiemimhjaa
open Go Go.RowKit
set_option linter.unusedVariables false
set_option linter.unusedSimpArgs false
set_option maxHeartbeats 4000000
set_option maxRecDepth 100000
attribute [local irreducible] LW
theorem c_call (F d : Nat) (IH1 : ∀ F',F' < F → ∀ d,SV F' d) (IH2 : ∀ d',d' < d → SV F d') : SC F d := by
 intro w S g pp dp n s0 c0 p ve ex vv env hS hgS hB0 hp hn hs0 hc0 hex henv hqenv hvp hF hwf hse hdp hk
 exact c_spec_l02Run_call w S F g pp dp n s0 c0 p d ve ex vv env hS hgS hB0 hp hn hs0 hc0 hex henv hqenv hvp hF hwf hse hdp hk IH1 IH2
theorem z135_0 {p : Prop} (h : p := by first | exact rel_if0 hc00 hs1 oM oM ‹RelV (go c0 (evE _ _ (ex.kids.getD 0 _) _ _)) _ _ _› oM (by assumption) | exact rel_if1 hc00 hs1 oM oM ‹RelV (go c0 (evE _ _ (ex.kids.getD 0 _) _ _)) _ _ _› oM (by assumption)) : p := h
theorem z135_1 {p : Prop} (h : p := by have := kd_at (l := ex.kids) (k := 0) oM; omega) : p := h
theorem z135_2 {p : Prop} (h : p := by exact wf_at0 hwf oM oM) : p := h
theorem z135_3 {p : Prop} (h : p := by simp [exC, fnC]) : p := h
theorem c_spec_l02Run_expr (w : World) (S : List Nat) (F : Nat) (g : Nat) (pp : Value) (dp n s0 : Nat) (c0 : Int) (p : List Fn) (dex : Nat) (ve : Value) (ex : Ex) (vv : Value) (env : List (List Int)) (hS : ∀ b ∈ S,b < w.heap.size) (hgS : g ∈ S) (hB0 : BX w.heap g [pp,.int .i64 ((n :Nat):Int),.int .i64 ((s0 :Nat):Int),.int .i64 c0]) (hp : RN S (rP (rPr dp)) w.heap pp p) (hn : 1 ≤ n ∧ n ≤ 13) (hs0 : s0 ≤ 3000) (hc0 : 0 ≤ c0 ∧ c0 ≤ 9) (hex : RN S (rP (rEx dex)) w.heap ve ex) (henv : RN S (rdL (rdL rI)) w.heap vv env) (hqenv : CapS vv) (hvp : VPr p) (hF : F ≤ p.length) (hwf : wf p ((F :Nat):Int) ex ((env.length :Nat):Int) = true) (hse : SrE n env) (hdp : env.length + ex.deep ≤ 1000000) (IH1 : ∀ F',F' < F → ∀ d,SV F' d) (IH2 : ∀ d',d' < dex → SV F d') :
  Calls Try.prog 135 #[.pointer (some ⟨g,0,none⟩),ve,vv] w (fun e w' => ∃ (v : Value) (x : List Int) (s1 : Nat) (c1 : Int),e = .returned v ∧ Chg [g] w w' ∧ BX w'.heap g [pp,.int .i64 ((n :Nat):Int),.int .i64 ((s1 :Nat):Int),.int .i64 c1] ∧ RN S (rdL rI) w'.heap v x ∧ Ser1 n x ∧ s1 ≤ 3000 ∧ (0 ≤ c1 ∧ c1 ≤ 9) ∧ RelV (go c0 (evE n (evC p n F) ex env s0)) x s1 c1) := by
 refine calls_mk [.pointer (some ⟨g,0,none⟩),ve,vv] 186 Try.func135 rfl rfl sM ?_
 have hE0 : Chg [g] w w := Chg.refl [g] w
 have hl_vv := henv.lenL
 unfold maxLen at hl_vv
 have hgl := hB0.lt
 have hdk := deep_kids ex
 refine wp_seq (wp_plain _ [0] rfl (lw_tvn 1 rfl (wp_seq (wp_seq (wp_plain _ [0,0,0,2,0] rfl (lw_tv 1 rfl (q_nil rfl zN (q_fldP (p := (.pointer (some ⟨g,0,none⟩))) (b := g) (o := 0) 3 fd144_3 rfl rfl zN (q_load (p := (padd (.pointer (some ⟨g,0,none⟩)) 3)) (.inr rfl) (.int .i64 c0) one2 rfl (hB0.ldp (i := 3) sM) zN ?_)))))))))
 by_cases hc1 : c0 ≠ ((0 :Nat):Int)
 ·
  refine q_neq true rfl rfl (decide_eq_true hc1) zN (lw_nil (c_cond_t rfl (wp_seq (wp_plain _ [0,0,0,0,2,4,0] rfl (lw_tv 2 rfl (q_nil rfl zN (q_fldP (p := (.pointer (some ⟨g,0,none⟩))) (b := g) (o := 0) 3 fd144_3 rfl rfl zN (q_load (p := (padd (.pointer (some ⟨g,0,none⟩)) 3)) (.inr rfl) (.int .i64 c0) one2 rfl (hB0.ldp (i := 3) sM) zN (lw_callE 144 [] [] [(.pointer (some ⟨g,0,none⟩)),(.int .i64 c0)] rfl rfl cf144 zN (c_spec_l02Run_fail _ S g pp dp (n) (s0) (c0) (p) (c0) (fun b hb => (by have := hS b hb; omega : b < w.heap.size)) hgS hB0 (hp.chg (good_rP (good_rPr dp)) (hE0.sub (subS hgS))) oM oM oM oM oM) ?_)))))))))
  rintro e2 w2 ⟨v2,x2,s2,c2,rfl,hC2,hB2,hr2,hse2,hsb2,hcb2,hrl2⟩
  refine ⟨_,rfl,?_⟩
  have hzs2:=hC2.size
  have hE2 : Chg [g] w w2 := hE0.trans hC2
  have hsn2 := hse2.1
  have hfs := hrl2.1
  have hff := hrl2.2
  exact lw_tvn 1 rfl (wp_ret (t_ret (post_ret [6] rfl v2 rfl ⟨v2,x2,s2,c2,rfl,hE2,hB2,hr2,(by assumption),oM,oM,(by rw [hff,if_neg oM]; exact rel_code oM)⟩)))
 ·
  refine q_neq false rfl rfl (decide_eq_false hc1) zN (lw_nil (c_cond_f rfl (wp_skip (wp_seq (wp_seq (wp_plain _ [0,0,0,2,0] rfl (lw_tv 1 rfl (q_nil rfl zN (q_fldP (p := (.pointer (some ⟨g,0,none⟩))) (b := g) (o := 0) 2 fd144_2 rfl rfl zN (q_load (p := (padd (.pointer (some ⟨g,0,none⟩)) 2)) (.inr rfl) (.int .i64 ((s0 :Nat):Int)) one2 rfl (hB0.ldp (i := 2) sM) zN ?_))))))))))
  by_cases hc6 : ((s0 :Nat):Int) = ((3000 :Nat):Int)
  ·
   refine q_eql true rfl rfl (decide_eq_true hc6) zN (lw_nil (c_cond_t rfl (wp_seq (wp_plain _ [0,4,0] rfl (lw_tv 1 rfl (lw_callE 144 [] [] [(.pointer (some ⟨g,0,none⟩)),(.int .i64 ((7 :Nat):Int))] rfl rfl cf144 zN (c_spec_l02Run_fail _ S g pp dp (n) (s0) (c0) (p) (((7 :Nat):Int)) (fun b hb => (by have := hS b hb; omega : b < w.heap.size)) hgS hB0 (hp.chg (good_rP (good_rPr dp)) (hE0.sub (subS hgS))) oM oM oM oM oM) ?_))))))
   rintro e7 w7 ⟨v7,x7,s7,c7,rfl,hC7,hB7,hr7,hse7,hsb7,hcb7,hrl7⟩
   refine ⟨_,rfl,?_⟩
   have hzs7:=hC7.size
   have hE7 : Chg [g] w w7 := hE0.trans hC7
   have hsn7 := hse7.1
   have hfs := hrl7.1
   have hff := hrl7.2
   exact lw_tvn 1 rfl (wp_ret (t_ret (post_ret [6] rfl v7 rfl ⟨v7,x7,s7,c7,rfl,hE7,hB7,hr7,(by assumption),oM,oM,(by rw [hff,if_pos oM]; exact rel_budget oM oM)⟩)))
  ·
   refine q_eql false rfl rfl (decide_eq_false hc6) zN (lw_nil (c_cond_f rfl (wp_skip (wp_seq (wp_plain _ [0,0,0,2,0,0,0,4] rfl (lw_tv 1 rfl (q_nil rfl zN (q_fldP (p := (.pointer (some ⟨g,0,none⟩))) (b := g) (o := 0) 2 fd144_2 rfl rfl zN (q_load (p := (padd (.pointer (some ⟨g,0,none⟩)) 2)) (.inr rfl) (.int .i64 ((s0 :Nat):Int)) one2 rfl (hB0.ldp (i := 2) sM) zN (q_add ((s0 + 1 :Nat):Int) rfl rfl (w64n oM oM) zN (q_nil rfl zN (q_fldP (p := (.pointer (some ⟨g,0,none⟩))) (b := g) (o := 0) 2 fd144_2 rfl rfl zN (e_setB (k := 2) (w := w) sz2 rfl rfl ⟨rfl,rfl⟩ hB0 sM zN fun w11 hC11 hz11 hB11 => ?_)))))))))))))
   replace hB11 : BX w11.heap g [pp,(.int .i64 ((n :Nat):Int)),(.int .i64 ((s0 + 1 :Nat):Int)),(.int .i64 c0)] := hB11
   have hE11 : Chg [g] w w11 := hE0.trans hC11
   have hzs11:=hC11.size
   refine lw_nil (wp_seq (wp_seq (wp_plain _ [0,0,0,2] rfl ?_)))
   have hc00 : c0 = 0 := by omega
   have hs1 : s0 + 1 ≤ 3000 := by omega
   refine lw_tv 1 rfl (q_nilP (hex.isPtr) rfl zN ?_)
   obtain ⟨cs12,hr12,hl12⟩ := RN.at (good_rEx _) hex
   obtain ⟨dd12,ve12,hd12,rfl,hx12⟩ := RX.of hr12
   have hln12 := hx12.rn.lenle
   unfold maxLen at hln12
   refine q_fldL (p := ve) 0 fd31_0 rfl (hl12 _ (hE11.sub (subS hgS))) zN (q_load (p := (padd ve 0)) (.inr rfl) (.int .i64 ex.kind) one2 rfl ((hl12 _ (hE11.sub (subS hgS))).ld (i := 0) z135_3) zN (lw_nil (wp_block (wp_seq (wp_plain _ [0,0] rfl ?_)))))
   by_cases hc13 : ex.kind = ((1 :Nat):Int)
   ·
    refine q_eql true rfl rfl (decide_eq_true hc13) zN (lw_tvn 1 rfl (c_cond_t rfl (wp_seq (wp_draw _ [0,0,0,1,0,0,0,1,3,0] mixed (by kernel_rfl) ?_))))
    have hwk := wk_num hwf oM
    refine lw_tv 1 rfl (q_nilP (hex.isPtr) rfl zN (q_fldL (p := ve) 1 fd31_1 rfl (hl12 _ (hE11.drew.sub (subS hgS))) zN (q_load (p := (padd ve 1)) (.inl rfl) (.int .i64 ex.num) one2 rfl ((hl12 _ (hE11.drew.sub (subS hgS))).ld (i := 1) z135_3) zN (lw_tv 1 rfl (q_nil rfl zN (q_fldP (p := (.pointer (some ⟨g,0,none⟩))) (b := g) (o := 0) 1 fd144_1 rfl rfl zN (q_load (p := (padd (.pointer (some ⟨g,0,none⟩)) 1)) (.inl rfl) (.int .i64 ((n :Nat):Int)) one3 rfl (hB11.ldp (i := 1) sM) zN ?_)))))))
    refine lw_call 145 [] [] [(.int .i64 ex.num),(.int .i64 ((n :Nat):Int))] rfl rfl cf145 zN (c_spec_l01Const _ _ (n) hx12.rng.num sD oM) ?_
    rintro e14 w14 ⟨v14_0,rfl,hX14,hO14_0⟩
    refine ⟨_,rfl,hX14,?_⟩
    replace hX14 := hX14.of_drew
    have hzs14:=hX14.size
    have hE14 : Chg [g] w w14 := hE11.ext hX14
    have hB11x14 := hB11.ext hX14
    replace hO14_0 := hO14_0.low (B' := w11.heap.size) (Nat.le_refl _)
    exact lw_tvn 1 rfl (wp_ret (b_ret (t_ret (post_ret [6] rfl v14_0 rfl ⟨v14_0,cst n ex.num,s0 + 1,c0,rfl,hE14,hB11x14,(RN.of_fr1 hO14_0 (fun b hb => by have := hS b hb; omega)),(by exact cst_ser (isN_iff.2 oM)),oM,oM,(by exact rel_num hc00 hs1 oM)⟩))))
   ·
    refine q_eql false rfl rfl (decide_eq_false hc13) zN (lw_tvn 1 rfl (c_cond_f rfl (wp_seq (wp_plain _ [0,0] rfl ?_))))
    by_cases hc15 : ex.kind = ((2 :Nat):Int)
    ·
     refine q_eql true rfl rfl (decide_eq_true hc15) zN (lw_tvn 1 rfl (c_cond_t rfl (wp_seq (wp_plain _ [0,0,0,0,2,0,2,0] rfl ?_))))
     have hwk := wk_var hwf oM
     refine lw_tv 2 rfl (q_nilP (hex.isPtr) rfl zN (q_fldL (p := ve) 1 fd31_1 rfl (hl12 _ (hE11.sub (subS hgS))) zN (q_load (p := (padd ve 1)) (.inr rfl) (.int .i64 ex.num) one2 rfl ((hl12 _ (hE11.sub (subS hgS))).ld (i := 1) z135_3) zN (q_idx (v := vv) ((ex.num).toNat) u24 ti25 rfl rfl henv.slL oM sD zN ?_))))
     obtain ⟨ue16,hl16,hr16⟩ := RN.getL (w := w) g1 [] (k := (ex.num).toNat) henv sD
     have hln16 := hr16.lenL
     unfold maxLen at hln16
     exact q_load (p := eptr vv ((ex.num).toNat) 1) (.inr rfl) ue16 one25 rfl (hl16 _ (hE11.sub (subS hgS))) zN (lw_tvn 1 rfl (wp_ret (b_ret (t_ret (post_ret [6] rfl ue16 rfl ⟨ue16,env.getD ((ex.num).toNat) [],s0 + 1,c0,rfl,hE11,hB11,(hr16.chg g1 (hE11.sub (subS hgS))),(by exact hse _ oM),oM,oM,(by exact rel_var hc00 hs1 oM)⟩)))))
    ·
     refine q_eql false rfl rfl (decide_eq_false hc15) zN (lw_tvn 1 rfl (c_cond_f rfl (wp_seq (wp_plain _ [0,0] rfl ?_))))
     by_cases hc17 : ex.kind = ((7 :Nat):Int)
     ·
      refine q_eql true rfl rfl (decide_eq_true hc17) zN (lw_tvn 1 rfl (c_cond_t rfl (wp_seq (wp_plain _ [0,0,0,0,2,0,0,4,3,0] rfl ?_))))
      have hwk := wk_neg hwf oM
      refine lw_tv 2 rfl (q_nilP (hex.isPtr) rfl zN (q_fldL (p := ve) 4 fd31_4 rfl (hl12 _ (hE11.sub (subS hgS))) zN (q_load (p := (padd ve 4)) (.inr rfl) ve12 one29 rfl ((hl12 _ (hE11.sub (subS hgS))).ld (i := 4) z135_3) zN (q_idx (v := ve12) 0 u29 tiS31 rfl rfl hx12.rn.isSl rfl sD zN (lw_tv 1 rfl ?_)))))
      refine lw_callE 135 [] [] [(.pointer (some ⟨g,0,none⟩)),(eptr ve12 0 5),vv] rfl rfl cf135 zN (IH2 dd12 oM _ S g pp dp (n) (s0 + 1) (c0) (p) (eptr ve12 0 5) (ex.kids.getD 0 Ex.zero) vv (env) (fun b hb => (by have := hS b hb; omega : b < w11.heap.size)) hgS hB11 (hp.chg (good_rP (good_rPr dp)) (hE11.sub (subS hgS))) oM oM oM (RN.ptr (good_rEx dd12) (by decide) Ex.zero (hx12.rn.chg (good_rdS (good_rEx dd12)) (hE11.sub (subS hgS))) sD) (henv.chg g2 (hE11.sub (subS hgS))) hqenv (by exact hvp) oM z135_2 (by exact hse) z135_1) ?_
      rintro e18 w18 ⟨v18,x18,s18,c18,rfl,hC18,hB18,hr18,hse18,hsb18,hcb18,hrl18⟩
      refine ⟨_,rfl,?_⟩
      have hzs18:=hC18.size
      have hE18 : Chg [g] w w18 := hE11.trans hC18
      have hsn18 := hse18.1
      refine lw_call 40 [] [] [v18,(.int .i64 ((1000002 :Nat):Int))] rfl rfl cf40 zN (c_spec_l01Scale _ _ _ _ (hr18).rd oM oM) ?_
      rintro e23 w23 ⟨v23_0,rfl,hX23,hO23_0⟩
      refine ⟨_,rfl,hX23,?_⟩
      have hzs23:=hX23.size
      have hE23 : Chg [g] w w23 := hE18.ext hX23
      have hB18x23 := hB18.ext hX23
      have hN24 := hr18.ext g1 hX23
      exact lw_tvn 1 rfl (wp_ret (b_ret (t_ret (post_ret [6] rfl v23_0 rfl ⟨v23_0,scl x18 ((1000002 :Nat):Int),s18,c18,rfl,hE23,hB18x23,(RN.of_fr1 hO23_0 (fun b hb => by have := hS b hb; omega)),(by rw [scl_eq]; exact sclS_ser (by assumption)),oM,oM,(by exact rel_ops hc00 hs1 oM (rel_k1 oM ‹RelV (go c0 (evE _ _ (ex.kids.getD 0 _) _ _)) _ _ _›) (fun h0 => by rw [h0,scl_eq]; exact op_neg oM) (fun _ => rfl))⟩))))
     ·
      refine q_eql false rfl rfl (decide_eq_false hc17) zN (lw_tvn 1 rfl (c_cond_f rfl (wp_seq (wp_plain _ [0,0] rfl ?_))))
      by_cases hc25 : ex.kind = ((8 :Nat):Int)
      ·
       refine q_eql true rfl rfl (decide_eq_true hc25) zN (lw_tvn 1 rfl (c_cond_t rfl (wp_seq (wp_seq (wp_plain _ [0,0,0,0,2,0,0,4,0,2,0] rfl ?_)))))
       have hwk := wk_if hwf oM
       refine lw_tv 2 rfl (q_nilP (hex.isPtr) rfl zN (q_fldL (p := ve) 4 fd31_4 rfl (hl12 _ (hE11.sub (subS hgS))) zN (q_load (p := (padd ve 4)) (.inr rfl) ve12 one29 rfl ((hl12 _ (hE11.sub (subS hgS))).ld (i := 4) z135_3) zN (q_idx (v := ve12) 0 u29 tiS31 rfl rfl hx12.rn.isSl rfl sD zN (lw_tv 1 rfl ?_)))))
       refine lw_callE 135 [] [] [(.pointer (some ⟨g,0,none⟩)),(eptr ve12 0 5),vv] rfl rfl cf135 zN (IH2 dd12 oM _ S g pp dp (n) (s0 + 1) (c0) (p) (eptr ve12 0 5) (ex.kids.getD 0 Ex.zero) vv (env) (fun b hb => (by have := hS b hb; omega : b < w11.heap.size)) hgS hB11 (hp.chg (good_rP (good_rPr dp)) (hE11.sub (subS hgS))) oM oM oM (RN.ptr (good_rEx dd12) (by decide) Ex.zero (hx12.rn.chg (good_rdS (good_rEx dd12)) (hE11.sub (subS hgS))) sD) (henv.chg g2 (hE11.sub (subS hgS))) hqenv (by exact hvp) oM z135_2 (by exact hse) z135_1) ?_
       rintro e26 w26 ⟨v26,x26,s26,c26,rfl,hC26,hB26,hr26,hse26,hsb26,hcb26,hrl26⟩
       refine ⟨_,rfl,?_⟩
       have hzs26:=hC26.size
       have hE26 : Chg [g] w w26 := hE11.trans hC26
       have hsn26 := hse26.1
       refine q_idx (v := v26) 0 u25 ti2 rfl rfl hr26.slL rfl sD zN ?_
       have hg31 := RN.getI (w := w26) (k := 0) hr26 sD
       refine q_load (p := eptr v26 0 1) (.inr rfl) (.int .i64 (x26.getD 0 0)) one2 rfl (hg31.1 _ (Chg.refl _ _)) zN ?_
       by_cases hc32 : x26.getD 0 0 = ((0 :Nat):Int)
       ·
        refine q_eql true rfl rfl (decide_eq_true hc32) zN (lw_nil (c_cond_t rfl (wp_seq (wp_plain _ [0,0,0,0,2,0,0,4,0] rfl (lw_tv 2 rfl (q_nilP (hex.isPtr) rfl zN (q_fldL (p := ve) 4 fd31_4 rfl (hl12 _ (hE26.sub (subS hgS))) zN (q_load (p := (padd ve 4)) (.inr rfl) ve12 one29 rfl ((hl12 _ (hE26.sub (subS hgS))).ld (i := 4) z135_3) zN (q_idx (v := ve12) 1 u29 tiS31 rfl rfl hx12.rn.isSl rfl sD zN ?_)))))))))
        refine lw_tv 1 rfl ?_
        refine lw_callE 135 [] [] [(.pointer (some ⟨g,0,none⟩)),(eptr ve12 1 5),vv] rfl rfl cf135 zN (IH2 dd12 oM _ S g pp dp (n) (s26) (c26) (p) (eptr ve12 1 5) (ex.kids.getD 1 Ex.zero) vv (env) (fun b hb => (by have := hS b hb; omega : b < w26.heap.size)) hgS hB26 (hp.chg (good_rP (good_rPr dp)) (hE26.sub (subS hgS))) oM oM oM (RN.ptr (good_rEx dd12) (by decide) Ex.zero (hx12.rn.chg (good_rdS (good_rEx dd12)) (hE26.sub (subS hgS))) sD) (henv.chg g2 (hE26.sub (subS hgS))) hqenv (by exact hvp) oM z135_2 (by exact hse) (by have := kd_at (l := ex.kids) (k := 1) oM; omega)) ?_
        rintro e33 w33 ⟨v33,x33,s33,c33,rfl,hC33,hB33,hr33,hse33,hsb33,hcb33,hrl33⟩
        refine ⟨_,rfl,?_⟩
        have hzs33:=hC33.size
        have hE33 : Chg [g] w w33 := hE26.trans hC33
        have hF38 := hr26.run g1 hgS hC33
        have hsn33 := hse33.1
        exact lw_tvn 1 rfl (wp_ret (t_ret (b_ret (t_ret (post_ret [6] rfl v33 rfl ⟨v33,x33,s33,c33,rfl,hE33,hB33,hr33,(by assumption),oM,oM,z135_0⟩)))))
       ·
        refine q_eql false rfl rfl (decide_eq_false hc32) zN (lw_nil (c_cond_f rfl (wp_skip (wp_seq (wp_plain _ [0,0,0,0,2,0,0,4,0] rfl (lw_tv 2 rfl (q_nilP (hex.isPtr) rfl zN (q_fldL (p := ve) 4 fd31_4 rfl (hl12 _ (hE26.sub (subS hgS))) zN (q_load (p := (padd ve 4)) (.inr rfl) ve12 one29 rfl ((hl12 _ (hE26.sub (subS hgS))).ld (i := 4) z135_3) zN ?_)))))))))
        refine q_idx (v := ve12) 2 u29 tiS31 rfl rfl hx12.rn.isSl rfl sD zN (lw_tv 1 rfl ?_)
        refine lw_callE 135 [] [] [(.pointer (some ⟨g,0,none⟩)),(eptr ve12 2 5),vv] rfl rfl cf135 zN (IH2 dd12 oM _ S g pp dp (n) (s26) (c26) (p) (eptr ve12 2 5) (ex.kids.getD 2 Ex.zero) vv (env) (fun b hb => (by have := hS b hb; omega : b < w26.heap.size)) hgS hB26 (hp.chg (good_rP (good_rPr dp)) (hE26.sub (subS hgS))) oM oM oM (RN.ptr (good_rEx dd12) (by decide) Ex.zero (hx12.rn.chg (good_rdS (good_rEx dd12)) (hE26.sub (subS hgS))) sD) (henv.chg g2 (hE26.sub (subS hgS))) hqenv (by exact hvp) oM z135_2 (by exact hse) (by have := kd_at (l := ex.kids) (k := 2) oM; omega)) ?_
        rintro e39 w39 ⟨v39,x39,s39,c39,rfl,hC39,hB39,hr39,hse39,hsb39,hcb39,hrl39⟩
        refine ⟨_,rfl,?_⟩
        have hzs39:=hC39.size
        have hE39 : Chg [g] w w39 := hE26.trans hC39
        have hF44 := hr26.run g1 hgS hC39
        have hsn39 := hse39.1
        exact lw_tvn 1 rfl (wp_ret (b_ret (t_ret (post_ret [6] rfl v39 rfl ⟨v39,x39,s39,c39,rfl,hE39,hB39,hr39,(by assumption),oM,oM,z135_0⟩))))
      ·
       refine q_eql false rfl rfl (decide_eq_false hc25) zN (lw_tvn 1 rfl (c_cond_f rfl (wp_seq (wp_plain _ [0,0] rfl ?_))))
       by_cases hc45 : ex.kind = ((9 :Nat):Int)
       ·
        refine q_eql true rfl rfl (decide_eq_true hc45) zN (lw_tvn 1 rfl (c_cond_t rfl (wp_seq (wp_plain _ [0,0,0,0,2,0,0,4,0] rfl ?_))))
        have hwk := wk_let hwf oM
        refine lw_tv 2 rfl (q_nilP (hex.isPtr) rfl zN (q_fldL (p := ve) 4 fd31_4 rfl (hl12 _ (hE11.sub (subS hgS))) zN (q_load (p := (padd ve 4)) (.inr rfl) ve12 one29 rfl ((hl12 _ (hE11.sub (subS hgS))).ld (i := 4) z135_3) zN (q_idx (v := ve12) 0 u29 tiS31 rfl rfl hx12.rn.isSl rfl sD zN (lw_tv 1 rfl ?_)))))
        refine lw_callE 135 [] [] [(.pointer (some ⟨g,0,none⟩)),(eptr ve12 0 5),vv] rfl rfl cf135 zN (IH2 dd12 oM _ S g pp dp (n) (s0 + 1) (c0) (p) (eptr ve12 0 5) (ex.kids.getD 0 Ex.zero) vv (env) (fun b hb => (by have := hS b hb; omega : b < w11.heap.size)) hgS hB11 (hp.chg (good_rP (good_rPr dp)) (hE11.sub (subS hgS))) oM oM oM (RN.ptr (good_rEx dd12) (by decide) Ex.zero (hx12.rn.chg (good_rdS (good_rEx dd12)) (hE11.sub (subS hgS))) sD) (henv.chg g2 (hE11.sub (subS hgS))) hqenv (by exact hvp) oM z135_2 (by exact hse) z135_1) ?_
        rintro e46 w46 ⟨v46,x46,s46,c46,rfl,hC46,hB46,hr46,hse46,hsb46,hcb46,hrl46⟩
        refine ⟨_,rfl,?_⟩
        have hzs46:=hC46.size
        have hE46 : Chg [g] w w46 := hE11.trans hC46
        have hsn46 := hse46.1
        refine lw_tvn 1 rfl (wp_seq (wp_draw _ [0,0,0,0,1,0,0,0,3,4,0] mixed (by kernel_rfl) (lw_tv 2 rfl (q_nilP (hex.isPtr) rfl zN (q_fldL (p := ve) 4 fd31_4 rfl (hl12 _ (hE46.drew.sub (subS hgS))) zN (q_load (p := (padd ve 4)) (.inl rfl) ve12 one29 rfl ((hl12 _ (hE46.drew.sub (subS hgS))).ld (i := 4) z135_3) zN (q_idx (v := ve12) 1 u29 tiS31 rfl rfl hx12.rn.isSl rfl sD zN (lw_tv 2 rfl ?_))))))))
        refine lw_call 146 [] [] [vv,v46] rfl rfl cf146 zN (c_spec_l02Env _ S vv (env) v46 (x46) (fun b hb => (by have := hS b hb; omega : b < w46.heap.size)) (henv.chg g2 (hE46.drew.sub (subS hgS))) hqenv hr46 oM) ?_
        rintro e51 w51 ⟨v51,rfl,hX51,hr51,hcp51⟩
        refine ⟨_,rfl,hX51,?_⟩
        replace hX51 := hX51.of_drew
        have hzs51:=hX51.size
        have hE51 : Chg [g] w w51 := hE46.ext hX51
        have hB46x51 := hB46.ext hX51
        have hN52 := hr46.ext g1 hX51
        refine lw_callE 135 [] [] [(.pointer (some ⟨g,0,none⟩)),(eptr ve12 1 5),v51] rfl rfl cf135 zN (IH2 dd12 oM _ S g pp dp (n) (s46) (c46) (p) (eptr ve12 1 5) (ex.kids.getD 1 Ex.zero) v51 (env ++ [x46]) (fun b hb => (by have := hS b hb; omega : b < w51.heap.size)) hgS hB46x51 (hp.chg (good_rP (good_rPr dp)) (hE51.sub (subS hgS))) oM oM oM (RN.ptr (good_rEx dd12) (by decide) Ex.zero (hx12.rn.chg (good_rdS (good_rEx dd12)) (hE51.sub (subS hgS))) sD) hr51 hcp51 (by exact hvp) oM (by have h9 := wf_at1 hwf oM oM; rw [List.length_append,List.length_singleton]; exact h9) (by exact hse.snoc (by assumption)) (by have := kd_at (l := ex.kids) (k := 1) oM; rw [List.length_append,List.length_singleton]; omega)) ?_
        rintro e53 w53 ⟨v53,x53,s53,c53,rfl,hC53,hB53,hr53,hse53,hsb53,hcb53,hrl53⟩
        refine ⟨_,rfl,?_⟩
        have hzs53:=hC53.size
        have hE53 : Chg [g] w w53 := hE51.trans hC53
        have hF58 := hN52.run g1 hgS hC53
        have hF59 := hr51.run g2 hgS hC53
        have hsn53 := hse53.1
        exact lw_tvn 1 rfl (wp_ret (b_ret (t_ret (post_ret [6] rfl v53 rfl ⟨v53,x53,s53,c53,rfl,hE53,hB53,hr53,(by assumption),oM,oM,(by exact rel_let hc00 hs1 oM oM ‹RelV (go c0 (evE _ _ (ex.kids.getD 0 _) _ _)) _ _ _› (by assumption))⟩))))
       ·
        refine q_eql false rfl rfl (decide_eq_false hc45) zN (lw_tvn 1 rfl (c_cond_f rfl (wp_seq (wp_seq (wp_plain _ [0,0] rfl ?_)))))
        by_cases hc60 : ex.kind = ((10 :Nat):Int)
        ·
         refine q_eql true rfl rfl (decide_eq_true hc60) zN (lw_tvn 1 rfl (c_cond_t rfl (wp_skip (c_cond_t rfl (wp_seq (wp_plain _ [0,0,0,4,0] rfl (lw_tv 3 rfl (lw_callE 147 [] [] [(.pointer (some ⟨g,0,none⟩)),ve,vv] rfl rfl cf147 zN (c_call F dex IH1 IH2 _ S g pp dp (n) (s0 + 1) (c0) (p) ve (ex) vv (env) (fun b hb => (by have := hS b hb; omega : b < w11.heap.size)) hgS hB11 (hp.chg (good_rP (good_rPr dp)) (hE11.sub (subS hgS))) oM oM oM (hex.chg (good_rP (good_rEx dex)) (hE11.sub (subS hgS))) (henv.chg g2 (hE11.sub (subS hgS))) hqenv (by exact hvp) oM (by exact hwf) (by exact hse) oM oM) ?_))))))))
         rintro e61 w61 ⟨v61,x61,s61,c61,rfl,hC61,hB61,hr61,hse61,hsb61,hcb61,hrl61⟩
         refine ⟨_,rfl,?_⟩
         have hzs61:=hC61.size
         have hE61 : Chg [g] w w61 := hE11.trans hC61
         have hsn61 := hse61.1
         exact lw_tvn 1 rfl (wp_ret (b_ret (t_ret (post_ret [6] rfl v61 rfl ⟨v61,x61,s61,c61,rfl,hE61,hB61,hr61,(by assumption),oM,oM,(by exact rel_callV hc00 hs1 oM (by assumption))⟩))))
        ·
         refine q_eql false rfl rfl (decide_eq_false hc60) zN (lw_tvn 1 rfl (c_cond_f rfl (wp_plain _ [0,0] rfl ?_)))
         by_cases hc66 : ex.kind = ((11 :Nat):Int)
         ·
          refine q_eql true rfl rfl (decide_eq_true hc66) zN (lw_tvn 1 rfl (c_cond_t rfl (wp_seq (wp_plain _ [0,0,0,4,0] rfl (lw_tv 3 rfl (lw_callE 147 [] [] [(.pointer (some ⟨g,0,none⟩)),ve,vv] rfl rfl cf147 zN (c_call F dex IH1 IH2 _ S g pp dp (n) (s0 + 1) (c0) (p) ve (ex) vv (env) (fun b hb => (by have := hS b hb; omega : b < w11.heap.size)) hgS hB11 (hp.chg (good_rP (good_rPr dp)) (hE11.sub (subS hgS))) oM oM oM (hex.chg (good_rP (good_rEx dex)) (hE11.sub (subS hgS))) (henv.chg g2 (hE11.sub (subS hgS))) hqenv (by exact hvp) oM (by exact hwf) (by exact hse) oM oM) ?_))))))
          rintro e67 w67 ⟨v67,x67,s67,c67,rfl,hC67,hB67,hr67,hse67,hsb67,hcb67,hrl67⟩
          refine ⟨_,rfl,?_⟩
          have hzs67:=hC67.size
          have hE67 : Chg [g] w w67 := hE11.trans hC67
          have hsn67 := hse67.1
          exact lw_tvn 1 rfl (wp_ret (b_ret (t_ret (post_ret [6] rfl v67 rfl ⟨v67,x67,s67,c67,rfl,hE67,hB67,hr67,(by assumption),oM,oM,(by exact rel_callV hc00 hs1 oM (by assumption))⟩))))
         ·
          refine q_eql false rfl rfl (decide_eq_false hc66) zN (lw_tvn 1 rfl (c_cond_f rfl (wp_skip (wp_seq (wp_plain _ [0,0,0,0,2,0,0,4,0] rfl ?_)))))
          have hkk : ex.kind = 3 ∨ ex.kind = 4 ∨ ex.kind = 5 ∨ ex.kind = 6 := wk_bin hwf oM
          have hk2 : ex.kids.length = 2 := wk_op2 hwf hkk
          have hd0 := kd_at (l := ex.kids) (k := 0) oM
          have hd1 := kd_at (l := ex.kids) (k := 1) oM
          refine lw_tv 2 rfl (q_nilP (hex.isPtr) rfl zN (q_fldL (p := ve) 4 fd31_4 rfl (hl12 _ (hE11.sub (subS hgS))) zN (q_load (p := (padd ve 4)) (.inr rfl) ve12 one29 rfl ((hl12 _ (hE11.sub (subS hgS))).ld (i := 4) z135_3) zN (q_idx (v := ve12) 0 u29 tiS31 rfl rfl hx12.rn.isSl rfl sD zN (lw_tv 1 rfl ?_)))))
          refine lw_callE 135 [] [] [(.pointer (some ⟨g,0,none⟩)),(eptr ve12 0 5),vv] rfl rfl cf135 zN (IH2 dd12 oM _ S g pp dp (n) (s0 + 1) (c0) (p) (eptr ve12 0 5) (ex.kids.getD 0 Ex.zero) vv (env) (fun b hb => (by have := hS b hb; omega : b < w11.heap.size)) hgS hB11 (hp.chg (good_rP (good_rPr dp)) (hE11.sub (subS hgS))) oM oM oM (RN.ptr (good_rEx dd12) (by decide) Ex.zero (hx12.rn.chg (good_rdS (good_rEx dd12)) (hE11.sub (subS hgS))) sD) (henv.chg g2 (hE11.sub (subS hgS))) hqenv (by exact hvp) oM z135_2 (by exact hse) z135_1) ?_
          rintro e72 w72 ⟨v72,x72,s72,c72,rfl,hC72,hB72,hr72,hse72,hsb72,hcb72,hrl72⟩
          refine ⟨_,rfl,?_⟩
          have hzs72:=hC72.size
          have hE72 : Chg [g] w w72 := hE11.trans hC72
          have hsn72 := hse72.1
          have hra := hrl72
          have ha1 := hse72
          refine lw_tvn 1 rfl (wp_seq (wp_plain _ [0,0,0,0,2,0,0,4,0] rfl (lw_tv 2 rfl (q_nilP (hex.isPtr) rfl zN (q_fldL (p := ve) 4 fd31_4 rfl (hl12 _ (hE72.sub (subS hgS))) zN (q_load (p := (padd ve 4)) (.inr rfl) ve12 one29 rfl ((hl12 _ (hE72.sub (subS hgS))).ld (i := 4) z135_3) zN (q_idx (v := ve12) 1 u29 tiS31 rfl rfl hx12.rn.isSl rfl sD zN (lw_tv 1 rfl ?_))))))))
          refine lw_callE 135 [] [] [(.pointer (some ⟨g,0,none⟩)),(eptr ve12 1 5),vv] rfl rfl cf135 zN (IH2 dd12 oM _ S g pp dp (n) (s72) (c72) (p) (eptr ve12 1 5) (ex.kids.getD 1 Ex.zero) vv (env) (fun b hb => (by have := hS b hb; omega : b < w72.heap.size)) hgS hB72 (hp.chg (good_rP (good_rPr dp)) (hE72.sub (subS hgS))) oM oM oM (RN.ptr (good_rEx dd12) (by decide) Ex.zero (hx12.rn.chg (good_rdS (good_rEx dd12)) (hE72.sub (subS hgS))) sD) (henv.chg g2 (hE72.sub (subS hgS))) hqenv (by exact hvp) oM z135_2 (by exact hse) (by have := kd_at (l := ex.kids) (k := 1) oM; omega)) ?_
          rintro e77 w77 ⟨v77,x77,s77,c77,rfl,hC77,hB77,hr77,hse77,hsb77,hcb77,hrl77⟩
          refine ⟨_,rfl,?_⟩
          have hzs77:=hC77.size
          have hE77 : Chg [g] w w77 := hE72.trans hC77
          have hF82 := hr72.run g1 hgS hC77
          have hsn77 := hse77.1
          have hrb := hrl77
          have hb1 := hse77
          have hlb := hsn77
          have hzz : x77.getD 0 0 = 0 ∨ ¬ x77.getD 0 0 = 0 := Decidable.em _
          refine lw_tvn 1 rfl (wp_seq (wp_block (wp_seq (wp_plain _ [0,0,0,2,0,0] rfl (lw_tv 1 rfl (q_nilP (hex.isPtr) rfl zN (q_fldL (p := ve) 0 fd31_0 rfl (hl12 _ (hE77.sub (subS hgS))) zN (q_load (p := (padd ve 0)) (.inr rfl) (.int .i64 ex.kind) one2 rfl ((hl12 _ (hE77.sub (subS hgS))).ld (i := 0) z135_3) zN ?_))))))))
          by_cases hc83 : ex.kind = ((3 :Nat):Int)
          ·
           refine q_eql true rfl rfl (decide_eq_true hc83) zN (lw_tvn 1 rfl (c_cond_t rfl (wp_seq (wp_plain _ [0,0,3,0] rfl (lw_tv 2 rfl (lw_call 148 [] [] [v72,v77] rfl rfl cf148 zN (c_spec_l01Add _ _ _ _ _ (hF82).rd (hr77).rd oM oM) ?_))))))
           rintro e84 w84 ⟨v84_0,rfl,hX84,hO84_0⟩
           refine ⟨_,rfl,hX84,?_⟩
           have hzs84:=hX84.size
           have hE84 : Chg [g] w w84 := hE77.ext hX84
           have hB77x84 := hB77.ext hX84
           have hN85 := hF82.ext g1 hX84
           have hN86 := hr77.ext g1 hX84
           exact lw_tvn 1 rfl (wp_ret (b_ret (t_ret (post_ret [6] rfl v84_0 rfl ⟨v84_0,addS x72 x77,s77,c77,rfl,hE84,hB77x84,(RN.of_fr1 hO84_0 (fun b hb => by have := hS b hb; omega)),(by exact addS_ser ha1),oM,oM,(by exact rel_ops hc00 hs1 oM (rel_k2 oM hra hrb) (fun h0 => by rw [h0]; exact op_add oM) (fun _ => rfl))⟩))))
          ·
           refine q_eql false rfl rfl (decide_eq_false hc83) zN (lw_tvn 1 rfl (c_cond_f rfl (wp_seq (wp_plain _ [0,0,0,2,0,0] rfl (lw_tv 1 rfl (q_nilP (hex.isPtr) rfl zN (q_fldL (p := ve) 0 fd31_0 rfl (hl12 _ (hE77.sub (subS hgS))) zN (q_load (p := (padd ve 0)) (.inr rfl) (.int .i64 ex.kind) one2 rfl ((hl12 _ (hE77.sub (subS hgS))).ld (i := 0) z135_3) zN ?_))))))))
           by_cases hc87 : ex.kind = ((4 :Nat):Int)
           ·
            refine q_eql true rfl rfl (decide_eq_true hc87) zN (lw_tvn 1 rfl (c_cond_t rfl (wp_seq (wp_plain _ [0,0,3,0] rfl (lw_tv 2 rfl (lw_call 149 [] [] [v72,v77] rfl rfl cf149 zN (c_spec_l01Sub _ _ _ _ _ (hF82).rd (hr77).rd oM oM oM) ?_))))))
            rintro e88 w88 ⟨v88_0,rfl,hX88,hO88_0⟩
            refine ⟨_,rfl,hX88,?_⟩
            have hzs88:=hX88.size
            have hE88 : Chg [g] w w88 := hE77.ext hX88
            have hB77x88 := hB77.ext hX88
            have hN89 := hF82.ext g1 hX88
            have hN90 := hr77.ext g1 hX88
            exact lw_tvn 1 rfl (wp_ret (b_ret (t_ret (post_ret [6] rfl v88_0 rfl ⟨v88_0,redS x72 x77,s77,c77,rfl,hE88,hB77x88,(RN.of_fr1 hO88_0 (fun b hb => by have := hS b hb; omega)),(by exact redS_ser ha1),oM,oM,(by exact rel_ops hc00 hs1 oM (rel_k2 oM hra hrb) (fun h0 => by rw [h0]; exact op_sub oM) (fun _ => rfl))⟩))))
           ·
            refine q_eql false rfl rfl (decide_eq_false hc87) zN (lw_tvn 1 rfl (c_cond_f rfl (wp_seq (wp_plain _ [0,0,0,2,0,0] rfl (lw_tv 1 rfl (q_nilP (hex.isPtr) rfl zN (q_fldL (p := ve) 0 fd31_0 rfl (hl12 _ (hE77.sub (subS hgS))) zN (q_load (p := (padd ve 0)) (.inr rfl) (.int .i64 ex.kind) one2 rfl ((hl12 _ (hE77.sub (subS hgS))).ld (i := 0) z135_3) zN ?_))))))))
            by_cases hc91 : ex.kind = ((5 :Nat):Int)
            ·
             refine q_eql true rfl rfl (decide_eq_true hc91) zN (lw_tvn 1 rfl (c_cond_t rfl (wp_seq (wp_plain _ [0,0,3,0] rfl (lw_tv 2 rfl (lw_call 150 [] [] [v72,v77] rfl rfl cf150 zN (c_spec_l01Mul _ _ _ _ _ (hF82).rd (hr77).rd oM oM) ?_))))))
             rintro e92 w92 ⟨v92_0,rfl,hX92,hO92_0⟩
             refine ⟨_,rfl,hX92,?_⟩
             have hzs92:=hX92.size
             have hE92 : Chg [g] w w92 := hE77.ext hX92
             have hB77x92 := hB77.ext hX92
             have hN93 := hF82.ext g1 hX92
             have hN94 := hr77.ext g1 hX92
             exact lw_tvn 1 rfl (wp_ret (b_ret (t_ret (post_ret [6] rfl v92_0 rfl ⟨v92_0,proS x72 x77,s77,c77,rfl,hE92,hB77x92,(RN.of_fr1 hO92_0 (fun b hb => by have := hS b hb; omega)),(by exact proS_ser ha1),oM,oM,(by exact rel_ops hc00 hs1 oM (rel_k2 oM hra hrb) (fun h0 => by rw [h0]; exact op_mul oM) (fun _ => rfl))⟩))))
            ·
             refine q_eql false rfl rfl (decide_eq_false hc91) zN (lw_tvn 1 rfl (c_cond_f rfl (wp_seq (wp_plain _ [0,0,0,2,0,0,0,0,2,0,0,0] rfl (lw_tv 1 rfl (q_nil rfl zN (q_fldP (p := (.pointer (some ⟨g,0,none⟩))) (b := g) (o := 0) 3 fd144_3 rfl rfl zN (q_load (p := (padd (.pointer (some ⟨g,0,none⟩)) 3)) (.inr rfl) (.int .i64 c77) one2 rfl (hB77.ldp (i := 3) sM) zN ?_))))))))
             by_cases hc95 : c77 ≠ ((0 :Nat):Int)
             ·
              refine q_neq true rfl rfl (decide_eq_true hc95) zN (lw_tvn 7 rfl (c_cond_t rfl (wp_seq (wp_plain _ [0,4,0] rfl (lw_tv 1 rfl (lw_callE 144 [] [] [(.pointer (some ⟨g,0,none⟩)),(.int .i64 ((6 :Nat):Int))] rfl rfl cf144 zN (c_spec_l02Run_fail _ S g pp dp (n) (s77) (c77) (p) (((6 :Nat):Int)) (fun b hb => (by have := hS b hb; omega : b < w77.heap.size)) hgS hB77 (hp.chg (good_rP (good_rPr dp)) (hE77.sub (subS hgS))) oM oM oM oM oM) ?_))))))
              rintro e96 w96 ⟨v96,x96,s96,c96,rfl,hC96,hB96,hr96,hse96,hsb96,hcb96,hrl96⟩
              refine ⟨_,rfl,?_⟩
              have hzs96:=hC96.size
              have hE96 : Chg [g] w w96 := hE77.trans hC96
              have hF101 := hF82.run g1 hgS hC96
              have hF102 := hr77.run g1 hgS hC96
              have hsn96 := hse96.1
              have hfs := hrl96.1
              have hff := hrl96.2
              exact lw_tvn 1 rfl (wp_ret (b_ret (t_ret (post_ret [6] rfl v96 rfl ⟨v96,x96,s96,c96,rfl,hE96,hB96,hr96,(by assumption),oM,oM,(by rw [hfs]; exact rel_ops hc00 hs1 oM (rel_k2 oM hra hrb) (fun h0 => absurd h0 oM) (fun h0 => by rw [hff,if_neg h0]))⟩))))
             ·
              refine q_neq false rfl rfl (decide_eq_false hc95) zN (lw_tv 2 rfl (q_idx (v := v77) 0 u25 ti2 rfl rfl hr77.slL rfl (by rw [hlb]; omega) (zS (e := 175) rfl rfl rfl) ?_))
              have hg103 := RN.getI (w := w77) (k := 0) hr77 (by rw [hlb]; omega)
              refine q_load (p := eptr v77 0 1) (.inr rfl) (.int .i64 (x77.getD 0 0)) one2 rfl (hg103.1 _ (Chg.refl _ _)) (zS (e := 175) rfl rfl rfl) ?_
              by_cases hc104 : x77.getD 0 0 = ((0 :Nat):Int)
              ·
               refine q_eql true rfl rfl (decide_eq_true hc104) (zS (e := 175) rfl rfl rfl) (lw_tvn 2 rfl (c_cond_t rfl (wp_seq (wp_plain _ [0,4,0] rfl (lw_tv 1 rfl (lw_callE 144 [] [] [(.pointer (some ⟨g,0,none⟩)),(.int .i64 ((6 :Nat):Int))] rfl rfl cf144 zN (c_spec_l02Run_fail _ S g pp dp (n) (s77) (c77) (p) (((6 :Nat):Int)) (fun b hb => (by have := hS b hb; omega : b < w77.heap.size)) hgS hB77 (hp.chg (good_rP (good_rPr dp)) (hE77.sub (subS hgS))) oM oM oM oM oM) ?_))))))
               rintro e105 w105 ⟨v105,x105,s105,c105,rfl,hC105,hB105,hr105,hse105,hsb105,hcb105,hrl105⟩
               refine ⟨_,rfl,?_⟩
               have hzs105:=hC105.size
               have hE105 : Chg [g] w w105 := hE77.trans hC105
               have hF110 := hF82.run g1 hgS hC105
               have hF111 := hr77.run g1 hgS hC105
               have hsn105 := hse105.1
               have hfs := hrl105.1
               have hff := hrl105.2
               exact lw_tvn 1 rfl (wp_ret (b_ret (t_ret (post_ret [6] rfl v105 rfl ⟨v105,x105,s105,c105,rfl,hE105,hB105,hr105,(by assumption),oM,oM,(by rw [hfs]; exact rel_ops hc00 hs1 oM (rel_k2 oM hra hrb) (fun h0 => by rw [hff,if_pos h0]; exact op_div0 (xs := [_,_]) oM (hzz.resolve_right oM)) (fun h0 => by rw [hff,if_neg h0]))⟩))))
              ·
               refine q_eql false rfl rfl (decide_eq_false hc104) (zS (e := 175) rfl rfl rfl) (lw_tvn 2 rfl (c_cond_f rfl (wp_skip (wp_seq (wp_plain _ [0,0,3,0] rfl (lw_tv 2 rfl (lw_call 151 [] [] [v72,v77] rfl rfl cf151 zN (c_spec_l01Div _ _ _ _ _ (hF82).rd (hr77).rd oM oM oM (by exact ha1.2)) ?_)))))))
               rintro e112 w112 ⟨v112_0,rfl,hX112,hO112_0⟩
               refine ⟨_,rfl,hX112,?_⟩
               have hzs112:=hX112.size
               have hE112 : Chg [g] w w112 := hE77.ext hX112
               have hB77x112 := hB77.ext hX112
               have hN113 := hF82.ext g1 hX112
               have hN114 := hr77.ext g1 hX112
               exact lw_tvn 1 rfl (wp_ret (post_ret [6] rfl v112_0 rfl ⟨v112_0,quoS x72 x77,s77,c77,rfl,hE112,hB77x112,(RN.of_fr1 hO112_0 (fun b hb => by have := hS b hb; omega)),(by exact quoS_ser ha1),oM,oM,(by exact rel_ops hc00 hs1 oM (rel_k2 oM hra hrb) (fun h0 => by rw [h0]; exact op_div (xs := [_,_]) oM (hzz.resolve_left oM)) (fun _ => rfl))⟩))
end Go.Proofs.Ytnokbaiemimhjaa
namespace Go.Proofs.Ytnokbaiemimhjaa
open Go Go.RowKit
set_option linter.unusedVariables false
set_option linter.unusedSimpArgs false
set_option maxHeartbeats 4000000
set_option maxRecDepth 100000
attribute [local irreducible] LW
theorem s_value : ∀ F d, SV F d := by
  intro F
  induction F using Nat.strongRecOn with
  | _ F ihF =>
    intro d
    induction d using Nat.strongRecOn with
    | _ d ihd =>
      intro w S g pp dp n s0 c0 p ve ex vv env hS hgS hB0 hp hn hs0 hc0 hex henv hqenv hvp hF hwf hse hdp
      exact c_spec_l02Run_expr w S F g pp dp n s0 c0 p d ve ex vv env hS hgS hB0 hp hn hs0 hc0 hex henv hqenv hvp hF hwf hse hdp ihF ihd
theorem s_outs (F : Nat) : SO F := c_outs F fun d => s_value F d
theorem z74_0 {p : Prop} (h : p := by unfold maxLen; first | omega | assumption | (simp only [List.length_nil, List.length_cons, List.length_append, List.length_set, List.length_replicate]; omega) | (simp [List.length_nil, List.length_cons, List.length_append, List.length_set, List.length_replicate]; done) | (simp [List.length_nil, List.length_cons, List.length_append, List.length_set, List.length_replicate]; omega)) : p := h
theorem c_spec_l02Eval (w : World) (dp : Nat) (vp : Value) (p : List Fn) (f : Int) (va : Value) (a : List Int) (hp : RN [] (rP (rPr dp)) w.heap vp p) (_hf : -9223372036854775808 ≤ f ∧ f ≤ 9223372036854775807) (ha : Rd (rdL rI) w.heap va a) (hvp : VPr p) (hf : 0 ≤ f ∧ f < ((p.length :Nat):Int)) (hl : ((a.length :Nat):Int) = (p.getD f.toNat Fn.zero).params) (hna : allN a = true) :
  Calls Try.prog 74 #[vp,.int .i64 f,va] w (fun e w' => ∃ v0 : Value,e = .returned (.tuple #[v0,.int .i64 ((evT p 1 f.toNat (sing a) :Nat):Int),.int .i64 (nxC p f.toNat a)]) ∧ Ext w w' ∧ Fr (owL rI 2) w.heap.size w'.heap.size w'.heap v0 (nxR p f.toNat a) ∧ NxP p f.toNat a ∧ evT p 1 f.toNat (sing a) ≤ 3000) := by
 refine calls_mk [vp,.int .i64 f,va] 73 Try.func74 rfl rfl sM ?_
 have hE0 : Ext w w := Ext.refl w
 have hl_va := ha.lenle
 have hpr := hvp.par f.toNat oM
 have hou := hvp.outs f.toNat oM
 refine wp_seq (wp_plain _ [0,0,0] rfl (lw_tvn 3 rfl (wp_seq (wp_plain _ [0,0,3,0] rfl (lw_tv 1 rfl ?_)))))
 have hbd1 : ∀ (vp : Value) (hp1_0 : ∃ b o,vp = .pointer (some ⟨b,o,none⟩)) (wq : World),(Instr.build 144 #[(0,vp),(1,(.int .i64 ((1 :Nat):Int)))]).run Try.prog wq = .ok (.agg #[vp,(.int .i64 ((1 :Nat):Int)),(.int .i64 0),(.int .i64 0)]) wq := by intro vp hp1_0 wq; obtain ⟨b0,o0,rfl⟩ := hp1_0;kernel_rfl
 refine q_build (ps := #[(0,vp),(1,(.int .i64 ((1 :Nat):Int)))]) (.agg #[vp,(.int .i64 ((1 :Nat):Int)),(.int .i64 0),(.int .i64 0)]) (by simp only [List.map_toArray,List.map_cons,List.map_nil]; rfl) (fun wq => hbd1 vp hp.isPtr wq) zN (r_boxA (cs := #[vp,(.int .i64 ((1 :Nat):Int)),(.int .i64 0),(.int .i64 0)]) rfl zN fun w2 hX2 hz2 hB2 => ?_)
 have hzs2:=hX2.size
 have hE2:=hE0.trans hX2
 replace hB2 : BX w2.heap w.heap.size [vp,(.int .i64 ((1 :Nat):Int)),(.int .i64 0),(.int .i64 0)] := hB2
 refine lw_tvn 1 rfl (wp_seq (wp_plain _ [3,0] rfl (r_nil (owL rI 2) o1 u24 ti25 zN fun v3 w3 hX3 hz3 hO3 => ?_)))
 have hzs3:=hX3.size
 have hE3:=hE2.trans hX3
 have hB2x3 := hB2.ext hX3
 refine lw_tvn 1 rfl (wp_seq (wp_seq (wp_plain _ [0] rfl (lw_tvn 1 rfl (wp_block ?_)))))
 refine c_loop (S := Nat × Value) (fun (⟨k,vo⟩ : Nat × Value) => ([(10,vo),(11,(.int .i64 ((k :Nat):Int))),(0,vp),(1,(.int .i64 f)),(2,va),(9,(.pointer (some ⟨w.heap.size,0,none⟩)))] : List (Nat × Value))) (fun (⟨k,vo⟩ : Nat × Value) (W : World) => Ext w W ∧ Fr (owL (owL rI 2) 25) w2.heap.size W.heap.size W.heap vo ((a.take k).map (fun x => [x])) ∧ BX W.heap w.heap.size [vp,(.int .i64 ((1 :Nat):Int)),(.int .i64 0),(.int .i64 0)] ∧ k ≤ a.length ∧ w.heap.size < w2.heap.size ∧ w2.heap.size ≤ W.heap.size) (fun (⟨k,vo⟩ : Nat × Value) => a.length - k) (0,v3) ⟨rfl,rfl,rfl,rfl,rfl,rfl,trivial⟩ ⟨hE3,hO3.up o2,hB2x3,sD,oM,oM⟩ ?_
 clear hE0 hz2 hX2 hO3 hz3 hX3 hzs3 hE3
 rintro ⟨k,vo⟩ ρ5 w5 ⟨hE5,hL5_0,hL5_1,hp5_0,hkg4,hkB6⟩
 have hzs5 : w.heap.size ≤ w5.heap.size := hE5.size
 have hq7 := hL5_1.lt
 refine wp_seq (wp_seq (wp_plain _ [0,0,0,0] rfl (lw_tv 2 rfl (q_len (v := va) u25 rfl ha.isSl zN ?_))))
 by_cases hc8 : ((k :Nat):Int) < ((a.length :Nat):Int)
 ·
  refine q_lss true rfl rfl (decide_eq_true hc8) zN (lw_nil (c_cond_t rfl (wp_skip (wp_seq (wp_block (wp_plain _ [0,0,0,0,2,3,3,4,0] rfl (lw_tv 3 rfl (q_idx (v := va) k u25 ti2 rfl rfl ha.isSl rfl sD zN ?_))))))))
  refine q_load (p := eptr va k 1) (.inr rfl) (.int .i64 (a.getD k 0)) one2 rfl (ldH_ext hE5 (ha.getI sD).1) zN ?_
  refine r_one (u := (.int .i64 (a.getD k 0))) (B := w5.heap.size) good_rI u25 ti2 rfl rfl (frI w5.heap.size w5.heap.size _ _ (ha.getI sD).2) (Nat.le_refl _) zN fun v9 w9 hX9 hz9 hO9 => ?_
  have hzs9:=hX9.size
  have hE9:=hE5.trans hX9
  have hL5_0x9 := hL5_0.ext (o2) hX9
  have hL5_1x9 := hL5_1.ext hX9
  refine r_one (u := v9) (B := w5.heap.size) o1 u24 ti25 rfl rfl hO9 (by first | exact Nat.le_refl _ | omega) zN fun v10 w10 hX10 hz10 hO10 => ?_
  have hzs10:=hX10.size
  have hE10:=hE9.trans hX10
  have hL5_0x10 := hL5_0x9.ext (o2) hX10
  have hL5_1x10 := hL5_1x9.ext hX10
  refine e_appF o1 (v := vo) (a := v10) u24 ti25 rfl rfl rfl hL5_0x10 oM hO10 oM oM sD z74_0 zN fun v11 w11 F11 hC11 hF11 hO11 => ?_
  have hE11 : Ext w w11 := hC11.below hE10 (fun c hc => Nat.le_trans hE2.size (hF11 c hc).1) hE10.size
  have hzs11:=hC11.size
  have hF12 := hL5_1x10.chg hC11 (fun hm => by have := hF11 _ hm; omega)
  refine lw_tvn 1 rfl (wp_plain _ [0,0,0] rfl (lw_tv 1 rfl (q_add ((k + 1 :Nat):Int) rfl rfl (w64n oM sD) zN (lw_tvn 1 rfl ?_))))
  exact ⟨((k + 1),v11),_,rfl,⟨rfl,rfl,rfl,rfl,rfl,rfl,trivial⟩,⟨hE11,(by rw [map_snoc 0 oM]; exact hO11.up o2),hF12,sD,oM,oM⟩,by first | omega | (dsimp only; omega)⟩
 ·
  refine q_lss false rfl rfl (decide_eq_false hc8) zN (lw_nil (c_cond_f rfl (wp_exit (t_exit (t_exit (c_exit_here (wp_seq (wp_plain _ [0,0,0,0,2,0,0,0,4,0] rfl ?_))))))))
  have henv : (a.take k).map (fun x => [x]) = sing a := by rw [List.take_of_length_le oM]; rfl
  have hle : ((a.take k).map (fun x => [x])).length = a.length := by rw [henv]; unfold sing; rw [List.length_map]
  refine lw_tv 2 rfl (q_nilP (hp.isPtr) rfl zN ?_)
  obtain ⟨cs13,hr13,hl13⟩ := RN.at (good_rPr _) hp
  obtain ⟨ve13,rfl,hx13⟩ := RPr.of hr13
  have hln13 := hx13.lenle
  unfold maxLen at hln13
  refine q_fldL (p := vp) 0 fd37_0 rfl (hl13 _ (Chg.of_ext [] hE5)) zN (q_load (p := (padd vp 0)) (.inr rfl) ve13 one35 rfl ((hl13 _ (Chg.of_ext [] hE5)).ld (i := 0) (by simp [exC,fnC])) zN (lw_tv 1 rfl (q_idx (v := ve13) ((f).toNat) u35 tiS34 rfl rfl hx13.isSl oM sD zN (lw_tv 1 rfl ?_))))
  refine lw_callE 113 [] [] [(.pointer (some ⟨w.heap.size,0,none⟩)),(eptr ve13 ((f).toNat) 3),vo] rfl rfl cf113 zN (s_outs f.toNat _ [w.heap.size] w.heap.size vp dp (1) (0) (0) (p) dp (eptr ve13 ((f).toNat) 3) (p.getD ((f).toNat) Fn.zero) vo ((a.take k).map (fun x => [x])) (fun b hb => (by have := List.mem_singleton.1 hb; omega : b < w5.heap.size)) (List.mem_singleton.2 rfl) hL5_1 ((hp.add (F := [w.heap.size]) (good_rP (good_rPr dp)) (fun b hb => by have := List.mem_singleton.1 hb; omega)).ext (good_rP (good_rPr dp)) hE5) oM oM oM (RN.ptr (good_rFn dp) (by decide) Fn.zero ((hx13.add (F := [w.heap.size]) (good_rdS (good_rFn dp)) (fun b hb => by have := List.mem_singleton.1 hb; omega)).ext (good_rdS (good_rFn dp)) hE5) sD) (RN.of_fr2 hL5_0 (fun b hb => by have := List.mem_singleton.1 hb; omega)) hL5_0.cap (by exact hvp) oM (by intro k9 hk9; have h9 := hvp.wf f.toNat oM k9 hk9; rw [hle]; rw [hl]; exact h9) (by rw [henv]; exact sing_ser hna) (by intro k9 hk9; have := hvp.deep f.toNat oM k9 hk9; omega) oM) ?_
  rintro e14 w14 ⟨v14,x14,s14,c14,rfl,hC14,hB14,hr14,hse14,hsb14,hcb14,hrl14⟩
  refine ⟨_,rfl,?_⟩
  have hzs14:=hC14.size
  have hE14 : Ext w w14 := hC14.below hE5 (fun b hb => by have : b = w.heap.size := (by simpa using hb); omega) hE5.size
  have hF17 := hL5_0.chg (o2) hC14 (fun c hc => by have := List.mem_singleton.1 hc; omega)
  have hsn14 := hse14.2.1
  have hsr14 := hse14.2.2
  have hcp14 := hse14.1
  have hrt14 := hr14.rt g2
  have hRL := hrl14
  rw [henv] at hRL
  have hCB := hcb14
  have hEP := EvP.mk' hRL hCB hsb14 hsn14 hsr14
  have hNP := NxP.mk' hEP
  have hST := hEP.steps
  have hXS := hsr14
  have hXL := hsn14
  refine lw_tvn 1 rfl (wp_seq (wp_seq (wp_plain _ [0,0,0,2,0] rfl (lw_tv 1 rfl (q_nil rfl zN (q_fldP (p := (.pointer (some ⟨w.heap.size,0,none⟩))) (b := w.heap.size) (o := 0) 3 fd144_3 rfl rfl zN (q_load (p := (padd (.pointer (some ⟨w.heap.size,0,none⟩)) 3)) (.inr rfl) (.int .i64 c14) one2 rfl (hB14.ldp (i := 3) sM) zN ?_)))))))
  by_cases hc19 : c14 ≠ ((0 :Nat):Int)
  ·
   refine q_neq true rfl rfl (decide_eq_true hc19) zN (lw_nil (c_cond_t rfl (wp_seq (wp_draw _ [3,0,0,0,1,0,0,0] mixed (by kernel_rfl) (r_nil (rI) good_rI u25 ti2 zN fun v20 w20 hX20 hz20 hO20 => ?_)))))
   replace hX20 := hX20.of_drew
   have hzs20:=hX20.size
   have hE20:=hE14.trans hX20
   have hF17x20 := hF17.ext (o2) hX20
   have hB14x20 := hB14.ext hX20
   have hN21 := hrt14.ext g2 hX20
   exact lw_tv 1 rfl (q_nil rfl zN (q_fldP (p := (.pointer (some ⟨w.heap.size,0,none⟩))) (b := w.heap.size) (o := 0) 3 fd144_3 rfl rfl zN (q_load (p := (padd (.pointer (some ⟨w.heap.size,0,none⟩)) 3)) (.inl rfl) (.int .i64 c14) one2 rfl (hB14.ldp (i := 3) sM) zN (lw_tvn 3 rfl (wp_ret (t_ret (post_ret [6,7,8] rfl (.tuple #[v20,(.int .i64 ((0 :Nat):Int)),(.int .i64 c14)]) rfl ⟨v20,(by rw [evT_e (ev_err hRL oM),show nxC p f.toNat a = _ from evD_e (ev_err hRL oM)] <;> rfl),hE20,(by rw [hNP.non (by rw [show nxC p f.toNat a = _ from evD_e (ev_err hRL oM)]; omega)]; exact (hO20.up o1).low hE14.size),hNP,hST⟩)))))))
  ·
   refine q_neq false rfl rfl (decide_eq_false hc19) zN (lw_nil (c_cond_f rfl (wp_skip (wp_seq (wp_plain _ [3,0] rfl (r_nil (rI) good_rI u25 ti2 zN fun v22 w22 hX22 hz22 hO22 => ?_))))))
   have hzs22:=hX22.size
   have hE22:=hE14.trans hX22
   have hF17x22 := hF17.ext (o2) hX22
   have hB14x22 := hB14.ext hX22
   have hN23 := hrt14.ext g2 hX22
   refine lw_tvn 1 rfl (wp_seq (wp_seq (wp_plain _ [0] rfl (lw_tvn 1 rfl (wp_block ?_)))))
   refine c_loop (S := Nat × Value) (fun (⟨k,vo⟩ : Nat × Value) => ([(13,vo),(14,(.int .i64 ((k :Nat):Int))),(9,(.pointer (some ⟨w.heap.size,0,none⟩))),(12,v14)] : List (Nat × Value))) (fun (⟨k,vo⟩ : Nat × Value) (W : World) => Ext w W ∧ Fr (owL rI 2) w14.heap.size W.heap.size W.heap vo (((x14).take k).map (fun s => s.getD 0 0)) ∧ BX W.heap w.heap.size [vp,(.int .i64 ((1 :Nat):Int)),(.int .i64 ((s14 :Nat):Int)),(.int .i64 c14)] ∧ k ≤ (x14).length ∧ RT w14.heap.size (rdL (rdL rI)) W.heap v14 x14 ∧ w14.heap.size ≤ W.heap.size ∧ w.heap.size < w14.heap.size ∧ w14.heap.size ≤ w14.heap.size ∧ w14.heap.size ≤ W.heap.size) (fun (⟨k,vo⟩ : Nat × Value) => (x14).length - k) (0,v22) ⟨rfl,rfl,rfl,rfl,trivial⟩ ⟨hE22,hO22.up o1,hB14x22,sD,(by assumption),oM,oM,oM,oM⟩ ?_
   clear hzs2 hE2 hL5_1 hL5_0 hE5 hzs5 hln13 hC14 hF17 hO22 hz22 hX22 hzs22 hE22 hF17x22
   rintro ⟨k,vo⟩ ρ28 w28 ⟨hE28,hL28_0,hL28_1,hp28_0,hrk24,hkB25,hkg26,hkt27,hkB29⟩
   have hzs28 : w.heap.size ≤ w28.heap.size := hE28.size
   have hq30 := hL28_1.lt
   refine wp_seq (wp_seq (wp_plain _ [0,0,0,0] rfl (lw_tv 2 rfl (q_len (v := v14) u24 rfl hrk24.slL zN ?_))))
   by_cases hc31 : ((k :Nat):Int) < ((x14.length :Nat):Int)
   ·
    refine q_lss true rfl rfl (decide_eq_true hc31) zN (lw_nil (c_cond_t rfl (wp_skip (wp_seq (wp_block (wp_plain _ [0,0,0,0,2,0,2,3,4,0] rfl ?_))))))
    have hkx := hXS k oM
    have hkl := hkx.1
    refine lw_tv 3 rfl (q_idx (v := v14) k u24 ti25 rfl rfl hrk24.slL rfl sD zN ?_)
    obtain ⟨ue32,hl32,hr32⟩ := RT.getL g1 [] (k := k) hrk24 sD
    have hln32 := hr32.lenL
    unfold maxLen at hln32
    refine q_load (p := eptr v14 k 1) (.inr rfl) ue32 one25 rfl hl32 zN (q_idx (v := ue32) 0 u25 ti2 rfl rfl hr32.slL rfl sD zN ?_)
    have hg33 := RT.getI (k := 0) hr32 sD
    refine q_load (p := eptr ue32 0 1) (.inr rfl) (.int .i64 ((x14.getD k []).getD 0 0)) one2 rfl hg33.1 zN (r_one (u := (.int .i64 ((x14.getD k []).getD 0 0))) (B := w28.heap.size) good_rI u25 ti2 rfl rfl (frI w28.heap.size w28.heap.size _ _ hg33.2) (Nat.le_refl _) zN fun v34 w34 hX34 hz34 hO34 => ?_)
    have hzs34:=hX34.size
    have hE34:=hE28.trans hX34
    have hL28_0x34 := hL28_0.ext (o1) hX34
    have hL28_1x34 := hL28_1.ext hX34
    have hN35 := hrk24.ext g2 hX34
    have hN36 := hr32.ext g1 hX34
    refine e_appI (v := vo) (a := v34) u25 ti2 rfl rfl rfl hL28_0x34 oM hO34.rd1 sD z74_0 zN fun v37 w37 F37 hC37 hF37 hO37 => ?_
    have hE37 : Ext w w37 := hC37.below hE34 (fun c hc => Nat.le_trans hE14.size (hF37 c hc).1) hE34.size
    have hzs37:=hC37.size
    have hN38 := hN35.chg g2 hC37 (fun c hc => by have := hF37 c hc; omega)
    have hN39 := hN36.chg g1 hC37 (fun c hc => by have := hF37 c hc; omega)
    have hF40 := hL28_1x34.chg hC37 (fun hm => by have := hF37 _ hm; omega)
    have hF41 := hO34.chg (o1) hC37 (fun c hc => by have := hF37 c hc; omega)
    refine lw_tvn 1 rfl (wp_plain _ [0,0,0] rfl (lw_tv 1 rfl (q_add ((k + 1 :Nat):Int) rfl rfl (w64n oM sD) zN (lw_tvn 1 rfl ?_))))
    exact ⟨((k + 1),v37),_,rfl,⟨rfl,rfl,rfl,rfl,trivial⟩,⟨hE37,(by rw [map_snoc [] oM]; exact hO37.up o1),hF40,sD,(by assumption),oM,oM,oM,oM⟩,by first | omega | (dsimp only; omega)⟩
   ·
    refine q_lss false rfl rfl (decide_eq_false hc31) zN (lw_nil (c_cond_f rfl (wp_exit (t_exit (t_exit (c_exit_here (wp_seq (wp_draw _ [0,0,0,0,1,0,0,0] mixed (by kernel_rfl) (lw_tv 2 rfl (q_nil rfl zN (q_fldP (p := (.pointer (some ⟨w.heap.size,0,none⟩))) (b := w.heap.size) (o := 0) 2 fd144_2 rfl rfl zN (q_load (p := (padd (.pointer (some ⟨w.heap.size,0,none⟩)) 2)) (.inl rfl) (.int .i64 ((s14 :Nat):Int)) one2 rfl (hL28_1.ldp (i := 2) sM) zN (lw_tvn 3 rfl (wp_ret ?_))))))))))))))
    exact post_ret [6,7,8] rfl (.tuple #[vo,(.int .i64 ((s14 :Nat):Int)),(.int .i64 ((0 :Nat):Int))]) rfl ⟨vo,(by rw [evT_o (ev_ok hRL oM),show nxC p f.toNat a = _ from evD_o (ev_ok hRL oM)] <;> rfl),hE28.drew,(by have h := (hL28_0.up o1).low hE14.size; unfold nxR; rw [evR_o (ev_ok hRL oM)]; rwa [List.take_of_length_le oM] at h),hNP,hST⟩
end Go.Proofs.Ytnokbaiemimhjaa
namespace Go.Proofs.Ytnokbaiemimhjaa
open Go Go.RowKit
set_option linter.unusedVariables false
set_option linter.unusedSimpArgs false
set_option maxHeartbeats 4000000
set_option maxRecDepth 100000
attribute [local irreducible] LW
theorem ar_2l {p : List Fn} {f : Int} {a : Sr} (h : isF p f = 0) (h2 : ((a.length : Nat) : Int) ≠ (p.getD f.toNat Fn.zero).params) : 2 = arC p f a := ar_2 h (by rw [decide_eq_false h2]; rfl)
theorem ar_2n {p : List Fn} {f : Int} {a : Sr} (h : isF p f = 0) (h2 : allN a = false) : 2 = arC p f a := ar_2 h (by rw [h2, Bool.and_false])
theorem ar_0n {p : List Fn} {f : Int} {a : Sr} (h : isF p f = 0) (h1 : ((a.length : Nat) : Int) = (p.getD f.toNat Fn.zero).params) (h2 : allN a = true) : 0 = arC p f a := ar_0 h (by rw [h2, decide_eq_true h1]; rfl)
theorem nb_t {b : Bool} (h : (!b) = true) : b = false := by simpa using h
theorem nb_f {b : Bool} (h : (!b) = false) : b = true := by simpa using h
theorem z73_0 {p : Prop} (h : p := by first | exact ar_n oM | exact ar_2l oM oM | exact ar_2n oM (nb_t (by assumption)) | exact (by omega : _ = isF p f).trans (ar_n oM) | exact (show isF p f = 0 by omega).trans (ar_0n oM oM (nb_f (by assumption)))) : p := h
theorem c_spec_l02Args (w : World) (dp : Nat) (vp : Value) (p : List Fn) (f : Int) (va : Value) (a : List Int) (hp : RN [] (rP (rPr dp)) w.heap vp p) (_hf : -9223372036854775808 ≤ f ∧ f ≤ 9223372036854775807) (ha : Rd (rdL rI) w.heap va a) (hz : SzP p) :
    Calls Try.prog 73 #[vp, .int .i64 f, va] w (fun e w' => e = .returned (.int .i64 (arC p f a)) ∧ Ext w w') := by
  refine calls_mk [vp, .int .i64 f, va] 32 Try.func73 rfl rfl sM ?_
  have hE0 : Ext w w := Ext.refl w
  have hl_va := ha.lenle
  refine wp_seq (wp_plain _ [0] rfl (lw_tvn 1 rfl (wp_seq (wp_plain _ [0, 0, 3, 0] rfl (lw_tv 2 rfl (lw_call 111 [] [] [vp, (.int .i64 f)] rfl rfl cf111 zN (c_spec_l02Asked _ dp vp (p) _ (hp.ext (good_rP (good_rPr dp)) hE0) _hf (by exact hz)) ?_))))))
  rintro e1 w1 ⟨rfl, hX1⟩
  refine ⟨_, rfl, hX1, ?_⟩
  have hzs1 : w.heap.size ≤ w1.heap.size := hX1.size
  have hE1 : Ext w w1 := hE0.trans hX1
  refine lw_tvn 1 rfl (wp_seq (wp_seq (wp_plain _ [0, 0, 0, 0, 0, 0, 0, 0, 2, 0, 0, 0, 2, 0, 0, 0, 3, 0, 0, 0] rfl (lw_tv 1 rfl ?_))))
  by_cases hc2 : isF p f = ((0 : Nat) : Int)
  ·
    refine q_eql true rfl rfl (decide_eq_true hc2) zN (lw_tv 2 rfl (q_len (v := va) u25 rfl ha.isSl (zS (e := 13) rfl rfl rfl) (lw_tv 1 rfl (q_nilP (hp.isPtr) rfl (zS (e := 13) rfl rfl rfl) ?_))))
    have hi0 := isF_0 (p := p) (f := f) oM
    obtain ⟨cs3, hr3, hl3⟩ := RN.at (good_rPr _) hp
    obtain ⟨ve3, rfl, hx3⟩ := RPr.of hr3
    have hln3 := hx3.lenle
    unfold maxLen at hln3
    refine q_fldL (p := vp) 0 fd37_0 rfl (hl3 _ (Chg.of_ext [] hE1)) (zS (e := 13) rfl rfl rfl) (q_load (p := (padd vp 0)) (.inr rfl) ve3 one35 rfl ((hl3 _ (Chg.of_ext [] hE1)).ld (i := 0) (by simp [exC, fnC])) (zS (e := 13) rfl rfl rfl) (lw_tv 1 rfl (q_idx (v := ve3) ((f).toNat) u35 tiS34 rfl rfl hx3.isSl oM sD (zS (e := 13) rfl rfl rfl) ?_)))
    obtain ⟨cs4, hr4, hl4⟩ := hx3.get (good_rFn dp) Fn.zero (k := ((f).toNat)) sD
    obtain ⟨ve4, rfl, hx4⟩ := RF.of hr4
    have hln4 := hx4.rn.lenle
    unfold maxLen at hln4
    refine q_fldL (p := eptr ve3 ((f).toNat) 3) 1 fd34_1 rfl (hl4 _ (Chg.of_ext [] hE1)) (zS (e := 13) rfl rfl rfl) (q_load (p := (padd (eptr ve3 ((f).toNat) 3) 1)) (.inr rfl) (.int .i64 ((p.getD ((f).toNat) Fn.zero).params)) one2 rfl ((hl4 _ (Chg.of_ext [] hE1)).ld (i := 1) (by simp [exC, fnC])) (zS (e := 13) rfl rfl rfl) ?_)
    by_cases hc5 : ((a.length : Nat) : Int) ≠ (p.getD ((f).toNat) Fn.zero).params
    ·
      exact q_neq true rfl rfl (decide_eq_true hc5) (zS (e := 13) rfl rfl rfl) (lw_tvn 6 rfl (c_cond_t rfl (wp_plain _ [0] rfl (lw_tvn 1 rfl (wp_seq (wp_plain _ [0, 0] rfl (lw_tvn 2 rfl (wp_ret (post_ret [6] rfl (.int .i64 ((2 : Nat) : Int)) rfl ⟨(ret_int z73_0), hE1⟩)))))))))
    ·
      refine q_neq false rfl rfl (decide_eq_false hc5) (zS (e := 13) rfl rfl rfl) (lw_tv 2 rfl (lw_call 112 [] [] [va] rfl rfl cf112 (zS (e := 25) rfl rfl rfl) (c_spec_l01Numbers _ _ _ (ha.ext g1 hE1)) ?_))
      rintro e6 w6 ⟨rfl, hX6⟩
      refine ⟨_, rfl, hX6, ?_⟩
      have hzs6 : w1.heap.size ≤ w6.heap.size := hX6.size
      have hE6 : Ext w w6 := hE1.trans hX6
      refine q_not (!(allN a)) rfl rfl (zS (e := 25) rfl rfl rfl) (lw_tvn 2 rfl ?_)
      cases hb7 : (!(allN a))
      ·
        exact c_cond_f (by first | rfl | (show Value.bool _ = _; rw [hb7])) (wp_skip (wp_seq (wp_plain _ [0, 0] rfl (lw_tvn 2 rfl (wp_ret (post_ret [6] rfl (.int .i64 (isF p f)) rfl ⟨(ret_int z73_0), hE6⟩))))))
      ·
        exact c_cond_t (by first | rfl | (show Value.bool _ = _; rw [hb7])) (wp_plain _ [0] rfl (lw_tvn 1 rfl (wp_seq (wp_plain _ [0, 0] rfl (lw_tvn 2 rfl (wp_ret (post_ret [6] rfl (.int .i64 ((2 : Nat) : Int)) rfl ⟨(ret_int z73_0), hE6⟩)))))))
  ·
    exact q_eql false rfl rfl (decide_eq_false hc2) zN (lw_tvn 18 rfl (c_cond_f rfl (wp_skip (wp_seq (wp_plain _ [0, 0] rfl (lw_tvn 2 rfl (wp_ret (post_ret [6] rfl (.int .i64 (isF p f)) rfl ⟨(ret_int z73_0), hE1⟩))))))))
theorem c_spec_Evaluate (w : World) (dp : Nat) (vp : Value) (p : List Fn) (f : Int) (va : Value) (a : List Int) (hp : RP [] dp w.heap vp p) (_hf : -9223372036854775808 ≤ f ∧ f ≤ 9223372036854775807) (ha : Rd (rdL rI) w.heap va a) (hz : SzP p) :
    Calls Try.prog 27 #[(.agg #[vp]), .int .i64 f, va] w (fun e w' => ∃ v0 : Value, e = .returned (.tuple #[v0, .int .i64 ((euT p f a : Nat) : Int), .int .i64 (euC p f a)]) ∧ Ext w w' ∧ Fr (owL rI 2) w.heap.size w'.heap.size w'.heap v0 (euR p f a)) := by
  refine calls_mk [(.agg #[vp]), .int .i64 f, va] 23 Try.func27 rfl rfl sM ?_
  have hE0 : Ext w w := Ext.refl w
  have hl_vp := hp.lenle
  unfold maxLen at hl_vp
  have hl_va := ha.lenle
  refine wp_seq (wp_plain _ [3, 0, 0, 0] rfl (r_boxA (cs := #[vp]) rfl zN fun w1 hX1 hz1 hB1 => ?_))
  have hzs1 : w.heap.size ≤ w1.heap.size := hX1.size
  have hE1 : Ext w w1 := hE0.trans hX1
  replace hB1 : BX w1.heap w.heap.size [vp] := hB1
  refine lw_tvn 3 rfl (wp_seq (wp_seq (wp_plain _ [0, 0, 3, 0] rfl (lw_tv 2 rfl (lw_call 73 [] [] [(.pointer (some ⟨w.heap.size, 0, none⟩)), (.int .i64 f), va] rfl rfl cf73 zN (c_spec_l02Args _ dp ((.pointer (some ⟨w.heap.size, 0, none⟩))) (p) _ _ _ (RN.box hB1 (RP.mk' (hp.ext (good_rdS (good_rFn dp)) hE1)) sM) _hf (ha.ext g1 hE1) (by exact hz)) ?_)))))
  rintro e2 w2 ⟨rfl, hX2⟩
  refine ⟨_, rfl, hX2, ?_⟩
  have hzs2 : w1.heap.size ≤ w2.heap.size := hX2.size
  have hE2 : Ext w w2 := hE1.trans hX2
  have hB1x2 := hB1.ext hX2
  refine lw_tvn 1 rfl (wp_seq (wp_plain _ [0, 0] rfl (lw_tv 1 rfl ?_)))
  by_cases hc3 : arC p f a ≠ ((0 : Nat) : Int)
  ·
    refine q_neq true rfl rfl (decide_eq_true hc3) zN (lw_nil (c_cond_t rfl (wp_seq (wp_plain _ [3, 0, 0, 0, 0] rfl (r_nil (rI) good_rI u25 ti2 zN fun v4 w4 hX4 hz4 hO4 => ?_)))))
    have hzs4 : w2.heap.size ≤ w4.heap.size := hX4.size
    have hE4 : Ext w w4 := hE2.trans hX4
    have hB1x4 := hB1x2.ext hX4
    exact lw_tvn 4 rfl (wp_ret (t_ret (post_ret [6, 7, 8] rfl (.tuple #[v4, (.int .i64 ((0 : Nat) : Int)), (.int .i64 (arC p f a))]) rfl ⟨v4, (by rw [euT_n oM, euC_n oM] <;> rfl), hE4, (by rw [euR_n oM]; exact (hO4.up o1).low hE2.size)⟩)))
  ·
    refine q_neq false rfl rfl (decide_eq_false hc3) zN (lw_nil (c_cond_f rfl (wp_skip (wp_seq (wp_plain _ [0, 0, 3, 0, 0, 0, 0, 0, 0] rfl (lw_tv 2 rfl ?_))))))
    have har : arC p f a = 0 := by omega
    have har0 := arC_0 har
    have hvp := okP_vpr har0.1
    have hpr := hvp.par f.toNat oM
    have hal := har0.2.2.1
    refine lw_call 74 [] [] [(.pointer (some ⟨w.heap.size, 0, none⟩)), (.int .i64 f), va] rfl rfl cf74 zN (c_spec_l02Eval _ dp ((.pointer (some ⟨w.heap.size, 0, none⟩))) (p) _ _ _ (RN.box hB1x2 (RP.mk' (hp.ext (good_rdS (good_rFn dp)) hE2)) sM) _hf (ha.ext g1 hE2) (by exact hvp) oM oM (by exact har0.2.2.2)) ?_
    rintro e5 w5 ⟨v5_0, rfl, hX5, hO5_0, hP5_0, hP5_1⟩
    refine ⟨_, rfl, hX5, ?_⟩
    have hzs5 : w2.heap.size ≤ w5.heap.size := hX5.size
    have hE5 : Ext w w5 := hE2.trans hX5
    have hB1x5 := hB1x2.ext hX5
    exact q_extract (vs := [v5_0, (.int .i64 ((evT p 1 f.toNat (sing a) : Nat) : Int)), (.int .i64 (nxC p f.toNat a))]) v5_0 rfl rfl zN (q_extract (vs := [v5_0, (.int .i64 ((evT p 1 f.toNat (sing a) : Nat) : Int)), (.int .i64 (nxC p f.toNat a))]) (.int .i64 ((evT p 1 f.toNat (sing a) : Nat) : Int)) rfl rfl zN (q_extract (vs := [v5_0, (.int .i64 ((evT p 1 f.toNat (sing a) : Nat) : Int)), (.int .i64 (nxC p f.toNat a))]) (.int .i64 (nxC p f.toNat a)) rfl rfl zN (lw_tvn 3 rfl (wp_ret (post_ret [6, 7, 8] rfl (.tuple #[v5_0, (.int .i64 ((evT p 1 f.toNat (sing a) : Nat) : Int)), (.int .i64 (nxC p f.toNat a))]) rfl ⟨v5_0, (by rw [euT_0 har, euC_0 har]), hE5, (by rw [euR_0 har]; exact (hO5_0.up o1).low hE2.size)⟩)))))
end Go.Proofs.Ytnokbaiemimhjaa
namespace Go.Proofs.Ytnokbaiemimhjaa
open Go Go.RowKit
set_option linter.unusedVariables false
set_option linter.unusedSimpArgs false
set_option maxHeartbeats 4000000
set_option maxRecDepth 100000
attribute [local irreducible] LW
theorem c_spec_l05Var (w : World) (n : Int) (_hn : -9223372036854775808 ≤ n ∧ n ≤ 9223372036854775807)  :
    Calls Try.prog 110 #[.int .i64 n] w (fun e w' => e = .returned (.agg #[.int .i64 2, .int .i64 n, .int .i64 0, .int .i64 0, .slice none 0 0]) ∧ Ext w w') := by
  refine calls_mk [.int .i64 n] 5 Try.func110 rfl rfl sM ?_
  have hE0 : Ext w w := Ext.refl w
  refine wp_seq (wp_plain _ [3] rfl (r_allocA (z := .agg #[.int .i64 0, .int .i64 0, .int .i64 0, .int .i64 0, .slice none 0 0]) zr31 zN fun w1 hX1 hz1 hB1 => ?_))
  have hzs1 : w.heap.size ≤ w1.heap.size := hX1.size
  have hE1 : Ext w w1 := hE0.trans hX1
  replace hB1 : BX w1.heap w.heap.size [(.int .i64 0), (.int .i64 0), (.int .i64 0), (.int .i64 0), (.slice none 0 0)] := hB1
  refine lw_nil (wp_seq (wp_plain _ [0, 0, 4] rfl (lw_tv 1 rfl ?_)))
  have hbd2 : ∀ (wq : World), (Instr.build 31 #[(0, (.int .i64 ((2 : Nat) : Int))), (1, (.int .i64 n))]).run Try.prog wq = .ok (.agg #[(.int .i64 ((2 : Nat) : Int)), (.int .i64 n), (.int .i64 0), (.int .i64 0), (.slice none 0 0)]) wq := by intro wq; kernel_rfl
  refine q_build (ps := #[(0, (.int .i64 ((2 : Nat) : Int))), (1, (.int .i64 n))]) (.agg #[(.int .i64 ((2 : Nat) : Int)), (.int .i64 n), (.int .i64 0), (.int .i64 0), (.slice none 0 0)]) (by simp only [List.map_toArray, List.map_cons, List.map_nil]; rfl) (fun wq => hbd2  wq) zN (e_setA (vs := [(.int .i64 ((2 : Nat) : Int)), (.int .i64 n), (.int .i64 0), (.int .i64 0), (.slice none 0 0)]) agg31 rfl rfl (by intro u hu; simp only [List.mem_cons, List.not_mem_nil, or_false] at hu; rcases hu with rfl | rfl | rfl | rfl | rfl <;> first | exact ⟨rfl, rfl⟩) hB1 rfl rfl zN fun w3 hC3 hz3 hB3 => ?_)
  replace hB3 : BX w3.heap w.heap.size [(.int .i64 ((2 : Nat) : Int)), (.int .i64 n), (.int .i64 0), (.int .i64 0), (.slice none 0 0)] := hB3
  have hzs3 : w1.heap.size ≤ w3.heap.size := hC3.size
  have hE3 : Ext w w3 := hC3.below hE1 (fun c hc => by have := List.mem_singleton.1 hc; omega) hE1.size
  exact lw_nil (wp_ret (post_retA (cs := [(.int .i64 ((2 : Nat) : Int)), (.int .i64 n), (.int .i64 0), (.int .i64 0), (.slice none 0 0)]) rfl agg31 rfl hB3 rfl ⟨rfl, hE3⟩))
theorem c_spec_A2Vars (w : World) (n : Int) (_hn : -9223372036854775808 ≤ n ∧ n ≤ 9223372036854775807) (hn : 0 ≤ n ∧ n ≤ 1000) :
    Calls Try.prog 71 #[.int .i64 n] w (fun e w' => ∃ v, e = .returned v ∧ Ext w w' ∧ Fr (owS 5 (oEx 31 1) 31) w.heap.size w'.heap.size w'.heap v (varL 0 n.toNat)) := by
  refine calls_mk [.int .i64 n] 17 Try.func71 rfl rfl sM ?_
  have hE0 : Ext w w := Ext.refl w
  refine wp_seq (wp_plain _ [0] rfl (lw_tvn 1 rfl (wp_seq (wp_plain _ [3, 0] rfl (r_nilS (α := Ex) (good_oEx 31 1) u29 tiS31 zN fun v1 w1 hX1 hz1 hO1 => ?_)))))
  have hzs1 : w.heap.size ≤ w1.heap.size := hX1.size
  have hE1 : Ext w w1 := hE0.trans hX1
  refine lw_tvn 1 rfl (wp_seq (wp_seq (wp_plain _ [0] rfl (lw_tvn 1 rfl (wp_block (c_loop (S := Nat × Value × List Ex) (fun (⟨i, vo, xs⟩ : Nat × Value × List Ex) => ([(3, vo), (4, (.int .i64 ((i : Nat) : Int))), (0, (.int .i64 n))] : List (Nat × Value))) (fun (⟨i, vo, xs⟩ : Nat × Value × List Ex) (W : World) => Ext w W ∧ Fr (owS 5 (oEx 31 1) 31) w.heap.size W.heap.size W.heap vo xs ∧ ((i : Nat) : Int) ≤ n ∧ xs = varL 0 i) (fun (⟨i, vo, xs⟩ : Nat × Value × List Ex) => n.toNat - i) (0, v1, ([] : List Ex)) ⟨rfl, rfl, rfl, trivial⟩ ⟨hE1, hO1.up (good_owS (good_oEx 31 1)), oM, (by rfl)⟩ ?_))))))
  clear hE0 hO1 hz1 hX1 hzs1 hE1
  rintro ⟨i, vo, xs⟩ ρ2 w2 ⟨hE2, hL2_0, hp2_0, hxs⟩
  have hzs2 : w.heap.size ≤ w2.heap.size := hE2.size
  refine wp_seq (wp_seq (wp_plain _ [0, 0, 0] rfl (lw_tv 2 rfl ?_)))
  by_cases hc3 : ((i : Nat) : Int) < n
  ·
    refine q_lss true rfl rfl (decide_eq_true hc3) zN (lw_nil (c_cond_t rfl (wp_skip (wp_seq (wp_block (wp_plain _ [0, 0, 3, 3, 4, 0] rfl (lw_tv 2 rfl (lw_call 110 [] [] [(.int .i64 ((i : Nat) : Int))] rfl rfl cf110 zN (c_spec_l05Var _ (((i : Nat) : Int)) oM) ?_))))))))
    rintro e4 w4 ⟨rfl, hX4⟩
    refine ⟨_, rfl, hX4, ?_⟩
    have hzs4 : w2.heap.size ≤ w4.heap.size := hX4.size
    have hE4 : Ext w w4 := hE2.trans hX4
    have hL2_0x4 := hL2_0.ext ((good_owS (good_oEx 31 1))) hX4
    refine r_oneS (cs := [(.int .i64 ((2 : Nat) : Int)), (.int .i64 ((i : Nat) : Int)), (.int .i64 0), (.int .i64 0), (.slice none 0 0)]) (y := (.mk 2 ((i : Nat) : Int) 0 0 [])) (B := w4.heap.size) (good_oEx 31 1) u29 tiS31 rfl (by decide) rfl (FrN.mk1 (d := 1) (x := (.mk 2 ((i : Nat) : Int) 0 0 [])) oM (exR_mk (a := 2) (b := ((i : Nat) : Int)) (c := 0) (k := 0) oM oM oM oM) (frNilS _ 0 _)) oM zN fun v5 w5 hX5 hz5 hO5 => ?_
    have hzs5 : w4.heap.size ≤ w5.heap.size := hX5.size
    have hE5 : Ext w w5 := hE4.trans hX5
    have hL2_0x5 := hL2_0x4.ext ((good_owS (good_oEx 31 1))) hX5
    have hvl := varL_len i 0
    refine e_appS (v := vo) (a := v5) (good_oEx 31 1) u29 tiS31 rfl (by decide) rfl rfl hL2_0x5 oM hO5 oM oM (by rw [hxs]; omega) (by rw [hxs]; unfold maxLen; omega) zN fun v6 w6 F6 hC6 hF6 hO6 => ?_
    have hzs6 : w5.heap.size ≤ w6.heap.size := hC6.size
    have hE6 : Ext w w6 := hC6.below hE5 (fun c hc => by have := hF6 _ hc; omega) hE5.size
    exact lw_tvn 1 rfl (wp_plain _ [0, 0, 0] rfl (lw_tv 1 rfl (q_add ((i + 1 : Nat) : Int) rfl rfl (w64n oM oM) zN (lw_tvn 1 rfl ⟨((i + 1), v6, (xs ++ [(.mk 2 ((i : Nat) : Int) 0 0 [])])), _, rfl, ⟨rfl, rfl, rfl, trivial⟩, ⟨hE6, hO6.up (good_owS (good_oEx 31 1)), oM, (by rw [hxs, varL_snoc, Nat.zero_add])⟩, by first | omega | (dsimp only; omega)⟩))))
  ·
    exact q_lss false rfl rfl (decide_eq_false hc3) zN (lw_nil (c_cond_f rfl (wp_exit (t_exit (t_exit (c_exit_here (wp_seq (wp_plain _ [0, 0] rfl (lw_tvn 2 rfl (wp_ret (post_ret [2] rfl vo rfl ⟨vo, rfl, hE2, (by have h := ((hL2_0.up (good_owS (good_oEx 31 1))).low (B' := w.heap.size) oM); rw [hxs] at h; rwa [show n.toNat = i from by omega])⟩)))))))))))
theorem z72_0 {p : Prop} (h : p := by simp [exC, fnC]) : p := h
theorem c_spec_l02Own (w : World) (dex : Nat) (ve : Value) (ex : Ex) (hex : RN [] (rP (rEx dex)) w.heap ve ex) (hs : ex.size ≤ 2000000) :
    Calls Try.prog 72 #[ve] w (fun e w' => ∃ v, e = .returned (.agg #[.int .i64 ex.kind, .int .i64 ex.num, .int .i64 ex.pick, .int .i64 ex.count, v]) ∧ Ext w w' ∧ Fr (owS 5 (oEx 31 (dex - 1)) 31) w.heap.size w'.heap.size w'.heap v ex.kids ∧ exR ex ∧ 1 ≤ dex) := by
  induction dex using Nat.strongRecOn generalizing w ve ex
  rename_i dex ih
  refine calls_mk [ve] 44 Try.func72 rfl rfl sM ?_
  have hE0 : Ext w w := Ext.refl w
  have hsk := size_kids ex
  have hsg := sizes_ge ex.kids 0
  refine wp_seq (wp_plain _ [3] rfl (r_allocA (z := .agg #[.int .i64 0, .int .i64 0, .int .i64 0, .int .i64 0, .slice none 0 0]) zr31 zN fun w1 hX1 hz1 hB1 => ?_))
  have hzs1 : w.heap.size ≤ w1.heap.size := hX1.size
  have hE1 : Ext w w1 := hE0.trans hX1
  replace hB1 : BX w1.heap w.heap.size [(.int .i64 0), (.int .i64 0), (.int .i64 0), (.int .i64 0), (.slice none 0 0)] := hB1
  refine lw_nil (wp_seq (wp_draw _ [0, 0, 0, 1, 0, 0, 0, 1, 0, 0, 0, 1, 0, 0, 0, 1, 0, 3, 4] mixed (by kernel_rfl) (lw_tv 1 rfl (q_nilP (hex.isPtr) rfl zN ?_))))
  obtain ⟨cs2, hr2, hl2⟩ := RN.at (good_rEx _) hex
  obtain ⟨dd2, ve2, hd2, rfl, hx2⟩ := RX.of hr2
  have hln2 := hx2.rn.lenle
  unfold maxLen at hln2
  refine q_fldL (p := ve) 0 fd31_0 rfl (hl2 _ (Chg.of_ext [] hE1.drew)) zN (q_load (p := (padd ve 0)) (.inl rfl) (.int .i64 ex.kind) one2 rfl ((hl2 _ (Chg.of_ext [] hE1.drew)).ld (i := 0) z72_0) zN (lw_tv 1 rfl (q_nilP (hex.isPtr) rfl zN (q_fldL (p := ve) 1 fd31_1 rfl (hl2 _ (Chg.of_ext [] hE1.drew)) zN (q_load (p := (padd ve 1)) (.inl rfl) (.int .i64 ex.num) one2 rfl ((hl2 _ (Chg.of_ext [] hE1.drew)).ld (i := 1) z72_0) zN (lw_tv 1 rfl (q_nilP (hex.isPtr) rfl zN (q_fldL (p := ve) 2 fd31_2 rfl (hl2 _ (Chg.of_ext [] hE1.drew)) zN (q_load (p := (padd ve 2)) (.inl rfl) (.int .i64 ex.pick) one2 rfl ((hl2 _ (Chg.of_ext [] hE1.drew)).ld (i := 2) z72_0) zN (lw_tv 1 rfl (q_nilP (hex.isPtr) rfl zN ?_)))))))))))
  refine q_fldL (p := ve) 3 fd31_3 rfl (hl2 _ (Chg.of_ext [] hE1.drew)) zN (q_load (p := (padd ve 3)) (.inl rfl) (.int .i64 ex.count) one2 rfl ((hl2 _ (Chg.of_ext [] hE1.drew)).ld (i := 3) z72_0) zN ?_)
  have hbd3 : ∀ (wq : World), (Instr.build 31 #[(0, (.int .i64 ex.kind)), (1, (.int .i64 ex.num)), (2, (.int .i64 ex.pick)), (3, (.int .i64 ex.count))]).run Try.prog wq = .ok (.agg #[(.int .i64 ex.kind), (.int .i64 ex.num), (.int .i64 ex.pick), (.int .i64 ex.count), (.slice none 0 0)]) wq := by intro wq; kernel_rfl
  refine q_build (ps := #[(0, (.int .i64 ex.kind)), (1, (.int .i64 ex.num)), (2, (.int .i64 ex.pick)), (3, (.int .i64 ex.count))]) (.agg #[(.int .i64 ex.kind), (.int .i64 ex.num), (.int .i64 ex.pick), (.int .i64 ex.count), (.slice none 0 0)]) (by simp only [List.map_toArray, List.map_cons, List.map_nil]; rfl) (fun wq => hbd3  wq) zN ?_
  have hq5 := hB1.lt
  have hdr4 : w1.drew.heap.size = w1.heap.size := rfl
  refine r_allocA (z := .agg #[.int .i64 0, .int .i64 0, .int .i64 0, .int .i64 0, .slice none 0 0]) zr31 zN fun w4 hX4 hz4 hB4 => ?_
  replace hX4 := hX4.of_drew
  have hzs4 : w1.heap.size ≤ w4.heap.size := hX4.size
  have hE4 : Ext w w4 := hE1.trans hX4
  have hB1x4 := hB1.ext hX4
  replace hB4 : BX w4.heap w1.drew.heap.size [(.int .i64 0), (.int .i64 0), (.int .i64 0), (.int .i64 0), (.slice none 0 0)] := hB4
  refine e_setA (vs := [(.int .i64 ex.kind), (.int .i64 ex.num), (.int .i64 ex.pick), (.int .i64 ex.count), (.slice none 0 0)]) agg31 rfl rfl (by intro u hu; simp only [List.mem_cons, List.not_mem_nil, or_false] at hu; rcases hu with rfl | rfl | rfl | rfl | rfl <;> first | exact ⟨rfl, rfl⟩) hB4 rfl rfl zN fun w6 hC6 hz6 hB6 => ?_
  replace hB6 : BX w6.heap w1.drew.heap.size [(.int .i64 ex.kind), (.int .i64 ex.num), (.int .i64 ex.pick), (.int .i64 ex.count), (.slice none 0 0)] := hB6
  have hzs6 : w4.heap.size ≤ w6.heap.size := hC6.size
  have hE6 : Ext w w6 := hC6.below hE4 (fun c hc => by have := List.mem_singleton.1 hc; omega) hE4.size
  have hF7 := hB1x4.chg hC6 (fun hm => by have := List.mem_singleton.1 hm; omega)
  refine lw_nil (wp_seq (wp_seq (wp_plain _ [0] rfl ?_)))
  have hrg : exR ex := hx2.rng
  have hdx : 1 ≤ dex := by omega
  refine lw_tvn 1 rfl (wp_block ?_)
  refine c_loop (S := Nat × Value) (fun (⟨i, vk⟩ : Nat × Value) => ([(4, (.int .i64 ((i : Nat) : Int))), (0, ve), (2, (.pointer (some ⟨w.heap.size, 0, none⟩))), (3, (.pointer (some ⟨w1.drew.heap.size, 0, none⟩)))] : List (Nat × Value))) (fun (⟨i, vk⟩ : Nat × Value) (W : World) => Ext w W ∧ Fr (owS 5 (oEx 31 (dex - 1)) 31) w6.heap.size W.heap.size W.heap vk (ex.kids.take i) ∧ BX W.heap w.heap.size [(.int .i64 0), (.int .i64 0), (.int .i64 0), (.int .i64 0), (.slice none 0 0)] ∧ BX W.heap w1.drew.heap.size [(.int .i64 ex.kind), (.int .i64 ex.num), (.int .i64 ex.pick), (.int .i64 ex.count), vk] ∧ i ≤ ex.kids.length ∧ w.heap.size < w6.heap.size ∧ w1.drew.heap.size < w6.heap.size ∧ w6.heap.size ≤ W.heap.size) (fun (⟨i, vk⟩ : Nat × Value) => ex.kids.length - i) (0, (.slice none 0 0)) ⟨rfl, rfl, rfl, rfl, trivial⟩ ⟨hE6, (frNilS _ 0 _).up (good_owS (good_oEx 31 (dex - 1))), hF7, hB6, oM, oM, oM, oM⟩ ?_
  clear hE0 hz1 hX1 hzs1 hE1 hln2 hz4 hX4 hzs4 hE4 hz6 hC6 hF7
  rintro ⟨i, vk⟩ ρ10 w10 ⟨hE10, hL10_0, hL10_1, hL10_2, hp10_0, hkg8, hkg9, hkB11⟩
  have hzs10 : w.heap.size ≤ w10.heap.size := hE10.size
  have hq12 := hL10_1.lt
  have hq13 := hL10_2.lt
  refine wp_seq (wp_seq (wp_plain _ [0, 0, 0, 0, 2, 0, 0] rfl (lw_tv 2 rfl (q_nilP (hex.isPtr) rfl zN (q_fldL (p := ve) 4 fd31_4 rfl (hl2 _ (Chg.of_ext [] hE10)) zN (q_load (p := (padd ve 4)) (.inr rfl) ve2 one29 rfl ((hl2 _ (Chg.of_ext [] hE10)).ld (i := 4) z72_0) zN (q_len (v := ve2) u29 rfl hx2.rn.isSl zN ?_)))))))
  by_cases hc14 : ((i : Nat) : Int) < ((ex.kids.length : Nat) : Int)
  ·
    refine q_lss true rfl rfl (decide_eq_true hc14) zN (lw_nil (c_cond_t rfl (wp_skip (wp_seq (wp_block (wp_draw _ [0, 1, 0, 0, 0, 1, 0, 0, 3, 3, 4, 0, 4] mixed (by kernel_rfl) (q_fldP (p := (.pointer (some ⟨w1.drew.heap.size, 0, none⟩))) (b := w1.drew.heap.size) (o := 0) 4 fd31_4 rfl rfl zN (q_load (p := (padd (.pointer (some ⟨w1.drew.heap.size, 0, none⟩)) 4)) (.inl rfl) vk one29 rfl (hL10_2.ldp (i := 4) sM) zN (lw_tv 1 rfl (q_nilP (hex.isPtr) rfl zN (q_fldL (p := ve) 4 fd31_4 rfl (hl2 _ (Chg.of_ext [] hE10.drew)) zN (q_load (p := (padd ve 4)) (.inl rfl) ve2 one29 rfl ((hl2 _ (Chg.of_ext [] hE10.drew)).ld (i := 4) z72_0) zN (lw_tv 1 rfl ?_)))))))))))))
    refine q_idx (v := ve2) i u29 tiS31 rfl rfl hx2.rn.isSl rfl sD zN ?_
    have hsa := sizes_at (l := ex.kids) (k := i) oM
    refine lw_call 72 [] [] [(eptr ve2 i 5)] rfl rfl cf72 zN (ih dd2 oM _ (eptr ve2 i 5) (ex.kids.getD i Ex.zero) (RN.ptr (good_rEx dd2) (by decide) Ex.zero (hx2.rn.ext (good_rdS (good_rEx dd2)) hE10.drew) sD) oM) ?_
    rintro e15 w15 ⟨v15, rfl, hX15, hO15, hr15, hd15⟩
    refine ⟨_, rfl, hX15, ?_⟩
    replace hX15 := hX15.of_drew
    have hzs15 : w10.heap.size ≤ w15.heap.size := hX15.size
    have hE15 : Ext w w15 := hE10.trans hX15
    have hL10_0x15 := hL10_0.ext ((good_owS (good_oEx 31 (dex - 1)))) hX15
    have hL10_1x15 := hL10_1.ext hX15
    have hL10_2x15 := hL10_2.ext hX15
    replace hO15 := hO15.low (B' := w10.heap.size) (Nat.le_refl _)
    refine r_oneS (cs := [(.int .i64 ((ex.kids.getD i Ex.zero).kind)), (.int .i64 ((ex.kids.getD i Ex.zero).num)), (.int .i64 ((ex.kids.getD i Ex.zero).pick)), (.int .i64 ((ex.kids.getD i Ex.zero).count)), v15]) (y := (ex.kids.getD i Ex.zero)) (B := w10.heap.size) (good_oEx 31 (dex - 1)) u29 tiS31 rfl (by decide) rfl (FrN.le (FrN.mk1 oM hr15 hO15) oM) oM zN fun v16 w16 hX16 hz16 hO16 => ?_
    have hzs16 : w15.heap.size ≤ w16.heap.size := hX16.size
    have hE16 : Ext w w16 := hE15.trans hX16
    have hL10_0x16 := hL10_0x15.ext ((good_owS (good_oEx 31 (dex - 1)))) hX16
    have hL10_1x16 := hL10_1x15.ext hX16
    have hL10_2x16 := hL10_2x15.ext hX16
    refine e_appS (v := vk) (a := v16) (good_oEx 31 (dex - 1)) u29 tiS31 rfl (by decide) rfl rfl hL10_0x16 oM hO16 oM oM (by rw [List.length_take]; omega) (by rw [List.length_take]; unfold maxLen; omega) zN fun v17 w17 F17 hC17 hF17 hO17 => ?_
    have hzs17 : w16.heap.size ≤ w17.heap.size := hC17.size
    have hE17 : Ext w w17 := hC17.below hE16 (fun c hc => by have := hF17 _ hc; omega) hE16.size
    have hF18 := hL10_1x16.chg hC17 (fun hm => by have := hF17 _ hm; omega)
    have hF19 := hL10_2x16.chg hC17 (fun hm => by have := hF17 _ hm; omega)
    refine q_fldP (p := (.pointer (some ⟨w1.drew.heap.size, 0, none⟩))) (b := w1.drew.heap.size) (o := 0) 4 fd31_4 rfl rfl zN (e_setB (k := 4) (w := w17) sz29 rfl rfl (isSl_one hO17.isSlS) hF19 sM zN fun w20 hC20 hz20 hB20 => ?_)
    replace hB20 : BX w20.heap w1.drew.heap.size [(.int .i64 ex.kind), (.int .i64 ex.num), (.int .i64 ex.pick), (.int .i64 ex.count), v17] := hB20
    have hzs20 : w17.heap.size ≤ w20.heap.size := hC20.size
    have hE20 : Ext w w20 := hC20.below hE17 (fun c hc => by have := List.mem_singleton.1 hc; omega) hE17.size
    have hF21 := hF18.chg hC20 (fun hm => by have := List.mem_singleton.1 hm; omega)
    have hF22 := hO17.chg ((good_owS (good_oEx 31 (dex - 1)))) hC20 (fun c hc => by have := List.mem_singleton.1 hc; omega)
    exact lw_nil (wp_plain _ [0, 0, 0] rfl (lw_tv 1 rfl (q_add ((i + 1 : Nat) : Int) rfl rfl (w64n oM oM) zN (lw_tvn 1 rfl ⟨((i + 1), v17), _, rfl, ⟨rfl, rfl, rfl, rfl, trivial⟩, ⟨hE20, (by rw [take_snoc Ex.zero oM]; exact hF22.up (good_owS (good_oEx 31 (dex - 1)))), hF21, hB20, oM, oM, oM, oM⟩, by first | omega | (dsimp only; omega)⟩))))
  ·
    refine q_lss false rfl rfl (decide_eq_false hc14) zN (lw_nil (c_cond_f rfl (wp_exit (t_exit (t_exit (c_exit_here (wp_seq (wp_plain _ [2, 4] rfl (q_loadA (p := (.pointer (some ⟨w1.drew.heap.size, 0, none⟩))) (.inr rfl) [(.int .i64 ex.kind), (.int .i64 ex.num), (.int .i64 ex.pick), (.int .i64 ex.count), vk] agg31 rfl (fun wq9 hw9 => LD.of_box (BX.ext (w := w10) hL10_2 hw9)) rfl zN (e_setA (vs := [(.int .i64 ex.kind), (.int .i64 ex.num), (.int .i64 ex.pick), (.int .i64 ex.count), vk]) agg31 rfl rfl (by intro u hu; simp only [List.mem_cons, List.not_mem_nil, or_false] at hu; rcases hu with rfl | rfl | rfl | rfl | rfl <;> first | exact ⟨rfl, rfl⟩ | exact isSl_one hL10_0.isSlS) hL10_1 rfl rfl zN fun w23 hC23 hz23 hB23 => ?_))))))))))
    replace hB23 : BX w23.heap w.heap.size [(.int .i64 ex.kind), (.int .i64 ex.num), (.int .i64 ex.pick), (.int .i64 ex.count), vk] := hB23
    have hzs23 : w10.heap.size ≤ w23.heap.size := hC23.size
    have hE23 : Ext w w23 := hC23.below hE10 (fun c hc => by have := List.mem_singleton.1 hc; omega) hE10.size
    have hF24 := hL10_0.chg ((good_owS (good_oEx 31 (dex - 1)))) hC23 (fun c hc => by have := List.mem_singleton.1 hc; omega)
    have hF25 := hL10_2.chg hC23 (fun hm => by have := List.mem_singleton.1 hm; omega)
    exact lw_nil (wp_ret (post_retA (cs := [(.int .i64 ex.kind), (.int .i64 ex.num), (.int .i64 ex.pick), (.int .i64 ex.count), vk]) rfl agg31 rfl hB23 rfl ⟨vk, rfl, hE23, (by have h := ((hF24.up (good_owS (good_oEx 31 (dex - 1)))).low (B' := w.heap.size) oM); rwa [List.take_of_length_le oM] at h), (by exact hrg), (by exact hdx)⟩))
end Go.Proofs.Ytnokbaiemimhjaa
namespace Go.Proofs.Ytnokbaiemimhjaa
open Go Go.RowKit
set_option linter.unusedVariables false
set_option linter.unusedSimpArgs false
set_option maxHeartbeats 4000000
set_option maxRecDepth 100000
attribute [local irreducible] LW
theorem li_n {p : List Fn} {f : Int} {a d : Sr} (h : isF p f ≠ 0) : isF p f = liC p f a d := by unfold liC; rw [if_neg h]
theorem li_a {p : List Fn} {f : Int} {a d : Sr} (h : isF p f = 0) (h2 : (decide (((a.length : Nat) : Int) = (p.getD f.toNat Fn.zero).params) && allN a) = false) : 2 = liC p f a d := by unfold liC; rw [if_pos h, h2]; rfl
theorem li_d {p : List Fn} {f : Int} {a d : Sr} (h : isF p f = 0) (h2 : (decide (((d.length : Nat) : Int) = (p.getD f.toNat Fn.zero).params) && allN d) = false) : 2 = liC p f a d := by unfold liC; rw [if_pos h, h2, Bool.and_false]; rfl
theorem li_0 {p : List Fn} {f : Int} {a d : Sr} (h : isF p f = 0) (h1 : (decide (((a.length : Nat) : Int) = (p.getD f.toNat Fn.zero).params) && allN a) = true) (h2 : (decide (((d.length : Nat) : Int) = (p.getD f.toNat Fn.zero).params) && allN d) = true) : isF p f = liC p f a d := by unfold liC; rw [if_pos h, h1, h2]; exact h
theorem z75_0 {p : Prop} (h : p := by first | exact li_n oM | exact li_a oM (bn_t (by assumption)) | exact li_d oM (bn_t (by assumption)) | exact li_0 oM (bn_f (by assumption)) (bn_f (by assumption))) : p := h
theorem c_impl_isLine (w : World) (dp : Nat) (vp : Value) (p : List Fn) (f : Int) (va : Value) (a : List Int) (vd : Value) (d : List Int) (hp : RP [] dp w.heap vp p) (_hf : -9223372036854775808 ≤ f ∧ f ≤ 9223372036854775807) (ha : Rd (rdL rI) w.heap va a) (hd : Rd (rdL rI) w.heap vd d) (hz : SzP p) :
    Calls Try.prog 75 #[(.agg #[vp]), .int .i64 f, va, vd] w (fun e w' => e = .returned (.int .i64 (liC p f a d)) ∧ Ext w w') := by
  refine calls_mk [(.agg #[vp]), .int .i64 f, va, vd] 38 Try.func75 rfl rfl sM ?_
  have hE0 : Ext w w := Ext.refl w
  have hl_vp := hp.lenle
  unfold maxLen at hl_vp
  have hl_va := ha.lenle
  have hl_vd := hd.lenle
  refine wp_seq (wp_plain _ [3, 0] rfl (r_boxA (cs := #[vp]) rfl zN fun w1 hX1 hz1 hB1 => ?_))
  have hzs1 : w.heap.size ≤ w1.heap.size := hX1.size
  have hE1 : Ext w w1 := hE0.trans hX1
  replace hB1 : BX w1.heap w.heap.size [vp] := hB1
  refine lw_tvn 1 rfl (wp_seq (wp_plain _ [2, 0, 3, 0] rfl (q_loadA (p := (.pointer (some ⟨w.heap.size, 0, none⟩))) (.inr rfl) [vp] agg37 rfl (fun wq9 hw9 => LD.of_box (BX.ext (w := w1) hB1 hw9)) rfl zN (lw_tv 1 rfl (lw_call 114 [] [] [(.agg #[vp]), (.int .i64 f)] rfl rfl cf114 zN (c_impl_isFunc _ dp vp (p) _ (hp.ext (good_rdS (good_rFn dp)) hE1) _hf (by exact hz)) ?_)))))
  rintro e2 w2 ⟨rfl, hX2⟩
  refine ⟨_, rfl, hX2, ?_⟩
  have hzs2 : w1.heap.size ≤ w2.heap.size := hX2.size
  have hE2 : Ext w w2 := hE1.trans hX2
  have hB1x2 := hB1.ext hX2
  refine lw_tvn 1 rfl (wp_seq (wp_seq (wp_plain _ [0, 0, 0, 0, 0, 2, 0, 0, 0, 2, 3, 0, 0, 0, 0, 2, 0, 0, 0, 2, 3, 0, 0, 0] rfl (lw_tv 1 rfl ?_))))
  by_cases hc3 : isF p f = ((0 : Nat) : Int)
  ·
    refine q_eql true rfl rfl (decide_eq_true hc3) zN (lw_tv 2 rfl ?_)
    have hi0 := isF_0 (p := p) (f := f) oM
    refine q_fldP (p := (.pointer (some ⟨w.heap.size, 0, none⟩))) (b := w.heap.size) (o := 0) 0 fd37_0 rfl rfl (zS (e := 15) rfl rfl rfl) (q_load (p := (padd (.pointer (some ⟨w.heap.size, 0, none⟩)) 0)) (.inr rfl) vp one35 rfl (hB1x2.ldp (i := 0) sM) (zS (e := 15) rfl rfl rfl) (lw_tv 1 rfl (q_idx (v := vp) ((f).toNat) u35 tiS34 rfl rfl hp.isSl oM sD (zS (e := 15) rfl rfl rfl) ?_)))
    obtain ⟨cs4, hr4, hl4⟩ := hp.get (good_rFn dp) Fn.zero (k := ((f).toNat)) sD
    obtain ⟨ve4, rfl, hx4⟩ := RF.of hr4
    have hln4 := hx4.rn.lenle
    unfold maxLen at hln4
    refine q_fldL (p := eptr vp ((f).toNat) 3) 1 fd34_1 rfl (hl4 _ (Chg.of_ext [] hE2)) (zS (e := 15) rfl rfl rfl) (q_load (p := (padd (eptr vp ((f).toNat) 3) 1)) (.inr rfl) (.int .i64 ((p.getD ((f).toNat) Fn.zero).params)) one2 rfl ((hl4 _ (Chg.of_ext [] hE2)).ld (i := 1) (by simp [exC, fnC])) (zS (e := 15) rfl rfl rfl) (lw_call 42 [] [] [va, (.int .i64 ((p.getD ((f).toNat) Fn.zero).params))] rfl rfl cf42 (zS (e := 15) rfl rfl rfl) (c_impl_areNumbers _ _ _ _ (ha.ext g1 hE2) hx4.rng) ?_))
    rintro e5 w5 ⟨rfl, hX5⟩
    refine ⟨_, rfl, hX5, ?_⟩
    have hzs5 : w2.heap.size ≤ w5.heap.size := hX5.size
    have hE5 : Ext w w5 := hE2.trans hX5
    have hB1x5 := hB1x2.ext hX5
    refine q_not (!(decide (((a.length : Nat) : Int) = ((p.getD ((f).toNat) Fn.zero).params)) && allN a)) rfl rfl (zS (e := 15) rfl rfl rfl) (lw_tv 1 rfl ?_)
    cases hb6 : (!(decide (((a.length : Nat) : Int) = ((p.getD ((f).toNat) Fn.zero).params)) && allN a))
    ·
      refine lw_tv 1 rfl (q_fldP (p := (.pointer (some ⟨w.heap.size, 0, none⟩))) (b := w.heap.size) (o := 0) 0 fd37_0 rfl rfl (zS (e := 25) rfl rfl rfl) (q_load (p := (padd (.pointer (some ⟨w.heap.size, 0, none⟩)) 0)) (.inr rfl) vp one35 rfl (hB1x5.ldp (i := 0) sM) (zS (e := 25) rfl rfl rfl) (lw_tv 1 rfl (q_idx (v := vp) ((f).toNat) u35 tiS34 rfl rfl hp.isSl oM sD (zS (e := 25) rfl rfl rfl) ?_))))
      refine q_fldL (p := eptr vp ((f).toNat) 3) 1 fd34_1 rfl (hl4 _ (Chg.of_ext [] hE5)) (zS (e := 25) rfl rfl rfl) (q_load (p := (padd (eptr vp ((f).toNat) 3) 1)) (.inr rfl) (.int .i64 ((p.getD ((f).toNat) Fn.zero).params)) one2 rfl ((hl4 _ (Chg.of_ext [] hE5)).ld (i := 1) (by simp [exC, fnC])) (zS (e := 25) rfl rfl rfl) (lw_call 42 [] [] [vd, (.int .i64 ((p.getD ((f).toNat) Fn.zero).params))] rfl rfl cf42 (zS (e := 25) rfl rfl rfl) (c_impl_areNumbers _ _ _ _ (hd.ext g1 hE5) hx4.rng) ?_))
      rintro e7 w7 ⟨rfl, hX7⟩
      refine ⟨_, rfl, hX7, ?_⟩
      have hzs7 : w5.heap.size ≤ w7.heap.size := hX7.size
      have hE7 : Ext w w7 := hE5.trans hX7
      have hB1x7 := hB1x5.ext hX7
      refine q_not (!(decide (((d.length : Nat) : Int) = ((p.getD ((f).toNat) Fn.zero).params)) && allN d)) rfl rfl (zS (e := 25) rfl rfl rfl) (lw_tvn 2 rfl ?_)
      cases hb8 : (!(decide (((d.length : Nat) : Int) = ((p.getD ((f).toNat) Fn.zero).params)) && allN d))
      ·
        exact c_cond_f (by first | rfl | (show Value.bool _ = _; rw [hb8])) (wp_skip (wp_seq (wp_plain _ [0, 0] rfl (lw_tvn 2 rfl (wp_ret (post_ret [8] rfl (.int .i64 (isF p f)) rfl ⟨(ret_int z75_0), hE7⟩))))))
      ·
        exact c_cond_t (by first | rfl | (show Value.bool _ = _; rw [hb8])) (wp_plain _ [0] rfl (lw_tvn 1 rfl (wp_seq (wp_plain _ [0, 0] rfl (lw_tvn 2 rfl (wp_ret (post_ret [8] rfl (.int .i64 ((2 : Nat) : Int)) rfl ⟨(ret_int z75_0), hE7⟩)))))))
    ·
      exact lw_tvn 11 rfl (c_cond_t rfl (wp_plain _ [0] rfl (lw_tvn 1 rfl (wp_seq (wp_plain _ [0, 0] rfl (lw_tvn 2 rfl (wp_ret (post_ret [8] rfl (.int .i64 ((2 : Nat) : Int)) rfl ⟨(ret_int z75_0), hE5⟩))))))))
  ·
    exact q_eql false rfl rfl (decide_eq_false hc3) zN (lw_tvn 22 rfl (c_cond_f rfl (wp_skip (wp_seq (wp_plain _ [0, 0] rfl (lw_tvn 2 rfl (wp_ret (post_ret [8] rfl (.int .i64 (isF p f)) rfl ⟨(ret_int z75_0), hE2⟩))))))))
theorem c_unitG (w : World) (n : Nat) (vp : Value) (ps : List Int) (_hn : n ≤ 1000000000000) (hps : Rd (rdL rI) w.heap vp ps) (hn : n ≤ 1000) (hk : ∀ j, j < ps.length → 0 ≤ ps.getD j 0 ∧ ps.getD j 0 < ((n : Nat) : Int)) :
    Calls Try.prog 81 #[.int .i64 ((n : Nat) : Int), vp] w (fun e w' => ∃ v0 : Value, e = .returned (v0) ∧ Ext w w' ∧ Fr (owL rI 2) w.heap.size w'.heap.size w'.heap v0 (uniG n ps ps.length)) := by
  refine calls_mk [.int .i64 ((n : Nat) : Int), vp] 27 Try.func81 rfl rfl sM ?_
  have hE0 : Ext w w := Ext.refl w
  have hl_vp := hps.lenle
  refine wp_seq (wp_plain _ [0] rfl (lw_tvn 1 rfl (wp_seq (wp_plain _ [0, 3, 0] rfl (lw_tv 1 rfl (r_make (n := n) u25 ti2 rfl rfl rfl sD zN fun v1 w1 hX1 hz1 hO1 => ?_))))))
  have hzs1 : w.heap.size ≤ w1.heap.size := hX1.size
  have hE1 : Ext w w1 := hE0.trans hX1
  refine lw_tvn 1 rfl (wp_seq (wp_seq (wp_plain _ [0, 0, 0] rfl (lw_tv 1 rfl (q_len (v := vp) u25 rfl hps.isSl zN (lw_tvn 1 rfl (wp_block (c_loop (S := Nat) (fun (j : Nat) => ([(12, (.int .i64 ((j : Nat) : Int))), (5, v1), (10, vp), (11, (.int .i64 ((ps.length : Nat) : Int)))] : List (Nat × Value))) (fun (j : Nat) (W : World) => Ext w W ∧ Fr (owL rI 2) w.heap.size W.heap.size W.heap v1 (uniG n ps j) ∧ j ≤ ps.length) (fun (j : Nat) => ps.length - j) 0 ⟨rfl, rfl, rfl, rfl, trivial⟩ ⟨hE1, (by exact hO1.up o1), oM⟩ ?_))))))))
  clear hE0 hO1 hz1 hX1 hzs1 hE1
  rintro j ρ2 w2 ⟨hE2, hL2_0, hp2_0⟩
  have hzs2 : w.heap.size ≤ w2.heap.size := hE2.size
  have hul := uniG_len n ps j
  refine wp_seq (wp_plain _ [0] rfl ?_)
  by_cases hc3 : ((j : Nat) : Int) < ((ps.length : Nat) : Int)
  ·
    refine q_lss true rfl rfl (decide_eq_true hc3) zN (lw_nil (wp_seq (c_cond_t rfl (wp_skip (wp_seq (wp_block (wp_seq (wp_plain _ [0, 2, 0] rfl ?_))))))))
    have hkj := hk j oM
    refine q_idx (v := vp) j u25 ti2 rfl rfl hps.isSl rfl sD zN ?_
    refine q_load (p := eptr vp j 1) (.inr rfl) (.int .i64 (ps.getD j 0)) one2 rfl (ldH_ext hE2 (hps.getI sD).1) zN (lw_tvn 1 rfl (wp_plain _ [0, 0, 0, 0, 0, 2, 0, 0, 0, 4] rfl (lw_tv 4 rfl ?_)))
    refine q_idx (v := v1) ((ps.getD j 0).toNat) u25 ti2 rfl rfl hL2_0.isSl oM sD zN ?_
    refine q_load (p := eptr v1 ((ps.getD j 0).toNat) 1) (.inr rfl) (.int .i64 ((uniG n ps j).getD ((ps.getD j 0).toNat) 0)) one2 rfl (hL2_0.rd1.getI sD).1 zN ?_
    have hgn := allN_get (uniG_num n ps j) (ps.getD j 0).toNat
    refine q_add (((uniG n ps j).getD ((ps.getD j 0).toNat) 0) + ((1 : Nat) : Int)) rfl rfl (w64 sD sD) zN ?_
    refine q_rem (md (((uniG n ps j).getD ((ps.getD j 0).toNat) 0) + ((1 : Nat) : Int))) rfl rfl (by decide) (Int.tmod_eq_emod_of_nonneg oM) zN (q_idx (v := v1) ((ps.getD j 0).toNat) u25 ti2 rfl rfl hL2_0.isSl oM sD zN ?_)
    refine e_setI (v := v1) (w := w2) sz2 rfl rfl (md_rng _) hL2_0 sD zN fun w4 F4 hC4 hz4 hF4 hO4 => ?_
    have hE4 : Ext w w4 := hC4.below hE2 (fun c hc => Nat.le_trans (Nat.le_refl _) (hF4 c hc).1) hE2.size
    have hzs4 : w2.heap.size ≤ w4.heap.size := hC4.size
    exact lw_nil (wp_plain _ [0, 0] rfl (q_add ((j + 1 : Nat) : Int) rfl rfl (w64n oM sD) zN (lw_tvn 1 rfl ⟨(j + 1), _, rfl, ⟨rfl, rfl, rfl, rfl, trivial⟩, ⟨hE4, (by exact hO4.up o1), oM⟩, by first | omega | (dsimp only; omega)⟩)))
  ·
    exact q_lss false rfl rfl (decide_eq_false hc3) zN (lw_nil (wp_seq (c_cond_f rfl (wp_exit (t_exit (t_exit (c_exit_here (wp_seq (wp_plain _ [0, 0] rfl (lw_tvn 2 rfl (wp_ret (post_ret [4] rfl v1 rfl ⟨v1, rfl, hE2, (by have h := hL2_0.up o1; rw [show j = ps.length from by omega] at h; exact h)⟩))))))))))))
theorem z116_0 {p : Prop} (h : p := by unfold maxLen; first | omega | assumption | (simp only [List.length_nil, List.length_cons, List.length_append, List.length_set, List.length_replicate]; omega) | (simp [List.length_nil, List.length_cons, List.length_append, List.length_set, List.length_replicate]; done) | (simp [List.length_nil, List.length_cons, List.length_append, List.length_set, List.length_replicate]; omega)) : p := h
theorem c_impl_Program_along (w : World) (dp : Nat) (vp : Value) (p : List Fn) (f : Int) (va : Value) (a : List Int) (vd : Value) (d : List Int) (o : Nat) (hp : RP [] dp w.heap vp p) (_hf : -9223372036854775808 ≤ f ∧ f ≤ 9223372036854775807) (ha : Rd (rdL rI) w.heap va a) (hd : Rd (rdL rI) w.heap vd d) (hvp : VPr p) (hf : 0 ≤ f ∧ f < ((p.length : Nat) : Int)) (hl : ((a.length : Nat) : Int) = (p.getD f.toNat Fn.zero).params) (hld : d.length = a.length) (hna : allN a = true) (hnd : allN d = true) (ho : o ≤ 12) :
    Calls Try.prog 116 #[(.agg #[vp]), .int .i64 f, va, vd, .int .i64 ((o : Nat) : Int)] w (fun e w' => ∃ v0 : Value, e = .returned (.tuple #[v0, .int .i64 (evD p (o + 1) f.toNat (alS a d (o + 1)))]) ∧ Ext w w' ∧ Fr (owL (owL rI 2) 25) w.heap.size w'.heap.size w'.heap v0 (evR p (o + 1) f.toNat (alS a d (o + 1))) ∧ EvP p (o + 1) f.toNat (alS a d (o + 1))) := by
  refine calls_mk [(.agg #[vp]), .int .i64 f, va, vd, .int .i64 ((o : Nat) : Int)] 57 Try.func116 rfl rfl sM ?_
  have hE0 : Ext w w := Ext.refl w
  have hl_vp := hp.lenle
  unfold maxLen at hl_vp
  have hl_va := ha.lenle
  have hl_vd := hd.lenle
  have hpr := hvp.par f.toNat oM
  refine wp_seq (wp_plain _ [3, 0, 0] rfl (r_boxA (cs := #[vp]) rfl zN fun w1 hX1 hz1 hB1 => ?_))
  have hzs1 : w.heap.size ≤ w1.heap.size := hX1.size
  have hE1 : Ext w w1 := hE0.trans hX1
  replace hB1 : BX w1.heap w.heap.size [vp] := hB1
  refine lw_tvn 2 rfl (wp_seq (wp_plain _ [3, 0] rfl (r_nil (owL rI 2) o1 u24 ti25 zN fun v2 w2 hX2 hz2 hO2 => ?_)))
  have hzs2 : w1.heap.size ≤ w2.heap.size := hX2.size
  have hE2 : Ext w w2 := hE1.trans hX2
  have hB1x2 := hB1.ext hX2
  refine lw_tvn 1 rfl (wp_seq (wp_seq (wp_plain _ [0, 0, 0] rfl (lw_tv 1 rfl (q_len (v := va) u25 rfl ha.isSl zN (lw_tvn 1 rfl (wp_block ?_)))))))
  refine c_loop (S := Nat × Value) (fun (⟨k, vo⟩ : Nat × Value) => ([(12, vo), (22, (.int .i64 ((k : Nat) : Int))), (1, (.int .i64 f)), (3, vd), (4, (.int .i64 ((o : Nat) : Int))), (5, (.pointer (some ⟨w.heap.size, 0, none⟩))), (20, va), (21, (.int .i64 ((a.length : Nat) : Int)))] : List (Nat × Value))) (fun (⟨k, vo⟩ : Nat × Value) (W : World) => Ext w W ∧ Fr (owL (owL rI 2) 25) w1.heap.size W.heap.size W.heap vo ((alS a d (o + 1)).take k) ∧ BX W.heap w.heap.size [vp] ∧ k ≤ a.length ∧ w.heap.size < w1.heap.size ∧ w1.heap.size ≤ W.heap.size) (fun (⟨k, vo⟩ : Nat × Value) => a.length - k) (0, v2) ⟨rfl, rfl, rfl, rfl, rfl, rfl, rfl, rfl, trivial⟩ ⟨hE2, hO2.up o2, hB1x2, oM, oM, oM⟩ ?_
  clear hE0 hz1 hX1 hO2 hz2 hX2 hzs2 hE2
  rintro ⟨k, vo⟩ ρ4 w4 ⟨hE4, hL4_0, hL4_1, hp4_0, hkg3, hkB5⟩
  have hzs4 : w.heap.size ≤ w4.heap.size := hE4.size
  have hq6 := hL4_1.lt
  refine wp_seq (wp_plain _ [0] rfl ?_)
  by_cases hc7 : ((k : Nat) : Int) < ((a.length : Nat) : Int)
  ·
    refine q_lss true rfl rfl (decide_eq_true hc7) zN (lw_nil (wp_seq (c_cond_t rfl (wp_skip (wp_seq (wp_block (wp_seq (wp_plain _ [0, 0, 2, 0, 0] rfl (lw_tv 1 rfl (q_idx (v := va) k u25 ti2 rfl rfl ha.isSl rfl sD zN ?_))))))))))
    refine q_load (p := eptr va k 1) (.inr rfl) (.int .i64 (a.getD k 0)) one2 rfl (ldH_ext hE4 (ha.getI sD).1) zN (lw_tvn 2 rfl (wp_seq (wp_plain _ [0, 0, 3, 0] rfl (lw_tv 1 rfl (q_add ((o + 1 : Nat) : Int) rfl rfl (w64n oM oM) zN ?_)))))
    refine r_make (n := o + 1) u25 ti2 rfl rfl rfl sD zN fun v8 w8 hX8 hz8 hO8 => ?_
    have hzs8 : w4.heap.size ≤ w8.heap.size := hX8.size
    have hE8 : Ext w w8 := hE4.trans hX8
    have hL4_0x8 := hL4_0.ext (o2) hX8
    have hL4_1x8 := hL4_1.ext hX8
    refine lw_tvn 1 rfl (wp_seq (wp_plain _ [0, 0, 0, 4] rfl (lw_tv 2 rfl (q_idx (v := v8) 0 u25 ti2 rfl rfl hO8.isSl rfl sD zN ?_))))
    refine e_setI (v := v8) (w := w8) sz2 rfl rfl (ha.getI sD).2 hO8 sD zN fun w9 F9 hC9 hz9 hF9 hO9 => ?_
    have hE9 : Ext w w9 := hC9.below hE8 (fun c hc => Nat.le_trans hE4.size (hF9 c hc).1) hE8.size
    have hzs9 : w8.heap.size ≤ w9.heap.size := hC9.size
    have hF10 := hL4_0x8.chg (o2) hC9 (fun c hc => by have := hF9 c hc; omega)
    have hF11 := hL4_1x8.chg hC9 (fun hm => by have := hF9 _ hm; omega)
    refine lw_nil (wp_seq (wp_seq (wp_plain _ [0, 0] rfl (lw_tv 1 rfl ?_))))
    by_cases hc12 : ((0 : Nat) : Int) < ((o : Nat) : Int)
    ·
      refine q_gtr true rfl rfl (decide_eq_true hc12) zN (lw_nil (c_cond_t rfl (wp_plain _ [0, 0, 0, 0, 2, 0, 4] rfl (lw_tv 3 rfl (q_idx (v := vd) k u25 ti2 rfl rfl hd.isSl rfl sD zN ?_)))))
      refine q_load (p := eptr vd k 1) (.inr rfl) (.int .i64 (d.getD k 0)) one2 rfl (ldH_ext hE9 (hd.getI sD).1) zN ?_
      refine q_idx (v := v8) 1 u25 ti2 rfl rfl hO9.isSl rfl sD zN ?_
      refine e_setI (v := v8) (w := w9) sz2 rfl rfl (hd.getI sD).2 hO9 sD zN fun w13 F13 hC13 hz13 hF13 hO13 => ?_
      have hE13 : Ext w w13 := hC13.below hE9 (fun c hc => Nat.le_trans hE4.size (hF13 c hc).1) hE9.size
      have hzs13 : w9.heap.size ≤ w13.heap.size := hC13.size
      have hF14 := hF10.chg (o2) hC13 (fun c hc => by have := hF13 c hc; omega)
      have hF15 := hF11.chg hC13 (fun hm => by have := hF13 _ hm; omega)
      refine lw_nil (wp_plain _ [0, 0, 3, 4, 0] rfl (lw_tv 2 rfl (r_one (u := v8) (B := w4.heap.size) o1 u24 ti25 rfl rfl hO13 (by first | exact Nat.le_refl _ | omega) zN fun v16 w16 hX16 hz16 hO16 => ?_)))
      have hzs16 : w13.heap.size ≤ w16.heap.size := hX16.size
      have hE16 : Ext w w16 := hE13.trans hX16
      have hF14x16 := hF14.ext (o2) hX16
      have hF15x16 := hF15.ext hX16
      refine e_appF o1 (v := vo) (a := v16) u24 ti25 rfl rfl rfl hF14x16 oM hO16 oM oM sD z116_0 zN fun v17 w17 F17 hC17 hF17 hO17 => ?_
      have hE17 : Ext w w17 := hC17.below hE16 (fun c hc => Nat.le_trans hE1.size (hF17 c hc).1) hE16.size
      have hzs17 : w16.heap.size ≤ w17.heap.size := hC17.size
      have hF18 := hF15x16.chg hC17 (fun hm => by have := hF17 _ hm; omega)
      exact lw_tvn 1 rfl (wp_plain _ [0, 0] rfl (q_add ((k + 1 : Nat) : Int) rfl rfl (w64n oM sD) zN (lw_tvn 1 rfl ⟨((k + 1), v17), _, rfl, ⟨rfl, rfl, rfl, rfl, rfl, rfl, rfl, rfl, trivial⟩, ⟨hE17, (by rw [take_snoc [] (by simp; omega), alS_at oM]; first | exact hO17.up o2 | (have h := hO17.up o2; rw [List.set_eq_of_length_le (by rw [cst_len]; omega)]; exact h)), hF18, oM, oM, oM⟩, by first | omega | (dsimp only; omega)⟩)))
    ·
      refine q_gtr false rfl rfl (decide_eq_false hc12) zN (lw_nil (c_cond_f rfl (wp_skip (wp_plain _ [0, 0, 3, 4, 0] rfl (lw_tv 2 rfl (r_one (u := v8) (B := w4.heap.size) o1 u24 ti25 rfl rfl hO9 (by first | exact Nat.le_refl _ | omega) zN fun v19 w19 hX19 hz19 hO19 => ?_))))))
      have hzs19 : w9.heap.size ≤ w19.heap.size := hX19.size
      have hE19 : Ext w w19 := hE9.trans hX19
      have hF10x19 := hF10.ext (o2) hX19
      have hF11x19 := hF11.ext hX19
      refine e_appF o1 (v := vo) (a := v19) u24 ti25 rfl rfl rfl hF10x19 oM hO19 oM oM sD z116_0 zN fun v20 w20 F20 hC20 hF20 hO20 => ?_
      have hE20 : Ext w w20 := hC20.below hE19 (fun c hc => Nat.le_trans hE1.size (hF20 c hc).1) hE19.size
      have hzs20 : w19.heap.size ≤ w20.heap.size := hC20.size
      have hF21 := hF11x19.chg hC20 (fun hm => by have := hF20 _ hm; omega)
      exact lw_tvn 1 rfl (wp_plain _ [0, 0] rfl (q_add ((k + 1 : Nat) : Int) rfl rfl (w64n oM sD) zN (lw_tvn 1 rfl ⟨((k + 1), v20), _, rfl, ⟨rfl, rfl, rfl, rfl, rfl, rfl, rfl, rfl, trivial⟩, ⟨hE20, (by rw [take_snoc [] (by simp; omega), alS_at oM]; first | exact hO20.up o2 | (have h := hO20.up o2; rw [List.set_eq_of_length_le (by rw [cst_len]; omega)]; exact h)), hF21, oM, oM, oM⟩, by first | omega | (dsimp only; omega)⟩)))
  ·
    refine q_lss false rfl rfl (decide_eq_false hc7) zN (lw_nil (wp_seq (c_cond_f rfl (wp_exit (t_exit (t_exit (c_exit_here (wp_seq (wp_plain _ [2, 0, 0, 0, 3, 0, 0, 0, 0, 0, 0, 0] rfl ?_)))))))))
    have hfull := hL4_0
    rw [show (alS a d (o + 1)).take k = alS a d (o + 1) from List.take_of_length_le (by simp; omega)] at hfull
    refine q_loadA (p := (.pointer (some ⟨w.heap.size, 0, none⟩))) (.inr rfl) [vp] agg37 rfl (fun wq9 hw9 => LD.of_box (BX.ext (w := w4) hL4_1 hw9)) rfl zN (lw_tv 3 rfl (lw_call 122 [] [] [(.agg #[vp]), (.int .i64 f), vo, (.int .i64 ((o : Nat) : Int))] rfl rfl cf122 zN (c_impl_Program_evaluated _ dp vp (p) _ vo (alS a d (o + 1)) (o) (hp.ext (good_rdS (good_rFn dp)) hE4) _hf (RN.of_fr2 hfull (fun b hb => by cases hb)) hfull.cap (by exact hvp) oM (by rw [alS_len]; omega) (by exact alS_ser hna hnd) oM) ?_))
    rintro e22 w22 ⟨v22_0, rfl, hX22, hO22_0, hP22_0⟩
    refine ⟨_, rfl, hX22, ?_⟩
    have hzs22 : w4.heap.size ≤ w22.heap.size := hX22.size
    have hE22 : Ext w w22 := hE4.trans hX22
    have hfullx22 := hfull.ext (o2) hX22
    have hL4_1x22 := hL4_1.ext hX22
    refine lw_tv 1 rfl (q_extract (vs := [v22_0, (.int .i64 ((evT p (o + 1) f.toNat (alS a d (o + 1)) : Nat) : Int)), (.int .i64 (evD p (o + 1) f.toNat (alS a d (o + 1))))]) v22_0 rfl rfl zN (q_extract (vs := [v22_0, (.int .i64 ((evT p (o + 1) f.toNat (alS a d (o + 1)) : Nat) : Int)), (.int .i64 (evD p (o + 1) f.toNat (alS a d (o + 1))))]) (.int .i64 ((evT p (o + 1) f.toNat (alS a d (o + 1)) : Nat) : Int)) rfl rfl zN (q_extract (vs := [v22_0, (.int .i64 ((evT p (o + 1) f.toNat (alS a d (o + 1)) : Nat) : Int)), (.int .i64 (evD p (o + 1) f.toNat (alS a d (o + 1))))]) (.int .i64 (evD p (o + 1) f.toNat (alS a d (o + 1)))) rfl rfl zN (lw_tvn 3 rfl (wp_seq (wp_plain _ [0, 0, 0, 0] rfl (lw_tvn 4 rfl (wp_ret ?_))))))))
    exact post_ret [10, 11] rfl (.tuple #[v22_0, (.int .i64 (evD p (o + 1) f.toNat (alS a d (o + 1))))]) rfl ⟨v22_0, rfl, hE22, (hO22_0.up o2).low hE4.size, (by assumption)⟩
theorem z80_0 {p : Prop} (h : p := by rw [show drR p f.toNat a d = [] from hEP.non (by show evD p (1 + 1) f.toNat (alS a d (1 + 1)) ≠ 0; omega)]; exact frNil _ _ _) : p := h
theorem c_impl_Program_directional (w : World) (dp : Nat) (vp : Value) (p : List Fn) (f : Int) (va : Value) (a : List Int) (vd : Value) (d : List Int) (hp : RP [] dp w.heap vp p) (_hf : -9223372036854775808 ≤ f ∧ f ≤ 9223372036854775807) (ha : Rd (rdL rI) w.heap va a) (hd : Rd (rdL rI) w.heap vd d) (hvp : VPr p) (hf : 0 ≤ f ∧ f < ((p.length : Nat) : Int)) (hl : ((a.length : Nat) : Int) = (p.getD f.toNat Fn.zero).params) (hld : d.length = a.length) (hna : allN a = true) (hnd : allN d = true) :
    Calls Try.prog 80 #[(.agg #[vp]), .int .i64 f, va, vd] w (fun e w' => ∃ v0 v1 : Value, e = .returned (.tuple #[v0, v1, .int .i64 (drC p f.toNat a d)]) ∧ Ext w w' ∧ Fr (owL rI 2) w.heap.size w'.heap.size w'.heap v0 ((drR p f.toNat a d).map (fun s : Sr => s.getD 0 0)) ∧ Fr (owL rI 2) w.heap.size w'.heap.size w'.heap v1 ((drR p f.toNat a d).map (fun s : Sr => s.getD 1 0)) ∧ EvP p 2 f.toNat (alS a d 2)) := by
  refine calls_mk [(.agg #[vp]), .int .i64 f, va, vd] 44 Try.func80 rfl rfl sM ?_
  have hE0 : Ext w w := Ext.refl w
  have hl_vp := hp.lenle
  unfold maxLen at hl_vp
  have hl_va := ha.lenle
  have hl_vd := hd.lenle
  have hpr := hvp.par f.toNat oM
  have hou := hvp.outs f.toNat oM
  refine wp_seq (wp_plain _ [3, 0, 0, 0] rfl (r_boxA (cs := #[vp]) rfl zN fun w1 hX1 hz1 hB1 => ?_))
  have hzs1 : w.heap.size ≤ w1.heap.size := hX1.size
  have hE1 : Ext w w1 := hE0.trans hX1
  replace hB1 : BX w1.heap w.heap.size [vp] := hB1
  refine lw_tvn 3 rfl (wp_seq (wp_plain _ [2, 0, 0, 0, 3, 0, 0, 0, 0, 0] rfl (q_loadA (p := (.pointer (some ⟨w.heap.size, 0, none⟩))) (.inr rfl) [vp] agg37 rfl (fun wq9 hw9 => LD.of_box (BX.ext (w := w1) hB1 hw9)) rfl zN (lw_tv 3 rfl (lw_call 116 [] [] [(.agg #[vp]), (.int .i64 f), va, vd, (.int .i64 ((1 : Nat) : Int))] rfl rfl cf116 zN (c_impl_Program_along _ dp vp (p) _ _ _ _ _ (1) (hp.ext (good_rdS (good_rFn dp)) hE1) _hf (ha.ext g1 hE1) (hd.ext g1 hE1) (by exact hvp) oM oM (by exact hld) (by exact hna) (by exact hnd) oM) ?_)))))
  rintro e2 w2 ⟨v2_0, rfl, hX2, hO2_0, hP2_0⟩
  refine ⟨_, rfl, hX2, ?_⟩
  have hzs2 : w1.heap.size ≤ w2.heap.size := hX2.size
  have hE2 : Ext w w2 := hE1.trans hX2
  have hB1x2 := hB1.ext hX2
  refine lw_tv 1 rfl (q_extract (vs := [v2_0, (.int .i64 (evD p (1 + 1) f.toNat (alS a d (1 + 1))))]) v2_0 rfl rfl zN (q_extract (vs := [v2_0, (.int .i64 (evD p (1 + 1) f.toNat (alS a d (1 + 1))))]) (.int .i64 (evD p (1 + 1) f.toNat (alS a d (1 + 1)))) rfl rfl zN (lw_tvn 2 rfl (wp_seq (wp_seq (wp_plain _ [0, 0] rfl (lw_tv 1 rfl ?_)))))))
  have hEP : EvP p 2 f.toNat (alS a d 2) := by assumption
  by_cases hc3 : evD p (1 + 1) f.toNat (alS a d (1 + 1)) ≠ ((0 : Nat) : Int)
  ·
    exact q_neq true rfl rfl (decide_eq_true hc3) zN (lw_nil (c_cond_t rfl (wp_seq (wp_plain _ [0, 0, 0, 0] rfl (lw_tvn 4 rfl (wp_ret (t_ret (post_ret [8, 9, 10] rfl (.tuple #[(.slice none 0 0), (.slice none 0 0), (.int .i64 (evD p (1 + 1) f.toNat (alS a d (1 + 1))))]) rfl ⟨(.slice none 0 0), (.slice none 0 0), rfl, hE2, z80_0, z80_0, hEP⟩))))))))
  ·
    refine q_neq false rfl rfl (decide_eq_false hc3) zN (lw_nil (c_cond_f rfl (wp_skip (wp_seq (wp_plain _ [3, 0] rfl ?_)))))
    have hdl := hEP.len (by show evD p (1 + 1) f.toNat (alS a d (1 + 1)) = 0; omega)
    have hdl2 : (evR p (1 + 1) f.toNat (alS a d (1 + 1))).length = (p.getD f.toNat Fn.zero).outs.length := hdl
    refine r_nil (rI) good_rI u25 ti2 zN fun v4 w4 hX4 hz4 hO4 => ?_
    have hzs4 : w2.heap.size ≤ w4.heap.size := hX4.size
    have hE4 : Ext w w4 := hE2.trans hX4
    have hB1x4 := hB1x2.ext hX4
    have hO2_0x4 := hO2_0.ext (o2) hX4
    refine lw_tvn 1 rfl (wp_seq (wp_seq (wp_plain _ [0, 0, 0] rfl (lw_tv 1 rfl (q_len (v := v2_0) u24 rfl hO2_0x4.isSl zN (lw_tvn 1 rfl (wp_block ?_)))))))
    refine c_loop (S := Nat × Value) (fun (⟨k, vo⟩ : Nat × Value) => ([(13, vo), (30, (.int .i64 ((k : Nat) : Int))), (11, v2_0), (28, v2_0), (29, (.int .i64 (((evR p (1 + 1) f.toNat (alS a d (1 + 1))).length : Nat) : Int)))] : List (Nat × Value))) (fun (⟨k, vo⟩ : Nat × Value) (W : World) => Ext w W ∧ Fr (owL rI 2) w2.heap.size W.heap.size W.heap vo (((evR p (1 + 1) f.toNat (alS a d (1 + 1))).take k).map (fun s => s.getD 1 0)) ∧ Fr (owL (owL rI 2) 25) w1.heap.size w2.heap.size W.heap v2_0 (evR p (1 + 1) f.toNat (alS a d (1 + 1))) ∧ k ≤ (evR p (1 + 1) f.toNat (alS a d (1 + 1))).length ∧ w2.heap.size ≤ W.heap.size) (fun (⟨k, vo⟩ : Nat × Value) => (evR p (1 + 1) f.toNat (alS a d (1 + 1))).length - k) (0, v4) ⟨rfl, rfl, rfl, rfl, rfl, trivial⟩ ⟨hE4, hO4.up o1, hO2_0x4, oM, oM⟩ ?_
    clear hE0 hz1 hX1 hO2_0 hX2 hO4 hz4 hX4 hzs4 hE4 hO2_0x4
    rintro ⟨k, vo⟩ ρ5 w5 ⟨hE5, hL5_0, hL5_1, hp5_0, hkB6⟩
    have hzs5 : w.heap.size ≤ w5.heap.size := hE5.size
    refine wp_seq (wp_plain _ [0] rfl ?_)
    by_cases hc7 : ((k : Nat) : Int) < (((evR p (1 + 1) f.toNat (alS a d (1 + 1))).length : Nat) : Int)
    ·
      refine q_lss true rfl rfl (decide_eq_true hc7) zN (lw_nil (wp_seq (c_cond_t rfl (wp_skip (wp_seq (wp_block (wp_seq (wp_plain _ [0, 2, 0] rfl (q_idx (v := v2_0) k u24 ti25 rfl rfl hL5_1.isSl rfl sD zN ?_)))))))))
      obtain ⟨ue8, hl8, hd8⟩ := hL5_1.rd2.get (k := k) [] sD
      have hln8 := hd8.lenle
      refine q_load (p := eptr v2_0 k 1) (.inr rfl) ue8 one25 rfl hl8 zN (lw_tvn 1 rfl (wp_plain _ [0, 0, 0, 2, 3, 4, 0] rfl (lw_tv 2 rfl ?_)))
      have hrw := (hEP.ser k (by show k < (evR p (1 + 1) f.toNat (alS a d (1 + 1))).length; omega)).1
      have hrw2 : ((evR p (1 + 1) f.toNat (alS a d (1 + 1))).getD k []).length = 2 := hrw
      refine q_idx (v := ue8) 1 u25 ti2 rfl rfl hd8.isSl rfl sD zN ?_
      refine q_load (p := eptr ue8 1 1) (.inr rfl) (.int .i64 (((evR p (1 + 1) f.toNat (alS a d (1 + 1))).getD k []).getD 1 0)) one2 rfl (hd8.getI sD).1 zN ?_
      refine r_one (u := (.int .i64 (((evR p (1 + 1) f.toNat (alS a d (1 + 1))).getD k []).getD 1 0))) (B := w5.heap.size) good_rI u25 ti2 rfl rfl (frI w5.heap.size w5.heap.size _ _ (hd8.getI sD).2) (Nat.le_refl _) zN fun v9 w9 hX9 hz9 hO9 => ?_
      have hzs9 : w5.heap.size ≤ w9.heap.size := hX9.size
      have hE9 : Ext w w9 := hE5.trans hX9
      have hL5_0x9 := hL5_0.ext (o1) hX9
      have hL5_1x9 := hL5_1.ext (o2) hX9
      have hd8x9 := hd8.ext g1 hX9
      have hlx10 := ldH_ext hX9 hl8
      refine e_appI (v := vo) (a := v9) u25 ti2 rfl rfl rfl hL5_0x9 oM hO9.rd1 sD (by unfold maxLen; first | omega | assumption | (simp only [List.length_nil, List.length_cons, List.length_append, List.length_set, List.length_replicate]; omega) | (simp [List.length_nil, List.length_cons, List.length_append, List.length_set, List.length_replicate]; done) | (simp [List.length_nil, List.length_cons, List.length_append, List.length_set, List.length_replicate]; omega)) zN fun v11 w11 F11 hC11 hF11 hO11 => ?_
      have hE11 : Ext w w11 := hC11.below hE9 (fun c hc => Nat.le_trans hE2.size (hF11 c hc).1) hE9.size
      have hzs11 : w9.heap.size ≤ w11.heap.size := hC11.size
      have hF12 := hL5_1x9.chg (o2) hC11 (fun c hc => by have := hF11 c hc; omega)
      have hF13 := hO9.chg (o1) hC11 (fun c hc => by have := hF11 c hc; omega)
      exact lw_tvn 1 rfl (wp_plain _ [0, 0] rfl (q_add ((k + 1 : Nat) : Int) rfl rfl (w64n oM sD) zN (lw_tvn 1 rfl ⟨((k + 1), v11), _, rfl, ⟨rfl, rfl, rfl, rfl, rfl, trivial⟩, ⟨hE11, (by rw [map_snoc [] oM]; exact hO11.up o1), hF12, oM, oM⟩, by first | omega | (dsimp only; omega)⟩)))
    ·
      refine q_lss false rfl rfl (decide_eq_false hc7) zN (lw_nil (wp_seq (c_cond_f rfl (wp_exit (t_exit (t_exit (c_exit_here (wp_seq (wp_plain _ [0, 3, 0, 0, 0, 0] rfl (lw_tv 1 rfl (lw_call 117 [] [] [v2_0] rfl rfl cf117 zN (c_impl_firsts _ _ _ hL5_1.rd2 oM (by intro k9 hk9; have h9 : ((evR p (1 + 1) f.toNat (alS a d (1 + 1))).getD k9 []).length = 2 := (hEP.ser k9 hk9).1; omega)) ?_)))))))))))
      rintro e14 w14 ⟨v14_0, rfl, hX14, hO14_0⟩
      refine ⟨_, rfl, hX14, ?_⟩
      have hzs14 : w5.heap.size ≤ w14.heap.size := hX14.size
      have hE14 : Ext w w14 := hE5.trans hX14
      have hL5_0x14 := hL5_0.ext (o1) hX14
      have hL5_1x14 := hL5_1.ext (o2) hX14
      exact lw_tvn 4 rfl (wp_ret (post_ret [8, 9, 10] rfl (.tuple #[v14_0, vo, (.int .i64 ((0 : Nat) : Int))]) rfl ⟨v14_0, vo, (by rw [show drC p f.toNat a d = 0 from (by show evD p (1 + 1) f.toNat (alS a d (1 + 1)) = 0; omega)] <;> rfl), hE14, (hO14_0.up o1).low hE5.size, (by have h := (hL5_0x14.up o1).low hE2.size; rwa [List.take_of_length_le oM] at h), hEP⟩))
theorem liC_0 {p : List Fn} {f : Int} {a d : Sr} (h : liC p f a d = 0) : okP p = true ∧ (0 ≤ f ∧ f < ((p.length : Nat) : Int)) ∧ (((a.length : Nat) : Int) = (p.getD f.toNat Fn.zero).params ∧ allN a = true) ∧ ((d.length : Nat) : Int) = (p.getD f.toNat Fn.zero).params ∧ allN d = true := by
  unfold liC at h
  split at h
  · rename_i h1
    split at h
    · rename_i h2
      simp only [Bool.and_eq_true, decide_eq_true_eq] at h2
      obtain ⟨q1, q2, q3⟩ := isF_0 h1
      exact ⟨q1, ⟨q2, q3⟩, h2.1, h2.2⟩
    · omega
  · rename_i h1; exact absurd h h1
theorem c_impl_Program_jacobian (w : World) (dp : Nat) (vp : Value) (p : List Fn) (f : Int) (va : Value) (a : List Int) (hp : RP [] dp w.heap vp p) (_hf : -9223372036854775808 ≤ f ∧ f ≤ 9223372036854775807) (ha : Rd (rdL rI) w.heap va a) (hvp : VPr p) (hf : 0 ≤ f ∧ f < ((p.length : Nat) : Int)) (hl : ((a.length : Nat) : Int) = (p.getD f.toNat Fn.zero).params) (hna : allN a = true) :
    Calls Try.prog 76 #[(.agg #[vp]), .int .i64 f, va] w (fun e w' => ∃ v0 : Value, e = .returned (.tuple #[v0, .int .i64 (nxC p f.toNat a)]) ∧ Ext w w' ∧ Fr (owL (owL rI 2) 25) w.heap.size w'.heap.size w'.heap v0 (if nxC p f.toNat a = 0 then jaT p f.toNat a (p.getD f.toNat Fn.zero).outs.length a.length else [])) := by
  refine calls_mk [(.agg #[vp]), .int .i64 f, va] 80 Try.func76 rfl rfl sM ?_
  have hE0 : Ext w w := Ext.refl w
  have hl_vp := hp.lenle
  unfold maxLen at hl_vp
  have hl_va := ha.lenle
  have hpr := hvp.par f.toNat oM
  have hou := hvp.outs f.toNat oM
  have hdz : drC p f.toNat a (uniG a.length ([] : List Int) ([] : List Int).length) = nxC p f.toNat a := dr_c _ _ _ _
  refine wp_seq (wp_plain _ [3, 0, 0] rfl (r_boxA (cs := #[vp]) rfl zN fun w1 hX1 hz1 hB1 => ?_))
  have hzs1 : w.heap.size ≤ w1.heap.size := hX1.size
  have hE1 : Ext w w1 := hE0.trans hX1
  replace hB1 : BX w1.heap w.heap.size [vp] := hB1
  refine lw_tvn 2 rfl (wp_seq (wp_draw _ [1, 0, 0, 0, 0, 3, 3, 0, 0, 0, 0, 0, 0, 0] mixed (by kernel_rfl) (q_loadA (p := (.pointer (some ⟨w.heap.size, 0, none⟩))) (.inl rfl) [vp] agg37 rfl (fun wq9 hw9 => LD.of_box (BX.ext (w := w1.drew) hB1 hw9)) rfl zN (lw_tv 3 rfl (q_len (v := va) u25 rfl ha.isSl zN ?_)))))
  refine lw_call 81 [] [] [(.int .i64 ((a.length : Nat) : Int)), (.slice none 0 0)] rfl rfl cf81 zN (c_unitG _ (a.length) (.slice none 0 0) [] sD rd_nilI oM (by intro j hj; exact absurd hj (Nat.not_lt_zero j))) ?_
  rintro e2 w2 ⟨v2_0, rfl, hX2, hO2_0⟩
  refine ⟨_, rfl, hX2, ?_⟩
  replace hX2 := hX2.of_drew
  have hzs2 : w1.heap.size ≤ w2.heap.size := hX2.size
  have hE2 : Ext w w2 := hE1.trans hX2
  have hB1x2 := hB1.ext hX2
  replace hO2_0 := hO2_0.low (B' := w1.heap.size) (Nat.le_refl _)
  refine lw_call 80 [] [] [(.agg #[vp]), (.int .i64 f), va, v2_0] rfl rfl cf80 zN (c_impl_Program_directional _ dp vp (p) _ _ _ _ _ (hp.ext (good_rdS (good_rFn dp)) hE2) _hf (ha.ext g1 hE2) hO2_0.rd1 (by exact hvp) oM oM (by exact uniG_len _ _ _) (by exact hna) (by exact uniG_num _ _ _)) ?_
  rintro e3 w3 ⟨v3_0, v3_1, rfl, hX3, hO3_0, hO3_1, hP3_0⟩
  refine ⟨_, rfl, hX3, ?_⟩
  have hzs3 : w2.heap.size ≤ w3.heap.size := hX3.size
  have hE3 : Ext w w3 := hE2.trans hX3
  have hB1x3 := hB1x2.ext hX3
  have hO2_0x3 := hO2_0.ext (o1) hX3
  refine lw_tv 1 rfl (q_extract (vs := [v3_0, v3_1, (.int .i64 (drC p f.toNat a (uniG a.length ([] : List Int) ([] : List Int).length)))]) v3_0 rfl rfl zN (q_extract (vs := [v3_0, v3_1, (.int .i64 (drC p f.toNat a (uniG a.length ([] : List Int) ([] : List Int).length)))]) v3_1 rfl rfl zN (q_extract (vs := [v3_0, v3_1, (.int .i64 (drC p f.toNat a (uniG a.length ([] : List Int) ([] : List Int).length)))]) (.int .i64 (drC p f.toNat a (uniG a.length ([] : List Int) ([] : List Int).length))) rfl rfl zN (lw_tvn 3 rfl (wp_seq (wp_seq (wp_plain _ [0, 0] rfl (lw_tv 1 rfl ?_))))))))
  have hEP : EvP p 2 f.toNat (alS a (uniG a.length ([] : List Int) ([] : List Int).length) 2) := by assumption
  by_cases hc4 : drC p f.toNat a (uniG a.length ([] : List Int) ([] : List Int).length) ≠ ((0 : Nat) : Int)
  ·
    exact q_neq true rfl rfl (decide_eq_true hc4) zN (lw_nil (c_cond_t rfl (wp_seq (wp_plain _ [0, 0, 0] rfl (lw_tvn 3 rfl (wp_ret (t_ret (post_ret [6, 7] rfl (.tuple #[(.slice none 0 0), (.int .i64 (drC p f.toNat a (uniG a.length ([] : List Int) ([] : List Int).length)))]) rfl ⟨(.slice none 0 0), (by rw [hdz]), hE3, (by rw [if_neg oM]; exact frNil _ _ _)⟩))))))))
  ·
    refine q_neq false rfl rfl (decide_eq_false hc4) zN (lw_nil (c_cond_f rfl (wp_skip (wp_seq (wp_plain _ [3, 0] rfl ?_)))))
    have hc0 : nxC p f.toNat a = 0 := by omega
    have hvl : (drR p f.toNat a (uniG a.length ([] : List Int) ([] : List Int).length)).length = (p.getD f.toNat Fn.zero).outs.length := hEP.len (by show drC p f.toNat a (uniG a.length ([] : List Int) ([] : List Int).length) = 0; omega)
    have hvm : ((drR p f.toNat a (uniG a.length ([] : List Int) ([] : List Int).length)).map (fun s => s.getD 0 0)).length = (p.getD f.toNat Fn.zero).outs.length := by rw [List.length_map]; exact hvl
    refine r_nil (owL rI 2) o1 u24 ti25 zN fun v5 w5 hX5 hz5 hO5 => ?_
    have hzs5 : w3.heap.size ≤ w5.heap.size := hX5.size
    have hE5 : Ext w w5 := hE3.trans hX5
    have hB1x5 := hB1x3.ext hX5
    have hO2_0x5 := hO2_0x3.ext (o1) hX5
    have hO3_0x5 := hO3_0.ext (o1) hX5
    have hO3_1x5 := hO3_1.ext (o1) hX5
    refine lw_tvn 1 rfl (wp_seq (wp_seq (wp_plain _ [0, 0, 0] rfl (lw_tv 1 rfl (q_len (v := v3_0) u25 rfl hO3_0x5.isSl zN (lw_tvn 1 rfl (wp_block ?_)))))))
    refine c_loop (S := Nat × Value) (fun (⟨k, vo⟩ : Nat × Value) => ([(11, vo), (35, (.int .i64 ((k : Nat) : Int))), (1, (.int .i64 f)), (2, va), (3, (.pointer (some ⟨w.heap.size, 0, none⟩))), (34, (.int .i64 ((((drR p f.toNat a (uniG a.length ([] : List Int) ([] : List Int).length)).map (fun s : Sr => s.getD 0 0)).length : Nat) : Int)))] : List (Nat × Value))) (fun (⟨k, vo⟩ : Nat × Value) (W : World) => Ext w W ∧ Fr (owL (owL rI 2) 25) w3.heap.size W.heap.size W.heap vo (List.replicate k []) ∧ BX W.heap w.heap.size [vp] ∧ k ≤ (((drR p f.toNat a (uniG a.length ([] : List Int) ([] : List Int).length)).map (fun s : Sr => s.getD 0 0))).length ∧ w.heap.size < w3.heap.size ∧ w3.heap.size ≤ W.heap.size) (fun (⟨k, vo⟩ : Nat × Value) => (((drR p f.toNat a (uniG a.length ([] : List Int) ([] : List Int).length)).map (fun s : Sr => s.getD 0 0))).length - k) (0, v5) ⟨rfl, rfl, rfl, rfl, rfl, rfl, trivial⟩ ⟨hE5, hO5.up o2, hB1x5, oM, oM, oM⟩ ?_
    clear hE0 hz1 hX1 hzs1 hE1 hO2_0 hX2 hzs2 hE2 hO3_1 hO3_0 hX3 hO2_0x3 hO5 hz5 hX5 hzs5 hE5 hO2_0x5 hO3_0x5 hO3_1x5
    rintro ⟨k, vo⟩ ρ7 w7 ⟨hE7, hL7_0, hL7_1, hp7_0, hkg6, hkB8⟩
    have hzs7 : w.heap.size ≤ w7.heap.size := hE7.size
    have hq9 := hL7_1.lt
    refine wp_seq (wp_plain _ [0] rfl ?_)
    by_cases hc10 : ((k : Nat) : Int) < ((((drR p f.toNat a (uniG a.length ([] : List Int) ([] : List Int).length)).map (fun s : Sr => s.getD 0 0)).length : Nat) : Int)
    ·
      refine q_lss true rfl rfl (decide_eq_true hc10) zN (lw_nil (wp_seq (c_cond_t rfl (wp_skip (wp_seq (wp_block (wp_plain _ [0, 3, 3, 4, 0] rfl (lw_tv 1 rfl (r_nil (rI) good_rI u25 ti2 zN fun v11 w11 hX11 hz11 hO11 => ?_)))))))))
      have hzs11 : w7.heap.size ≤ w11.heap.size := hX11.size
      have hE11 : Ext w w11 := hE7.trans hX11
      have hL7_0x11 := hL7_0.ext (o2) hX11
      have hL7_1x11 := hL7_1.ext hX11
      refine r_one (u := v11) (B := w7.heap.size) o1 u24 ti25 rfl rfl hO11 (by first | exact Nat.le_refl _ | omega) zN fun v12 w12 hX12 hz12 hO12 => ?_
      have hzs12 : w11.heap.size ≤ w12.heap.size := hX12.size
      have hE12 : Ext w w12 := hE11.trans hX12
      have hL7_0x12 := hL7_0x11.ext (o2) hX12
      have hL7_1x12 := hL7_1x11.ext hX12
      refine e_appF o1 (v := vo) (a := v12) u24 ti25 rfl rfl rfl hL7_0x12 oM hO12 oM oM sD (by unfold maxLen; first | omega | assumption | (simp only [List.length_nil, List.length_cons, List.length_append, List.length_set, List.length_replicate]; omega) | (simp [List.length_nil, List.length_cons, List.length_append, List.length_set, List.length_replicate]; done) | (simp [List.length_nil, List.length_cons, List.length_append, List.length_set, List.length_replicate]; omega)) zN fun v13 w13 F13 hC13 hF13 hO13 => ?_
      have hE13 : Ext w w13 := hC13.below hE12 (fun c hc => Nat.le_trans hE3.size (hF13 c hc).1) hE12.size
      have hzs13 : w12.heap.size ≤ w13.heap.size := hC13.size
      have hF14 := hL7_1x12.chg hC13 (fun hm => by have := hF13 _ hm; omega)
      exact lw_tvn 1 rfl (wp_plain _ [0, 0] rfl (q_add ((k + 1 : Nat) : Int) rfl rfl (w64n oM sD) zN (lw_tvn 1 rfl ⟨((k + 1), v13), _, rfl, ⟨rfl, rfl, rfl, rfl, rfl, rfl, trivial⟩, ⟨hE13, (by rw [List.replicate_succ']; exact hO13.up o2), hF14, oM, oM, oM⟩, by first | omega | (dsimp only; omega)⟩)))
    ·
      refine q_lss false rfl rfl (decide_eq_false hc10) zN (lw_nil (wp_seq (c_cond_f rfl (wp_exit (t_exit (t_exit (c_exit_here (wp_seq (wp_seq (wp_plain _ [0, 0, 0] rfl (lw_tv 1 rfl (q_len (v := va) u25 rfl ha.isSl zN (lw_tvn 1 rfl (wp_block ?_))))))))))))))
      refine c_loop (S := Nat) (fun (i : Nat) => ([(44, (.int .i64 ((i : Nat) : Int))), (1, (.int .i64 f)), (2, va), (3, (.pointer (some ⟨w.heap.size, 0, none⟩))), (11, vo), (43, (.int .i64 ((a.length : Nat) : Int)))] : List (Nat × Value))) (fun (i : Nat) (W : World) => Ext w W ∧ Fr (owL (owL rI 2) 25) w3.heap.size W.heap.size W.heap vo (jaT p f.toNat a (p.getD f.toNat Fn.zero).outs.length i) ∧ BX W.heap w.heap.size [vp] ∧ i ≤ a.length ∧ w.heap.size < w3.heap.size ∧ w3.heap.size ≤ W.heap.size) (fun (i : Nat) => a.length - i) 0 ⟨rfl, rfl, rfl, rfl, rfl, rfl, trivial⟩ ⟨hE7, (by have h := hL7_0.up o2; rw [show k = (p.getD f.toNat Fn.zero).outs.length from by omega, ← ja_0 p f.toNat a] at h; exact h), hL7_1, oM, oM, oM⟩ ?_
      clear hL7_1 hL7_0 hE7 hzs7
      rintro i ρ16 w16 ⟨hE16, hL16_0, hL16_1, hp16_0, hkg15, hkB17⟩
      have hzs16 : w.heap.size ≤ w16.heap.size := hE16.size
      have hq18 := hL16_1.lt
      refine wp_seq (wp_plain _ [0] rfl ?_)
      by_cases hc19 : ((i : Nat) : Int) < ((a.length : Nat) : Int)
      ·
        refine q_lss true rfl rfl (decide_eq_true hc19) zN (lw_nil (wp_seq (c_cond_t rfl (wp_skip (wp_seq (wp_block (wp_seq (wp_plain _ [0, 0] rfl (lw_tvn 2 rfl (wp_seq (wp_draw _ [1, 0, 0, 0, 0, 0, 3, 3, 3, 0, 0, 0, 0, 0, 0, 0] mixed (by kernel_rfl) (q_loadA (p := (.pointer (some ⟨w.heap.size, 0, none⟩))) (.inl rfl) [vp] agg37 rfl (fun wq9 hw9 => LD.of_box (BX.ext (w := w16.drew) hL16_1 hw9)) rfl zN (lw_tv 3 rfl (q_len (v := va) u25 rfl ha.isSl zN (lw_tv 1 rfl (r_one (u := (.int .i64 ((i : Nat) : Int))) (B := w16.heap.size) good_rI u25 ti2 rfl rfl (frI w16.heap.size w16.heap.size _ _ oM) (Nat.le_refl _) zN fun v20 w20 hX20 hz20 hO20 => ?_))))))))))))))))
        replace hX20 := hX20.of_drew
        have hzs20 : w16.heap.size ≤ w20.heap.size := hX20.size
        have hE20 : Ext w w20 := hE16.trans hX20
        have hL16_0x20 := hL16_0.ext (o2) hX20
        have hL16_1x20 := hL16_1.ext hX20
        refine lw_call 81 [] [] [(.int .i64 ((a.length : Nat) : Int)), v20] rfl rfl cf81 zN (c_unitG _ (a.length) _ _ sD hO20.rd1 oM (by intro j hj; have hj0 : j = 0 := (by have h9 : j < 1 := hj; omega); subst hj0; show 0 ≤ ((i : Nat) : Int) ∧ ((i : Nat) : Int) < _; omega)) ?_
        rintro e21 w21 ⟨v21_0, rfl, hX21, hO21_0⟩
        refine ⟨_, rfl, hX21, ?_⟩
        have hzs21 : w20.heap.size ≤ w21.heap.size := hX21.size
        have hE21 : Ext w w21 := hE20.trans hX21
        have hL16_0x21 := hL16_0x20.ext (o2) hX21
        have hL16_1x21 := hL16_1x20.ext hX21
        have hO20x21 := hO20.ext (o1) hX21
        refine lw_call 80 [] [] [(.agg #[vp]), (.int .i64 f), va, v21_0] rfl rfl cf80 zN (c_impl_Program_directional _ dp vp (p) _ _ _ _ _ (hp.ext (good_rdS (good_rFn dp)) hE21) _hf (ha.ext g1 hE21) hO21_0.rd1 (by exact hvp) oM oM (by exact uniG_len _ _ _) (by exact hna) (by exact uniG_num _ _ _)) ?_
        rintro e22 w22 ⟨v22_0, v22_1, rfl, hX22, hO22_0, hO22_1, hP22_0⟩
        refine ⟨_, rfl, hX22, ?_⟩
        have hzs22 : w21.heap.size ≤ w22.heap.size := hX22.size
        have hE22 : Ext w w22 := hE21.trans hX22
        have hL16_0x22 := hL16_0x21.ext (o2) hX22
        have hL16_1x22 := hL16_1x21.ext hX22
        have hO20x22 := hO20x21.ext (o1) hX22
        have hO21_0x22 := hO21_0.ext (o1) hX22
        refine lw_tv 1 rfl (q_extract (vs := [v22_0, v22_1, (.int .i64 (drC p f.toNat a (uniG a.length ([((i : Nat) : Int)]) ([((i : Nat) : Int)]).length)))]) v22_0 rfl rfl zN (q_extract (vs := [v22_0, v22_1, (.int .i64 (drC p f.toNat a (uniG a.length ([((i : Nat) : Int)]) ([((i : Nat) : Int)]).length)))]) v22_1 rfl rfl zN (q_extract (vs := [v22_0, v22_1, (.int .i64 (drC p f.toNat a (uniG a.length ([((i : Nat) : Int)]) ([((i : Nat) : Int)]).length)))]) (.int .i64 (drC p f.toNat a (uniG a.length ([((i : Nat) : Int)]) ([((i : Nat) : Int)]).length))) rfl rfl zN (lw_tvn 3 rfl (wp_seq (wp_plain _ [0, 0, 0] rfl (lw_tv 1 rfl ?_)))))))
        have hEI : EvP p 2 f.toNat (alS a (uniG a.length [((i : Nat) : Int)] [((i : Nat) : Int)].length) 2) := by assumption
        have hdi : drC p f.toNat a (uniG a.length [((i : Nat) : Int)] [((i : Nat) : Int)].length) = nxC p f.toNat a := dr_c _ _ _ _
        have hil : (drR p f.toNat a (uniG a.length [((i : Nat) : Int)] [((i : Nat) : Int)].length)).length = (p.getD f.toNat Fn.zero).outs.length := hEI.len (by show drC p f.toNat a (uniG a.length [((i : Nat) : Int)] [((i : Nat) : Int)].length) = 0; omega)
        have him : ((drR p f.toNat a (uniG a.length [((i : Nat) : Int)] [((i : Nat) : Int)].length)).map (fun s => s.getD 1 0)).length = (p.getD f.toNat Fn.zero).outs.length := by rw [List.length_map]; exact hil
        refine q_len (v := v22_1) u25 rfl hO22_1.isSl zN (lw_tvn 1 rfl (wp_block ?_))
        obtain ⟨Xn25, kO25, kN25, kR25⟩ := id hO22_1
        have kY25 := FrX.of hL16_0x22 oM kR25
        refine c_loop (S := Nat) (fun (r : Nat) => ([(62, (.int .i64 ((r : Nat) : Int))), (1, (.int .i64 f)), (2, va), (3, (.pointer (some ⟨w.heap.size, 0, none⟩))), (11, vo), (43, (.int .i64 ((a.length : Nat) : Int))), (44, (.int .i64 ((i : Nat) : Int))), (60, v22_1), (61, (.int .i64 ((((drR p f.toNat a (uniG a.length ([((i : Nat) : Int)]) ([((i : Nat) : Int)]).length)).map (fun s : Sr => s.getD 1 0)).length : Nat) : Int)))] : List (Nat × Value))) (fun (r : Nat) (W : World) => Ext w W ∧ FrX 2 25 w3.heap.size Xn25 W.heap vo (mix r (jaT p f.toNat a (p.getD f.toNat Fn.zero).outs.length (i + 1)) (jaT p f.toNat a (p.getD f.toNat Fn.zero).outs.length i)) ∧ owL rI 2 W.heap v22_1 ((drR p f.toNat a (uniG a.length ([((i : Nat) : Int)]) ([((i : Nat) : Int)]).length)).map (fun s : Sr => s.getD 1 0)) Xn25 ∧ BX W.heap w.heap.size [vp] ∧ r ≤ (((drR p f.toNat a (uniG a.length ([((i : Nat) : Int)]) ([((i : Nat) : Int)]).length)).map (fun s : Sr => s.getD 1 0))).length ∧ w.heap.size < w3.heap.size ∧ w3.heap.size ≤ W.heap.size) (fun (r : Nat) => (((drR p f.toNat a (uniG a.length ([((i : Nat) : Int)]) ([((i : Nat) : Int)]).length)).map (fun s : Sr => s.getD 1 0))).length - r) 0 ⟨rfl, rfl, rfl, rfl, rfl, rfl, rfl, rfl, rfl, trivial⟩ ⟨hE22, (by rw [mix_zero]; exact kY25), kO25, hL16_1x22, oM, oM, oM⟩ ?_
        clear hL16_1 hL16_0 hE16 hzs16 hO20 hz20 hX20 hzs20 hE20 hL16_0x20 hL16_1x20 hO21_0 hX21 hL16_0x21 hL16_1x21 hO20x21 hO22_1 hO22_0 hX22 hL16_0x22 hL16_1x22 hO20x22 hO21_0x22
        rintro r ρ24 w24 ⟨hE24, hL24_0, hL24_1, hL24_2, hp24_0, hkg23, hkB26⟩
        have hzs24 : w.heap.size ≤ w24.heap.size := hE24.size
        have hlm := mix_len r (jaT p f.toNat a (p.getD f.toNat Fn.zero).outs.length (i + 1)) (jaT p f.toNat a (p.getD f.toNat Fn.zero).outs.length i) sM
        rw [jaT_len] at hlm
        have hq27 := hL24_2.lt
        refine wp_seq (wp_plain _ [0] rfl ?_)
        by_cases hc28 : ((r : Nat) : Int) < ((((drR p f.toNat a (uniG a.length ([((i : Nat) : Int)]) ([((i : Nat) : Int)]).length)).map (fun s : Sr => s.getD 1 0)).length : Nat) : Int)
        ·
          refine q_lss true rfl rfl (decide_eq_true hc28) zN (lw_nil (wp_seq (c_cond_t rfl (wp_skip (wp_seq (wp_block (wp_seq (wp_plain _ [0, 0, 2, 0, 0] rfl (lw_tv 1 rfl (q_idx (v := v22_1) r u25 ti2 rfl rfl (hL24_1.rd id).isSl rfl sD zN ?_))))))))))
          refine q_load (p := eptr v22_1 r 1) (.inr rfl) (.int .i64 (((drR p f.toNat a (uniG a.length ([((i : Nat) : Int)]) ([((i : Nat) : Int)]).length)).map (fun s : Sr => s.getD 1 0)).getD r 0)) one2 rfl ((own_rdI hL24_1).getI (k := r) sD).1 zN (lw_tvn 2 rfl (wp_plain _ [0, 0, 0, 0, 0, 2, 0, 3, 4, 0, 4] rfl (lw_tv 4 rfl ?_)))
          refine q_idx (v := vo) r u24 ti25 rfl rfl hL24_0.isSl rfl sD zN ?_
          obtain ⟨ue29, hl29, hd29⟩ := hL24_0.rd2.get (k := r) [] sD
          have hln29 := hd29.lenle
          refine q_load (p := eptr vo r 1) (.inr rfl) ue29 one25 rfl hl29 zN (lw_tv 1 rfl (r_one (u := (.int .i64 (((drR p f.toNat a (uniG a.length ([((i : Nat) : Int)]) ([((i : Nat) : Int)]).length)).map (fun s : Sr => s.getD 1 0)).getD r 0))) (B := w24.heap.size) good_rI u25 ti2 rfl rfl (frI w24.heap.size w24.heap.size _ _ ((own_rdI hL24_1).getI (k := r) sD).2) (Nat.le_refl _) zN fun v30 w30 hX30 hz30 hO30 => ?_))
          have hzs30 : w24.heap.size ≤ w30.heap.size := hX30.size
          have hE30 : Ext w w30 := hE24.trans hX30
          have hL24_0x30 := hL24_0.ext (o2) hX30
          have hL24_1x30 := own_ext (o1) hL24_1 hX30
          have hL24_2x30 := hL24_2.ext hX30
          have hd29x30 := hd29.ext g1 hX30
          have hlx31 := ldH_ext hX30 hl29
          refine e_appP (v := vo) (u := ue29) (a := v30) (r := r) u25 ti2 rfl rfl rfl hL24_0x30 oM (o1.lt hL24_1x30) sD hlx31 hO30.rd1 (by have h9 := ja_row (p := p) (f := f.toNat) (a := a) (K := (p.getD f.toNat Fn.zero).outs.length) (i := i) (r := r) oM; simp only [List.length_cons, List.length_nil]; omega) (by unfold maxLen; have h9 := ja_row (p := p) (f := f.toNat) (a := a) (K := (p.getD f.toNat Fn.zero).outs.length) (i := i) (r := r) oM; simp only [List.length_cons, List.length_nil]; omega) zN fun v32 w32 F32 hC32 hF32 hO32 => ?_
          have hE32 : Ext w w32 := hC32.below hE30 (fun b hb => Nat.le_trans hE3.size (hF32 b hb).1) hE30.size
          have hzs32 : w30.heap.size ≤ w32.heap.size := hC32.size
          have hF33 := own_keepG o1 hL24_1x30 hC32 (fun b hb => (hF32 b hb).2.1)
          have hF34 := hL24_2x30.chg hC32 (fun hm => by have := (hF32 _ hm).1; omega)
          refine q_idx (v := vo) r u24 ti25 rfl rfl hO32.isSl rfl sD zN (e_setP (v := vo) (u := v32) (w := w32) sz25 rfl rfl hO32 zN fun w35 F35 hC35 hz35 hF35 hO35 => ?_)
          have hE35 : Ext w w35 := hC35.below hE32 (fun b hb => Nat.le_trans hE3.size (hF35 b hb).1) hE32.size
          have hzs35 : w32.heap.size ≤ w35.heap.size := hC35.size
          have hF36 := own_keepG o1 hF33 hC35 (fun b hb => (hF35 b hb).2.1)
          have hF37 := hF34.chg hC35 (fun hm => by have := (hF35 _ hm).1; omega)
          exact lw_nil (wp_plain _ [0, 0] rfl (q_add ((r + 1 : Nat) : Int) rfl rfl (w64n oM sD) zN (lw_tvn 1 rfl ⟨(r + 1), _, rfl, ⟨rfl, rfl, rfl, rfl, rfl, rfl, rfl, rfl, rfl, trivial⟩, ⟨hE35, (by have h := hO35; rw [map_getD (d := []) oM] at h; rw [← ja_set oM]; exact h), hF36, hF37, oM, oM, oM⟩, by first | omega | (dsimp only; omega)⟩)))
        ·
          refine q_lss false rfl rfl (decide_eq_false hc28) zN (lw_nil (wp_seq (c_cond_f rfl (wp_exit (t_exit (t_exit (c_exit_here (wp_plain _ [0, 0] rfl (q_add ((i + 1 : Nat) : Int) rfl rfl (w64n oM sD) zN (lw_tvn 1 rfl ?_))))))))))
          exact ⟨(i + 1), _, rfl, ⟨rfl, rfl, rfl, rfl, rfl, rfl, trivial⟩, ⟨hE24, (by have h := hL24_0.fr; rwa [mix_all sM (by rw [jaT_len]; omega)] at h), hL24_2, oM, oM, oM⟩, by first | omega | (dsimp only; omega)⟩
      ·
        exact q_lss false rfl rfl (decide_eq_false hc19) zN (lw_nil (wp_seq (c_cond_f rfl (wp_exit (t_exit (t_exit (c_exit_here (wp_seq (wp_plain _ [0, 0, 0] rfl (lw_tvn 3 rfl (wp_ret (post_ret [6, 7] rfl (.tuple #[vo, (.int .i64 ((0 : Nat) : Int))]) rfl ⟨vo, (by rw [hc0]; rfl), hE16, (by have h := (hL16_0.up o2).low hE3.size; rw [if_pos hc0]; rwa [show i = a.length from by omega] at h)⟩))))))))))))
theorem c_impl_JacobianOf (w : World) (dp : Nat) (vp : Value) (p : List Fn) (f : Int) (va : Value) (a : List Int) (hp : RP [] dp w.heap vp p) (_hf : -9223372036854775808 ≤ f ∧ f ≤ 9223372036854775807) (ha : Rd (rdL rI) w.heap va a) (hz : SzP p) :
    Calls Try.prog 28 #[(.agg #[vp]), .int .i64 f, va] w (fun e w' => ∃ v0 : Value, e = .returned (.tuple #[v0, .int .i64 (if liC p f a a = 0 then nxC p f.toNat a else liC p f a a)]) ∧ Ext w w' ∧ Fr (owL (owL rI 2) 25) w.heap.size w'.heap.size w'.heap v0 (if liC p f a a = 0 ∧ nxC p f.toNat a = 0 then jaT p f.toNat a (p.getD f.toNat Fn.zero).outs.length a.length else [])) := by
  refine calls_mk [(.agg #[vp]), .int .i64 f, va] 23 Try.func28 rfl rfl sM ?_
  have hE0 : Ext w w := Ext.refl w
  have hl_vp := hp.lenle
  unfold maxLen at hl_vp
  have hl_va := ha.lenle
  refine wp_seq (wp_plain _ [3, 0, 0] rfl (r_boxA (cs := #[vp]) rfl zN fun w1 hX1 hz1 hB1 => ?_))
  have hzs1 : w.heap.size ≤ w1.heap.size := hX1.size
  have hE1 : Ext w w1 := hE0.trans hX1
  replace hB1 : BX w1.heap w.heap.size [vp] := hB1
  refine lw_tvn 2 rfl (wp_seq (wp_seq (wp_plain _ [2, 0, 0, 0, 3, 0] rfl (q_loadA (p := (.pointer (some ⟨w.heap.size, 0, none⟩))) (.inr rfl) [vp] agg37 rfl (fun wq9 hw9 => LD.of_box (BX.ext (w := w1) hB1 hw9)) rfl zN (lw_tv 3 rfl (lw_call 75 [] [] [(.agg #[vp]), (.int .i64 f), va, va] rfl rfl cf75 zN (c_impl_isLine _ dp vp (p) _ _ _ _ _ (hp.ext (good_rdS (good_rFn dp)) hE1) _hf (ha.ext g1 hE1) (ha.ext g1 hE1) (by exact hz)) ?_))))))
  rintro e2 w2 ⟨rfl, hX2⟩
  refine ⟨_, rfl, hX2, ?_⟩
  have hzs2 : w1.heap.size ≤ w2.heap.size := hX2.size
  have hE2 : Ext w w2 := hE1.trans hX2
  have hB1x2 := hB1.ext hX2
  refine lw_tvn 1 rfl (wp_seq (wp_plain _ [0, 0] rfl (lw_tv 1 rfl ?_)))
  by_cases hc3 : liC p f a a ≠ ((0 : Nat) : Int)
  ·
    exact q_neq true rfl rfl (decide_eq_true hc3) zN (lw_nil (c_cond_t rfl (wp_seq (wp_plain _ [0, 0, 0] rfl (lw_tvn 3 rfl (wp_ret (t_ret (post_ret [6, 7] rfl (.tuple #[(.slice none 0 0), (.int .i64 (liC p f a a))]) rfl ⟨(.slice none 0 0), (by rw [if_neg (show ¬ liC p f a a = 0 by omega)]), hE2, (by rw [if_neg (show ¬ (liC p f a a = 0 ∧ nxC p f.toNat a = 0) by omega)]; exact frNil _ _ _)⟩))))))))
  ·
    refine q_neq false rfl rfl (decide_eq_false hc3) zN (lw_nil (c_cond_f rfl (wp_skip (wp_seq (wp_plain _ [2, 0, 0, 3, 0, 0, 0, 0] rfl (q_loadA (p := (.pointer (some ⟨w.heap.size, 0, none⟩))) (.inr rfl) [vp] agg37 rfl (fun wq9 hw9 => LD.of_box (BX.ext (w := w2) hB1x2 hw9)) rfl zN (lw_tv 2 rfl ?_)))))))
    have hli : liC p f a a = 0 := by omega
    have hl0 := liC_0 hli
    have hvp := okP_vpr hl0.1
    refine lw_call 76 [] [] [(.agg #[vp]), (.int .i64 f), va] rfl rfl cf76 zN (c_impl_Program_jacobian _ dp vp (p) _ _ _ (hp.ext (good_rdS (good_rFn dp)) hE2) _hf (ha.ext g1 hE2) (by exact hvp) oM oM (by exact hl0.2.2.1.2)) ?_
    rintro e4 w4 ⟨v4_0, rfl, hX4, hO4_0⟩
    refine ⟨_, rfl, hX4, ?_⟩
    have hzs4 : w2.heap.size ≤ w4.heap.size := hX4.size
    have hE4 : Ext w w4 := hE2.trans hX4
    have hB1x4 := hB1x2.ext hX4
    exact q_extract (vs := [v4_0, (.int .i64 (nxC p f.toNat a))]) v4_0 rfl rfl zN (q_extract (vs := [v4_0, (.int .i64 (nxC p f.toNat a))]) (.int .i64 (nxC p f.toNat a)) rfl rfl zN (lw_tvn 2 rfl (wp_ret (post_ret [6, 7] rfl (.tuple #[v4_0, (.int .i64 (nxC p f.toNat a))]) rfl ⟨v4_0, (by rw [if_pos hli]), hE4, (by simp only [hli, true_and]; exact (hO4_0.up o2).low hE2.size)⟩))))
end Go.Proofs.Ytnokbaiemimhjaa
namespace Go.Proofs.Ytnokbaiemimhjaa
open Go Go.RowKit
set_option linter.unusedVariables false
set_option linter.unusedSimpArgs false
section str
variable {P : Program} {ops : Array Oper} {w0 : World} {Q : Act → World → Prop} {os : List Oper} {ks : List Nat} {N : Nat} {ρ : Nat → Value} {w : World}
  {d : Nat} {ty : TypeId} {pos : String} {aft : Array Edge} {g : Option (Nat × Bool)} {t e : TypeId}
end str
section draw3
variable {P : Program}
/-- The closed check for two walks, in any two orders that differ in two neighbours. -/
def chk3 (os : List Oper) (ks : List Nat) (i j : Nat) (A C : List Nat) : Bool :=
  let ops := os.toArray
  let b := (Region.before ops).toList
  let l1 := A ++ i :: j :: C
  let l2 := A ++ j :: i :: C
  Region.noSelect ops &&
  (os.zipIdx.all fun (o, j) =>
    (o.after.all fun e => !Region.binds .any e || decide (e.on < j)) &&
    (let m := o.after.foldl (fun s e => if Region.binds .any e then s ||| 2 ^ e.on ||| b.getD e.on 0 else s) 0
     (b.getD j 0 == m))) &&
  pwB (fun x y => (decide (x = i) && decide (y = j)) || pairB ops ks b x y) l1 &&
  pwB (fun x y => (decide (x = j) && decide (y = i)) || pairB ops ks b x y) l2 &&
  (l1.all fun x => !(decide (3 ≤ ks.getD x 0)) || (decide (x = i) || (decide (x = j) || (b.getD x 0).testBit i))) &&
  pwB (fun x y => !(decide (4 ≤ ks.getD x 0)) || ks.getD y 0 != 1) l1 &&
  pwB (fun x y => !(decide (4 ≤ ks.getD x 0)) || ks.getD y 0 != 1) l2 &&
  (decide (ks.getD i 0 = 3) && (decide (ks.getD j 0 = 3) && decide (i < j))) &&
  (decide (l1.length = os.length) && (decide l1.Nodup && (l1.all (fun x => decide (x < os.length)) && (List.range os.length).all fun x => l1.contains x)))
/-- A REGION THAT DRAWS ITS ORDER, in which two places make memory in either order: walked twice, in orders that are told. -/
theorem wp_draw3 {id : Nat} {Q : Exit → Act → World → Prop} {a : Act} {w : World} (os : List Oper) (ks : List Nat) (i j : Nat) (A C : List Nat) (os1 : List Oper) (ks1 : List Nat) (os2 : List Oper) (ks2 : List Nat) (hm : P.follows .mixedOrders = true) (hB : chk3 os ks i j A C = true)
    (hM1 : Mt os.toArray (fun i => ks.getD i 0) (A ++ i :: j :: C) os1 ks1) (hM : Mt os.toArray (fun i => ks.getD i 0) (A ++ j :: i :: C) os2 ks2)
    (h : LW P os.toArray w.drew (fun a w => Q .normal a w) os1 ks1 a w.drew) (h2 : LW P os.toArray w.drew (fun a w => Q .normal a w) os2 ks2 a w.drew) : (Code.region id os.toArray true).wp P Q a w := by
  refine wp_region_any hm ?_
  simp only [chk3, Bool.and_eq_true, decide_eq_true_eq] at hB
  obtain ⟨⟨⟨⟨⟨⟨⟨⟨hsel, hpl⟩, hp1⟩, hp2⟩, hwt⟩, h141⟩, h142⟩, hki, hkj, hij⟩, hln, hnd, hlt, hct⟩ := hB
  have hz : ∀ {j : Nat} {o : Oper}, os.toArray[j]? = some o → (o, j) ∈ os.zipIdx := by
    intro j o ho
    rw [List.mem_zipIdx_iff_getElem?]
    simpa using ho
  have hall : ∀ j oj, os.toArray[j]? = some oj → _ := fun j oj hj => List.all_eq_true.1 hpl _ (hz hj)
  have hlex : ∀ j oj, os.toArray[j]? = some oj → ∀ e ∈ oj.after, Region.binds .any e = true → e.on < j := by
    intro j oj hj e he hb
    have h1 := (Bool.and_eq_true _ _ ▸ hall j oj hj : _ ∧ _).1
    have h2 := (Array.all_eq_true_iff_forall_mem.1 h1) e he
    simpa [hb] using h2
  have hS : Sound .any os.toArray (fun j => (Region.before os.toArray).toList.getD j 0) := by
    intro j oj hj i hb
    have h3 := (Bool.and_eq_true _ _ ▸ hall j oj hj : _ ∧ _).2
    have h5 : (Region.before os.toArray).toList.getD j 0 = oj.after.foldl (fun s e => if Region.binds .any e then s ||| 2 ^ e.on ||| (Region.before os.toArray).toList.getD e.on 0 else s) 0 := by simpa using h3
    dsimp only at hb
    rw [h5, ← Array.foldl_toList] at hb
    rcases foldl_bits _ _ _ _ hb with hb | ⟨e, he, hbb, hh⟩
    · simp at hb
    · exact ⟨e, Array.mem_toList_iff.1 he, hbb, hh⟩
  have hmem : ∀ x, x ∈ A ++ i :: j :: C ↔ x < os.length := fun x => by
    constructor
    · intro hx; exact of_decide_eq_true (List.all_eq_true.1 hlt x hx)
    · intro hx
      have := List.all_eq_true.1 hct x (List.mem_range.2 hx)
      simpa using this
  have key := any_of_two (P := P) (ops := os.toArray) (md := .any) (kd := fun i => ks.getD i 0) (bs := fun j => (Region.before os.toArray).toList.getD j 0) (w0 := w.drew) (Q := fun a w => Q .normal a w)
    (Region.noSelect_spec hsel) hS hlex hij hki hkj os.length (A ++ i :: j :: C) (A ++ j :: i :: C) (Array.replicate os.length false) a w.drew ⟨A, [], C, rfl, rfl⟩ hln
    (pwB_spec (fun x y hh => by
      rcases Bool.or_eq_true_iff.1 hh with hh | hh
      · simp only [Bool.and_eq_true, decide_eq_true_eq] at hh; exact .inl hh
      · exact .inr (pairB_spec hh)) hp1)
    (pwB_spec (fun x y hh => by
      rcases Bool.or_eq_true_iff.1 hh with hh | hh
      · simp only [Bool.and_eq_true, decide_eq_true_eq] at hh; exact .inl hh
      · exact .inr (pairB_spec hh)) hp2)
    hnd (by simp) ?_ ?_ ?_ (no14_of h141) (no14_of h142) (fun _ => Ext.refl _) (LI_of_LW2 _ _ _ _ _ hM1 h) (LI_of_LW2 _ _ _ _ _ hM h2)
  · have := wpAny_weak _ _ _ _ key
    simpa using this
  · intro x
    rw [hmem]
    constructor
    · intro hx; simp [hx]
    · intro hh
      rcases Nat.lt_or_ge x os.length with h' | h'
      · exact h'
      · simp [Array.getElem?_eq_none (show (Array.replicate os.length false).size ≤ x by simpa using h')] at hh
  · intro i hi
    rcases Nat.lt_or_ge i os.length with h' | h'
    · simp [h'] at hi
    · simp [Array.getElem?_eq_none (show (Array.replicate os.length false).size ≤ i by simpa using h')] at hi
  · intro x hx h3
    have := List.all_eq_true.1 hwt x hx
    simp only [Bool.or_eq_true, Bool.not_eq_true', decide_eq_false_iff_not, decide_eq_true_eq] at this
    rcases this with hh | hh | hh | hh
    · exact absurd h3 hh
    · exact .inl hh
    · exact .inr (.inl hh)
    · exact .inr (.inr hh)
end draw3
end Go.Proofs.Ytnokbaiemimhjaa
namespace Go.Proofs.Ytnokbaiemimhjaa
open Go Go.RowKit
set_option linter.unusedVariables false
set_option linter.unusedSimpArgs false
set_option maxHeartbeats 4000000
set_option maxRecDepth 100000
attribute [local irreducible] LW
theorem z107_0 {p : Prop} (h : p := by intro u hu; simp only [List.mem_cons, List.not_mem_nil, or_false] at hu; rcases hu with rfl | rfl | rfl | rfl | rfl <;> first | exact ⟨rfl, rfl⟩) : p := h
theorem z107_1 {p : Prop} (h : p := by simp only [List.map_toArray, List.map_cons, List.map_nil]; rfl) : p := h
theorem z107_2 {p : Prop} (h : p := by first | exact LOk.var oM | exact LOk.num oM) : p := h
theorem c_spec_l02Gen_leaf (w : World) (gg gs : Nat) (sv : Value) (cs : List UInt8) (n0 : Nat) (pp : Value) (dp : Nat) (l0 : Int) (pl : Bool) (p : List Fn) (vars : Int) (hgg : gs < gg) (hs : Src w.heap gs sv cs n0) (hB0 : BX w.heap gg [.pointer (some ⟨gs, 0, none⟩), pp, .int .i64 l0, .bool pl]) (hp : RN [gs, gg] (rP (rPr dp)) w.heap pp p) (_hvars : -9223372036854775808 ≤ vars ∧ vars ≤ 9223372036854775807) (hv : 0 ≤ vars ∧ vars ≤ 1000) (hn : n0 + 20 ≤ 1000000000000) :
    Calls Try.prog 107 #[.pointer (some ⟨gg, 0, none⟩), .int .i64 vars] w (fun e w' => ∃ (ex : Ex) (n1 : Nat), e = .returned (.agg #[.int .i64 ex.kind, .int .i64 ex.num, .int .i64 ex.pick, .int .i64 ex.count, .slice none 0 0]) ∧ Chg [gs, gg] w w' ∧ Src w'.heap gs sv cs n1 ∧ (n0 ≤ n1 ∧ n1 ≤ n0 + 20) ∧ BX w'.heap gg [.pointer (some ⟨gs, 0, none⟩), pp, .int .i64 l0, .bool pl] ∧ exR ex ∧ ex.kids = [] ∧ LOk p vars ex) := by
  refine calls_mk [.pointer (some ⟨gg, 0, none⟩), .int .i64 vars] 28 Try.func107 rfl rfl sM ?_
  have hE0 : Chg [gs, gg] w w := Chg.refl [gs, gg] w
  have hgl := hs.lt
  have hgl2 := hB0.lt
  refine wp_seq (wp_plain _ [3] rfl ?_)
  have hq2 := hB0.lt
  refine r_allocA (z := .agg #[.int .i64 0, .int .i64 0, .int .i64 0, .int .i64 0, .slice none 0 0]) zr31 zN fun w1 hX1 hz1 hB1 => ?_
  have hzs1 : w.heap.size ≤ w1.heap.size := hX1.size
  have hE1 : Chg [gs, gg] w w1 := hE0.ext hX1
  have hsx1 := hs.ext hX1
  have hB0x1 := hB0.ext hX1
  replace hB1 : BX w1.heap w.heap.size [(.int .i64 0), (.int .i64 0), (.int .i64 0), (.int .i64 0), (.slice none 0 0)] := hB1
  refine lw_nil (wp_seq (wp_seq (wp_plain _ [0, 0, 0, 0, 0, 0, 2, 4, 0, 0] rfl (lw_tv 1 rfl ?_))))
  by_cases hc3 : ((0 : Nat) : Int) < vars
  ·
    refine q_gtr true rfl rfl (decide_eq_true hc3) zN (lw_tv 2 rfl (q_nil rfl (zS (e := 7) rfl rfl rfl) (q_fldP (p := (.pointer (some ⟨gg, 0, none⟩))) (b := gg) (o := 0) 0 fd102_0 rfl rfl (zS (e := 7) rfl rfl rfl) (q_load (p := (padd (.pointer (some ⟨gg, 0, none⟩)) 0)) (.inr rfl) (.pointer (some ⟨gs, 0, none⟩)) one72 rfl (hB0x1.ldp (i := 0) sM) (zS (e := 7) rfl rfl rfl) ?_))))
    refine lw_callE 39 [] [] [(.pointer (some ⟨gs, 0, none⟩)), (.int .i64 ((4 : Nat) : Int))] rfl rfl cf39 (zS (e := 7) rfl rfl rfl) (c_spec_l00Src_one _ gs _ _ _ (((4 : Nat) : Int)) hsx1 oM oM sD) ?_
    rintro e4 w4 ⟨x4_0, n4, rfl, hC4, hs4, hb4, hp4_0⟩
    refine ⟨_, rfl, ?_⟩
    have hzs4 : w1.heap.size ≤ w4.heap.size := hC4.size
    have hE4 : Chg [gs, gg] w w4 := hE1.trans (hC4.sub sub_gs)
    have hF5 := hB0x1.chg hC4 (fun hm => by have := List.mem_singleton.1 hm; omega)
    have hF6 := hB1.chg hC4 (fun hm => by have := List.mem_singleton.1 hm; omega)
    refine q_not (!x4_0) rfl rfl (zS (e := 7) rfl rfl rfl) (lw_tvn 1 rfl ?_)
    cases hb7 : (!x4_0)
    ·
      refine c_cond_f (by first | rfl | (show Value.bool _ = _; rw [hb7])) (wp_skip (wp_seq (wp_plain _ [0, 0, 0, 2, 4, 0, 4] rfl (lw_tv 1 rfl (q_nil rfl zN (q_fldP (p := (.pointer (some ⟨gg, 0, none⟩))) (b := gg) (o := 0) 0 fd102_0 rfl rfl zN (q_load (p := (padd (.pointer (some ⟨gg, 0, none⟩)) 0)) (.inr rfl) (.pointer (some ⟨gs, 0, none⟩)) one72 rfl (hF5.ldp (i := 0) sM) zN (lw_callE 83 [] [] [(.pointer (some ⟨gs, 0, none⟩))] rfl rfl cf83 zN (c_spec_l01Any _ gs _ _ _ hs4 oM) ?_))))))))
      rintro e8 w8 ⟨x8_0, n8, rfl, hC8, hs8, hb8, hp8_0⟩
      refine ⟨_, rfl, ?_⟩
      have hzs8 : w4.heap.size ≤ w8.heap.size := hC8.size
      have hE8 : Chg [gs, gg] w w8 := hE4.trans (hC8.sub sub_gs)
      have hF9 := hF5.chg hC8 (fun hm => by have := List.mem_singleton.1 hm; omega)
      have hF10 := hF6.chg hC8 (fun hm => by have := List.mem_singleton.1 hm; omega)
      have hbd11 : ∀ (wq : World), (Instr.build 31 #[(0, (.int .i64 ((1 : Nat) : Int))), (1, (.int .i64 x8_0))]).run Try.prog wq = .ok (.agg #[(.int .i64 ((1 : Nat) : Int)), (.int .i64 x8_0), (.int .i64 0), (.int .i64 0), (.slice none 0 0)]) wq := by intro wq; kernel_rfl
      refine q_build (ps := #[(0, (.int .i64 ((1 : Nat) : Int))), (1, (.int .i64 x8_0))]) (.agg #[(.int .i64 ((1 : Nat) : Int)), (.int .i64 x8_0), (.int .i64 0), (.int .i64 0), (.slice none 0 0)]) z107_1 (fun wq => hbd11  wq) zN (e_setA (vs := [(.int .i64 ((1 : Nat) : Int)), (.int .i64 x8_0), (.int .i64 0), (.int .i64 0), (.slice none 0 0)]) agg31 rfl rfl z107_0 hF10 rfl rfl zN fun w12 hC12 hz12 hB12 => ?_)
      replace hB12 : BX w12.heap w.heap.size [(.int .i64 ((1 : Nat) : Int)), (.int .i64 x8_0), (.int .i64 0), (.int .i64 0), (.slice none 0 0)] := hB12
      have hzs12 : w8.heap.size ≤ w12.heap.size := hC12.size
      have hE12 : Chg [gs, gg] w w12 := hE8.fresh hC12 (fun c hc => by have := List.mem_singleton.1 hc; omega)
      have hF13 := hs8.chg hC12 (fun c hc => by have := List.mem_singleton.1 hc; omega)
      have hF14 := hF9.chg hC12 (fun hm => by have := List.mem_singleton.1 hm; omega)
      exact lw_nil (wp_ret (post_retA (cs := [(.int .i64 ((1 : Nat) : Int)), (.int .i64 x8_0), (.int .i64 0), (.int .i64 0), (.slice none 0 0)]) rfl agg31 rfl hB12 rfl ⟨(.mk ((1 : Nat) : Int) x8_0 0 0 []), n8, rfl, hE12, hF13, ⟨by omega, by omega⟩, hF14, (exR_mk oM oM oM oM), rfl, z107_2⟩))
    ·
      refine c_cond_t (by first | rfl | (show Value.bool _ = _; rw [hb7])) (wp_seq (wp_plain _ [0, 0, 0, 2, 0, 4, 0, 4] rfl (lw_tv 1 rfl (q_nil rfl zN (q_fldP (p := (.pointer (some ⟨gg, 0, none⟩))) (b := gg) (o := 0) 0 fd102_0 rfl rfl zN (q_load (p := (padd (.pointer (some ⟨gg, 0, none⟩)) 0)) (.inr rfl) (.pointer (some ⟨gs, 0, none⟩)) one72 rfl (hF5.ldp (i := 0) sM) zN (lw_tv 1 rfl ?_)))))))
      refine lw_callE 37 [] [] [(.pointer (some ⟨gs, 0, none⟩)), (.int .i64 vars)] rfl rfl cf37 zN (c_spec_l00Src_pick _ gs _ _ _ (vars) hs4 oM _hvars sD) ?_
      rintro e15 w15 ⟨x15_0, n15, rfl, hC15, hs15, hb15, hp15_0⟩
      refine ⟨_, rfl, ?_⟩
      have hzs15 : w4.heap.size ≤ w15.heap.size := hC15.size
      have hE15 : Chg [gs, gg] w w15 := hE4.trans (hC15.sub sub_gs)
      have hF16 := hF5.chg hC15 (fun hm => by have := List.mem_singleton.1 hm; omega)
      have hF17 := hF6.chg hC15 (fun hm => by have := List.mem_singleton.1 hm; omega)
      have hbd18 : ∀ (wq : World), (Instr.build 31 #[(0, (.int .i64 ((2 : Nat) : Int))), (1, (.int .i64 x15_0))]).run Try.prog wq = .ok (.agg #[(.int .i64 ((2 : Nat) : Int)), (.int .i64 x15_0), (.int .i64 0), (.int .i64 0), (.slice none 0 0)]) wq := by intro wq; kernel_rfl
      refine q_build (ps := #[(0, (.int .i64 ((2 : Nat) : Int))), (1, (.int .i64 x15_0))]) (.agg #[(.int .i64 ((2 : Nat) : Int)), (.int .i64 x15_0), (.int .i64 0), (.int .i64 0), (.slice none 0 0)]) z107_1 (fun wq => hbd18  wq) zN (e_setA (vs := [(.int .i64 ((2 : Nat) : Int)), (.int .i64 x15_0), (.int .i64 0), (.int .i64 0), (.slice none 0 0)]) agg31 rfl rfl z107_0 hF17 rfl rfl zN fun w19 hC19 hz19 hB19 => ?_)
      replace hB19 : BX w19.heap w.heap.size [(.int .i64 ((2 : Nat) : Int)), (.int .i64 x15_0), (.int .i64 0), (.int .i64 0), (.slice none 0 0)] := hB19
      have hzs19 : w15.heap.size ≤ w19.heap.size := hC19.size
      have hE19 : Chg [gs, gg] w w19 := hE15.fresh hC19 (fun c hc => by have := List.mem_singleton.1 hc; omega)
      have hF20 := hs15.chg hC19 (fun c hc => by have := List.mem_singleton.1 hc; omega)
      have hF21 := hF16.chg hC19 (fun hm => by have := List.mem_singleton.1 hm; omega)
      exact lw_nil (wp_ret (t_ret (post_retA (cs := [(.int .i64 ((2 : Nat) : Int)), (.int .i64 x15_0), (.int .i64 0), (.int .i64 0), (.slice none 0 0)]) rfl agg31 rfl hB19 rfl ⟨(.mk ((2 : Nat) : Int) x15_0 0 0 []), n15, rfl, hE19, hF20, ⟨by omega, by omega⟩, hF21, (exR_mk oM oM oM oM), rfl, z107_2⟩)))
  ·
    refine q_gtr false rfl rfl (decide_eq_false hc3) zN (lw_tvn 8 rfl (c_cond_f rfl (wp_skip (wp_seq (wp_plain _ [0, 0, 0, 2, 4, 0, 4] rfl (lw_tv 1 rfl (q_nil rfl zN (q_fldP (p := (.pointer (some ⟨gg, 0, none⟩))) (b := gg) (o := 0) 0 fd102_0 rfl rfl zN (q_load (p := (padd (.pointer (some ⟨gg, 0, none⟩)) 0)) (.inr rfl) (.pointer (some ⟨gs, 0, none⟩)) one72 rfl (hB0x1.ldp (i := 0) sM) zN (lw_callE 83 [] [] [(.pointer (some ⟨gs, 0, none⟩))] rfl rfl cf83 zN (c_spec_l01Any _ gs _ _ _ hsx1 oM) ?_))))))))))
    rintro e22 w22 ⟨x22_0, n22, rfl, hC22, hs22, hb22, hp22_0⟩
    refine ⟨_, rfl, ?_⟩
    have hzs22 : w1.heap.size ≤ w22.heap.size := hC22.size
    have hE22 : Chg [gs, gg] w w22 := hE1.trans (hC22.sub sub_gs)
    have hF23 := hB0x1.chg hC22 (fun hm => by have := List.mem_singleton.1 hm; omega)
    have hF24 := hB1.chg hC22 (fun hm => by have := List.mem_singleton.1 hm; omega)
    have hbd25 : ∀ (wq : World), (Instr.build 31 #[(0, (.int .i64 ((1 : Nat) : Int))), (1, (.int .i64 x22_0))]).run Try.prog wq = .ok (.agg #[(.int .i64 ((1 : Nat) : Int)), (.int .i64 x22_0), (.int .i64 0), (.int .i64 0), (.slice none 0 0)]) wq := by intro wq; kernel_rfl
    refine q_build (ps := #[(0, (.int .i64 ((1 : Nat) : Int))), (1, (.int .i64 x22_0))]) (.agg #[(.int .i64 ((1 : Nat) : Int)), (.int .i64 x22_0), (.int .i64 0), (.int .i64 0), (.slice none 0 0)]) z107_1 (fun wq => hbd25  wq) zN (e_setA (vs := [(.int .i64 ((1 : Nat) : Int)), (.int .i64 x22_0), (.int .i64 0), (.int .i64 0), (.slice none 0 0)]) agg31 rfl rfl z107_0 hF24 rfl rfl zN fun w26 hC26 hz26 hB26 => ?_)
    replace hB26 : BX w26.heap w.heap.size [(.int .i64 ((1 : Nat) : Int)), (.int .i64 x22_0), (.int .i64 0), (.int .i64 0), (.slice none 0 0)] := hB26
    have hzs26 : w22.heap.size ≤ w26.heap.size := hC26.size
    have hE26 : Chg [gs, gg] w w26 := hE22.fresh hC26 (fun c hc => by have := List.mem_singleton.1 hc; omega)
    have hF27 := hs22.chg hC26 (fun c hc => by have := List.mem_singleton.1 hc; omega)
    have hF28 := hF23.chg hC26 (fun hm => by have := List.mem_singleton.1 hm; omega)
    exact lw_nil (wp_ret (post_retA (cs := [(.int .i64 ((1 : Nat) : Int)), (.int .i64 x22_0), (.int .i64 0), (.int .i64 0), (.slice none 0 0)]) rfl agg31 rfl hB26 rfl ⟨(.mk ((1 : Nat) : Int) x22_0 0 0 []), n22, rfl, hE26, hF27, ⟨by omega, by omega⟩, hF28, (exR_mk oM oM oM oM), rfl, z107_2⟩))
theorem y109_0 {p : Prop} (h : p := by first | (rw [kn_0 oM]; rfl) | (rw [kn_2 oM]; rfl) | (rw [kn_1 oM]; rfl) | (rw [kn_3 oM]; rfl) | (rw [kn_m (by assumption) (by assumption) (by assumption) (by assumption) (by assumption) (by assumption) (by assumption) (by assumption) (by assumption)])) : p := h
theorem c_kn (w : World) (k : Int) (_hk : -9223372036854775808 ≤ k ∧ k ≤ 9223372036854775807)  :
    Calls Try.prog 109 #[.int .i64 k] w (fun e w' => e = .returned (.int .i64 (kn k)) ∧ w' = w) := by
  refine calls_mk [.int .i64 k] 17 Try.func109 rfl rfl sM ?_
  have hE0 : w = w := rfl
  refine wp_seq (wp_plain _ [0] rfl (lw_tvn 1 rfl (wp_seq (wp_seq (wp_plain _ [0] rfl (lw_tvn 1 rfl (wp_block (wp_seq (wp_seq (wp_plain _ [0, 0] rfl ?_))))))))))
  by_cases hc1 : k = ((1 : Nat) : Int)
  ·
    exact q_eql true rfl rfl (decide_eq_true hc1) zN (lw_tvn 1 rfl (c_cond_t rfl (wp_skip (c_cond_t rfl (wp_seq (wp_plain _ [0] rfl (lw_tvn 1 rfl (wp_ret (b_ret (t_ret (post_ret [2] rfl (.int .i64 ((0 : Nat) : Int)) rfl ⟨y109_0, hE0⟩)))))))))))
  ·
    refine q_eql false rfl rfl (decide_eq_false hc1) zN (lw_tvn 1 rfl (c_cond_f rfl (wp_plain _ [0, 0] rfl ?_)))
    by_cases hc2 : k = ((2 : Nat) : Int)
    ·
      exact q_eql true rfl rfl (decide_eq_true hc2) zN (lw_tvn 1 rfl (c_cond_t rfl (wp_seq (wp_plain _ [0] rfl (lw_tvn 1 rfl (wp_ret (b_ret (t_ret (post_ret [2] rfl (.int .i64 ((0 : Nat) : Int)) rfl ⟨y109_0, hE0⟩)))))))))
    ·
      refine q_eql false rfl rfl (decide_eq_false hc2) zN (lw_tvn 1 rfl (c_cond_f rfl (wp_seq (wp_seq (wp_plain _ [0, 0] rfl ?_)))))
      by_cases hc3 : k = ((3 : Nat) : Int)
      ·
        exact q_eql true rfl rfl (decide_eq_true hc3) zN (lw_tvn 1 rfl (c_cond_t rfl (wp_skip (c_cond_t rfl (wp_seq (wp_plain _ [0] rfl (lw_tvn 1 rfl (wp_ret (b_ret (t_ret (post_ret [2] rfl (.int .i64 ((2 : Nat) : Int)) rfl ⟨y109_0, hE0⟩)))))))))))
      ·
        refine q_eql false rfl rfl (decide_eq_false hc3) zN (lw_tvn 1 rfl (c_cond_f rfl (wp_seq (wp_plain _ [0, 0] rfl ?_))))
        by_cases hc4 : k = ((4 : Nat) : Int)
        ·
          exact q_eql true rfl rfl (decide_eq_true hc4) zN (lw_tvn 1 rfl (c_cond_t rfl (wp_skip (c_cond_t rfl (wp_seq (wp_plain _ [0] rfl (lw_tvn 1 rfl (wp_ret (b_ret (t_ret (post_ret [2] rfl (.int .i64 ((2 : Nat) : Int)) rfl ⟨y109_0, hE0⟩)))))))))))
        ·
          refine q_eql false rfl rfl (decide_eq_false hc4) zN (lw_tvn 1 rfl (c_cond_f rfl (wp_seq (wp_plain _ [0, 0] rfl ?_))))
          by_cases hc5 : k = ((5 : Nat) : Int)
          ·
            exact q_eql true rfl rfl (decide_eq_true hc5) zN (lw_tvn 1 rfl (c_cond_t rfl (wp_skip (c_cond_t rfl (wp_seq (wp_plain _ [0] rfl (lw_tvn 1 rfl (wp_ret (b_ret (t_ret (post_ret [2] rfl (.int .i64 ((2 : Nat) : Int)) rfl ⟨y109_0, hE0⟩)))))))))))
          ·
            refine q_eql false rfl rfl (decide_eq_false hc5) zN (lw_tvn 1 rfl (c_cond_f rfl (wp_seq (wp_plain _ [0, 0] rfl ?_))))
            by_cases hc6 : k = ((6 : Nat) : Int)
            ·
              exact q_eql true rfl rfl (decide_eq_true hc6) zN (lw_tvn 1 rfl (c_cond_t rfl (wp_skip (c_cond_t rfl (wp_seq (wp_plain _ [0] rfl (lw_tvn 1 rfl (wp_ret (b_ret (t_ret (post_ret [2] rfl (.int .i64 ((2 : Nat) : Int)) rfl ⟨y109_0, hE0⟩)))))))))))
            ·
              refine q_eql false rfl rfl (decide_eq_false hc6) zN (lw_tvn 1 rfl (c_cond_f rfl (wp_plain _ [0, 0] rfl ?_)))
              by_cases hc7 : k = ((9 : Nat) : Int)
              ·
                exact q_eql true rfl rfl (decide_eq_true hc7) zN (lw_tvn 1 rfl (c_cond_t rfl (wp_seq (wp_plain _ [0] rfl (lw_tvn 1 rfl (wp_ret (b_ret (t_ret (post_ret [2] rfl (.int .i64 ((2 : Nat) : Int)) rfl ⟨y109_0, hE0⟩)))))))))
              ·
                refine q_eql false rfl rfl (decide_eq_false hc7) zN (lw_tvn 1 rfl (c_cond_f rfl (wp_seq (wp_plain _ [0, 0] rfl ?_))))
                by_cases hc8 : k = ((7 : Nat) : Int)
                ·
                  exact q_eql true rfl rfl (decide_eq_true hc8) zN (lw_tvn 1 rfl (c_cond_t rfl (wp_seq (wp_plain _ [0] rfl (lw_tvn 1 rfl (wp_ret (b_ret (t_ret (post_ret [2] rfl (.int .i64 ((1 : Nat) : Int)) rfl ⟨y109_0, hE0⟩)))))))))
                ·
                  refine q_eql false rfl rfl (decide_eq_false hc8) zN (lw_tvn 1 rfl (c_cond_f rfl (wp_seq (wp_plain _ [0, 0] rfl ?_))))
                  by_cases hc9 : k = ((8 : Nat) : Int)
                  ·
                    exact q_eql true rfl rfl (decide_eq_true hc9) zN (lw_tvn 1 rfl (c_cond_t rfl (wp_seq (wp_plain _ [0] rfl (lw_tvn 1 rfl (wp_ret (b_ret (t_ret (post_ret [2] rfl (.int .i64 ((3 : Nat) : Int)) rfl ⟨y109_0, hE0⟩)))))))))
                  ·
                    exact q_eql false rfl rfl (decide_eq_false hc9) zN (lw_tvn 1 rfl (c_cond_f rfl (wp_skip (wp_seq (wp_plain _ [0] rfl (lw_tvn 1 rfl (wp_ret (post_ret [2] rfl (.int .i64 (-1)) rfl ⟨y109_0, hE0⟩))))))))
def GX (d : Nat) : Prop := ∀ (w : World) (gg gs : Nat) (sv : Value) (cs : List UInt8) (n0 : Nat) (pp : Value) (dp : Nat) (l0 : Int) (pl : Bool) (p : List Fn) (vars funcs : Int) (hgg : gs < gg) (hs : Src w.heap gs sv cs n0) (hB0 : BX w.heap gg [.pointer (some ⟨gs, 0, none⟩), pp, .int .i64 l0, .bool pl]) (hp : RN [gs, gg] (rP (rPr dp)) w.heap pp p) (_hvars : -9223372036854775808 ≤ vars ∧ vars ≤ 9223372036854775807) (_hfuncs : -9223372036854775808 ≤ funcs ∧ funcs ≤ 9223372036854775807) (hv : 0 ≤ vars ∧ vars + ((d : Nat) : Int) ≤ 1000) (hfu : 0 ≤ funcs ∧ funcs ≤ ((p.length : Nat) : Int)) (hpr : GPr p) (hd : d ≤ 8) (hn : n0 + stp d ≤ 1000000000000) (hl : nds d - 1000000 ≤ l0 ∧ l0 ≤ 1000), Calls Try.prog 70 #[.pointer (some ⟨gg, 0, none⟩), .int .i64 vars, .int .i64 funcs, .int .i64 ((d : Nat) : Int)] w (fun e w' => ∃ (v : Value) (ex : Ex) (n1 : Nat) (l1 : Int), e = .returned (.agg #[.int .i64 ex.kind, .int .i64 ex.num, .int .i64 ex.pick, .int .i64 ex.count, v]) ∧ Chg [gs, gg] w w' ∧ Src w'.heap gs sv cs n1 ∧ (n0 ≤ n1 ∧ n1 ≤ n0 + (stp d)) ∧ BX w'.heap gg [.pointer (some ⟨gs, 0, none⟩), pp, .int .i64 l1, .bool pl] ∧ Fr (owS 5 (oEx 31 d) 31) w.heap.size w'.heap.size w'.heap v ex.kids ∧ exR ex ∧ GOk p funcs vars pl d l0 l1 ex)
def GC (d : Nat) : Prop := ∀ (w : World) (gg gs : Nat) (sv : Value) (cs : List UInt8) (n0 : Nat) (pp : Value) (dp : Nat) (l0 : Int) (pl : Bool) (p : List Fn) (vars funcs : Int) (hgg : gs < gg) (hs : Src w.heap gs sv cs n0) (hB0 : BX w.heap gg [.pointer (some ⟨gs, 0, none⟩), pp, .int .i64 l0, .bool pl]) (hp : RN [gs, gg] (rP (rPr dp)) w.heap pp p) (_hvars : -9223372036854775808 ≤ vars ∧ vars ≤ 9223372036854775807) (_hfuncs : -9223372036854775808 ≤ funcs ∧ funcs ≤ 9223372036854775807) (hv : 0 ≤ vars ∧ vars + ((d : Nat) : Int) ≤ 1000) (hfu : 0 ≤ funcs ∧ funcs ≤ ((p.length : Nat) : Int)) (hpr : GPr p) (hd : 1 ≤ d ∧ d ≤ 8) (hn : n0 + (20 + 4 * stp (d - 1)) ≤ 1000000000000) (hl : 1 ≤ l0 ∧ l0 ≤ 1000), Calls Try.prog 108 #[.pointer (some ⟨gg, 0, none⟩), .int .i64 vars, .int .i64 funcs, .int .i64 ((d : Nat) : Int)] w (fun e w' => ∃ (v : Value) (ex : Ex) (n1 : Nat) (l1 : Int), e = .returned (.agg #[.int .i64 ex.kind, .int .i64 ex.num, .int .i64 ex.pick, .int .i64 ex.count, v]) ∧ Chg [gs, gg] w w' ∧ Src w'.heap gs sv cs n1 ∧ (n0 ≤ n1 ∧ n1 ≤ n0 + (20 + 4 * stp (d - 1))) ∧ BX w'.heap gg [.pointer (some ⟨gs, 0, none⟩), pp, .int .i64 l1, .bool pl] ∧ Fr (owS 5 (oEx 31 d) 31) w.heap.size w'.heap.size w'.heap v ex.kids ∧ exR ex ∧ GOk p funcs vars pl d (l0 + 1) l1 ex)
theorem z108_0 {p : Prop} (h : p := by intro u hu; simp only [List.mem_cons, List.not_mem_nil, or_false] at hu; rcases hu with rfl | rfl | rfl | rfl | rfl <;> first | exact ⟨rfl, rfl⟩) : p := h
theorem c_spec_l02Gen_call (w : World) (gg gs : Nat) (sv : Value) (cs : List UInt8) (n0 : Nat) (pp : Value) (dp : Nat) (l0 : Int) (pl : Bool) (p : List Fn) (vars : Int) (funcs : Int) (d : Nat) (hgg : gs < gg) (hs : Src w.heap gs sv cs n0) (hB0 : BX w.heap gg [.pointer (some ⟨gs, 0, none⟩), pp, .int .i64 l0, .bool pl]) (hp : RN [gs, gg] (rP (rPr dp)) w.heap pp p) (_hvars : -9223372036854775808 ≤ vars ∧ vars ≤ 9223372036854775807) (_hfuncs : -9223372036854775808 ≤ funcs ∧ funcs ≤ 9223372036854775807) (hv : 0 ≤ vars ∧ vars + ((d : Nat) : Int) ≤ 1000) (hfu : 0 ≤ funcs ∧ funcs ≤ ((p.length : Nat) : Int)) (hpr : GPr p) (hd : 1 ≤ d ∧ d ≤ 8) (hn : n0 + (20 + 4 * stp (d - 1)) ≤ 1000000000000) (hl : 1 ≤ l0 ∧ l0 ≤ 1000) (IH : GX (d - 1)) :
    Calls Try.prog 108 #[.pointer (some ⟨gg, 0, none⟩), .int .i64 vars, .int .i64 funcs, .int .i64 ((d : Nat) : Int)] w (fun e w' => ∃ (v : Value) (ex : Ex) (n1 : Nat) (l1 : Int), e = .returned (.agg #[.int .i64 ex.kind, .int .i64 ex.num, .int .i64 ex.pick, .int .i64 ex.count, v]) ∧ Chg [gs, gg] w w' ∧ Src w'.heap gs sv cs n1 ∧ (n0 ≤ n1 ∧ n1 ≤ n0 + (20 + 4 * stp (d - 1))) ∧ BX w'.heap gg [.pointer (some ⟨gs, 0, none⟩), pp, .int .i64 l1, .bool pl] ∧ Fr (owS 5 (oEx 31 d) 31) w.heap.size w'.heap.size w'.heap v ex.kids ∧ exR ex ∧ GOk p funcs vars pl d (l0 + 1) l1 ex) := by
  refine calls_mk [.pointer (some ⟨gg, 0, none⟩), .int .i64 vars, .int .i64 funcs, .int .i64 ((d : Nat) : Int)] 89 Try.func108 rfl rfl sM ?_
  have hE0 : Chg [gs, gg] w w := Chg.refl [gs, gg] w
  have hgl := hs.lt
  have hgl2 := hB0.lt
  have hst := stp_20 (d - 1)
  have hnd := nds_pos (d - 1)
  have hnl := nds_le (d := d - 1) oM
  have hpl := hpr.len
  refine wp_seq (wp_plain _ [3] rfl ?_)
  have hq2 := hB0.lt
  refine r_allocA (z := .agg #[.int .i64 0, .int .i64 0, .int .i64 0, .int .i64 0, .slice none 0 0]) zr31 zN fun w1 hX1 hz1 hB1 => ?_
  have hzs1 : w.heap.size ≤ w1.heap.size := hX1.size
  have hE1 : Chg [gs, gg] w w1 := hE0.ext hX1
  have hsx1 := hs.ext hX1
  have hB0x1 := hB0.ext hX1
  replace hB1 : BX w1.heap w.heap.size [(.int .i64 0), (.int .i64 0), (.int .i64 0), (.int .i64 0), (.slice none 0 0)] := hB1
  refine lw_nil (wp_seq (wp_seq (wp_plain _ [0, 0] rfl (lw_tv 1 rfl ?_))))
  by_cases hc3 : funcs = ((0 : Nat) : Int)
  ·
    refine q_eql true rfl rfl (decide_eq_true hc3) zN (lw_nil (c_cond_t rfl (wp_seq (wp_plain _ [0, 0, 4, 4] rfl (lw_tv 2 rfl (lw_callE 107 [] [] [(.pointer (some ⟨gg, 0, none⟩)), (.int .i64 vars)] rfl rfl cf107 zN (c_spec_l02Gen_leaf _ gg gs sv cs n0 pp dp l0 pl p (vars) oM hsx1 hB0x1 (hp.chg (good_rP (good_rPr dp)) hE1) _hvars oM oM) ?_))))))
    rintro e4 w4 ⟨x4, n4, rfl, hC4, hs4, hb4, hB4, hr4, hkd4, hG4⟩
    refine ⟨_, rfl, ?_⟩
    have hzs4 : w1.heap.size ≤ w4.heap.size := hC4.size
    have hE4 : Chg [gs, gg] w w4 := hE1.trans hC4
    have hF5 := hB1.chg hC4 (fun hm => by have := mem2 hm; omega)
    refine e_setA (vs := [(.int .i64 x4.kind), (.int .i64 x4.num), (.int .i64 x4.pick), (.int .i64 x4.count), (.slice none 0 0)]) agg31 rfl rfl z108_0 hF5 rfl rfl zN fun w6 hC6 hz6 hB6 => ?_
    replace hB6 : BX w6.heap w.heap.size [(.int .i64 x4.kind), (.int .i64 x4.num), (.int .i64 x4.pick), (.int .i64 x4.count), (.slice none 0 0)] := hB6
    have hzs6 : w4.heap.size ≤ w6.heap.size := hC6.size
    have hE6 : Chg [gs, gg] w w6 := hE4.fresh hC6 (fun c hc => by have := List.mem_singleton.1 hc; omega)
    have hF7 := hs4.chg hC6 (fun c hc => by have := List.mem_singleton.1 hc; omega)
    have hF8 := hB4.chg hC6 (fun hm => by have := List.mem_singleton.1 hm; omega)
    exact lw_nil (wp_ret (t_ret (post_retA (cs := [(.int .i64 x4.kind), (.int .i64 x4.num), (.int .i64 x4.pick), (.int .i64 x4.count), (.slice none 0 0)]) rfl agg31 rfl hB6 rfl ⟨(.slice none 0 0), x4, n4, l0, rfl, hE6, hF7, ⟨by omega, by omega⟩, hF8, (by rw [hkd4]; exact frNilS _ _ _), hr4, (by exact LOk.okc (by assumption) d)⟩)))
  ·
    refine q_eql false rfl rfl (decide_eq_false hc3) zN (lw_nil (c_cond_f rfl (wp_skip (wp_seq (wp_plain _ [0, 0, 0, 2, 0, 4, 0, 3, 4] rfl (lw_tv 1 rfl (q_nil rfl zN (q_fldP (p := (.pointer (some ⟨gg, 0, none⟩))) (b := gg) (o := 0) 0 fd102_0 rfl rfl zN (q_load (p := (padd (.pointer (some ⟨gg, 0, none⟩)) 0)) (.inr rfl) (.pointer (some ⟨gs, 0, none⟩)) one72 rfl (hB0x1.ldp (i := 0) sM) zN (lw_tv 1 rfl ?_))))))))))
    refine lw_callE 37 [] [] [(.pointer (some ⟨gs, 0, none⟩)), (.int .i64 funcs)] rfl rfl cf37 zN (c_spec_l00Src_pick _ gs _ _ _ (funcs) hsx1 oM _hfuncs sD) ?_
    rintro e9 w9 ⟨x9_0, n9, rfl, hC9, hs9, hb9, hp9_0⟩
    refine ⟨_, rfl, ?_⟩
    have hzs9 : w1.heap.size ≤ w9.heap.size := hC9.size
    have hE9 : Chg [gs, gg] w w9 := hE1.trans (hC9.sub sub_gs)
    have hF10 := hB0x1.chg hC9 (fun hm => by have := List.mem_singleton.1 hm; omega)
    have hF11 := hB1.chg hC9 (fun hm => by have := List.mem_singleton.1 hm; omega)
    have hbd12 : ∀ (wq : World), (Instr.build 31 #[(0, (.int .i64 ((10 : Nat) : Int))), (1, (.int .i64 x9_0))]).run Try.prog wq = .ok (.agg #[(.int .i64 ((10 : Nat) : Int)), (.int .i64 x9_0), (.int .i64 0), (.int .i64 0), (.slice none 0 0)]) wq := by intro wq; kernel_rfl
    refine q_build (ps := #[(0, (.int .i64 ((10 : Nat) : Int))), (1, (.int .i64 x9_0))]) (.agg #[(.int .i64 ((10 : Nat) : Int)), (.int .i64 x9_0), (.int .i64 0), (.int .i64 0), (.slice none 0 0)]) (by simp only [List.map_toArray, List.map_cons, List.map_nil]; rfl) (fun wq => hbd12  wq) zN ?_
    have hq14 := hF10.lt
    have hq15 := hF11.lt
    refine r_allocA (z := .agg #[.int .i64 0, .int .i64 0, .int .i64 0, .int .i64 0, .slice none 0 0]) zr31 zN fun w13 hX13 hz13 hB13 => ?_
    have hzs13 : w9.heap.size ≤ w13.heap.size := hX13.size
    have hE13 : Chg [gs, gg] w w13 := hE9.ext hX13
    have hs9x13 := hs9.ext hX13
    have hF10x13 := hF10.ext hX13
    have hF11x13 := hF11.ext hX13
    replace hB13 : BX w13.heap w9.heap.size [(.int .i64 0), (.int .i64 0), (.int .i64 0), (.int .i64 0), (.slice none 0 0)] := hB13
    refine e_setA (vs := [(.int .i64 ((10 : Nat) : Int)), (.int .i64 x9_0), (.int .i64 0), (.int .i64 0), (.slice none 0 0)]) agg31 rfl rfl z108_0 hB13 rfl rfl zN fun w16 hC16 hz16 hB16 => ?_
    replace hB16 : BX w16.heap w9.heap.size [(.int .i64 ((10 : Nat) : Int)), (.int .i64 x9_0), (.int .i64 0), (.int .i64 0), (.slice none 0 0)] := hB16
    have hzs16 : w13.heap.size ≤ w16.heap.size := hC16.size
    have hE16 : Chg [gs, gg] w w16 := hE13.fresh hC16 (fun c hc => by have := List.mem_singleton.1 hc; omega)
    have hF17 := hs9x13.chg hC16 (fun c hc => by have := List.mem_singleton.1 hc; omega)
    have hF18 := hF10x13.chg hC16 (fun hm => by have := List.mem_singleton.1 hm; omega)
    have hF19 := hF11x13.chg hC16 (fun hm => by have := List.mem_singleton.1 hm; omega)
    refine lw_nil (wp_seq (wp_draw _ [0, 0, 0, 1, 0, 0, 1, 0, 1, 0, 0] mixed (by kernel_rfl) (lw_tv 1 rfl ?_)))
    have hxk : x9_0 < funcs := by omega
    refine q_nil rfl zN (q_fldP (p := (.pointer (some ⟨gg, 0, none⟩))) (b := gg) (o := 0) 1 fd102_1 rfl rfl zN (q_load (p := (padd (.pointer (some ⟨gg, 0, none⟩)) 1)) (.inl rfl) pp one86 rfl (hF18.ldp (i := 1) sM) zN (q_nilP (hp.isPtr) rfl zN ?_)))
    obtain ⟨cs20, hr20, hl20⟩ := RN.at (good_rPr _) hp
    obtain ⟨ve20, rfl, hx20⟩ := RPr.of hr20
    have hln20 := hx20.lenle
    unfold maxLen at hln20
    refine q_fldL (p := pp) 0 fd37_0 rfl (hl20 _ hE16.drew) zN (q_load (p := (padd pp 0)) (.inl rfl) ve20 one35 rfl ((hl20 _ hE16.drew).ld (i := 0) (by simp [exC, fnC])) zN (q_fldP (p := (.pointer (some ⟨w9.heap.size, 0, none⟩))) (b := w9.heap.size) (o := 0) 1 fd31_1 rfl rfl zN (q_load (p := (padd (.pointer (some ⟨w9.heap.size, 0, none⟩)) 1)) (.inl rfl) (.int .i64 x9_0) one2 rfl (hB16.ldp (i := 1) sM) zN ?_)))
    refine q_idx (v := ve20) ((x9_0).toNat) u35 tiS34 rfl rfl hx20.isSl oM sD zN (lw_tvn 1 rfl (wp_seq (wp_draw _ [0, 0, 0, 1, 0, 0, 0, 1, 0, 4, 0, 4] mixed (by kernel_rfl) ?_)))
    have hou := hpr.outs (x9_0).toNat oM
    have hpa := hpr.par (x9_0).toNat oM
    refine lw_tv 1 rfl (q_nil rfl zN (q_fldP (p := (.pointer (some ⟨gg, 0, none⟩))) (b := gg) (o := 0) 0 fd102_0 rfl rfl zN (q_load (p := (padd (.pointer (some ⟨gg, 0, none⟩)) 0)) (.inl rfl) (.pointer (some ⟨gs, 0, none⟩)) one72 rfl (hF18.ldp (i := 0) sM) zN (lw_tv 1 rfl (q_nilP (RN.isPtr (RN.ptr (good_rFn dp) (by decide) Fn.zero hx20 sD)) rfl zN ?_)))))
    obtain ⟨cs21, hr21, hl21⟩ := hx20.get (good_rFn dp) Fn.zero (k := ((x9_0).toNat)) sD
    obtain ⟨ve21, rfl, hx21⟩ := RF.of hr21
    have hln21 := hx21.rn.lenle
    unfold maxLen at hln21
    refine q_fldL (p := eptr ve20 ((x9_0).toNat) 3) 2 fd34_2 rfl (hl21 _ hE16.drew.drew) zN (q_load (p := (padd (eptr ve20 ((x9_0).toNat) 3) 2)) (.inl rfl) ve21 one29 rfl ((hl21 _ hE16.drew.drew).ld (i := 2) (by simp [exC, fnC])) zN (q_len (v := ve21) u29 rfl hx21.rn.isSl zN ?_))
    refine lw_callE 37 [] [] [(.pointer (some ⟨gs, 0, none⟩)), (.int .i64 ((((p.getD ((x9_0).toNat) Fn.zero).outs).length : Nat) : Int))] rfl rfl cf37 zN (c_spec_l00Src_pick _ gs _ _ _ (((((p.getD ((x9_0).toNat) Fn.zero).outs).length : Nat) : Int)) hF17 oM oM sD) ?_
    rintro e22 w22 ⟨x22_0, n22, rfl, hC22, hs22, hb22, hp22_0⟩
    refine ⟨_, rfl, ?_⟩
    replace hC22 := hC22.of_drew
    replace hC22 := hC22.of_drew
    have hzs22 : w16.heap.size ≤ w22.heap.size := hC22.size
    have hE22 : Chg [gs, gg] w w22 := hE16.trans (hC22.sub sub_gs)
    have hF23 := hF18.chg hC22 (fun hm => by have := List.mem_singleton.1 hm; omega)
    have hF24 := hF19.chg hC22 (fun hm => by have := List.mem_singleton.1 hm; omega)
    have hF25 := hB16.chg hC22 (fun hm => by have := List.mem_singleton.1 hm; omega)
    refine q_fldP (p := (.pointer (some ⟨w9.heap.size, 0, none⟩))) (b := w9.heap.size) (o := 0) 2 fd31_2 rfl rfl zN (e_setB (k := 2) (w := w22) sz2 rfl rfl ⟨rfl, rfl⟩ hF25 sM zN fun w26 hC26 hz26 hB26 => ?_)
    replace hB26 : BX w26.heap w9.heap.size [(.int .i64 ((10 : Nat) : Int)), (.int .i64 x9_0), (.int .i64 x22_0), (.int .i64 0), (.slice none 0 0)] := hB26
    have hzs26 : w22.heap.size ≤ w26.heap.size := hC26.size
    have hE26 : Chg [gs, gg] w w26 := hE22.fresh hC26 (fun c hc => by have := List.mem_singleton.1 hc; omega)
    have hF27 := hs22.chg hC26 (fun c hc => by have := List.mem_singleton.1 hc; omega)
    have hF28 := hF23.chg hC26 (fun hm => by have := List.mem_singleton.1 hm; omega)
    have hF29 := hF24.chg hC26 (fun hm => by have := List.mem_singleton.1 hm; omega)
    refine lw_nil ?_
    refine wp_seq (c_cut (S := Int × Int × Nat) (fun (⟨k, cnt, m1⟩ : Int × Int × Nat) => ([(0, (.pointer (some ⟨gg, 0, none⟩))), (1, (.int .i64 vars)), (2, (.int .i64 funcs)), (3, (.int .i64 ((d : Nat) : Int))), (8, (.pointer (some ⟨w.heap.size, 0, none⟩))), (9, (.pointer (some ⟨w9.heap.size, 0, none⟩))), (10, (eptr ve20 ((x9_0).toNat) 3))] : List (Nat × Value))) (fun (⟨k, cnt, m1⟩ : Int × Int × Nat) (W : World) => Chg [gs, gg] w W ∧ Src W.heap gs sv cs m1 ∧ BX W.heap gg [(.pointer (some ⟨gs, 0, none⟩)), pp, (.int .i64 l0), (.bool pl)] ∧ BX W.heap w.heap.size [(.int .i64 0), (.int .i64 0), (.int .i64 0), (.int .i64 0), (.slice none 0 0)] ∧ BX W.heap w9.heap.size [(.int .i64 k), (.int .i64 x9_0), (.int .i64 x22_0), (.int .i64 cnt), (.slice none 0 0)] ∧ ((k = 10 ∧ cnt = 0) ∨ (k = 11 ∧ (((p.getD (x9_0).toNat Fn.zero).outs.length : Nat) : Int) = (p.getD (x9_0).toNat Fn.zero).params ∧ 0 ≤ cnt ∧ cnt ≤ 8)) ∧ (n0 ≤ m1 ∧ m1 ≤ n0 + 8)) ?_ ?_)
    ·
      refine wp_seq (wp_draw _ [0, 0, 0, 1, 0, 0, 0, 0, 1, 0, 0, 0, 0, 0, 1, 4, 0] mixed (by kernel_rfl) (lw_tv 1 rfl (q_nilP (RN.isPtr (RN.ptr (good_rFn dp) (by decide) Fn.zero hx20 sD)) rfl zN (q_fldL (p := eptr ve20 ((x9_0).toNat) 3) 2 fd34_2 rfl (hl21 _ hE26.drew) zN (q_load (p := (padd (eptr ve20 ((x9_0).toNat) 3) 2)) (.inl rfl) ve21 one29 rfl ((hl21 _ hE26.drew).ld (i := 2) (by simp [exC, fnC])) zN (q_len (v := ve21) u29 rfl hx21.rn.isSl zN ?_))))))
      refine lw_tv 1 rfl (q_nilP (RN.isPtr (RN.ptr (good_rFn dp) (by decide) Fn.zero hx20 sD)) rfl zN (q_fldL (p := eptr ve20 ((x9_0).toNat) 3) 1 fd34_1 rfl (hl21 _ hE26.drew) zN (q_load (p := (padd (eptr ve20 ((x9_0).toNat) 3) 1)) (.inl rfl) (.int .i64 ((p.getD ((x9_0).toNat) Fn.zero).params)) one2 rfl ((hl21 _ hE26.drew).ld (i := 1) (by simp [exC, fnC])) zN ?_)))
      by_cases hc31 : ((((p.getD ((x9_0).toNat) Fn.zero).outs).length : Nat) : Int) = (p.getD ((x9_0).toNat) Fn.zero).params
      ·
        refine q_eql true rfl rfl (decide_eq_true hc31) zN (lw_tv 2 rfl (q_nil rfl (zS (e := 55) rfl rfl rfl) (q_fldP (p := (.pointer (some ⟨gg, 0, none⟩))) (b := gg) (o := 0) 0 fd102_0 rfl rfl (zS (e := 55) rfl rfl rfl) (q_load (p := (padd (.pointer (some ⟨gg, 0, none⟩)) 0)) (.inl rfl) (.pointer (some ⟨gs, 0, none⟩)) one72 rfl (hF28.ldp (i := 0) sM) (zS (e := 55) rfl rfl rfl) ?_))))
        refine lw_callE 39 [] [] [(.pointer (some ⟨gs, 0, none⟩)), (.int .i64 ((2 : Nat) : Int))] rfl rfl cf39 (zS (e := 55) rfl rfl rfl) (c_spec_l00Src_one _ gs _ _ _ (((2 : Nat) : Int)) hF27 oM oM sD) ?_
        rintro e32 w32 ⟨x32_0, n32, rfl, hC32, hs32, hb32, hp32_0⟩
        refine ⟨_, rfl, ?_⟩
        replace hC32 := hC32.of_drew
        have hzs32 : w26.heap.size ≤ w32.heap.size := hC32.size
        have hE32 : Chg [gs, gg] w w32 := hE26.trans (hC32.sub sub_gs)
        have hF33 := hF28.chg hC32 (fun hm => by have := List.mem_singleton.1 hm; omega)
        have hF34 := hF29.chg hC32 (fun hm => by have := List.mem_singleton.1 hm; omega)
        have hF35 := hB26.chg hC32 (fun hm => by have := List.mem_singleton.1 hm; omega)
        refine lw_tvn 1 rfl ?_
        cases hb36 : x32_0
        ·
          exact c_cond_f (by first | rfl | (show Value.bool _ = _; rw [hb36])) (wp_skip ⟨(((10 : Nat) : Int), 0, n32), _, rfl, ⟨rfl, rfl, rfl, rfl, rfl, rfl, rfl, trivial⟩, ⟨hE32, hs32, hF33, hF34, hF35, oM, oM⟩⟩)
        ·
          refine c_cond_t (by first | rfl | (show Value.bool _ = _; rw [hb36])) (wp_seq (wp_plain _ [0, 4] rfl (q_fldP (p := (.pointer (some ⟨w9.heap.size, 0, none⟩))) (b := w9.heap.size) (o := 0) 0 fd31_0 rfl rfl zN (e_setB (k := 0) (w := w32) sz2 rfl rfl ⟨rfl, rfl⟩ hF35 sM zN fun w37 hC37 hz37 hB37 => ?_))))
          replace hB37 : BX w37.heap w9.heap.size [(.int .i64 ((11 : Nat) : Int)), (.int .i64 x9_0), (.int .i64 x22_0), (.int .i64 0), (.slice none 0 0)] := hB37
          have hzs37 : w32.heap.size ≤ w37.heap.size := hC37.size
          have hE37 : Chg [gs, gg] w w37 := hE32.fresh hC37 (fun c hc => by have := List.mem_singleton.1 hc; omega)
          have hF38 := hs32.chg hC37 (fun c hc => by have := List.mem_singleton.1 hc; omega)
          have hF39 := hF33.chg hC37 (fun hm => by have := List.mem_singleton.1 hm; omega)
          have hF40 := hF34.chg hC37 (fun hm => by have := List.mem_singleton.1 hm; omega)
          refine lw_nil (wp_plain _ [0, 0, 0, 2, 4, 0, 4] rfl (lw_tv 1 rfl (q_nil rfl zN (q_fldP (p := (.pointer (some ⟨gg, 0, none⟩))) (b := gg) (o := 0) 0 fd102_0 rfl rfl zN (q_load (p := (padd (.pointer (some ⟨gg, 0, none⟩)) 0)) (.inr rfl) (.pointer (some ⟨gs, 0, none⟩)) one72 rfl (hF39.ldp (i := 0) sM) zN ?_)))))
          refine lw_callE 37 [] [] [(.pointer (some ⟨gs, 0, none⟩)), (.int .i64 ((4 : Nat) : Int))] rfl rfl cf37 zN (c_spec_l00Src_pick _ gs _ _ _ (((4 : Nat) : Int)) hF38 oM oM sD) ?_
          rintro e41 w41 ⟨x41_0, n41, rfl, hC41, hs41, hb41, hp41_0⟩
          refine ⟨_, rfl, ?_⟩
          have hzs41 : w37.heap.size ≤ w41.heap.size := hC41.size
          have hE41 : Chg [gs, gg] w w41 := hE37.trans (hC41.sub sub_gs)
          have hF42 := hF39.chg hC41 (fun hm => by have := List.mem_singleton.1 hm; omega)
          have hF43 := hF40.chg hC41 (fun hm => by have := List.mem_singleton.1 hm; omega)
          have hF44 := hB37.chg hC41 (fun hm => by have := List.mem_singleton.1 hm; omega)
          refine q_fldP (p := (.pointer (some ⟨w9.heap.size, 0, none⟩))) (b := w9.heap.size) (o := 0) 3 fd31_3 rfl rfl zN (e_setB (k := 3) (w := w41) sz2 rfl rfl ⟨rfl, rfl⟩ hF44 sM zN fun w45 hC45 hz45 hB45 => ?_)
          replace hB45 : BX w45.heap w9.heap.size [(.int .i64 ((11 : Nat) : Int)), (.int .i64 x9_0), (.int .i64 x22_0), (.int .i64 x41_0), (.slice none 0 0)] := hB45
          have hzs45 : w41.heap.size ≤ w45.heap.size := hC45.size
          have hE45 : Chg [gs, gg] w w45 := hE41.fresh hC45 (fun c hc => by have := List.mem_singleton.1 hc; omega)
          have hF46 := hs41.chg hC45 (fun c hc => by have := List.mem_singleton.1 hc; omega)
          have hF47 := hF42.chg hC45 (fun hm => by have := List.mem_singleton.1 hm; omega)
          have hF48 := hF43.chg hC45 (fun hm => by have := List.mem_singleton.1 hm; omega)
          exact lw_nil ⟨(((11 : Nat) : Int), x41_0, n41), _, rfl, ⟨rfl, rfl, rfl, rfl, rfl, rfl, rfl, trivial⟩, ⟨hE45, hF46, hF47, hF48, hB45, oM, oM⟩⟩
      ·
        exact q_eql false rfl rfl (decide_eq_false hc31) zN (lw_tvn 7 rfl (c_cond_f rfl (wp_skip ⟨(((10 : Nat) : Int), 0, n22), _, rfl, ⟨rfl, rfl, rfl, rfl, rfl, rfl, rfl, trivial⟩, ⟨hE26.drew, hF27, hF28, hF29, hB26, oM, oM⟩⟩)))
    ·
      clear hE0 hz1 hX1 hzs1 hE1 hC9 hzs9 hE9 hF10 hF11 hz13 hX13 hzs13 hE13 hF10x13 hF11x13 hz16 hC16 hzs16 hE16 hF17 hF18 hF19 hln20 hln21 hC22 hzs22 hE22 hF23 hF24 hF25 hz26 hC26 hzs26 hE26 hF27 hF28 hF29
      rintro ⟨k, cnt, m1⟩ ρ30 w30 ⟨hE30, hL30_0, hL30_1, hL30_2, hL30_3, hkc, hm8⟩
      have hzs30 : w.heap.size ≤ w30.heap.size := hE30.size
      have hq49 := hL30_1.lt
      have hq50 := hL30_2.lt
      have hq51 := hL30_3.lt
      refine wp_seq (wp_seq (wp_plain _ [0] rfl (lw_tvn 1 rfl (wp_block ?_))))
      refine c_loop (S := Nat × Int × Nat × Value × List Ex) (fun (⟨i, l, m, vk, xs⟩ : Nat × Int × Nat × Value × List Ex) => ([(11, (.int .i64 ((i : Nat) : Int))), (0, (.pointer (some ⟨gg, 0, none⟩))), (1, (.int .i64 vars)), (2, (.int .i64 funcs)), (3, (.int .i64 ((d : Nat) : Int))), (8, (.pointer (some ⟨w.heap.size, 0, none⟩))), (9, (.pointer (some ⟨w9.heap.size, 0, none⟩))), (10, (eptr ve20 ((x9_0).toNat) 3))] : List (Nat × Value))) (fun (⟨i, l, m, vk, xs⟩ : Nat × Int × Nat × Value × List Ex) (W : World) => Chg [gs, gg] w W ∧ Fr (owS 5 (oEx 31 d) 31) w30.heap.size W.heap.size W.heap vk xs ∧ Src W.heap gs sv cs m ∧ BX W.heap gg [(.pointer (some ⟨gs, 0, none⟩)), pp, (.int .i64 l), (.bool pl)] ∧ BX W.heap w.heap.size [(.int .i64 0), (.int .i64 0), (.int .i64 0), (.int .i64 0), (.slice none 0 0)] ∧ BX W.heap w9.heap.size [(.int .i64 k), (.int .i64 x9_0), (.int .i64 x22_0), (.int .i64 cnt), vk] ∧ ((i : Nat) : Int) ≤ (p.getD (x9_0).toNat Fn.zero).params ∧ KOk p funcs vars pl k d l0 l xs i ∧ (n0 ≤ m ∧ m ≤ n0 + 8 + tmN i (stp (d - 1))) ∧ gg < w30.heap.size ∧ w.heap.size < w30.heap.size ∧ w9.heap.size < w30.heap.size ∧ w30.heap.size ≤ W.heap.size) (fun (⟨i, l, m, vk, xs⟩ : Nat × Int × Nat × Value × List Ex) => (p.getD (x9_0).toNat Fn.zero).params.toNat - i) (0, l0, m1, (.slice none 0 0), ([] : List Ex)) ⟨rfl, rfl, rfl, rfl, rfl, rfl, rfl, rfl, trivial⟩ ⟨hE30, (frNilS _ 0 _).up (good_owS (good_oEx 31 d)), hL30_0, hL30_1, hL30_2, hL30_3, oM, (by exact KOk.nil ..), (by exact ⟨by omega, by show _ ≤ n0 + 8 + 0; omega⟩), oM, oM, oM, oM⟩ ?_
      clear hL30_3 hL30_2 hL30_1 hL30_0
      rintro ⟨i, l, m, vk, xs⟩ ρ55 w55 ⟨hE55, hL55_0, hL55_1, hL55_2, hL55_3, hL55_4, hi4, hko, hmb, hkg52, hkg53, hkg54, hkB56⟩
      have hzs55 : w.heap.size ≤ w55.heap.size := hE55.size
      have hq57 := hL55_2.lt
      have hq58 := hL55_3.lt
      have hq59 := hL55_4.lt
      refine wp_seq (wp_seq (wp_plain _ [0, 0, 0, 0, 2, 0] rfl (lw_tv 2 rfl (q_nilP (RN.isPtr (RN.ptr (good_rFn dp) (by decide) Fn.zero hx20 sD)) rfl zN (q_fldL (p := eptr ve20 ((x9_0).toNat) 3) 1 fd34_1 rfl (hl21 _ hE55) zN (q_load (p := (padd (eptr ve20 ((x9_0).toNat) 3) 1)) (.inr rfl) (.int .i64 ((p.getD ((x9_0).toNat) Fn.zero).params)) one2 rfl ((hl21 _ hE55).ld (i := 1) (by simp [exC, fnC])) zN ?_))))))
      by_cases hc60 : ((i : Nat) : Int) < (p.getD ((x9_0).toNat) Fn.zero).params
      ·
        refine q_lss true rfl rfl (decide_eq_true hc60) zN (lw_nil (c_cond_t rfl (wp_skip (wp_seq (wp_block ?_)))))
        letI : JR := jrC [gs, gg]
        refine Jx.wp_draw _ [0, 1, 0, 0, 0, 0, 0, 3, 3, 4, 0, 4] mixed (by kernel_rfl) ?_
        have htn := tmN_4 (k := stp (d - 1)) (i := i + 1) oM
        have hts : tmN (i + 1) (stp (d - 1)) = tmN i (stp (d - 1)) + stp (d - 1) := rfl
        have hti := tmI_4 (k := nds (d - 1)) (i := i) oM oM
        have hlo := hko.lo
        have hln := hko.len
        refine Jx.q_fldP (p := (.pointer (some ⟨w9.heap.size, 0, none⟩))) (b := w9.heap.size) (o := 0) 4 fd31_4 rfl rfl zN (Jx.q_loadJ (p := (padd (.pointer (some ⟨w9.heap.size, 0, none⟩)) 4)) vk one29 rfl (fun wj hj => (BX.chg (w := w55.drew) (F := [gs, gg]) hL55_4 hj (fun hm => by have := mem2 hm; omega)).ldp (i := 4) sM) zN (Jx.q_move (.pointer (some ⟨gg, 0, none⟩)) rfl zN (Jx.q_move (.int .i64 vars) rfl zN (Jx.q_move (.int .i64 funcs) rfl zN (Jx.q_move (.int .i64 ((d : Nat) : Int)) rfl zN (Jx.j1 (q_sub ((d - 1 : Nat) : Int) rfl rfl (by rw [w64 oM oM]; omega) zN (lw_nil ?_))))))))
        refine Jx.lw_call 70 [] [] [(.pointer (some ⟨gg, 0, none⟩)), (.int .i64 vars), (.int .i64 funcs), (.int .i64 ((d - 1 : Nat) : Int))] rfl rfl cf70 zN (IH _ gg gs sv cs m pp dp l pl p (vars) (funcs) oM hL55_1 hL55_2 (hp.chg (good_rP (good_rPr dp)) hE55.drew) _hvars _hfuncs oM oM (by exact hpr) oM oM oM) ?_
        rintro e61 w61 ⟨v61, x61, n61, l61, rfl, hC61, hs61, hb61, hB61, hO61, hr61, hG61⟩
        refine ⟨_, rfl, hC61, ?_⟩
        replace hO61 := hO61.low (B' := w55.heap.size) (Nat.le_refl _)
        replace hC61 := hC61.of_drew
        have hzs61 : w55.heap.size ≤ w61.heap.size := hC61.size
        have hE61 : Chg [gs, gg] w w61 := hE55.trans hC61
        have hF62 := hL55_0.chg ((good_owS (good_oEx 31 d))) hC61 (fun c hc => by have := mem2 hc; omega)
        have hF63 := hL55_3.chg hC61 (fun hm => by have := mem2 hm; omega)
        have hF64 := hL55_4.chg hC61 (fun hm => by have := mem2 hm; omega)
        refine Jx.tail rfl (r_oneS (cs := [(.int .i64 x61.kind), (.int .i64 x61.num), (.int .i64 x61.pick), (.int .i64 x61.count), v61]) (y := x61) (B := w55.heap.size) (good_oEx 31 d) u29 tiS31 rfl (by decide) rfl (FrN.mk1 oM hr61 hO61) oM zN fun v65 w65 hX65 hz65 hO65 => ?_)
        have hzs65 : w61.heap.size ≤ w65.heap.size := hX65.size
        have hE65 : Chg [gs, gg] w w65 := hE61.ext hX65
        have hF62x65 := hF62.ext ((good_owS (good_oEx 31 d))) hX65
        have hs61x65 := hs61.ext hX65
        have hB61x65 := hB61.ext hX65
        have hF63x65 := hF63.ext hX65
        have hF64x65 := hF64.ext hX65
        refine e_appS (v := vk) (a := v65) (good_oEx 31 d) u29 tiS31 rfl (by decide) rfl rfl hF62x65 oM hO65 oM oM oM (by unfold maxLen; omega) zN fun v66 w66 F66 hC66 hF66 hO66 => ?_
        have hzs66 : w65.heap.size ≤ w66.heap.size := hC66.size
        have hE66 : Chg [gs, gg] w w66 := hE65.fresh hC66 (fun c hc => by have := hF66 _ hc; omega)
        have hF67 := hs61x65.chg hC66 (fun c hc => by have := hF66 _ hc; omega)
        have hF68 := hB61x65.chg hC66 (fun hm => by have := hF66 _ hm; omega)
        have hF69 := hF63x65.chg hC66 (fun hm => by have := hF66 _ hm; omega)
        have hF70 := hF64x65.chg hC66 (fun hm => by have := hF66 _ hm; omega)
        refine q_fldP (p := (.pointer (some ⟨w9.heap.size, 0, none⟩))) (b := w9.heap.size) (o := 0) 4 fd31_4 rfl rfl zN (e_setB (k := 4) (w := w66) sz29 rfl rfl (isSl_one hO66.isSlS) hF70 sM zN fun w71 hC71 hz71 hB71 => ?_)
        replace hB71 : BX w71.heap w9.heap.size [(.int .i64 k), (.int .i64 x9_0), (.int .i64 x22_0), (.int .i64 cnt), v66] := hB71
        have hzs71 : w66.heap.size ≤ w71.heap.size := hC71.size
        have hE71 : Chg [gs, gg] w w71 := hE66.fresh hC71 (fun c hc => by have := List.mem_singleton.1 hc; omega)
        have hF72 := hF67.chg hC71 (fun c hc => by have := List.mem_singleton.1 hc; omega)
        have hF73 := hF68.chg hC71 (fun hm => by have := List.mem_singleton.1 hm; omega)
        have hF74 := hF69.chg hC71 (fun hm => by have := List.mem_singleton.1 hm; omega)
        have hF75 := hO66.chg ((good_owS (good_oEx 31 d))) hC71 (fun c hc => by have := List.mem_singleton.1 hc; omega)
        exact lw_nil (wp_plain _ [0, 0, 0] rfl (lw_tv 1 rfl (q_add ((i + 1 : Nat) : Int) rfl rfl (w64n oM oM) zN (lw_tvn 1 rfl ⟨((i + 1), l61, n61, v66, (xs ++ [x61])), _, rfl, ⟨rfl, rfl, rfl, rfl, rfl, rfl, rfl, rfl, trivial⟩, ⟨hE71, hF75.up (good_owS (good_oEx 31 d)), hF72, hF73, hF74, hB71, oM, (by exact hko.snoc oM (by rw [if_neg oM]) (by assumption)), oM, oM, oM, oM, oM⟩, by first | omega | (dsimp only; omega)⟩))))
      ·
        refine q_lss false rfl rfl (decide_eq_false hc60) zN (lw_nil (c_cond_f rfl (wp_exit (t_exit (t_exit (c_exit_here (wp_seq (wp_plain _ [2, 4] rfl (q_loadA (p := (.pointer (some ⟨w9.heap.size, 0, none⟩))) (.inr rfl) [(.int .i64 k), (.int .i64 x9_0), (.int .i64 x22_0), (.int .i64 cnt), vk] agg31 rfl (fun wq9 hw9 => LD.of_box (BX.ext (w := w55) hL55_4 hw9)) rfl zN (e_setA (vs := [(.int .i64 k), (.int .i64 x9_0), (.int .i64 x22_0), (.int .i64 cnt), vk]) agg31 rfl rfl (by intro u hu; simp only [List.mem_cons, List.not_mem_nil, or_false] at hu; rcases hu with rfl | rfl | rfl | rfl | rfl <;> first | exact ⟨rfl, rfl⟩ | exact isSl_one hL55_0.isSlS) hL55_3 rfl rfl zN fun w76 hC76 hz76 hB76 => ?_))))))))))
        replace hB76 : BX w76.heap w.heap.size [(.int .i64 k), (.int .i64 x9_0), (.int .i64 x22_0), (.int .i64 cnt), vk] := hB76
        have hzs76 : w55.heap.size ≤ w76.heap.size := hC76.size
        have hE76 : Chg [gs, gg] w w76 := hE55.fresh hC76 (fun c hc => by have := List.mem_singleton.1 hc; omega)
        have hF77 := hL55_0.chg ((good_owS (good_oEx 31 d))) hC76 (fun c hc => by have := List.mem_singleton.1 hc; omega)
        have hF78 := hL55_1.chg hC76 (fun c hc => by have := List.mem_singleton.1 hc; omega)
        have hF79 := hL55_2.chg hC76 (fun hm => by have := List.mem_singleton.1 hm; omega)
        have hF80 := hL55_4.chg hC76 (fun hm => by have := List.mem_singleton.1 hm; omega)
        refine lw_nil (wp_ret ?_)
        have hln := hko.len
        have htn := tmN_4 (k := stp (d - 1)) (i := i) oM
        exact post_retA (cs := [(.int .i64 k), (.int .i64 x9_0), (.int .i64 x22_0), (.int .i64 cnt), vk]) rfl agg31 rfl hB76 rfl ⟨vk, (.mk k x9_0 x22_0 cnt xs), m, l, rfl, hE76, hF78, ⟨by omega, by omega⟩, hF79, ((hF77.up (good_owS (good_oEx 31 d))).low (B' := w.heap.size) oM), (exR_mk oM oM oM oM), (by exact hko.node1 oM oM oM (fun _ => by omega) (wfN_cl hkc oM oM oM))⟩
theorem z70_0 {p : Prop} (h : p := by intro u hu; simp only [List.mem_cons, List.not_mem_nil, or_false] at hu; rcases hu with rfl | rfl | rfl | rfl | rfl <;> first | exact ⟨rfl, rfl⟩) : p := h
theorem z70_1 {p : Prop} (h : p := by exact hko.snoc oM (by first | rw [if_pos oM] | rw [if_neg oM]) (by assumption)) : p := h
theorem z70_2 {p : Prop} (h : p := by intro hpl; first | omega | (simp_all; omega) | simp_all) : p := h
theorem c_spec_l02Gen_expr (w : World) (gg gs : Nat) (sv : Value) (cs : List UInt8) (n0 : Nat) (pp : Value) (dp : Nat) (l0 : Int) (pl : Bool) (p : List Fn) (vars : Int) (funcs : Int) (d : Nat) (hgg : gs < gg) (hs : Src w.heap gs sv cs n0) (hB0 : BX w.heap gg [.pointer (some ⟨gs, 0, none⟩), pp, .int .i64 l0, .bool pl]) (hp : RN [gs, gg] (rP (rPr dp)) w.heap pp p) (_hvars : -9223372036854775808 ≤ vars ∧ vars ≤ 9223372036854775807) (_hfuncs : -9223372036854775808 ≤ funcs ∧ funcs ≤ 9223372036854775807) (hv : 0 ≤ vars ∧ vars + ((d : Nat) : Int) ≤ 1000) (hfu : 0 ≤ funcs ∧ funcs ≤ ((p.length : Nat) : Int)) (hpr : GPr p) (hd : d ≤ 8) (hn : n0 + stp d ≤ 1000000000000) (hl : nds d - 1000000 ≤ l0 ∧ l0 ≤ 1000) (IH1 : ∀ d', d' < d → GX d') (IH2 : 1 ≤ d → GC d) :
    Calls Try.prog 70 #[.pointer (some ⟨gg, 0, none⟩), .int .i64 vars, .int .i64 funcs, .int .i64 ((d : Nat) : Int)] w (fun e w' => ∃ (v : Value) (ex : Ex) (n1 : Nat) (l1 : Int), e = .returned (.agg #[.int .i64 ex.kind, .int .i64 ex.num, .int .i64 ex.pick, .int .i64 ex.count, v]) ∧ Chg [gs, gg] w w' ∧ Src w'.heap gs sv cs n1 ∧ (n0 ≤ n1 ∧ n1 ≤ n0 + (stp d)) ∧ BX w'.heap gg [.pointer (some ⟨gs, 0, none⟩), pp, .int .i64 l1, .bool pl] ∧ Fr (owS 5 (oEx 31 d) 31) w.heap.size w'.heap.size w'.heap v ex.kids ∧ exR ex ∧ GOk p funcs vars pl d l0 l1 ex) := by
  refine calls_mk [.pointer (some ⟨gg, 0, none⟩), .int .i64 vars, .int .i64 funcs, .int .i64 ((d : Nat) : Int)] 117 Try.func70 rfl rfl sM ?_
  have hE0 : Chg [gs, gg] w w := Chg.refl [gs, gg] w
  have hgl := hs.lt
  have hgl2 := hB0.lt
  have hst := stp_20 d
  have hnd := nds_pos d
  have hnl := nds_le (d := d) oM
  refine wp_seq (wp_plain _ [3] rfl ?_)
  have hq2 := hB0.lt
  refine r_allocA (z := .agg #[.int .i64 0, .int .i64 0, .int .i64 0, .int .i64 0, .slice none 0 0]) zr31 zN fun w1 hX1 hz1 hB1 => ?_
  have hzs1 : w.heap.size ≤ w1.heap.size := hX1.size
  have hE1 : Chg [gs, gg] w w1 := hE0.ext hX1
  have hsx1 := hs.ext hX1
  have hB0x1 := hB0.ext hX1
  replace hB1 : BX w1.heap w.heap.size [(.int .i64 0), (.int .i64 0), (.int .i64 0), (.int .i64 0), (.slice none 0 0)] := hB1
  refine lw_nil (wp_seq (wp_plain _ [0, 0, 0, 2, 0, 0, 0, 4] rfl (lw_tv 1 rfl (q_nil rfl zN (q_fldP (p := (.pointer (some ⟨gg, 0, none⟩))) (b := gg) (o := 0) 2 fd102_2 rfl rfl zN (q_load (p := (padd (.pointer (some ⟨gg, 0, none⟩)) 2)) (.inr rfl) (.int .i64 l0) one2 rfl (hB0x1.ldp (i := 2) sM) zN ?_))))))
  refine q_sub (l0 - ((1 : Nat) : Int)) rfl rfl (w64 sD sD) zN (q_nil rfl zN ?_)
  refine q_fldP (p := (.pointer (some ⟨gg, 0, none⟩))) (b := gg) (o := 0) 2 fd102_2 rfl rfl zN (e_setB (k := 2) (w := w1) sz2 rfl rfl ⟨rfl, rfl⟩ hB0x1 sM zN fun w3 hC3 hz3 hB3 => ?_)
  replace hB3 : BX w3.heap gg [(.pointer (some ⟨gs, 0, none⟩)), pp, (.int .i64 (l0 - ((1 : Nat) : Int))), (.bool pl)] := hB3
  have hzs3 : w1.heap.size ≤ w3.heap.size := hC3.size
  have hE3 : Chg [gs, gg] w w3 := hE1.trans (hC3.sub sub_gg)
  have hF4 := hsx1.chg hC3 (fun c hc => by have := List.mem_singleton.1 hc; omega)
  have hF5 := hB1.chg hC3 (fun hm => by have := List.mem_singleton.1 hm; omega)
  refine lw_nil (wp_seq (wp_seq (wp_plain _ [0, 0, 0, 2, 0, 0, 0, 0, 0, 0, 0, 0, 0, 2, 4, 0] rfl (lw_tv 1 rfl (q_nil rfl zN (q_fldP (p := (.pointer (some ⟨gg, 0, none⟩))) (b := gg) (o := 0) 2 fd102_2 rfl rfl zN (q_load (p := (padd (.pointer (some ⟨gg, 0, none⟩)) 2)) (.inr rfl) (.int .i64 (l0 - ((1 : Nat) : Int))) one2 rfl (hB3.ldp (i := 2) sM) zN ?_)))))))
  by_cases hc6 : l0 - ((1 : Nat) : Int) < ((1 : Nat) : Int)
  ·
    refine q_lss true rfl rfl (decide_eq_true hc6) zN (lw_tvn 11 rfl (c_cond_t rfl (wp_seq (wp_plain _ [0, 0, 4, 4] rfl (lw_tv 2 rfl (lw_callE 107 [] [] [(.pointer (some ⟨gg, 0, none⟩)), (.int .i64 vars)] rfl rfl cf107 zN (c_spec_l02Gen_leaf _ gg gs sv cs n0 pp dp (l0 - ((1 : Nat) : Int)) pl p (vars) oM hF4 hB3 (hp.chg (good_rP (good_rPr dp)) hE3) _hvars oM oM) ?_))))))
    rintro e7 w7 ⟨x7, n7, rfl, hC7, hs7, hb7, hB7, hr7, hkd7, hG7⟩
    refine ⟨_, rfl, ?_⟩
    have hzs7 : w3.heap.size ≤ w7.heap.size := hC7.size
    have hE7 : Chg [gs, gg] w w7 := hE3.trans hC7
    have hF8 := hF5.chg hC7 (fun hm => by have := mem2 hm; omega)
    refine e_setA (vs := [(.int .i64 x7.kind), (.int .i64 x7.num), (.int .i64 x7.pick), (.int .i64 x7.count), (.slice none 0 0)]) agg31 rfl rfl z70_0 hF8 rfl rfl zN fun w9 hC9 hz9 hB9 => ?_
    replace hB9 : BX w9.heap w.heap.size [(.int .i64 x7.kind), (.int .i64 x7.num), (.int .i64 x7.pick), (.int .i64 x7.count), (.slice none 0 0)] := hB9
    have hzs9 : w7.heap.size ≤ w9.heap.size := hC9.size
    have hE9 : Chg [gs, gg] w w9 := hE7.fresh hC9 (fun c hc => by have := List.mem_singleton.1 hc; omega)
    have hF10 := hs7.chg hC9 (fun c hc => by have := List.mem_singleton.1 hc; omega)
    have hF11 := hB7.chg hC9 (fun hm => by have := List.mem_singleton.1 hm; omega)
    exact lw_nil (wp_ret (t_ret (post_retA (cs := [(.int .i64 x7.kind), (.int .i64 x7.num), (.int .i64 x7.pick), (.int .i64 x7.count), (.slice none 0 0)]) rfl agg31 rfl hB9 rfl ⟨(.slice none 0 0), x7, n7, (l0 - ((1 : Nat) : Int)), rfl, hE9, hF10, ⟨by omega, by omega⟩, hF11, (by rw [hkd7]; exact frNilS _ _ _), hr7, (by exact LOk.ok (by assumption) d)⟩)))
  ·
    refine q_lss false rfl rfl (decide_eq_false hc6) zN (lw_tv 2 rfl ?_)
    by_cases hc12 : ((d : Nat) : Int) < ((1 : Nat) : Int)
    ·
      refine q_lss true rfl rfl (decide_eq_true hc12) (zS (e := 24) rfl rfl rfl) (lw_tvn 8 rfl (c_cond_t rfl (wp_seq (wp_plain _ [0, 0, 4, 4] rfl (lw_tv 2 rfl (lw_callE 107 [] [] [(.pointer (some ⟨gg, 0, none⟩)), (.int .i64 vars)] rfl rfl cf107 zN (c_spec_l02Gen_leaf _ gg gs sv cs n0 pp dp (l0 - ((1 : Nat) : Int)) pl p (vars) oM hF4 hB3 (hp.chg (good_rP (good_rPr dp)) hE3) _hvars oM oM) ?_))))))
      rintro e13 w13 ⟨x13, n13, rfl, hC13, hs13, hb13, hB13, hr13, hkd13, hG13⟩
      refine ⟨_, rfl, ?_⟩
      have hzs13 : w3.heap.size ≤ w13.heap.size := hC13.size
      have hE13 : Chg [gs, gg] w w13 := hE3.trans hC13
      have hF14 := hF5.chg hC13 (fun hm => by have := mem2 hm; omega)
      refine e_setA (vs := [(.int .i64 x13.kind), (.int .i64 x13.num), (.int .i64 x13.pick), (.int .i64 x13.count), (.slice none 0 0)]) agg31 rfl rfl z70_0 hF14 rfl rfl zN fun w15 hC15 hz15 hB15 => ?_
      replace hB15 : BX w15.heap w.heap.size [(.int .i64 x13.kind), (.int .i64 x13.num), (.int .i64 x13.pick), (.int .i64 x13.count), (.slice none 0 0)] := hB15
      have hzs15 : w13.heap.size ≤ w15.heap.size := hC15.size
      have hE15 : Chg [gs, gg] w w15 := hE13.fresh hC15 (fun c hc => by have := List.mem_singleton.1 hc; omega)
      have hF16 := hs13.chg hC15 (fun c hc => by have := List.mem_singleton.1 hc; omega)
      have hF17 := hB13.chg hC15 (fun hm => by have := List.mem_singleton.1 hm; omega)
      exact lw_nil (wp_ret (t_ret (post_retA (cs := [(.int .i64 x13.kind), (.int .i64 x13.num), (.int .i64 x13.pick), (.int .i64 x13.count), (.slice none 0 0)]) rfl agg31 rfl hB15 rfl ⟨(.slice none 0 0), x13, n13, (l0 - ((1 : Nat) : Int)), rfl, hE15, hF16, ⟨by omega, by omega⟩, hF17, (by rw [hkd13]; exact frNilS _ _ _), hr13, (by exact LOk.ok (by assumption) d)⟩)))
    ·
      refine q_lss false rfl rfl (decide_eq_false hc12) (zS (e := 24) rfl rfl rfl) (lw_tv 3 rfl (q_nil rfl (zS (e := 28) rfl rfl rfl) (q_fldP (p := (.pointer (some ⟨gg, 0, none⟩))) (b := gg) (o := 0) 0 fd102_0 rfl rfl (zS (e := 28) rfl rfl rfl) (q_load (p := (padd (.pointer (some ⟨gg, 0, none⟩)) 0)) (.inr rfl) (.pointer (some ⟨gs, 0, none⟩)) one72 rfl (hB3.ldp (i := 0) sM) (zS (e := 28) rfl rfl rfl) ?_))))
      refine lw_callE 39 [] [] [(.pointer (some ⟨gs, 0, none⟩)), (.int .i64 ((5 : Nat) : Int))] rfl rfl cf39 (zS (e := 28) rfl rfl rfl) (c_spec_l00Src_one _ gs _ _ _ (((5 : Nat) : Int)) hF4 oM oM sD) ?_
      rintro e18 w18 ⟨x18_0, n18, rfl, hC18, hs18, hb18, hp18_0⟩
      refine ⟨_, rfl, ?_⟩
      have hzs18 : w3.heap.size ≤ w18.heap.size := hC18.size
      have hE18 : Chg [gs, gg] w w18 := hE3.trans (hC18.sub sub_gs)
      have hF19 := hB3.chg hC18 (fun hm => by have := List.mem_singleton.1 hm; omega)
      have hF20 := hF5.chg hC18 (fun hm => by have := List.mem_singleton.1 hm; omega)
      refine lw_tvn 1 rfl ?_
      cases hb21 : x18_0
      ·
        refine c_cond_f (by first | rfl | (show Value.bool _ = _; rw [hb21])) (wp_skip (wp_seq (wp_plain _ [0, 3, 4] rfl ?_)))
        have hnds := nds_s (d := d) oM
        have hstp := stp_s (d := d) oM
        have hst1 := stp_20 (d - 1)
        have hnd1 := nds_pos (d - 1)
        have hbd22 : ∀ (wq : World), (Instr.build 31 #[]).run Try.prog wq = .ok (.agg #[(.int .i64 0), (.int .i64 0), (.int .i64 0), (.int .i64 0), (.slice none 0 0)]) wq := by intro wq; kernel_rfl
        refine q_build (ps := #[]) (.agg #[(.int .i64 0), (.int .i64 0), (.int .i64 0), (.int .i64 0), (.slice none 0 0)]) (by simp only [List.map_toArray, List.map_cons, List.map_nil]) (fun wq => hbd22  wq) zN ?_
        have hq24 := hF19.lt
        have hq25 := hF20.lt
        refine r_allocA (z := .agg #[.int .i64 0, .int .i64 0, .int .i64 0, .int .i64 0, .slice none 0 0]) zr31 zN fun w23 hX23 hz23 hB23 => ?_
        have hzs23 : w18.heap.size ≤ w23.heap.size := hX23.size
        have hE23 : Chg [gs, gg] w w23 := hE18.ext hX23
        have hs18x23 := hs18.ext hX23
        have hF19x23 := hF19.ext hX23
        have hF20x23 := hF20.ext hX23
        replace hB23 : BX w23.heap w18.heap.size [(.int .i64 0), (.int .i64 0), (.int .i64 0), (.int .i64 0), (.slice none 0 0)] := hB23
        refine e_setA (vs := [(.int .i64 0), (.int .i64 0), (.int .i64 0), (.int .i64 0), (.slice none 0 0)]) agg31 rfl rfl z70_0 hB23 rfl rfl zN fun w26 hC26 hz26 hB26 => ?_
        replace hB26 : BX w26.heap w18.heap.size [(.int .i64 0), (.int .i64 0), (.int .i64 0), (.int .i64 0), (.slice none 0 0)] := hB26
        have hzs26 : w23.heap.size ≤ w26.heap.size := hC26.size
        have hE26 : Chg [gs, gg] w w26 := hE23.fresh hC26 (fun c hc => by have := List.mem_singleton.1 hc; omega)
        have hF27 := hs18x23.chg hC26 (fun c hc => by have := List.mem_singleton.1 hc; omega)
        have hF28 := hF19x23.chg hC26 (fun hm => by have := List.mem_singleton.1 hm; omega)
        have hF29 := hF20x23.chg hC26 (fun hm => by have := List.mem_singleton.1 hm; omega)
        refine lw_nil (wp_seq (c_cut (S := Int × Nat) (fun (⟨k, m1⟩ : Int × Nat) => ([(0, (.pointer (some ⟨gg, 0, none⟩))), (1, (.int .i64 vars)), (2, (.int .i64 funcs)), (3, (.int .i64 ((d : Nat) : Int))), (8, (.pointer (some ⟨w.heap.size, 0, none⟩))), (9, (.pointer (some ⟨w18.heap.size, 0, none⟩)))] : List (Nat × Value))) (fun (⟨k, m1⟩ : Int × Nat) (W : World) => Chg [gs, gg] w W ∧ Src W.heap gs sv cs m1 ∧ BX W.heap gg [(.pointer (some ⟨gs, 0, none⟩)), pp, (.int .i64 (l0 - ((1 : Nat) : Int))), (.bool pl)] ∧ BX W.heap w.heap.size [(.int .i64 0), (.int .i64 0), (.int .i64 0), (.int .i64 0), (.slice none 0 0)] ∧ BX W.heap w18.heap.size [(.int .i64 k), (.int .i64 0), (.int .i64 0), (.int .i64 0), (.slice none 0 0)] ∧ (k = 3 ∨ k = 4 ∨ k = 5 ∨ k = 6 ∨ k = 7 ∨ k = 8 ∨ k = 9) ∧ (n0 ≤ m1 ∧ m1 ≤ n0 + 4)) ?_ ?_))
        ·
          refine wp_seq (wp_plain _ [0, 0, 0, 2, 4] rfl (lw_tv 1 rfl (q_nil rfl zN (q_fldP (p := (.pointer (some ⟨gg, 0, none⟩))) (b := gg) (o := 0) 0 fd102_0 rfl rfl zN (q_load (p := (padd (.pointer (some ⟨gg, 0, none⟩)) 0)) (.inr rfl) (.pointer (some ⟨gs, 0, none⟩)) one72 rfl (hF28.ldp (i := 0) sM) zN ?_)))))
          refine lw_callE 37 [] [] [(.pointer (some ⟨gs, 0, none⟩)), (.int .i64 ((12 : Nat) : Int))] rfl rfl cf37 zN (c_spec_l00Src_pick _ gs _ _ _ (((12 : Nat) : Int)) hF27 oM oM sD) ?_
          rintro e31 w31 ⟨x31_0, n31, rfl, hC31, hs31, hb31, hp31_0⟩
          refine ⟨_, rfl, ?_⟩
          have hzs31 : w26.heap.size ≤ w31.heap.size := hC31.size
          have hE31 : Chg [gs, gg] w w31 := hE26.trans (hC31.sub sub_gs)
          have hF32 := hF28.chg hC31 (fun hm => by have := List.mem_singleton.1 hm; omega)
          have hF33 := hF29.chg hC31 (fun hm => by have := List.mem_singleton.1 hm; omega)
          have hF34 := hB26.chg hC31 (fun hm => by have := List.mem_singleton.1 hm; omega)
          refine lw_nil (wp_block (wp_seq (wp_plain _ [0, 0] rfl ?_)))
          by_cases hc35 : x31_0 = ((0 : Nat) : Int)
          ·
            refine q_eql true rfl rfl (decide_eq_true hc35) zN (lw_tvn 1 rfl (c_cond_t rfl (wp_plain _ [0, 4] rfl (q_fldP (p := (.pointer (some ⟨w18.heap.size, 0, none⟩))) (b := w18.heap.size) (o := 0) 0 fd31_0 rfl rfl zN (e_setB (k := 0) (w := w31) sz2 rfl rfl ⟨rfl, rfl⟩ hF34 sM zN fun w36 hC36 hz36 hB36 => ?_)))))
            replace hB36 : BX w36.heap w18.heap.size [(.int .i64 ((7 : Nat) : Int)), (.int .i64 0), (.int .i64 0), (.int .i64 0), (.slice none 0 0)] := hB36
            have hzs36 : w31.heap.size ≤ w36.heap.size := hC36.size
            have hE36 : Chg [gs, gg] w w36 := hE31.fresh hC36 (fun c hc => by have := List.mem_singleton.1 hc; omega)
            have hF37 := hs31.chg hC36 (fun c hc => by have := List.mem_singleton.1 hc; omega)
            have hF38 := hF32.chg hC36 (fun hm => by have := List.mem_singleton.1 hm; omega)
            have hF39 := hF33.chg hC36 (fun hm => by have := List.mem_singleton.1 hm; omega)
            exact lw_nil ⟨(((7 : Nat) : Int), n31), _, rfl, ⟨rfl, rfl, rfl, rfl, rfl, rfl, trivial⟩, ⟨hE36, hF37, hF38, hF39, hB36, oM, oM⟩⟩
          ·
            refine q_eql false rfl rfl (decide_eq_false hc35) zN (lw_tvn 1 rfl (c_cond_f rfl (wp_seq (wp_plain _ [0, 0] rfl ?_))))
            by_cases hc40 : x31_0 = ((1 : Nat) : Int)
            ·
              refine q_eql true rfl rfl (decide_eq_true hc40) zN (lw_tvn 1 rfl (c_cond_t rfl (wp_plain _ [0, 4] rfl (q_fldP (p := (.pointer (some ⟨w18.heap.size, 0, none⟩))) (b := w18.heap.size) (o := 0) 0 fd31_0 rfl rfl zN (e_setB (k := 0) (w := w31) sz2 rfl rfl ⟨rfl, rfl⟩ hF34 sM zN fun w41 hC41 hz41 hB41 => ?_)))))
              replace hB41 : BX w41.heap w18.heap.size [(.int .i64 ((9 : Nat) : Int)), (.int .i64 0), (.int .i64 0), (.int .i64 0), (.slice none 0 0)] := hB41
              have hzs41 : w31.heap.size ≤ w41.heap.size := hC41.size
              have hE41 : Chg [gs, gg] w w41 := hE31.fresh hC41 (fun c hc => by have := List.mem_singleton.1 hc; omega)
              have hF42 := hs31.chg hC41 (fun c hc => by have := List.mem_singleton.1 hc; omega)
              have hF43 := hF32.chg hC41 (fun hm => by have := List.mem_singleton.1 hm; omega)
              have hF44 := hF33.chg hC41 (fun hm => by have := List.mem_singleton.1 hm; omega)
              exact lw_nil ⟨(((9 : Nat) : Int), n31), _, rfl, ⟨rfl, rfl, rfl, rfl, rfl, rfl, trivial⟩, ⟨hE41, hF42, hF43, hF44, hB41, oM, oM⟩⟩
            ·
              refine q_eql false rfl rfl (decide_eq_false hc40) zN (lw_tvn 1 rfl (c_cond_f rfl (wp_seq (wp_plain _ [0, 0] rfl ?_))))
              by_cases hc45 : x31_0 = ((2 : Nat) : Int)
              ·
                refine q_eql true rfl rfl (decide_eq_true hc45) zN (lw_tvn 1 rfl (c_cond_t rfl (wp_plain _ [0, 4] rfl (q_fldP (p := (.pointer (some ⟨w18.heap.size, 0, none⟩))) (b := w18.heap.size) (o := 0) 0 fd31_0 rfl rfl zN (e_setB (k := 0) (w := w31) sz2 rfl rfl ⟨rfl, rfl⟩ hF34 sM zN fun w46 hC46 hz46 hB46 => ?_)))))
                replace hB46 : BX w46.heap w18.heap.size [(.int .i64 ((8 : Nat) : Int)), (.int .i64 0), (.int .i64 0), (.int .i64 0), (.slice none 0 0)] := hB46
                have hzs46 : w31.heap.size ≤ w46.heap.size := hC46.size
                have hE46 : Chg [gs, gg] w w46 := hE31.fresh hC46 (fun c hc => by have := List.mem_singleton.1 hc; omega)
                have hF47 := hs31.chg hC46 (fun c hc => by have := List.mem_singleton.1 hc; omega)
                have hF48 := hF32.chg hC46 (fun hm => by have := List.mem_singleton.1 hm; omega)
                have hF49 := hF33.chg hC46 (fun hm => by have := List.mem_singleton.1 hm; omega)
                exact lw_nil ⟨(((8 : Nat) : Int), n31), _, rfl, ⟨rfl, rfl, rfl, rfl, rfl, rfl, trivial⟩, ⟨hE46, hF47, hF48, hF49, hB46, oM, oM⟩⟩
              ·
                refine q_eql false rfl rfl (decide_eq_false hc45) zN (lw_tvn 1 rfl (c_cond_f rfl (wp_seq (wp_plain _ [0, 0] rfl ?_))))
                by_cases hc50 : x31_0 = ((3 : Nat) : Int)
                ·
                  refine q_eql true rfl rfl (decide_eq_true hc50) zN (lw_tvn 1 rfl (c_cond_t rfl (wp_plain _ [0, 4] rfl (q_fldP (p := (.pointer (some ⟨w18.heap.size, 0, none⟩))) (b := w18.heap.size) (o := 0) 0 fd31_0 rfl rfl zN (e_setB (k := 0) (w := w31) sz2 rfl rfl ⟨rfl, rfl⟩ hF34 sM zN fun w51 hC51 hz51 hB51 => ?_)))))
                  replace hB51 : BX w51.heap w18.heap.size [(.int .i64 ((6 : Nat) : Int)), (.int .i64 0), (.int .i64 0), (.int .i64 0), (.slice none 0 0)] := hB51
                  have hzs51 : w31.heap.size ≤ w51.heap.size := hC51.size
                  have hE51 : Chg [gs, gg] w w51 := hE31.fresh hC51 (fun c hc => by have := List.mem_singleton.1 hc; omega)
                  have hF52 := hs31.chg hC51 (fun c hc => by have := List.mem_singleton.1 hc; omega)
                  have hF53 := hF32.chg hC51 (fun hm => by have := List.mem_singleton.1 hm; omega)
                  have hF54 := hF33.chg hC51 (fun hm => by have := List.mem_singleton.1 hm; omega)
                  exact lw_nil ⟨(((6 : Nat) : Int), n31), _, rfl, ⟨rfl, rfl, rfl, rfl, rfl, rfl, trivial⟩, ⟨hE51, hF52, hF53, hF54, hB51, oM, oM⟩⟩
                ·
                  refine q_eql false rfl rfl (decide_eq_false hc50) zN (lw_tvn 1 rfl (c_cond_f rfl (wp_seq (wp_seq (wp_plain _ [0, 0] rfl ?_)))))
                  by_cases hc55 : x31_0 = ((4 : Nat) : Int)
                  ·
                    refine q_eql true rfl rfl (decide_eq_true hc55) zN (lw_tvn 1 rfl (c_cond_t rfl (wp_skip (c_cond_t rfl (wp_plain _ [0, 4] rfl (q_fldP (p := (.pointer (some ⟨w18.heap.size, 0, none⟩))) (b := w18.heap.size) (o := 0) 0 fd31_0 rfl rfl zN (e_setB (k := 0) (w := w31) sz2 rfl rfl ⟨rfl, rfl⟩ hF34 sM zN fun w56 hC56 hz56 hB56 => ?_)))))))
                    replace hB56 : BX w56.heap w18.heap.size [(.int .i64 ((3 : Nat) : Int)), (.int .i64 0), (.int .i64 0), (.int .i64 0), (.slice none 0 0)] := hB56
                    have hzs56 : w31.heap.size ≤ w56.heap.size := hC56.size
                    have hE56 : Chg [gs, gg] w w56 := hE31.fresh hC56 (fun c hc => by have := List.mem_singleton.1 hc; omega)
                    have hF57 := hs31.chg hC56 (fun c hc => by have := List.mem_singleton.1 hc; omega)
                    have hF58 := hF32.chg hC56 (fun hm => by have := List.mem_singleton.1 hm; omega)
                    have hF59 := hF33.chg hC56 (fun hm => by have := List.mem_singleton.1 hm; omega)
                    exact lw_nil ⟨(((3 : Nat) : Int), n31), _, rfl, ⟨rfl, rfl, rfl, rfl, rfl, rfl, trivial⟩, ⟨hE56, hF57, hF58, hF59, hB56, oM, oM⟩⟩
                  ·
                    refine q_eql false rfl rfl (decide_eq_false hc55) zN (lw_tvn 1 rfl (c_cond_f rfl (wp_plain _ [0, 0] rfl ?_)))
                    by_cases hc60 : x31_0 = ((5 : Nat) : Int)
                    ·
                      refine q_eql true rfl rfl (decide_eq_true hc60) zN (lw_tvn 1 rfl (c_cond_t rfl (wp_plain _ [0, 4] rfl (q_fldP (p := (.pointer (some ⟨w18.heap.size, 0, none⟩))) (b := w18.heap.size) (o := 0) 0 fd31_0 rfl rfl zN (e_setB (k := 0) (w := w31) sz2 rfl rfl ⟨rfl, rfl⟩ hF34 sM zN fun w61 hC61 hz61 hB61 => ?_)))))
                      replace hB61 : BX w61.heap w18.heap.size [(.int .i64 ((3 : Nat) : Int)), (.int .i64 0), (.int .i64 0), (.int .i64 0), (.slice none 0 0)] := hB61
                      have hzs61 : w31.heap.size ≤ w61.heap.size := hC61.size
                      have hE61 : Chg [gs, gg] w w61 := hE31.fresh hC61 (fun c hc => by have := List.mem_singleton.1 hc; omega)
                      have hF62 := hs31.chg hC61 (fun c hc => by have := List.mem_singleton.1 hc; omega)
                      have hF63 := hF32.chg hC61 (fun hm => by have := List.mem_singleton.1 hm; omega)
                      have hF64 := hF33.chg hC61 (fun hm => by have := List.mem_singleton.1 hm; omega)
                      exact lw_nil ⟨(((3 : Nat) : Int), n31), _, rfl, ⟨rfl, rfl, rfl, rfl, rfl, rfl, trivial⟩, ⟨hE61, hF62, hF63, hF64, hB61, oM, oM⟩⟩
                    ·
                      refine q_eql false rfl rfl (decide_eq_false hc60) zN (lw_tvn 1 rfl (c_cond_f rfl (wp_seq (wp_plain _ [0, 0] rfl ?_))))
                      by_cases hc65 : x31_0 = ((6 : Nat) : Int)
                      ·
                        refine q_eql true rfl rfl (decide_eq_true hc65) zN (lw_tvn 1 rfl (c_cond_t rfl (wp_plain _ [0, 4] rfl (q_fldP (p := (.pointer (some ⟨w18.heap.size, 0, none⟩))) (b := w18.heap.size) (o := 0) 0 fd31_0 rfl rfl zN (e_setB (k := 0) (w := w31) sz2 rfl rfl ⟨rfl, rfl⟩ hF34 sM zN fun w66 hC66 hz66 hB66 => ?_)))))
                        replace hB66 : BX w66.heap w18.heap.size [(.int .i64 ((4 : Nat) : Int)), (.int .i64 0), (.int .i64 0), (.int .i64 0), (.slice none 0 0)] := hB66
                        have hzs66 : w31.heap.size ≤ w66.heap.size := hC66.size
                        have hE66 : Chg [gs, gg] w w66 := hE31.fresh hC66 (fun c hc => by have := List.mem_singleton.1 hc; omega)
                        have hF67 := hs31.chg hC66 (fun c hc => by have := List.mem_singleton.1 hc; omega)
                        have hF68 := hF32.chg hC66 (fun hm => by have := List.mem_singleton.1 hm; omega)
                        have hF69 := hF33.chg hC66 (fun hm => by have := List.mem_singleton.1 hm; omega)
                        exact lw_nil ⟨(((4 : Nat) : Int), n31), _, rfl, ⟨rfl, rfl, rfl, rfl, rfl, rfl, trivial⟩, ⟨hE66, hF67, hF68, hF69, hB66, oM, oM⟩⟩
                      ·
                        refine q_eql false rfl rfl (decide_eq_false hc65) zN (lw_tvn 1 rfl (c_cond_f rfl (wp_seq (wp_seq (wp_plain _ [0, 0] rfl ?_)))))
                        by_cases hc70 : x31_0 = ((7 : Nat) : Int)
                        ·
                          refine q_eql true rfl rfl (decide_eq_true hc70) zN (lw_tvn 1 rfl (c_cond_t rfl (wp_skip (c_cond_t rfl (wp_plain _ [0, 4] rfl (q_fldP (p := (.pointer (some ⟨w18.heap.size, 0, none⟩))) (b := w18.heap.size) (o := 0) 0 fd31_0 rfl rfl zN (e_setB (k := 0) (w := w31) sz2 rfl rfl ⟨rfl, rfl⟩ hF34 sM zN fun w71 hC71 hz71 hB71 => ?_)))))))
                          replace hB71 : BX w71.heap w18.heap.size [(.int .i64 ((5 : Nat) : Int)), (.int .i64 0), (.int .i64 0), (.int .i64 0), (.slice none 0 0)] := hB71
                          have hzs71 : w31.heap.size ≤ w71.heap.size := hC71.size
                          have hE71 : Chg [gs, gg] w w71 := hE31.fresh hC71 (fun c hc => by have := List.mem_singleton.1 hc; omega)
                          have hF72 := hs31.chg hC71 (fun c hc => by have := List.mem_singleton.1 hc; omega)
                          have hF73 := hF32.chg hC71 (fun hm => by have := List.mem_singleton.1 hm; omega)
                          have hF74 := hF33.chg hC71 (fun hm => by have := List.mem_singleton.1 hm; omega)
                          exact lw_nil ⟨(((5 : Nat) : Int), n31), _, rfl, ⟨rfl, rfl, rfl, rfl, rfl, rfl, trivial⟩, ⟨hE71, hF72, hF73, hF74, hB71, oM, oM⟩⟩
                        ·
                          refine q_eql false rfl rfl (decide_eq_false hc70) zN (lw_tvn 1 rfl (c_cond_f rfl (wp_seq (wp_plain _ [0, 0] rfl ?_))))
                          by_cases hc75 : x31_0 = ((8 : Nat) : Int)
                          ·
                            refine q_eql true rfl rfl (decide_eq_true hc75) zN (lw_tvn 1 rfl (c_cond_t rfl (wp_skip (c_cond_t rfl (wp_plain _ [0, 4] rfl (q_fldP (p := (.pointer (some ⟨w18.heap.size, 0, none⟩))) (b := w18.heap.size) (o := 0) 0 fd31_0 rfl rfl zN (e_setB (k := 0) (w := w31) sz2 rfl rfl ⟨rfl, rfl⟩ hF34 sM zN fun w76 hC76 hz76 hB76 => ?_)))))))
                            replace hB76 : BX w76.heap w18.heap.size [(.int .i64 ((5 : Nat) : Int)), (.int .i64 0), (.int .i64 0), (.int .i64 0), (.slice none 0 0)] := hB76
                            have hzs76 : w31.heap.size ≤ w76.heap.size := hC76.size
                            have hE76 : Chg [gs, gg] w w76 := hE31.fresh hC76 (fun c hc => by have := List.mem_singleton.1 hc; omega)
                            have hF77 := hs31.chg hC76 (fun c hc => by have := List.mem_singleton.1 hc; omega)
                            have hF78 := hF32.chg hC76 (fun hm => by have := List.mem_singleton.1 hm; omega)
                            have hF79 := hF33.chg hC76 (fun hm => by have := List.mem_singleton.1 hm; omega)
                            exact lw_nil ⟨(((5 : Nat) : Int), n31), _, rfl, ⟨rfl, rfl, rfl, rfl, rfl, rfl, trivial⟩, ⟨hE76, hF77, hF78, hF79, hB76, oM, oM⟩⟩
                          ·
                            refine q_eql false rfl rfl (decide_eq_false hc75) zN (lw_tvn 1 rfl (c_cond_f rfl (wp_plain _ [0, 0] rfl ?_)))
                            by_cases hc80 : x31_0 = ((9 : Nat) : Int)
                            ·
                              refine q_eql true rfl rfl (decide_eq_true hc80) zN (lw_tvn 1 rfl (c_cond_t rfl (wp_plain _ [0, 4] rfl (q_fldP (p := (.pointer (some ⟨w18.heap.size, 0, none⟩))) (b := w18.heap.size) (o := 0) 0 fd31_0 rfl rfl zN (e_setB (k := 0) (w := w31) sz2 rfl rfl ⟨rfl, rfl⟩ hF34 sM zN fun w81 hC81 hz81 hB81 => ?_)))))
                              replace hB81 : BX w81.heap w18.heap.size [(.int .i64 ((5 : Nat) : Int)), (.int .i64 0), (.int .i64 0), (.int .i64 0), (.slice none 0 0)] := hB81
                              have hzs81 : w31.heap.size ≤ w81.heap.size := hC81.size
                              have hE81 : Chg [gs, gg] w w81 := hE31.fresh hC81 (fun c hc => by have := List.mem_singleton.1 hc; omega)
                              have hF82 := hs31.chg hC81 (fun c hc => by have := List.mem_singleton.1 hc; omega)
                              have hF83 := hF32.chg hC81 (fun hm => by have := List.mem_singleton.1 hm; omega)
                              have hF84 := hF33.chg hC81 (fun hm => by have := List.mem_singleton.1 hm; omega)
                              exact lw_nil ⟨(((5 : Nat) : Int), n31), _, rfl, ⟨rfl, rfl, rfl, rfl, rfl, rfl, trivial⟩, ⟨hE81, hF82, hF83, hF84, hB81, oM, oM⟩⟩
                            ·
                              refine q_eql false rfl rfl (decide_eq_false hc80) zN (lw_tvn 1 rfl (c_cond_f rfl (wp_seq (wp_plain _ [0, 0, 0, 0, 4, 4] rfl (lw_tv 4 rfl (lw_callE 108 [] [] [(.pointer (some ⟨gg, 0, none⟩)), (.int .i64 vars), (.int .i64 funcs), (.int .i64 ((d : Nat) : Int))] rfl rfl cf108 zN (IH2 oM _ gg gs sv cs n31 pp dp (l0 - ((1 : Nat) : Int)) pl p (vars) (funcs) oM hs31 hF32 (hp.chg (good_rP (good_rPr dp)) hE31) _hvars _hfuncs oM oM (by exact hpr) oM oM oM) ?_))))))
                              rintro e85 w85 ⟨v85, x85, n85, l85, rfl, hC85, hs85, hb85, hB85, hO85, hr85, hG85⟩
                              refine ⟨_, rfl, ?_⟩
                              have hzs85 : w31.heap.size ≤ w85.heap.size := hC85.size
                              have hE85 : Chg [gs, gg] w w85 := hE31.trans hC85
                              have hF86 := hF33.chg hC85 (fun hm => by have := mem2 hm; omega)
                              have hF87 := hF34.chg hC85 (fun hm => by have := mem2 hm; omega)
                              refine e_setA (vs := [(.int .i64 x85.kind), (.int .i64 x85.num), (.int .i64 x85.pick), (.int .i64 x85.count), v85]) agg31 rfl rfl (by intro u hu; simp only [List.mem_cons, List.not_mem_nil, or_false] at hu; rcases hu with rfl | rfl | rfl | rfl | rfl <;> first | exact ⟨rfl, rfl⟩ | exact isSl_one hO85.isSlS) hF86 rfl rfl zN fun w88 hC88 hz88 hB88 => ?_
                              replace hB88 : BX w88.heap w.heap.size [(.int .i64 x85.kind), (.int .i64 x85.num), (.int .i64 x85.pick), (.int .i64 x85.count), v85] := hB88
                              have hzs88 : w85.heap.size ≤ w88.heap.size := hC88.size
                              have hE88 : Chg [gs, gg] w w88 := hE85.fresh hC88 (fun c hc => by have := List.mem_singleton.1 hc; omega)
                              have hF89 := hs85.chg hC88 (fun c hc => by have := List.mem_singleton.1 hc; omega)
                              have hF90 := hB85.chg hC88 (fun hm => by have := List.mem_singleton.1 hm; omega)
                              have hF91 := hF87.chg hC88 (fun hm => by have := List.mem_singleton.1 hm; omega)
                              have hF92 := hO85.chg ((good_owS (good_oEx 31 d))) hC88 (fun c hc => by have := List.mem_singleton.1 hc; omega)
                              exact lw_nil (wp_ret (b_ret (t_ret (post_retA (cs := [(.int .i64 x85.kind), (.int .i64 x85.num), (.int .i64 x85.pick), (.int .i64 x85.count), v85]) rfl agg31 rfl hB88 rfl ⟨v85, x85, n85, l85, rfl, hE88, hF89, ⟨by omega, by omega⟩, hF90, ((hF92.up (good_owS (good_oEx 31 d))).low (B' := w.heap.size) oM), hr85, (by exact GOk.up1 (by assumption))⟩))))
        ·
          clear hE0 hz1 hX1 hzs1 hE1 hz3 hC3 hzs3 hE3 hF4 hF5 hC18 hzs18 hE18 hF19 hF20 hz23 hX23 hzs23 hE23 hF19x23 hF20x23 hz26 hC26 hzs26 hE26 hF27 hF28 hF29
          rintro ⟨k, m1⟩ ρ30 w30 ⟨hE30, hL30_0, hL30_1, hL30_2, hL30_3, hkk, hm4⟩
          have hzs30 : w.heap.size ≤ w30.heap.size := hE30.size
          have hq93 := hL30_1.lt
          have hq94 := hL30_2.lt
          have hq95 := hL30_3.lt
          refine wp_seq (c_cut (S := Int) (fun (k2 : Int) => ([(0, (.pointer (some ⟨gg, 0, none⟩))), (1, (.int .i64 vars)), (2, (.int .i64 funcs)), (3, (.int .i64 ((d : Nat) : Int))), (8, (.pointer (some ⟨w.heap.size, 0, none⟩))), (9, (.pointer (some ⟨w18.heap.size, 0, none⟩)))] : List (Nat × Value))) (fun (k2 : Int) (W : World) => Chg [gs, gg] w W ∧ Src W.heap gs sv cs m1 ∧ BX W.heap gg [(.pointer (some ⟨gs, 0, none⟩)), pp, (.int .i64 (l0 - ((1 : Nat) : Int))), (.bool pl)] ∧ BX W.heap w.heap.size [(.int .i64 0), (.int .i64 0), (.int .i64 0), (.int .i64 0), (.slice none 0 0)] ∧ BX W.heap w18.heap.size [(.int .i64 k2), (.int .i64 0), (.int .i64 0), (.int .i64 0), (.slice none 0 0)] ∧ (k2 = 3 ∨ k2 = 4 ∨ k2 = 5 ∨ k2 = 6 ∨ k2 = 7 ∨ k2 = 8 ∨ k2 = 9) ∧ (pl = true → k2 ≠ 6 ∧ k2 ≠ 8)) ?_ ?_)
          ·
            refine wp_seq (wp_plain _ [0, 0, 0, 2, 0, 0, 2, 0, 0, 0, 2, 0, 0, 0] rfl (lw_tv 1 rfl (q_nil rfl zN (q_fldP (p := (.pointer (some ⟨gg, 0, none⟩))) (b := gg) (o := 0) 3 fd102_3 rfl rfl zN (q_load (p := (padd (.pointer (some ⟨gg, 0, none⟩)) 3)) (.inr rfl) (.bool (true && pl)) one4 rfl (hL30_1.ldp (i := 3) sM) zN (lw_tv 1 rfl ?_))))))
            cases hb97 : (true && pl)
            ·
              exact lw_tvn 9 rfl (c_cond_f rfl (wp_skip ⟨k, _, rfl, ⟨rfl, rfl, rfl, rfl, rfl, rfl, trivial⟩, ⟨hE30, hL30_0, hL30_1, hL30_2, hL30_3, oM, z70_2⟩⟩))
            ·
              refine q_fldP (p := (.pointer (some ⟨w18.heap.size, 0, none⟩))) (b := w18.heap.size) (o := 0) 0 fd31_0 rfl rfl (zS (e := 77) rfl rfl rfl) (q_load (p := (padd (.pointer (some ⟨w18.heap.size, 0, none⟩)) 0)) (.inr rfl) (.int .i64 k) one2 rfl (hL30_3.ldp (i := 0) sM) (zS (e := 77) rfl rfl rfl) ?_)
              by_cases hc98 : k = ((8 : Nat) : Int)
              ·
                refine q_eql true rfl rfl (decide_eq_true hc98) (zS (e := 77) rfl rfl rfl) (lw_tvn 6 rfl (c_cond_t rfl (wp_plain _ [0, 4] rfl (q_fldP (p := (.pointer (some ⟨w18.heap.size, 0, none⟩))) (b := w18.heap.size) (o := 0) 0 fd31_0 rfl rfl zN (e_setB (k := 0) (w := w30) sz2 rfl rfl ⟨rfl, rfl⟩ hL30_3 sM zN fun w99 hC99 hz99 hB99 => ?_)))))
                replace hB99 : BX w99.heap w18.heap.size [(.int .i64 ((5 : Nat) : Int)), (.int .i64 0), (.int .i64 0), (.int .i64 0), (.slice none 0 0)] := hB99
                have hzs99 : w30.heap.size ≤ w99.heap.size := hC99.size
                have hE99 : Chg [gs, gg] w w99 := hE30.fresh hC99 (fun c hc => by have := List.mem_singleton.1 hc; omega)
                have hF100 := hL30_0.chg hC99 (fun c hc => by have := List.mem_singleton.1 hc; omega)
                have hF101 := hL30_1.chg hC99 (fun hm => by have := List.mem_singleton.1 hm; omega)
                have hF102 := hL30_2.chg hC99 (fun hm => by have := List.mem_singleton.1 hm; omega)
                exact lw_nil ⟨((5 : Nat) : Int), _, rfl, ⟨rfl, rfl, rfl, rfl, rfl, rfl, trivial⟩, ⟨hE99, hF100, hF101, hF102, hB99, oM, z70_2⟩⟩
              ·
                refine q_eql false rfl rfl (decide_eq_false hc98) (zS (e := 77) rfl rfl rfl) (lw_tv 1 rfl (q_fldP (p := (.pointer (some ⟨w18.heap.size, 0, none⟩))) (b := w18.heap.size) (o := 0) 0 fd31_0 rfl rfl (zS (e := 81) rfl rfl rfl) (q_load (p := (padd (.pointer (some ⟨w18.heap.size, 0, none⟩)) 0)) (.inr rfl) (.int .i64 k) one2 rfl (hL30_3.ldp (i := 0) sM) (zS (e := 81) rfl rfl rfl) ?_)))
                by_cases hc103 : k = ((6 : Nat) : Int)
                ·
                  refine q_eql true rfl rfl (decide_eq_true hc103) (zS (e := 81) rfl rfl rfl) (lw_tvn 2 rfl (c_cond_t rfl (wp_plain _ [0, 4] rfl (q_fldP (p := (.pointer (some ⟨w18.heap.size, 0, none⟩))) (b := w18.heap.size) (o := 0) 0 fd31_0 rfl rfl zN (e_setB (k := 0) (w := w30) sz2 rfl rfl ⟨rfl, rfl⟩ hL30_3 sM zN fun w104 hC104 hz104 hB104 => ?_)))))
                  replace hB104 : BX w104.heap w18.heap.size [(.int .i64 ((5 : Nat) : Int)), (.int .i64 0), (.int .i64 0), (.int .i64 0), (.slice none 0 0)] := hB104
                  have hzs104 : w30.heap.size ≤ w104.heap.size := hC104.size
                  have hE104 : Chg [gs, gg] w w104 := hE30.fresh hC104 (fun c hc => by have := List.mem_singleton.1 hc; omega)
                  have hF105 := hL30_0.chg hC104 (fun c hc => by have := List.mem_singleton.1 hc; omega)
                  have hF106 := hL30_1.chg hC104 (fun hm => by have := List.mem_singleton.1 hm; omega)
                  have hF107 := hL30_2.chg hC104 (fun hm => by have := List.mem_singleton.1 hm; omega)
                  exact lw_nil ⟨((5 : Nat) : Int), _, rfl, ⟨rfl, rfl, rfl, rfl, rfl, rfl, trivial⟩, ⟨hE104, hF105, hF106, hF107, hB104, oM, z70_2⟩⟩
                ·
                  exact q_eql false rfl rfl (decide_eq_false hc103) (zS (e := 81) rfl rfl rfl) (lw_tvn 2 rfl (c_cond_f rfl (wp_skip ⟨k, _, rfl, ⟨rfl, rfl, rfl, rfl, rfl, rfl, trivial⟩, ⟨hE30, hL30_0, hL30_1, hL30_2, hL30_3, oM, z70_2⟩⟩)))
          ·
            clear hL30_3 hL30_2 hL30_1 hL30_0 hE30 hzs30
            rintro k2 ρ96 w96 ⟨hE96, hL96_0, hL96_1, hL96_2, hL96_3, hk2, hk6⟩
            have hzs96 : w.heap.size ≤ w96.heap.size := hE96.size
            have hq108 := hL96_1.lt
            have hq109 := hL96_2.lt
            have hq110 := hL96_3.lt
            refine wp_seq (wp_seq (wp_plain _ [0] rfl (lw_tvn 1 rfl (wp_block ?_))))
            have hknb := kn_p hk2
            refine c_loop (S := Nat × Int × Nat × Value × List Ex) (fun (⟨i, l, m, vk, xs⟩ : Nat × Int × Nat × Value × List Ex) => ([(10, (.int .i64 ((i : Nat) : Int))), (0, (.pointer (some ⟨gg, 0, none⟩))), (1, (.int .i64 vars)), (2, (.int .i64 funcs)), (3, (.int .i64 ((d : Nat) : Int))), (8, (.pointer (some ⟨w.heap.size, 0, none⟩))), (9, (.pointer (some ⟨w18.heap.size, 0, none⟩)))] : List (Nat × Value))) (fun (⟨i, l, m, vk, xs⟩ : Nat × Int × Nat × Value × List Ex) (W : World) => Chg [gs, gg] w W ∧ Fr (owS 5 (oEx 31 d) 31) w96.heap.size W.heap.size W.heap vk xs ∧ Src W.heap gs sv cs m ∧ BX W.heap gg [(.pointer (some ⟨gs, 0, none⟩)), pp, (.int .i64 l), (.bool pl)] ∧ BX W.heap w.heap.size [(.int .i64 0), (.int .i64 0), (.int .i64 0), (.int .i64 0), (.slice none 0 0)] ∧ BX W.heap w18.heap.size [(.int .i64 k2), (.int .i64 0), (.int .i64 0), (.int .i64 0), vk] ∧ ((i : Nat) : Int) ≤ kn k2 ∧ KOk p funcs vars pl k2 d (l0 - 1) l xs i ∧ (n0 ≤ m ∧ m ≤ n0 + 8 + tmN i (stp (d - 1))) ∧ gg < w96.heap.size ∧ w.heap.size < w96.heap.size ∧ w18.heap.size < w96.heap.size ∧ w96.heap.size ≤ W.heap.size) (fun (⟨i, l, m, vk, xs⟩ : Nat × Int × Nat × Value × List Ex) => (kn k2).toNat - i) (0, (l0 - ((1 : Nat) : Int)), m1, (.slice none 0 0), ([] : List Ex)) ⟨rfl, rfl, rfl, rfl, rfl, rfl, rfl, trivial⟩ ⟨hE96, (frNilS _ 0 _).up (good_owS (good_oEx 31 d)), hL96_0, hL96_1, hL96_2, hL96_3, oM, (by exact KOk.nil ..), (by exact ⟨by omega, by show _ ≤ n0 + 8 + 0; omega⟩), oM, oM, oM, oM⟩ ?_
            clear hL96_3 hL96_2 hL96_1 hL96_0
            rintro ⟨i, l, m, vk, xs⟩ ρ114 w114 ⟨hE114, hL114_0, hL114_1, hL114_2, hL114_3, hL114_4, hi4, hko, hmb, hkg111, hkg112, hkg113, hkB115⟩
            have hzs114 : w.heap.size ≤ w114.heap.size := hE114.size
            have hq116 := hL114_2.lt
            have hq117 := hL114_3.lt
            have hq118 := hL114_4.lt
            refine wp_seq (wp_seq (wp_plain _ [0, 0, 2, 0, 0] rfl (lw_tv 1 rfl (q_fldP (p := (.pointer (some ⟨w18.heap.size, 0, none⟩))) (b := w18.heap.size) (o := 0) 0 fd31_0 rfl rfl zN (q_load (p := (padd (.pointer (some ⟨w18.heap.size, 0, none⟩)) 0)) (.inr rfl) (.int .i64 k2) one2 rfl (hL114_4.ldp (i := 0) sM) zN (lw_callq 109 [] [] [(.int .i64 k2)] rfl rfl cf109 zN (.int .i64 (kn k2)) (fun wq => c_kn wq _ oM) ?_))))))
            by_cases hc120 : ((i : Nat) : Int) < kn k2
            ·
              refine q_lss true rfl rfl (decide_eq_true hc120) zN (lw_nil (c_cond_t rfl (wp_skip (wp_seq (wp_block (wp_seq (wp_plain _ [0, 0] rfl (lw_tvn 2 rfl (wp_seq (wp_seq (wp_plain _ [0, 2, 0, 0, 0, 0, 0] rfl (q_fldP (p := (.pointer (some ⟨w18.heap.size, 0, none⟩))) (b := w18.heap.size) (o := 0) 0 fd31_0 rfl rfl zN (q_load (p := (padd (.pointer (some ⟨w18.heap.size, 0, none⟩)) 0)) (.inr rfl) (.int .i64 k2) one2 rfl (hL114_4.ldp (i := 0) sM) zN ?_)))))))))))))
              by_cases hc121 : k2 = ((9 : Nat) : Int)
              ·
                refine q_eql true rfl rfl (decide_eq_true hc121) zN (lw_tv 2 rfl ?_)
                by_cases hc122 : ((i : Nat) : Int) = ((1 : Nat) : Int)
                ·
                  refine q_eql true rfl rfl (decide_eq_true hc122) (zS (e := 99) rfl rfl rfl) (lw_tvn 1 rfl (c_cond_t rfl (wp_plain _ [0, 0, 0] rfl (lw_tv 1 rfl ?_))))
                  refine q_add (vars + ((1 : Nat) : Int)) rfl rfl (w64 sD sD) zN (lw_tvn 1 rfl ?_)
                  letI : JR := jrC [gs, gg]
                  refine Jx.wp_draw _ [0, 1, 0, 0, 0, 0, 0, 3, 3, 4, 0, 4] mixed (by kernel_rfl) ?_
                  have htn := tmN_4 (k := stp (d - 1)) (i := i + 1) oM
                  have hts : tmN (i + 1) (stp (d - 1)) = tmN i (stp (d - 1)) + stp (d - 1) := rfl
                  have hti := tmI_4 (k := nds (d - 1)) (i := i) oM oM
                  have hlo := hko.lo
                  have hln := hko.len
                  refine Jx.q_fldP (p := (.pointer (some ⟨w18.heap.size, 0, none⟩))) (b := w18.heap.size) (o := 0) 4 fd31_4 rfl rfl zN (Jx.q_loadJ (p := (padd (.pointer (some ⟨w18.heap.size, 0, none⟩)) 4)) vk one29 rfl (fun wj hj => (BX.chg (w := w114.drew) (F := [gs, gg]) hL114_4 hj (fun hm => by have := mem2 hm; omega)).ldp (i := 4) sM) zN (Jx.q_move (.pointer (some ⟨gg, 0, none⟩)) rfl zN (Jx.q_move (.int .i64 (vars + ((1 : Nat) : Int))) rfl zN (Jx.q_move (.int .i64 funcs) rfl zN (Jx.q_move (.int .i64 ((d : Nat) : Int)) rfl zN (Jx.j1 (q_sub ((d - 1 : Nat) : Int) rfl rfl (by rw [w64 oM oM]; omega) zN (lw_nil ?_))))))))
                  refine Jx.lw_call 70 [] [] [(.pointer (some ⟨gg, 0, none⟩)), (.int .i64 (vars + ((1 : Nat) : Int))), (.int .i64 funcs), (.int .i64 ((d - 1 : Nat) : Int))] rfl rfl cf70 zN (IH1 (d - 1) oM _ gg gs sv cs m pp dp l pl p (vars + ((1 : Nat) : Int)) (funcs) oM hL114_1 hL114_2 (hp.chg (good_rP (good_rPr dp)) hE114.drew) oM _hfuncs oM oM (by exact hpr) oM oM oM) ?_
                  rintro e123 w123 ⟨v123, x123, n123, l123, rfl, hC123, hs123, hb123, hB123, hO123, hr123, hG123⟩
                  refine ⟨_, rfl, hC123, ?_⟩
                  replace hO123 := hO123.low (B' := w114.heap.size) (Nat.le_refl _)
                  replace hC123 := hC123.of_drew
                  have hzs123 : w114.heap.size ≤ w123.heap.size := hC123.size
                  have hE123 : Chg [gs, gg] w w123 := hE114.trans hC123
                  have hF124 := hL114_0.chg ((good_owS (good_oEx 31 d))) hC123 (fun c hc => by have := mem2 hc; omega)
                  have hF125 := hL114_3.chg hC123 (fun hm => by have := mem2 hm; omega)
                  have hF126 := hL114_4.chg hC123 (fun hm => by have := mem2 hm; omega)
                  refine Jx.tail rfl (r_oneS (cs := [(.int .i64 x123.kind), (.int .i64 x123.num), (.int .i64 x123.pick), (.int .i64 x123.count), v123]) (y := x123) (B := w114.heap.size) (good_oEx 31 d) u29 tiS31 rfl (by decide) rfl (FrN.mk1 oM hr123 hO123) oM zN fun v127 w127 hX127 hz127 hO127 => ?_)
                  have hzs127 : w123.heap.size ≤ w127.heap.size := hX127.size
                  have hE127 : Chg [gs, gg] w w127 := hE123.ext hX127
                  have hF124x127 := hF124.ext ((good_owS (good_oEx 31 d))) hX127
                  have hs123x127 := hs123.ext hX127
                  have hB123x127 := hB123.ext hX127
                  have hF125x127 := hF125.ext hX127
                  have hF126x127 := hF126.ext hX127
                  refine e_appS (v := vk) (a := v127) (good_oEx 31 d) u29 tiS31 rfl (by decide) rfl rfl hF124x127 oM hO127 oM oM oM (by unfold maxLen; omega) zN fun v128 w128 F128 hC128 hF128 hO128 => ?_
                  have hzs128 : w127.heap.size ≤ w128.heap.size := hC128.size
                  have hE128 : Chg [gs, gg] w w128 := hE127.fresh hC128 (fun c hc => by have := hF128 _ hc; omega)
                  have hF129 := hs123x127.chg hC128 (fun c hc => by have := hF128 _ hc; omega)
                  have hF130 := hB123x127.chg hC128 (fun hm => by have := hF128 _ hm; omega)
                  have hF131 := hF125x127.chg hC128 (fun hm => by have := hF128 _ hm; omega)
                  have hF132 := hF126x127.chg hC128 (fun hm => by have := hF128 _ hm; omega)
                  refine q_fldP (p := (.pointer (some ⟨w18.heap.size, 0, none⟩))) (b := w18.heap.size) (o := 0) 4 fd31_4 rfl rfl zN (e_setB (k := 4) (w := w128) sz29 rfl rfl (isSl_one hO128.isSlS) hF132 sM zN fun w133 hC133 hz133 hB133 => ?_)
                  replace hB133 : BX w133.heap w18.heap.size [(.int .i64 k2), (.int .i64 0), (.int .i64 0), (.int .i64 0), v128] := hB133
                  have hzs133 : w128.heap.size ≤ w133.heap.size := hC133.size
                  have hE133 : Chg [gs, gg] w w133 := hE128.fresh hC133 (fun c hc => by have := List.mem_singleton.1 hc; omega)
                  have hF134 := hF129.chg hC133 (fun c hc => by have := List.mem_singleton.1 hc; omega)
                  have hF135 := hF130.chg hC133 (fun hm => by have := List.mem_singleton.1 hm; omega)
                  have hF136 := hF131.chg hC133 (fun hm => by have := List.mem_singleton.1 hm; omega)
                  have hF137 := hO128.chg ((good_owS (good_oEx 31 d))) hC133 (fun c hc => by have := List.mem_singleton.1 hc; omega)
                  exact lw_nil (wp_plain _ [0, 0, 0] rfl (lw_tv 1 rfl (q_add ((i + 1 : Nat) : Int) rfl rfl (w64n oM oM) zN (lw_tvn 1 rfl ⟨((i + 1), l123, n123, v128, (xs ++ [x123])), _, rfl, ⟨rfl, rfl, rfl, rfl, rfl, rfl, rfl, trivial⟩, ⟨hE133, hF137.up (good_owS (good_oEx 31 d)), hF134, hF135, hF136, hB133, oM, z70_1, oM, oM, oM, oM, oM⟩, by first | omega | (dsimp only; omega)⟩))))
                ·
                  refine q_eql false rfl rfl (decide_eq_false hc122) (zS (e := 99) rfl rfl rfl) (lw_tvn 1 rfl (c_cond_f rfl (wp_skip ?_)))
                  letI : JR := jrC [gs, gg]
                  refine Jx.wp_draw _ [0, 1, 0, 0, 0, 0, 0, 3, 3, 4, 0, 4] mixed (by kernel_rfl) ?_
                  have htn := tmN_4 (k := stp (d - 1)) (i := i + 1) oM
                  have hts : tmN (i + 1) (stp (d - 1)) = tmN i (stp (d - 1)) + stp (d - 1) := rfl
                  have hti := tmI_4 (k := nds (d - 1)) (i := i) oM oM
                  have hlo := hko.lo
                  have hln := hko.len
                  refine Jx.q_fldP (p := (.pointer (some ⟨w18.heap.size, 0, none⟩))) (b := w18.heap.size) (o := 0) 4 fd31_4 rfl rfl zN (Jx.q_loadJ (p := (padd (.pointer (some ⟨w18.heap.size, 0, none⟩)) 4)) vk one29 rfl (fun wj hj => (BX.chg (w := w114.drew) (F := [gs, gg]) hL114_4 hj (fun hm => by have := mem2 hm; omega)).ldp (i := 4) sM) zN (Jx.q_move (.pointer (some ⟨gg, 0, none⟩)) rfl zN (Jx.q_move (.int .i64 vars) rfl zN (Jx.q_move (.int .i64 funcs) rfl zN (Jx.q_move (.int .i64 ((d : Nat) : Int)) rfl zN (Jx.j1 (q_sub ((d - 1 : Nat) : Int) rfl rfl (by rw [w64 oM oM]; omega) zN (lw_nil ?_))))))))
                  refine Jx.lw_call 70 [] [] [(.pointer (some ⟨gg, 0, none⟩)), (.int .i64 vars), (.int .i64 funcs), (.int .i64 ((d - 1 : Nat) : Int))] rfl rfl cf70 zN (IH1 (d - 1) oM _ gg gs sv cs m pp dp l pl p (vars) (funcs) oM hL114_1 hL114_2 (hp.chg (good_rP (good_rPr dp)) hE114.drew) _hvars _hfuncs oM oM (by exact hpr) oM oM oM) ?_
                  rintro e138 w138 ⟨v138, x138, n138, l138, rfl, hC138, hs138, hb138, hB138, hO138, hr138, hG138⟩
                  refine ⟨_, rfl, hC138, ?_⟩
                  replace hO138 := hO138.low (B' := w114.heap.size) (Nat.le_refl _)
                  replace hC138 := hC138.of_drew
                  have hzs138 : w114.heap.size ≤ w138.heap.size := hC138.size
                  have hE138 : Chg [gs, gg] w w138 := hE114.trans hC138
                  have hF139 := hL114_0.chg ((good_owS (good_oEx 31 d))) hC138 (fun c hc => by have := mem2 hc; omega)
                  have hF140 := hL114_3.chg hC138 (fun hm => by have := mem2 hm; omega)
                  have hF141 := hL114_4.chg hC138 (fun hm => by have := mem2 hm; omega)
                  refine Jx.tail rfl (r_oneS (cs := [(.int .i64 x138.kind), (.int .i64 x138.num), (.int .i64 x138.pick), (.int .i64 x138.count), v138]) (y := x138) (B := w114.heap.size) (good_oEx 31 d) u29 tiS31 rfl (by decide) rfl (FrN.mk1 oM hr138 hO138) oM zN fun v142 w142 hX142 hz142 hO142 => ?_)
                  have hzs142 : w138.heap.size ≤ w142.heap.size := hX142.size
                  have hE142 : Chg [gs, gg] w w142 := hE138.ext hX142
                  have hF139x142 := hF139.ext ((good_owS (good_oEx 31 d))) hX142
                  have hs138x142 := hs138.ext hX142
                  have hB138x142 := hB138.ext hX142
                  have hF140x142 := hF140.ext hX142
                  have hF141x142 := hF141.ext hX142
                  refine e_appS (v := vk) (a := v142) (good_oEx 31 d) u29 tiS31 rfl (by decide) rfl rfl hF139x142 oM hO142 oM oM oM (by unfold maxLen; omega) zN fun v143 w143 F143 hC143 hF143 hO143 => ?_
                  have hzs143 : w142.heap.size ≤ w143.heap.size := hC143.size
                  have hE143 : Chg [gs, gg] w w143 := hE142.fresh hC143 (fun c hc => by have := hF143 _ hc; omega)
                  have hF144 := hs138x142.chg hC143 (fun c hc => by have := hF143 _ hc; omega)
                  have hF145 := hB138x142.chg hC143 (fun hm => by have := hF143 _ hm; omega)
                  have hF146 := hF140x142.chg hC143 (fun hm => by have := hF143 _ hm; omega)
                  have hF147 := hF141x142.chg hC143 (fun hm => by have := hF143 _ hm; omega)
                  refine q_fldP (p := (.pointer (some ⟨w18.heap.size, 0, none⟩))) (b := w18.heap.size) (o := 0) 4 fd31_4 rfl rfl zN (e_setB (k := 4) (w := w143) sz29 rfl rfl (isSl_one hO143.isSlS) hF147 sM zN fun w148 hC148 hz148 hB148 => ?_)
                  replace hB148 : BX w148.heap w18.heap.size [(.int .i64 k2), (.int .i64 0), (.int .i64 0), (.int .i64 0), v143] := hB148
                  have hzs148 : w143.heap.size ≤ w148.heap.size := hC148.size
                  have hE148 : Chg [gs, gg] w w148 := hE143.fresh hC148 (fun c hc => by have := List.mem_singleton.1 hc; omega)
                  have hF149 := hF144.chg hC148 (fun c hc => by have := List.mem_singleton.1 hc; omega)
                  have hF150 := hF145.chg hC148 (fun hm => by have := List.mem_singleton.1 hm; omega)
                  have hF151 := hF146.chg hC148 (fun hm => by have := List.mem_singleton.1 hm; omega)
                  have hF152 := hO143.chg ((good_owS (good_oEx 31 d))) hC148 (fun c hc => by have := List.mem_singleton.1 hc; omega)
                  exact lw_nil (wp_plain _ [0, 0, 0] rfl (lw_tv 1 rfl (q_add ((i + 1 : Nat) : Int) rfl rfl (w64n oM oM) zN (lw_tvn 1 rfl ⟨((i + 1), l138, n138, v143, (xs ++ [x138])), _, rfl, ⟨rfl, rfl, rfl, rfl, rfl, rfl, rfl, trivial⟩, ⟨hE148, hF152.up (good_owS (good_oEx 31 d)), hF149, hF150, hF151, hB148, oM, z70_1, oM, oM, oM, oM, oM⟩, by first | omega | (dsimp only; omega)⟩))))
              ·
                refine q_eql false rfl rfl (decide_eq_false hc121) zN (lw_tvn 4 rfl (c_cond_f rfl (wp_skip ?_)))
                letI : JR := jrC [gs, gg]
                refine Jx.wp_draw _ [0, 1, 0, 0, 0, 0, 0, 3, 3, 4, 0, 4] mixed (by kernel_rfl) ?_
                have htn := tmN_4 (k := stp (d - 1)) (i := i + 1) oM
                have hts : tmN (i + 1) (stp (d - 1)) = tmN i (stp (d - 1)) + stp (d - 1) := rfl
                have hti := tmI_4 (k := nds (d - 1)) (i := i) oM oM
                have hlo := hko.lo
                have hln := hko.len
                refine Jx.q_fldP (p := (.pointer (some ⟨w18.heap.size, 0, none⟩))) (b := w18.heap.size) (o := 0) 4 fd31_4 rfl rfl zN (Jx.q_loadJ (p := (padd (.pointer (some ⟨w18.heap.size, 0, none⟩)) 4)) vk one29 rfl (fun wj hj => (BX.chg (w := w114.drew) (F := [gs, gg]) hL114_4 hj (fun hm => by have := mem2 hm; omega)).ldp (i := 4) sM) zN (Jx.q_move (.pointer (some ⟨gg, 0, none⟩)) rfl zN (Jx.q_move (.int .i64 vars) rfl zN (Jx.q_move (.int .i64 funcs) rfl zN (Jx.q_move (.int .i64 ((d : Nat) : Int)) rfl zN (Jx.j1 (q_sub ((d - 1 : Nat) : Int) rfl rfl (by rw [w64 oM oM]; omega) zN (lw_nil ?_))))))))
                refine Jx.lw_call 70 [] [] [(.pointer (some ⟨gg, 0, none⟩)), (.int .i64 vars), (.int .i64 funcs), (.int .i64 ((d - 1 : Nat) : Int))] rfl rfl cf70 zN (IH1 (d - 1) oM _ gg gs sv cs m pp dp l pl p (vars) (funcs) oM hL114_1 hL114_2 (hp.chg (good_rP (good_rPr dp)) hE114.drew) _hvars _hfuncs oM oM (by exact hpr) oM oM oM) ?_
                rintro e153 w153 ⟨v153, x153, n153, l153, rfl, hC153, hs153, hb153, hB153, hO153, hr153, hG153⟩
                refine ⟨_, rfl, hC153, ?_⟩
                replace hO153 := hO153.low (B' := w114.heap.size) (Nat.le_refl _)
                replace hC153 := hC153.of_drew
                have hzs153 : w114.heap.size ≤ w153.heap.size := hC153.size
                have hE153 : Chg [gs, gg] w w153 := hE114.trans hC153
                have hF154 := hL114_0.chg ((good_owS (good_oEx 31 d))) hC153 (fun c hc => by have := mem2 hc; omega)
                have hF155 := hL114_3.chg hC153 (fun hm => by have := mem2 hm; omega)
                have hF156 := hL114_4.chg hC153 (fun hm => by have := mem2 hm; omega)
                refine Jx.tail rfl (r_oneS (cs := [(.int .i64 x153.kind), (.int .i64 x153.num), (.int .i64 x153.pick), (.int .i64 x153.count), v153]) (y := x153) (B := w114.heap.size) (good_oEx 31 d) u29 tiS31 rfl (by decide) rfl (FrN.mk1 oM hr153 hO153) oM zN fun v157 w157 hX157 hz157 hO157 => ?_)
                have hzs157 : w153.heap.size ≤ w157.heap.size := hX157.size
                have hE157 : Chg [gs, gg] w w157 := hE153.ext hX157
                have hF154x157 := hF154.ext ((good_owS (good_oEx 31 d))) hX157
                have hs153x157 := hs153.ext hX157
                have hB153x157 := hB153.ext hX157
                have hF155x157 := hF155.ext hX157
                have hF156x157 := hF156.ext hX157
                refine e_appS (v := vk) (a := v157) (good_oEx 31 d) u29 tiS31 rfl (by decide) rfl rfl hF154x157 oM hO157 oM oM oM (by unfold maxLen; omega) zN fun v158 w158 F158 hC158 hF158 hO158 => ?_
                have hzs158 : w157.heap.size ≤ w158.heap.size := hC158.size
                have hE158 : Chg [gs, gg] w w158 := hE157.fresh hC158 (fun c hc => by have := hF158 _ hc; omega)
                have hF159 := hs153x157.chg hC158 (fun c hc => by have := hF158 _ hc; omega)
                have hF160 := hB153x157.chg hC158 (fun hm => by have := hF158 _ hm; omega)
                have hF161 := hF155x157.chg hC158 (fun hm => by have := hF158 _ hm; omega)
                have hF162 := hF156x157.chg hC158 (fun hm => by have := hF158 _ hm; omega)
                refine q_fldP (p := (.pointer (some ⟨w18.heap.size, 0, none⟩))) (b := w18.heap.size) (o := 0) 4 fd31_4 rfl rfl zN (e_setB (k := 4) (w := w158) sz29 rfl rfl (isSl_one hO158.isSlS) hF162 sM zN fun w163 hC163 hz163 hB163 => ?_)
                replace hB163 : BX w163.heap w18.heap.size [(.int .i64 k2), (.int .i64 0), (.int .i64 0), (.int .i64 0), v158] := hB163
                have hzs163 : w158.heap.size ≤ w163.heap.size := hC163.size
                have hE163 : Chg [gs, gg] w w163 := hE158.fresh hC163 (fun c hc => by have := List.mem_singleton.1 hc; omega)
                have hF164 := hF159.chg hC163 (fun c hc => by have := List.mem_singleton.1 hc; omega)
                have hF165 := hF160.chg hC163 (fun hm => by have := List.mem_singleton.1 hm; omega)
                have hF166 := hF161.chg hC163 (fun hm => by have := List.mem_singleton.1 hm; omega)
                have hF167 := hO158.chg ((good_owS (good_oEx 31 d))) hC163 (fun c hc => by have := List.mem_singleton.1 hc; omega)
                exact lw_nil (wp_plain _ [0, 0, 0] rfl (lw_tv 1 rfl (q_add ((i + 1 : Nat) : Int) rfl rfl (w64n oM oM) zN (lw_tvn 1 rfl ⟨((i + 1), l153, n153, v158, (xs ++ [x153])), _, rfl, ⟨rfl, rfl, rfl, rfl, rfl, rfl, rfl, trivial⟩, ⟨hE163, hF167.up (good_owS (good_oEx 31 d)), hF164, hF165, hF166, hB163, oM, z70_1, oM, oM, oM, oM, oM⟩, by first | omega | (dsimp only; omega)⟩))))
            ·
              refine q_lss false rfl rfl (decide_eq_false hc120) zN (lw_nil (c_cond_f rfl (wp_exit (t_exit (t_exit (c_exit_here (wp_seq (wp_plain _ [2, 4] rfl (q_loadA (p := (.pointer (some ⟨w18.heap.size, 0, none⟩))) (.inr rfl) [(.int .i64 k2), (.int .i64 0), (.int .i64 0), (.int .i64 0), vk] agg31 rfl (fun wq9 hw9 => LD.of_box (BX.ext (w := w114) hL114_4 hw9)) rfl zN (e_setA (vs := [(.int .i64 k2), (.int .i64 0), (.int .i64 0), (.int .i64 0), vk]) agg31 rfl rfl (by intro u hu; simp only [List.mem_cons, List.not_mem_nil, or_false] at hu; rcases hu with rfl | rfl | rfl | rfl | rfl <;> first | exact ⟨rfl, rfl⟩ | exact isSl_one hL114_0.isSlS) hL114_3 rfl rfl zN fun w168 hC168 hz168 hB168 => ?_))))))))))
              replace hB168 : BX w168.heap w.heap.size [(.int .i64 k2), (.int .i64 0), (.int .i64 0), (.int .i64 0), vk] := hB168
              have hzs168 : w114.heap.size ≤ w168.heap.size := hC168.size
              have hE168 : Chg [gs, gg] w w168 := hE114.fresh hC168 (fun c hc => by have := List.mem_singleton.1 hc; omega)
              have hF169 := hL114_0.chg ((good_owS (good_oEx 31 d))) hC168 (fun c hc => by have := List.mem_singleton.1 hc; omega)
              have hF170 := hL114_1.chg hC168 (fun c hc => by have := List.mem_singleton.1 hc; omega)
              have hF171 := hL114_2.chg hC168 (fun hm => by have := List.mem_singleton.1 hm; omega)
              have hF172 := hL114_4.chg hC168 (fun hm => by have := List.mem_singleton.1 hm; omega)
              refine lw_nil (wp_ret ?_)
              have hln := hko.len
              have htn := tmN_4 (k := stp (d - 1)) (i := i) oM
              exact post_retA (cs := [(.int .i64 k2), (.int .i64 0), (.int .i64 0), (.int .i64 0), vk]) rfl agg31 rfl hB168 rfl ⟨vk, (.mk k2 0 0 0 xs), m, l, rfl, hE168, hF170, ⟨by omega, by omega⟩, hF171, ((hF169.up (good_owS (good_oEx 31 d))).low (B' := w.heap.size) oM), (exR_mk oM oM oM oM), (by exact hko.node oM oM oM hk6 (wfN_op oM oM))⟩
      ·
        refine c_cond_t (by first | rfl | (show Value.bool _ = _; rw [hb21])) (wp_seq (wp_plain _ [0, 0, 4, 4] rfl (lw_tv 2 rfl (lw_callE 107 [] [] [(.pointer (some ⟨gg, 0, none⟩)), (.int .i64 vars)] rfl rfl cf107 zN (c_spec_l02Gen_leaf _ gg gs sv cs n18 pp dp (l0 - ((1 : Nat) : Int)) pl p (vars) oM hs18 hF19 (hp.chg (good_rP (good_rPr dp)) hE18) _hvars oM oM) ?_))))
        rintro e173 w173 ⟨x173, n173, rfl, hC173, hs173, hb173, hB173, hr173, hkd173, hG173⟩
        refine ⟨_, rfl, ?_⟩
        have hzs173 : w18.heap.size ≤ w173.heap.size := hC173.size
        have hE173 : Chg [gs, gg] w w173 := hE18.trans hC173
        have hF174 := hF20.chg hC173 (fun hm => by have := mem2 hm; omega)
        refine e_setA (vs := [(.int .i64 x173.kind), (.int .i64 x173.num), (.int .i64 x173.pick), (.int .i64 x173.count), (.slice none 0 0)]) agg31 rfl rfl z70_0 hF174 rfl rfl zN fun w175 hC175 hz175 hB175 => ?_
        replace hB175 : BX w175.heap w.heap.size [(.int .i64 x173.kind), (.int .i64 x173.num), (.int .i64 x173.pick), (.int .i64 x173.count), (.slice none 0 0)] := hB175
        have hzs175 : w173.heap.size ≤ w175.heap.size := hC175.size
        have hE175 : Chg [gs, gg] w w175 := hE173.fresh hC175 (fun c hc => by have := List.mem_singleton.1 hc; omega)
        have hF176 := hs173.chg hC175 (fun c hc => by have := List.mem_singleton.1 hc; omega)
        have hF177 := hB173.chg hC175 (fun hm => by have := List.mem_singleton.1 hm; omega)
        exact lw_nil (wp_ret (t_ret (post_retA (cs := [(.int .i64 x173.kind), (.int .i64 x173.num), (.int .i64 x173.pick), (.int .i64 x173.count), (.slice none 0 0)]) rfl agg31 rfl hB175 rfl ⟨(.slice none 0 0), x173, n173, (l0 - ((1 : Nat) : Int)), rfl, hE175, hF176, ⟨by omega, by omega⟩, hF177, (by rw [hkd173]; exact frNilS _ _ _), hr173, (by exact LOk.ok (by assumption) d)⟩)))
theorem GX_all : ∀ d, GX d ∧ (1 ≤ d → GC d) := by
  intro d
  induction d using Nat.strongRecOn with
  | _ d ih =>
    have hc : 1 ≤ d → GC d := fun h1 w gg gs sv cs n0 pp dp l0 pl p vars funcs hgg hs hB0 hp hv' hf' hv hfu hpr hd hn hl => c_spec_l02Gen_call w gg gs sv cs n0 pp dp l0 pl p vars funcs d hgg hs hB0 hp hv' hf' hv hfu hpr hd hn hl (ih (d - 1) (by omega)).1
    exact ⟨fun w gg gs sv cs n0 pp dp l0 pl p vars funcs hgg hs hB0 hp hv' hf' hv hfu hpr hd hn hl => c_spec_l02Gen_expr w gg gs sv cs n0 pp dp l0 pl p vars funcs d hgg hs hB0 hp hv' hf' hv hfu hpr hd hn hl (fun d' h => (ih d' h).1) hc, hc⟩
theorem GX_any (d : Nat) : GX d := (GX_all d).1end Go.Proofs.Ytnokbaiemimhjaa
namespace Go.Proofs.Ytnokbaiemimhjaa
open Go Go.RowKit
set_option linter.unusedVariables false
set_option linter.unusedSimpArgs false
set_option maxHeartbeats 4000000
set_option maxRecDepth 100000
attribute [local irreducible] LW
theorem c_spec_Decimal (w : World) (n : Int) (_hn : -9223372036854775808 ≤ n ∧ n ≤ 9223372036854775807) (hk : 0 ≤ n ∧ n < 10) :
    Calls Try.prog 69 #[.int .i64 n] w (fun e w' => ∃ s, e = .returned (.string s) ∧ Ext w w' ∧ s = dig n.toNat) := by
  refine calls_mk [.int .i64 n] 20 Try.func69 rfl rfl sM ?_
  have hE0 : Ext w w := Ext.refl w
  refine wp_seq (wp_plain _ [0] rfl (lw_tvn 1 rfl (wp_seq (wp_seq (wp_plain _ [0, 0] rfl (lw_tv 1 rfl ?_))))))
  by_cases hc1 : n < ((10 : Nat) : Int)
  ·
    refine q_lss true rfl rfl (decide_eq_true hc1) zN (lw_nil (c_cond_t rfl (wp_seq (wp_plain _ [0, 0, 0, 3, 2, 0] rfl (lw_tv 1 rfl ?_)))))
    refine q_add (((48 : Nat) : Int) + n) rfl rfl (w64 sD sD) zN (q_conv (IntKind.u8.wrap (((48 : Nat) : Int) + n)) u2 u5 rfl rfl zN ?_)
    refine r_one (u := (.int .u8 (IntKind.u8.wrap (((48 : Nat) : Int) + n)))) (B := w.heap.size) good_rV u22 ti5 rfl rfl (frV (w.heap.size) (w.heap.size) _ ⟨rfl, rfl⟩) (Nat.le_refl _) zN fun v2 w2 hX2 hz2 hO2 => ?_
    have hzs2 : w.heap.size ≤ w2.heap.size := hX2.size
    have hE2 : Ext w w2 := hE0.trans hX2
    exact q_byteE u22 u5 u9 rfl hO2 zN (lw_tvn 1 rfl (wp_ret (t_ret (post_ret [2] rfl (.string (⟨#[UInt8.ofNat (IntKind.u8.wrap (((48 : Nat) : Int) + n)).toNat]⟩ : ByteArray)) rfl ⟨(⟨#[UInt8.ofNat (IntKind.u8.wrap (((48 : Nat) : Int) + n)).toNat]⟩ : ByteArray), rfl, hE2, (by exact dig_eq hk.1 hk.2)⟩))))
  ·
    exact absurd hk.2 hc1
end Go.Proofs.Ytnokbaiemimhjaa
